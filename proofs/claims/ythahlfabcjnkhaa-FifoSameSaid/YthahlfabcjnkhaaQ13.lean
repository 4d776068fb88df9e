/- No queue tells nothing. -/
import Derived.Test.YthahlfabcjnkhaaQ12
import Derived.Test.YthahlfabcjnkhaaPk3
namespace Go.Proofs.Ythahlfabcjnkhaa
open Go.ChangeShapes Go.WideShapes Go.ChangeAt Go.RowKit Go.Shelf
set_option linter.unusedVariables false
set_option linter.unusedSimpArgs false
open Pk BigFrame Fq
attribute [local go_sem] Oper.semAt_some eql_fn147

set_option maxRecDepth 100000 in
set_option maxHeartbeats 4000000 in
theorem told_none (w : World) :
    Calls Try.prog 69 #[.pointer none, .slice none 0 0, .int .i64 0] w fun e w' => e = .returned (.bool true) ∧ Below w.heap.size w w' := by
  refine (callsIn_wide (n := 6)).1 ?_
  refine callsIn_of_wp_marks Try.func69 rfl trivial ?_ rfl
  simp only [Try.ntmps69, List.size_toArray, List.length_cons, List.length_nil, Nat.reduceAdd, Nat.reduceSub, Array.replicate_succ, Array.replicate_zero, List.push_toArray, List.append_toArray, List.nil_append, List.cons_append]
  gi_wp2_with (refine ⟨trivial, ?_⟩; gi_at_call 114; refine (callsIn_wide.2 (all_c _ rfl _)).mono ?_; rintro e w' ⟨rfl, rfl⟩)
  have hB0 : Below w.heap.size w (((((w.alloc (.cells #[.slice none 0 0] 101)).alloc (.cells #[.int .i64 0] 3)).alloc (.cells #[.bool false] 4)).alloc (.cells #[.int .i64 0] 3)).alloc (.cells #[.pointer none] 83)) := (((((Below.refl _ w).alloc (Nat.le_refl _) _).alloc (by simp) _).alloc (by simp; omega) _).alloc (by simp; omega) _).alloc (by simp; omega) _
  have hI0 : ((((((w.alloc (.cells #[.slice none 0 0] 101)).alloc (.cells #[.int .i64 0] 3)).alloc (.cells #[.bool false] 4)).alloc (.cells #[.int .i64 0] 3)).alloc (.cells #[.pointer none] 83)).cell? ⟨w.heap.size, 0, none⟩ = some (.slice none 0 0) ∧ (((((w.alloc (.cells #[.slice none 0 0] 101)).alloc (.cells #[.int .i64 0] 3)).alloc (.cells #[.bool false] 4)).alloc (.cells #[.int .i64 0] 3)).alloc (.cells #[.pointer none] 83)).cell? ⟨w.heap.size + 1, 0, none⟩ = some (.int .i64 0) ∧ (((((w.alloc (.cells #[.slice none 0 0] 101)).alloc (.cells #[.int .i64 0] 3)).alloc (.cells #[.bool false] 4)).alloc (.cells #[.int .i64 0] 3)).alloc (.cells #[.pointer none] 83)).cell? ⟨w.heap.size + 1 + 1, 0, none⟩ = some (.bool false) ∧ (((((w.alloc (.cells #[.slice none 0 0] 101)).alloc (.cells #[.int .i64 0] 3)).alloc (.cells #[.bool false] 4)).alloc (.cells #[.int .i64 0] 3)).alloc (.cells #[.pointer none] 83)).frozen? ⟨w.heap.size + 1 + 1, 0, none⟩ = false ∧ (((((w.alloc (.cells #[.slice none 0 0] 101)).alloc (.cells #[.int .i64 0] 3)).alloc (.cells #[.bool false] 4)).alloc (.cells #[.int .i64 0] 3)).alloc (.cells #[.pointer none] 83)).cell? ⟨w.heap.size + 1 + 1 + 1, 0, none⟩ = some (.int .i64 0)) := ⟨by go_simp, by go_simp, by go_simp, by go_simp, by go_simp⟩
  have hS0 : (((((w.alloc (.cells #[.slice none 0 0] 101)).alloc (.cells #[.int .i64 0] 3)).alloc (.cells #[.bool false] 4)).alloc (.cells #[.int .i64 0] 3)).alloc (.cells #[.pointer none] 83)).cell? ⟨w.heap.size + 1 + 1 + 1 + 1, 0, none⟩ = some (.pointer none) := by go_simp
  have hZ0 : (((((w.alloc (.cells #[.slice none 0 0] 101)).alloc (.cells #[.int .i64 0] 3)).alloc (.cells #[.bool false] 4)).alloc (.cells #[.int .i64 0] 3)).alloc (.cells #[.pointer none] 83)).heap.size = w.heap.size + 1 + 1 + 1 + 1 + 1 := by simp
  generalize (((((w.alloc (.cells #[.slice none 0 0] 101)).alloc (.cells #[.int .i64 0] 3)).alloc (.cells #[.bool false] 4)).alloc (.cells #[.int .i64 0] 3)).alloc (.cells #[.pointer none] 83)) = W0 at hB0 hI0 hS0 hZ0 ⊢
  refine wpIn_rangeFunc_ownG rfl (by omega) (gf := 127) (lb := #[.pointer (some ⟨w.heap.size + 1 + 1 + 1 + 1, 0, none⟩)]) rfl trivial (enters_of Try.func127 (by kernel_rfl) rfl)
    (all_none (6 - 1) (by omega) (w.heap.size + 1 + 1 + 1 + 1) W0 (by omega) hS0) (fun _ _ => trivial) (fun _ _ _ _ _ _ _ _ => trivial) (Below.refl _ _) (fun x => x.elim)
    (fun _ W => (W.cell? ⟨w.heap.size, 0, none⟩ = some (.slice none 0 0) ∧ W.cell? ⟨w.heap.size + 1, 0, none⟩ = some (.int .i64 0) ∧ W.cell? ⟨w.heap.size + 1 + 1, 0, none⟩ = some (.bool false) ∧ W.frozen? ⟨w.heap.size + 1 + 1, 0, none⟩ = false ∧ W.cell? ⟨w.heap.size + 1 + 1 + 1, 0, none⟩ = some (.int .i64 0)) ∧ Below w.heap.size w W)
    (fun _ _ _ => False)
    (OwnFrom.and (Own.from (fun st A B row h hg hr => ⟨cell_kept h.1 hg hr, cell_kept h.2.1 hg hr, cell_kept h.2.2.1 hg hr, (frozen_kept h.2.2.1 hg hr).trans h.2.2.2.1, cell_kept h.2.2.2.2 hg hr⟩) _) (ownFrom_below (Nat.le_refl _) (by omega)))
    (fun _ _ _ _ _ hs _ _ => hs)
    ⟨hI0, hB0⟩
    (fun x => x.elim) (fun l x => x.elim) (fun l pre x => x.elim) ?done ?stop
  case done =>
    rintro D ys W hD rfl ⟨⟨i1, i2, i3, i4, i5⟩, hB⟩ hK
    gi_wp2
    have hK' := heap_setCell ⟨w.heap.size + 1 + 1, 0, none⟩ (.bool true) hK rfl
    have hr0 : (W.setCell ⟨w.heap.size + 1 + 1, 0, none⟩ (.bool true)).cell? ⟨w.heap.size + 1 + 1, 0, none⟩ = some (.bool true) := World.cell?_setCell_same _ _ _ i3
    have hB' := hB.setCell (p := ⟨w.heap.size + 1 + 1, 0, none⟩) (by simp only; omega) (.bool true)
    refine ⟨by simp, .inl ⟨_, _, rfl, run_takeDeferred hK', ?_⟩⟩
    have hc5 := cell_kept hr0 (grownBy_putObj' _ D (.deferred none)) (fun r e => by cases e; exact ⟨_, hK', rfl⟩)
    refine ⟨.bool true, ?_, rfl, hB'.trans (belowK_b (w := w) (Nat.le_refl _) _ D _ _ (by omega) hK' rfl rfl)⟩
    simp [results, Try.results69, go_sem, hc5]
  case stop =>
    rintro D c pre W _ _ h _
    exact h.elim
end Go.Proofs.Ythahlfabcjnkhaa
