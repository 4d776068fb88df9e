/- The contract of the law's own 'wakes' of layer 12. -/
import Derived.Test.YtgmbhbhjlhpbgaaConf6
namespace Go.Proofs.Ytgmbhbhjlhpbgaa
open Go.ChangeShapes Go.WideShapes Go.ChangeAt Go.RowKit Go.Shelf
set_option linter.unusedVariables false
set_option linter.unusedSimpArgs false
open B7 Cf Mt
attribute [local go_sem] Oper.semAt_some

namespace Cf
def sumL (l : List (Fin 7)) : Int := l.foldl (fun s x => s + ((x.val : Int) + 1)) 0
theorem sumL_snoc (l : List (Fin 7)) (x : Fin 7) : sumL (l ++ [x]) = sumL l + ((x.val : Int) + 1) := by simp [sumL]
theorem foldl_bounds (l : List (Fin 7)) (s : Int) : s ≤ l.foldl (fun s x => s + ((x.val : Int) + 1)) s ∧ l.foldl (fun s x => s + ((x.val : Int) + 1)) s ≤ s + 7 * l.length := by
  induction l generalizing s with
  | nil => simp
  | cons x l ih =>
    have h := ih (s + ((x.val : Int) + 1))
    have hx := x.isLt
    simp only [List.foldl_cons, List.length_cons]
    omega
theorem sumL_bounds (l : List (Fin 7)) : 0 ≤ sumL l ∧ sumL l ≤ 7 * l.length := by have := foldl_bounds l 0; unfold sumL; omega
theorem lt_of_heap {u : World} {k : Nat} {o : Obj} (h : u.heap[k]? = some o) : k < u.heap.size := (Array.getElem?_eq_some_iff.1 h).1
end Cf

theorem run_eql_func (f : Fn) (x y : Array Value) (u : World) : Sem.run Try.prog (binOp BinOp.eql 23 (.func f x y) .nilFunc) u = .ok (.bool false) u := by rfl
attribute [local go_sem] run_eql_func

set_option maxRecDepth 100000 in
set_option maxHeartbeats 2000000 in
theorem wakes12_c (w : World) : Calls Try.prog 24 #[] w fun e w' => e = .returned (.bool true) ∧ Below w.heap.size w w' := by
  have ca : ∀ u, Calls Try.prog 40 #[.int .u8 7, .int .i64 4] u fun e w' => e = .returned (.tuple #[.int .u8 15, .int .i64 0]) ∧ u = w' := fun u => add_c 7 (by decide) 4 u
  have c1 : ∀ u, Calls Try.prog 22 #[.int .u8 7, .int .u8 15] u fun e w' => e = .returned (.bool true) ∧ Below u.heap.size u w' := fun u => meets_c 7 15 (by decide) (by decide) u
  have c2 : ∀ u, Calls Try.prog 22 #[.int .u8 7, .int .u8 25] u fun e w' => e = .returned (.bool false) ∧ Below u.heap.size u w' := fun u => meets_c 7 25 (by decide) (by decide) u
  have c3 : ∀ u, Calls Try.prog 20 #[.int .u8 7, .int .u8 3] u fun e w' => e = .returned (.bool true) ∧ Below u.heap.size u w' := fun u => most_c 7 3 (by decide) (by decide) u
  have c4 : ∀ u, Calls Try.prog 20 #[.int .u8 7, .int .u8 4] u fun e w' => e = .returned (.bool false) ∧ Below u.heap.size u w' := fun u => most_c 7 4 (by decide) (by decide) u
  have c5 : ∀ u, Calls Try.prog 19 #[.int .u8 7] u fun e w' => e = .returned (.int .i64 3) ∧ u = w' := fun u => size_c 7 (by decide) u
  refine (callsIn_wide (n := 6)).1 ?_
  refine callsIn_of_wp_marks Try.func24 rfl trivial ?_ rfl
  simp only [Try.ntmps24, List.size_toArray, List.length_cons, List.length_nil, Nat.reduceAdd, Nat.reduceSub, Array.replicate_succ, Array.replicate_zero, List.push_toArray, List.append_toArray, List.nil_append, List.cons_append]
  gi_wp2_with (first | (refine ⟨trivial, ?_⟩; gi_at_call 40; refine (callsIn_wide.2 (ca _)).mono ?_; clear ca; rintro e w' ⟨rfl, rfl⟩) | (refine ⟨trivial, ?_⟩; gi_at_call 13; refine (callsIn_wide.2 (members_c 15 _)).mono ?_; rintro e w' ⟨rfl, rfl⟩))
  have bN := Boxed.new w 3 (.int .i64 0)
  have bS := Boxed.new (w.alloc (.cells #[.int .i64 0] 3)) 5 (.int .u8 15)
  rw [World.size_alloc] at bS
  have hB0 : Below w.heap.size w ((w.alloc (.cells #[.int .i64 0] 3)).alloc (.cells #[.int .u8 15] 5)) := ((Below.refl _ w).alloc (Nat.le_refl _) _).alloc (by simp) _
  refine wpIn_rangeFunc_ownG rfl (by omega) (gf := 49) (lb := #[.pointer (some ⟨w.heap.size + 1, 0, none⟩)]) rfl trivial (enters_of Try.func49 (by kernel_rfl) rfl)
    (members_stops 15 (by decide) (6 - 1) (by omega) (w.heap.size + 1) _ (by simp) bS.cell) keepC_t (keepC_b (by simp)) (Below.refl _ _) (fun _ => rfl)
    (fun pre W => (W.cell? ⟨w.heap.size, 0, none⟩ = some (.int .i64 (sumL pre)) ∧ W.frozen? ⟨w.heap.size, 0, none⟩ = false) ∧ Below w.heap.size w W)
    (fun _ _ _ => False)
    (OwnFrom.and (Own.from (fun st A B row hs hg hr => ⟨cell_kept hs.1 hg hr, (frozen_kept hs.1 hg hr).trans hs.2⟩) _) (ownFrom_below (Nat.le_refl _) (by simp; omega)))
    (fun _ _ _ _ _ hs _ _ => hs)
    ⟨⟨(bN.alloc _).cell, (bN.alloc _).frozen⟩, hB0⟩
    (fun x => { tmps := #[.bool false, .int .u8 15, .int .i64 0, .pointer (some ⟨w.heap.size, 0, none⟩), .func (.func 49) #[] #[.pointer (some ⟨w.heap.size + 1, 0, none⟩)], .int .i64 ((x.val : Int) + 1), .tuple #[.int .u8 15, .int .i64 0], .tuple #[.int .u8 15, .int .i64 0], .int .u8 15, .int .i64 0, .int .u8 15, .func (.func 49) #[] #[.pointer (some ⟨w.heap.size + 1, 0, none⟩)], .func (.func 49) #[] #[.pointer (some ⟨w.heap.size + 1, 0, none⟩)], .bool false, .func (.func 49) #[] #[.pointer (some ⟨w.heap.size + 1, 0, none⟩)], .int .i64 ((x.val : Int) + 1), undef, undef, undef, undef, undef, undef, undef, undef, undef, undef, undef, undef, undef, undef, undef, undef, undef, undef, undef, undef, undef, undef, undef, undef, undef, undef, undef, undef, undef, undef, undef], defers := [] }) ?assign ?body ?done ?stop
  case assign =>
    intro l x W K hK
    gi_wp2
    exact hK
  case body =>
    rintro l pre x W ⟨⟨hc, hf⟩, hB⟩ hlen
    obtain ⟨s0, s1⟩ := sumL_bounds pre
    have hx := x.isLt
    have s2 : sumL pre ≤ 49 := by omega
    gi_wp2
    exact ⟨(KeepsOthers.setCell _ _ _).from _, World.cell?_setCell_other _ _ _ _ (by simp), ⟨by rw [sumL_snoc]; exact World.cell?_setCell_same' _ _ _ (by rw [hc]; rfl), by rw [World.frozen?_setCell]; exact hf⟩, hB.setCell (p := ⟨w.heap.size, 0, none⟩) (Nat.le_refl _) _⟩
  case done =>
    rintro D ys W hD rfl ⟨⟨hc, _⟩, hB⟩ hK
    have h10 : sumL (mems 15 7) = 10 := by decide
    rw [h10] at hc
    gi_wp2_with (first | (refine ⟨trivial, ?_⟩; gi_at_call 22; refine (callsIn_wide.2 (c1 _)).mono ?_; clear c1; rintro e W1 ⟨rfl, hb1⟩) | (refine ⟨trivial, ?_⟩; gi_at_call 22; refine (callsIn_wide.2 (c2 _)).mono ?_; clear c2; rintro e W2 ⟨rfl, hb2⟩) | (refine ⟨trivial, ?_⟩; gi_at_call 20; refine (callsIn_wide.2 (c3 _)).mono ?_; clear c3; rintro e W3 ⟨rfl, hb3⟩) | (refine ⟨trivial, ?_⟩; gi_at_call 20; refine (callsIn_wide.2 (c4 _)).mono ?_; clear c4; rintro e W4 ⟨rfl, hb4⟩) | (refine ⟨trivial, ?_⟩; gi_at_call 19; refine (callsIn_wide.2 (c5 _)).mono ?_; clear c5; rintro e W5 ⟨rfl, rfl⟩))
    have q2 := hb1.trans (hb2.mono hb1.size)
    have q3 := q2.trans (hb3.mono q2.size)
    have q4 := q3.trans (hb4.mono q3.size)
    have hK4 := (q4.block D (lt_of_heap hK)).trans hK
    have hB4 := hB.trans (q4.mono hB.size)
    refine ⟨by simp, .inl ⟨_, _, rfl, run_takeDeferred hK4, ?_⟩⟩
    exact ⟨_, results_tmp rfl _ _ _, rfl, hB4.trans (belowK_b (w := w) (Nat.le_refl _) W4 D _ _ (by simp at hD; omega) hK4 rfl rfl)⟩
  case stop =>
    rintro D c pre W _ _ h _
    exact h.elim
end Go.Proofs.Ytgmbhbhjlhpbgaa
