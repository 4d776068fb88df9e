/- The contract of the law's own 'rows' of layer 10: rows of terms. -/
import Derived.Test.YthahlfabcjnkhaaVote4
import Derived.Deep.RegionLaw
import Derived.Deep.AppendLies
namespace Go.Proofs.Ythahlfabcjnkhaa
open Go.ChangeShapes Go.WideShapes Go.ChangeAt Go.RowKit
set_option linter.unusedVariables false
set_option linter.unusedSimpArgs false
open Rw Vt

namespace R10
def ent (t : Int) : Ent := ⟨t, 0, 0, 0, none, 0, 0⟩
def entL (t : Int) : List Value := [.int .i64 t, .int .i8 0, .int .i64 0, .int .u8 0, .slice none 0 0]
def flat (T : Nat → Int) : Nat → List Value
  | 0 => []
  | k + 1 => flat T k ++ entL (T k)
theorem flat_len (T : Nat → Int) (k : Nat) : (flat T k).length = k * 5 := by
  induction k with
  | zero => rfl
  | succ k ih => simp [flat, entL, ih]; omega
theorem flat_at (T : Nat → Int) {n i j : Nat} (hi : i < n) (hj : j < 5) : (flat T n)[i * 5 + j]? = (entL (T i))[j]? := by
  induction n with
  | zero => omega
  | succ n ih =>
    unfold flat
    by_cases h : i < n
    · rw [List.getElem?_append_left (by rw [flat_len]; omega)]; exact ih h
    · obtain rfl : i = n := by omega
      rw [List.getElem?_append_right (by rw [flat_len]; omega), flat_len, show i * 5 + j - i * 5 = j by omega]
theorem own_ents {w : World} {base g n cap : Nat} {e : TypeId} {T : Nat → Int} (h : w.ownsRow base e 5 (.slice (some ⟨g, 0, none⟩) n cap) n (flat T n)) (i : Nat) (hi : i < n) : EntAt w g (0 + i * 5) (ent (T i)) := by
  have hc : ∀ j, j < 5 → w.cell? ⟨g, i * 5 + j, none⟩ = (entL (T i))[j]? := fun j hj => by rw [h.cellAt _ (by omega), flat_at T hi hj]
  rw [Nat.zero_add]
  exact ⟨hc 0 (by omega), hc 1 (by omega), hc 2 (by omega), hc 3 (by omega), hc 4 (by omega)⟩
theorem grow_keep {wr w1 : World} {o : Obj} {v : Value} {base size n : Nat} {e : TypeId} {xs : List Value} (hown : wr.ownsRow base e size v n xs) (hg : ((wr.alloc o).drew).grownBy w1 v.ownBlock) (b : Nat) (hb : b < base) (hl : b < wr.heap.size) :
    (∀ off, w1.cell? ⟨b, off, none⟩ = wr.cell? ⟨b, off, none⟩) ∧ (∀ off, w1.frozen? ⟨b, off, none⟩ = wr.frozen? ⟨b, off, none⟩) := by
  have hne : some b ≠ v.ownBlock := fun e => by have := (hown.lt b e.symm).1; omega
  have h : w1.heap[b]? = wr.heap[b]? := (hg.block b (by show b < (wr.heap.push o).size; simp; omega) hne).trans (Below.heap_alloc wr o b hl)
  exact ⟨fun off => World.cell?_of_block h, fun off => World.frozen?_of_block h⟩
end R10
open R10

theorem info135 : (Try.prog.info? 135).map (fun i => (i.zero, i.size, i.bytes)) = some (some (.agg #[.int .i64 0, .int .i8 0, .int .i64 0, .int .u8 0, .slice none 0 0]), 5, 56) := by kernel_rfl

set_option maxRecDepth 100000 in
set_option maxHeartbeats 3200000 in
theorem rows10_c (w0 : World) (b n cap : Nat) (T : Nat → Int) (hb : b < w0.heap.size) (hn : n ≤ 300) (hn0 : 0 < n) (hT : ∀ i, i < n → w0.cell? ⟨b, i, none⟩ = some (.int .i64 (T i))) :
    Calls Try.prog 86 #[.slice (some ⟨b, 0, none⟩) n cap] w0 fun e w' => ∃ a c, e = .returned (R.val ⟨0, 0, a, n, c, fun i => ent (T i)⟩) ∧ RAt w' ⟨0, 0, a, n, c, fun i => ent (T i)⟩ ∧ Below w0.heap.size w0 w' := by
  have HT := Lib.hid hT
  clear hT
  have hn1 : ((n : Int) ≤ 300) := by omega
  obtain ⟨i0, hi0, hz0, hz1, hz2⟩ := info_parts info135
  go_enter Try.func86, Try.ntmps86
  go_wp2_with fail
  go_loopw [4] (fun i wr => ∃ (k : Nat) (v : Value), k ≤ n ∧ i = .int .i64 k ∧ wr.ownsRow (w0.heap.size + 2) 135 5 v k (flat T k) ∧
      wr.cell? ⟨w0.heap.size + 1, 0, none⟩ = some (.int .i64 0) ∧ wr.cell? ⟨w0.heap.size + 1, 1, none⟩ = some (.int .i64 0) ∧ wr.cell? ⟨w0.heap.size + 1, 2, none⟩ = some v ∧ wr.frozen? ⟨w0.heap.size + 1, 2, none⟩ = false ∧
      (∃ u0 u1 u2, wr.cell? ⟨w0.heap.size, 0, none⟩ = some u0 ∧ wr.cell? ⟨w0.heap.size, 1, none⟩ = some u1 ∧ wr.cell? ⟨w0.heap.size, 2, none⟩ = some u2) ∧ wr.frozen? ⟨w0.heap.size, 0, none⟩ = false ∧ wr.frozen? ⟨w0.heap.size, 1, none⟩ = false ∧ wr.frozen? ⟨w0.heap.size, 2, none⟩ = false ∧
      Below w0.heap.size w0 wr ∧ w0.heap.size + 2 ≤ wr.heap.size) (fun i _ => n - (intOf i).toNat)
  case atStart =>
    refine ⟨0, .slice none 0 0, by omega, rfl, World.ownsRow_nil _ _ _ _, ?_, ?_, ?_, ?_, ⟨.int .i64 0, .int .i64 0, .slice none 0 0, ?_, ?_, ?_⟩, ?_, ?_, ?_, ?_, ?_⟩
    all_goals first
      | exact ((Below.refl _ _).alloc (Nat.le_refl _) _).alloc (by simp) _
      | exact ⟨((Below.refl _ _).alloc (Nat.le_refl _) _).alloc (by simp) _, by simp⟩
      | (go_simp; done)
  case round =>
    obtain ⟨k, v, hk, rfl, hown, r0, r1, r2, fr, ⟨u0, u1, u2, q0, q1, q2⟩, f0, f1, f2, hB, hsz⟩ := hrel
    have av : v.ownBlock ≠ some (w0.heap.size + 1) := fun e => by have := (hown.lt _ e).1; omega
    have av0 : v.ownBlock ≠ some w0.heap.size := fun e => by have := (hown.lt _ e).1; omega
    have avb : v.ownBlock ≠ some b := fun e => by have := (hown.lt _ e).1; omega
    have hvl := Lib.hid hown.lt
    by_cases hlt : k < n
    · have c0 := HT.out k hlt
      replace c0 := (hB.cell (p := ⟨b, _, none⟩) hb).trans c0
      have y2 : ∀ o, (wr.alloc o).cell? ⟨w0.heap.size + 1, 2, none⟩ = some v := fun o => (cao (by omega)).trans r2
      have hi1 : (k : Int) < (n : Int) := by omega
      have hi2 : (0 : Int) ≤ (k : Int) := by omega
      go_wp2_with fail
      go_region_law ((refine step_append_lies _ (by rfl) _ _ _ (by rfl) (w0.heap.size + 2) 135 i0 _ 5 56 Try.underlying54 hi0 hz0 hz1 hz2 rfl (by omega) v k (flat T k) (by rfl) ((hown.alloc _).drew) ⟨wr.heap.size, 0, none⟩ 1 1 (entL (T k)) (by rfl) (by rfl) (World.news_of_block (cs := #[.int .i64 (T k), .int .i8 0, .int .i64 0, .int .u8 0, .slice none 0 0]) (t := 135) (fr := (0, 0)) (heap_alloc_new wr _)) (by simp [entL, Value.oneCell']) (by omega) (by unfold maxLen; omega) (by omega) (by simp; omega) (wr.heap.size + 1) (by simp) ?_; intro gg cg w1 hown1 hgrow hat hlt1; have z2 : w1.cell? ⟨w0.heap.size + 1, 2, none⟩ = some v := (hgrow.cell_far _ (by simp; omega) (Ne.symm av)).trans ((World.cell?_of_block (w := wr) (Below.heap_alloc wr _ _ (by simp; omega))).trans r2); have zf : w1.frozen? ⟨w0.heap.size + 1, 2, none⟩ = false := (hgrow.frozen_far _ (by simp; omega) (Ne.symm av)).trans ((World.frozen?_of_block (w := wr) (Below.heap_alloc wr _ _ (by simp; omega))).trans fr)))
      all_goals
        have K1 := Lib.hid (grow_keep hown hgrow (w0.heap.size + 1) (by omega) (by omega))
        have K0 := Lib.hid (grow_keep hown hgrow w0.heap.size (by omega) (by omega))
        have hb1 : Below w0.heap.size w0 w1 := ((hB.alloc (by omega) _).drew).grown hgrow (by simp; omega) (fun q hq => by have := (hown.lt q hq).1; omega)
        have s1 : wr.heap.size ≤ w1.heap.size := by have := hgrow.size; simp at this; omega
        clear hgrow hat hlt1
        go_wp2
        go_roundw
        case rel =>
          refine ⟨k + 1, _, by omega, by go_num, ownsRow_setCell_below hown1 (by simp) _, ?_, ?_, World.cell?_setCell_same _ _ _ z2, (World.frozen?_setCell _ _ _ _).trans zf, ⟨u0, u1, u2, ?_, ?_, ?_⟩, ?_, ?_, ?_, hb1.setCell (by simp) _, by simp; omega⟩
          · exact (World.cell?_setCell_other _ _ _ _ (by simp)).trans ((K1.out.1 0).trans r0)
          · exact (World.cell?_setCell_other _ _ _ _ (by simp)).trans ((K1.out.1 1).trans r1)
          · exact (World.cell?_setCell_other _ _ _ _ (by simp)).trans ((K0.out.1 0).trans q0)
          · exact (World.cell?_setCell_other _ _ _ _ (by simp)).trans ((K0.out.1 1).trans q1)
          · exact (World.cell?_setCell_other _ _ _ _ (by simp)).trans ((K0.out.1 2).trans q2)
          · exact (World.frozen?_setCell _ _ _ _).trans ((K0.out.2 0).trans f0)
          · exact (World.frozen?_setCell _ _ _ _).trans ((K0.out.2 1).trans f1)
          · exact (World.frozen?_setCell _ _ _ _).trans ((K0.out.2 2).trans f2)
        case measure => simp [intOf]; omega
    · obtain rfl : k = n := by omega
      obtain ⟨g, cg, rfl, hg1, hg2⟩ := hown.form hn0
      go_wp2
      have hown' := hown
      obtain ⟨s0, s1, s2⟩ := set3 (.int .i64 0) (.int .i64 0) (.slice (some ⟨g, 0, none⟩) k cg) q0 q1 q2
      have hbz : Below w0.heap.size w0 (((wr.setCell ⟨w0.heap.size, 0, none⟩ (.int .i64 0)).setCell ⟨w0.heap.size, 1, none⟩ (.int .i64 0)).setCell ⟨w0.heap.size, 2, none⟩ (.slice (some ⟨g, 0, none⟩) k cg)) := ((hB.setCell (Nat.le_refl _) _).setCell (Nat.le_refl _) _).setCell (Nat.le_refl _) _
      have hoz := ownsRow_setCell_below (ownsRow_setCell_below (ownsRow_setCell_below hown (a := ⟨w0.heap.size, 0, none⟩) (by simp) (.int .i64 0)) (a := ⟨w0.heap.size, 1, none⟩) (by simp) (.int .i64 0)) (a := ⟨w0.heap.size, 2, none⟩) (by simp) (.slice (some ⟨g, 0, none⟩) k cg)
      exact bodyPost_ret (v := R.val ⟨0, 0, some ⟨g, 0, none⟩, k, cg, fun i => ent (T i)⟩) (by simp [results, Try.results86, go_sem, s0, s1, s2, R.val]) rfl ⟨some ⟨g, 0, none⟩, cg, rfl, fun _ => ⟨g, 0, rfl, by simp [World.setCell]; exact hg2, fun i hi => own_ents hoz i hi⟩, hbz⟩
end Go.Proofs.Ythahlfabcjnkhaa
