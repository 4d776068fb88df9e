/- The contracts of rows.Last and rows.Term at rows that may be. -/
import Derived.Test.YtgmbhbhjlhpbgaaLat12
namespace Go.Proofs.Ytgmbhbhjlhpbgaa
open Go.ChangeShapes Go.WideShapes Go.ChangeAt Go.RowKit
set_option linter.unusedVariables false
set_option linter.unusedSimpArgs false
open Rw

theorem ret_ii {a b a' b' : Int} (h1 : a = a') (h2 : b = b') : Ending.returned (.tuple #[.int .i64 a, .int .i64 b]) = .returned (.tuple #[.int .i64 a', .int .i64 b']) := by rw [h1, h2]
theorem ret_ib {a a' : Int} (h1 : a = a') : Ending.returned (.tuple #[.int .i64 a, .bool true]) = .returned (.tuple #[.int .i64 a', .bool true]) := by rw [h1]
theorem head_of {r : Rw.R} (hc : Rw.chkB r = true) : Rw.headP r := by unfold Rw.chkB at hc; exact (of_decide_eq_true hc).1

set_option maxRecDepth 100000 in
set_option maxHeartbeats 1600000 in
theorem Last_c (r : Rw.R) (w : World) (hw : RWf r) (hr : RAt w r) (hc : Rw.chkB r = true) :
    Calls Try.prog 62 #[r.val] w fun e' w' => e' = .returned (.tuple #[.int .i64 (Rw.lastI r), .int .i64 (Rw.lastT r)]) ∧ Below w.heap.size w w' := by
  obtain ⟨base, term, a, n, cap, e⟩ := r
  obtain ⟨x0, x1, x2⟩ := box_cells w (.int .i64 base) (.int .i64 term) (.slice a n cap) 54
  have hb0 := (Below.refl w.heap.size w).alloc (Nat.le_refl _) (.cells #[.int .i64 base, .int .i64 term, .slice a n cap] 54)
  have hz := chkE_ok hc
  obtain ⟨g1, g2, g3, g4, _⟩ := head_of hc
  simp only at g1 g2 g3 g4
  clear hc
  have HR := Lib.hid hr
  have HW := Lib.hid hw
  clear hr hw
  unfold R.val
  simp only
  go_enter Try.func62, Try.ntmps62
  go_wp2_with fail
  refine (check_c ⟨base, term, a, n, cap, e⟩ _ HW.out (HR.out.below hb0)).mono ?_
  rw [hz]
  rintro e' w1 ⟨rfl, hb1⟩
  have y0 := (hb1.cell (p := ⟨w.heap.size, 0, none⟩) (by simp)).trans x0
  have y1 := (hb1.cell (p := ⟨w.heap.size, 1, none⟩) (by simp)).trans x1
  have y2 := (hb1.cell (p := ⟨w.heap.size, 2, none⟩) (by simp)).trans x2
  have hb2 := belowNext hb0 hb1 (Nat.le_refl _)
  clear x0 x1 x2 hb1
  go_wp2_with fail
  refine (last_c base term a n cap e w.heap.size _ g1 (by omega) g2 (HR.out.below hb2) y0 y1 y2).mono ?_
  rintro e' w2 ⟨rfl, hb3⟩
  go_wp2
  go_ret2
  exact ⟨rfl, belowNext hb2 hb3 (Nat.le_refl _)⟩

set_option maxRecDepth 100000 in
set_option maxHeartbeats 1600000 in
theorem Term_c (r : Rw.R) (k : Nat) (w : World) (hw : RWf r) (hr : RAt w r) (hc : Rw.chkB r = true) (hk : k ≤ r.n) :
    Calls Try.prog 63 #[r.val, .int .i64 (r.base + k)] w fun e' w' => e' = .returned (.tuple #[.int .i64 (Rw.tb r k), .bool true]) ∧ Below w.heap.size w w' := by
  obtain ⟨base, term, a, n, cap, e⟩ := r
  obtain ⟨x0, x1, x2⟩ := box_cells w (.int .i64 base) (.int .i64 term) (.slice a n cap) 54
  have hb0 := (Below.refl w.heap.size w).alloc (Nat.le_refl _) (.cells #[.int .i64 base, .int .i64 term, .slice a n cap] 54)
  have hz := chkE_ok hc
  obtain ⟨g1, g2, g3, g4, _⟩ := head_of hc
  simp only at g1 g2 g3 g4 hk
  have g2' : (n : Int) ≤ 4096 := by omega
  have hk' : (k : Int) ≤ (n : Int) := by omega
  clear hc
  have HR := Lib.hid hr
  have HW := Lib.hid hw
  clear hr hw
  unfold R.val
  simp only
  go_enter Try.func63, Try.ntmps63
  go_wp2_with fail
  refine (last_c base term a n cap e w.heap.size _ g1 (by omega) g2 (HR.out.below hb0) x0 x1 x2).mono ?_
  rintro e' w1 ⟨rfl, hb1⟩
  have hL : Rw.lastI ⟨base, term, a, n, cap, e⟩ = base + n := rfl
  rw [hL]
  have y0 := (hb1.cell (p := ⟨w.heap.size, 0, none⟩) (by simp)).trans x0
  have y1 := (hb1.cell (p := ⟨w.heap.size, 1, none⟩) (by simp)).trans x1
  have y2 := (hb1.cell (p := ⟨w.heap.size, 2, none⟩) (by simp)).trans x2
  have hb2 := belowNext hb0 hb1 (Nat.le_refl _)
  clear x0 x1 x2 hb1
  go_wp2_with fail
  refine (check_c ⟨base, term, a, n, cap, e⟩ _ HW.out (HR.out.below hb2)).mono ?_
  rw [hz]
  rintro e' w2 ⟨rfl, hb3⟩
  have hs1 : w.heap.size < w1.heap.size := by have := hb2.size; have := World.block_lt_of_cell? _ _ y0; simpa using this
  have z0 := (hb3.cell (p := ⟨w.heap.size, 0, none⟩) hs1).trans y0
  have z1 := (hb3.cell (p := ⟨w.heap.size, 1, none⟩) hs1).trans y1
  have z2 := (hb3.cell (p := ⟨w.heap.size, 2, none⟩) hs1).trans y2
  have hb4 := belowNext hb2 hb3 (Nat.le_refl _)
  have hrw := HR.out.below hb4
  clear y0 y1 y2 hb3 hb2
  by_cases h0 : k = 0
  · subst h0
    have ht := Lib.hid (show Rw.tb ⟨base, term, a, n, cap, e⟩ 0 = term from rfl)
    go_wp2
    go_ret2
    exact ⟨ret_ib ht.out.symm, hb4⟩
  · obtain ⟨j, rfl⟩ : ∃ j, k = j + 1 := ⟨k - 1, by omega⟩
    have hj : j < n := by omega
    have ht := Lib.hid (show Rw.tb ⟨base, term, a, n, cap, e⟩ (j + 1) = (e j).term by unfold Rw.tb; rw [if_neg (by omega)]; rfl)
    obtain ⟨b, off, ha, hb, he⟩ := hrw (by simp only; omega)
    simp only at ha
    subst ha
    obtain ⟨c0, _⟩ := he j hj
    simp only at c0
    have hj' : (j : Int) < (n : Int) := by omega
    clear he hrw
    have e0 : base + ((j : Int) + 1) - base - 1 = (j : Int) := by omega
    go_wp2
    go_ret2
    exact ⟨ret_ib ht.out.symm, hb4⟩
end Go.Proofs.Ytgmbhbhjlhpbgaa
