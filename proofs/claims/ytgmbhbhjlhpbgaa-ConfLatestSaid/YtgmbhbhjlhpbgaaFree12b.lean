/- The contract of conf.Free. -/
import Derived.Test.YtgmbhbhjlhpbgaaFree12
namespace Go.Proofs.Ytgmbhbhjlhpbgaa
open Go.ChangeShapes Go.WideShapes Go.ChangeAt Go.RowKit
set_option linter.unusedVariables false
set_option linter.unusedSimpArgs false
open Rw Lt
attribute [local go_sem] max_foldF min_foldF

set_option maxRecDepth 100000 in
set_option maxHeartbeats 3200000 in
theorem free_c (r : Rw.R) (s term commit : Int) (w : World) (hw : RWf r) (hr : RAt w r) :
    Calls Try.prog 47 #[r.val, .int .u8 s, .int .i64 term, .int .i64 commit] w fun e' w' => e' = .returned (.int .i64 (freeE r s term commit)) ∧ Below w.heap.size w w' := by
  obtain ⟨base, rterm, a, n, cap, e⟩ := r
  obtain ⟨x0, x1, x2⟩ := box_cells w (.int .i64 base) (.int .i64 rterm) (.slice a n cap) 54
  have hb0 := (Below.refl w.heap.size w).alloc (Nat.le_refl _) (.cells #[.int .i64 base, .int .i64 rterm, .slice a n cap] 54)
  have HR := Lib.hid hr
  have HW := Lib.hid hw
  clear hr hw
  have lc := fun u hu => latest_c ⟨base, rterm, a, n, cap, e⟩ s u HW.out hu
  cases hc : Rw.chkB ⟨base, rterm, a, n, cap, e⟩ with
  | false =>
    have hz := chkE_no hc
    have hf := Lib.hid (freeE_no (s := s) (term := term) (commit := commit) hc)
    rw [hz] at lc
    clear hc
    unfold R.val at lc ⊢
    simp only at lc ⊢
    go_enter Try.func47, Try.ntmps47
    go_wp2_with fail
    refine (lc _ (HR.out.below hb0)).mono ?_
    rintro e' w1 ⟨rfl, hb1⟩
    go_wp2
    go_ret
    exact ⟨ret_i hf.out.symm, belowNext hb0 hb1 (Nat.le_refl _)⟩
  | true =>
    have hz := chkE_ok hc
    obtain ⟨g1, g2, g3, g4, _⟩ := head_of hc
    simp only at g1 g2 g3 g4
    have g2' : (n : Int) ≤ 4096 := by omega
    rw [hz] at lc
    have ll := fun u hu => Last_c ⟨base, rterm, a, n, cap, e⟩ u HW.out hu hc
    obtain ⟨LT, hLT⟩ : ∃ x, Rw.lastT ⟨base, rterm, a, n, cap, e⟩ = x := ⟨_, rfl⟩
    rw [show Rw.lastI ⟨base, rterm, a, n, cap, e⟩ = base + n from rfl, hLT] at ll
    have tc := fun u k hu hk => Term_c ⟨base, rterm, a, n, cap, e⟩ k u HW.out hu hc hk
    clear hLT
    obtain ⟨LI, hLI⟩ : ∃ x, (latV ⟨base, rterm, a, n, cap, e⟩ s).2 = x := ⟨_, rfl⟩
    rw [hLI] at lc
    have HC := Lib.hid hc
    clear hc
    unfold R.val at lc ll tc ⊢
    simp only at lc ll tc ⊢
    have HF := Lib.hid (show commit < LI → freeE ⟨base, rterm, a, n, cap, e⟩ s term commit = 130 from fun h => freeE_busy HC.out (freeB_late (term := term) (by rw [hLI]; exact h)))
    have HT := Lib.hid (show ∀ k, LI ≤ commit → k ≤ n → freeQ ⟨base, rterm, a, n, cap, e⟩ term commit k → freeE ⟨base, rterm, a, n, cap, e⟩ s term commit = 0 from fun k h hk hq => freeE_ok HC.out (freeB_true (k := k) (by rw [hLI]; exact h) hk hq))
    have HB := Lib.hid (show (∀ k, k ≤ n → ¬ freeQ ⟨base, rterm, a, n, cap, e⟩ term commit k) → freeE ⟨base, rterm, a, n, cap, e⟩ s term commit = 130 from fun h => freeE_busy HC.out (freeB_false h))
    clear hLI
    go_enter Try.func47, Try.ntmps47
    go_wp2_with fail
    refine (lc _ (HR.out.below hb0)).mono ?_
    rintro e' w1 ⟨rfl, hb1⟩
    have y0 := (hb1.cell (p := ⟨w.heap.size, 0, none⟩) (by simp)).trans x0
    have y1 := (hb1.cell (p := ⟨w.heap.size, 1, none⟩) (by simp)).trans x1
    have y2 := (hb1.cell (p := ⟨w.heap.size, 2, none⟩) (by simp)).trans x2
    have hb2 := belowNext hb0 hb1 (Nat.le_refl _)
    clear x0 x1 x2 hb1 lc
    go_wp2_with fail
    refine (ll _ (HR.out.below hb2)).mono ?_
    rintro e' w2 ⟨rfl, hb3⟩
    have hs1 : w.heap.size < w1.heap.size := by simpa using World.block_lt_of_cell? _ _ y0
    have z0 := (hb3.cell (p := ⟨w.heap.size, 0, none⟩) hs1).trans y0
    have z1 := (hb3.cell (p := ⟨w.heap.size, 1, none⟩) hs1).trans y1
    have z2 := (hb3.cell (p := ⟨w.heap.size, 2, none⟩) hs1).trans y2
    have hb4 := belowNext hb2 hb3 (Nat.le_refl _)
    clear y0 y1 y2 hb3 hb2 ll hs1
    go_wp2_with fail
    go_loopw [14, 15, 16] (fun i t o wr => ∃ x : Int, i = .int .i64 x ∧ x ≤ base + n ∧ x ≤ commit ∧ (∀ k : Nat, k ≤ n → x < base + k → ¬ freeQ ⟨base, rterm, a, n, cap, e⟩ term commit k) ∧ (wr.cell? ⟨w.heap.size, 0, none⟩ = some (.int .i64 base) ∧ wr.cell? ⟨w.heap.size, 1, none⟩ = some (.int .i64 rterm) ∧ wr.cell? ⟨w.heap.size, 2, none⟩ = some (.slice a n cap)) ∧ Below w.heap.size w wr)
      (fun i t o _ => (intOf i + 1).toNat)
    case atStart => exact ⟨_, rfl, by omega, by omega, fun k hk h1 h2 => by have := h2.2.1; simp only at this; omega, ⟨z0, z1, z2⟩, hb4⟩
    case round =>
      clear z0 z1 z2 hb4
      obtain ⟨x, rfl, hx1, hx2, hno, ⟨z0, z1, z2⟩, hb4⟩ := hrel
      by_cases hlate : LI ≤ commit
      · by_cases hx : max base 1 ≤ x
        · obtain ⟨k, rfl⟩ : ∃ k : Nat, x = base + (k : Int) := ⟨(x - base).toNat, by omega⟩
          have hk : k ≤ n := by omega
          have tk := fun u hu => tc u k hu hk
          obtain ⟨TB, hTB⟩ : ∃ y, Rw.tb ⟨base, rterm, a, n, cap, e⟩ k = y := ⟨_, rfl⟩
          rw [hTB] at tk
          have hs2 : w.heap.size < wr.heap.size := by simpa using World.block_lt_of_cell? _ _ z0
          by_cases q : TB = term
          · have hf := Lib.hid (HT.out k hlate hk ⟨by simp only; omega, by first | omega | (simp only; omega), hTB.trans q⟩)
            clear hTB hno
            go_wp2_with fail
            refine (tk _ (HR.out.below hb4)).mono ?_
            rintro e' w5 ⟨rfl, hb5⟩
            go_wp2
            go_ret
            exact ⟨ret_i hf.out.symm, belowNext hb4 hb5 (Nat.le_refl _)⟩
          · have hno' := Lib.hid (show ∀ j : Nat, j ≤ n → base + (k : Int) - 1 < base + j → ¬ freeQ ⟨base, rterm, a, n, cap, e⟩ term commit j from fun j h1 h2 h3 => by
              by_cases hj : j = k
              · subst hj; exact q (hTB.symm.trans h3.2.2)
              · exact hno j h1 (by omega) h3)
            clear hTB hno
            go_wp2_with fail
            refine (tk _ (HR.out.below hb4)).mono ?_
            rintro e' w5 ⟨rfl, hb5⟩
            have u0 := (hb5.cell (p := ⟨w.heap.size, 0, none⟩) hs2).trans z0
            have u1 := (hb5.cell (p := ⟨w.heap.size, 1, none⟩) hs2).trans z1
            have u2 := (hb5.cell (p := ⟨w.heap.size, 2, none⟩) hs2).trans z2
            have hb6 := belowNext hb4 hb5 (Nat.le_refl _)
            go_wp2
            go_roundw
            case rel => exact ⟨_, rfl, by omega, by omega, hno'.out, ⟨u0, u1, u2⟩, hb6⟩
            case measure => simp [intOf]; omega
        · have hf := Lib.hid (HB.out (fun k hk h => hno k hk (by have := h.1; simp only at this; omega) h))
          clear hno
          go_wp2
          go_ret
          exact ⟨ret_i hf.out.symm, hb4⟩
      · have hf := Lib.hid (HF.out (by omega))
        clear hno
        go_wp2
        go_ret
        exact ⟨ret_i hf.out.symm, hb4⟩
end Go.Proofs.Ytgmbhbhjlhpbgaa
