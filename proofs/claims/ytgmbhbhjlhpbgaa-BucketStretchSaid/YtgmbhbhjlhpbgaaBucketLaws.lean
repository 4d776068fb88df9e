/- The walks of the statements of layer 16 (bucket): each ends in 'true', and nothing that lay there is written. -/
import Derived.Test.YtgmbhbhjlhpbgaaBucket2
namespace Go.Proofs.Ytgmbhbhjlhpbgaa
open Go.ChangeShapes Go.WideShapes Go.ChangeAt Go.RowKit
set_option linter.unusedVariables false
set_option linter.unusedSimpArgs false
attribute [local go_sem] max_fold min_fold
open Bk

theorem belowNext {a b c : World} {B : Nat} (h : Below B a b) (k : Below b.heap.size b c) (hB : B ≤ a.heap.size) : Below B a c := h.trans (k.mono (Nat.le_trans hB h.size))

theorem wakes16_c (w : World) : Calls Try.prog 31 #[] w fun e w' => e = .returned (.bool true) ∧ Below w.heap.size w w' := by
  have e1 : (credit 0 500 10 0 10 == 5000) = true := by decide
  have e2 : (credit 0 500 10 7 10 == 3000) = true := by decide
  have e3 : (back 0 10 8 5 == 2000) = true := by decide
  have g1 : 5 ≤ whole 5999 := by decide
  have g2 : whole 5999 < 6 := by decide
  go_enter Try.func31, Try.ntmps31
  go_wp2_with fail
  refine (take_ok 5999 5 _ (by omega) g1 (by omega) (by omega)).mono ?_
  rintro e w' ⟨rfl, rfl⟩
  go_wp2_with fail
  refine (take_no 5999 6 _ (.inr g2) (by omega)).mono ?_
  rintro e w' ⟨rfl, rfl⟩
  go_wp2_with fail
  refine (credit_c 0 500 10 0 10 _).mono ?_
  rintro e w1 ⟨rfl, hb1⟩
  go_wp2_with fail
  refine (credit_c 0 500 10 7 10 _).mono ?_
  rintro e w2 ⟨rfl, hb2⟩
  go_wp2_with fail
  refine (back_c 0 10 8 5 _).mono ?_
  rintro e w3 ⟨rfl, hb3⟩
  go_wp2
  go_ret
  exact ⟨rfl, belowNext (belowNext hb1 hb2 (Nat.le_refl _)) hb3 (Nat.le_refl _)⟩

theorem bucketTells_walk (w : World) (a0 a1 a2 a3 : Int) (w0 : (Lit.int .i64 a0).wf = true) (w1 : (Lit.int .i64 a1).wf = true) (w2 : (Lit.int .i64 a2).wf = true) (w3 : (Lit.int .i64 a3).wf = true) :
    Calls Try.prog 5 #[.int .i64 a0, .int .i64 a1, .int .i64 a2, .int .i64 a3] w fun e w' => e = .returned (.bool true) ∧ Below w.heap.size w w' := by
  have h2 := (bounds_i64 w2).2
  clear w0 w1 w2 w3
  go_enter Try.func5, Try.ntmps5
  go_wp2_with (first | (go_at_call 32; refine (may_c _ _ _).mono ?_; rintro e w' ⟨rfl, rfl⟩) | (go_at_call 33; refine (rmay_c _ _ _).mono ?_; rintro e w' ⟨rfl, rfl⟩) | (go_at_call 34; refine (room_c _ _ _).mono ?_; rintro e w' ⟨rfl, rfl⟩) | (go_at_call 35; refine (rroom_c _ _ _).mono ?_; rintro e w' ⟨rfl, rfl⟩) | (go_at_call 36; refine (cut_c _ _ _ _).mono ?_; rintro e w' ⟨rfl, rfl⟩) | (go_at_call 37; refine (rcut_c _ _ _ _).mono ?_; rintro e w' ⟨rfl, rfl⟩) | (go_at_call 38; refine (whole_c _ _ h2).mono ?_; rintro e w' ⟨rfl, rfl⟩) | (go_at_call 39; refine (rwhole_c _ _ h2).mono ?_; rintro e w' ⟨rfl, rfl⟩) | (go_at_call 31; refine (wakes16_c _).mono ?_; rintro e w' ⟨rfl, hb⟩))
  go_ret
  exact ⟨rfl, hb⟩

theorem bucketMoves_walk (w : World) (a0 a1 a2 a3 a4 a5 : Int) (w0 : (Lit.int .i64 a0).wf = true) (w1 : (Lit.int .i64 a1).wf = true) (w2 : (Lit.int .i64 a2).wf = true) (w3 : (Lit.int .i64 a3).wf = true) (w4 : (Lit.int .i64 a4).wf = true) (w5 : (Lit.int .i64 a5).wf = true) :
    Calls Try.prog 4 #[.int .i64 a0, .int .i64 a1, .int .i64 a2, .int .i64 a3, .int .i64 a4, .int .i64 a5] w fun e w' => e = .returned (.bool true) ∧ Below w.heap.size w w' := by
  obtain ⟨h1, h2⟩ := bounds_i64 w0
  clear w0 w1 w2 w3 w4 w5
  by_cases c : 0 ≤ a5 ∧ a5 ≤ whole a0
  · obtain ⟨c1, c2⟩ := c
    go_enter Try.func4, Try.ntmps4
    go_wp2_with (first | (go_at_call 25; refine (take_ok _ _ _ c1 c2 h1 h2).mono ?_; rintro e w' ⟨rfl, rfl⟩) | (go_at_call 26; refine (rtake_ok _ _ _ c1 c2 h1 h2).mono ?_; rintro e w' ⟨rfl, rfl⟩) | (go_at_call 27; refine (credit_c _ _ _ _ _ _).mono ?_; rintro e w1 ⟨rfl, hb1⟩) | (go_at_call 28; refine (rcredit_c _ _ _ _ _ _ h2).mono ?_; rintro e w' ⟨rfl, rfl⟩) | (go_at_call 29; refine (back_c _ _ _ _ _).mono ?_; rintro e w2 ⟨rfl, hb2⟩) | (go_at_call 30; refine (rback_c _ _ _ _ _).mono ?_; rintro e w' ⟨rfl, rfl⟩) | (go_at_call 31; refine (wakes16_c _).mono ?_; rintro e w3 ⟨rfl, hb3⟩))
    go_ret
    exact ⟨rfl, belowNext (belowNext hb1 hb2 (Nat.le_refl _)) hb3 (Nat.le_refl _)⟩
  · have c' : a5 < 0 ∨ whole a0 < a5 := by omega
    have hc := Lib.hid c'
    clear c c'
    go_enter Try.func4, Try.ntmps4
    go_wp2_with (first | (go_at_call 25; refine (take_no _ _ _ hc.out h2).mono ?_; rintro e w' ⟨rfl, rfl⟩) | (go_at_call 26; refine (rtake_no _ _ _ hc.out h2).mono ?_; rintro e w' ⟨rfl, rfl⟩) | (go_at_call 27; refine (credit_c _ _ _ _ _ _).mono ?_; rintro e w1 ⟨rfl, hb1⟩) | (go_at_call 28; refine (rcredit_c _ _ _ _ _ _ h2).mono ?_; rintro e w' ⟨rfl, rfl⟩) | (go_at_call 29; refine (back_c _ _ _ _ _).mono ?_; rintro e w2 ⟨rfl, hb2⟩) | (go_at_call 30; refine (rback_c _ _ _ _ _).mono ?_; rintro e w' ⟨rfl, rfl⟩) | (go_at_call 31; refine (wakes16_c _).mono ?_; rintro e w3 ⟨rfl, hb3⟩))
    go_ret
    exact ⟨rfl, belowNext (belowNext hb1 hb2 (Nat.le_refl _)) hb3 (Nat.le_refl _)⟩

/-! ### the plain laws -/
namespace Bk
theorem cut_within (x bu o : Int) (h0 : 0 ≤ bu) (h1 : bu ≤ 1000000) (h2 : 0 ≤ o) : 0 ≤ cut x bu o ∧ (0 < cut x bu o → o ≤ bu ∧ cut x bu o + 1000 * o ≤ 1000 * bu) := by
  unfold cut room brought; omega
theorem cut_le (x bu o : Int) (h : 0 ≤ x) : cut x bu o ≤ x := by
  have := room_lo bu o
  unfold cut; unfold brought; omega
theorem brought_same {n lo hi : Int} (h : lo ≤ n) (h' : n ≤ hi) : brought n lo hi = n := by unfold brought; omega
theorem cut_cut_add (x m bu o : Int) (hx : 0 ≤ x) (hm : 0 ≤ m) : cut (cut x bu o + m) bu o = cut (x + m) bu o := by
  unfold cut; generalize room bu o = R; unfold brought; omega
end Bk

theorem bucketReturns_walk (w : World) (a0 a1 a2 a3 : Int) (w0 : (Lit.int .i64 a0).wf = true) (w1 : (Lit.int .i64 a1).wf = true) (w2 : (Lit.int .i64 a2).wf = true) (w3 : (Lit.int .i64 a3).wf = true) :
    Calls Try.prog 8 #[.int .i64 a0, .int .i64 a1, .int .i64 a2, .int .i64 a3] w fun e w' => e = .returned (.bool true) ∧ Below w.heap.size w w' := by
  obtain ⟨h1, h2⟩ := bounds_i64 w0
  clear w0 w1 w2 w3
  by_cases c1 : mayB 0 a1 = true
  · by_cases c2 : a2 < 0
    · go_enter Try.func8, Try.ntmps8
      go_wp2_with (first | (go_at_call 32; refine (may_c _ _ _).mono ?_; rintro e w' ⟨rfl, rfl⟩) | (go_at_call 31; refine (wakes16_c _).mono ?_; rintro e w3 ⟨rfl, hb3⟩))
      go_ret
      exact ⟨rfl, hb3⟩
    · by_cases c3 : a0 = cut a0 a1 a2
      · have c3' : (a0 != cut a0 a1 a2) = false := by rw [bne_eq_false_iff_eq]; exact c3
        have hr := room_hi a1 a2
        have hr0 := room_lo a1 a2
        have ha : 0 ≤ a0 ∧ a0 ≤ 1000000000 := by rw [c3]; unfold cut; generalize room a1 a2 = R at *; unfold brought; omega
        obtain ⟨ha0, ha1⟩ := ha
        by_cases c4 : 0 ≤ a3 ∧ a3 ≤ whole a0
        · obtain ⟨c5, c6⟩ := c4
          have e1 : (a0 - 1000 * a3 == a0 - 1000 * a3) = true := by simp
          have e2 : (whole (a0 - 1000 * a3) == whole a0 - a3) = true := by rw [beq_iff_eq]; unfold whole at *; omega
          have hb0 : 0 ≤ a0 - 1000 * a3 := by unfold whole at c6; omega
          have hs : a3 ≤ 1000000 := by omega
          have e3 : (back (a0 - 1000 * a3) a1 a2 a3 == a0) = true := by
            rw [beq_iff_eq]
            have : cut a0 a1 a2 = back (a0 - 1000 * a3) a1 a2 a3 := by
              unfold back
              rw [brought_same hb0 (by omega), brought_same c5 hs, show a0 - 1000 * a3 + 1000 * a3 = a0 by omega]
            rw [← this, ← c3]
          have hw : whole a0 ≤ 1000000 := by unfold whole; omega
          clear c3 hr hr0
          go_enter Try.func8, Try.ntmps8
          go_wp2_with (first | (go_at_call 32; refine (may_c _ _ _).mono ?_; rintro e w' ⟨rfl, rfl⟩) | (go_at_call 36; refine (cut_c _ _ _ _).mono ?_; rintro e w' ⟨rfl, rfl⟩) | (go_at_call 25; refine (take_ok _ _ _ c5 c6 h1 h2).mono ?_; rintro e w' ⟨rfl, rfl⟩) | (go_at_call 38; refine (whole_c _ _ (by omega)).mono ?_; rintro e w' ⟨rfl, rfl⟩) | (go_at_call 29; refine (back_c _ _ _ _ _).mono ?_; rintro e w2 ⟨rfl, hb2⟩) | (go_at_call 31; refine (wakes16_c _).mono ?_; rintro e w3 ⟨rfl, hb3⟩))
          go_ret
          exact ⟨rfl, belowNext hb2 hb3 (Nat.le_refl _)⟩
        · have c' : a3 < 0 ∨ whole a0 < a3 := by omega
          have hc := Lib.hid c'
          clear c3 hr hr0 c4
          by_cases c7 : a3 < 0
          · clear c'
            go_enter Try.func8, Try.ntmps8
            go_wp2_with (first | (go_at_call 32; refine (may_c _ _ _).mono ?_; rintro e w' ⟨rfl, rfl⟩) | (go_at_call 36; refine (cut_c _ _ _ _).mono ?_; rintro e w' ⟨rfl, rfl⟩) | (go_at_call 25; refine (take_no _ _ _ hc.out h2).mono ?_; rintro e w' ⟨rfl, rfl⟩) | (go_at_call 38; refine (whole_c _ _ h2).mono ?_; rintro e w' ⟨rfl, rfl⟩) | (go_at_call 31; refine (wakes16_c _).mono ?_; rintro e w3 ⟨rfl, hb3⟩))
            go_ret
            exact ⟨rfl, hb3⟩
          · have c8 : whole a0 < a3 := by omega
            clear c'
            go_enter Try.func8, Try.ntmps8
            go_wp2_with (first | (go_at_call 32; refine (may_c _ _ _).mono ?_; rintro e w' ⟨rfl, rfl⟩) | (go_at_call 36; refine (cut_c _ _ _ _).mono ?_; rintro e w' ⟨rfl, rfl⟩) | (go_at_call 25; refine (take_no _ _ _ hc.out h2).mono ?_; rintro e w' ⟨rfl, rfl⟩) | (go_at_call 38; refine (whole_c _ _ h2).mono ?_; rintro e w' ⟨rfl, rfl⟩) | (go_at_call 31; refine (wakes16_c _).mono ?_; rintro e w3 ⟨rfl, hb3⟩))
            go_ret
            exact ⟨rfl, hb3⟩
      · have c3' : (a0 != cut a0 a1 a2) = true := by rw [bne_iff_ne]; exact c3
        clear c3
        go_enter Try.func8, Try.ntmps8
        go_wp2_with (first | (go_at_call 32; refine (may_c _ _ _).mono ?_; rintro e w' ⟨rfl, rfl⟩) | (go_at_call 36; refine (cut_c _ _ _ _).mono ?_; rintro e w' ⟨rfl, rfl⟩) | (go_at_call 31; refine (wakes16_c _).mono ?_; rintro e w3 ⟨rfl, hb3⟩))
        go_ret
        exact ⟨rfl, hb3⟩
  · go_enter Try.func8, Try.ntmps8
    go_wp2_with (first | (go_at_call 32; refine (may_c _ _ _).mono ?_; rintro e w' ⟨rfl, rfl⟩) | (go_at_call 31; refine (wakes16_c _).mono ?_; rintro e w3 ⟨rfl, hb3⟩))
    go_ret
    exact ⟨rfl, hb3⟩
end Go.Proofs.Ytgmbhbhjlhpbgaa
