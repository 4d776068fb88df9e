/- The contracts of conf.Meets and of the reference's, at any sets. -/
import Derived.Test.YtgmbhbhjlhpbgaaConf5
namespace Go.Proofs.Ytgmbhbhjlhpbgaa
open Go.ChangeShapes Go.WideShapes Go.ChangeAt Go.RowKit
set_option linter.unusedVariables false
set_option linter.unusedSimpArgs false
open B7 Cf Mt

namespace Cf
def meetsB (a b : Nat) : Bool := mayB a && (mayB b && decide ((cnt (a &&& b) 7 : Int) < need a (cnt (a &&& b) 7) + need b (cnt (a &&& b) 7)))
theorem may_of {a : Nat} (h : mayB a = true) : a ≠ 0 ∧ a < 128 := by unfold mayB at h; exact of_decide_eq_true h
theorem need_bounds (s both : Nat) (h : both ≤ 7) : 0 ≤ need s both ∧ need s both ≤ 20 := by have := cnt_le s 7; unfold need; omega
end Cf

theorem rmeets_c (a b : Nat) (ha : a < 256) (hb : b < 256) (w : World) :
    Calls Try.prog 23 #[.int .u8 a, .int .u8 b] w fun e w' => e = .returned (.bool (meetsB a b)) ∧ w = w' := by
  cases h1 : mayB a with
  | false =>
    have ma := rmay_c a ha w
    rw [h1] at ma
    have hm := Lib.hid (show meetsB a b = false by unfold meetsB; rw [h1]; rfl)
    clear h1
    go_enter Try.func23, Try.ntmps23
    go_wp2_with (go_at_call 17; refine ma.mono ?_; clear ma; rintro e w' ⟨rfl, rfl⟩)
    go_ret
    exact ⟨ret_bool hm.out.symm, rfl⟩
  | true =>
    cases h2 : mayB b with
    | false =>
      have ma := rmay_c a ha w
      rw [h1] at ma
      have mb := rmay_c b hb w
      rw [h2] at mb
      have hm := Lib.hid (show meetsB a b = false by unfold meetsB; rw [h1, h2]; rfl)
      clear h1 h2
      go_enter Try.func23, Try.ntmps23
      go_wp2_with (first | (go_at_call 17; refine ma.mono ?_; clear ma; rintro e w' ⟨rfl, rfl⟩) | (go_at_call 17; refine mb.mono ?_; clear mb; rintro e w' ⟨rfl, rfl⟩))
      go_ret
      exact ⟨ret_bool hm.out.symm, rfl⟩
    | true =>
      obtain ⟨a0, a1⟩ := may_of h1
      obtain ⟨b0, b1⟩ := may_of h2
      refine (rmeets_good a b a1 b1 a0 b0 w).mono ?_
      rintro e w' ⟨⟨v, rfl, hv⟩, rfl⟩
      refine ⟨ret_bool ?_, rfl⟩
      unfold meetsB
      rw [h1, h2, Bool.true_and, Bool.true_and]
      have := meets_iff a b a1 b1
      cases v with
      | true => exact (decide_eq_true (this.2 (hv.1 rfl))).symm
      | false => exact (decide_eq_false (fun h => Bool.noConfusion (hv.2 (this.1 h)))).symm

set_option maxRecDepth 100000 in
set_option maxHeartbeats 1600000 in
theorem meets_c (a b : Nat) (ha : a < 256) (hb : b < 256) (w : World) :
    Calls Try.prog 22 #[.int .u8 a, .int .u8 b] w fun e w' => e = .returned (.bool (meetsB a b)) ∧ Below w.heap.size w w' := by
  cases h1 : mayB a with
  | false =>
    have ma := may_c a ha w
    rw [h1] at ma
    have hm := Lib.hid (show meetsB a b = false by unfold meetsB; rw [h1]; rfl)
    clear h1
    go_enter Try.func22, Try.ntmps22
    go_wp2_with (go_at_call 16; refine ma.mono ?_; clear ma; rintro e w' ⟨rfl, rfl⟩)
    go_ret
    exact ⟨ret_bool hm.out.symm, Below.refl _ _⟩
  | true =>
    have ma := may_c a ha w
    rw [h1] at ma
    cases h2 : mayB b with
    | false =>
      have mb := may_c b hb w
      rw [h2] at mb
      have hm := Lib.hid (show meetsB a b = false by unfold meetsB; rw [h1, h2]; rfl)
      clear h1 h2
      go_enter Try.func22, Try.ntmps22
      go_wp2_with (first | (go_at_call 16; refine ma.mono ?_; clear ma; rintro e w' ⟨rfl, rfl⟩) | (go_at_call 16; refine mb.mono ?_; clear mb; rintro e w' ⟨rfl, rfl⟩))
      go_ret
      exact ⟨ret_bool hm.out.symm, Below.refl _ _⟩
    | true =>
      have mb := may_c b hb w
      rw [h2] at mb
      have hm := Lib.hid (show meetsB a b = decide ((cnt (a &&& b) 7 : Int) < need a (cnt (a &&& b) 7) + need b (cnt (a &&& b) 7)) by unfold meetsB; rw [h1, h2]; rfl)
      have e1 := go_and a b ha hb
      have sz := setSize_c (a &&& b) (and_lt a b ha) w
      have hl := cnt_le (a &&& b) 7
      obtain ⟨n1, n2⟩ := need_bounds a (cnt (a &&& b) 7) hl
      obtain ⟨n3, n4⟩ := need_bounds b (cnt (a &&& b) 7) hl
      clear h1 h2
      have hcell : (w.alloc (.cells #[.int .i64 (cnt (a &&& b) 7 : Nat)] 3)).cell? ⟨w.heap.size, 0, none⟩ = some (.int .i64 (cnt (a &&& b) 7 : Nat)) := by go_simp
      go_enter Try.func22, Try.ntmps22
      go_wp2_with (first | (go_at_call 16; refine ma.mono ?_; clear ma; rintro e w' ⟨rfl, rfl⟩) | (go_at_call 16; refine mb.mono ?_; clear mb; rintro e w' ⟨rfl, rfl⟩) | (go_at_call 52; refine sz.mono ?_; clear sz; rintro e w' ⟨rfl, rfl⟩))
      have hBW := (Below.refl w.heap.size w).alloc (Nat.le_refl _) (.cells #[.int .i64 (cnt (a &&& b) 7 : Nat)] 3)
      generalize (w.alloc (.cells #[.int .i64 (cnt (a &&& b) 7 : Nat)] 3)) = W at hcell hBW ⊢
      go_quiet ((go_at_call 53; exact need_q _ _ _ (by first | exact ha | exact hb) hl W _ hcell))
      go_wp2
      go_ret
      exact ⟨ret_bool hm.out.symm, below_drewN hBW nq⟩
end Go.Proofs.Ytgmbhbhjlhpbgaa
