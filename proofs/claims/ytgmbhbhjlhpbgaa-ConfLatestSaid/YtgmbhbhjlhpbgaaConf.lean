/- The contracts of conf's plain functions and of its reference's: each as one walk. -/
import Derived.Test.YtgmbhbhjlhpbgaaBits7
import Derived.Test.YtgmbhbhjlhpbgaaRows
import Derived.Test.YtgmbhbhjlhpbgaaShelf
import Derived.WalkKit
import Derived.ProofKit
import Derived.OpenShut
import Derived.WalkSpells
import Derived.WalkLawsBesides
import Derived.WalkSmall
import Derived.BigQuiet
import Derived.Deep.QuietTactic
import Derived.Outline
import Derived.Laws.ShiftsVarLaws
namespace Go.Proofs.Ytgmbhbhjlhpbgaa
open Go.ChangeShapes Go.WideShapes Go.ChangeAt Go.RowKit
set_option linter.unusedVariables false
set_option linter.unusedSimpArgs false
open B7

namespace Cf
theorem ret_bool {a b : Bool} (h : a = b) : Ending.returned (.bool a) = .returned (.bool b) := by rw [h]
theorem ret_int {a b : Int} (h : a = b) : Ending.returned (.int .i64 a) = .returned (.int .i64 b) := by rw [h]
theorem ival {a b : Int} (h : a = b) : Value.int .i64 a = Value.int .i64 b := by rw [h]
def hasB (s : Nat) (n : Int) : Bool := decide (1 ≤ n ∧ n ≤ 7) && (nb s (n - 1).toNat == 1)
theorem hasB_in (s j : Nat) (h : j < 7) : hasB s ((j : Int) + 1) = decide ((nb s j : Int) = 1) := by
  unfold hasB; rw [decide_eq_true (show 1 ≤ (j : Int) + 1 ∧ (j : Int) + 1 ≤ 7 by omega), show ((j : Int) + 1 - 1).toNat = j by omega, Bool.true_and]; by_cases g : nb s j = 1
  · rw [g]; rfl
  · rw [decide_eq_false (by omega)]; exact beq_eq_false_iff_ne.2 g
theorem hasB_out (s : Nat) (n : Int) (h : ¬ (1 ≤ n ∧ n ≤ 7)) : hasB s n = false := by unfold hasB; rw [decide_eq_false h]; rfl
theorem cnt_step_in (s j : Nat) (h : nb s j = 1) : cnt s (j + 1) = cnt s j + 1 := by simp [cnt, h]
theorem cnt_step_out (s j : Nat) (h : ¬ nb s j = 1) : cnt s (j + 1) = cnt s j := by have := nb_le s j; simp only [cnt]; omega
theorem ones_cnt' : ∀ n : Fin 256, Lib.onesCount (n.val &&& 127) = cnt n.val 7 := by decide +kernel
theorem ones_cnt (s : Nat) (hs : s < 256) : Lib.onesCount (s &&& 127) = cnt s 7 := ones_cnt' ⟨s, hs⟩
theorem and128' : ∀ n : Fin 256, (n.val &&& 128 = 0 ↔ n.val < 128) := by decide +kernel
theorem and128 (s : Nat) (hs : s < 256) : (s &&& 128 = 0 ↔ s < 128) := and128' ⟨s, hs⟩
def mayB (s : Nat) : Bool := decide (s ≠ 0 ∧ s < 128)
theorem rmay_go (s : Nat) : ((s : Int) != 0 && (s : Int) / 128 == 0) = mayB s := by
  unfold mayB
  by_cases h0 : s = 0
  · subst h0; rfl
  · rw [bne_iff_ne.2 (show (s : Int) ≠ 0 by omega), Bool.true_and]
    by_cases h1 : s < 128
    · rw [decide_eq_true ⟨h0, h1⟩]; exact beq_iff_eq.2 (by omega)
    · rw [decide_eq_false (fun h => h1 h.2)]; exact beq_eq_false_iff_ne.2 (by omega)
end Cf
open Cf

theorem setSize_c (s : Nat) (hs : s < 256) (w : World) :
    Calls Try.prog 52 #[.int .u8 s] w fun e w' => e = .returned (.int .i64 (cnt s 7 : Nat)) ∧ w = w' := by
  have e1 := u8_and_nat s 127 hs (by decide)
  have hl := and_lt s 127 hs
  have hc := Try.bits_OnesCount8 ((s &&& 127 : Nat) : Int) w (by omega) (by omega)
  rw [Int.toNat_natCast, ones_cnt s hs] at hc
  have e2 : bits BinOp.and IntKind.u8 (s : Int) 127 = ((s &&& 127 : Nat) : Int) := e1
  have hc2 : Calls Try.prog 64 #[.int .u8 (bits BinOp.and IntKind.u8 (s : Int) 127)] w fun e w' => e = .returned (.int .i64 (cnt s 7 : Nat)) ∧ w' = w := by rw [e2]; exact hc
  clear e1 e2 hc
  go_enter Try.func52, Try.ntmps52
  go_wp2_with (go_at_call 64; refine hc2.mono ?_; rintro e w' ⟨rfl, rfl⟩)
  go_ret
  exact ⟨rfl, rfl⟩
theorem size_c (s : Nat) (hs : s < 256) (w : World) :
    Calls Try.prog 19 #[.int .u8 s] w fun e w' => e = .returned (.int .i64 (cnt s 7 : Nat)) ∧ w = w' := by
  go_enter Try.func19, Try.ntmps19
  go_wp2_with (go_at_call 52; refine (setSize_c s hs _).mono ?_; rintro e w' ⟨rfl, rfl⟩)
  go_ret
  exact ⟨rfl, rfl⟩
theorem setMay_c (s : Nat) (hs : s < 256) (w : World) :
    Calls Try.prog 51 #[.int .u8 s] w fun e w' => e = .returned (.bool (mayB s)) ∧ w = w' := by
  have e1 : bits BinOp.andNot IntKind.u8 (s : Int) 127 = ((s &&& 128 : Nat) : Int) := u8_andNot_nat s 127 hs (by decide)
  have h8 := and128 s hs
  by_cases h0 : s = 0
  · subst h0
    go_enter Try.func51, Try.ntmps51
    go_wp2
    go_ret
    exact ⟨by rfl, rfl⟩
  · have hm := Lib.hid (show mayB s = decide (s < 128) by unfold mayB; exact decide_eq_decide.2 ⟨fun h => h.2, fun h => ⟨h0, h⟩⟩)
    by_cases h1 : s < 128
    · have e2 : bits BinOp.andNot IntKind.u8 (s : Int) 127 = 0 := by rw [e1, h8.2 h1]; rfl
      clear e1 h8
      go_enter Try.func51, Try.ntmps51
      go_wp2
      go_ret
      exact ⟨ret_bool (by rw [hm.out, decide_eq_true h1]; exact bne_iff_ne.2 (by omega)), rfl⟩
    · have e2 : ¬ bits BinOp.andNot IntKind.u8 (s : Int) 127 = 0 := by rw [e1]; intro h; exact h1 (h8.1 (by omega))
      clear e1 h8
      go_enter Try.func51, Try.ntmps51
      go_wp2
      go_ret
      exact ⟨ret_bool (by rw [hm.out, decide_eq_false h1, beq_eq_false_iff_ne.2 e2, Bool.and_false]), rfl⟩
theorem may_c (s : Nat) (hs : s < 256) (w : World) :
    Calls Try.prog 16 #[.int .u8 s] w fun e w' => e = .returned (.bool (mayB s)) ∧ w = w' := by
  go_enter Try.func16, Try.ntmps16
  go_wp2_with (go_at_call 51; refine (setMay_c s hs _).mono ?_; rintro e w' ⟨rfl, rfl⟩)
  go_ret
  exact ⟨rfl, rfl⟩
theorem rmay_c (s : Nat) (hs : s < 256) (w : World) :
    Calls Try.prog 17 #[.int .u8 s] w fun e w' => e = .returned (.bool (mayB s)) ∧ w = w' := by
  go_enter Try.func17, Try.ntmps17
  go_wp2
  all_goals go_ret
  all_goals (first | exact ⟨ret_bool (rmay_go s), rfl⟩ | (refine ⟨ret_bool ?_, rfl⟩; unfold mayB; symm; apply decide_eq_false; omega))

theorem setHas_c (s : Nat) (hs : s < 256) (n : Int) (w : World) :
    Calls Try.prog 50 #[.int .u8 s, .int .i64 n] w fun e w' => e = .returned (.bool (hasB s n)) ∧ w = w' := by
  by_cases h : 1 ≤ n ∧ n ≤ 7
  · obtain ⟨j, rfl⟩ : ∃ j : Nat, n = (j : Int) + 1 := ⟨(n - 1).toNat, by omega⟩
    have e2 := go_bit s j hs
    have hh := Lib.hid (hasB_in s j (by omega))
    obtain ⟨h1, h2⟩ := h
    have h3 : (j : Int) ≤ 6 := by omega
    go_enter Try.func50, Try.ntmps50
    go_wp2
    all_goals go_ret
    all_goals exact ⟨ret_bool hh.out.symm, rfl⟩
  · have hh := Lib.hid (hasB_out s n h)
    rcases Decidable.not_and_iff_not_or_not.1 h with h | h
    all_goals
      go_enter Try.func50, Try.ntmps50
      go_wp2
      all_goals go_ret
      all_goals exact ⟨ret_bool hh.out.symm, rfl⟩
theorem has_c (s : Nat) (hs : s < 256) (n : Int) (w : World) :
    Calls Try.prog 18 #[.int .u8 s, .int .i64 n] w fun e w' => e = .returned (.bool (hasB s n)) ∧ w = w' := by
  go_enter Try.func18, Try.ntmps18
  go_wp2_with (go_at_call 50; refine (setHas_c s hs _ _).mono ?_; rintro e w' ⟨rfl, rfl⟩)
  go_ret
  exact ⟨rfl, rfl⟩
theorem rhas_c (s : Nat) (hs : s < 256) (n : Int) (w : World) :
    Calls Try.prog 14 #[.int .u8 s, .int .i64 n] w fun e w' => e = .returned (.bool (hasB s n)) ∧ w = w' := by
  by_cases h : 1 ≤ n ∧ n ≤ 7
  · obtain ⟨j, rfl⟩ : ∃ j : Nat, n = (j : Int) + 1 := ⟨(n - 1).toNat, by omega⟩
    have e2 := go_bit s j hs
    have hh := Lib.hid (hasB_in s j (by omega))
    obtain ⟨h1, h2⟩ := h
    have h3 : (j : Int) ≤ 6 := by omega
    go_enter Try.func14, Try.ntmps14
    go_wp2
    all_goals go_ret
    all_goals exact ⟨ret_bool hh.out.symm, rfl⟩
  · have hh := Lib.hid (hasB_out s n h)
    rcases Decidable.not_and_iff_not_or_not.1 h with h | h
    all_goals
      go_enter Try.func14, Try.ntmps14
      go_wp2
      all_goals go_ret
      all_goals exact ⟨ret_bool hh.out.symm, rfl⟩

set_option maxHeartbeats 1600000 in
theorem rsize_c (s : Nat) (hs : s < 256) (w : World) :
    Calls Try.prog 15 #[.int .u8 s] w fun e w' => e = .returned (.int .i64 (cnt s 7 : Nat)) ∧ w = w' := by
  go_enter Try.func15, Try.ntmps15
  go_wp2
  go_loopw [3, 4] (fun n i wr => ∃ j : Nat, j ≤ 7 ∧ n = .int .i64 (cnt s j : Nat) ∧ i = .int .i64 ((j : Int) + 1) ∧ w = wr) (fun n i _ => 8 - (intOf i).toNat)
  case atStart => exact ⟨0, by omega, rfl, rfl, rfl⟩
  case round =>
    obtain ⟨j, hj, rfl, rfl, rfl⟩ := hrel
    have b1 := cnt_le s j
    by_cases hlt : j < 7
    · have hx := hasB_in s j hlt
      have cs := rhas_c s hs ((j : Int) + 1) w
      by_cases g1 : nb s j = 1
      · rw [show hasB s ((j : Int) + 1) = true by rw [hx, g1]; rfl] at cs
        have k1 := Lib.hid (cnt_step_in s j g1)
        clear hx g1
        go_wp2_with (go_at_call 14; refine cs.mono ?_; clear cs; rintro e w' ⟨rfl, rfl⟩)
        go_roundw
        case rel => exact ⟨j + 1, by omega, ival (by have := k1.out; omega), by simp, by trivial⟩
        case measure => simp [intOf]; omega
      · rw [show hasB s ((j : Int) + 1) = false by rw [hx, decide_eq_false (by omega)]] at cs
        have k1 := Lib.hid (cnt_step_out s j g1)
        clear hx g1
        go_wp2_with (go_at_call 14; refine cs.mono ?_; clear cs; rintro e w' ⟨rfl, rfl⟩)
        go_roundw
        case rel => exact ⟨j + 1, by omega, ival (by have := k1.out; omega), by simp, by trivial⟩
        case measure => simp [intOf]; omega
    · obtain rfl : j = 7 := by omega
      go_wp2
      go_ret
      exact ⟨rfl, rfl⟩
theorem rmost_c (s y : Nat) (hs : s < 256) (hy : y < 256) (w : World) :
    Calls Try.prog 21 #[.int .u8 s, .int .u8 y] w fun e w' => e = .returned (.bool (decide (cnt s 7 < 2 * cnt (s &&& y) 7))) ∧ w = w' := by
  have e1 := go_and s y hs hy
  have c1 := rsize_c (s &&& y) (and_lt s y hs) w
  have c2 := rsize_c s hs w
  have b1 := cnt_le s 7
  have b2 := cnt_le (s &&& y) 7
  go_enter Try.func21, Try.ntmps21
  go_wp2_with (first | (go_at_call 15; refine c1.mono ?_; clear c1; rintro e w' ⟨rfl, rfl⟩) | (go_at_call 15; refine c2.mono ?_; clear c2; rintro e w' ⟨rfl, rfl⟩))
  go_ret
  exact ⟨ret_bool (decide_eq_decide.2 (by omega)), rfl⟩
end Go.Proofs.Ytgmbhbhjlhpbgaa
