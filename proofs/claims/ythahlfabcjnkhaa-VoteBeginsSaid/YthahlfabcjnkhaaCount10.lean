/- The contracts of vote's Count and Timeout and of the reference's. -/
import Derived.Test.YthahlfabcjnkhaaBits7
import Derived.Test.YthahlfabcjnkhaaRows
import Derived.WalkKit
import Derived.ProofKit
import Derived.OpenShut
import Derived.WalkSpells
import Derived.WalkLawsBesides
import Derived.WalkSmall
import Derived.BigQuiet
import Derived.Deep.QuietTactic
import Derived.Outline
namespace Go.Proofs.Ythahlfabcjnkhaa
open Go.ChangeShapes Go.WideShapes Go.ChangeAt Go.RowKit
set_option linter.unusedVariables false
set_option linter.unusedSimpArgs false
open B7

theorem ret_bool' {a b : Bool} (h : a = b) : Ending.returned (.bool a) = .returned (.bool b) := by rw [h]

set_option maxHeartbeats 1600000 in
theorem count_c (s y : Nat) (hs : s < 256) (hy : y < 256) (w : World) :
    Calls Try.prog 48 #[.int .u8 s, .int .u8 y] w fun e w' => e = .returned (.bool (decide (cnt s 7 < 2 * cnt (s &&& y) 7))) ∧ w = w' := by
  have e1 := go_and s y hs hy
  go_enter Try.func48, Try.ntmps48
  go_wp2
  go_loopw [5, 6, 8] (fun n k i wr => ∃ j : Nat, j ≤ 7 ∧ n = .int .i64 (cnt s j : Nat) ∧ k = .int .i64 (cnt (s &&& y) j : Nat) ∧ i = .int .i64 j ∧ w = wr) (fun n k i _ => 7 - (intOf i).toNat)
  case atStart => exact ⟨0, by omega, rfl, rfl, rfl, rfl⟩
  case round =>
    obtain ⟨j, hj, rfl, rfl, rfl, rfl⟩ := hrel
    have b1 := cnt_le s j
    have b2 := cnt_le (s &&& y) j
    by_cases hlt : j < 7
    · have e2 := go_bit s j hs
      have e3 := go_bit (s &&& y) j (and_lt s y hs)
      have c1 := nb_le s j
      have c2 := nb_le (s &&& y) j
      go_wp2
      go_roundw
      case rel =>
        exact ⟨j + 1, by omega, by simp [cnt], by simp [cnt], by simp, by trivial⟩
      case measure => simp [intOf]; omega
    · obtain rfl : j = 7 := by omega
      go_wp2
      go_ret
      exact ⟨ret_bool' (decide_eq_decide.2 (by omega)), rfl⟩

def hasB (s : Nat) (n : Int) : Bool := decide (1 ≤ n ∧ n ≤ 7) && (nb s (n - 1).toNat == 1)
theorem hasB_in (s j : Nat) (h : j < 7) : hasB s ((j : Int) + 1) = decide ((nb s j : Int) = 1) := by
  unfold hasB; rw [decide_eq_true (show 1 ≤ (j : Int) + 1 ∧ (j : Int) + 1 ≤ 7 by omega), show ((j : Int) + 1 - 1).toNat = j by omega, Bool.true_and]; by_cases g : nb s j = 1
  · rw [g]; rfl
  · rw [decide_eq_false (by omega)]; exact beq_eq_false_iff_ne.2 g
theorem hasB_out (s : Nat) (n : Int) (h : ¬ (1 ≤ n ∧ n ≤ 7)) : hasB s n = false := by unfold hasB; rw [decide_eq_false h]; rfl
theorem rnode_c (n : Int) (w : World) : Calls Try.prog 96 #[.int .i64 n] w fun e w' => e = .returned (.bool (decide (1 ≤ n ∧ n ≤ 7))) ∧ w = w' := by
  go_enter Try.func96, Try.ntmps96
  go_wp2
  all_goals go_ret
  all_goals exact ⟨ret_bool' (by simp; omega), rfl⟩
theorem vnode_c (n : Int) (w : World) : Calls Try.prog 89 #[.int .i64 n] w fun e w' => e = .returned (.bool (decide (1 ≤ n ∧ n ≤ 7))) ∧ w = w' := by
  go_enter Try.func89, Try.ntmps89
  go_wp2
  all_goals go_ret
  all_goals exact ⟨ret_bool' (by simp; omega), rfl⟩
theorem rhas_c (s : Nat) (hs : s < 256) (n : Int) (w : World) :
    Calls Try.prog 110 #[.int .u8 s, .int .i64 n] w fun e w' => e = .returned (.bool (hasB s n)) ∧ w = w' := by
  by_cases h : 1 ≤ n ∧ n ≤ 7
  · have hd := decide_eq_true h
    obtain ⟨j, rfl⟩ : ∃ j : Nat, n = (j : Int) + 1 := ⟨(n - 1).toNat, by omega⟩
    have e2 := go_bit s j hs
    have hh := Lib.hid (hasB_in s j (by omega))
    obtain ⟨h1, h2⟩ := h
    have h3 : (j : Int) ≤ 6 := by omega
    go_enter Try.func110, Try.ntmps110
    go_wp2_with (go_at_call 96; refine (rnode_c _ _).mono ?_; rw [hd]; rintro e w' ⟨rfl, rfl⟩)
    all_goals go_ret
    all_goals exact ⟨ret_bool' hh.out.symm, rfl⟩
  · have hd := decide_eq_false h
    have hh := Lib.hid (hasB_out s n h)
    clear h
    go_enter Try.func110, Try.ntmps110
    go_wp2_with (go_at_call 96; refine (rnode_c _ _).mono ?_; rw [hd]; rintro e w' ⟨rfl, rfl⟩)
    all_goals go_ret
    all_goals exact ⟨ret_bool' hh.out.symm, rfl⟩
theorem vhas_c (s : Nat) (hs : s < 256) (n : Int) (w : World) :
    Calls Try.prog 115 #[.int .u8 s, .int .i64 n] w fun e w' => e = .returned (.bool (hasB s n)) ∧ w = w' := by
  by_cases h : 1 ≤ n ∧ n ≤ 7
  · have hd := decide_eq_true h
    obtain ⟨j, rfl⟩ : ∃ j : Nat, n = (j : Int) + 1 := ⟨(n - 1).toNat, by omega⟩
    have e2 := go_bit s j hs
    have hh := Lib.hid (hasB_in s j (by omega))
    obtain ⟨h1, h2⟩ := h
    have h3 : (j : Int) ≤ 6 := by omega
    go_enter Try.func115, Try.ntmps115
    go_wp2_with (go_at_call 89; refine (vnode_c _ _).mono ?_; rw [hd]; rintro e w' ⟨rfl, rfl⟩)
    all_goals go_ret
    all_goals exact ⟨ret_bool' hh.out.symm, rfl⟩
  · have hd := decide_eq_false h
    have hh := Lib.hid (hasB_out s n h)
    clear h
    go_enter Try.func115, Try.ntmps115
    go_wp2_with (go_at_call 89; refine (vnode_c _ _).mono ?_; rw [hd]; rintro e w' ⟨rfl, rfl⟩)
    all_goals go_ret
    all_goals exact ⟨ret_bool' hh.out.symm, rfl⟩

theorem ival {a b : Int} (h : a = b) : Value.int .i64 a = Value.int .i64 b := by rw [h]
theorem cnt_step_in (s j : Nat) (h : nb s j = 1) : cnt s (j + 1) = cnt s j + 1 := by simp [cnt, h]
theorem cnt_step_out (s j : Nat) (h : ¬ nb s j = 1) : cnt s (j + 1) = cnt s j := by have := nb_le s j; simp only [cnt]; omega

set_option maxHeartbeats 1600000 in
theorem rcount_c (s y : Nat) (hs : s < 256) (hy : y < 256) (w : World) :
    Calls Try.prog 56 #[.int .u8 s, .int .u8 y] w fun e w' => e = .returned (.bool (decide (cnt s 7 < 2 * cnt (s &&& y) 7))) ∧ w = w' := by
  go_enter Try.func56, Try.ntmps56
  go_wp2
  go_loopw [5, 6, 7] (fun n k i wr => ∃ j : Nat, j ≤ 7 ∧ n = .int .i64 (cnt s j : Nat) ∧ k = .int .i64 (cnt (s &&& y) j : Nat) ∧ i = .int .i64 ((j : Int) + 1) ∧ w = wr) (fun n k i _ => 8 - (intOf i).toNat)
  case atStart => exact ⟨0, by omega, rfl, rfl, rfl, rfl⟩
  case round =>
    obtain ⟨j, hj, rfl, rfl, rfl, rfl⟩ := hrel
    have b1 := cnt_le s j
    have b2 := cnt_le (s &&& y) j
    by_cases hlt : j < 7
    · have hx := hasB_in s j hlt
      have hy2 := hasB_in y j hlt
      have hna := nb_and s y j
      by_cases g1 : nb s j = 1
      · have hx1 : hasB s ((j : Int) + 1) = true := by rw [hx, g1]; rfl
        by_cases g2 : nb y j = 1
        · have hy1 : hasB y ((j : Int) + 1) = true := by rw [hy2, g2]; rfl
          have k1 := Lib.hid (cnt_step_in s j g1)
          have k2 := Lib.hid (cnt_step_in (s &&& y) j (by rw [hna, g1, g2]))
          clear hx hy2 hna g1 g2
          have cs := rhas_c s hs ((j : Int) + 1) w
          have cy := rhas_c y hy ((j : Int) + 1) w
          rw [hx1] at cs
          rw [hy1] at cy
          go_wp2_with (first | (go_at_call 110; refine cs.mono ?_; clear cs; rintro e w' ⟨rfl, rfl⟩) | (go_at_call 110; refine cy.mono ?_; clear cy; rintro e w' ⟨rfl, rfl⟩))
          go_roundw
          case rel => exact ⟨j + 1, by omega, ival (by have := k1.out; omega), ival (by have := k2.out; omega), by simp, by trivial⟩
          case measure => simp [intOf]; omega
        · have hy1 : hasB y ((j : Int) + 1) = false := by rw [hy2, decide_eq_false (by omega)]
          have k1 := Lib.hid (cnt_step_in s j g1)
          have k2 := Lib.hid (cnt_step_out (s &&& y) j (by rw [hna, g1]; omega))
          clear hx hy2 hna g1 g2
          have cs := rhas_c s hs ((j : Int) + 1) w
          have cy := rhas_c y hy ((j : Int) + 1) w
          rw [hx1] at cs
          rw [hy1] at cy
          go_wp2_with (first | (go_at_call 110; refine cs.mono ?_; clear cs; rintro e w' ⟨rfl, rfl⟩) | (go_at_call 110; refine cy.mono ?_; clear cy; rintro e w' ⟨rfl, rfl⟩))
          go_roundw
          case rel => exact ⟨j + 1, by omega, ival (by have := k1.out; omega), ival (by have := k2.out; omega), by simp, by trivial⟩
          case measure => simp [intOf]; omega
      · have hx1 : hasB s ((j : Int) + 1) = false := by rw [hx, decide_eq_false (by omega)]
        have k1 := Lib.hid (cnt_step_out s j g1)
        have k2 := Lib.hid (cnt_step_out (s &&& y) j (by rw [hna]; have := nb_le s j; rw [show nb s j = 0 by omega]; omega))
        clear hx hy2 hna g1
        go_wp2_with (go_at_call 110; refine (rhas_c s hs _ _).mono ?_; rw [hx1]; rintro e w' ⟨rfl, rfl⟩)
        go_roundw
        case rel => exact ⟨j + 1, by omega, ival (by have := k1.out; omega), ival (by have := k2.out; omega), by simp, by trivial⟩
        case measure => simp [intOf]; omega
    · obtain rfl : j = 7 := by omega
      go_wp2
      go_ret
      exact ⟨ret_bool' (decide_eq_decide.2 (by omega)), rfl⟩
end Go.Proofs.Ythahlfabcjnkhaa
