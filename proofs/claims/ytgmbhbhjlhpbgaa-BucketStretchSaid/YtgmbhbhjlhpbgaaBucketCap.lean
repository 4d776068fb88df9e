/- The walk of the statement BucketCap of layer 16 (bucket): it ends in 'true', and nothing that lay there is written. -/
import Derived.Test.YtgmbhbhjlhpbgaaBucketLaws
namespace Go.Proofs.Ytgmbhbhjlhpbgaa
open Go.ChangeShapes Go.WideShapes Go.ChangeAt Go.RowKit
set_option linter.unusedVariables false
set_option linter.unusedSimpArgs false
attribute [local go_sem] max_fold min_fold
open Bk

namespace Bk
theorem may_bounds {r b : Int} (h : mayB r b = true) : 0 ≤ r ∧ r ≤ 1000000 ∧ 0 ≤ b ∧ b ≤ 1000000 := by
  unfold mayB at h; exact of_decide_eq_true h
theorem credit_eq {b r bu o t : Int} (hb : 0 ≤ b) (hb' : b ≤ 1000000000) (hr : 0 ≤ r) (hr' : r ≤ 1000000) (ht : 0 ≤ t) (ht' : t ≤ 1099511627776) : credit b r bu o t = cut (b + r * t) bu o := by
  unfold credit; rw [brought_same hb (by omega), brought_same hr hr', brought_same ht ht']
theorem credit_le {b r bu o t : Int} (hb : 0 ≤ b) (hb' : b ≤ 1000000000) (hr : 0 ≤ r) (hr' : r ≤ 1000000) (ht : 0 ≤ t) (ht' : t ≤ 1099511627776) : credit b r bu o t ≤ b + r * t := by
  rw [credit_eq hb hb' hr hr' ht ht']
  have := (mul_small r t hr hr' ht ht').1
  exact cut_le _ _ _ (by omega)
theorem cut_range (x bu o : Int) : 0 ≤ cut x bu o ∧ cut x bu o ≤ 1000000000 := by
  have := room_hi bu o; have := room_lo bu o
  unfold cut; unfold brought; omega
theorem credit_credit {b r bu o t u : Int} (hb : 0 ≤ b) (hb' : b ≤ 1000000000) (hr : 0 ≤ r) (hr' : r ≤ 1000000) (ht : 0 ≤ t) (hu : 0 ≤ u) (htu : t + u ≤ 1099511627776) :
    credit (credit b r bu o t) r bu o u = credit b r bu o (t + u) := by
  have h1 := mul_small r t hr hr' ht (by omega)
  have h2 := mul_small r u hr hr' hu (by omega)
  rw [credit_eq (t := t) hb hb' hr hr' ht (by omega), credit_eq (t := t + u) hb hb' hr hr' (by omega) htu, credit_eq (cut_range _ _ _).1 (cut_range _ _ _).2 hr hr' hu (by omega), cut_cut_add _ _ _ _ (by omega) h2.1, Int.mul_add, Int.add_assoc]
def Within (y bu o : Int) : Prop := 0 ≤ y ∧ (0 < y → o ≤ bu ∧ y + 1000 * o ≤ 1000 * bu)
end Bk

theorem bucketCap_bad (w : World) (a0 a1 a2 a3 a4 a5 a6 : Int) (w5 : (Lit.int .i64 a5).wf = true)
    (h : ¬ (mayB a1 a2 = true ∧ 0 ≤ a3 ∧ 0 ≤ a4 ∧ a4 ≤ 1099511627776 ∧ 0 ≤ a5 ∧ a5 ≤ 1099511627776 - a4 ∧ 0 ≤ a0 ∧ a0 ≤ 1000000000)) :
    Calls Try.prog 6 #[.int .i64 a0, .int .i64 a1, .int .i64 a2, .int .i64 a3, .int .i64 a4, .int .i64 a5, .int .i64 a6] w fun e w' => e = .returned (.bool true) ∧ Below w.heap.size w w' := by
  have hh := Lib.hid h
  clear h
  go_enter Try.func6, Try.ntmps6
  go_wp2_with (first | (go_at_call 32; refine (may_c _ _ _).mono ?_; rintro e w' ⟨rfl, rfl⟩) | (go_at_call 31; refine (wakes16_c _).mono ?_; rintro e w3 ⟨rfl, hb3⟩) | (go_at_call 27; fail))
  all_goals first
    | (go_ret; exact ⟨rfl, hb3⟩)
    | exact (hh.out ⟨by assumption, by omega, by omega, by omega, by omega, by omega, by omega, by omega⟩).elim

theorem bucketCap_good (w : World) (a0 a1 a2 a3 a4 a5 a6 : Int)
    (hm : mayB a1 a2 = true) (g3 : 0 ≤ a3) (g4 : 0 ≤ a4) (g4' : a4 ≤ 1099511627776) (g5 : 0 ≤ a5) (g5' : a5 ≤ 1099511627776 - a4) (g0 : 0 ≤ a0) (g0' : a0 ≤ 1000000000) :
    Calls Try.prog 6 #[.int .i64 a0, .int .i64 a1, .int .i64 a2, .int .i64 a3, .int .i64 a4, .int .i64 a5, .int .i64 a6] w fun e w' => e = .returned (.bool true) ∧ Below w.heap.size w w' := by
  obtain ⟨b1, b2, b3, b4⟩ := may_bounds hm
  have hx : Within (credit a0 a1 a2 a3 a4) a2 a3 := cut_within _ _ _ b3 b4 g3
  have hc : Within (cut a0 a2 a3) a2 a3 := cut_within _ _ _ b3 b4 g3
  have hk : Within (back a0 a2 a3 a6) a2 a3 := cut_within _ _ _ b3 b4 g3
  have hle := credit_le (bu := a2) (o := a3) g0 g0' b1 b2 g4 g4'
  have hmul := mul_small a1 a4 b1 b2 g4 g4'
  obtain ⟨hm0, hm1⟩ := hmul
  have hcc : (credit (credit a0 a1 a2 a3 a4) a1 a2 a3 a5 == credit a0 a1 a2 a3 (a4 + a5)) = true := by
    rw [beq_iff_eq]; exact credit_credit g0 g0' b1 b2 g4 g5 (by omega)
  have i0 : ∀ x y z : Value, ∀ w, (Instr.index 42 (.agg #[x, y, z]) (.int .i64 0)).run Try.prog w = .ok x w := fun _ _ _ _ => by kernel_rfl
  have i1 : ∀ x y z : Value, ∀ w, (Instr.index 42 (.agg #[x, y, z]) (.int .i64 1)).run Try.prog w = .ok y w := fun _ _ _ _ => by kernel_rfl
  have i2 : ∀ x y z : Value, ∀ w, (Instr.index 42 (.agg #[x, y, z]) (.int .i64 2)).run Try.prog w = .ok z w := fun _ _ _ _ => by kernel_rfl
  have H : Hid (∀ j : Nat, j < 3 → ∃ y : Int, Within y a2 a3 ∧ ∀ w, (Instr.index 42 (.agg #[.int .i64 (credit a0 a1 a2 a3 a4), .int .i64 (cut a0 a2 a3), .int .i64 (back a0 a2 a3 a6)]) (.int .i64 j)).run Try.prog w = .ok (.int .i64 y) w) := by
    intro j hj
    match j, hj with
    | 0, _ => exact ⟨_, hx, i0 _ _ _⟩
    | 1, _ => exact ⟨_, hc, i1 _ _ _⟩
    | 2, _ => exact ⟨_, hk, i2 _ _ _⟩
  clear i0 i1 i2 hx hc hk
  go_enter Try.func6, Try.ntmps6
  go_wp2_with (first | (go_at_call 32; refine (may_c _ _ _).mono ?_; rintro e w' ⟨rfl, rfl⟩) | (go_at_call 36; refine (cut_c _ _ _ _).mono ?_; rintro e w' ⟨rfl, rfl⟩) | (go_at_call 27; refine (credit_c _ _ _ _ _ _).mono ?_; rintro e w1 ⟨rfl, hb1⟩) | (go_at_call 29; refine (back_c _ _ _ _ _).mono ?_; rintro e w2 ⟨rfl, hb2⟩))
  have hb := belowNext hb1 hb2 (Nat.le_refl _)
  clear hb1 hb2
  go_loop [70] (fun i => ∃ j : Nat, j ≤ 3 ∧ i = .int .i64 j) (fun i => 3 - (intOf i).toNat)
  case atStart => exact ⟨0, by omega, rfl⟩
  case round =>
    obtain ⟨j, hj, rfl⟩ := hrel
    by_cases hlt : j < 3
    · obtain ⟨y, ⟨hy0, hy1⟩, hidx⟩ := H.out j hlt
      by_cases hp : 0 < y
      · obtain ⟨hy2, hy3⟩ := hy1 hp
        clear hy1
        go_wp2
        go_round
        case rel => exact ⟨j + 1, by omega, by go_num⟩
        case measure => simp [intOf]; omega
      · clear hy1
        go_wp2
        go_round
        case rel => exact ⟨j + 1, by omega, by go_num⟩
        case measure => simp [intOf]; omega
    · go_wp2_with (first | (go_at_call 27; refine (credit_c _ _ _ _ _ _).mono ?_; rintro e w3 ⟨rfl, hb3⟩; replace hb := belowNext hb hb3 (Nat.le_refl _); clear hb3) | (go_at_call 31; refine (wakes16_c _).mono ?_; rintro e w5 ⟨rfl, hb5⟩))
      go_ret
      exact ⟨rfl, belowNext hb hb5 (Nat.le_refl _)⟩

theorem bucketCap_walk (w : World) (a0 a1 a2 a3 a4 a5 a6 : Int) (w0 : (Lit.int .i64 a0).wf = true) (w1 : (Lit.int .i64 a1).wf = true) (w2 : (Lit.int .i64 a2).wf = true) (w3 : (Lit.int .i64 a3).wf = true) (w4 : (Lit.int .i64 a4).wf = true) (w5 : (Lit.int .i64 a5).wf = true) (w6 : (Lit.int .i64 a6).wf = true) :
    Calls Try.prog 6 #[.int .i64 a0, .int .i64 a1, .int .i64 a2, .int .i64 a3, .int .i64 a4, .int .i64 a5, .int .i64 a6] w fun e w' => e = .returned (.bool true) ∧ Below w.heap.size w w' := by
  by_cases h : mayB a1 a2 = true ∧ 0 ≤ a3 ∧ 0 ≤ a4 ∧ a4 ≤ 1099511627776 ∧ 0 ≤ a5 ∧ a5 ≤ 1099511627776 - a4 ∧ 0 ≤ a0 ∧ a0 ≤ 1000000000
  · obtain ⟨h1, h2, h3, h4, h5, h6, h7, h8⟩ := h
    exact bucketCap_good w a0 a1 a2 a3 a4 a5 a6 h1 h2 h3 h4 h5 h6 h7 h8
  · exact bucketCap_bad w a0 a1 a2 a3 a4 a5 a6 w5 h
end Go.Proofs.Ytgmbhbhjlhpbgaa
