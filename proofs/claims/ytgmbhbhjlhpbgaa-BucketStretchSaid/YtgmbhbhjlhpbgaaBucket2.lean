/- Credit and Back of package bucket, and all of the reference weirref16, each as one walk. -/
import Derived.Test.YtgmbhbhjlhpbgaaBucket
namespace Go.Proofs.Ytgmbhbhjlhpbgaa
open Go.ChangeShapes Go.WideShapes Go.ChangeAt Go.RowKit
set_option linter.unusedVariables false
set_option linter.unusedSimpArgs false
attribute [local go_sem] max_fold min_fold
open Bk

theorem steps_back (x n k b o : Int) (bk : Nat) (p q u v : Addr) (w : World) (hn0 : 0 ≤ n) (hn1 : n ≤ 1000000) (hk0 : 0 ≤ k) (hk1 : k ≤ 1099511627776)
    (hp : w.cell? p = some (.int .i64 n)) (hq : w.cell? q = some (.int .i64 k)) (hu : w.cell? u = some (.int .i64 b)) (hv : w.cell? v = some (.int .i64 o))
    (h0 : w.cell? ⟨bk, 0, none⟩ = some (.func (.func 65) #[] #[.pointer (some p), .pointer (some q)])) (h1 : w.cell? ⟨bk, 1, none⟩ = some (.func (.func 58) #[] #[.pointer (some u), .pointer (some v)])) :
    Calls Try.prog 54 #[.int .i64 x, .slice (some ⟨bk, 0, none⟩) 2 2] w fun e w' => e = .returned (.int .i64 (upTo x n k b o 2)) ∧ w = w' := by
  go_enter Try.func54, Try.ntmps54
  go_wp2
  go_loop [0, 9] (fun y i => ∃ j : Nat, j ≤ 2 ∧ i = .int .i64 j ∧ y = .int .i64 (upTo x n k b o j)) (fun _ i => 2 - (intOf i).toNat)
  case atStart => exact ⟨0, by omega, rfl, rfl⟩
  case round =>
    obtain ⟨j, hj, rfl, rfl⟩ := hrel
    by_cases j0 : j = 0
    · subst j0
      go_wp2_with (first | (go_at_call 65; refine (more1_c _ _ _ p q _ hn0 hn1 hk0 hk1 hp hq).mono ?_; rintro e w' ⟨rfl, rfl⟩))
      go_round
      case rel => exact ⟨1, by omega, rfl, rfl⟩
      case measure => simp [intOf]
    · by_cases j1 : j = 1
      · subst j1
        go_wp2_with (first | (go_at_call 58; refine (back1_c _ _ _ u v _ hu hv).mono ?_; rintro e w' ⟨rfl, rfl⟩))
        go_round
        case rel => exact ⟨2, by omega, rfl, rfl⟩
        case measure => simp [intOf]
      · obtain rfl : j = 2 := by omega
        go_wp2
        go_ret
        exact ⟨rfl, rfl⟩

namespace Bk
def credit (b r bu o t : Int) : Int := cut (brought b 0 2305843009213693952 + brought r 0 1000000 * brought t 0 1099511627776) bu o
def back (b bu o s : Int) : Int := cut (brought b 0 2305843009213693952 + 1000 * brought s 0 1000000) bu o
end Bk

theorem credit_c (b r bu o t : Int) (w : World) : Calls Try.prog 27 #[.int .i64 b, .int .i64 r, .int .i64 bu, .int .i64 o, .int .i64 t] w fun e w' => e = .returned (.int .i64 (credit b r bu o t)) ∧ Below w.heap.size w w' := by
  have h1 : 0 ≤ brought r 0 1000000 := by unfold brought; omega
  have h2 : brought r 0 1000000 ≤ 1000000 := by unfold brought; omega
  have h3 : 0 ≤ brought t 0 1099511627776 := by unfold brought; omega
  have h4 : brought t 0 1099511627776 ≤ 1099511627776 := by unfold brought; omega
  go_enter Try.func27, Try.ntmps27
  go_wp2_with (first | (go_at_call 56; refine (brought_c _ _ _ _).mono ?_; rintro e w' ⟨rfl, rfl⟩) | (go_at_call 55; go_in) | (go_at_call 54; fail))
  refine (steps_credit b (brought r 0 1000000) (brought t 0 1099511627776) bu o _ ⟨w.heap.size + 1 + 1, 0, none⟩ ⟨w.heap.size + 1 + 1 + 1, 0, none⟩ ⟨w.heap.size, 0, none⟩ ⟨w.heap.size + 1, 0, none⟩ _ h1 h2 h3 h4 (by go_simp) (by go_simp) (by go_simp) (by go_simp) (by go_simp) (by go_simp)).mono ?_
  rintro e w' ⟨rfl, rfl⟩
  go_wp2
  go_ret
  exact ⟨rfl, (((((Below.refl _ _).alloc (Nat.le_refl _) _).alloc (by simp) _).alloc (by simp; omega) _).alloc (by simp; omega) _).alloc (by simp; omega) _⟩

theorem back_c (b bu o sz : Int) (w : World) : Calls Try.prog 29 #[.int .i64 b, .int .i64 bu, .int .i64 o, .int .i64 sz] w fun e w' => e = .returned (.int .i64 (back b bu o sz)) ∧ Below w.heap.size w w' := by
  have h1 : 0 ≤ brought sz 0 1000000 := by unfold brought; omega
  have h2 : brought sz 0 1000000 ≤ 1000000 := by unfold brought; omega
  have h3 : brought sz 0 1000000 ≤ 1099511627776 := by omega
  go_enter Try.func29, Try.ntmps29
  go_wp2_with (first | (go_at_call 56; refine (brought_c _ _ _ _).mono ?_; rintro e w' ⟨rfl, rfl⟩) | (go_at_call 55; go_in) | (go_at_call 54; fail))
  refine (steps_back b 1000 (brought sz 0 1000000) bu o _ ⟨w.heap.size + 1 + 1, 0, none⟩ ⟨w.heap.size + 1 + 1 + 1, 0, none⟩ ⟨w.heap.size, 0, none⟩ ⟨w.heap.size + 1, 0, none⟩ _ (by omega) (by omega) h1 h3 (by go_simp) (by go_simp) (by go_simp) (by go_simp) (by go_simp) (by go_simp)).mono ?_
  rintro e w' ⟨rfl, rfl⟩
  go_wp2
  go_ret
  exact ⟨rfl, (((((Below.refl _ _).alloc (Nat.le_refl _) _).alloc (by simp) _).alloc (by simp; omega) _).alloc (by simp; omega) _).alloc (by simp; omega) _⟩

/-! ### the reference -/
theorem rmay_c (r b : Int) (w : World) : Calls Try.prog 33 #[.int .i64 r, .int .i64 b] w fun e w' => e = .returned (.bool (mayB r b)) ∧ w = w' := by
  by_cases h1 : 0 ≤ r <;> by_cases h2 : r ≤ 1000000 <;> by_cases h3 : 0 ≤ b <;> by_cases h4 : b ≤ 1000000
  all_goals
    go_enter Try.func33, Try.ntmps33
    go_wp2
    go_ret
    refine ⟨ret_bool ?_, rfl⟩
    unfold mayB; symm; simp; omega

theorem rroom_c (b o : Int) (w : World) : Calls Try.prog 35 #[.int .i64 b, .int .i64 o] w fun e w' => e = .returned (.int .i64 (room b o)) ∧ w = w' := by
  have h1 : 0 ≤ min (max b 0) 1000000 := by omega
  have h2 : min (max b 0) 1000000 ≤ 1000000 := by omega
  have h3 : 0 ≤ max o 0 := by omega
  go_enter Try.func35, Try.ntmps35
  go_wp2
  · go_ret
    exact ⟨ret_int (by unfold room brought; omega), rfl⟩
  · go_ret
    exact ⟨ret_int (by unfold room brought; omega), rfl⟩

theorem rcut_c (x b o : Int) (w : World) : Calls Try.prog 37 #[.int .i64 x, .int .i64 b, .int .i64 o] w fun e w' => e = .returned (.int .i64 (cut x b o)) ∧ w = w' := by
  go_enter Try.func37, Try.ntmps37
  go_wp2_with (first | (go_at_call 35; refine (rroom_c _ _ _).mono ?_; rintro e w' ⟨rfl, rfl⟩))
  go_ret
  exact ⟨ret_int (by unfold cut brought; omega), rfl⟩

theorem rwhole_c (x : Int) (w : World) (hx : x ≤ 9223372036854775807) : Calls Try.prog 39 #[.int .i64 x] w fun e w' => e = .returned (.int .i64 (whole x)) ∧ w = w' := by
  have h0 : 0 ≤ max x 0 := by omega
  have h1 : max x 0 ≤ 9223372036854775807 := by omega
  go_enter Try.func39, Try.ntmps39
  go_wp2
  go_ret
  exact ⟨rfl, rfl⟩

theorem rtake_ok (b s : Int) (w : World) (h0 : 0 ≤ s) (h1 : s ≤ whole b) (hl : -9223372036854775808 ≤ b) (hb : b ≤ 9223372036854775807) : Calls Try.prog 26 #[.int .i64 b, .int .i64 s] w fun e w' => e = .returned (.tuple #[.int .i64 (b - 1000 * s), .int .i64 0]) ∧ w = w' := by
  have h3 : 1000 * s ≤ 9223372036854775807 := by unfold whole at h1; omega
  have h4 : b - 1000 * s ≤ 9223372036854775807 := by omega
  have h5 : -9223372036854775808 ≤ b - 1000 * s := by unfold whole at h1; omega
  go_enter Try.func26, Try.ntmps26
  go_wp2_with (go_at_call 39; refine (rwhole_c _ _ (by omega)).mono ?_; rintro e w' ⟨rfl, rfl⟩)
  go_ret2
  exact ⟨rfl, rfl⟩

theorem rtake_no (b s : Int) (w : World) (h : s < 0 ∨ whole b < s) (hb : b ≤ 9223372036854775807) : Calls Try.prog 26 #[.int .i64 b, .int .i64 s] w fun e w' => e = .returned (.tuple #[.int .i64 0, .int .i64 170]) ∧ w = w' := by
  by_cases h0 : s < 0
  · clear h
    go_enter Try.func26, Try.ntmps26
    go_wp2
    go_ret2
    exact ⟨rfl, rfl⟩
  · have h1 : whole b < s := by omega
    clear h
    go_enter Try.func26, Try.ntmps26
    go_wp2_with (go_at_call 39; refine (rwhole_c _ _ (by omega)).mono ?_; rintro e w' ⟨rfl, rfl⟩)
    go_ret2
    exact ⟨rfl, rfl⟩

theorem rback_c (b bu o sz : Int) (w : World) : Calls Try.prog 30 #[.int .i64 b, .int .i64 bu, .int .i64 o, .int .i64 sz] w fun e w' => e = .returned (.int .i64 (back b bu o sz)) ∧ w = w' := by
  have h1 : 0 ≤ min (max sz 0) 1000000 := by omega
  have h2 : min (max sz 0) 1000000 ≤ 1000000 := by omega
  have h3 : 0 ≤ min (max b 0) 1000000000 := by omega
  have h4 : min (max b 0) 1000000000 ≤ 1000000000 := by omega
  go_enter Try.func30, Try.ntmps30
  go_wp2_with (first | (go_at_call 37; refine (rcut_c _ _ _ _).mono ?_; rintro e w' ⟨rfl, rfl⟩))
  go_ret
  have h5 := room_hi bu o
  have h6 := room_lo bu o
  exact ⟨ret_int (by unfold back cut; generalize room bu o = R at *; unfold brought; omega), rfl⟩

theorem div_pos_le {d r t : Int} (hr : 0 < r) (h : d / r < t) : d < r * t := by
  have h2 : r * (d / r + 1) ≤ r * t := Int.mul_le_mul_of_nonneg_left (by omega) (by omega)
  have h3 := Int.emod_add_mul_ediv d r
  have h4 := Int.emod_lt_of_pos d hr
  rw [Int.mul_add] at h2
  omega

theorem div_ge {d r t : Int} (hr : 0 < r) (h : t ≤ d / r) : r * t ≤ d := by
  have h2 : r * t ≤ r * (d / r) := Int.mul_le_mul_of_nonneg_left h (by omega)
  have h3 := Int.emod_add_mul_ediv d r
  have h4 := Int.emod_nonneg d (by omega : r ≠ 0)
  omega

theorem rcredit_c (b r bu o t : Int) (w : World) (hb : b ≤ 9223372036854775807) : Calls Try.prog 28 #[.int .i64 b, .int .i64 r, .int .i64 bu, .int .i64 o, .int .i64 t] w fun e w' => e = .returned (.int .i64 (credit b r bu o t)) ∧ w = w' := by
  have q1 : 0 ≤ brought r 0 1000000 := by unfold brought; omega
  have q2 : brought r 0 1000000 ≤ 1000000 := by unfold brought; omega
  have q3 : 0 ≤ brought t 0 1099511627776 := by unfold brought; omega
  have q4 : brought t 0 1099511627776 ≤ 1099511627776 := by unfold brought; omega
  have er : brought r 0 1000000 = min (max r 0) 1000000 := rfl
  have et : brought t 0 1099511627776 = min (max t 0) 1099511627776 := rfl
  have hm := mul_small _ _ q1 q2 q3 q4
  have h5 := room_hi bu o
  have h6 := room_lo bu o
  have hx : 0 ≤ max b 0 := by omega
  have hx2 : max b 0 ≤ 9223372036854775807 := by omega
  by_cases c1 : room bu o ≤ max b 0
  · have fin : credit b r bu o t = room bu o := by unfold credit cut; generalize room bu o = R at *; generalize brought r 0 1000000 * brought t 0 1099511627776 = m at *; unfold brought; omega
    rw [fin]
    clear fin er et hm
    go_enter Try.func28, Try.ntmps28
    go_wp2_with (first | (go_at_call 35; refine (rroom_c _ _ _).mono ?_; rintro e w' ⟨rfl, rfl⟩))
    go_ret
    exact ⟨rfl, rfl⟩
  · by_cases c2 : 0 < min (max r 0) 1000000
    · by_cases c3 : (room bu o - max b 0) / min (max r 0) 1000000 < min (max t 0) 1099511627776
      · have hlt := div_pos_le c2 c3
        have fin : credit b r bu o t = room bu o := by unfold credit cut; rw [er, et] at *; generalize room bu o = R at *; generalize min (max r 0) 1000000 * min (max t 0) 1099511627776 = m at *; unfold brought; omega
        rw [fin]
        have c4 : 1 ≤ min (max r 0) 1000000 := by omega
        clear fin er et hm hlt
        go_enter Try.func28, Try.ntmps28
        go_wp2_with (first | (go_at_call 35; refine (rroom_c _ _ _).mono ?_; rintro e w' ⟨rfl, rfl⟩))
        go_ret
        exact ⟨rfl, rfl⟩
      · have hge := div_ge c2 (Int.not_lt.1 c3)
        have fin : credit b r bu o t = max b 0 + min (max r 0) 1000000 * min (max t 0) 1099511627776 := by unfold credit cut; rw [er, et] at *; generalize room bu o = R at *; generalize min (max r 0) 1000000 * min (max t 0) 1099511627776 = m at *; unfold brought; omega
        rw [fin]
        have c4 : 1 ≤ min (max r 0) 1000000 := by omega
        rw [er, et] at hm
        obtain ⟨hm1, hm2⟩ := hm
        clear fin er et q1 q2 q3 q4
        have h7 : max b 0 + min (max r 0) 1000000 * min (max t 0) 1099511627776 ≤ 9223372036854775807 := by omega
        go_enter Try.func28, Try.ntmps28
        go_wp2_with (first | (go_at_call 35; refine (rroom_c _ _ _).mono ?_; rintro e w' ⟨rfl, rfl⟩))
        go_ret
        exact ⟨rfl, rfl⟩
    · have e0 : min (max r 0) 1000000 = 0 := by omega
      have fin : credit b r bu o t = max b 0 + min (max r 0) 1000000 * min (max t 0) 1099511627776 := by unfold credit cut; rw [er, et] at *; rw [e0]; generalize room bu o = R at *; unfold brought; omega
      rw [fin]
      rw [er, et] at hm
      obtain ⟨hm1, hm2⟩ := hm
      clear fin er et q1 q2 q3 q4 e0
      have h7 : max b 0 + min (max r 0) 1000000 * min (max t 0) 1099511627776 ≤ 9223372036854775807 := by omega
      go_enter Try.func28, Try.ntmps28
      go_wp2_with (first | (go_at_call 35; refine (rroom_c _ _ _).mono ?_; rintro e w' ⟨rfl, rfl⟩))
      go_ret
      exact ⟨rfl, rfl⟩
end Go.Proofs.Ytgmbhbhjlhpbgaa
