/- The contracts of package clock (Surely, Over) and of its reference weirref03, and what the document says of a drift of 100. -/
import Derived.Test.YtifohibpcngakaaClockG
namespace Go.Proofs.Ytifohibpcngakaa
open Go.ChangeShapes Go.WideShapes Go.ChangeAt Go.RowKit
set_option linter.unusedVariables false
set_option linter.unusedSimpArgs false
attribute [local go_sem] max_fold min_fold
open Ck

theorem ceil_div (x b : Int) (hx : 0 ≤ x) (hb : 0 < b) : (0 < x % b → (x + (b - 1)) / b = x / b + 1) ∧ (¬ 0 < x % b → (x + (b - 1)) / b = x / b) := by
  have h1 := Int.emod_add_mul_ediv x b
  have h2 := Int.emod_lt_of_pos x hb
  have h3 := Int.emod_nonneg x (show b ≠ 0 by omega)
  constructor
  · intro h
    have e : x + (b - 1) = (x % b - 1) + b * (x / b + 1) := by rw [Int.mul_add]; omega
    rw [e, Int.add_mul_ediv_left _ _ (by omega), Int.ediv_eq_zero_of_lt (by omega) (by omega)]; omega
  · intro h
    have e : x + (b - 1) = (x % b + (b - 1)) + b * (x / b) := by omega
    rw [e, Int.add_mul_ediv_left _ _ (by omega), Int.ediv_eq_zero_of_lt (by omega) (by omega)]; omega

/-- 'scaled', rounded up. -/
theorem scaled_up (n a b : Nat) (w : World) (h : n * a ≤ 2000000000000000000) (hn : n ≤ 2000000000000000000) (ha : a ≤ 2000000000000000000) (hb : 0 < b) (hb' : b ≤ 1200) :
    Calls Try.prog 28 #[.int .u64 n, .int .u64 a, .int .u64 b, .func (.func 29) #[] #[]] w fun e w' => e = .returned (.int .i64 ((((n * a : Nat) : Int) + ((b : Int) - 1)) / b)) ∧ Below w.heap.size w w' := by
  have h5 : (0 : Int) ≤ ((n * a : Nat) : Int) / b := Int.ediv_nonneg (by omega) (by omega)
  have h6 : ((n * a : Nat) : Int) / b ≤ ((n * a : Nat) : Int) := Int.ediv_le_self _ (by omega)
  have h7 : ((n * a : Nat) : Int) / b ≤ 2000000000000000000 := by omega
  have H := Lib.hid h
  clear h h6
  obtain ⟨x, hx⟩ : ∃ x : Nat, n * a = x := ⟨_, rfl⟩
  have HM := Lib.hid (mul64_small n a H.out hn ha w)
  have H8 : x ≤ 2000000000000000000 := by rw [← hx]; exact H.out
  rw [hx] at h5 h7 HM ⊢
  clear hx
  have HC := Lib.hid (ceil_div (x : Int) b (by omega) (by omega))
  by_cases hr : 0 < (x : Int) % b
  · have HR := Lib.hid (HC.out.1 hr)
    go_enter Try.func28, Try.ntmps28
    go_wp2_with fail
    refine HM.out.mono ?_
    rintro e w' ⟨rfl, rfl⟩
    go_wp2_with fail
    refine (div64_small x b _ H8 hb hb').mono ?_
    rintro e w1 ⟨rfl, hb1⟩
    go_wp2
    go_ret
    exact ⟨ret_int HR.out.symm, hb1⟩
  · have HR := Lib.hid (HC.out.2 hr)
    go_enter Try.func28, Try.ntmps28
    go_wp2_with fail
    refine HM.out.mono ?_
    rintro e w' ⟨rfl, rfl⟩
    go_wp2_with fail
    refine (div64_small x b _ H8 hb hb').mono ?_
    rintro e w1 ⟨rfl, hb1⟩
    go_wp2
    go_ret
    exact ⟨ret_int (by rw [HR.out]), hb1⟩

theorem scaled_upI (n a b : Int) (w : World) (n0 : 0 ≤ n) (a0 : 0 ≤ a) (h : n * a ≤ 2000000000000000000) (hn : n ≤ 2000000000000000000) (ha : a ≤ 2000000000000000000) (hb : 0 < b) (hb' : b ≤ 1200) :
    Calls Try.prog 28 #[.int .u64 n, .int .u64 a, .int .u64 b, .func (.func 29) #[] #[]] w fun e w' => e = .returned (.int .i64 ((n * a + (b - 1)) / b)) ∧ Below w.heap.size w w' := by
  obtain ⟨n, rfl⟩ := Int.eq_ofNat_of_zero_le n0
  obtain ⟨a, rfl⟩ := Int.eq_ofNat_of_zero_le a0
  obtain ⟨b, rfl⟩ := Int.eq_ofNat_of_zero_le (show 0 ≤ b by omega)
  have e : ((n : Int) * a) = ((n * a : Nat) : Int) := (Int.natCast_mul n a).symm
  rw [e] at h ⊢
  exact scaled_up n a b w (by omega) (by omega) (by omega) (by omega) (by omega)

theorem over_b (t r : Int) : min (max t 0) 1099511627776 * (1000 * (1000 + min (max r 0) 200)) ≤ 1319413953331200000 ∧ 0 ≤ min (max t 0) 1099511627776 * (1000 * (1000 + min (max r 0) 200)) :=
  ⟨by have := Int.mul_le_mul (show min (max t 0) 1099511627776 ≤ 1099511627776 by omega) (show 1000 * (1000 + min (max r 0) 200) ≤ 1200000 by omega) (by omega) (by omega); omega, Int.mul_nonneg (by omega) (by omega)⟩

theorem over_c (t r : Int) (w : World) :
    Calls Try.prog 22 #[.int .i64 t, .int .i64 r] w fun e w' => e = .returned (.int .i64 (over t r)) ∧ Below w.heap.size w w' := by
  have h0 : 0 ≤ min (max t 0) 1099511627776 := by omega
  have h1 : min (max t 0) 1099511627776 ≤ 1099511627776 := by omega
  have h2 : 0 ≤ min (max r 0) 200 := by omega
  have h3 : min (max r 0) 200 ≤ 200 := by omega
  go_enter Try.func22, Try.ntmps22
  go_wp2_with fail
  refine (scaled_upI (min (max t 0) 1099511627776) (1000 * (1000 + min (max r 0) 200)) (1000 - min (max r 0) 200) _ h0 (by omega) (by have := (over_b t r).1; omega) (by omega) (by omega) (by omega) (by omega)).mono ?_
  rintro e w1 ⟨rfl, hb1⟩
  go_wp2
  go_ret
  exact ⟨rfl, hb1⟩

/-! ### the reference -/
theorem rrate_c (r : Int) (w : World) : Calls Try.prog 31 #[.int .i64 r] w fun e w' => e = .returned (.int .i64 (min (max r 0) 200)) ∧ w = w' := by
  go_enter Try.func31, Try.ntmps31
  go_wp2
  go_ret
  exact ⟨rfl, rfl⟩

theorem over_parts {T n d : Int} (hT : 0 ≤ T) (hd : 0 < d) : T / d * n + (T % d * n + d - 1) / d = (T * n + (d - 1)) / d := by
  have h1 := Int.emod_add_mul_ediv T d
  have e : T * n + (d - 1) = (T % d * n + d - 1) + d * (T / d * n) := by
    have : T * n = T % d * n + d * (T / d * n) := by
      rw [← Int.mul_assoc, ← Int.add_mul, h1]
    omega
  rw [e, Int.add_mul_ediv_left _ _ (by omega)]
  omega

theorem rover_c (t r : Int) (w : World) :
    Calls Try.prog 27 #[.int .i64 t, .int .i64 r] w fun e w' => e = .returned (.int .i64 (over t r)) ∧ w = w' := by
  obtain ⟨T, hT⟩ : ∃ T, min (max t 0) 1099511627776 = T := ⟨_, rfl⟩
  obtain ⟨R, hR⟩ : ∃ R, min (max r 0) 200 = R := ⟨_, rfl⟩
  have h0 : 0 ≤ T := by omega
  have h1 : T ≤ 1099511627776 := by omega
  have h2 : 0 ≤ R := by omega
  have h3 : R ≤ 200 := by omega
  have hov : Hid (T / (1000 - R) * (1000 * (1000 + R)) + (T % (1000 - R) * (1000 * (1000 + R)) + (1000 - R) - 1) / (1000 - R) = over t r) := by
    unfold over; rw [hT, hR]; exact over_parts h0 (by omega)
  have g1 : 0 ≤ T / (1000 - R) := Int.ediv_nonneg h0 (by omega)
  have g2 : T / (1000 - R) ≤ T := Int.ediv_le_self _ h0
  have g3 : 0 ≤ T % (1000 - R) := Int.emod_nonneg _ (by omega)
  have g4 : T % (1000 - R) < 1000 - R := Int.emod_lt_of_pos _ (by omega)
  have g5 : 0 ≤ T / (1000 - R) * (1000 * (1000 + R)) := Int.mul_nonneg g1 (by omega)
  have g6 : T / (1000 - R) * (1000 * (1000 + R)) ≤ 1319413953331200000 := by
    have := Int.mul_le_mul (show T / (1000 - R) ≤ 1099511627776 by omega) (show 1000 * (1000 + R) ≤ 1200000 by omega) (by omega) (by omega); omega
  have g7 : 0 ≤ T % (1000 - R) * (1000 * (1000 + R)) := Int.mul_nonneg g3 (by omega)
  have g8 : T % (1000 - R) * (1000 * (1000 + R)) ≤ 1200000000 := by
    have := Int.mul_le_mul (show T % (1000 - R) ≤ 1000 by omega) (show 1000 * (1000 + R) ≤ 1200000 by omega) (by omega) (by omega); omega
  have g9 : 0 ≤ (T % (1000 - R) * (1000 * (1000 + R)) + (1000 - R) - 1) / (1000 - R) := Int.ediv_nonneg (by omega) (by omega)
  have g10 : (T % (1000 - R) * (1000 * (1000 + R)) + (1000 - R) - 1) / (1000 - R) ≤ 1200002000 := by
    have := Int.ediv_le_self (a := T % (1000 - R) * (1000 * (1000 + R)) + (1000 - R) - 1) (1000 - R) (by omega); omega
  have hrate := Lib.hid (rrate_c r w)
  rw [hR] at hrate
  go_enter Try.func27, Try.ntmps27
  go_wp2_with fail
  refine hrate.out.mono ?_
  rintro e w' ⟨rfl, rfl⟩
  go_wp2
  go_ret
  exact ⟨ret_int hov.out, rfl⟩
end Go.Proofs.Ytifohibpcngakaa
