/- The contracts of package bucket and of its reference, each as one walk: what each computes is a plain function on integers. -/
import Derived.Test.YtgmbhbhjlhpbgaaRows
import Derived.Test.YtgmbhbhjlhpbgaaShelf
import Derived.WalkKit
import Derived.ProofKit
import Derived.OpenShut
import Derived.WalkSpells
import Derived.WalkLawsBesides
import Derived.BigQuiet
import Derived.Deep.QuietTactic
import Derived.Outline
import Derived.Lib.Hide
namespace Go.Proofs.Ytgmbhbhjlhpbgaa
open Go.ChangeShapes Go.WideShapes Go.ChangeAt Go.RowKit
set_option linter.unusedVariables false
set_option linter.unusedSimpArgs false

theorem ret_int {k : IntKind} {a b : Int} (h : a = b) : Ending.returned (.int k a) = .returned (.int k b) := by rw [h]
theorem ret_bool {a b : Bool} (h : a = b) : Ending.returned (.bool a) = .returned (.bool b) := by rw [h]
theorem max_fold (a b : Int) : (if a < b then b else a) = max a b := by omega
theorem min_fold (a b : Int) : (if a < b then a else b) = min a b := by omega
attribute [local go_sem] max_fold min_fold

namespace Bk
def brought (n lo hi : Int) : Int := min (max n lo) hi
def mayB (r b : Int) : Bool := decide (0 ≤ r ∧ r ≤ 1000000 ∧ 0 ≤ b ∧ b ≤ 1000000)
def room (burst out : Int) : Int := 1000 * (brought burst 0 1000000 - brought out 0 (brought burst 0 1000000))
def cut (b burst out : Int) : Int := brought b 0 (room burst out)
def whole (b : Int) : Int := max b 0 / 1000

theorem bu_lo (b : Int) : 0 ≤ brought b 0 1000000 := by unfold brought; omega
theorem bu_hi (b : Int) : brought b 0 1000000 ≤ 1000000 := by unfold brought; omega
theorem br_lo (b o : Int) : 0 ≤ brought o 0 (brought b 0 1000000) := by unfold brought; omega
theorem br_hi (b o : Int) : brought o 0 (brought b 0 1000000) ≤ brought b 0 1000000 := by unfold brought; omega
theorem room_lo (b o : Int) : 0 ≤ room b o := by have := br_hi b o; unfold room; omega
theorem room_hi (b o : Int) : room b o ≤ 1000000000 := by have := br_lo b o; have := bu_hi b; unfold room; omega
end Bk
open Bk

theorem brought_c (n lo hi : Int) (w : World) : Calls Try.prog 56 #[.int .i64 n, .int .i64 lo, .int .i64 hi] w fun e w' => e = .returned (.int .i64 (brought n lo hi)) ∧ w = w' := by
  go_enter Try.func56, Try.ntmps56
  go_wp2
  go_ret
  exact ⟨ret_int (by unfold brought; omega), rfl⟩

theorem may_c (r b : Int) (w : World) : Calls Try.prog 32 #[.int .i64 r, .int .i64 b] w fun e w' => e = .returned (.bool (mayB r b)) ∧ w = w' := by
  go_enter Try.func32, Try.ntmps32
  go_wp2
  all_goals (go_ret; refine ⟨ret_bool ?_, rfl⟩; unfold mayB; symm; simp; omega)

theorem room_c (b o : Int) (w : World) : Calls Try.prog 34 #[.int .i64 b, .int .i64 o] w fun e w' => e = .returned (.int .i64 (room b o)) ∧ w = w' := by
  have h1 := bu_lo b
  have h2 := bu_hi b
  have h3 := br_lo b o
  have h4 := br_hi b o
  go_enter Try.func34, Try.ntmps34
  go_wp2_with (go_at_call 56; refine (brought_c _ _ _ _).mono ?_; rintro e w' ⟨rfl, rfl⟩)
  go_ret
  exact ⟨rfl, rfl⟩

theorem cut_c (x b o : Int) (w : World) : Calls Try.prog 36 #[.int .i64 x, .int .i64 b, .int .i64 o] w fun e w' => e = .returned (.int .i64 (cut x b o)) ∧ w = w' := by
  go_enter Try.func36, Try.ntmps36
  go_wp2_with (first | (go_at_call 34; refine (room_c _ _ _).mono ?_; rintro e w' ⟨rfl, rfl⟩) | (go_at_call 56; refine (brought_c _ _ _ _).mono ?_; rintro e w' ⟨rfl, rfl⟩))
  go_ret
  exact ⟨rfl, rfl⟩

theorem whole_c (x : Int) (w : World) (hx : x ≤ 9223372036854775807) : Calls Try.prog 38 #[.int .i64 x] w fun e w' => e = .returned (.int .i64 (whole x)) ∧ w = w' := by
  have h0 : 0 ≤ max x 0 := by omega
  have h1 : max x 0 ≤ 9223372036854775807 := by omega
  go_enter Try.func38, Try.ntmps38
  go_wp2
  go_ret
  exact ⟨rfl, rfl⟩

/-- 'Take', where the tokens are there; and where they are not. -/
theorem take_ok (b s : Int) (w : World) (h0 : 0 ≤ s) (h1 : s ≤ whole b) (hl : -9223372036854775808 ≤ b) (hb : b ≤ 9223372036854775807) : Calls Try.prog 25 #[.int .i64 b, .int .i64 s] w fun e w' => e = .returned (.tuple #[.int .i64 (b - 1000 * s), .int .i64 0]) ∧ w = w' := by
  have h3 : 1000 * s ≤ 9223372036854775807 := by unfold whole at h1; omega
  have h4 : b - 1000 * s ≤ 9223372036854775807 := by omega
  have h5 : -9223372036854775808 ≤ b - 1000 * s := by unfold whole at h1; omega
  go_enter Try.func25, Try.ntmps25
  go_wp2_with (go_at_call 38; refine (whole_c _ _ (by omega)).mono ?_; rintro e w' ⟨rfl, rfl⟩)
  go_ret2
  exact ⟨rfl, rfl⟩

theorem take_no (b s : Int) (w : World) (h : s < 0 ∨ whole b < s) (hb : b ≤ 9223372036854775807) : Calls Try.prog 25 #[.int .i64 b, .int .i64 s] w fun e w' => e = .returned (.tuple #[.int .i64 0, .int .i64 170]) ∧ w = w' := by
  by_cases h0 : s < 0
  · clear h
    go_enter Try.func25, Try.ntmps25
    go_wp2
    go_ret2
    exact ⟨rfl, rfl⟩
  · have h1 : whole b < s := by omega
    clear h
    go_enter Try.func25, Try.ntmps25
    go_wp2_with (go_at_call 38; refine (whole_c _ _ (by omega)).mono ?_; rintro e w' ⟨rfl, rfl⟩)
    go_ret2
    exact ⟨rfl, rfl⟩

/-! ### the closures that 'steps' does, one behind the other -/
theorem mul_small (n k : Int) (hn0 : 0 ≤ n) (hn1 : n ≤ 1000000) (hk0 : 0 ≤ k) (hk1 : k ≤ 1099511627776) : 0 ≤ n * k ∧ n * k ≤ 1099511627776000000 :=
  ⟨Int.mul_nonneg hn0 hk0, by have := Int.mul_le_mul hn1 hk1 hk0 (by omega); omega⟩

theorem mul64_small (n k : Nat) (hn : n ≤ 1000000) (hk : k ≤ 1099511627776) (w : World) :
    Calls Try.prog 66 #[.int .u64 n, .int .u64 k] w fun e w' => e = .returned (.tuple #[.int .u64 0, .int .u64 ((n : Int) * k)]) ∧ w = w' := by
  have hm := Nat.mul_le_mul hn hk
  refine (Try.bits_Mul64 n k (by omega) (by omega) w).mono ?_
  rintro e w' ⟨rfl, rfl⟩
  have h1 : n * k / 18446744073709551616 = 0 := Nat.div_eq_of_lt (by omega)
  have h2 : n * k % 18446744073709551616 = n * k := Nat.mod_eq_of_lt (by omega)
  rw [h1, h2]
  exact ⟨rfl, rfl⟩

/-- 'more''s closure: no more than so much comes to it. -/
theorem more1_c (x n k : Int) (p q : Addr) (w : World) (hn0 : 0 ≤ n) (hn1 : n ≤ 1000000) (hk0 : 0 ≤ k) (hk1 : k ≤ 1099511627776) (hp : w.cell? p = some (.int .i64 n)) (hq : w.cell? q = some (.int .i64 k)) :
    Calls Try.prog 65 #[.int .i64 x, .pointer (some p), .pointer (some q)] w fun e w' => e = .returned (.int .i64 (brought x 0 2305843009213693952 + n * k)) ∧ w = w' := by
  obtain ⟨n, rfl⟩ := Int.eq_ofNat_of_zero_le hn0
  obtain ⟨k, rfl⟩ := Int.eq_ofNat_of_zero_le hk0
  have hm0 := (mul_small n k hn0 hn1 hk0 hk1).1
  have hm1 := (mul_small n k hn0 hn1 hk0 hk1).2
  have hb0 : 0 ≤ brought x 0 2305843009213693952 := by unfold brought; omega
  have hb1 : brought x 0 2305843009213693952 ≤ 2305843009213693952 := by unfold brought; omega
  go_enter Try.func65, Try.ntmps65
  go_wp2_with (first | (go_at_call 66; refine (mul64_small _ _ (by omega) (by omega) _).mono ?_; rintro e w' ⟨rfl, rfl⟩) | (go_at_call 56; refine (brought_c _ _ _ _).mono ?_; rintro e w' ⟨rfl, rfl⟩))
  go_ret
  exact ⟨rfl, rfl⟩

theorem credit1_c (x b o : Int) (p q : Addr) (w : World) (hp : w.cell? p = some (.int .i64 b)) (hq : w.cell? q = some (.int .i64 o)) :
    Calls Try.prog 57 #[.int .i64 x, .pointer (some p), .pointer (some q)] w fun e w' => e = .returned (.int .i64 (cut x b o)) ∧ w = w' := by
  go_enter Try.func57, Try.ntmps57
  go_wp2_with (go_at_call 36; refine (cut_c _ _ _ _).mono ?_; rintro e w' ⟨rfl, rfl⟩)
  go_ret
  exact ⟨rfl, rfl⟩

theorem back1_c (x b o : Int) (p q : Addr) (w : World) (hp : w.cell? p = some (.int .i64 b)) (hq : w.cell? q = some (.int .i64 o)) :
    Calls Try.prog 58 #[.int .i64 x, .pointer (some p), .pointer (some q)] w fun e w' => e = .returned (.int .i64 (cut x b o)) ∧ w = w' := by
  go_enter Try.func58, Try.ntmps58
  go_wp2_with (go_at_call 36; refine (cut_c _ _ _ _).mono ?_; rintro e w' ⟨rfl, rfl⟩)
  go_ret
  exact ⟨rfl, rfl⟩

/-- What 'steps' has come to behind so many of its two steps. -/
def upTo (x n k b o : Int) (i : Nat) : Int := if i = 0 then x else if i = 1 then brought x 0 2305843009213693952 + n * k else cut (brought x 0 2305843009213693952 + n * k) b o

theorem steps_credit (x n k b o : Int) (bk : Nat) (p q u v : Addr) (w : World) (hn0 : 0 ≤ n) (hn1 : n ≤ 1000000) (hk0 : 0 ≤ k) (hk1 : k ≤ 1099511627776)
    (hp : w.cell? p = some (.int .i64 n)) (hq : w.cell? q = some (.int .i64 k)) (hu : w.cell? u = some (.int .i64 b)) (hv : w.cell? v = some (.int .i64 o))
    (h0 : w.cell? ⟨bk, 0, none⟩ = some (.func (.func 65) #[] #[.pointer (some p), .pointer (some q)])) (h1 : w.cell? ⟨bk, 1, none⟩ = some (.func (.func 57) #[] #[.pointer (some u), .pointer (some v)])) :
    Calls Try.prog 54 #[.int .i64 x, .slice (some ⟨bk, 0, none⟩) 2 2] w fun e w' => e = .returned (.int .i64 (upTo x n k b o 2)) ∧ w = w' := by
  go_enter Try.func54, Try.ntmps54
  go_wp2
  go_loop [0, 9] (fun y i => ∃ j : Nat, j ≤ 2 ∧ i = .int .i64 j ∧ y = .int .i64 (upTo x n k b o j)) (fun _ i => 2 - (intOf i).toNat)
  case atStart => exact ⟨0, by omega, rfl, rfl⟩
  case round =>
    obtain ⟨j, hj, rfl, rfl⟩ := hrel
    by_cases j0 : j = 0
    · subst j0
      go_wp2_with (first | (go_at_call 65; refine (more1_c _ _ _ p q _ hn0 hn1 hk0 hk1 hp hq).mono ?_; rintro e w' ⟨rfl, rfl⟩))
      go_round
      case rel => exact ⟨1, by omega, rfl, rfl⟩
      case measure => simp [intOf]
    · by_cases j1 : j = 1
      · subst j1
        go_wp2_with (first | (go_at_call 57; refine (credit1_c _ _ _ u v _ hu hv).mono ?_; rintro e w' ⟨rfl, rfl⟩))
        go_round
        case rel => exact ⟨2, by omega, rfl, rfl⟩
        case measure => simp [intOf]
      · obtain rfl : j = 2 := by omega
        go_wp2
        go_ret
        exact ⟨rfl, rfl⟩
end Go.Proofs.Ytgmbhbhjlhpbgaa
