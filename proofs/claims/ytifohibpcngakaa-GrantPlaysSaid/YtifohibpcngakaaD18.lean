/- What GrantPlays says: few ways that end soon. -/
import Derived.Test.YtifohibpcngakaaD17
namespace Go.Proofs.Ytifohibpcngakaa
open Go.ChangeShapes Go.WideShapes Go.ChangeAt Go.RowKit Go.Maps Go.Deep
set_option linter.unusedVariables false
set_option linter.unusedSimpArgs false
open BigFrame Bs Gr

set_option maxRecDepth 100000 in
set_option maxHeartbeats 4000000 in
theorem grantPlays_long (w : World) (ti rho now : Int) (p1 : Option Addr) (N cp : Nat) (hN : 100 < N) :
    Calls Try.prog 4 #[.int .i64 ti, .int .i64 rho, .int .i64 now, .slice p1 N cp] w fun e w' => e = .returned (.bool true) ∧ Below w.heap.size w w' := by
  have b1 : (100 : Int) < (N : Int) := by omega
  go_enter Try.func4, Try.ntmps4
  go_wp2_with fail
  refine (wakes21_c _).mono ?_
  rintro e w3 ⟨rfl, hb⟩
  go_wp2_with fail
  go_ret
  exact ⟨rfl, hb⟩

set_option maxRecDepth 100000 in
set_option maxHeartbeats 4000000 in
theorem grantPlays_no (w : World) (ti rho now : Int) (p1 : Option Addr) (N cp : Nat) (hN : N ≤ 100) (h : ti < 1 ∨ 1099511627776 < ti ∨ rho < 0 ∨ 200 < rho ∨ now < 0) :
    Calls Try.prog 4 #[.int .i64 ti, .int .i64 rho, .int .i64 now, .slice p1 N cp] w fun e w' => e = .returned (.bool true) ∧ Below w.heap.size w w' := by
  have b1 : (N : Int) ≤ 100 := by omega
  have hn1 := Lib.hid (dnew_no w ti rho now h)
  have hn2 := Lib.hid (rdnew_no w ti rho now h)
  have ho := fun u v k => over_nil u v k
  unfold stV at ho
  replace ho := Lib.hid ho
  clear h
  go_enter Try.func4, Try.ntmps4
  go_wp2_with fail
  refine hn1.out.mono ?_
  rintro e w1 ⟨rfl, rfl⟩
  go_wp2_with fail
  refine hn2.out.mono ?_
  rintro e w2 ⟨rfl, rfl⟩
  go_wp2_with fail
  refine (made_nil _ _ _).mono ?_
  rintro e w3 ⟨rfl, rfl⟩
  go_wp2_with fail
  refine (gone_nil _ _ _ _).mono ?_
  rintro e w4 ⟨rfl, rfl⟩
  go_wp2_with fail
  refine (ho.out _ _ _).mono ?_
  rintro e w5 ⟨rfl, hb5⟩
  go_wp2_with fail
  refine (wakes21_c _).mono ?_
  rintro e w6 ⟨rfl, hb6⟩
  have hF := Lib.hid (bNext (bNext (((Below.refl w3.heap.size w3).alloc (Nat.le_refl _) (.cells #[.int .i64 1] 3)).alloc (by simp) (.cells #[.int .i64 1, .int .i64 0, .int .i64 0, .int .i64 0, .int .i64 0, .int .i64 0, .int .i64 0] 38)) hb5 (Nat.le_refl _)) hb6 (Nat.le_refl _))
  go_wp2_with fail
  go_ret
  exact ⟨rfl, hF.out⟩

theorem grantPlays_walk (w : World) (a0 a1 a2 : Int) (v3 : Value) (a3 : XT_LAct) (w0 : (Lit.int .i64 a0).wf = true) (w1 : (Lit.int .i64 a1).wf = true) (w2 : (Lit.int .i64 a2).wf = true) (w3 : Is_LAct w v3 a3) :
    Calls Try.prog 4 #[.int .i64 a0, .int .i64 a1, .int .i64 a2, v3] w fun e w' => e = .returned (.bool true) ∧ Below w.heap.size w w' := by
  obtain ⟨a, len, cap, rfl, _, _, hf⟩ := w3
  by_cases hN : len ≤ 100
  · by_cases hr : a0 < 1 ∨ 1099511627776 < a0 ∨ a1 < 0 ∨ 200 < a1 ∨ a2 < 0
    · exact grantPlays_no w a0 a1 a2 a len cap hN hr
    · exact grantPlays_some w a0 a1 a2 a len cap hN (by omega) (by omega) ⟨by omega, (bounds_i64 w2).2⟩ hf
  · exact grantPlays_long w a0 a1 a2 a len cap (by omega)
end Go.Proofs.Ytifohibpcngakaa
