/- Virtual time: costs, and the check of one flow's tags. -/
import Derived.Test.YtkefkophlhcbiaaPk1
namespace Go.Proofs.Ytkefkophlhcbiaa
open Go.ChangeShapes Go.WideShapes Go.ChangeAt Go.RowKit
set_option linter.unusedVariables false
set_option linter.unusedSimpArgs false
open BigFrame

namespace Vr
/-- The cost of a packet. -/
def costI (size weight all : Int) : Int := if size < 1 ∨ 1500 < size ∨ weight < 1 ∨ 16 < weight ∨ all < weight ∨ 128 < all then 0 else size * all * (720720 / weight)
/-- May a flow's tags not be? -/
def tagBad (s f : Int) : Bool := decide (s < 0) || (decide (f < s) || decide (1152921504606846976 < f))
end Vr
open Vr

set_option maxRecDepth 100000 in
set_option maxHeartbeats 2000000 in
theorem vcost_no (size weight all : Int) (w : World) (h : size < 1 ∨ 1500 < size ∨ weight < 1 ∨ 16 < weight ∨ all < weight ∨ 128 < all) :
    Calls Try.prog 68 #[.int .i64 size, .int .i64 weight, .int .i64 all] w fun e w' => e = .returned (.int .i64 0) ∧ w' = w := by
  by_cases h1 : size < 1
  · go_enter Try.func68, Try.ntmps68
    go_wp2_with fail
    go_ret
    exact ⟨rfl, rfl⟩
  by_cases h2 : 1500 < size
  · go_enter Try.func68, Try.ntmps68
    go_wp2_with fail
    go_ret
    exact ⟨rfl, rfl⟩
  by_cases h3 : weight < 1
  · go_enter Try.func68, Try.ntmps68
    go_wp2_with fail
    go_ret
    exact ⟨rfl, rfl⟩
  by_cases h4 : 16 < weight
  · go_enter Try.func68, Try.ntmps68
    go_wp2_with fail
    go_ret
    exact ⟨rfl, rfl⟩
  by_cases h5 : all < weight
  · go_enter Try.func68, Try.ntmps68
    go_wp2_with fail
    go_ret
    exact ⟨rfl, rfl⟩
  have h6 : 128 < all := by omega
  clear h
  go_enter Try.func68, Try.ntmps68
  go_wp2_with fail
  go_ret
  exact ⟨rfl, rfl⟩

set_option maxRecDepth 100000 in
set_option maxHeartbeats 2000000 in
theorem vcost_ok (size weight all : Int) (w : World) (h1 : 1 ≤ size) (h2 : size ≤ 1500) (h3 : 1 ≤ weight) (h4 : weight ≤ 16) (h5 : weight ≤ all) (h6 : all ≤ 128) :
    Calls Try.prog 68 #[.int .i64 size, .int .i64 weight, .int .i64 all] w fun e w' => e = .returned (.int .i64 (size * all * (720720 / weight))) ∧ w' = w := by
  have g1 : ¬ size < 1 := by omega
  have g2 : ¬ 1500 < size := by omega
  have g3 : ¬ weight < 1 := by omega
  have g4 : ¬ 16 < weight := by omega
  have g5 : ¬ all < weight := by omega
  have g6 : ¬ 128 < all := by omega
  have g7 : ¬ weight = 0 := by omega
  obtain ⟨q, hq⟩ : ∃ q, 720720 / weight = q := ⟨_, rfl⟩
  have q0 : 0 ≤ q := by rw [← hq]; exact Int.ediv_nonneg (by omega) (by omega)
  have q1 : q ≤ 720720 := by rw [← hq]; exact Int.ediv_le_self _ (by omega)
  obtain ⟨m, hm⟩ : ∃ m, size * all = m := ⟨_, rfl⟩
  have m0 : 0 ≤ m := by rw [← hm]; exact Int.mul_nonneg (by omega) (by omega)
  have m1 : m ≤ 192000 := by rw [← hm]; exact Int.le_trans (Int.mul_le_mul h2 h6 (by omega) (by omega)) (by omega)
  obtain ⟨c, hc⟩ : ∃ c, m * q = c := ⟨_, rfl⟩
  have c0 : 0 ≤ c := by rw [← hc]; exact Int.mul_nonneg m0 q0
  have c1 : c ≤ 138378240000 := by rw [← hc]; exact Int.le_trans (Int.mul_le_mul m1 q1 q0 (by omega)) (by omega)
  rw [hq, hm, hc]
  go_enter Try.func68, Try.ntmps68
  go_wp2_with fail
  exact bodyPost_ret (v := .int .i64 c) (by simp [results, Try.results68, go_sem]) rfl ⟨rfl, rfl⟩

set_option maxRecDepth 100000 in
set_option maxHeartbeats 2000000 in
theorem vtag_c (s f : Int) (w : World) :
    Calls Try.prog 72 #[.agg #[.int .i64 s, .int .i64 f]] w fun e w' => e = .returned (.bool (tagBad s f)) ∧ w' = w.alloc (.cells #[.int .i64 s, .int .i64 f] 124) := by
  unfold tagBad
  by_cases h1 : s < 0
  · go_enter Try.func72, Try.ntmps72
    go_wp2_with fail
    exact bodyPost_ret (v := .bool true) (by simp [results, Try.results72, go_sem]) rfl ⟨by simp [h1], rfl⟩
  by_cases h2 : f < s
  · go_enter Try.func72, Try.ntmps72
    go_wp2_with fail
    exact bodyPost_ret (v := .bool true) (by simp [results, Try.results72, go_sem]) rfl ⟨by simp [h2], rfl⟩
  by_cases h3 : 1152921504606846976 < f
  · go_enter Try.func72, Try.ntmps72
    go_wp2_with fail
    exact bodyPost_ret (v := .bool true) (by simp [results, Try.results72, go_sem]) rfl ⟨by simp [h3], rfl⟩
  · go_enter Try.func72, Try.ntmps72
    go_wp2_with fail
    exact bodyPost_ret (v := .bool false) (by simp [results, Try.results72, go_sem]) rfl ⟨by simp [h1, h2, h3], rfl⟩
end Go.Proofs.Ytkefkophlhcbiaa
