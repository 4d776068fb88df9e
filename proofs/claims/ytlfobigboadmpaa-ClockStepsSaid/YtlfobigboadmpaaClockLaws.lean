/- The walks of the statements of layer 3 (clock). -/
import Derived.Test.YtlfobigboadmpaaClock2
namespace Go.Proofs.Ytlfobigboadmpaa
open Go.ChangeShapes Go.WideShapes Go.ChangeAt Go.RowKit
set_option linter.unusedVariables false
set_option linter.unusedSimpArgs false
attribute [local go_sem] max_fold min_fold
open Ck

theorem inv_zero {r : Int} (h0 : 0 ≤ r) (h1 : r ≤ 200) : Ck.Inv 0 0 r := ⟨h0, h1, by omega, by omega, by omega, by omega⟩

theorem wakes03_c (w : World) : Calls Try.prog 11 #[] w fun e w' => e = .returned (.bool true) ∧ Below w.heap.size w w' := by
  have e1 : (sure 10999 100 == 9) = true := by decide
  have e2 : (over 10 100 == 12223) = true := by decide
  have e3 : (0 : Int) + Ck.adv 100 10 99999 = 11000 := by decide
  go_enter Try.func11, Try.ntmps11
  go_wp2_with fail
  refine (new_ok 100 _ (by omega) (by omega)).mono ?_
  rintro e w1 ⟨rfl, hA, hb1⟩
  go_wp2_with fail
  refine (step_ok w.heap.size 0 0 100 10 99999 _ hA (inv_zero (by omega) (by omega)) (by omega) (by omega)).mono ?_
  rw [e3]
  rintro e w2 ⟨rfl, hA2, ho⟩
  have hb2 : Below w.heap.size w w2 := hb1.trans (ho.below (Nat.le_refl _) hb1.size)
  clear e3
  go_wp2_with (first | (go_at_call 14; refine (now_c _ _ _ _ _ hA2).mono ?_; rintro e w' ⟨rfl, rfl⟩) | (go_at_call 15; refine (true_c _ _ _ _ _ hA2).mono ?_; rintro e w' ⟨rfl, rfl⟩))
  refine (surely_c 10999 100 _).mono ?_
  rintro e w3 ⟨rfl, hb3⟩
  go_wp2_with fail
  refine (over_c 10 100 _).mono ?_
  rintro e w4 ⟨rfl, hb4⟩
  go_wp2
  go_ret
  exact ⟨rfl, belowNext (belowNext hb2 hb3 (Nat.le_refl _)) hb4 (Nat.le_refl _)⟩

theorem clockParts_walk (w : World) (a0 a1 a2 : Int) (w0 : (Lit.int .i64 a0).wf = true) (w1 : (Lit.int .i64 a1).wf = true) (w2 : (Lit.int .i64 a2).wf = true) :
    Calls Try.prog 3 #[.int .i64 a0, .int .i64 a1, .int .i64 a2] w fun e w' => e = .returned (.bool true) ∧ Below w.heap.size w w' := by
  clear w0 w1 w2
  have hb := Below.refl w.heap.size w
  go_enter Try.func3, Try.ntmps3
  go_wp2_with (first | (go_at_call 7; refine (surely_c _ _ _).mono ?_; rintro e w1 ⟨rfl, hb1⟩; replace hb := belowNext hb hb1 (Nat.le_refl _); clear hb1) | (go_at_call 9; refine (over_c _ _ _).mono ?_; rintro e w1 ⟨rfl, hb1⟩; replace hb := belowNext hb hb1 (Nat.le_refl _); clear hb1) | (go_at_call 8; refine (rsurely_c _ _ _).mono ?_; rintro e w' ⟨rfl, rfl⟩) | (go_at_call 10; refine (rover_c _ _ _).mono ?_; rintro e w' ⟨rfl, rfl⟩) | (go_at_call 11; refine (wakes03_c _).mono ?_; rintro e w1 ⟨rfl, hb1⟩; replace hb := belowNext hb hb1 (Nat.le_refl _); clear hb1))
  go_ret
  exact ⟨rfl, hb⟩
end Go.Proofs.Ytlfobigboadmpaa
