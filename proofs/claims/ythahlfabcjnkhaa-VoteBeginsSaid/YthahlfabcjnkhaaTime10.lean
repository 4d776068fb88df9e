/- The contracts of vote's Timeout and of the reference's. -/
import Derived.Test.YthahlfabcjnkhaaCount10
namespace Go.Proofs.Ythahlfabcjnkhaa
open Go.ChangeShapes Go.WideShapes Go.ChangeAt Go.RowKit
set_option linter.unusedVariables false
set_option linter.unusedSimpArgs false
theorem max_fold (a b : Int) : (if a < b then b else a) = max a b := by omega
theorem min_fold (a b : Int) : (if a < b then a else b) = min a b := by omega
attribute [local go_sem] max_fold min_fold

def baseF (b : Int) : Int := min 1099511627776 (max b 1)
def timeF (b d : Int) : Int := baseF b + (d.tmod (baseF b) + baseF b) % baseF b
theorem baseF_pos (b : Int) : 0 < baseF b ∧ baseF b ≤ 1099511627776 := by unfold baseF; omega
theorem time_bounds (b d : Int) : baseF b ≤ timeF b d ∧ timeF b d < 2 * baseF b := by
  have h := baseF_pos b
  have t3 := Int.emod_nonneg (d.tmod (baseF b) + baseF b) (show baseF b ≠ 0 by omega)
  have t4 := Int.emod_lt_of_pos (d.tmod (baseF b) + baseF b) h.1
  unfold timeF; omega
theorem time_go (b d : Int) : wrap64 (min 1099511627776 (max b 1) + (wrap64 (d.tmod (min 1099511627776 (max b 1)) + min 1099511627776 (max b 1))).tmod (min 1099511627776 (max b 1))) = timeF b d := by
  have h := baseF_pos b
  have hb := time_bounds b d
  show wrap64 (baseF b + (wrap64 (d.tmod (baseF b) + baseF b)).tmod (baseF b)) = timeF b d
  have t1 := Int.tmod_lt_of_pos d h.1
  have t2 := Int.lt_tmod_of_pos d h.1
  rw [IntWalk.wrap64_in (d.tmod (baseF b) + baseF b) (by omega), Int.tmod_eq_emod_of_nonneg (by omega)]
  exact IntWalk.wrap64_in _ (by unfold timeF at hb; omega)
theorem ret_int' {a b : Int} (h : a = b) : Ending.returned (.int .i64 a) = .returned (.int .i64 b) := by rw [h]
theorem timeout_c (b d : Int) (w : World) :
    Calls Try.prog 44 #[.int .i64 b, .int .i64 d] w fun e w' => e = .returned (.int .i64 (timeF b d)) ∧ w = w' := by
  go_enter Try.func44, Try.ntmps44
  go_wp2
  go_ret
  exact ⟨ret_int' (time_go b d), rfl⟩
theorem rtimeout_c (b d : Int) (w : World) :
    Calls Try.prog 57 #[.int .i64 b, .int .i64 d] w fun e w' => e = .returned (.int .i64 (timeF b d)) ∧ w = w' := by
  go_enter Try.func57, Try.ntmps57
  go_wp2
  go_ret
  exact ⟨ret_int' (time_go b d), rfl⟩
/-- The least draw is the base. -/
theorem time_zero (b : Int) : timeF b 0 = baseF b := by
  have h := baseF_pos b
  unfold timeF; simp
theorem base_base (b : Int) : baseF (baseF b) = baseF b := by unfold baseF; omega
theorem time_base (b d : Int) : timeF (baseF b) d = timeF b d := by unfold timeF; rw [base_base]
/-- Draws that differ by the base are one. -/
theorem tmod_add (d B : Int) (h : 0 < B) : ((d + B).tmod B + B) % B = (d.tmod B + B) % B := by
  have e : ∀ x : Int, (x.tmod B + B) % B = x % B := fun x => by
    rw [Int.add_emod_right]
    have h1 := Int.mul_tdiv_add_tmod x B
    have : x.tmod B = x + B * (- x.tdiv B) := by rw [Int.mul_neg]; omega
    rw [this, Int.add_mul_emod_self_left]
  rw [e, e, Int.add_emod_right]
theorem time_add (b d : Int) : timeF b (d + baseF b) = timeF b d := by unfold timeF; rw [tmod_add _ _ (baseF_pos b).1]
end Go.Proofs.Ythahlfabcjnkhaa
