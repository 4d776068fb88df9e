/- What VirtualEligible says: plain facts, and the walk. -/
import Derived.Test.YtbbcongfaoopcaaV9
namespace Go.Proofs.Ytbbcongfaoopcaa
open Go.ChangeShapes Go.WideShapes Go.ChangeAt Go.RowKit
set_option linter.unusedVariables false
set_option linter.unusedSimpArgs false
open BigFrame Vr Pk Fq

namespace Vr
theorem leastK_no {O : Nat → Int} {m : Nat → Bool} {n : Nat} (h : leastK O m n < 0) : ∀ i, i < n → m i = false := by
  induction n with
  | zero => intro i hi; omega
  | succ n ih =>
    intro i hi
    unfold leastK at h
    split at h
    · omega
    · rename_i hc
      have h2 := ih h
      by_cases e : i = n
      · subst e
        cases hm : m i with
        | false => rfl
        | true => exact absurd ⟨hm, .inl h⟩ hc
      · exact h2 i (by omega)
theorem leastK_yes {O : Nat → Int} {m : Nat → Bool} {n : Nat} (h : 0 ≤ leastK O m n) : m (leastK O m n).toNat = true ∧ ∀ i, i < n → m i = true → O (leastK O m n).toNat ≤ O i := by
  induction n with
  | zero => simp [leastK] at h
  | succ n ih =>
    have hd : leastK O m (n + 1) = if m n = true ∧ (leastK O m n < 0 ∨ O n < O (leastK O m n).toNat) then (n : Int) else leastK O m n := rfl
    by_cases hc : m n = true ∧ (leastK O m n < 0 ∨ O n < O (leastK O m n).toNat)
    · rw [if_pos hc] at hd
      rw [hd, Int.toNat_natCast]
      refine ⟨hc.1, fun i hi hmi => ?_⟩
      by_cases e : i = n
      · subst e; omega
      · rcases hc.2 with hneg | hlt
        · have := leastK_no hneg i (by omega); rw [hmi] at this; cases this
        · by_cases h0 : 0 ≤ leastK O m n
          · have := (ih h0).2 i (by omega) hmi; omega
          · have := leastK_no (show leastK O m n < 0 by omega) i (by omega); rw [hmi] at this; cases this
    · rw [if_neg hc] at hd
      rw [hd] at h ⊢
      obtain ⟨h1, h2⟩ := ih h
      refine ⟨h1, fun i hi hmi => ?_⟩
      by_cases e : i = n
      · subst e
        have : ¬ (O i < O (leastK O m i).toNat) := fun q => hc ⟨hmi, .inr q⟩
        omega
      · exact h2 i (by omega) hmi
theorem dvd_scale (w : Int) (h1 : 1 ≤ w) (h2 : w ≤ 16) : (720720 / w) * w = 720720 := by
  have : w = 1 ∨ w = 2 ∨ w = 3 ∨ w = 4 ∨ w = 5 ∨ w = 6 ∨ w = 7 ∨ w = 8 ∨ w = 9 ∨ w = 10 ∨ w = 11 ∨ w = 12 ∨ w = 13 ∨ w = 14 ∨ w = 15 ∨ w = 16 := by omega
  rcases this with rfl | rfl | rfl | rfl | rfl | rfl | rfl | rfl | rfl | rfl | rfl | rfl | rfl | rfl | rfl | rfl <;> rfl
theorem costTest (size weight all : Int) : ((costI size weight all != 0) && (wrap64 (costI size weight all * weight) != wrap64 (wrap64 (size * all) * 720720))) = false := by
  by_cases h : size < 1 ∨ 1500 < size ∨ weight < 1 ∨ 16 < weight ∨ all < weight ∨ 128 < all
  · rw [costI_no h]; rfl
  · have h1 := costI_ok (size := size) (weight := weight) (all := all) (by omega) (by omega) (by omega) (by omega) (by omega) (by omega)
    have m0 : 0 ≤ size * all := Int.mul_nonneg (by omega) (by omega)
    have m1 : size * all ≤ 192000 := Int.le_trans (Int.mul_le_mul (show size ≤ 1500 by omega) (show all ≤ 128 by omega) (by omega) (by omega)) (by omega)
    have e1 : wrap64 (size * all) = size * all := by unfold wrap64; omega
    have e2 : costI size weight all * weight = size * all * 720720 := by
      rw [h1, Int.mul_assoc, dvd_scale weight (by omega) (by omega)]
    rw [e1, e2]
    simp
end Vr