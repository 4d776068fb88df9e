/- Plain laws of one change of a set. No program here. -/
import Derived.Test.YtgmbhbhjlhpbgaaConf2
import Derived.Test.YtgmbhbhjlhpbgaaConf6
namespace Go.Proofs.Ytgmbhbhjlhpbgaa
set_option linter.unusedVariables false
set_option linter.unusedSimpArgs false
open B7 Cf Mt

namespace Cf
theorem chg_add' : ∀ s : Fin 128, ∀ j : Fin 7, s.val ≠ 0 → nb s.val j.val = 0 → (s.val ||| 2 ^ j.val) < 128 ∧ (s.val ||| 2 ^ j.val) ≠ 0 ∧ nb (s.val ||| 2 ^ j.val) j.val = 1 ∧ cnt (s.val ||| 2 ^ j.val) 7 = cnt s.val 7 + 1 ∧ (s.val ||| 2 ^ j.val) &&& (255 - 2 ^ j.val) = s.val ∧ 1 ≤ cnt s.val 7 ∧ s.val &&& (s.val ||| 2 ^ j.val) = s.val ∧ s.val ||| (s.val ||| 2 ^ j.val) = (s.val ||| 2 ^ j.val) := by decide +kernel
theorem chg_rem' : ∀ s : Fin 128, ∀ j : Fin 7, nb s.val j.val = 1 → cnt s.val 7 ≠ 1 → (s.val &&& (255 - 2 ^ j.val)) < 128 ∧ (s.val &&& (255 - 2 ^ j.val)) ≠ 0 ∧ nb (s.val &&& (255 - 2 ^ j.val)) j.val = 0 ∧ cnt s.val 7 = cnt (s.val &&& (255 - 2 ^ j.val)) 7 + 1 ∧ (s.val &&& (255 - 2 ^ j.val)) ||| 2 ^ j.val = s.val ∧ 1 ≤ cnt (s.val &&& (255 - 2 ^ j.val)) 7 ∧ s.val &&& (s.val &&& (255 - 2 ^ j.val)) = (s.val &&& (255 - 2 ^ j.val)) ∧ s.val ||| (s.val &&& (255 - 2 ^ j.val)) = s.val := by decide +kernel
/-- x is y and node n more. -/
structure More (y x : Nat) (n : Int) : Prop where
  n1 : 1 ≤ n
  n7 : n ≤ 7
  y0 : y ≠ 0
  yl : y < 128
  x0 : x ≠ 0
  xl : x < 128
  hy : hasB y n = false
  hx : hasB x n = true
  c : cnt x 7 = cnt y 7 + 1
  c1 : 1 ≤ cnt y 7
  add : x = y ||| 2 ^ (n - 1).toNat
  rem : y = x &&& (255 - 2 ^ (n - 1).toNat)
  and : y &&& x = y
  or : y ||| x = x
theorem nb_of_has {s j : Nat} (h : j < 7) : hasB s ((j : Int) + 1) = true ↔ nb s j = 1 := by rw [hasB_in s j h]; simp; omega
theorem more_of_add {s : Nat} {n : Int} (h : addE s n = 0) : More s (addV s n) n := by
  unfold addE at h
  split at h
  · cases h
  · rename_i hp
    split at h
    · cases h
    · rename_i hh
      have hm : mayB s = true := by cases hc : mayB s with | true => rfl | false => exact absurd (Or.inl hc) hp
      have hn : 1 ≤ n ∧ n ≤ 7 := Decidable.byContradiction fun hc => hp (.inr hc)
      have hv : addV s n = s ||| 2 ^ (n - 1).toNat := by unfold addV; rw [if_neg (fun h => h.elim (fun h => hp (.inl h)) (fun h => h.elim (fun h => h hn) hh))]
      obtain ⟨s0, sl⟩ := may_of hm
      obtain ⟨j, rfl⟩ : ∃ j : Nat, n = (j : Int) + 1 := ⟨(n - 1).toNat, by omega⟩
      have hj : j < 7 := by omega
      have hb : nb s j = 0 := by have := nb_le s j; have := mt (nb_of_has hj).2 hh; omega
      have ht : ((j : Int) + 1 - 1).toNat = j := by omega
      rw [hv, ht]
      obtain ⟨q1, q2, q3, q4, q5, q6, q7, q8⟩ := chg_add' ⟨s, sl⟩ ⟨j, hj⟩ s0 hb
      exact ⟨hn.1, hn.2, s0, sl, q2, q1, Bool.eq_false_iff.2 hh, (nb_of_has hj).2 q3, q4, q6, by rw [ht], by rw [ht]; exact q5.symm, q7, q8⟩
theorem more_of_rem {s : Nat} {n : Int} (h : remE s n = 0) : More (remV s n) s n := by
  unfold remE at h
  split at h
  · cases h
  · rename_i hp
    split at h
    · cases h
    · rename_i hh
      split at h
      · cases h
      · rename_i hz
        have hm : mayB s = true := by cases hc : mayB s with | true => rfl | false => exact absurd (Or.inl hc) hp
        have hn : 1 ≤ n ∧ n ≤ 7 := Decidable.byContradiction fun hc => hp (.inr hc)
        have hv : remV s n = s &&& (255 - 2 ^ (n - 1).toNat) := by unfold remV; rw [if_neg (fun h => h.elim (fun h => hp (.inl h)) (fun h => h.elim (fun h => h hn) (fun h => h.elim hh hz)))]
        obtain ⟨s0, sl⟩ := may_of hm
        obtain ⟨j, rfl⟩ : ∃ j : Nat, n = (j : Int) + 1 := ⟨(n - 1).toNat, by omega⟩
        have hj : j < 7 := by omega
        rw [Bool.not_eq_false] at hh
        have hb : nb s j = 1 := (nb_of_has hj).1 hh
        have ht : ((j : Int) + 1 - 1).toNat = j := by omega
        rw [hv, ht]
        obtain ⟨q1, q2, q3, q4, q5, q6, q7, q8⟩ := chg_rem' ⟨s, sl⟩ ⟨j, hj⟩ hb hz
        exact ⟨hn.1, hn.2, q2, q1, s0, sl, Bool.eq_false_iff.2 (fun h => by have := (nb_of_has hj).1 h; simp only at q3; omega), hh, q4, q6, by rw [ht]; exact q5.symm, by rw [ht], by rw [Nat.and_comm]; exact q7, by rw [Nat.or_comm]; exact q8⟩
theorem More.may {y x : Nat} {n : Int} (h : More y x n) : mayB y = true ∧ mayB x = true := ⟨decide_eq_true ⟨h.y0, h.yl⟩, decide_eq_true ⟨h.x0, h.xl⟩⟩
theorem More.addE0 {y x : Nat} {n : Int} (h : More y x n) : addE y n = 0 ∧ addV y n = x := by
  have h1 := h.may.1
  have hp : ¬ (mayB y = false ∨ ¬ (1 ≤ n ∧ n ≤ 7)) := fun k => k.elim (fun k => by rw [h1] at k; cases k) (fun k => k ⟨h.n1, h.n7⟩)
  have hh : ¬ hasB y n = true := by rw [h.hy]; decide
  refine ⟨by unfold addE; rw [if_neg hp, if_neg hh], ?_⟩
  unfold addV
  rw [if_neg (fun k => k.elim (fun k => hp (.inl k)) (fun k => k.elim (fun k => hp (.inr k)) hh))]
  exact h.add.symm
theorem More.remE0 {y x : Nat} {n : Int} (h : More y x n) : remE x n = 0 ∧ remV x n = y := by
  have h1 := h.may.2
  have hp : ¬ (mayB x = false ∨ ¬ (1 ≤ n ∧ n ≤ 7)) := fun k => k.elim (fun k => by rw [h1] at k; cases k) (fun k => k ⟨h.n1, h.n7⟩)
  have hh : ¬ hasB x n = false := by rw [h.hx]; decide
  have hz : ¬ cnt x 7 = 1 := by have := h.c; have := h.c1; omega
  refine ⟨by unfold remE; rw [if_neg hp, if_neg hh, if_neg hz], ?_⟩
  unfold remV
  rw [if_neg (fun k => k.elim (fun k => hp (.inl k)) (fun k => k.elim (fun k => hp (.inr k)) (fun k => k.elim hh hz)))]
  exact h.rem.symm
theorem More.notBoth {s : Nat} {n : Int} (h1 : addE s n = 0) (h2 : remE s n = 0) : False := by
  have a := (more_of_add h1).hy
  have b := (more_of_rem h2).hx
  rw [a] at b; cases b
/-- Sets that differ by one meet. -/
theorem More.meets {y x : Nat} {n : Int} (h : More y x n) : meetsB y x = true ∧ meetsB x y = true := by
  have hc := h.c
  have hand := h.and
  have hand' : x &&& y = y := by rw [Nat.and_comm]; exact hand
  refine ⟨?_, ?_⟩
  · unfold meetsB
    rw [h.may.1, h.may.2, Bool.true_and, Bool.true_and, hand]
    apply decide_eq_true
    unfold need; omega
  · unfold meetsB
    rw [h.may.1, h.may.2, Bool.true_and, Bool.true_and, hand']
    apply decide_eq_true
    unfold need; omega
/-- Majorities of sets that differ by one have a node in common. -/
theorem More.common {y x : Nat} {n : Int} (h : More y x n) (p q : Nat) (hp : cnt y 7 < 2 * cnt (y &&& p) 7) (hq : cnt x 7 < 2 * cnt (x &&& q) 7) : p &&& q &&& y &&& x ≠ 0 := by
  intro hz
  have r := cnt_rel (y &&& p) (x &&& q) (y ||| x) 0 (fun j hj => by
    have h1 := congrArg (fun z => z.testBit j) hz
    simp only [Nat.testBit_and, Nat.zero_testBit] at h1
    revert h1
    unfold nb; simp only [Nat.testBit_and, Nat.testBit_or, Nat.zero_testBit]; cases y.testBit j <;> cases x.testBit j <;> cases p.testBit j <;> cases q.testBit j <;> simp) 7 (by omega)
  rw [cnt_zero, h.or] at r
  have := h.c
  omega
end Cf
end Go.Proofs.Ytgmbhbhjlhpbgaa
