/- The plain law of meeting majorities of sets of seven nodes. No program here. -/
import Derived.Test.YtgmbhbhjlhpbgaaBits7
namespace Go.Proofs.Ytgmbhbhjlhpbgaa
set_option linter.unusedVariables false
set_option linter.unusedSimpArgs false
open B7

namespace Mt
theorem cnt_rel (x1 x2 x3 x4 : Nat) (h : ∀ j, j < 7 → nb x1 j + nb x2 j ≤ nb x3 j + nb x4 j) (k : Nat) (hk : k ≤ 7) : cnt x1 k + cnt x2 k ≤ cnt x3 k + cnt x4 k := by
  induction k with
  | zero => exact Nat.le_refl _
  | succ k ih =>
    have ih := ih (by omega)
    have := h k (by omega)
    simp only [cnt]
    omega
theorem cnt_zero (k : Nat) : cnt 0 k = 0 := by
  induction k with
  | zero => rfl
  | succ k ih => simp only [cnt, ih, nb, Nat.zero_testBit]; rfl
def need (s both : Nat) : Int := max ((cnt s 7 : Int) / 2 + 1 - ((cnt s 7 : Int) - (both : Int))) 0
def bad (a b x y : Nat) : Prop := cnt a 7 < 2 * cnt (a &&& (x &&& a)) 7 ∧ cnt b 7 < 2 * cnt (b &&& (y &&& b)) 7 ∧ (x &&& a) &&& (y &&& b) = 0
theorem part (c n : Nat) (k : Nat) : n ≤ cnt c k → ∃ d, (∀ j, d.testBit j = true → c.testBit j = true ∧ j < k) ∧ cnt d k = n := by
  induction k generalizing n with
  | zero => intro h; exact ⟨0, fun j hj => by simp at hj, by simp [cnt] at h ⊢; omega⟩
  | succ k ih =>
    intro h
    by_cases hn : n ≤ cnt c k
    · obtain ⟨d, h1, h2⟩ := ih n hn
      refine ⟨d, fun j hj => ⟨(h1 j hj).1, by have := (h1 j hj).2; omega⟩, ?_⟩
      have : nb d k = 0 := by
        unfold nb
        cases hd : d.testBit k with
        | false => rfl
        | true => have := (h1 k hd).2; omega
      simp only [cnt]; omega
    · have hb : nb c k = 1 := by have := nb_le c k; simp only [cnt] at h; omega
      have hcb : c.testBit k = true := by
        unfold nb at hb
        cases hd : c.testBit k with
        | false => rw [hd] at hb; cases hb
        | true => rfl
      obtain ⟨d, h1, h2⟩ := ih (cnt c k) (Nat.le_refl _)
      have hdk : d.testBit k = false := by
        cases hd : d.testBit k with
        | false => rfl
        | true => have := (h1 k hd).2; omega
      refine ⟨d ||| 2 ^ k, fun j hj => ?_, ?_⟩
      · rw [Nat.testBit_or] at hj
        by_cases hjk : j = k
        · subst hjk; exact ⟨hcb, by omega⟩
        · rw [Nat.testBit_two_pow_of_ne (by omega), Bool.or_false] at hj
          exact ⟨(h1 j hj).1, by have := (h1 j hj).2; omega⟩
      · have e1 : nb (d ||| 2 ^ k) k = 1 := by unfold nb; rw [Nat.testBit_or, Nat.testBit_two_pow_self, Bool.or_true]; rfl
        have e2 : ∀ m, m ≤ k → cnt (d ||| 2 ^ k) m = cnt d m := by
          intro m
          induction m with
          | zero => intro _; rfl
          | succ m ihm =>
            intro hm
            simp only [cnt]
            rw [ihm (by omega)]
            have : nb (d ||| 2 ^ k) m = nb d m := by unfold nb; rw [Nat.testBit_or, Nat.testBit_two_pow_of_ne (by omega), Bool.or_false]
            omega
        have e3 := e2 k (Nat.le_refl _)
        simp only [cnt] at h ⊢
        omega
theorem lt128 {d : Nat} (h : ∀ j, d.testBit j = true → j < 7) : d < 128 := by
  apply Nat.lt_pow_two_of_testBit (n := 7)
  intro j hj
  cases hd : d.testBit j with
  | false => rfl
  | true => have := h j hd; omega
theorem meets_iff (a b : Nat) (ha : a < 128) (hb : b < 128) :
    ((cnt (a &&& b) 7 : Int) < need a (cnt (a &&& b) 7) + need b (cnt (a &&& b) 7)) ↔ ∀ x, x < 128 → ∀ y, y < 128 → ¬ bad a b x y := by
  constructor
  · rintro h x hx y hy ⟨h1, h2, h3⟩
    have r1 := cnt_rel (a &&& (x &&& a)) (a &&& b) ((x &&& a) &&& b) a (fun j hj => by
      unfold nb; simp only [Nat.testBit_and]; cases a.testBit j <;> cases b.testBit j <;> cases x.testBit j <;> decide) 7 (by omega)
    have r2 := cnt_rel (b &&& (y &&& b)) (a &&& b) ((y &&& b) &&& a) b (fun j hj => by
      unfold nb; simp only [Nat.testBit_and]; cases a.testBit j <;> cases b.testBit j <;> cases y.testBit j <;> decide) 7 (by omega)
    have r3 := cnt_rel ((x &&& a) &&& b) ((y &&& b) &&& a) (a &&& b) 0 (fun j hj => by
      have h4 := congrArg (fun z => z.testBit j) h3
      simp only [Nat.testBit_and, Nat.zero_testBit] at h4
      revert h4
      unfold nb; simp only [Nat.testBit_and, Nat.zero_testBit]; cases a.testBit j <;> cases b.testBit j <;> cases x.testBit j <;> cases y.testBit j <;> decide) 7 (by omega)
    rw [cnt_zero] at r3
    unfold need at h
    omega
  · intro h
    refine Decidable.byContradiction fun hn => ?_
    have hc1 := cnt_and_le a b 7
    have hc2 : cnt (a &&& b) 7 ≤ cnt b 7 := by have := cnt_and_le b a 7; rwa [Nat.and_comm] at this
    obtain ⟨n1, e1⟩ : ∃ n1 : Nat, need a (cnt (a &&& b) 7) = n1 := ⟨(need a (cnt (a &&& b) 7)).toNat, by unfold need; omega⟩
    obtain ⟨n2, e2⟩ : ∃ n2 : Nat, need b (cnt (a &&& b) 7) = n2 := ⟨(need b (cnt (a &&& b) 7)).toNat, by unfold need; omega⟩
    have hle : n1 + n2 ≤ cnt (a &&& b) 7 := by omega
    obtain ⟨d, d1, d2⟩ := part (a &&& b) n1 7 (by omega)
    have hx : cnt ((a &&& b) ^^^ d) 7 + n1 = cnt (a &&& b) 7 := by
      have q1 := cnt_rel ((a &&& b) ^^^ d) d (a &&& b) 0 (fun j hj => by
        have := d1 j
        revert this
        unfold nb; simp only [Nat.testBit_and, Nat.testBit_xor, Nat.zero_testBit]; cases a.testBit j <;> cases b.testBit j <;> cases d.testBit j <;> simp) 7 (by omega)
      have q2 := cnt_rel (a &&& b) 0 ((a &&& b) ^^^ d) d (fun j hj => by
        have := d1 j
        revert this
        unfold nb; simp only [Nat.testBit_and, Nat.testBit_xor, Nat.zero_testBit]; cases a.testBit j <;> cases b.testBit j <;> cases d.testBit j <;> simp) 7 (by omega)
      rw [cnt_zero] at q1 q2
      omega
    obtain ⟨f, f1, f2⟩ := part ((a &&& b) ^^^ d) n2 7 (by omega)
    have fa : ∀ j, f.testBit j = true → a.testBit j = true ∧ b.testBit j = true ∧ d.testBit j = false := fun j hj => by
      have h1 := (f1 j hj).1
      have h2 := d1 j
      revert h1 h2
      simp only [Nat.testBit_and, Nat.testBit_xor]
      cases a.testBit j <;> cases b.testBit j <;> cases d.testBit j <;> simp
    have da : ∀ j, d.testBit j = true → a.testBit j = true ∧ b.testBit j = true := fun j hj => by
      have h1 := (d1 j hj).1
      revert h1
      simp only [Nat.testBit_and]
      cases a.testBit j <;> cases b.testBit j <;> simp
    have pl : (a ^^^ (a &&& b)) ||| d < 128 := Nat.or_lt_two_pow (n := 7) (Nat.xor_lt_two_pow ha (Nat.lt_of_le_of_lt Nat.and_le_left ha)) (lt128 fun j hj => (d1 j hj).2)
    have ql : (b ^^^ (a &&& b)) ||| f < 128 := Nat.or_lt_two_pow (n := 7) (Nat.xor_lt_two_pow hb (Nat.lt_of_le_of_lt Nat.and_le_left ha)) (lt128 fun j hj => (f1 j hj).2)
    refine h _ pl _ ql ⟨?_, ?_, ?_⟩
    · have q := cnt_rel a d (a &&& (((a ^^^ (a &&& b)) ||| d) &&& a)) (a &&& b) (fun j hj => by
        have := da j
        revert this
        unfold nb; simp only [Nat.testBit_and, Nat.testBit_xor, Nat.testBit_or]; cases a.testBit j <;> cases b.testBit j <;> cases d.testBit j <;> simp) 7 (by omega)
      unfold need at e1
      omega
    · have q := cnt_rel b f (b &&& (((b ^^^ (a &&& b)) ||| f) &&& b)) (a &&& b) (fun j hj => by
        have := fa j
        revert this
        unfold nb; simp only [Nat.testBit_and, Nat.testBit_xor, Nat.testBit_or]; cases a.testBit j <;> cases b.testBit j <;> cases f.testBit j <;> simp) 7 (by omega)
      unfold need at e2
      omega
    · apply Nat.eq_of_testBit_eq
      intro j
      have h1 := fa j
      have h2 := da j
      revert h1 h2
      simp only [Nat.testBit_and, Nat.testBit_xor, Nat.testBit_or, Nat.zero_testBit]
      cases a.testBit j <;> cases b.testBit j <;> cases d.testBit j <;> cases f.testBit j <;> simp
end Mt
end Go.Proofs.Ytgmbhbhjlhpbgaa
