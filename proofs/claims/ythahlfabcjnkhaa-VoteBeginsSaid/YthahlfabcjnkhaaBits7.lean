/- Plain laws of sets of seven nodes as bits. No program here. -/
import Derived.Lib.Hide
import Derived.Laws.BitsAllLaws
namespace Go.Proofs.Ythahlfabcjnkhaa
set_option linter.unusedVariables false
set_option linter.unusedSimpArgs false

namespace B7
def nb (x : Nat) (j : Nat) : Nat := (x.testBit j).toNat
def cnt (x : Nat) : Nat → Nat
  | 0 => 0
  | j + 1 => cnt x j + nb x j
theorem nb_div (x j : Nat) : nb x j = x / 2 ^ j % 2 := Nat.toNat_testBit x j
theorem nb_le (x j : Nat) : nb x j ≤ 1 := by unfold nb; cases x.testBit j <;> decide
theorem cnt_le (x k : Nat) : cnt x k ≤ k := by
  induction k with
  | zero => exact Nat.le_refl _
  | succ k ih => have := nb_le x k; simp only [cnt]; omega
theorem nb_and (x y j : Nat) : nb (x &&& y) j = nb x j * nb y j := by
  unfold nb; rw [Nat.testBit_and]; cases x.testBit j <;> cases y.testBit j <;> rfl
theorem t127 (j : Nat) (h : j < 7) : (127 : Nat).testBit j = true := by
  have : j = 0 ∨ j = 1 ∨ j = 2 ∨ j = 3 ∨ j = 4 ∨ j = 5 ∨ j = 6 := by omega
  rcases this with rfl | rfl | rfl | rfl | rfl | rfl | rfl <;> decide
theorem cnt_and_le (x y k : Nat) : cnt (x &&& y) k ≤ cnt x k := by
  induction k with
  | zero => exact Nat.le_refl _
  | succ k ih =>
    simp only [cnt]
    have : nb (x &&& y) k ≤ nb x k := by unfold nb; rw [Nat.testBit_and]; cases x.testBit k <;> cases y.testBit k <;> decide
    omega
theorem cnt_self (x k : Nat) : cnt (x &&& x) k = cnt x k := by rw [Nat.and_self]
/-- Two parts of a set that share none of the first seven are together no more than the set. -/
theorem pig (s a b : Nat) (h : s &&& a &&& b &&& 127 = 0) (k : Nat) (hk : k ≤ 7) : cnt (s &&& a) k + cnt (s &&& b) k ≤ cnt s k := by
  induction k with
  | zero => exact Nat.le_refl _
  | succ k ih =>
    have ih := ih (by omega)
    simp only [cnt]
    have h1 := congrArg (fun z => z.testBit k) h
    simp only [Nat.testBit_and, Nat.zero_testBit, t127 k (by omega), Bool.and_true] at h1
    have : nb (s &&& a) k + nb (s &&& b) k ≤ nb s k := by
      unfold nb
      rw [Nat.testBit_and, Nat.testBit_and]
      revert h1
      cases s.testBit k <;> cases a.testBit k <;> cases b.testBit k <;> decide
    omega
/-- One bit, as Go reckons it on bytes. -/
theorem go_bit (s j : Nat) (hs : s < 256) : bits BinOp.and IntKind.u8 ((s : Int) / 2 ^ j) 1 = ((nb s j : Nat) : Int) := by
  have e : ((s : Int) / 2 ^ j) = ((s / 2 ^ j : Nat) : Int) := by simp
  have hl : s / 2 ^ j < 256 := Nat.lt_of_le_of_lt (Nat.div_le_self _ _) hs
  rw [e]
  have := u8_and_nat (s / 2 ^ j) 1 hl (by decide)
  rw [nb_div, ← Nat.and_one_is_mod]
  exact this
theorem go_and (s y : Nat) (hs : s < 256) (hy : y < 256) : bits BinOp.and IntKind.u8 (s : Int) (y : Int) = ((s &&& y : Nat) : Int) := u8_and_nat s y hs hy
theorem and_lt (s y : Nat) (hs : s < 256) : s &&& y < 256 := Nat.lt_of_le_of_lt Nat.and_le_left hs
end B7
end Go.Proofs.Ythahlfabcjnkhaa
