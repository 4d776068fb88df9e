/- The check of a packet's bytes: plain laws, and the contract of packet.Check. -/
import Derived.Test.YtndlldlanjhanaaRows
import Derived.Test.YtndlldlanjhanaaOpen
import Derived.WalkKit
import Derived.ProofKit
import Derived.OpenShut
import Derived.WalkSpells
import Derived.WalkLawsBesides
import Derived.WalkSmall
import Derived.BigQuiet
import Derived.Deep.QuietTactic
import Derived.Outline
import Derived.WalkMore
import Derived.Laws.BitsAllLaws
import Derived.Lib.Hide
namespace Go.Proofs.Ytndlldlanjhanaa
open Go.ChangeShapes Go.WideShapes Go.ChangeAt Go.RowKit
set_option linter.unusedVariables false
set_option linter.unusedSimpArgs false

namespace Pk
/-- The sum of the words of so many bytes. -/
def tot (f : Nat → Nat) : Nat → Nat
  | 0 => 0
  | n + 1 => tot f n + (if n % 2 = 0 then 256 * f n else f n)
/-- The sum with the carry brought in. -/
def ckS (T : Nat) : Nat := if T = 0 then 0 else (T - 1) % 65535 + 1
theorem ckS_le (T : Nat) : ckS T ≤ 65535 := by unfold ckS; split <;> omega
theorem ckS_add (T x : Nat) (hx : x ≤ 65535) : (ckS T + x) % 65536 + (ckS T + x) / 65536 = ckS (T + x) := by
  unfold ckS
  split <;> split <;> omega
theorem ckS_full (T : Nat) : ckS T = 65535 ↔ T ≠ 0 ∧ T % 65535 = 0 := by unfold ckS; split <;> omega
theorem tot_two (f : Nat → Nat) (i : Nat) : tot f (2 * i + 2) = tot f (2 * i) + (256 * f (2 * i) + f (2 * i + 1)) := by
  rw [show 2 * i + 2 = (2 * i + 1) + 1 from rfl, tot, tot, if_pos (by omega), if_neg (by omega)]; omega
theorem tot_one (f : Nat → Nat) (i : Nat) : tot f (2 * i + 1) = tot f (2 * i) + 256 * f (2 * i) := by
  rw [tot, if_pos (by omega)]
theorem or_words (a b : Nat) (hb : b < 256) : (a * 256 ||| b) = a * 256 + b := by
  have := Nat.shiftLeft_add_eq_or_of_lt (i := 8) hb a
  rw [Nat.shiftLeft_eq, show (2:Nat) ^ 8 = 256 from rfl] at this
  omega
theorem xor16 (x : Nat) (h : x < 65536) : 65535 ^^^ x = 65535 - x := by
  have h1 := congrArg BitVec.toNat (BitVec.not_def (x := BitVec.ofNat 16 x))
  rw [BitVec.toNat_not, BitVec.toNat_xor, BitVec.toNat_allOnes, BitVec.toNat_ofNat, Nat.mod_eq_of_lt (by omega)] at h1
  simp at h1
  omega
theorem xor_u16 (x : Nat) (h : x < 65536) : bits .xor .u16 65535 (x : Int) = ((65535 - x : Nat) : Int) := by
  rw [← xor16 x h]
  exact u16_xor_nat 65535 x (by omega) h
set_option maxRecDepth 100000 in
theorem mask_u32 (x : Nat) (h : x < 4294967296) : bits .and .u32 (x : Int) 65535 = ((x % 65536 : Nat) : Int) := by
  have h1 := u32_and_nat x 65535 h (by omega)
  have h2 := Nat.and_two_pow_sub_one_eq_mod x 16
  simp only [Nat.reducePow, Nat.reduceSub] at h2
  rw [h2] at h1
  exact h1
theorem or_u32 (a b : Nat) (ha : a < 256) (hb : b < 256) : bits .or .u32 ((a : Int) * 256) (b : Int) = (a : Int) * 256 + (b : Int) := by
  have h1 := u32_or_nat (a * 256) b (by omega) (by omega)
  rw [or_words a b hb] at h1
  have e1 : ((a * 256 : Nat) : Int) = (a : Int) * 256 := by omega
  have e2 : ((a * 256 + b : Nat) : Int) = (a : Int) * 256 + (b : Int) := by rw [Int.natCast_add, e1]
  rw [e1, e2] at h1
  exact h1
/-- Bytes as they lie. -/
def BytesAt (w : World) (b o n : Nat) (f : Nat → Nat) : Prop := ∀ i, i < n → w.cell? ⟨b, o + i, none⟩ = some (.int .u8 (f i : Nat)) ∧ f i < 256
end Pk
open Pk BigFrame