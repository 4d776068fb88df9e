/- The check of a packet's bytes: plain laws, and the contract of packet.Check. -/
import Derived.Test.YtkefkophlhcbiaaRows
import Derived.Test.YtkefkophlhcbiaaOpen
import Derived.WalkKit
import Derived.ProofKit
import Derived.OpenShut
import Derived.WalkSpells
import Derived.WalkLawsBesides
import Derived.WalkSmall
import Derived.BigQuiet
import Derived.Deep.QuietTactic
import Derived.Outline
import Derived.WalkMore
import Derived.Laws.BitsAllLaws
import Derived.Lib.Hide
namespace Go.Proofs.Ytkefkophlhcbiaa
open Go.ChangeShapes Go.WideShapes Go.ChangeAt Go.RowKit
set_option linter.unusedVariables false
set_option linter.unusedSimpArgs false

namespace Pk
/-- The sum of the words of so many bytes. -/
def tot (f : Nat → Nat) : Nat → Nat
  | 0 => 0
  | n + 1 => tot f n + (if n % 2 = 0 then 256 * f n else f n)
/-- The sum with the carry brought in. -/
def ckS (T : Nat) : Nat := if T = 0 then 0 else (T - 1) % 65535 + 1
theorem ckS_le (T : Nat) : ckS T ≤ 65535 := by unfold ckS; split <;> omega
theorem ckS_add (T x : Nat) (hx : x ≤ 65535) : (ckS T + x) % 65536 + (ckS T + x) / 65536 = ckS (T + x) := by
  unfold ckS
  split <;> split <;> omega
theorem ckS_full (T : Nat) : ckS T = 65535 ↔ T ≠ 0 ∧ T % 65535 = 0 := by unfold ckS; split <;> omega
theorem tot_two (f : Nat → Nat) (i : Nat) : tot f (2 * i + 2) = tot f (2 * i) + (256 * f (2 * i) + f (2 * i + 1)) := by
  rw [show 2 * i + 2 = (2 * i + 1) + 1 from rfl, tot, tot, if_pos (by omega), if_neg (by omega)]; omega
theorem tot_one (f : Nat → Nat) (i : Nat) : tot f (2 * i + 1) = tot f (2 * i) + 256 * f (2 * i) := by
  rw [tot, if_pos (by omega)]
theorem or_words (a b : Nat) (hb : b < 256) : (a * 256 ||| b) = a * 256 + b := by
  have := Nat.shiftLeft_add_eq_or_of_lt (i := 8) hb a
  rw [Nat.shiftLeft_eq, show (2:Nat) ^ 8 = 256 from rfl] at this
  omega
theorem xor16 (x : Nat) (h : x < 65536) : 65535 ^^^ x = 65535 - x := by
  have h1 := congrArg BitVec.toNat (BitVec.not_def (x := BitVec.ofNat 16 x))
  rw [BitVec.toNat_not, BitVec.toNat_xor, BitVec.toNat_allOnes, BitVec.toNat_ofNat, Nat.mod_eq_of_lt (by omega)] at h1
  simp at h1
  omega
theorem xor_u16 (x : Nat) (h : x < 65536) : bits .xor .u16 65535 (x : Int) = ((65535 - x : Nat) : Int) := by
  rw [← xor16 x h]
  exact u16_xor_nat 65535 x (by omega) h
set_option maxRecDepth 100000 in
theorem mask_u32 (x : Nat) (h : x < 4294967296) : bits .and .u32 (x : Int) 65535 = ((x % 65536 : Nat) : Int) := by
  have h1 := u32_and_nat x 65535 h (by omega)
  have h2 := Nat.and_two_pow_sub_one_eq_mod x 16
  simp only [Nat.reducePow, Nat.reduceSub] at h2
  rw [h2] at h1
  exact h1
theorem or_u32 (a b : Nat) (ha : a < 256) (hb : b < 256) : bits .or .u32 ((a : Int) * 256) (b : Int) = (a : Int) * 256 + (b : Int) := by
  have h1 := u32_or_nat (a * 256) b (by omega) (by omega)
  rw [or_words a b hb] at h1
  have e1 : ((a * 256 : Nat) : Int) = (a : Int) * 256 := by omega
  have e2 : ((a * 256 + b : Nat) : Int) = (a : Int) * 256 + (b : Int) := by rw [Int.natCast_add, e1]
  rw [e1, e2] at h1
  exact h1
/-- Bytes as they lie. -/
def BytesAt (w : World) (b o n : Nat) (f : Nat → Nat) : Prop := ∀ i, i < n → w.cell? ⟨b, o + i, none⟩ = some (.int .u8 (f i : Nat)) ∧ f i < 256
end Pk
open Pk BigFrame

set_option maxRecDepth 100000 in
set_option maxHeartbeats 1000000 in
theorem check_c (b o n cap : Nat) (f : Nat → Nat) (w : World) (hcap : n ≤ cap) (hc2 : cap ≤ 9223372036854775807) (h : BytesAt w b o n f) :
    Calls Try.prog 38 #[.slice (some ⟨b, o, none⟩) n cap] w fun e w' => e = .returned (.int .u16 ((65535 - ckS (tot f n) : Nat) : Int)) ∧ ∃ m, w' = w.drewN m := by
  have hx16 : IntKind.u16.max = 65535 := rfl
  go_enter Try.func38, Try.ntmps38
  go_wp2
  go_step3
  go_wp2
  go_step3
  go_wp2
  go_loopw [0, 3] (fun v s wr => ∃ (i k : Nat) (a : Option Addr) (c m S : Nat), i + k = n ∧ (0 < k → i % 2 = 0) ∧ v = .slice a k c ∧ k ≤ c ∧ c ≤ 9223372036854775807 ∧ (0 < k → a = some ⟨b, o + i, none⟩) ∧ s = .int .u32 (S : Nat) ∧ S = ckS (tot f i) ∧ wr = w.drewN m) (fun v _ _ => match v with | .slice _ k _ => k | _ => 0)
  case atStart => exact ⟨0, n, _, _, 0, 0, by omega, fun _ => rfl, rfl, hcap, hc2, fun _ => rfl, rfl, rfl, rfl⟩
  case round =>
    obtain ⟨i, k, a, c, m, S, hik, hi, rfl, hkc, hc3, ha, rfl, hS, rfl⟩ := hrel
    have hSl : S ≤ 65535 := by rw [hS]; exact ckS_le _
    by_cases h0 : k = 0
    · subst h0
      obtain rfl : i = n := by omega
      have hx := xor_u16 S (by omega)
      replace hS := Lib.hid hS
      go_wp2_with fail
      go_ret
      exact ⟨by rw [← hS.out]; rfl, m, rfl⟩
    · by_cases h1 : k = 1
      · subst h1
        obtain ⟨c0, f0⟩ := h i (by omega)
        have hadd := ckS_add (tot f i) (256 * f i) (by omega)
        rw [← hS] at hadd
        have hm := mask_u32 (S + f i * 256) (by omega)
        rw [show ((S + f i * 256 : Nat) : Int) = (S : Int) + (f i : Int) * 256 by omega] at hm
        have ht : tot f (i + 1) = tot f i + 256 * f i := by
          have := tot_one f (i / 2)
          rwa [show 2 * (i / 2) = i by omega] at this
        rw [← ht] at hadd
        replace hadd := Lib.hid hadd
        rw [ha (by omega)]
        clear ht hS ha
        go_wp2_with fail
        go_roundw
        case rel => exact ⟨i + 1, 0, _, _, m, ckS (tot f (i + 1)), by omega, by omega, rfl, by omega, by omega, by omega, by have := hadd.out; congr 1; omega, rfl, rfl⟩
        case measure => simp
      · obtain ⟨c0, f0⟩ := h i (by omega)
        obtain ⟨c1, f1⟩ := h (i + 1) (by omega)
        rw [← Nat.add_assoc] at c1
        have hi2 := hi (by omega)
        have hadd := ckS_add (tot f i) (256 * f i + f (i + 1)) (by omega)
        rw [← hS] at hadd
        have ho := or_u32 (f i) (f (i + 1)) f0 f1
        have hm := mask_u32 (S + (f i * 256 + f (i + 1))) (by omega)
        rw [show ((S + (f i * 256 + f (i + 1)) : Nat) : Int) = (S : Int) + ((f i : Int) * 256 + (f (i + 1) : Int)) by omega] at hm
        have ht : tot f (i + 2) = tot f i + (256 * f i + f (i + 1)) := by
          have := tot_two f (i / 2)
          rwa [show 2 * (i / 2) = i by omega] at this
        rw [← ht] at hadd
        replace hadd := Lib.hid hadd
        have hk2 : 1 < k := by omega
        rw [ha (by omega)]
        clear ht hS ha
        go_wp2_with fail
        go_big_quiet (fail)
        go_wp2
        go_roundw
        case rel => exact ⟨i + 2, k - 2, _, _, m + nq, ckS (tot f (i + 2)), by omega, by omega, rfl, by omega, by omega, by intro hk; rw [if_neg (by omega), Nat.add_assoc], by have := hadd.out; congr 1; omega, rfl, rfl⟩
        case measure => simp; omega
end Go.Proofs.Ytkefkophlhcbiaa
