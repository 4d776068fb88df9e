/- Packets with what they hold: when both answers take bytes for a packet (plain); bytes as strings. -/
import Derived.Test.YtjdkpoggcpckcaaPk6
import Derived.Test.YtjdkpoggcpckcaaBy
namespace Go.Proofs.Ytjdkpoggcpckcaa
open Go.ChangeShapes Go.WideShapes Go.ChangeAt Go.RowKit
set_option linter.unusedVariables false
set_option linter.unusedSimpArgs false
open Pk BigFrame

namespace Pk
def FpK (t C n c : Nat) (f : Nat → Nat) (i : Nat) : Nat := (pkL t C n c f).getD i 0
theorem FpK_tail {t C n c : Nat} {f : Nat → Nat} {i : Nat} (h : i < n) : FpK t C n c f (8 + i) = f i := by
  unfold FpK pkL
  rw [List.getD_eq_getElem?_getD, List.getElem?_append_right (by simp)]
  simp [h]
theorem tot8K (f : Nat → Nat) : tot f 8 = 256 * f 0 + f 1 + 256 * f 2 + f 3 + 256 * f 4 + f 5 + 256 * f 6 + f 7 := by
  simp [tot]
theorem tot_checkK (t C n c : Nat) (f : Nat → Nat) (m : Nat) (hm : m ≤ n) : tot (FpK t C n c f) (8 + m) = tot (FpK t C n 0 f) (8 + m) + c := by
  induction m with
  | zero =>
    rw [Nat.add_zero, tot8K, tot8K]
    simp [FpK, pkL]
    omega
  | succ m ih =>
    rw [← Nat.add_assoc, tot, tot, ih (by omega), FpK_tail (by omega), FpK_tail (by omega)]
    omega
theorem tot_headK (t C n : Nat) (f : Nat → Nat) (m : Nat) : 26880 ≤ tot (FpK t C n 0 f) (8 + m) := by
  induction m with
  | zero => rw [Nat.add_zero, tot8K]; simp [FpK, pkL]; omega
  | succ m ih => rw [← Nat.add_assoc, tot]; omega
theorem ck_selfK (T : Nat) (h : 0 < T) : ckS (T + (65535 - ckS T)) = 65535 ∧ 65535 - ckS T ≠ 65535 := by
  have h1 : ckS T = (T - 1) % 65535 + 1 := by unfold ckS; rw [if_neg (by omega)]
  rw [h1]
  constructor
  · unfold ckS
    rw [if_neg (by omega)]
    omega
  · omega
theorem ck_wholeK (t C n : Nat) (f : Nat → Nat) : ckS (tot (FpK t C n (pkC t C n f) f) (8 + n)) = 65535 ∧ pkC t C n f ≠ 65535 := by
  have h1 := tot_checkK t C n (pkC t C n f) f n (Nat.le_refl _)
  have h2 := tot_headK t C n f n
  have h3 : pkC t C n f = 65535 - ckS (tot (FpK t C n 0 f) (8 + n)) := rfl
  rw [h1, h3]
  exact ck_selfK _ (by omega)
/-- The bytes that are a packet. -/
def goodF (n : Nat) (F : Nat → Nat) : Prop := 8 ≤ n ∧ n ≤ 1500 ∧ F 0 = 105 ∧ 1 ≤ F 1 ∧ F 1 ≤ 16 ∧ F 3 = 0 ∧ F 4 * 256 + F 5 = n - 8 ∧ ckS (tot F n) = 65535 ∧ ¬ (F 6 = 255 ∧ F 7 = 255)
theorem tot_congr {F G : Nat → Nat} : ∀ n, (∀ i, i < n → F i = G i) → tot F n = tot G n
  | 0, _ => rfl
  | 1, h => by simp [tot, h 0 (by omega)]
  | n + 2, h => by
    have h1 := tot_congr (n + 1) (fun i hi => h i (by omega))
    have h2 := h (n + 1) (by omega)
    simp only [tot] at h1 ⊢
    rw [h1, h2]
theorem ck_only {T c : Nat} (hT : 0 < T) (hc : c < 65535) (h : ckS (T + c) = 65535) : c = 65535 - ckS T := by
  unfold ckS at h ⊢
  split at h <;> split <;> omega
theorem pk_at (t C n c : Nat) (f : Nat → Nat) : FpK t C n c f 0 = 105 ∧ FpK t C n c f 1 = t ∧ FpK t C n c f 2 = C ∧ FpK t C n c f 3 = 0 ∧ FpK t C n c f 4 = n / 256 ∧ FpK t C n c f 5 = n % 256 ∧ FpK t C n c f 6 = c / 256 ∧ FpK t C n c f 7 = c % 256 := by
  simp [FpK, pkL]
theorem pk_ext {t C n c : Nat} {f F : Nat → Nat} (h0 : F 0 = 105) (h1 : F 1 = t) (h2 : F 2 = C) (h3 : F 3 = 0) (h4 : F 4 = n / 256) (h5 : F 5 = n % 256) (h6 : F 6 = c / 256) (h7 : F 7 = c % 256) (hf : ∀ i, i < n → f i = F (8 + i)) : ∀ i, i < 8 + n → F i = FpK t C n c f i := fun i hi => by
  have p := pk_at t C n c f
  by_cases h : i < 8
  · have : i = 0 ∨ i = 1 ∨ i = 2 ∨ i = 3 ∨ i = 4 ∨ i = 5 ∨ i = 6 ∨ i = 7 := by omega
    rcases this with rfl | rfl | rfl | rfl | rfl | rfl | rfl | rfl <;> omega
  · obtain ⟨j, rfl⟩ : ∃ j, i = 8 + j := ⟨i - 8, by omega⟩
    rw [FpK_tail (by omega)]
    exact (hf j (by omega)).symm
/-- What the document's Parse builds anew is what it was given, if and only if that is good. -/
theorem good_iff {n : Nat} {F : Nat → Nat} (hF : ∀ i, i < n → F i < 256) (h8 : 8 ≤ n) (h15 : n ≤ 1500) (ht1 : 1 ≤ F 1) (ht2 : F 1 ≤ 16) :
    (∀ i, i < n → FpK (F 1) (F 2) (n - 8) (pkC (F 1) (F 2) (n - 8) (fun i => F (8 + i))) (fun i => F (8 + i)) i = F i) ↔ goodF n F := by
  obtain ⟨m, rfl⟩ : ∃ m, n = 8 + m := ⟨n - 8, by omega⟩
  rw [show 8 + m - 8 = m by omega]
  obtain ⟨c, hc⟩ : ∃ c, pkC (F 1) (F 2) m (fun i => F (8 + i)) = c := ⟨_, rfl⟩
  have hw := ck_wholeK (F 1) (F 2) m (fun i => F (8 + i))
  have hcl : c ≤ 65535 := by rw [← hc]; unfold pkC; omega
  rw [hc] at hw ⊢
  have p := pk_at (F 1) (F 2) m c (fun i => F (8 + i))
  constructor
  · intro h
    have e0 := h 0 (by omega)
    have e3 := h 3 (by omega)
    have e4 := h 4 (by omega)
    have e5 := h 5 (by omega)
    have e6 := h 6 (by omega)
    have e7 := h 7 (by omega)
    have ht : tot F (8 + m) = tot (FpK (F 1) (F 2) m c (fun i => F (8 + i))) (8 + m) := tot_congr _ (fun i hi => (h i hi).symm)
    refine ⟨h8, h15, by omega, ht1, ht2, by omega, by omega, by rw [ht]; exact hw.1, by omega⟩
  · rintro ⟨_, _, g0, _, _, g3, g4, g5, g6⟩
    have f5 := hF 5 (by omega)
    have f6 := hF 6 (by omega)
    have f7 := hF 7 (by omega)
    have hx := pk_ext (t := F 1) (C := F 2) (n := m) (c := F 6 * 256 + F 7) (f := fun i => F (8 + i)) g0 rfl rfl g3 (by omega) (by omega) (by omega) (by omega) (fun i _ => rfl)
    have ht : tot F (8 + m) = tot (FpK (F 1) (F 2) m (F 6 * 256 + F 7) (fun i => F (8 + i))) (8 + m) := tot_congr _ hx
    rw [tot_checkK _ _ _ _ _ m (Nat.le_refl _)] at ht
    have hT := tot_headK (F 1) (F 2) m (fun i => F (8 + i)) m
    have hq := ck_only (T := tot (FpK (F 1) (F 2) m 0 (fun i => F (8 + i))) (8 + m)) (c := F 6 * 256 + F 7) (by omega) (by omega) (by rw [← ht]; exact g5)
    have hpk : pkC (F 1) (F 2) m (fun i => F (8 + i)) = 65535 - ckS (tot (FpK (F 1) (F 2) m 0 (fun i => F (8 + i))) (8 + m)) := rfl
    have hcc : F 6 * 256 + F 7 = c := by rw [hq, ← hpk, hc]
    rw [hcc] at hx
    exact fun i hi => (hx i hi).symm
def bstrK (n : Nat) (f : Nat → Nat) : ByteArray := strOfNums (((List.range n).map f).map fun x : Nat => (x : Int))
theorem conv_argK {w : World} {a : Option Addr} {n cap : Nat} {f : Nat → Nat} (h : 0 < n → ∃ b off, a = some ⟨b, off, none⟩ ∧ b < w.heap.size ∧ BytesAt w b off n f) :
    (convert 26 9 (.slice a n cap)).run Try.prog w = .ok (.string (bstrK n f)) w := by
  by_cases hn : n = 0
  · subst hn
    cases a with
    | none => exact run_convert_bytes_nil w 26 5 Try.underlying26 Try.underlying5 _ _ _ Try.underlying9
    | some ad => exact run_convert_bytes_back w 26 9 5 ad cap [] Try.underlying26 Try.underlying5 Try.underlying9 (fun j hj => absurd hj (by simp))
  · obtain ⟨b, off, rfl, _, hb⟩ := h (by omega)
    refine run_convert_bytes_arg w 26 5 Try.underlying26 Try.underlying5 b off n cap _ (by simp) (fun i hi => ?_) _ Try.underlying9
    rw [(hb i hi).1]
    simp [List.getD, hi]
theorem bstr_eqK {n1 n2 : Nat} {f1 f2 : Nat → Nat} (h1 : ∀ i, i < n1 → f1 i < 256) (h2 : ∀ i, i < n2 → f2 i < 256) : bstrK n1 f1 = bstrK n2 f2 ↔ (n1 = n2 ∧ ∀ i, i < n1 → f1 i = f2 i) := by
  constructor
  · intro h
    have hs : (bstrK n1 f1).size = (bstrK n2 f2).size := by rw [h]
    unfold bstrK at hs
    rw [strOfNums_size, strOfNums_size] at hs
    simp at hs
    refine ⟨hs, fun i hi => ?_⟩
    have hd : (bstrK n1 f1).data.toList = (bstrK n2 f2).data.toList := by rw [h]
    unfold bstrK at hd
    rw [strOfNums_data, strOfNums_data] at hd
    have h3 := congrArg (fun l => l[i]?) hd
    simp [hi, show i < n2 by omega] at h3
    have h4 := congrArg UInt8.toNat h3
    simp at h4
    have := h1 i hi
    have := h2 i (by omega)
    omega
  · rintro ⟨rfl, h⟩
    unfold bstrK
    congr 2
    exact List.map_congr_left (fun i hi => h i (by simpa using hi))
end Pk
end Go.Proofs.Ytjdkpoggcpckcaa
