/- Laws of a packet's check, and the contracts of same and Size. -/
import Derived.Test.YthahlfabcjnkhaaPkFlows
namespace Go.Proofs.Ythahlfabcjnkhaa
open Go.ChangeShapes Go.WideShapes Go.ChangeAt Go.RowKit
set_option linter.unusedVariables false
set_option linter.unusedSimpArgs false
open Pk BigFrame

namespace Pk
def Fp (t C n c : Nat) (f : Nat → Nat) (i : Nat) : Nat := (pkL t C n c f).getD i 0
theorem Fp_tail {t C n c : Nat} {f : Nat → Nat} {i : Nat} (h : i < n) : Fp t C n c f (8 + i) = f i := by
  unfold Fp pkL
  rw [List.getD_eq_getElem?_getD, List.getElem?_append_right (by simp)]
  simp [h]
theorem tot8 (f : Nat → Nat) : tot f 8 = 256 * f 0 + f 1 + 256 * f 2 + f 3 + 256 * f 4 + f 5 + 256 * f 6 + f 7 := by
  simp [tot]
theorem tot_check (t C n c : Nat) (f : Nat → Nat) (m : Nat) (hm : m ≤ n) : tot (Fp t C n c f) (8 + m) = tot (Fp t C n 0 f) (8 + m) + c := by
  induction m with
  | zero =>
    rw [Nat.add_zero, tot8, tot8]
    simp [Fp, pkL]
    omega
  | succ m ih =>
    rw [← Nat.add_assoc, tot, tot, ih (by omega), Fp_tail (by omega), Fp_tail (by omega)]
    omega
theorem tot_head (t C n : Nat) (f : Nat → Nat) (m : Nat) : 26880 ≤ tot (Fp t C n 0 f) (8 + m) := by
  induction m with
  | zero => rw [Nat.add_zero, tot8]; simp [Fp, pkL]; omega
  | succ m ih => rw [← Nat.add_assoc, tot]; omega
theorem ck_self (T : Nat) (h : 0 < T) : ckS (T + (65535 - ckS T)) = 65535 ∧ 65535 - ckS T ≠ 65535 := by
  have h1 : ckS T = (T - 1) % 65535 + 1 := by unfold ckS; rw [if_neg (by omega)]
  rw [h1]
  constructor
  · unfold ckS
    rw [if_neg (by omega)]
    omega
  · omega
theorem ck_whole (t C n : Nat) (f : Nat → Nat) : ckS (tot (Fp t C n (pkC t C n f) f) (8 + n)) = 65535 ∧ pkC t C n f ≠ 65535 := by
  have h1 := tot_check t C n (pkC t C n f) f n (Nat.le_refl _)
  have h2 := tot_head t C n f n
  have h3 : pkC t C n f = 65535 - ckS (tot (Fp t C n 0 f) (8 + n)) := rfl
  rw [h1, h3]
  exact ck_self _ (by omega)
def wt (k : Nat) : Nat := if k % 2 = 0 then 256 else 1
theorem tot_wt (f : Nat → Nat) (n : Nat) : tot f (n + 1) = tot f n + wt n * f n := by
  rw [tot]
  unfold wt
  split <;> omega
theorem tot_same (F : Nat → Nat) (k x m : Nat) (h : m ≤ k) : tot (fun i => if i = k then x else F i) m = tot F m := by
  induction m with
  | zero => rfl
  | succ m ih =>
    rw [tot_wt, tot_wt, ih (by omega)]
    show tot F m + wt m * (if m = k then x else F m) = _
    rw [if_neg (by omega)]
theorem tot_upd (F : Nat → Nat) (k x n : Nat) (h : k < n) : tot (fun i => if i = k then x else F i) n + wt k * F k = tot F n + wt k * x := by
  induction n with
  | zero => omega
  | succ n ih =>
    rw [tot_wt, tot_wt]
    by_cases hk : k = n
    · subst hk
      rw [tot_same F k x k (Nat.le_refl _)]
      show tot F k + wt k * (if k = k then x else F k) + wt k * F k = _
      rw [if_pos rfl]
      omega
    · have := ih (by omega)
      show tot (fun i => if i = k then x else F i) n + wt n * (if n = k then x else F n) + wt k * F k = _
      rw [if_neg (by omega)]
      omega
theorem ck_broken {F : Nat → Nat} {n k x : Nat} (h : ckS (tot F n) = 65535) (hk : k < n) (hF : F k < 256) (hx : x < 256) (hne : F k ≠ x) : ckS (tot (fun i => if i = k then x else F i) n) ≠ 65535 := by
  have h1 := tot_upd F k x n hk
  have h2 := (ckS_full _).1 h
  intro h3
  have h4 := (ckS_full _).1 h3
  unfold wt at h1
  split at h1 <;> omega
def bstr (n : Nat) (f : Nat → Nat) : ByteArray := strOfNums (((List.range n).map f).map fun x : Nat => (x : Int))
theorem conv_arg {w : World} {a : Option Addr} {n cap : Nat} {f : Nat → Nat} (h : 0 < n → ∃ b off, a = some ⟨b, off, none⟩ ∧ b < w.heap.size ∧ BytesAt w b off n f) :
    (convert 23 9 (.slice a n cap)).run Try.prog w = .ok (.string (bstr n f)) w := by
  by_cases hn : n = 0
  · subst hn
    cases a with
    | none => exact run_convert_bytes_nil w 23 5 Try.underlying23 Try.underlying5 _ _ _ Try.underlying9
    | some ad => exact run_convert_bytes_back w 23 9 5 ad cap [] Try.underlying23 Try.underlying5 Try.underlying9 (fun j hj => absurd hj (by simp))
  · obtain ⟨b, off, rfl, _, hb⟩ := h (by omega)
    refine run_convert_bytes_arg w 23 5 Try.underlying23 Try.underlying5 b off n cap _ (by simp) (fun i hi => ?_) _ Try.underlying9
    rw [(hb i hi).1]
    simp [List.getD, hi]
end Pk

set_option maxRecDepth 100000 in
set_option maxHeartbeats 2000000 in
theorem same23_c (t C : Int) (a1 a2 : Option Addr) (n c1 c2 : Nat) (S : ByteArray) (w : World) (h1 : ∀ u, Below w.heap.size w u → (convert 23 9 (.slice a1 n c1)).run Try.prog u = .ok (.string S) u) (h2 : ∀ u, Below w.heap.size w u → (convert 23 9 (.slice a2 n c2)).run Try.prog u = .ok (.string S) u) :
    Calls Try.prog 25 #[.agg #[.int .i64 0, .int .i64 t, .int .i64 C, .slice a1 n c1], .agg #[.int .i64 0, .int .i64 t, .int .i64 C, .slice a2 n c2]] w fun e w' => e = .returned (.bool true) ∧ Below w.heap.size w w' := by
  have hB : Below w.heap.size w ((w.alloc (.cells #[.int .i64 0, .int .i64 t, .int .i64 C, .slice a1 n c1] 25)).alloc (.cells #[.int .i64 0, .int .i64 t, .int .i64 C, .slice a2 n c2] 25)) := ((Below.refl _ _).alloc (Nat.le_refl _) _).alloc (by simp) _
  have g1 := h1 _ hB
  have g2 := h2 _ hB
  clear h1 h2
  go_enter Try.func25, Try.ntmps25
  go_wp2_with fail
  exact bodyPost_ret (v := .bool true) (by simp [results, Try.results25, go_sem]) rfl ⟨rfl, hB⟩

set_option maxRecDepth 100000 in
set_option maxHeartbeats 2000000 in
theorem size23_c (num t C : Int) (a : Option Addr) (n cap : Nat) (w : World) (hn : n ≤ 1000000) :
    Calls Try.prog 26 #[.agg #[.int .i64 num, .int .i64 t, .int .i64 C, .slice a n cap]] w fun e w' => e = .returned (.int .i64 ((8 + n : Nat) : Int)) ∧ Below w.heap.size w w' := by
  have h : (n : Int) ≤ 1000000 := by omega
  go_enter Try.func26, Try.ntmps26
  go_wp2_with fail
  exact bodyPost_ret (v := .int .i64 (8 + (n : Int))) (by simp [results, Try.results26, go_sem]) rfl ⟨by rw [Int.natCast_add]; rfl, (Below.refl _ _).alloc (Nat.le_refl _) _⟩
end Go.Proofs.Ythahlfabcjnkhaa
