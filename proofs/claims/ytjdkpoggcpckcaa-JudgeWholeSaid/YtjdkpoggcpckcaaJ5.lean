/- The judge: whether the bound is kept: what is looked at. -/
import Derived.Test.YtjdkpoggcpckcaaJ4
namespace Go.Proofs.Ytjdkpoggcpckcaa
open Go.ChangeShapes Go.WideShapes Go.ChangeAt Go.RowKit
set_option linter.unusedVariables false
set_option linter.unusedSimpArgs false
open BigFrame Bs Jd

namespace Jd
/-- The places of a tenant's packets. -/
def ownL (X : Nat → Nat → Int) (tn : Int) : Nat → List Nat
  | 0 => []
  | n + 1 => ownL X tn n ++ (if X n 2 = tn then [n] else [])
theorem ownL_in {X : Nat → Nat → Int} {tn : Int} {n : Nat} (h : X n 2 = tn) : ownL X tn (n + 1) = ownL X tn n ++ [n] := by
  show ownL X tn n ++ (if X n 2 = tn then [n] else []) = _
  rw [if_pos h]
theorem ownL_out {X : Nat → Nat → Int} {tn : Int} {n : Nat} (h : ¬ X n 2 = tn) : ownL X tn (n + 1) = ownL X tn n := by
  show ownL X tn n ++ (if X n 2 = tn then [n] else []) = _
  rw [if_neg h, List.append_nil]
theorem ownL_len (X : Nat → Nat → Int) (tn : Int) (n : Nat) : (ownL X tn n).length ≤ n := by
  induction n with
  | zero => simp [ownL]
  | succ n ih =>
    by_cases h : X n 2 = tn
    · rw [ownL_in h]; simp; omega
    · rw [ownL_out h]; omega
theorem ownL_mem {X : Nat → Nat → Int} {tn : Int} {n i : Nat} (h : i ∈ ownL X tn n) : i < n ∧ X i 2 = tn := by
  induction n with
  | zero => simp [ownL] at h
  | succ n ih =>
    by_cases hx : X n 2 = tn
    · rw [ownL_in hx] at h
      rcases List.mem_append.1 h with h | h
      · have := ih h; exact ⟨by omega, this.2⟩
      · obtain rfl : i = n := by simpa using h
        exact ⟨by omega, hx⟩
    · rw [ownL_out hx] at h
      have := ih h; exact ⟨by omega, this.2⟩
def sixV (x : Nat → Int) : List Value := [.int .i64 (x 0), .int .i64 (x 1), .int .i64 (x 2), .int .i64 (x 3), .int .i64 (x 4), .int .i64 (x 5)]
def rowV (X : Nat → Nat → Int) (l : List Nat) : List Value := l.flatMap fun i => sixV (X i)
theorem rowV_snoc (X : Nat → Nat → Int) (l : List Nat) (i : Nat) : rowV X (l ++ [i]) = rowV X l ++ sixV (X i) := by simp [rowV]
theorem rowV_len (X : Nat → Nat → Int) (l : List Nat) : (rowV X l).length = l.length * 6 := by
  induction l with
  | nil => rfl
  | cons a l ih => simp only [rowV, List.flatMap_cons, List.length_append, List.length_cons]; rw [show (l.flatMap fun i => sixV (X i)).length = l.length * 6 from ih]; simp [sixV]; omega
theorem sixV_at (x : Nat → Int) (j : Nat) (h : j < 6) : (sixV x)[j]? = some (.int .i64 (x j)) := by
  have : j = 0 ∨ j = 1 ∨ j = 2 ∨ j = 3 ∨ j = 4 ∨ j = 5 := by omega
  rcases this with rfl | rfl | rfl | rfl | rfl | rfl <;> rfl
theorem rowV_at (X : Nat → Nat → Int) (l : List Nat) (i j : Nat) (hi : i < l.length) (hj : j < 6) : (rowV X l)[i * 6 + j]? = some (.int .i64 (X (l.getD i 0) j)) := by
  induction l generalizing i with
  | nil => simp at hi
  | cons a l ih =>
    have e : rowV X (a :: l) = sixV (X a) ++ rowV X l := by simp [rowV]
    rw [e]
    cases i with
    | zero =>
      rw [List.getElem?_append_left (by simp [sixV]; omega)]
      simpa using sixV_at (X a) j hj
    | succ i =>
      rw [List.getElem?_append_right (by simp [sixV]; omega)]
      have := ih i (by simpa using hi)
      simp only [sixV, List.length_cons, List.length_nil, List.getD_cons_succ]
      rw [show (i + 1) * 6 + j - (0 + 1 + 1 + 1 + 1 + 1 + 1) = i * 6 + j by omega]
      exact this
theorem sixV_one (x : Nat → Int) : ∀ u ∈ sixV x, u.oneCell' = true := by
  intro u hu
  simp [sixV] at hu
  rcases hu with rfl | rfl | rfl | rfl | rfl | rfl <;> rfl
/-- What went out from a tick on, behind the first k. -/
def sumI (Z : Nat → Nat → Int) (x : Int) : Nat → Int
  | 0 => 0
  | n + 1 => sumI Z x n + if x ≤ Z n 0 then Z n 4 else 0
theorem sumI_bd {Z : Nat → Nat → Int} (x : Int) {N : Nat} (h : ∀ i, i < N → 0 ≤ Z i 4 ∧ Z i 4 ≤ 1500) (n : Nat) (hn : n ≤ N) : 0 ≤ sumI Z x n ∧ sumI Z x n ≤ 1500 * n := by
  induction n with
  | zero => simp [sumI]
  | succ n ih =>
    have h1 := ih (by omega)
    have h2 := h n (by omega)
    unfold sumI
    split <;> omega
/-- Is the bound not kept from the i-th of a tenant's packets to its k-th? -/
def viol (Z : Nat → Nat → Int) (n : Nat) (Y : Nat → Nat → Int) (M : Nat) (tn h : Int) (i k : Nat) : Prop :=
  i ≤ k ∧ (k + 1 = n ∨ Z k 0 < Z (k + 1) 0) ∧ boundI Y M tn (Z i 0 - 1) (Z k 0) h < 1000 * sumI Z (Z i 0) (k + 1)
/-- A tenant's packets, as a row. -/
def ownX (X : Nat → Nat → Int) (tn : Int) (N : Nat) : Nat → Nat → Int := fun i j => X ((ownL X tn N).getD i 0) j
def ownN (X : Nat → Nat → Int) (tn : Int) (N : Nat) : Nat := (ownL X tn N).length
def viols (X : Nat → Nat → Int) (N : Nat) (Y : Nat → Nat → Int) (M : Nat) (h : Int) (tn : Int) (i k : Nat) : Prop :=
  i < ownN X tn N ∧ k < ownN X tn N ∧ viol (ownX X tn N) (ownN X tn N) Y M tn h i k
/-- What Kept answers of a record that may be. -/
def KeptA (X : Nat → Nat → Int) (N : Nat) (Y : Nat → Nat → Int) (M : Nat) (h : Int) (s t tn : Int) (ok : Bool) : Prop :=
  (ok = true ∧ s = 0 ∧ t = 0 ∧ tn = 0 ∧ ∀ (m : Int) i k, 1 ≤ m → m ≤ 16 → ¬ viols X N Y M h m i k) ∨
  (ok = false ∧ 1 ≤ tn ∧ tn ≤ 16 ∧ ∃ i k, viols X N Y M h tn i k ∧ s = ownX X tn N i 0 - 1 ∧ t = ownX X tn N k 0 ∧
    (∀ (m : Int) i' k', 1 ≤ m → m < tn → ¬ viols X N Y M h m i' k') ∧ (∀ i' k', i' < i → ¬ viols X N Y M h tn i' k') ∧ ∀ k', k' < k → ¬ viols X N Y M h tn i k')
def KeptP (X : Nat → Nat → Int) (N : Nat) (Y : Nat → Nat → Int) (M : Nat) (h : Int) (w : World) (e : Ending) (w' : World) : Prop :=
  ∃ (s t tn : Int) (ok : Bool), e = .returned (.tuple #[.int .i64 s, .int .i64 t, .int .i64 tn, .bool ok, .int .i64 0]) ∧ KeptA X N Y M h s t tn ok ∧ Below w.heap.size w w'
end Jd

theorem info_sent : (Try.prog.info? 34).map (fun i => (i.zero, i.size, i.bytes)) = some (some (.agg #[.int .i64 0, .int .i64 0, .int .i64 0, .int .i64 0, .int .i64 0, .int .i64 0]), 6, 48) := by kernel_rfl

set_option maxRecDepth 100000 in
set_option maxHeartbeats 2000000 in
theorem jkept_no (h : Int) (a a2 : Option Addr) (b off N c b2 off2 M c2 : Nat) (X Y : Nat → Nat → Int) (w : World) (T : IntRows w a b off N 6 X) (T2 : IntRows w a2 b2 off2 M 4 Y) (hN : N ≤ 1000) (hM : M ≤ 1000) (hno : ¬ checkOk N X M Y) :
    Calls Try.prog 8 #[.slice a N c, .slice a2 M c2, .int .i64 h] w fun e w' => e = .returned (.tuple #[.int .i64 0, .int .i64 0, .int .i64 0, .bool false, .int .i64 2]) ∧ Below w.heap.size w w' := by
  have hck := jcheck_c false a a2 b off N c b2 off2 M c2 X Y w T T2 (by omega) (by omega) ⟨(fun q => by cases q), fun q => absurd q hno⟩
  clear T T2 hno
  go_enter Try.func8, Try.ntmps8
  go_wp2_with fail
  go_step3
  go_wp2_with fail
  refine hck.mono ?_
  rintro e u ⟨rfl, hu⟩
  go_wp2_with fail
  try rw [Exit.noGoto_ret]
  exact bodyPost_ret (v := .tuple #[.int .i64 0, .int .i64 0, .int .i64 0, .bool false, .int .i64 2]) (by simp [results, Try.results8, go_sem]) rfl ⟨rfl, hu⟩
end Go.Proofs.Ytjdkpoggcpckcaa
