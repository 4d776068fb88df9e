/- The scheduler: its state, New. -/
import Derived.Test.YtbbcongfaoopcaaV17
import Derived.Test.YtbbcongfaoopcaaV15
import Derived.Lib.Hide
namespace Go.Proofs.Ytbbcongfaoopcaa
open Go.ChangeShapes Go.WideShapes Go.ChangeAt Go.RowKit Go.Maps
set_option linter.unusedVariables false
set_option linter.unusedSimpArgs false
open BigFrame Pk Fq Vr

namespace Fa
/-- A row of flows: weight, size, whether its head is to come. -/
def flC (W Z : Nat → Int) (D : Nat → Bool) (i : Nat) : List Value := [.int .i64 (W i), .int .i64 (Z i), .bool (D i)]
def rowF (W Z : Nat → Int) (D : Nat → Bool) (n : Nat) : List Value := (List.range n).flatMap (flC W Z D)
theorem rowF_succ (W Z : Nat → Int) (D : Nat → Bool) (n : Nat) : rowF W Z D (n + 1) = rowF W Z D n ++ flC W Z D n := by simp [rowF, List.range_succ]
theorem rowF_len (W Z : Nat → Int) (D : Nat → Bool) (n : Nat) : (rowF W Z D n).length = n * 3 := by
  induction n with
  | zero => rfl
  | succ n ih => rw [rowF_succ, List.length_append, ih]; simp [flC]; omega
theorem rowF_at (W Z : Nat → Int) (D : Nat → Bool) (n i j : Nat) (h : i < n) (hj : j < 3) : (rowF W Z D n)[i * 3 + j]? = (flC W Z D i)[j]? := by
  induction n with
  | zero => omega
  | succ n ih =>
    rw [rowF_succ]
    by_cases e : i = n
    · subst e
      rw [List.getElem?_append_right (by rw [rowF_len]; omega), rowF_len, show i * 3 + j - i * 3 = j by omega]
    · rw [List.getElem?_append_left (by rw [rowF_len]; omega)]
      exact ih (by omega)
/-- A scheduler in memory: block f, its row of flows in block lb, its tags in block tb. -/
structure FD (w : World) (f lb cl tb ct N : Nat) (ALL V : Int) (W Z : Nat → Int) (D : Nat → Bool) (S F : Nat → Int) : Prop where
  b : Blk w f [.slice (some ⟨lb, 0, none⟩) N cl, .int .i64 ALL, .int .i64 V, .slice (some ⟨tb, 0, none⟩) N ct]
  l : Blk w lb (rowF W Z D N)
  t : TagsAt w (some ⟨tb, 0, none⟩) tb 0 N S F
  a1 : f ≠ lb
  a2 : f ≠ tb
  a3 : lb ≠ tb
  n1 : 1 ≤ N
  n8 : N ≤ 8
theorem FD.bel {w w' : World} {f lb cl tb ct N : Nat} {ALL V : Int} {W Z : Nat → Int} {D : Nat → Bool} {S F : Nat → Int} (h : FD w f lb cl tb ct N ALL V W Z D S F) (k : Below w.heap.size w w') : FD w' f lb cl tb ct N ALL V W Z D S F :=
  ⟨h.b.bel k, h.l.bel k, h.t.bel k, h.a1, h.a2, h.a3, h.n1, h.n8⟩
/-- How far the times may have gone behind so many picks. -/
def Far (M : Int) (V : Int) (N : Nat) (S F : Nat → Int) : Prop := 0 ≤ V ∧ V ≤ M ∧ ∀ i, i < N → 0 ≤ S i ∧ S i ≤ F i ∧ F i ≤ M
theorem Far.vok {M V : Int} {N : Nat} {S F : Nat → Int} (h : Far M V N S F) (hM : M ≤ 1152921504606846976) (hN : N ≤ 8) : VOk V N S F :=
  ⟨h.1, by have := h.2.1; omega, hN, fun i hi => by have := h.2.2 i hi; omega⟩
theorem Far.mono {M M2 V : Int} {N : Nat} {S F : Nat → Int} (h : Far M V N S F) (hM : M ≤ M2) : Far M2 V N S F :=
  ⟨h.1, by have := h.2.1; omega, fun i hi => by have := h.2.2 i hi; omega⟩
end Fa
end Go.Proofs.Ytbbcongfaoopcaa
