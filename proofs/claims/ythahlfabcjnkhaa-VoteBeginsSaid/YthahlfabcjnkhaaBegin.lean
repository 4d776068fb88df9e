/- The contract of the reference's Begin, where it begins. -/
import Derived.Test.YthahlfabcjnkhaaVoteNewer
import Derived.Test.YthahlfabcjnkhaaRows10
import Derived.Deep.AppendLies
namespace Go.Proofs.Ythahlfabcjnkhaa
open Go.ChangeShapes Go.WideShapes Go.ChangeAt Go.RowKit
set_option linter.unusedVariables false
set_option linter.unusedSimpArgs false
open Rw Vt R10

namespace Bg
def entM (s T I L : Int) (n : Int) : List Value := [.int .i8 1, .int .i64 s, .int .i64 n, .int .i64 T, .int .i64 I, .int .i64 L, .int .i64 0, .bool false, .slice none 0 0, .int .i64 0, .int .i64 0, .int .u8 0, .slice none 0 0, .slice none 0 0]
def flatM (s T I L : Int) (l : List Int) : List Value := l.flatMap (entM s T I L)
theorem flatM_len (s T I L : Int) (l : List Int) : (flatM s T I L l).length = l.length * 14 := by
  induction l with
  | nil => rfl
  | cons x l ih => simp only [flatM, List.flatMap_cons, List.length_append, List.length_cons] at ih ⊢; rw [ih]; simp [entM]; omega
theorem flatM_snoc (s T I L : Int) (l : List Int) (n : Int) : flatM s T I L (l ++ [n]) = flatM s T I L l ++ entM s T I L n := by simp [flatM]
theorem flatM_at (s T I L : Int) (l : List Int) (i j : Nat) (hi : i < l.length) (hj : j < 14) : (flatM s T I L l)[i * 14 + j]? = (entM s T I L l[i])[j]? := by
  induction l generalizing i with
  | nil => simp at hi
  | cons x l ih =>
    have he : (entM s T I L x).length = 14 := by simp [entM]
    rw [show flatM s T I L (x :: l) = entM s T I L x ++ flatM s T I L l from rfl]
    cases i with
    | zero => rw [Nat.zero_mul, Nat.zero_add, List.getElem?_append_left (by omega)]; rfl
    | succ i =>
      rw [List.getElem?_append_right (by omega), he, show (i + 1) * 14 + j - 14 = i * 14 + j by omega]
      simpa using ih i (by simpa using hi)
/-- The nodes that are asked, among the first k. -/
def asksN (s : Nat) (self : Int) : Nat → List Int
  | 0 => []
  | k + 1 => if ((k : Int) + 1 != self && hasB s ((k : Int) + 1)) = true then asksN s self k ++ [(k : Int) + 1] else asksN s self k
theorem asksN_in {s : Nat} {self : Int} {k : Nat} (h : ((k : Int) + 1 != self && hasB s ((k : Int) + 1)) = true) : asksN s self (k + 1) = asksN s self k ++ [(k : Int) + 1] := by
  show (if ((k : Int) + 1 != self && hasB s ((k : Int) + 1)) = true then _ else _) = _
  rw [if_pos h]
theorem asksN_out {s : Nat} {self : Int} {k : Nat} (h : ((k : Int) + 1 != self && hasB s ((k : Int) + 1)) = false) : asksN s self (k + 1) = asksN s self k := by
  show (if ((k : Int) + 1 != self && hasB s ((k : Int) + 1)) = true then _ else _) = _
  rw [if_neg (by rw [h]; decide)]
theorem asksN_len (s : Nat) (self : Int) (k : Nat) : (asksN s self k).length ≤ k := by
  induction k with
  | zero => exact Nat.le_refl _
  | succ k ih =>
    cases h : ((k : Int) + 1 != self && hasB s ((k : Int) + 1)) with
    | true => rw [asksN_in h]; simp; omega
    | false => rw [asksN_out h]; omega
/-- Where the asks lie. -/
def AsksAt (w : World) (a : Option Addr) (s T I L : Int) (l : List Int) : Prop :=
  0 < l.length → ∃ g, a = some ⟨g, 0, none⟩ ∧ g < w.heap.size ∧ ∀ i j, (hi : i < l.length) → j < 14 → w.cell? ⟨g, 0 + i * 14 + j, none⟩ = (entM s T I L l[i])[j]?
theorem AsksAt.below {w w' : World} {a : Option Addr} {s T I L : Int} {l : List Int} (h : AsksAt w a s T I L l) (k : Below w.heap.size w w') : AsksAt w' a s T I L l := fun hp => by
  obtain ⟨g, h1, h2, h3⟩ := h hp
  exact ⟨g, h1, Nat.lt_of_lt_of_le h2 k.size, fun i j hi hj => (k.cell (p := ⟨g, _, none⟩) h2).trans (h3 i j hi hj)⟩
theorem own_asks {w : World} {base g n cap : Nat} {e : TypeId} {s T I L : Int} {l : List Int} (h : w.ownsRow base e 14 (.slice (some ⟨g, 0, none⟩) n cap) n (flatM s T I L l)) (hn : n = l.length) : ∀ i j, (hi : i < l.length) → j < 14 → w.cell? ⟨g, 0 + i * 14 + j, none⟩ = (entM s T I L l[i])[j]? := fun i j hi hj => by
  rw [Nat.zero_add, h.cellAt _ (by omega), flatM_at s T I L l i j hi hj]
end Bg
open Bg

theorem info61 : (Try.prog.info? 61).map (fun i => (i.zero, i.size, i.bytes)) = some (some (.agg #[.int .i8 0, .int .i64 0, .int .i64 0, .int .i64 0, .int .i64 0, .int .i64 0, .int .i64 0, .bool false, .slice none 0 0, .int .i64 0, .int .i64 0, .int .u8 0, .slice none 0 0, .slice none 0 0]), 14, 160) := by kernel_rfl
end Go.Proofs.Ythahlfabcjnkhaa
