/- The contract of the reference's Flow. -/
import Derived.Test.YtndlldlanjhanaaPk3
import Derived.Deep.AppendLies
import Derived.OwnWalk
import Derived.Below
namespace Go.Proofs.Ytndlldlanjhanaa
open Go.ChangeShapes Go.WideShapes Go.ChangeAt Go.RowKit
set_option linter.unusedVariables false
set_option linter.unusedSimpArgs false
open Pk BigFrame

namespace Pk
theorem bNext {a b c : World} {B : Nat} (h : Below B a b) (k : Below b.heap.size b c) (hB : B ≤ a.heap.size) : Below B a c := h.trans (k.mono (Nat.le_trans hB h.size))
theorem bDrew {B : Nat} {a b : World} (h : Below B a b) : ∀ n, Below B a (b.drewN n)
  | 0 => h
  | n + 1 => by simpa using (bDrew h n).drew
def ivals (l : List Nat) : List Value := l.map fun x : Nat => Value.int .i64 (x : Int)
theorem ivals_len (l : List Nat) : (ivals l).length = l.length := by simp [ivals]
theorem ivals_snoc (l : List Nat) (x : Nat) : ivals (l ++ [x]) = ivals l ++ [.int .i64 (x : Int)] := by simp [ivals]
theorem ivals_at (l : List Nat) (i : Nat) (h : i < l.length) : (ivals l)[i]? = some (.int .i64 ((l.getD i 0 : Nat) : Int)) := by
  simp [ivals, List.getD, h]
theorem drewN_ownsRow {w : World} {base : Nat} {e : TypeId} {size : Nat} {v : Value} {n : Nat} {xs : List Value} (h : w.ownsRow base e size v n xs) (k : Nat) : (w.drewN k).ownsRow base e size v n xs := by
  induction k with
  | zero => exact h
  | succ k ih => simpa using ih.drew
theorem grow_keep2 {wr w1 : World} {o : Obj} {v : Value} {base size n : Nat} {e : TypeId} {xs : List Value} (hown : wr.ownsRow base e size v n xs) (hg : (wr.alloc o).grownBy w1 v.ownBlock) (b : Nat) (hb : b < base) (hl : b < wr.heap.size) :
    (∀ off, w1.cell? ⟨b, off, none⟩ = wr.cell? ⟨b, off, none⟩) ∧ (∀ off, w1.frozen? ⟨b, off, none⟩ = wr.frozen? ⟨b, off, none⟩) := by
  have hne : some b ≠ v.ownBlock := fun e => by have := (hown.lt b e.symm).1; omega
  have h : w1.heap[b]? = wr.heap[b]? := (hg.block b (by show b < (wr.heap.push o).size; simp; omega) hne).trans (Below.heap_alloc wr o b hl)
  exact ⟨fun off => World.cell?_of_block h, fun off => World.frozen?_of_block h⟩
end Pk

theorem info_int23 : (Try.prog.info? 3).map (fun i => (i.zero, i.size, i.bytes)) = some (some (.int .i64 0), 1, 8) := by kernel_rfl