/- packet.of as an iterator: what it gives, round by round. -/
import Derived.Test.YtndlldlanjhanaaPk1
import Derived.RangeFuncNested
import Derived.RangeFuncBound
import Derived.RangeFuncCalls
import Derived.RangeFuncLeaves
import Derived.Shelf.Abstract
import Derived.Shelf.RegionOpen
import Derived.OwnWalkIn
import Derived.TacticsInMore
import Derived.LoopNIn
import Derived.LoopIn
namespace Go.Proofs.Ytndlldlanjhanaa
open Go.ChangeShapes Go.WideShapes Go.ChangeAt Go.RowKit Go.Shelf
set_option linter.unusedVariables false
set_option linter.unusedSimpArgs false
attribute [local go_sem] Oper.semAt_some
open Pk BigFrame

namespace Pk
/-- The places of a tenant's flows among the first k. -/
def ofs (T : Nat → Int) (t : Int) : Nat → List Nat
  | 0 => []
  | k + 1 => if T k = t then ofs T t k ++ [k] else ofs T t k
theorem ofs_in {T : Nat → Int} {t : Int} {k : Nat} (h : T k = t) : ofs T t (k + 1) = ofs T t k ++ [k] := by simp [ofs, h]
theorem ofs_out {T : Nat → Int} {t : Int} {k : Nat} (h : ¬ T k = t) : ofs T t (k + 1) = ofs T t k := by simp [ofs, h]
theorem ofs_len (T : Nat → Int) (t : Int) (k : Nat) : (ofs T t k).length ≤ k := by
  induction k with
  | zero => simp [ofs]
  | succ k ih =>
    unfold ofs
    split
    · simp; omega
    · omega
def keepF (b1 b2 rb : Nat) (W W' : World) : Prop := W'.cell? ⟨b1, 0, none⟩ = W.cell? ⟨b1, 0, none⟩ ∧ W'.cell? ⟨b2, 0, none⟩ = W.cell? ⟨b2, 0, none⟩ ∧ ∀ o, W'.cell? ⟨rb, o, none⟩ = W.cell? ⟨rb, o, none⟩
theorem keepF_t {b1 b2 rb : Nat} {A B C : World} (h : keepF b1 b2 rb A B) (k : keepF b1 b2 rb B C) : keepF b1 b2 rb A C := ⟨k.1.trans h.1, k.2.1.trans h.2.1, fun o => (k.2.2 o).trans (h.2.2 o)⟩
theorem keepF_b {b1 b2 rb n : Nat} (h1 : b1 < n) (h2 : b2 < n) (h3 : rb < n) (W : World) (l : Nat) (o o' : Obj) (hl : n ≤ l) (h : W.heap[l]? = some o) (_ : o.isCells = false) (_ : o.isWalk = false) : keepF b1 b2 rb W (W.putObj l o') := by
  have q : Below n W (W.putObj l o') := (Below.refl n W).grown (grownBy_putObj' W l o') (by have := (Array.getElem?_eq_some_iff.1 h).1; omega) (fun k e => by cases e; omega)
  exact ⟨q.cell (p := ⟨b1, 0, none⟩) h1, q.cell (p := ⟨b2, 0, none⟩) h2, fun o => q.cell (p := ⟨rb, o, none⟩) h3⟩
theorem grown_drew (W : World) : W.grownBy W.drew none := ⟨rfl, rfl, rfl, Nat.le_refl _, fun _ _ _ => rfl⟩
end Pk