/- What every walk leans on: blocks of one's own, what stays below a mark, rows of integers, staged regions. -/
import Derived.Test.YtnokojobiaddmaaRows
import Derived.Test.YtnokojobiaddmaaStage2
import Derived.WalkKit
import Derived.WalkMore
import Derived.WalkSmall
import Derived.ProofKit
import Derived.OpenShut
import Derived.Below
import Derived.BigQuiet
import Derived.Deep.QuietTactic
import Derived.Deep.Cut
import Derived.Deep.AppendLies
import Derived.Deep.RegionHeld3
import Derived.IntWalk
import Derived.OwnWalk
import Derived.Lib.Hide
import Derived.OneCell
namespace Go.Proofs.Ytnokojobiaddmaa
open Go.ChangeShapes Go.WideShapes Go.ChangeAt Go.RowKit
set_option linter.unusedVariables false
set_option linter.unusedSimpArgs false
open BigFrame

namespace Bs
theorem max_fold (a b : Int) : (if a < b then b else a) = max a b := by omega
theorem min_fold (a b : Int) : (if a < b then a else b) = min a b := by omega
theorem bNext {a b c : World} {B : Nat} (h : Below B a b) (k : Below b.heap.size b c) (hB : B ≤ a.heap.size) : Below B a c := h.trans (k.mono (Nat.le_trans hB h.size))
theorem bDrew {B : Nat} {a b : World} (h : Below B a b) : ∀ n, Below B a (b.drewN n)
  | 0 => h
  | n + 1 => by simpa using (bDrew h n).drew
theorem cellB {u u' : World} {b o : Nat} {v : Value} (hb : Below u.heap.size u u') (h : u.cell? ⟨b, o, none⟩ = some v) : u'.cell? ⟨b, o, none⟩ = some v :=
  (hb.cell (p := ⟨b, o, none⟩) (World.block_lt_of_cell? _ _ h)).trans h
theorem grow_keep2 {wr w1 : World} {o : Obj} {v : Value} {base size n : Nat} {e : TypeId} {xs : List Value} (hown : wr.ownsRow base e size v n xs) (hg : (wr.alloc o).grownBy w1 v.ownBlock) (b : Nat) (hb : b < base) (hl : b < wr.heap.size) :
    (∀ off, w1.cell? ⟨b, off, none⟩ = wr.cell? ⟨b, off, none⟩) ∧ (∀ off, w1.frozen? ⟨b, off, none⟩ = wr.frozen? ⟨b, off, none⟩) := by
  have hne : some b ≠ v.ownBlock := fun e => by have := (hown.lt b e.symm).1; omega
  have h : w1.heap[b]? = wr.heap[b]? := (hg.block b (by show b < (wr.heap.push o).size; simp; omega) hne).trans (Below.heap_alloc wr o b hl)
  exact ⟨fun off => World.cell?_of_block h, fun off => World.frozen?_of_block h⟩
/-- A block of one's own, known whole, that may be written. -/
structure Blk (u : World) (b : Nat) (l : List Value) : Prop where
  c : ∀ i x, l[i]? = some x → u.cell? ⟨b, i, none⟩ = some x
  f : ∀ o, u.frozen? ⟨b, o, none⟩ = false
  l : b < u.heap.size
theorem Blk.below {u u' : World} {b m : Nat} {l : List Value} (h : Blk u b l) (k : Below m u u') (hm : b < m) : Blk u' b l :=
  ⟨fun i x hx => (k.cell (p := ⟨b, i, none⟩) hm).trans (h.c i x hx), fun o => (k.frozen (p := ⟨b, o, none⟩) hm).trans (h.f o), Nat.lt_of_lt_of_le h.l k.size⟩
theorem Blk.bel {u u' : World} {b : Nat} {l : List Value} (h : Blk u b l) (k : Below u.heap.size u u') : Blk u' b l := h.below k h.l
theorem Blk.other {u : World} {b q o : Nat} {l : List Value} (h : Blk u b l) (hne : b ≠ q) (v : Value) : Blk (u.setCell ⟨q, o, none⟩ v) b l :=
  ⟨fun i x hx => (World.cell?_setCell_other _ _ _ _ (by simp <;> omega)).trans (h.c i x hx), fun o => (World.frozen?_setCell _ _ _ _).trans (h.f o), by simpa using h.l⟩
theorem Blk.set {u : World} {b i : Nat} {l : List Value} (h : Blk u b l) (hi : i < l.length) (v : Value) : Blk (u.setCell ⟨b, i, none⟩ v) b (l.set i v) :=
  ⟨fun j x hx => by
    by_cases e : j = i
    · subst e
      rw [List.getElem?_set_self hi] at hx
      cases hx
      exact World.cell?_setCell_same _ _ _ (h.c j _ (List.getElem?_eq_getElem hi))
    · rw [List.getElem?_set_ne (by omega)] at hx
      exact (World.cell?_setCell_other _ _ _ _ (by simp <;> omega)).trans (h.c j x hx),
   fun o => (World.frozen?_setCell _ _ _ _).trans (h.f o), by simpa using h.l⟩
theorem Blk.drew {u : World} {b : Nat} {l : List Value} (h : Blk u b l) : Blk u.drew b l := h.bel (Below.refl _ _).drew
theorem Blk.grown {wr w1 : World} {o : Obj} {v : Value} {base size n b : Nat} {e : TypeId} {xs l : List Value} (h : Blk wr b l) (hown : wr.ownsRow base e size v n xs) (hg : (wr.alloc o).grownBy w1 v.ownBlock) (hb : b < base) (hs : wr.heap.size ≤ w1.heap.size) : Blk w1 b l := by
  have K := grow_keep2 hown hg b hb h.l
  exact ⟨fun i x hx => (K.1 i).trans (h.c i x hx), fun o => (K.2 o).trans (h.f o), Nat.lt_of_lt_of_le h.l hs⟩
/-- A new block. -/
theorem blk_new (u : World) (l : List Value) (t : TypeId) : Blk (u.alloc (.cells l.toArray t)) u.heap.size l :=
  ⟨fun i z hz => by
    have hi : i < l.length := (List.getElem?_eq_some_iff.1 hz).1
    have h : (u.alloc (.cells l.toArray t)).heap[u.heap.size]? = some (.cells l.toArray t (0, 0)) := heap_alloc_new u _
    unfold World.cell?
    simp only [h]
    simpa using hz,
   fun o => by go_simp, by simp⟩
/-- A row of structs of k integers lies in a world. -/
structure IntRows (w : World) (a : Option Addr) (b off N k : Nat) (X : Nat → Nat → Int) : Prop where
  ha : 0 < N → a = some ⟨b, off, none⟩
  hb : 0 < N → b < w.heap.size
  c : ∀ i j, i < N → j < k → w.cell? ⟨b, off + i * k + j, none⟩ = some (.int .i64 (X i j))
theorem IntRows.below {w w' : World} {a : Option Addr} {b off N k : Nat} {X : Nat → Nat → Int} {m : Nat} (h : IntRows w a b off N k X) (q : Below m w w') (hm : 0 < N → b < m) : IntRows w' a b off N k X :=
  ⟨h.ha, fun hn => Nat.lt_of_lt_of_le (h.hb hn) q.size, fun i j hi hj => (q.cell (p := ⟨b, _, none⟩) (hm (by omega))).trans (h.c i j hi hj)⟩
theorem IntRows.bel {w w' : World} {a : Option Addr} {b off N k : Nat} {X : Nat → Nat → Int} (h : IntRows w a b off N k X) (q : Below w.heap.size w w') : IntRows w' a b off N k X := h.below q h.hb
theorem IntRows.c0 {w : World} {a : Option Addr} {b off N k : Nat} {X : Nat → Nat → Int} (h : IntRows w a b off N k X) (i : Nat) (hi : i < N) (hk : 0 < k) : w.cell? ⟨b, off + i * k, none⟩ = some (.int .i64 (X i 0)) := by
  have := h.c i 0 hi hk
  rwa [Nat.add_zero] at this
/-- As long as nothing is stored, all that stood is as it was. -/
def SB (W : World) (n : Nat) (u : World) : Prop := n = 0 → Below W.heap.size W u
end Bs
end Go.Proofs.Ytnokojobiaddmaa
