/- Queues of packets: copies, and what is done to the ring. -/
import Derived.Test.YtbbcongfaoopcaaQ1
namespace Go.Proofs.Ytbbcongfaoopcaa
open Go.ChangeShapes Go.WideShapes Go.ChangeAt Go.RowKit
set_option linter.unusedVariables false
set_option linter.unusedSimpArgs false
open Pk BigFrame Fq

namespace Fq
/-- All but a queue and its ring is as it was. -/
structure Kept (w w' : World) (qb rb : Nat) : Prop where
  size : w.heap.size ≤ w'.heap.size
  block : ∀ b, b < w.heap.size → b ≠ qb → b ≠ rb → w'.heap[b]? = w.heap[b]?
  bel : ∀ (B : Nat) (A : World), Below B A w → B ≤ qb → B ≤ rb → Below B A w'
theorem Kept.refl (w : World) (qb rb : Nat) : Kept w w qb rb := ⟨Nat.le_refl _, fun _ _ _ _ => rfl, fun _ _ h _ _ => h⟩
theorem Kept.trans {a b c : World} {qb rb : Nat} (h : Kept a b qb rb) (k : Kept b c qb rb) : Kept a c qb rb :=
  ⟨Nat.le_trans h.size k.size, fun x hx h1 h2 => (k.block x (Nat.lt_of_lt_of_le hx h.size) h1 h2).trans (h.block x hx h1 h2), fun B A hb h1 h2 => k.bel B A (h.bel B A hb h1 h2) h1 h2⟩
theorem Kept.of_below {w w' : World} {qb rb : Nat} (h : Below w.heap.size w w') (hq : qb < w.heap.size) : Kept w w' qb rb :=
  ⟨h.size, fun b hb _ _ => h.block b hb, fun B A hb h1 _ => hb.trans (h.mono (Nat.le_of_lt (Nat.lt_of_le_of_lt h1 hq)))⟩
theorem Kept.set {w : World} {qb rb : Nat} (b o : Nat) (v : Value) (hb : b = qb ∨ b = rb) : Kept w (w.setCell ⟨b, o, none⟩ v) qb rb :=
  ⟨by simp, fun x _ h1 h2 => heap_setCell_other w ⟨b, o, none⟩ x v (by rcases hb with rfl | rfl <;> simpa using by assumption), fun B A h h1 h2 => h.setCell (p := ⟨b, o, none⟩) (by rcases hb with rfl | rfl <;> assumption) v⟩
theorem Kept.drew {w : World} {qb rb : Nat} (n : Nat) : Kept w (w.drewN n) qb rb := ⟨by simp, fun b _ _ _ => by simp, fun B A h _ _ => bDrew h n⟩
theorem wpAnyH_start2 {P : Program} {md : Region.Mode} {ops : Array Oper} {Q : Exit → Act → World → Prop} {S : World → Prop} {n n' : Nat} {l l' : Array Bool} {a0 : Act} {v0 : World}
    (h1 : n = n') (h2 : l = l') (h : wpAnyH P md ops Q S n' l' a0 v0) : wpAnyH P md ops Q S n l a0 v0 := by subst h1; subst h2; exact h
end Fq