/- A range over a function whose elements are told of the world they are given in. -/
import Derived.Test.YtnokojobiaddmaaP24
import Derived.RangeFuncNested
import Derived.RangeFuncBound
import Derived.RangeFuncCalls
import Derived.RangeFuncLeaves
import Derived.Shelf.Abstract
import Derived.Shelf.RegionOpen
import Derived.OwnWalkIn
import Derived.TacticsInMore
import Derived.LoopNIn
import Derived.LoopIn
namespace Go.Proofs.Ytnokojobiaddmaa
open Go.ChangeShapes Go.WideShapes Go.ChangeAt Go.RowKit
set_option linter.unusedVariables false
set_option linter.unusedSimpArgs false

namespace Rx
section
variable {α : Type} {n : Nat} {P : Program}
/-- The iterator g: whatever it gives holds Ps in the world in which it gives it. -/
def SeqX (n : Nat) (P : Program) (g : Nat) (lb : Array Value) (encs : α → Array Value) (Kp : World → World → Prop) (Ps : List α → α → World → Prop) (S Sp : List α → Prop) (N : Nat) (w : World) : Prop :=
  ∀ (l : Nat) (J Jx : List α → World → Prop) (W : World), Below w.heap.size w W → AbidesFrom W.heap.size J → AbidesFrom W.heap.size Jx →
    (∀ pre x U, J pre U → Ps pre x U → pre.length < N → YieldAt Fence.wide (n - 1) P l (encs x) U fun e U' => (e = .returned (.bool true) ∧ J (pre ++ [x]) U' ∧ Kp U U') ∨ (e = .returned (.bool false) ∧ Jx (pre ++ [x]) U')) →
    J [] W → CallsIn Fence.wide n P g (#[.func (.yield l) #[] #[]] ++ lb) W fun e U => (∃ v, e = .returned v) ∧ ((∃ xs, S xs ∧ J xs U) ∨ (∃ pre, Sp pre ∧ Jx pre U))
/-- The loop's own two blocks: the rounds' deferred calls at b, the record behind it. -/
def Book (b : Nat) (r : Loop) (W : World) : Prop := W.heap[b]? = some (.deferred (some [])) ∧ W.heap[b + 1]? = some (.loop r)
theorem Book.lt {b : Nat} {r : Loop} {W : World} (h : Book b r W) : b + 1 < W.heap.size := (Array.getElem?_eq_some_iff.1 h.2).1
theorem Book.put {b : Nat} {r : Loop} {W : World} (h : Book b r W) (r2 : Loop) : Book b r2 (W.putObj (b + 1) (.loop r2)) := ⟨(World.putObj_heap_other (by omega)).trans h.1, World.putObj_heap_same h.lt⟩
theorem Book.kept {b B : Nat} {r : Loop} {W U : World} (h : Book b r W) (k : KeepsFrom B W U) (hB : B ≤ b) : Book b r U := ⟨k.same _ _ hB h.1 rfl, k.same _ _ (by omega) h.2 rfl⟩
theorem Book.grown {b : Nat} {r : Loop} {W U : World} {row : Option Nat} (h : Book b r W) (g : W.grownBy U row) (hr : ∀ q, row = some q → ∃ o : Obj, W.heap[q]? = some o ∧ o.isWalk = true) : Book b r U := ⟨(grownBy_keeps g hr h.1 rfl).trans h.1, (grownBy_keeps g hr h.2 rfl).trans h.2⟩
theorem walk_cells {B B2 : Nat} (hB : B ≤ B2) {W : World} {row : Option Nat} (hr : ∀ q, row = some q → B2 ≤ q ∧ ∃ o : Obj, W.heap[q]? = some o ∧ o.isWalk = true) : ∀ q, row = some q → B ≤ q ∧ ∃ o : Obj, W.heap[q]? = some o ∧ o.isCells = false := fun q e => by
  obtain ⟨h1, o, h2, h3⟩ := hr q e
  exact ⟨by omega, o, h2, Obj.not_cells_of_walk h3⟩
/-- A round's end: what the record says next. -/
theorem round_end {b B : Nat} {r : Loop} {W U : World} (h : Book b r W) (k : KeepsFrom B W U) (hB : B ≤ b) (jump : Option Code) :
    (Instr.endRound (b + 1) jump).run P U = .ok (.bool jump.isNone) (U.putObj (b + 1) (.loop { r with state := if jump.isNone then .ready else .done, pending := jump })) ∧ Book b { r with state := if jump.isNone then .ready else .done, pending := jump } (U.putObj (b + 1) (.loop { r with state := if jump.isNone then .ready else .done, pending := jump })) ∧ U.heap[b + 1]? = some (.loop r) :=
  have q := h.kept k hB
  ⟨run_endRound jump q.2, q.put _, q.2⟩
/-- The law: one parameter or more, outside of any round. -/
theorem range_told {g : Operand} {ps : Array Tmp} {assign body : Code} {Q : Exit → Act → World → Prop} {a : Act} {w : World}
    (h1 : 1 ≤ n) {gf : Nat} {lb : Array Value} (hg : a.eval g = .func (.func gf) #[] lb) (eg : ∀ args w, (callFunc gf args).run P w = .ok (.enter gf args) w)
    {encs : α → Array Value} {Kp : World → World → Prop} {Ps : List α → α → World → Prop} {S Sp : List α → Prop} {N : Nat} {w0 : World} (hseq : SeqX (n - 1) P gf lb encs Kp Ps S Sp N w0)
    (hKt : ∀ {A B C : World}, Kp A B → Kp B C → Kp A C) (hKb : ∀ (W : World) (l : Nat) (o o' : Obj), w.heap.size ≤ l → W.heap[l]? = some o → o.isCells = false → o.isWalk = false → Kp W (W.putObj l o')) (hb0 : Below w0.heap.size w0 w) (hps : ∀ x, (encs x).size = ps.size)
    (I Ix : List α → World → Prop) (c : Code) (hc : c = .ret ∨ ∃ id, c = .exit id) (hI : OwnFrom w.heap.size I) (hIx : OwnFrom w.heap.size Ix) (h0 : I [] w) (Ax : List α → α → Act → World → Prop) (hAx : ∀ pre x a', OwnFrom w.heap.size (fun (_ : Unit) W => Ax pre x a' W))
    (hassign : ∀ (l : Nat) (pre : List α) (x : α) (W : World) (K : Act → World → Prop), I pre W → Ps pre x W → (∀ a' W', KeepsFrom w.heap.size W W' → Kp W W' → I pre W' → Ax pre x a' W' → K a' W') →
      assign.wpIn (Fence.wide.inRound l) (n - 1 - 1) P (Exit.then K (fun _ _ _ => False)) { tmps := (ps.zip (encs x)).foldl (fun t (p, v) => t.setIfInBounds p v) a.tmps, defers := [] } W)
    (hbody : ∀ (l : Nat) (pre : List α) (x : α) (a' : Act) (W : World), I pre W → Ax pre x a' W → pre.length < N → body.wpIn (Fence.wide.inRound l) (n - 1 - 1) P (fun e _ U => (e = .normal ∧ KeepsFrom w.heap.size W U ∧ Kp W U ∧ I (pre ++ [x]) U) ∨ (((e = .ret ∧ c = .ret) ∨ ∃ id, e = .exit id ∧ c = .exit id) ∧ KeepsFrom w.heap.size W U ∧ Ix (pre ++ [x]) U)) a' W)
    (hdone : ∀ (D : Nat) (xs : List α) (W : World), w.heap.size ≤ D → S xs → I xs W → W.heap[D]? = some (.deferred (some [])) → Q .normal { a with defers := { target := .collected D, args := #[] } :: a.defers } W)
    (hstop : ∀ (D : Nat) (pre : List α) (W : World), w.heap.size ≤ D → Sp pre → Ix pre W → W.heap[D]? = some (.deferred (some [])) → c.wpIn Fence.wide n P Q { a with defers := { target := .collected D, args := #[] } :: a.defers } W) :
    (Code.rangeFunc g ps assign body).wpIn Fence.wide n P Q a w := by
  refine wpIn_rangeFunc fun fn hfn => ?_
  obtain ⟨r0, hr0⟩ : ∃ r0 : Loop, r0 = { state := .ready, pending := none, fn := fn, tmps := a.tmps, params := ps, assign := assign, body := body, defers := w.heap.size } := ⟨_, rfl⟩
  have hB1 : Book w.heap.size r0 ((w.alloc (.deferred (some []))).alloc (.loop r0)) := by
    refine ⟨(Below.heap_alloc _ _ _ (by simp)).trans (World.alloc_heap_new w _), ?_⟩
    have := World.alloc_heap_new (w.alloc (.deferred (some []))) (.loop r0)
    rwa [World.size_alloc] at this
  have hs1 : ((w.alloc (.deferred (some []))).alloc (.loop r0)).heap.size = w.heap.size + 1 + 1 := by simp
  have hI1 : I [] ((w.alloc (.deferred (some []))).alloc (.loop r0)) := hI.alloc _ (hI.alloc _ h0)
  have hW1 : Below w0.heap.size w0 ((w.alloc (.deferred (some []))).alloc (.loop r0)) := hb0.trans ((((Below.refl _ w).alloc (Nat.le_refl _) _).alloc (by simp) _).mono hb0.size)
  refine ⟨w.heap.size + 1, [{ target := .collected w.heap.size, args := #[] }], (w.alloc (.deferred (some []))).alloc (.loop r0), { target := .fn (.func gf) lb, args := #[.func (.yield (w.heap.size + 1)) #[] #[]] }, (w.alloc (.deferred (some []))).alloc (.loop r0), gf, #[.func (.yield (w.heap.size + 1)) #[] #[]] ++ lb, (w.alloc (.deferred (some []))).alloc (.loop r0), ?_, ?_, ?_, ?_, fun _ => h1, ?_⟩
  · rw [hr0]; exact run_enterLoop_outer _ _ _ _ _
  · simp only [resolve, hg]
    simp [go_sem]
  · intro f' _
    trivial
  · simp [invoke, go_sem, eg]
  generalize (w.alloc (.deferred (some []))).alloc (.loop r0) = W1 at hB1 hs1 hI1 hW1 ⊢
  refine (hseq (w.heap.size + 1) (fun pre U => I pre U ∧ Book w.heap.size r0 U) (fun pre U => Ix pre U ∧ Book w.heap.size { r0 with state := .done, pending := some c } U) W1 hW1
    (fun s A B row hs hgr hr => ⟨hI s A B row hs.1 hgr (walk_cells (by omega) hr), hs.2.grown hgr (fun q e => (hr q e).2)⟩)
    (fun s A B row hs hgr hr => ⟨hIx s A B row hs.1 hgr (walk_cells (by omega) hr), hs.2.grown hgr (fun q e => (hr q e).2)⟩) ?_ ⟨hI1, hB1⟩).mono ?_
  · rintro pre x U ⟨hi, hbk⟩ hpx hlen
    have hy := run_yield (P := P) (args := encs x) hbk.2 (by rw [hr0]; exact hps x)
    refine ⟨_, _, _, _, hy, roundIn_of_wpIn trivial ?_⟩
    have ha := hassign (w.heap.size + 1) pre x U
    rw [hr0]
    refine ha _ hi hpx fun a' V kV kpV iV axV => ?_
    have bV := hbk.kept kV (Nat.le_refl _)
    refine ⟨_, run_beginRound bV.2 (by rw [hr0]), ?_⟩
    have b2 := bV.put { r0 with state := .busy }
    have k2 : Kp V (V.putObj (w.heap.size + 1) (.loop { r0 with state := .busy })) := hKb _ _ _ _ (by omega) bV.2 rfl rfl
    refine wpIn_mono (hbody (w.heap.size + 1) pre x a' _ (hI.putObj _ iV (by omega) bV.2 rfl) ((hAx pre x a').putObj (s := ()) _ axV (by omega) bV.2 rfl) hlen) ?_
    rintro e a3 X (⟨rfl, kX, kpX, iX⟩ | ⟨he, kX, iX⟩)
    · obtain ⟨q1, q2, q3⟩ := round_end (P := P) b2 kX (Nat.le_refl _) none
      refine ⟨_, _, q1, .inl ⟨rfl, ⟨hI.putObj _ iX (by omega) q3 rfl, ?_⟩, hKt kpV (hKt (hKt k2 kpX) (hKb _ _ _ _ (by omega) q3 rfl rfl))⟩⟩
      rw [hr0] at q2 ⊢
      exact q2
    · obtain ⟨q1, q2, q3⟩ := round_end (P := P) b2 kX (Nat.le_refl _) (some c)
      simp only [Option.isNone_some, Bool.false_eq_true, if_false] at q1 q2
      have fin := hIx.putObj (s := pre ++ [x]) (.loop { r0 with state := .done, pending := some c }) iX (show w.heap.size ≤ w.heap.size + 1 by omega) q3 rfl
      rcases he with ⟨rfl, rfl⟩ | ⟨id, rfl, rfl⟩
      · exact ⟨_, _, q1, .inr ⟨rfl, fin, by rw [hr0] at q2 ⊢; exact q2⟩⟩
      · exact ⟨_, _, q1, .inr ⟨rfl, fin, by rw [hr0] at q2 ⊢; exact q2⟩⟩
  · rintro e U ⟨⟨v, rfl⟩, (⟨xs, hS, hi, hbk⟩ | ⟨pre, hSp, hi, hbk⟩)⟩
    · have he := run_endLoop (P := P) hbk.2 (by rw [hr0]; simp)
      rw [hr0] at he
      exact ⟨none, _, he, hdone _ xs _ (Nat.le_refl _) hS (hI.putObj _ hi (by omega) hbk.2 rfl) ((World.putObj_heap_other (by omega)).trans hbk.1)⟩
    · have he := run_endLoop (P := P) hbk.2 (by simp)
      exact ⟨some c, _, he, hstop _ pre _ (Nat.le_refl _) hSp (hIx.putObj _ hi (by omega) hbk.2 rfl) ((World.putObj_heap_other (by omega)).trans hbk.1)⟩
end
end Rx
end Go.Proofs.Ytnokojobiaddmaa
