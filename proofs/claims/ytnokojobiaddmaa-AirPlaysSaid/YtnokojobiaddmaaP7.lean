/- The air's state at flat messages. -/
import Derived.Test.YtnokojobiaddmaaP6
import Derived.Maps.OwnSet
import Derived.Maps.OwnOps
import Derived.Lib.SliceRun
import Derived.Deep.RegionLaw
import Derived.DeepKeys4
namespace Go.Proofs.Ytnokojobiaddmaa
open Go.ChangeShapes Go.WideShapes Go.ChangeAt Go.RowKit Go.Maps
set_option linter.unusedVariables false
set_option linter.unusedSimpArgs false
open BigFrame Bs Am

namespace Ar
theorem laidOutA : laidOutB Try.prog = true := by kernel_rfl
theorem way_keyed : Keyed Try.prog 64 := Keyed.of_law (deep_law_laid laidOutA (m := Try.prog.types.size + 1) (of_decide_eq_true (by kernel_rfl)) (of_decide_eq_true (by kernel_rfl)) (by kernel_rfl) (by kernel_rfl))
theorem types_two : ∃ m, Try.prog.types.size + 1 = m + 2 := ⟨Try.prog.types.size - 1, by have : 0 < Try.prog.types.size := of_decide_eq_true (by kernel_rfl); omega⟩
theorem way_key (f t : Int) (h1 : (Lit.int .i64 f).wf = true) (h2 : (Lit.int .i64 t).wf = true) : keyOf Try.prog 64 (.agg #[.int .i64 f, .int .i64 t]) = some (.string (keyBytes [.int .i64 f, .int .i64 t])) := by
  have k1 : Try.prog.keyType 64 = true := by kernel_rfl
  have c1 : Try.prog.cellsOf 64 = 2 := by kernel_rfl
  have c2 : Try.prog.cellsOf 3 = 1 := by kernel_rfl
  obtain ⟨m, hm⟩ := types_two
  have k2 : (Value.agg #[.int .i64 f, .int .i64 t]).formed Try.prog 64 = true := by simp [Value.formed, Try.underlying64, c1]
  unfold keyOf
  simp only [Try.underlying64]
  rw [k1, k2, hm]
  simp [Program.keyLits, Try.underlying64, Try.underlying3, c1, c2, h1, h2, Value.cells]
def rowM (l : List RM) : List Value := l.flatMap cellsM
theorem rowM_snoc (l : List RM) (m : RM) : rowM (l ++ [m]) = rowM l ++ cellsM m := by simp [rowM]
theorem rowM_cons (l : List RM) (m : RM) : rowM (m :: l) = cellsM m ++ rowM l := by simp [rowM]
theorem rowM_app (l r : List RM) : rowM (l ++ r) = rowM l ++ rowM r := by simp [rowM]
theorem cellsM_len (m : RM) : (cellsM m).length = 14 := rfl
theorem rowM_len (l : List RM) : (rowM l).length = l.length * 14 := by
  induction l with
  | nil => rfl
  | cons a l ih => rw [rowM_cons, List.length_append, ih, cellsM_len, List.length_cons]; omega
theorem rowM_at (l : List RM) (i j : Nat) (hi : i < l.length) (hj : j < 14) : (rowM l)[i * 14 + j]? = (cellsM (l.getD i rm0))[j]? := by
  induction l generalizing i with
  | nil => simp at hi
  | cons a l ih =>
    rw [rowM_cons]
    cases i with
    | zero =>
      rw [List.getElem?_append_left (by rw [cellsM_len]; omega)]
      simp
    | succ i =>
      rw [List.getElem?_append_right (by rw [cellsM_len]; omega), cellsM_len, show (i + 1) * 14 + j - 14 = i * 14 + j by omega, ih i (by simpa using hi)]
      simp
theorem cellsM_one (m : RM) : ∀ u ∈ cellsM m, u.oneCell' = true := by
  intro u hu
  simp [cellsM] at hu
  rcases hu with rfl | rfl | rfl | rfl | rfl | rfl | rfl | rfl | rfl | rfl | rfl | rfl | rfl | rfl <;> rfl
/-- Which ways are cut. -/
def Cuts (w : World) (bm n : Nat) (C : Int → Int → Bool) : Prop :=
  ∃ D : DataW Unit, w.ownsMap Try.prog 64 (plainElem Try.prog 4) bm n D ∧ ∀ f t, (Lit.int .i64 f).wf = true → (Lit.int .i64 t).wf = true → D.atKey (.string (keyBytes [.int .i64 f, .int .i64 t])) (.lit (.bool false)) = .lit (.bool (C f t))
/-- An air. -/
structure AirAt (m : Nat) (w : World) (g base : Nat) (lv : Value) (l : List RM) (bm n : Nat) (C : Int → Int → Bool) : Prop where
  hg : w.heap[g]? = some (.cells #[lv, .map (some bm)] 59 (0, 0))
  own : w.ownsRow base 34 14 lv l.length (rowM l)
  mp : Cuts w bm n C
  h1 : g < base
  h2 : bm < base
  h3 : g ≠ bm
  h4 : m ≤ g
  h5 : m ≤ bm
  h6 : base ≤ w.heap.size
theorem heap_cell {w : World} {g o : Nat} {cs : Array Value} {t : TypeId} {v : Value} (h : w.heap[g]? = some (.cells cs t (0, 0))) (hv : cs[o]? = some v) : w.cell? ⟨g, o, none⟩ = some v := by
  unfold World.cell?
  simp only [h]
  simpa using hv
theorem heap_frozen {w : World} {g : Nat} {cs : Array Value} {t : TypeId} (h : w.heap[g]? = some (.cells cs t (0, 0))) (o : Nat) : w.frozen? ⟨g, o, none⟩ = false := by
  unfold World.frozen?
  simp [h]
theorem heap_set {w : World} {g o : Nat} {cs : Array Value} {t : TypeId} {v : Value} (h : w.heap[g]? = some (.cells cs t (0, 0))) : (w.setCell ⟨g, o, none⟩ v).heap[g]? = some (.cells (cs.setIfInBounds o v) t (0, 0)) := by
  unfold World.setCell
  simp [Array.getElem?_modify, h]
section
variable {m : Nat} {w : World} {g base : Nat} {lv : Value} {l : List RM} {bm n : Nat} {C : Int → Int → Bool}
theorem AirAt.c0 (h : AirAt m w g base lv l bm n C) : w.cell? ⟨g, 0, none⟩ = some lv := heap_cell h.hg rfl
theorem AirAt.c1 (h : AirAt m w g base lv l bm n C) : w.cell? ⟨g, 1, none⟩ = some (.map (some bm)) := heap_cell h.hg rfl
theorem AirAt.f0 (h : AirAt m w g base lv l bm n C) : w.frozen? ⟨g, 0, none⟩ = false := heap_frozen h.hg 0
theorem AirAt.lt (h : AirAt m w g base lv l bm n C) : g < w.heap.size := (Array.getElem?_eq_some_iff.1 h.hg).1
theorem cuts_bel {w w' : World} (h : Cuts w bm n C) (k : Below w.heap.size w w') : Cuts w' bm n C := by
  obtain ⟨D, h1, h2⟩ := h
  have hlt := h1.lt
  obtain ⟨es, clock, hb, F, hs, hD⟩ := h1
  exact ⟨D, ⟨es, clock, (k.block bm hlt).trans hb, F, hs, hD⟩, h2⟩
theorem AirAt.bel {w' : World} (h : AirAt m w g base lv l bm n C) (k : Below w.heap.size w w') : AirAt m w' g base lv l bm n C :=
  ⟨(k.block g h.lt).trans h.hg, own_bel h.own k, cuts_bel h.mp k, h.h1, h.h2, h.h3, h.h4, h.h5, Nat.le_trans h.h6 k.size⟩
theorem AirAt.below (h : AirAt m w g base lv l bm n C) : m ≤ w.heap.size := by have := h.h4; have := h.lt; omega
/-- A message's cells. -/
theorem AirAt.cell (h : AirAt m w g base lv l bm n C) {q cap : Nat} (hq : lv = .slice (some ⟨q, 0, none⟩) l.length cap) (i j : Nat) (hi : i < l.length) (hj : j < 14) (v : Value) (hv : (cellsM (l.getD i rm0))[j]? = some v) : w.cell? ⟨q, i * 14 + j, none⟩ = some v := by
  have := h.own
  subst hq
  rw [this.cellAt (i * 14 + j) (by omega), rowM_at l i j hi hj, hv]
/-- What is kept by what is done to an air. -/
structure Kpt (m g bm : Nat) (lv lv' : Value) (w w' : World) : Prop where
  bel : Below m w w'
  blk : ∀ b, b < w.heap.size → b ≠ g → b ≠ bm → lv.ownBlock ≠ some b → w'.heap[b]? = w.heap[b]?
  row : ∀ b, b < w.heap.size → lv.ownBlock ≠ some b → lv'.ownBlock ≠ some b
theorem Kpt.pre {m g bm : Nat} {lv lv' : Value} {w0 w w' : World} (k : Kpt m g bm lv lv' w w') (h : Below w0.heap.size w0 w) (hm : m ≤ w0.heap.size) : Kpt m g bm lv lv' w0 w' :=
  ⟨(h.mono hm).trans k.bel, fun b hb h1 h2 h3 => (k.blk b (Nat.lt_of_lt_of_le hb h.size) h1 h2 h3).trans (h.block b hb), fun b hb h3 => k.row b (Nat.lt_of_lt_of_le hb h.size) h3⟩
theorem Kpt.drew {m g bm : Nat} {lv lv' : Value} {w w' : World} (k : Kpt m g bm lv lv' w w') : Kpt m g bm lv lv' w w'.drew := ⟨k.bel.drew, k.blk, k.row⟩
theorem AirAt.grown {w5 : World} {O : Obj} (h : AirAt m w g base lv l bm n C) (hg : (w.alloc O).grownBy w5 lv.ownBlock) : w5.cell? ⟨g, 0, none⟩ = some lv ∧ w5.frozen? ⟨g, 0, none⟩ = false := by
  have hlt := h.lt
  have hne : some g ≠ lv.ownBlock := fun e => by have := (h.own.lt g e.symm).1; have := h.h1; omega
  have hgg : w5.heap[g]? = some (.cells #[lv, .map (some bm)] 59 (0, 0)) :=
    (hg.block g (by simp; omega) hne).trans ((Below.heap_alloc w O g hlt).trans h.hg)
  exact ⟨heap_cell hgg rfl, heap_frozen hgg 0⟩
theorem AirAt.send {w5 : World} {O : Obj} {q2 n2 c2 : Nat} {lv2 : Value} {x : RM} (he : lv2 = .slice (some ⟨q2, 0, none⟩) n2 c2) (hat : lv.ownBlock = some q2 ∨ w.heap.size ≤ q2) (h : AirAt m w g base lv l bm n C) (hg : (w.alloc O).grownBy w5 lv.ownBlock) (own1 : w5.ownsRow base 34 14 lv2 (l.length + 1) (rowM l ++ cellsM x)) :
    AirAt m (w5.setCell ⟨g, 0, none⟩ lv2) g base lv2 (l ++ [x]) bm n C ∧ Kpt m g bm lv lv2 w (w5.setCell ⟨g, 0, none⟩ lv2) := by
  have hlt := h.lt
  have hs := hg.size
  have hs1 : w.heap.size + 1 ≤ w5.heap.size := by simpa using hs
  have hne : ∀ b, b < base → some b ≠ lv.ownBlock := fun b hb e => by have := (h.own.lt b e.symm).1; omega
  have hgg : w5.heap[g]? = some (.cells #[lv, .map (some bm)] 59 (0, 0)) :=
    (hg.block g (by simp; omega) (hne g h.h1)).trans ((Below.heap_alloc w O g hlt).trans h.hg)
  refine ⟨⟨?_, ?_, ?_, h.h1, h.h2, h.h3, h.h4, h.h5, ?_⟩, ?_⟩
  · exact heap_set (o := 0) (v := lv2) hgg
  · have e : rowM (l ++ [x]) = rowM l ++ cellsM x := rowM_snoc l x
    rw [e, List.length_append]
    exact ownsRow_setCell_below own1 (a := ⟨g, 0, none⟩) h.h1 _
  · obtain ⟨D, d1, d2⟩ := h.mp
    exact ⟨D, ((d1.alloc O).kept hg (hne bm h.h2)).setCell (a := ⟨g, 0, none⟩) (Ne.symm h.h3) _, d2⟩
  · have := h.h6; simp; omega
  · refine ⟨?_, fun b hb h1 h2 h3 => ?_, fun b hb h3 e => ?_⟩
    rotate_left
    · exact (Below.heap_setCell w5 ⟨g, 0, none⟩ lv2 b h1).trans ((hg.block b (by simp; omega) (Ne.symm h3)).trans (Below.heap_alloc w O b hb))
    · rw [he] at e
      simp [Value.ownBlock] at e
      subst e
      rcases hat with hat | hat
      · exact h3 hat
      · omega
    exact (((Below.refl m w).alloc h.below O).grown hg (by have := h.below; simp; omega) (fun k hk => by have := (h.own.lt k hk).1; have := h.h4; have := h.h1; omega)).setCell (p := ⟨g, 0, none⟩) h.h4 _
end
end Ar
theorem info_msg : (Try.prog.info? 34).map (fun i => (i.zero, i.size, i.bytes)) = some (some (.agg #[.int .i8 0, .int .i64 0, .int .i64 0, .int .i64 0, .int .i64 0, .int .i64 0, .int .i64 0, .bool false, .slice none 0 0, .int .i64 0, .int .i64 0, .int .u8 0, .slice none 0 0, .slice none 0 0]), 14, 160) := by kernel_rfl
end Go.Proofs.Ytnokojobiaddmaa
