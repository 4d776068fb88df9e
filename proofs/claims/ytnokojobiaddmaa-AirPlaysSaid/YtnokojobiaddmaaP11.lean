/- The air: Deliver. -/
import Derived.Test.YtnokojobiaddmaaP10
namespace Go.Proofs.Ytnokojobiaddmaa
open Go.ChangeShapes Go.WideShapes Go.ChangeAt Go.RowKit Go.Maps
set_option linter.unusedVariables false
set_option linter.unusedSimpArgs false
open BigFrame Bs Am Ar

namespace Stg
theorem wpAnyL_row {P : Program} {ops : Array Oper} {Q : Exit → Act → World → Prop} {md : Region.Mode} {marks : List Nat} {S : Nat → World → Prop} {i : Nat} {o : Oper} {fuel : Nat} {l : Array Bool} {a : Act} {w : World} (n : Nat) (ho : ops[i]? = some o) (hr : Region.ready md ops l = [i]) (hn : stage marks (l.setIfInBounds i true) = n)
    (hw : Region.wanted o (yielded ops a.tmps) = true) (ty : TypeId) (x y : Operand) (hop : o.op = .store ty x y) (g : Nat) (cells : Array Value) (hx : a.eval x = .pointer (some ⟨g, 0, none⟩)) (hy : a.eval y = .agg cells)
    (t : TypeId) (old : Array Value) (hg : w.heap[g]? = some (.cells old t (0, 0))) (hi : (P.info? ty).map (·.size) = some cells.size) (hold : old.size = cells.size) (h1 : cells.all (·.oneCell') = true)
    (hS : S n (w.setRow g cells)) (h : wpAnyL P md ops Q marks S fuel (l.setIfInBounds i true) (a.put o.dst undef) (w.setRow g cells)) : wpAnyL P md ops Q marks S (fuel + 1) l a w :=
  wpAnyL_one n ho hr hn fun K hK => by
    rw [if_pos hw]
    exact wp_store_row ty x y hop g cells hx hy t old hg hi hold h1 (hK.out _ _ hS fun _ => h)
end Stg

namespace Ar
section
variable {m : Nat} {w : World} {g base : Nat} {lv : Value} {l : List RM} {bm n : Nat} {C : Int → Int → Bool}
theorem AirAt.setO (h : AirAt m w g base lv l bm n C) {z : Nat} (h1 : g ≠ z) (h2 : bm ≠ z) (h3 : lv.ownBlock ≠ some z) (o : Nat) (v : Value) : AirAt m (w.setCell ⟨z, o, none⟩ v) g base lv l bm n C := by
  refine ⟨(Below.heap_setCell w ⟨z, o, none⟩ v g h1).trans h.hg, ?_, ?_, h.h1, h.h2, h.h3, h.h4, h.h5, by have := h.h6; simpa using this⟩
  · refine ⟨h.own.1, ?_⟩
    rcases h.own.2 with hh | ⟨q, cap, cur, e1, e2, e3, e4⟩
    · exact .inl hh
    · refine .inr ⟨q, cap, cur, e1, e2, ?_, e4⟩
      refine (Below.heap_setCell w ⟨z, o, none⟩ v q ?_).trans e3
      rintro rfl
      rw [e1] at h3
      exact h3 rfl
  · obtain ⟨D, d1, d2⟩ := h.mp
    exact ⟨D, d1.setCell (a := ⟨z, o, none⟩) h2 _, d2⟩
theorem AirAt.put (h : AirAt m w g base lv l bm n C) {z : Nat} (h1 : g ≠ z) (h2 : bm ≠ z) (h3 : lv.ownBlock ≠ some z) (v0 v1 v2 v3 v4 v5 v6 v7 v8 v9 v10 v11 v12 v13 : Value) : AirAt m ((((((((((((((w.setCell ⟨z, 0, none⟩ (v0)).setCell ⟨z, 1, none⟩ (v1)).setCell ⟨z, 2, none⟩ (v2)).setCell ⟨z, 3, none⟩ (v3)).setCell ⟨z, 4, none⟩ (v4)).setCell ⟨z, 5, none⟩ (v5)).setCell ⟨z, 6, none⟩ (v6)).setCell ⟨z, 7, none⟩ (v7)).setCell ⟨z, 8, none⟩ (v8)).setCell ⟨z, 9, none⟩ (v9)).setCell ⟨z, 10, none⟩ (v10)).setCell ⟨z, 11, none⟩ (v11)).setCell ⟨z, 12, none⟩ (v12)).setCell ⟨z, 13, none⟩ (v13)) g base lv l bm n C :=
  ((((((((((((((h.setO h1 h2 h3 0 v0).setO h1 h2 h3 1 v1).setO h1 h2 h3 2 v2).setO h1 h2 h3 3 v3).setO h1 h2 h3 4 v4).setO h1 h2 h3 5 v5).setO h1 h2 h3 6 v6).setO h1 h2 h3 7 v7).setO h1 h2 h3 8 v8).setO h1 h2 h3 9 v9).setO h1 h2 h3 10 v10).setO h1 h2 h3 11 v11).setO h1 h2 h3 12 v12).setO h1 h2 h3 13 v13)
structure HB (u : World) (b : Nat) (cs : Array Value) : Prop where
  h : u.heap[b]? = some (.cells cs 34 (0, 0))
theorem HB.c {u : World} {b : Nat} {cs : Array Value} (h : HB u b cs) (i : Nat) (v : Value) (hv : cs[i]? = some v) : u.cell? ⟨b, i, none⟩ = some v := heap_cell h.h hv
theorem HB.f {u : World} {b : Nat} {cs : Array Value} (h : HB u b cs) (i : Nat) : u.frozen? ⟨b, i, none⟩ = false := heap_frozen h.h i
theorem HB.lt {u : World} {b : Nat} {cs : Array Value} (h : HB u b cs) : b < u.heap.size := (Array.getElem?_eq_some_iff.1 h.h).1
theorem HB.bel {u u' : World} {b : Nat} {cs : Array Value} (h : HB u b cs) (k : Below u.heap.size u u') : HB u' b cs := ⟨(k.block b h.lt).trans h.h⟩
theorem HB.other {u : World} {b q o : Nat} {cs : Array Value} (h : HB u b cs) (hne : b ≠ q) (v : Value) : HB (u.setCell ⟨q, o, none⟩ v) b cs := ⟨(Below.heap_setCell u ⟨q, o, none⟩ v b hne).trans h.h⟩
theorem HB.new (u : World) (cs : Array Value) : HB (u.alloc (.cells cs 34)) u.heap.size cs := ⟨heap_alloc_new u _⟩
theorem HB.set {u : World} {b : Nat} {cs : Array Value} (h : HB u b cs) (o : Nat) (v : Value) : HB (u.setCell ⟨b, o, none⟩ v) b (cs.setIfInBounds o v) := ⟨heap_set h.h⟩
theorem HB.put {u : World} {b : Nat} {a0 a1 a2 a3 a4 a5 a6 a7 a8 a9 a10 a11 a12 a13 : Value} (h : HB u b #[a0, a1, a2, a3, a4, a5, a6, a7, a8, a9, a10, a11, a12, a13]) (v0 v1 v2 v3 v4 v5 v6 v7 v8 v9 v10 v11 v12 v13 : Value) : HB ((((((((((((((u.setCell ⟨b, 0, none⟩ (v0)).setCell ⟨b, 1, none⟩ (v1)).setCell ⟨b, 2, none⟩ (v2)).setCell ⟨b, 3, none⟩ (v3)).setCell ⟨b, 4, none⟩ (v4)).setCell ⟨b, 5, none⟩ (v5)).setCell ⟨b, 6, none⟩ (v6)).setCell ⟨b, 7, none⟩ (v7)).setCell ⟨b, 8, none⟩ (v8)).setCell ⟨b, 9, none⟩ (v9)).setCell ⟨b, 10, none⟩ (v10)).setCell ⟨b, 11, none⟩ (v11)).setCell ⟨b, 12, none⟩ (v12)).setCell ⟨b, 13, none⟩ (v13)) b #[v0, v1, v2, v3, v4, v5, v6, v7, v8, v9, v10, v11, v12, v13] := by
  have h0 : HB (u.setCell ⟨b, 0, none⟩ (v0)) b #[v0, a1, a2, a3, a4, a5, a6, a7, a8, a9, a10, a11, a12, a13] := HB.set h 0 v0
  have h1 : HB ((u.setCell ⟨b, 0, none⟩ (v0)).setCell ⟨b, 1, none⟩ (v1)) b #[v0, v1, a2, a3, a4, a5, a6, a7, a8, a9, a10, a11, a12, a13] := HB.set h0 1 v1
  have h2 : HB (((u.setCell ⟨b, 0, none⟩ (v0)).setCell ⟨b, 1, none⟩ (v1)).setCell ⟨b, 2, none⟩ (v2)) b #[v0, v1, v2, a3, a4, a5, a6, a7, a8, a9, a10, a11, a12, a13] := HB.set h1 2 v2
  have h3 : HB ((((u.setCell ⟨b, 0, none⟩ (v0)).setCell ⟨b, 1, none⟩ (v1)).setCell ⟨b, 2, none⟩ (v2)).setCell ⟨b, 3, none⟩ (v3)) b #[v0, v1, v2, v3, a4, a5, a6, a7, a8, a9, a10, a11, a12, a13] := HB.set h2 3 v3
  have h4 : HB (((((u.setCell ⟨b, 0, none⟩ (v0)).setCell ⟨b, 1, none⟩ (v1)).setCell ⟨b, 2, none⟩ (v2)).setCell ⟨b, 3, none⟩ (v3)).setCell ⟨b, 4, none⟩ (v4)) b #[v0, v1, v2, v3, v4, a5, a6, a7, a8, a9, a10, a11, a12, a13] := HB.set h3 4 v4
  have h5 : HB ((((((u.setCell ⟨b, 0, none⟩ (v0)).setCell ⟨b, 1, none⟩ (v1)).setCell ⟨b, 2, none⟩ (v2)).setCell ⟨b, 3, none⟩ (v3)).setCell ⟨b, 4, none⟩ (v4)).setCell ⟨b, 5, none⟩ (v5)) b #[v0, v1, v2, v3, v4, v5, a6, a7, a8, a9, a10, a11, a12, a13] := HB.set h4 5 v5
  have h6 : HB (((((((u.setCell ⟨b, 0, none⟩ (v0)).setCell ⟨b, 1, none⟩ (v1)).setCell ⟨b, 2, none⟩ (v2)).setCell ⟨b, 3, none⟩ (v3)).setCell ⟨b, 4, none⟩ (v4)).setCell ⟨b, 5, none⟩ (v5)).setCell ⟨b, 6, none⟩ (v6)) b #[v0, v1, v2, v3, v4, v5, v6, a7, a8, a9, a10, a11, a12, a13] := HB.set h5 6 v6
  have h7 : HB ((((((((u.setCell ⟨b, 0, none⟩ (v0)).setCell ⟨b, 1, none⟩ (v1)).setCell ⟨b, 2, none⟩ (v2)).setCell ⟨b, 3, none⟩ (v3)).setCell ⟨b, 4, none⟩ (v4)).setCell ⟨b, 5, none⟩ (v5)).setCell ⟨b, 6, none⟩ (v6)).setCell ⟨b, 7, none⟩ (v7)) b #[v0, v1, v2, v3, v4, v5, v6, v7, a8, a9, a10, a11, a12, a13] := HB.set h6 7 v7
  have h8 : HB (((((((((u.setCell ⟨b, 0, none⟩ (v0)).setCell ⟨b, 1, none⟩ (v1)).setCell ⟨b, 2, none⟩ (v2)).setCell ⟨b, 3, none⟩ (v3)).setCell ⟨b, 4, none⟩ (v4)).setCell ⟨b, 5, none⟩ (v5)).setCell ⟨b, 6, none⟩ (v6)).setCell ⟨b, 7, none⟩ (v7)).setCell ⟨b, 8, none⟩ (v8)) b #[v0, v1, v2, v3, v4, v5, v6, v7, v8, a9, a10, a11, a12, a13] := HB.set h7 8 v8
  have h9 : HB ((((((((((u.setCell ⟨b, 0, none⟩ (v0)).setCell ⟨b, 1, none⟩ (v1)).setCell ⟨b, 2, none⟩ (v2)).setCell ⟨b, 3, none⟩ (v3)).setCell ⟨b, 4, none⟩ (v4)).setCell ⟨b, 5, none⟩ (v5)).setCell ⟨b, 6, none⟩ (v6)).setCell ⟨b, 7, none⟩ (v7)).setCell ⟨b, 8, none⟩ (v8)).setCell ⟨b, 9, none⟩ (v9)) b #[v0, v1, v2, v3, v4, v5, v6, v7, v8, v9, a10, a11, a12, a13] := HB.set h8 9 v9
  have h10 : HB (((((((((((u.setCell ⟨b, 0, none⟩ (v0)).setCell ⟨b, 1, none⟩ (v1)).setCell ⟨b, 2, none⟩ (v2)).setCell ⟨b, 3, none⟩ (v3)).setCell ⟨b, 4, none⟩ (v4)).setCell ⟨b, 5, none⟩ (v5)).setCell ⟨b, 6, none⟩ (v6)).setCell ⟨b, 7, none⟩ (v7)).setCell ⟨b, 8, none⟩ (v8)).setCell ⟨b, 9, none⟩ (v9)).setCell ⟨b, 10, none⟩ (v10)) b #[v0, v1, v2, v3, v4, v5, v6, v7, v8, v9, v10, a11, a12, a13] := HB.set h9 10 v10
  have h11 : HB ((((((((((((u.setCell ⟨b, 0, none⟩ (v0)).setCell ⟨b, 1, none⟩ (v1)).setCell ⟨b, 2, none⟩ (v2)).setCell ⟨b, 3, none⟩ (v3)).setCell ⟨b, 4, none⟩ (v4)).setCell ⟨b, 5, none⟩ (v5)).setCell ⟨b, 6, none⟩ (v6)).setCell ⟨b, 7, none⟩ (v7)).setCell ⟨b, 8, none⟩ (v8)).setCell ⟨b, 9, none⟩ (v9)).setCell ⟨b, 10, none⟩ (v10)).setCell ⟨b, 11, none⟩ (v11)) b #[v0, v1, v2, v3, v4, v5, v6, v7, v8, v9, v10, v11, a12, a13] := HB.set h10 11 v11
  have h12 : HB (((((((((((((u.setCell ⟨b, 0, none⟩ (v0)).setCell ⟨b, 1, none⟩ (v1)).setCell ⟨b, 2, none⟩ (v2)).setCell ⟨b, 3, none⟩ (v3)).setCell ⟨b, 4, none⟩ (v4)).setCell ⟨b, 5, none⟩ (v5)).setCell ⟨b, 6, none⟩ (v6)).setCell ⟨b, 7, none⟩ (v7)).setCell ⟨b, 8, none⟩ (v8)).setCell ⟨b, 9, none⟩ (v9)).setCell ⟨b, 10, none⟩ (v10)).setCell ⟨b, 11, none⟩ (v11)).setCell ⟨b, 12, none⟩ (v12)) b #[v0, v1, v2, v3, v4, v5, v6, v7, v8, v9, v10, v11, v12, a13] := HB.set h11 12 v12
  have h13 : HB ((((((((((((((u.setCell ⟨b, 0, none⟩ (v0)).setCell ⟨b, 1, none⟩ (v1)).setCell ⟨b, 2, none⟩ (v2)).setCell ⟨b, 3, none⟩ (v3)).setCell ⟨b, 4, none⟩ (v4)).setCell ⟨b, 5, none⟩ (v5)).setCell ⟨b, 6, none⟩ (v6)).setCell ⟨b, 7, none⟩ (v7)).setCell ⟨b, 8, none⟩ (v8)).setCell ⟨b, 9, none⟩ (v9)).setCell ⟨b, 10, none⟩ (v10)).setCell ⟨b, 11, none⟩ (v11)).setCell ⟨b, 12, none⟩ (v12)).setCell ⟨b, 13, none⟩ (v13)) b #[v0, v1, v2, v3, v4, v5, v6, v7, v8, v9, v10, v11, v12, v13] := HB.set h12 13 v13
  exact h13
theorem setRow_blk (u : World) (b i : Nat) (cs : Array Value) (h : i ≠ b) : (u.setRow b cs).heap[i]? = u.heap[i]? := by
  unfold World.setRow
  simp [Array.getElem?_modify, Ne.symm h]
theorem setRow_size (u : World) (b : Nat) (cs : Array Value) : (u.setRow b cs).heap.size = u.heap.size := by
  unfold World.setRow; simp
theorem setRow_hb {u : World} {b : Nat} {cs : Array Value} (h : HB u b cs) (cs2 : Array Value) (he : cs2 = cs) : HB (u.setRow b cs2) b cs := by
  subst he
  have h1 := h.h
  constructor
  unfold World.setRow
  simp [Array.getElem?_modify, h1]
theorem setRow_below {m : Nat} {w u : World} (h : Below m w u) {b : Nat} (hb : m ≤ b) (cs : Array Value) : Below m w (u.setRow b cs) :=
  ⟨h.os, h.tape, h.output, by rw [setRow_size]; exact h.size, fun i hi => (setRow_blk u b i cs (by omega)).trans (h.block i hi)⟩
theorem AirAt.setRow (h : AirAt m w g base lv l bm n C) {z : Nat} (h1 : g ≠ z) (h2 : bm ≠ z) (h3 : lv.ownBlock ≠ some z) (cs : Array Value) : AirAt m (w.setRow z cs) g base lv l bm n C := by
  refine ⟨(setRow_blk w z g cs h1).trans h.hg, ?_, ?_, h.h1, h.h2, h.h3, h.h4, h.h5, by have := h.h6; rw [setRow_size]; exact this⟩
  · refine ⟨h.own.1, ?_⟩
    rcases h.own.2 with hh | ⟨q, cap, cur, e1, e2, e3, e4⟩
    · exact .inl hh
    · refine .inr ⟨q, cap, cur, e1, e2, (setRow_blk w z q cs ?_).trans e3, e4⟩
      rintro rfl
      rw [e1] at h3
      exact h3 rfl
  · obtain ⟨D, ⟨es, clock, hb, r⟩, d2⟩ := h.mp
    exact ⟨D, ⟨es, clock, (setRow_blk w z bm cs h2).trans hb, r⟩, d2⟩
theorem AirAt.bmlt (h : AirAt m w g base lv l bm n C) : bm < w.heap.size := by obtain ⟨D, d1, d2⟩ := h.mp; exact d1.lt
theorem AirAt.rowlt (h : AirAt m w g base lv l bm n C) (z : Nat) (hz : w.heap.size ≤ z) : lv.ownBlock ≠ some z := fun e => by have := (h.own.lt z e).2; omega
theorem cuts_look (h : Cuts w bm n C) (f t : Int) (h1 : (Lit.int .i64 f).wf = true) (h2 : (Lit.int .i64 t).wf = true) : (Instr.lookup 57 (.map (some bm)) (.agg #[.int .i64 f, .int .i64 t]) false).run Try.prog w = .ok (.bool (C f t)) w := by
  obtain ⟨D, d1, d2⟩ := h
  obtain ⟨v, ps, hrun, hv⟩ := d1.lookup way_keyed Try.underlying57 (z := .bool false) (by rfl) (zd := .lit (.bool false)) (zp := []) (by simp [plainElem, Try.underlying4]) (way_key f t h1 h2)
  rw [d2 f t h1 h2] at hv
  rw [hrun]
  unfold plainElem at hv
  rw [Try.underlying4] at hv
  cases v <;> simp at hv
  rw [hv.1]
/-- One message less. -/
theorem AirAt.del {w4 : World} {q cap k : Nat} (h : AirAt m w g base (.slice (some ⟨q, 0, none⟩) l.length cap) l bm n C) (hk : k < l.length) (hg : w.grownBy w4 (some q))
    (own1 : w4.ownsRow base 34 14 (.slice (some ⟨q, 0, none⟩) (l.length - 1) cap) (l.length - 1) (rowM (l.eraseIdx k))) :
    (w4.cell? ⟨g, 0, none⟩ = some (.slice (some ⟨q, 0, none⟩) l.length cap) ∧ w4.frozen? ⟨g, 0, none⟩ = false) ∧ AirAt m (w4.setCell ⟨g, 0, none⟩ (.slice (some ⟨q, 0, none⟩) (l.length - 1) cap)) g base (.slice (some ⟨q, 0, none⟩) (l.length - 1) cap) (l.eraseIdx k) bm n C ∧
      Kpt m g bm (.slice (some ⟨q, 0, none⟩) l.length cap) (.slice (some ⟨q, 0, none⟩) (l.length - 1) cap) w (w4.setCell ⟨g, 0, none⟩ (.slice (some ⟨q, 0, none⟩) (l.length - 1) cap)) := by
  have hq := (h.own.lt q rfl).1
  have hgq : some g ≠ some q := fun e => by have := h.h1; simp at e; omega
  have hbq : some bm ≠ some q := fun e => by have := h.h2; simp at e; omega
  have hgg : w4.heap[g]? = some (.cells #[.slice (some ⟨q, 0, none⟩) l.length cap, .map (some bm)] 59 (0, 0)) := (hg.block g h.lt hgq).trans h.hg
  have hs := hg.size
  refine ⟨⟨heap_cell hgg rfl, heap_frozen hgg 0⟩, ⟨heap_set (o := 0) hgg, ?_, ?_, h.h1, h.h2, h.h3, h.h4, h.h5, by have := h.h6; simp; omega⟩, ?_⟩
  · rw [List.length_eraseIdx_of_lt hk]
    exact ownsRow_setCell_below own1 (a := ⟨g, 0, none⟩) h.h1 _
  · obtain ⟨D, d1, d2⟩ := h.mp
    exact ⟨D, (d1.kept hg hbq).setCell (a := ⟨g, 0, none⟩) (Ne.symm h.h3) _, d2⟩
  · refine ⟨?_, fun b hb h1 h2 h3 => ?_, fun b hb h3 e => h3 e⟩
    rotate_left
    · exact (Below.heap_setCell w4 ⟨g, 0, none⟩ _ b h1).trans (hg.block b hb (fun e => h3 (by simpa [Value.ownBlock] using e.symm)))
    exact ((Below.refl m w).grown hg h.below (fun k hk => by cases hk; have := h.h4; have := h.h1; omega)).setCell (p := ⟨g, 0, none⟩) h.h4 _
theorem Kpt.setRow {m g bm : Nat} {lv lv' : Value} {w u : World} (k : Kpt m g bm lv lv' w u) {z : Nat} (hz : w.heap.size ≤ z) (hm : m ≤ z) (cs : Array Value) : Kpt m g bm lv lv' w (u.setRow z cs) :=
  ⟨setRow_below k.bel hm cs, fun b hb h1 h2 h3 => (setRow_blk u z b cs (by omega)).trans (k.blk b hb h1 h2 h3), k.row⟩
end
/-- What is kept: all blocks but some, and the row's. -/
structure Fx (gs : List Nat) (lv lv' : Value) (w w' : World) : Prop where
  bel : Below 0 w w'
  blk : ∀ b, b < w.heap.size → b ∉ gs → lv.ownBlock ≠ some b → w'.heap[b]? = w.heap[b]?
  row : ∀ b, b < w.heap.size → lv.ownBlock ≠ some b → lv'.ownBlock ≠ some b
theorem Fx.size {gs : List Nat} {lv lv' : Value} {w w' : World} (k : Fx gs lv lv' w w') : w.heap.size ≤ w'.heap.size := k.bel.size
theorem Fx.of {gs : List Nat} {lv : Value} {w w' : World} (h : Below w.heap.size w w') : Fx gs lv lv w w' := ⟨h.mono (Nat.zero_le _), fun b hb _ _ => h.block b hb, fun b _ h => h⟩
theorem Fx.pre {gs : List Nat} {lv lv' : Value} {w0 w w' : World} (k : Fx gs lv lv' w w') (h : Below w0.heap.size w0 w) : Fx gs lv lv' w0 w' :=
  ⟨(h.mono (Nat.zero_le _)).trans k.bel, fun b hb h1 h3 => (k.blk b (Nat.lt_of_lt_of_le hb h.size) h1 h3).trans (h.block b hb), fun b hb h3 => k.row b (Nat.lt_of_lt_of_le hb h.size) h3⟩
theorem Fx.post {gs : List Nat} {lv lv' : Value} {w w' w2 : World} (k : Fx gs lv lv' w w') (h : Below w'.heap.size w' w2) : Fx gs lv lv' w w2 :=
  ⟨k.bel.trans (h.mono (Nat.zero_le _)), fun b hb h1 h3 => (h.block b (Nat.lt_of_lt_of_le hb k.size)).trans (k.blk b hb h1 h3), k.row⟩
theorem Fx.drew {gs : List Nat} {lv lv' : Value} {w w' : World} (k : Fx gs lv lv' w w') : Fx gs lv lv' w w'.drew := ⟨k.bel.drew, k.blk, k.row⟩
theorem Fx.setNew {gs : List Nat} {lv lv' : Value} {w w' : World} (k : Fx gs lv lv' w w') {z o : Nat} (hz : w.heap.size ≤ z) (v : Value) : Fx gs lv lv' w (w'.setCell ⟨z, o, none⟩ v) :=
  ⟨k.bel.setCell (Nat.zero_le _) v, fun b hb h1 h3 => (Below.heap_setCell w' ⟨z, o, none⟩ v b (by simp only [ne_eq]; omega)).trans (k.blk b hb h1 h3), k.row⟩
theorem Fx.setRow {gs : List Nat} {lv lv' : Value} {w u : World} (k : Fx gs lv lv' w u) {z : Nat} (hz : w.heap.size ≤ z) (cs : Array Value) : Fx gs lv lv' w (u.setRow z cs) :=
  ⟨setRow_below k.bel (Nat.zero_le _) cs, fun b hb h1 h3 => (setRow_blk u z b cs (by omega)).trans (k.blk b hb h1 h3), k.row⟩
theorem Fx.sub {gs gs' : List Nat} {lv lv' : Value} {w w' : World} (k : Fx gs lv lv' w w') (h : ∀ b, b ∈ gs → b ∈ gs') : Fx gs' lv lv' w w' := ⟨k.bel, fun b hb h1 h3 => k.blk b hb (fun q => h1 (h b q)) h3, k.row⟩
theorem Kpt.fx {m g bm : Nat} {lv lv' : Value} {w w' : World} (k : Kpt m g bm lv lv' w w') : Fx [g, bm] lv lv' w w' :=
  ⟨k.bel.mono (Nat.zero_le _), fun b hb h1 h3 => k.blk b hb (fun e => h1 (by simp [e])) (fun e => h1 (by simp [e])) h3, k.row⟩
theorem Fx.below {gs : List Nat} {lv lv' : Value} {w w' : World} {m : Nat} (k : Fx gs lv lv' w w') (hg : ∀ b, b ∈ gs → m ≤ b) (hr : ∀ b, lv.ownBlock = some b → m ≤ b) (hm : m ≤ w.heap.size) : Below m w w' :=
  ⟨k.bel.os, k.bel.tape, k.bel.output, k.bel.size, fun b hb => k.blk b (by omega) (fun q => by have := hg b q; omega) (fun q => by have := hr b q; omega)⟩
/-- Bytes and entries are as they were. -/
theorem Fx.tf {gs : List Nat} {lv lv' : Value} {w w' : World} {base n size : Nat} {xs : List Value} (k : Fx gs lv lv' w w') (hg : ∀ b, b ∈ gs → ∀ cs t, w.heap[b]? = some (.cells cs t (0, 0)) → t ≠ 5 ∧ t ≠ 69)
    (hown : w.ownsRow base 34 size lv n xs) : Tf w w' := by
  have key : ∀ t, t = 5 ∨ t = 69 → Ty t w w' := fun t ht b cs hb => by
    refine (k.blk b (Array.getElem?_eq_some_iff.1 hb).1 (fun q => ?_) (fun q => ?_)).trans hb
    · have := hg b q cs t hb
      rcases ht with rfl | rfl
      · exact this.1 rfl
      · exact this.2 rfl
    · rcases hown.2 with ⟨rfl, _⟩ | ⟨g, cap, cur, rfl, h1, h2, _⟩
      · cases q
      · simp [Value.ownBlock] at q
        subst q
        rw [h2] at hb
        cases hb
        rcases ht with h | h
        · exact msg_ne_u8 h
        · exact msg_ne_entry h
  exact ⟨key _ (.inl rfl), key _ (.inr rfl)⟩
/-- A struct whose first field is a row of messages of its own. -/
structure RA (st : TypeId) (s2 : Value) (w : World) (g base : Nat) (lv : Value) (l : List RM) : Prop where
  hg : w.heap[g]? = some (.cells #[lv, s2] st (0, 0))
  own : w.ownsRow base 34 14 lv l.length (rowM l)
  h1 : g < base
  h6 : base ≤ w.heap.size
section
variable {st : TypeId} {s2 : Value} {w w' : World} {g base : Nat} {lv : Value} {l : List RM}
theorem RA.c0 (h : RA st s2 w g base lv l) : w.cell? ⟨g, 0, none⟩ = some lv := heap_cell h.hg rfl
theorem RA.c1 (h : RA st s2 w g base lv l) : w.cell? ⟨g, 1, none⟩ = some s2 := heap_cell h.hg rfl
theorem RA.f (h : RA st s2 w g base lv l) (o : Nat) : w.frozen? ⟨g, o, none⟩ = false := heap_frozen h.hg o
theorem RA.lt (h : RA st s2 w g base lv l) : g < w.heap.size := (Array.getElem?_eq_some_iff.1 h.hg).1
theorem RA.bel (h : RA st s2 w g base lv l) (k : Below w.heap.size w w') : RA st s2 w' g base lv l := ⟨(k.block g h.lt).trans h.hg, own_bel h.own k, h.h1, Nat.le_trans h.h6 k.size⟩
theorem RA.rowge (h : RA st s2 w g base lv l) (b : Nat) (hb : lv.ownBlock = some b) : base ≤ b ∧ b < w.heap.size := h.own.lt b hb
theorem RA.cell (h : RA st s2 w g base lv l) {q cap : Nat} (hq : lv = .slice (some ⟨q, 0, none⟩) l.length cap) (i j : Nat) (hi : i < l.length) (hj : j < 14) (v : Value) (hv : (cellsM (l.getD i rm0))[j]? = some v) : w.cell? ⟨q, i * 14 + j, none⟩ = some v := by
  have := h.own
  subst hq
  rw [this.cellAt (i * 14 + j) (by omega), rowM_at l i j hi hj, hv]
theorem RA.grown {w5 : World} {O : Obj} (h : RA st s2 w g base lv l) (hg : (w.alloc O).grownBy w5 lv.ownBlock) : w5.cell? ⟨g, 0, none⟩ = some lv ∧ w5.frozen? ⟨g, 0, none⟩ = false := by
  have hlt := h.lt
  have hne : some g ≠ lv.ownBlock := fun e => by have := (h.own.lt g e.symm).1; have := h.h1; omega
  have hgg : w5.heap[g]? = some (.cells #[lv, s2] st (0, 0)) := (hg.block g (by simp; omega) hne).trans ((Below.heap_alloc w O g hlt).trans h.hg)
  exact ⟨heap_cell hgg rfl, heap_frozen hgg 0⟩
/-- One message more. -/
theorem RA.send {w5 : World} {O : Obj} {q2 n2 c2 : Nat} {lv2 : Value} {x : RM} (he : lv2 = .slice (some ⟨q2, 0, none⟩) n2 c2) (hat : lv.ownBlock = some q2 ∨ w.heap.size ≤ q2) (h : RA st s2 w g base lv l) (hg : (w.alloc O).grownBy w5 lv.ownBlock) (own1 : w5.ownsRow base 34 14 lv2 (l.length + 1) (rowM l ++ cellsM x)) :
    RA st s2 (w5.setCell ⟨g, 0, none⟩ lv2) g base lv2 (l ++ [x]) ∧ Fx [g] lv lv2 w (w5.setCell ⟨g, 0, none⟩ lv2) := by
  have hlt := h.lt
  have hs := hg.size
  have hs1 : w.heap.size + 1 ≤ w5.heap.size := by simpa using hs
  have hne : ∀ b, b < base → some b ≠ lv.ownBlock := fun b hb e => by have := (h.own.lt b e.symm).1; omega
  have hgg : w5.heap[g]? = some (.cells #[lv, s2] st (0, 0)) := (hg.block g (by simp; omega) (hne g h.h1)).trans ((Below.heap_alloc w O g hlt).trans h.hg)
  refine ⟨⟨?_, ?_, h.h1, ?_⟩, ?_⟩
  · exact heap_set (o := 0) (v := lv2) hgg
  · have e : rowM (l ++ [x]) = rowM l ++ cellsM x := rowM_snoc l x
    rw [e, List.length_append]
    exact ownsRow_setCell_below own1 (a := ⟨g, 0, none⟩) h.h1 _
  · have := h.h6; simp; omega
  · refine ⟨?_, fun b hb h1 h3 => ?_, fun b hb h3 e => ?_⟩
    rotate_left
    · exact (Below.heap_setCell w5 ⟨g, 0, none⟩ lv2 b (fun e => h1 (by rw [e]; simp))).trans ((hg.block b (by simp; omega) (Ne.symm h3)).trans (Below.heap_alloc w O b hb))
    · rw [he] at e
      simp [Value.ownBlock] at e
      subst e
      rcases hat with hat | hat
      · exact h3 hat
      · omega
    exact (((Below.refl 0 w).alloc (Nat.zero_le _) O).grown hg (Nat.zero_le _) (fun k hk => Nat.zero_le _)).setCell (p := ⟨g, 0, none⟩) (Nat.zero_le _) _
/-- While something else is done. -/
theorem RA.beside {gs : List Nat} {mv mv' : Value} (h : RA st s2 w g base lv l) (k : Fx gs mv mv' w w') (h1 : g ∉ gs) (h2 : mv.ownBlock ≠ some g) (h3 : ∀ b, lv.ownBlock = some b → b ∉ gs ∧ mv.ownBlock ≠ some b) : RA st s2 w' g base lv l := by
  refine ⟨(k.blk g h.lt h1 h2).trans h.hg, ⟨h.own.1, ?_⟩, h.h1, Nat.le_trans h.h6 k.size⟩
  rcases h.own.2 with hh | ⟨q, cap, cur, e1, e2, e3, e4⟩
  · exact .inl hh
  · subst e1
    have := h3 q rfl
    exact .inr ⟨q, cap, cur, rfl, e2, (k.blk q (Array.getElem?_eq_some_iff.1 e3).1 this.1 this.2).trans e3, e4⟩
end
section
variable {m : Nat} {w w' : World} {g base : Nat} {lv lv' : Value} {l l' : List RM} {bm n : Nat} {C : Int → Int → Bool}
theorem AirAt.ra (h : AirAt m w g base lv l bm n C) : RA 59 (.map (some bm)) w g base lv l := ⟨h.hg, h.own, h.h1, h.h6⟩
theorem AirAt.bm_row (h : AirAt m w g base lv l bm n C) : lv.ownBlock ≠ some bm := fun e => by have := (h.own.lt bm e).1; have := h.h2; omega
theorem AirAt.cuts_fx {gs : List Nat} {mv mv' : Value} (h : Cuts w bm n C) (k : Fx gs mv mv' w w') (h1 : bm ∉ gs) (h2 : mv.ownBlock ≠ some bm) : Cuts w' bm n C := by
  obtain ⟨D, q1, q2⟩ := h
  have hlt := q1.lt
  obtain ⟨es, clock, hb, r⟩ := q1
  exact ⟨D, ⟨es, clock, (k.blk bm hlt h1 h2).trans hb, r⟩, q2⟩
theorem AirAt.of_ra (h : AirAt m w g base lv l bm n C) (k : Fx [g] lv lv' w w') (r : RA 59 (.map (some bm)) w' g base lv' l') : AirAt m w' g base lv' l' bm n C :=
  ⟨r.hg, r.own, AirAt.cuts_fx h.mp k (by simp; exact fun e => h.h3 e.symm) h.bm_row, h.h1, h.h2, h.h3, h.h4, h.h5, r.h6⟩
theorem AirAt.types (h : AirAt m w g base lv l bm n C) : ∀ b, b ∈ [g, bm] → ∀ cs t, w.heap[b]? = some (.cells cs t (0, 0)) → t ≠ 5 ∧ t ≠ 69 := fun b hb cs t ht => by
  simp at hb
  rcases hb with rfl | rfl
  · rw [h.hg] at ht
    cases ht
    exact ⟨by decide, by decide⟩
  · obtain ⟨D, ⟨es, clock, hb, r⟩, q2⟩ := h.mp
    rw [hb] at ht
    cases ht
end
/-- A row of messages and what they say. -/
def TML (w : World) (l : List RM) (ms : List Mg) : Prop := l.length = ms.length ∧ ∀ (i : Nat) (r : RM) (x : Mg), l[i]? = some r → ms[i]? = some x → TM w r x
theorem TML.nil (w : World) : TML w [] [] := ⟨rfl, fun i r x h => by simp at h⟩
theorem TML.tf {w w' : World} {l : List RM} {ms : List Mg} (h : TML w l ms) (k : Tf w w') : TML w' l ms := ⟨h.1, fun i r x h1 h2 => (h.2 i r x h1 h2).tf k⟩
theorem TML.snoc {w : World} {l : List RM} {ms : List Mg} {r : RM} {x : Mg} (h : TML w l ms) (k : TM w r x) : TML w (l ++ [r]) (ms ++ [x]) := ⟨by simp [h.1], fun i a b h1 h2 => by
  by_cases hi : i < l.length
  · rw [List.getElem?_append_left hi] at h1
    rw [List.getElem?_append_left (by rw [← h.1]; exact hi)] at h2
    exact h.2 i a b h1 h2
  · rw [List.getElem?_append_right (by omega)] at h1
    rw [List.getElem?_append_right (by rw [← h.1]; omega), ← h.1] at h2
    have hj := (List.getElem?_eq_some_iff.1 h1).1
    simp at hj
    rw [hj] at h1 h2
    simp at h1 h2
    subst h1; subst h2; exact k⟩
theorem TML.erase {w : World} {l : List RM} {ms : List Mg} (h : TML w l ms) (k : Nat) : TML w (l.eraseIdx k) (ms.eraseIdx k) := ⟨by
  rw [List.length_eraseIdx, List.length_eraseIdx, h.1], fun i a b h1 h2 => by
    rw [List.getElem?_eraseIdx] at h1 h2
    by_cases hi : i < k
    · rw [if_pos hi] at h1 h2; exact h.2 i a b h1 h2
    · rw [if_neg hi] at h1 h2; exact h.2 _ a b h1 h2⟩
theorem TML.at {w : World} {l : List RM} {ms : List Mg} (h : TML w l ms) {k : Nat} (hk : k < l.length) : TM w (l.getD k rm0) (ms.getD k mg0) := by
  have h2 : k < ms.length := by rw [← h.1]; exact hk
  refine h.2 k _ _ (by simp [List.getD, hk]) (by simp [List.getD, h2])
end Ar

end Go.Proofs.Ytnokojobiaddmaa
