/- The air: Deliver. -/
import Derived.Test.YtnokojobiaddmaaA6
namespace Go.Proofs.Ytnokojobiaddmaa
open Go.ChangeShapes Go.WideShapes Go.ChangeAt Go.RowKit Go.Maps
set_option linter.unusedVariables false
set_option linter.unusedSimpArgs false
open BigFrame Bs Ar

namespace Stg
theorem wpAnyL_row {P : Program} {ops : Array Oper} {Q : Exit → Act → World → Prop} {md : Region.Mode} {marks : List Nat} {S : Nat → World → Prop} {i : Nat} {o : Oper} {fuel : Nat} {l : Array Bool} {a : Act} {w : World} (n : Nat) (ho : ops[i]? = some o) (hr : Region.ready md ops l = [i]) (hn : stage marks (l.setIfInBounds i true) = n)
    (hw : Region.wanted o (yielded ops a.tmps) = true) (ty : TypeId) (x y : Operand) (hop : o.op = .store ty x y) (g : Nat) (cells : Array Value) (hx : a.eval x = .pointer (some ⟨g, 0, none⟩)) (hy : a.eval y = .agg cells)
    (t : TypeId) (old : Array Value) (hg : w.heap[g]? = some (.cells old t (0, 0))) (hi : (P.info? ty).map (·.size) = some cells.size) (hold : old.size = cells.size) (h1 : cells.all (·.oneCell') = true)
    (hS : S n (w.setRow g cells)) (h : wpAnyL P md ops Q marks S fuel (l.setIfInBounds i true) (a.put o.dst undef) (w.setRow g cells)) : wpAnyL P md ops Q marks S (fuel + 1) l a w :=
  wpAnyL_one n ho hr hn fun K hK => by
    rw [if_pos hw]
    exact wp_store_row ty x y hop g cells hx hy t old hg hi hold h1 (hK.out _ _ hS fun _ => h)
end Stg

namespace Ar
def DelivP (lv0 : Value) (m g base : Nat) (l : List FM) (bm n : Nat) (C : Int → Int → Bool) (x : FM) (w : World) (e : Ending) (w' : World) : Prop :=
  ∃ lv, e = .returned (.tuple #[.agg #[.int .i8 x.k, .int .i64 x.fr, .int .i64 x.to, .int .i64 x.te, .int .i64 x.ix, .int .i64 x.la, .int .i64 x.co, .bool x.ok, .slice none 0 0, .int .i64 x.si, .int .i64 x.st, .int .u8 x.su, .slice none 0 0, .slice none 0 0], .bool (!C x.fr x.to), .int .i64 0]) ∧ AirAt m w' g base lv l bm n C ∧ Kpt m g bm lv0 lv w w'
section
variable {m : Nat} {w : World} {g base : Nat} {lv : Value} {l : List FM} {bm n : Nat} {C : Int → Int → Bool}
theorem AirAt.setO (h : AirAt m w g base lv l bm n C) {z : Nat} (h1 : g ≠ z) (h2 : bm ≠ z) (h3 : lv.ownBlock ≠ some z) (o : Nat) (v : Value) : AirAt m (w.setCell ⟨z, o, none⟩ v) g base lv l bm n C := by
  refine ⟨(Below.heap_setCell w ⟨z, o, none⟩ v g h1).trans h.hg, ?_, ?_, h.h1, h.h2, h.h3, h.h4, h.h5, by have := h.h6; simpa using this⟩
  · refine ⟨h.own.1, ?_⟩
    rcases h.own.2 with hh | ⟨q, cap, cur, e1, e2, e3, e4⟩
    · exact .inl hh
    · refine .inr ⟨q, cap, cur, e1, e2, ?_, e4⟩
      refine (Below.heap_setCell w ⟨z, o, none⟩ v q ?_).trans e3
      rintro rfl
      rw [e1] at h3
      exact h3 rfl
  · obtain ⟨D, d1, d2⟩ := h.mp
    exact ⟨D, d1.setCell (a := ⟨z, o, none⟩) h2 _, d2⟩
theorem AirAt.put (h : AirAt m w g base lv l bm n C) {z : Nat} (h1 : g ≠ z) (h2 : bm ≠ z) (h3 : lv.ownBlock ≠ some z) (v0 v1 v2 v3 v4 v5 v6 v7 v8 v9 v10 v11 v12 v13 : Value) : AirAt m ((((((((((((((w.setCell ⟨z, 0, none⟩ (v0)).setCell ⟨z, 1, none⟩ (v1)).setCell ⟨z, 2, none⟩ (v2)).setCell ⟨z, 3, none⟩ (v3)).setCell ⟨z, 4, none⟩ (v4)).setCell ⟨z, 5, none⟩ (v5)).setCell ⟨z, 6, none⟩ (v6)).setCell ⟨z, 7, none⟩ (v7)).setCell ⟨z, 8, none⟩ (v8)).setCell ⟨z, 9, none⟩ (v9)).setCell ⟨z, 10, none⟩ (v10)).setCell ⟨z, 11, none⟩ (v11)).setCell ⟨z, 12, none⟩ (v12)).setCell ⟨z, 13, none⟩ (v13)) g base lv l bm n C :=
  ((((((((((((((h.setO h1 h2 h3 0 v0).setO h1 h2 h3 1 v1).setO h1 h2 h3 2 v2).setO h1 h2 h3 3 v3).setO h1 h2 h3 4 v4).setO h1 h2 h3 5 v5).setO h1 h2 h3 6 v6).setO h1 h2 h3 7 v7).setO h1 h2 h3 8 v8).setO h1 h2 h3 9 v9).setO h1 h2 h3 10 v10).setO h1 h2 h3 11 v11).setO h1 h2 h3 12 v12).setO h1 h2 h3 13 v13)
structure HB (u : World) (b : Nat) (cs : Array Value) : Prop where
  h : u.heap[b]? = some (.cells cs 34 (0, 0))
theorem HB.c {u : World} {b : Nat} {cs : Array Value} (h : HB u b cs) (i : Nat) (v : Value) (hv : cs[i]? = some v) : u.cell? ⟨b, i, none⟩ = some v := heap_cell h.h hv
theorem HB.f {u : World} {b : Nat} {cs : Array Value} (h : HB u b cs) (i : Nat) : u.frozen? ⟨b, i, none⟩ = false := heap_frozen h.h i
theorem HB.lt {u : World} {b : Nat} {cs : Array Value} (h : HB u b cs) : b < u.heap.size := (Array.getElem?_eq_some_iff.1 h.h).1
theorem HB.bel {u u' : World} {b : Nat} {cs : Array Value} (h : HB u b cs) (k : Below u.heap.size u u') : HB u' b cs := ⟨(k.block b h.lt).trans h.h⟩
theorem HB.other {u : World} {b q o : Nat} {cs : Array Value} (h : HB u b cs) (hne : b ≠ q) (v : Value) : HB (u.setCell ⟨q, o, none⟩ v) b cs := ⟨(Below.heap_setCell u ⟨q, o, none⟩ v b hne).trans h.h⟩
theorem HB.new (u : World) (cs : Array Value) : HB (u.alloc (.cells cs 34)) u.heap.size cs := ⟨heap_alloc_new u _⟩
theorem HB.set {u : World} {b : Nat} {cs : Array Value} (h : HB u b cs) (o : Nat) (v : Value) : HB (u.setCell ⟨b, o, none⟩ v) b (cs.setIfInBounds o v) := ⟨heap_set h.h⟩
theorem HB.put {u : World} {b : Nat} {a0 a1 a2 a3 a4 a5 a6 a7 a8 a9 a10 a11 a12 a13 : Value} (h : HB u b #[a0, a1, a2, a3, a4, a5, a6, a7, a8, a9, a10, a11, a12, a13]) (v0 v1 v2 v3 v4 v5 v6 v7 v8 v9 v10 v11 v12 v13 : Value) : HB ((((((((((((((u.setCell ⟨b, 0, none⟩ (v0)).setCell ⟨b, 1, none⟩ (v1)).setCell ⟨b, 2, none⟩ (v2)).setCell ⟨b, 3, none⟩ (v3)).setCell ⟨b, 4, none⟩ (v4)).setCell ⟨b, 5, none⟩ (v5)).setCell ⟨b, 6, none⟩ (v6)).setCell ⟨b, 7, none⟩ (v7)).setCell ⟨b, 8, none⟩ (v8)).setCell ⟨b, 9, none⟩ (v9)).setCell ⟨b, 10, none⟩ (v10)).setCell ⟨b, 11, none⟩ (v11)).setCell ⟨b, 12, none⟩ (v12)).setCell ⟨b, 13, none⟩ (v13)) b #[v0, v1, v2, v3, v4, v5, v6, v7, v8, v9, v10, v11, v12, v13] := by
  have h0 : HB (u.setCell ⟨b, 0, none⟩ (v0)) b #[v0, a1, a2, a3, a4, a5, a6, a7, a8, a9, a10, a11, a12, a13] := HB.set h 0 v0
  have h1 : HB ((u.setCell ⟨b, 0, none⟩ (v0)).setCell ⟨b, 1, none⟩ (v1)) b #[v0, v1, a2, a3, a4, a5, a6, a7, a8, a9, a10, a11, a12, a13] := HB.set h0 1 v1
  have h2 : HB (((u.setCell ⟨b, 0, none⟩ (v0)).setCell ⟨b, 1, none⟩ (v1)).setCell ⟨b, 2, none⟩ (v2)) b #[v0, v1, v2, a3, a4, a5, a6, a7, a8, a9, a10, a11, a12, a13] := HB.set h1 2 v2
  have h3 : HB ((((u.setCell ⟨b, 0, none⟩ (v0)).setCell ⟨b, 1, none⟩ (v1)).setCell ⟨b, 2, none⟩ (v2)).setCell ⟨b, 3, none⟩ (v3)) b #[v0, v1, v2, v3, a4, a5, a6, a7, a8, a9, a10, a11, a12, a13] := HB.set h2 3 v3
  have h4 : HB (((((u.setCell ⟨b, 0, none⟩ (v0)).setCell ⟨b, 1, none⟩ (v1)).setCell ⟨b, 2, none⟩ (v2)).setCell ⟨b, 3, none⟩ (v3)).setCell ⟨b, 4, none⟩ (v4)) b #[v0, v1, v2, v3, v4, a5, a6, a7, a8, a9, a10, a11, a12, a13] := HB.set h3 4 v4
  have h5 : HB ((((((u.setCell ⟨b, 0, none⟩ (v0)).setCell ⟨b, 1, none⟩ (v1)).setCell ⟨b, 2, none⟩ (v2)).setCell ⟨b, 3, none⟩ (v3)).setCell ⟨b, 4, none⟩ (v4)).setCell ⟨b, 5, none⟩ (v5)) b #[v0, v1, v2, v3, v4, v5, a6, a7, a8, a9, a10, a11, a12, a13] := HB.set h4 5 v5
  have h6 : HB (((((((u.setCell ⟨b, 0, none⟩ (v0)).setCell ⟨b, 1, none⟩ (v1)).setCell ⟨b, 2, none⟩ (v2)).setCell ⟨b, 3, none⟩ (v3)).setCell ⟨b, 4, none⟩ (v4)).setCell ⟨b, 5, none⟩ (v5)).setCell ⟨b, 6, none⟩ (v6)) b #[v0, v1, v2, v3, v4, v5, v6, a7, a8, a9, a10, a11, a12, a13] := HB.set h5 6 v6
  have h7 : HB ((((((((u.setCell ⟨b, 0, none⟩ (v0)).setCell ⟨b, 1, none⟩ (v1)).setCell ⟨b, 2, none⟩ (v2)).setCell ⟨b, 3, none⟩ (v3)).setCell ⟨b, 4, none⟩ (v4)).setCell ⟨b, 5, none⟩ (v5)).setCell ⟨b, 6, none⟩ (v6)).setCell ⟨b, 7, none⟩ (v7)) b #[v0, v1, v2, v3, v4, v5, v6, v7, a8, a9, a10, a11, a12, a13] := HB.set h6 7 v7
  have h8 : HB (((((((((u.setCell ⟨b, 0, none⟩ (v0)).setCell ⟨b, 1, none⟩ (v1)).setCell ⟨b, 2, none⟩ (v2)).setCell ⟨b, 3, none⟩ (v3)).setCell ⟨b, 4, none⟩ (v4)).setCell ⟨b, 5, none⟩ (v5)).setCell ⟨b, 6, none⟩ (v6)).setCell ⟨b, 7, none⟩ (v7)).setCell ⟨b, 8, none⟩ (v8)) b #[v0, v1, v2, v3, v4, v5, v6, v7, v8, a9, a10, a11, a12, a13] := HB.set h7 8 v8
  have h9 : HB ((((((((((u.setCell ⟨b, 0, none⟩ (v0)).setCell ⟨b, 1, none⟩ (v1)).setCell ⟨b, 2, none⟩ (v2)).setCell ⟨b, 3, none⟩ (v3)).setCell ⟨b, 4, none⟩ (v4)).setCell ⟨b, 5, none⟩ (v5)).setCell ⟨b, 6, none⟩ (v6)).setCell ⟨b, 7, none⟩ (v7)).setCell ⟨b, 8, none⟩ (v8)).setCell ⟨b, 9, none⟩ (v9)) b #[v0, v1, v2, v3, v4, v5, v6, v7, v8, v9, a10, a11, a12, a13] := HB.set h8 9 v9
  have h10 : HB (((((((((((u.setCell ⟨b, 0, none⟩ (v0)).setCell ⟨b, 1, none⟩ (v1)).setCell ⟨b, 2, none⟩ (v2)).setCell ⟨b, 3, none⟩ (v3)).setCell ⟨b, 4, none⟩ (v4)).setCell ⟨b, 5, none⟩ (v5)).setCell ⟨b, 6, none⟩ (v6)).setCell ⟨b, 7, none⟩ (v7)).setCell ⟨b, 8, none⟩ (v8)).setCell ⟨b, 9, none⟩ (v9)).setCell ⟨b, 10, none⟩ (v10)) b #[v0, v1, v2, v3, v4, v5, v6, v7, v8, v9, v10, a11, a12, a13] := HB.set h9 10 v10
  have h11 : HB ((((((((((((u.setCell ⟨b, 0, none⟩ (v0)).setCell ⟨b, 1, none⟩ (v1)).setCell ⟨b, 2, none⟩ (v2)).setCell ⟨b, 3, none⟩ (v3)).setCell ⟨b, 4, none⟩ (v4)).setCell ⟨b, 5, none⟩ (v5)).setCell ⟨b, 6, none⟩ (v6)).setCell ⟨b, 7, none⟩ (v7)).setCell ⟨b, 8, none⟩ (v8)).setCell ⟨b, 9, none⟩ (v9)).setCell ⟨b, 10, none⟩ (v10)).setCell ⟨b, 11, none⟩ (v11)) b #[v0, v1, v2, v3, v4, v5, v6, v7, v8, v9, v10, v11, a12, a13] := HB.set h10 11 v11
  have h12 : HB (((((((((((((u.setCell ⟨b, 0, none⟩ (v0)).setCell ⟨b, 1, none⟩ (v1)).setCell ⟨b, 2, none⟩ (v2)).setCell ⟨b, 3, none⟩ (v3)).setCell ⟨b, 4, none⟩ (v4)).setCell ⟨b, 5, none⟩ (v5)).setCell ⟨b, 6, none⟩ (v6)).setCell ⟨b, 7, none⟩ (v7)).setCell ⟨b, 8, none⟩ (v8)).setCell ⟨b, 9, none⟩ (v9)).setCell ⟨b, 10, none⟩ (v10)).setCell ⟨b, 11, none⟩ (v11)).setCell ⟨b, 12, none⟩ (v12)) b #[v0, v1, v2, v3, v4, v5, v6, v7, v8, v9, v10, v11, v12, a13] := HB.set h11 12 v12
  have h13 : HB ((((((((((((((u.setCell ⟨b, 0, none⟩ (v0)).setCell ⟨b, 1, none⟩ (v1)).setCell ⟨b, 2, none⟩ (v2)).setCell ⟨b, 3, none⟩ (v3)).setCell ⟨b, 4, none⟩ (v4)).setCell ⟨b, 5, none⟩ (v5)).setCell ⟨b, 6, none⟩ (v6)).setCell ⟨b, 7, none⟩ (v7)).setCell ⟨b, 8, none⟩ (v8)).setCell ⟨b, 9, none⟩ (v9)).setCell ⟨b, 10, none⟩ (v10)).setCell ⟨b, 11, none⟩ (v11)).setCell ⟨b, 12, none⟩ (v12)).setCell ⟨b, 13, none⟩ (v13)) b #[v0, v1, v2, v3, v4, v5, v6, v7, v8, v9, v10, v11, v12, v13] := HB.set h12 13 v13
  exact h13
theorem setRow_blk (u : World) (b i : Nat) (cs : Array Value) (h : i ≠ b) : (u.setRow b cs).heap[i]? = u.heap[i]? := by
  unfold World.setRow
  simp [Array.getElem?_modify, Ne.symm h]
theorem setRow_size (u : World) (b : Nat) (cs : Array Value) : (u.setRow b cs).heap.size = u.heap.size := by
  unfold World.setRow; simp
theorem setRow_hb {u : World} {b : Nat} {cs : Array Value} (h : HB u b cs) (cs2 : Array Value) (he : cs2 = cs) : HB (u.setRow b cs2) b cs := by
  subst he
  have h1 := h.h
  constructor
  unfold World.setRow
  simp [Array.getElem?_modify, h1]
theorem setRow_below {m : Nat} {w u : World} (h : Below m w u) {b : Nat} (hb : m ≤ b) (cs : Array Value) : Below m w (u.setRow b cs) :=
  ⟨h.os, h.tape, h.output, by rw [setRow_size]; exact h.size, fun i hi => (setRow_blk u b i cs (by omega)).trans (h.block i hi)⟩
theorem AirAt.setRow (h : AirAt m w g base lv l bm n C) {z : Nat} (h1 : g ≠ z) (h2 : bm ≠ z) (h3 : lv.ownBlock ≠ some z) (cs : Array Value) : AirAt m (w.setRow z cs) g base lv l bm n C := by
  refine ⟨(setRow_blk w z g cs h1).trans h.hg, ?_, ?_, h.h1, h.h2, h.h3, h.h4, h.h5, by have := h.h6; rw [setRow_size]; exact this⟩
  · refine ⟨h.own.1, ?_⟩
    rcases h.own.2 with hh | ⟨q, cap, cur, e1, e2, e3, e4⟩
    · exact .inl hh
    · refine .inr ⟨q, cap, cur, e1, e2, (setRow_blk w z q cs ?_).trans e3, e4⟩
      rintro rfl
      rw [e1] at h3
      exact h3 rfl
  · obtain ⟨D, ⟨es, clock, hb, r⟩, d2⟩ := h.mp
    exact ⟨D, ⟨es, clock, (setRow_blk w z bm cs h2).trans hb, r⟩, d2⟩
theorem AirAt.bmlt (h : AirAt m w g base lv l bm n C) : bm < w.heap.size := by obtain ⟨D, d1, d2⟩ := h.mp; exact d1.lt
theorem AirAt.rowlt (h : AirAt m w g base lv l bm n C) (z : Nat) (hz : w.heap.size ≤ z) : lv.ownBlock ≠ some z := fun e => by have := (h.own.lt z e).2; omega
theorem cuts_look (h : Cuts w bm n C) (f t : Int) (h1 : (Lit.int .i64 f).wf = true) (h2 : (Lit.int .i64 t).wf = true) : (Instr.lookup 57 (.map (some bm)) (.agg #[.int .i64 f, .int .i64 t]) false).run Try.prog w = .ok (.bool (C f t)) w := by
  obtain ⟨D, d1, d2⟩ := h
  obtain ⟨v, ps, hrun, hv⟩ := d1.lookup way_keyed Try.underlying57 (z := .bool false) (by rfl) (zd := .lit (.bool false)) (zp := []) (by simp [plainElem, Try.underlying4]) (way_key f t h1 h2)
  rw [d2 f t h1 h2] at hv
  rw [hrun]
  unfold plainElem at hv
  rw [Try.underlying4] at hv
  cases v <;> simp at hv
  rw [hv.1]
/-- One message less. -/
theorem AirAt.del {w4 : World} {q cap k : Nat} (h : AirAt m w g base (.slice (some ⟨q, 0, none⟩) l.length cap) l bm n C) (hk : k < l.length) (hg : w.grownBy w4 (some q))
    (own1 : w4.ownsRow base 34 14 (.slice (some ⟨q, 0, none⟩) (l.length - 1) cap) (l.length - 1) (rowM (l.eraseIdx k))) :
    (w4.cell? ⟨g, 0, none⟩ = some (.slice (some ⟨q, 0, none⟩) l.length cap) ∧ w4.frozen? ⟨g, 0, none⟩ = false) ∧ AirAt m (w4.setCell ⟨g, 0, none⟩ (.slice (some ⟨q, 0, none⟩) (l.length - 1) cap)) g base (.slice (some ⟨q, 0, none⟩) (l.length - 1) cap) (l.eraseIdx k) bm n C ∧
      Kpt m g bm (.slice (some ⟨q, 0, none⟩) l.length cap) (.slice (some ⟨q, 0, none⟩) (l.length - 1) cap) w (w4.setCell ⟨g, 0, none⟩ (.slice (some ⟨q, 0, none⟩) (l.length - 1) cap)) := by
  have hq := (h.own.lt q rfl).1
  have hgq : some g ≠ some q := fun e => by have := h.h1; simp at e; omega
  have hbq : some bm ≠ some q := fun e => by have := h.h2; simp at e; omega
  have hgg : w4.heap[g]? = some (.cells #[.slice (some ⟨q, 0, none⟩) l.length cap, .map (some bm)] 59 (0, 0)) := (hg.block g h.lt hgq).trans h.hg
  have hs := hg.size
  refine ⟨⟨heap_cell hgg rfl, heap_frozen hgg 0⟩, ⟨heap_set (o := 0) hgg, ?_, ?_, h.h1, h.h2, h.h3, h.h4, h.h5, by have := h.h6; simp; omega⟩, ?_⟩
  · rw [List.length_eraseIdx_of_lt hk]
    exact ownsRow_setCell_below own1 (a := ⟨g, 0, none⟩) h.h1 _
  · obtain ⟨D, d1, d2⟩ := h.mp
    exact ⟨D, (d1.kept hg hbq).setCell (a := ⟨g, 0, none⟩) (Ne.symm h.h3) _, d2⟩
  · refine ⟨?_, fun b hb h1 h2 h3 => ?_, fun b hb h3 e => h3 e⟩
    rotate_left
    · exact (Below.heap_setCell w4 ⟨g, 0, none⟩ _ b h1).trans (hg.block b hb (fun e => h3 (by simpa [Value.ownBlock] using e.symm)))
    exact ((Below.refl m w).grown hg h.below (fun k hk => by cases hk; have := h.h4; have := h.h1; omega)).setCell (p := ⟨g, 0, none⟩) h.h4 _
theorem Kpt.setRow {m g bm : Nat} {lv lv' : Value} {w u : World} (k : Kpt m g bm lv lv' w u) {z : Nat} (hz : w.heap.size ≤ z) (hm : m ≤ z) (cs : Array Value) : Kpt m g bm lv lv' w (u.setRow z cs) :=
  ⟨setRow_below k.bel hm cs, fun b hb h1 h2 h3 => (setRow_blk u z b cs (by omega)).trans (k.blk b hb h1 h2 h3), k.row⟩
end
end Ar

end Go.Proofs.Ytnokojobiaddmaa
