/- The contract of the closure in vote.Begin that asks one node. -/
import Derived.Test.YthahlfabcjnkhaaBegin2
namespace Go.Proofs.Ythahlfabcjnkhaa
open Go.ChangeShapes Go.WideShapes Go.ChangeAt Go.RowKit
set_option linter.unusedVariables false
set_option linter.unusedSimpArgs false
open Rw Vt R10 Bg

set_option maxRecDepth 100000 in
set_option maxHeartbeats 1600000 in
theorem begin1_c (w : World) (base lb sb hb ib tb : Nat) (nd S T I L : Int) (lv : Value) (l : List Int) (hown : w.ownsRow base 61 14 lv l.length (flatM S T I L l)) (hlen : l.length ≤ 7) (c : w.cell? ⟨lb, 0, none⟩ = some lv) (f : w.frozen? ⟨lb, 0, none⟩ = false)
    (cs : w.cell? ⟨sb, 0, none⟩ = some (.int .i64 S)) (ch : w.cell? ⟨hb, 0, none⟩ = some (.int .i64 T)) (ci : w.cell? ⟨ib, 0, none⟩ = some (.int .i64 I)) (ct : w.cell? ⟨tb, 0, none⟩ = some (.int .i64 L)) (hlb : lb < base) (hbase : base ≤ w.heap.size) :
    Calls Try.prog 117 #[.int .i64 nd, .pointer (some ⟨lb, 0, none⟩), .pointer (some ⟨sb, 0, none⟩), .pointer (some ⟨hb, 0, none⟩), .pointer (some ⟨ib, 0, none⟩), .pointer (some ⟨tb, 0, none⟩)] w fun e w' =>
      (∃ v, e = .returned v) ∧ ∃ lv', w'.cell? ⟨lb, 0, none⟩ = some lv' ∧ w'.frozen? ⟨lb, 0, none⟩ = false ∧ w'.ownsRow base 61 14 lv' (l.length + 1) (flatM S T I L (l ++ [nd])) ∧ (∀ b, b < base → b ≠ lb → w'.heap[b]? = w.heap[b]?) ∧ w.heap.size ≤ w'.heap.size ∧ (∀ (B0 : Nat) (W0 : World), Below B0 W0 w → B0 ≤ lb → B0 ≤ base → Below B0 W0 w') := by
  obtain ⟨i0, hi0, hz0, hz1, hz2⟩ := info_parts info61
  have av : lv.ownBlock ≠ some lb := fun e => by have := (hown.lt _ e).1; omega
  have hlw : lb < w.heap.size := by omega
  have y : ∀ o, (w.alloc o).cell? ⟨lb, 0, none⟩ = some lv := fun o => (cao hlw).trans c
  go_enter Try.func117, Try.ntmps117
  go_wp2_with (at_builtin; refine wpList_append_lies _ rfl _ _ 67 (by rfl) base 61 i0 _ 14 160 Try.underlying67 hi0 hz0 hz1 hz2 (by rfl) (by omega) _ _ _ (by rfl) (hown.alloc _) ⟨w.heap.size, 0, none⟩ 1 1 (entM S T I L nd) (by rfl) (by rfl) (World.news_of_block (cs := #[.int .i8 1, .int .i64 S, .int .i64 nd, .int .i64 T, .int .i64 I, .int .i64 L, .int .i64 0, .bool false, .slice none 0 0, .int .i64 0, .int .i64 0, .int .u8 0, .slice none 0 0, .slice none 0 0]) (t := 61) (fr := (0, 0)) (heap_alloc_new w _)) (by simp [entM, Value.oneCell']) (by omega) (by unfold maxLen; omega) (by omega) (by simp; omega) (w.heap.size + 1) (by simp) ?_; intro g1 cap1 w3 hown1 hgrow1 hat1 hlt1; have zc : w3.cell? ⟨lb, 0, none⟩ = some lv := ((grow_keep' hown hgrow1 lb hlb hlw).1 0).trans c; have zf : w3.frozen? ⟨lb, 0, none⟩ = false := ((grow_keep' hown hgrow1 lb hlb hlw).2 0).trans f)
  have s3 : w.heap.size ≤ w3.heap.size := by have := hgrow1.size; simp at this; omega
  have hh : ∀ b, b < base → w3.heap[b]? = w.heap[b]? := fun b hb' => by
    have hne : some b ≠ lv.ownBlock := fun e => by have := (hown.lt b e.symm).1; omega
    exact (hgrow1.block b (by show b < (w.heap.push _).size; simp; omega) hne).trans (Below.heap_alloc w _ b (by omega))
  have hbel : ∀ (B0 : Nat) (W0 : World), Below B0 W0 w → B0 ≤ lb → B0 ≤ base → Below B0 W0 w3 := fun B0 W0 h h1 h2 => (h.alloc (by omega) _).grown hgrow1 (by simp; omega) (fun q hq => by have := (hown.lt q hq).1; omega)
  go_end0
  exact ⟨⟨_, rfl⟩, _, World.cell?_setCell_same _ _ _ zc, (World.frozen?_setCell _ _ _ _).trans zf, by rw [flatM_snoc]; exact ownsRow_setCell_below hown1 (by simpa using hlb) _, fun b h1 h2 => (heap_setCell_other w3 ⟨lb, 0, none⟩ b _ h2).trans (hh b h1), by simpa using s3, fun B0 W0 h h1 h2 => (hbel B0 W0 h h1 h2).setCell (p := ⟨lb, 0, none⟩) h1 _⟩
end Go.Proofs.Ythahlfabcjnkhaa
