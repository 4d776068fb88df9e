/- The contract of vote's Answer, where it answers. -/
import Derived.Test.YthahlfabcjnkhaaVote3
namespace Go.Proofs.Ythahlfabcjnkhaa
open Go.ChangeShapes Go.WideShapes Go.ChangeAt Go.RowKit
set_option linter.unusedVariables false
set_option linter.unusedSimpArgs false
open Rw Vt

theorem cao {w : World} {o : Obj} {b off : Nat} (h : b < w.heap.size) : (w.alloc o).cell? ⟨b, off, none⟩ = w.cell? ⟨b, off, none⟩ := World.cell?_of_block (Below.heap_alloc w o b h)

theorem fao {w : World} {o : Obj} {b off : Nat} (h : b < w.heap.size) : (w.alloc o).frozen? ⟨b, off, none⟩ = w.frozen? ⟨b, off, none⟩ := World.frozen?_of_block (Below.heap_alloc w o b h)

theorem set3 {w : World} {b : Nat} {u0 u1 u2 : Value} (v0 v1 v2 : Value) (h0 : w.cell? ⟨b, 0, none⟩ = some u0) (h1 : w.cell? ⟨b, 1, none⟩ = some u1) (h2 : w.cell? ⟨b, 2, none⟩ = some u2) :
    (((w.setCell ⟨b, 0, none⟩ v0).setCell ⟨b, 1, none⟩ v1).setCell ⟨b, 2, none⟩ v2).cell? ⟨b, 0, none⟩ = some v0 ∧ (((w.setCell ⟨b, 0, none⟩ v0).setCell ⟨b, 1, none⟩ v1).setCell ⟨b, 2, none⟩ v2).cell? ⟨b, 1, none⟩ = some v1 ∧ (((w.setCell ⟨b, 0, none⟩ v0).setCell ⟨b, 1, none⟩ v1).setCell ⟨b, 2, none⟩ v2).cell? ⟨b, 2, none⟩ = some v2 :=
  ⟨(World.cell?_setCell_other _ _ _ _ (by simp)).trans ((World.cell?_setCell_other _ _ _ _ (by simp)).trans (World.cell?_setCell_same _ _ _ h0)),
   (World.cell?_setCell_other _ _ _ _ (by simp)).trans (World.cell?_setCell_same _ _ _ ((World.cell?_setCell_other _ _ _ _ (by simp)).trans h1)),
   World.cell?_setCell_same _ _ _ ((World.cell?_setCell_other _ _ _ _ (by simp)).trans ((World.cell?_setCell_other _ _ _ _ (by simp)).trans h2))⟩

def tellMsg (self frm term : Int) (ok : Bool) : Msg := ⟨2, self, frm, term, 0, 0, 0, ok, .slice none 0 0, 0, 0, 0, .slice none 0 0, .slice none 0 0⟩

set_option maxRecDepth 100000 in
set_option maxHeartbeats 2000000 in
theorem answer_ok (t v bt : Int) (r : Rw.R) (self : Int) (m : Msg) (w : World) (hw : RWf r) (hr : RAt w r) (hc : Rw.chkB r = true) (ha : argP self m) (y : Bool) (hy : yesB (riseT t m.term) (riseV t v m.term) r m = y) :
    Calls Try.prog 34 #[.agg #[.int .i64 t, .int .i64 v, .int .i64 bt], r.val, .int .i64 self, m.val] w fun e w' => e = .returned (.tuple #[.agg #[.int .i64 (riseT t m.term), .int .i64 (if y = true then m.frm else riseV t v m.term), .int .i64 bt], (tellMsg self m.frm (riseT t m.term) y).val, .int .i64 0]) ∧ Below w.heap.size w w' := by
  have hz := chkE_ok hc
  clear hc
  obtain ⟨a1, a2, a3, a4, a5⟩ := ha
  have k1 : (m.kind != 1) = false := bne_eq_false_iff_eq.2 a1
  have s1 : (m.frm == self) = false := beq_eq_false_iff_ne.2 a4
  replace a1 := Lib.hid a1
  replace a4 := Lib.hid a4
  have HY := Lib.hid hy
  clear hy
  have HR := Lib.hid hr
  clear hr
  have HW := Lib.hid hw
  unfold R.val Msg.val
  go_enter Try.func34, Try.ntmps34
  go_wp2_with fail
  refine (check_c r _ hw (HR.out.below ?_)).mono ?_
  · repeat (first | exact Below.refl _ _ | refine Below.alloc ?_ (by simp; try omega) _)
  rintro e' w1 ⟨rfl, hb1⟩
  have hb0 : Below w.heap.size w w1 := belowNext (by repeat (first | exact Below.refl _ _ | refine Below.alloc ?_ (by simp; try omega) _)) hb1 (Nat.le_refl _)
  obtain ⟨hc1, hf1⟩ := bcell hb1
  have hsz := hb1.size
  simp at hsz
  go_wp2_with (first | (go_at_call 89; refine (node_c _ _).mono ?_; rintro e w' ⟨rfl, rfl⟩) | (go_at_call 54; fail))
  refine (rise_c t v bt m.term _).mono ?_
  rintro e' w2 ⟨rfl, hb2⟩
  have hb02 := belowNext hb0 hb2 (Nat.le_refl _)
  have c2 : ∀ b o, b < w.heap.size + 5 → w2.cell? ⟨b, o, none⟩ = w1.cell? ⟨b, o, none⟩ := fun b o h => hb2.cell (p := ⟨b, o, none⟩) (by simp only; omega)
  have f2 : ∀ b o, b < w.heap.size + 5 → w2.frozen? ⟨b, o, none⟩ = w1.frozen? ⟨b, o, none⟩ := fun b o h => hb2.frozen (p := ⟨b, o, none⟩) (by simp only; omega)
  have hs2 := hb2.size
  have hs2' : w.heap.size + 5 ≤ w2.heap.size := by omega
  have x20 : w2.cell? ⟨w.heap.size, 0, none⟩ = some (.int .i64 t) := by go_simp
  have x21 : w2.cell? ⟨w.heap.size, 1, none⟩ = some (.int .i64 v) := by go_simp
  have x22 : w2.cell? ⟨w.heap.size, 2, none⟩ = some (.int .i64 bt) := by go_simp
  obtain ⟨z0, z1, z2⟩ := set3 (.int .i64 (riseT t m.term)) (.int .i64 (riseV t v m.term)) (.int .i64 bt) x20 x21 x22
  go_wp2_with fail
  refine (contains_c w.heap.size (w.heap.size + 1) (w.heap.size + 1 + 1) w2.heap.size (riseT t m.term) (riseV t v m.term) r m _ HW.out ?_ ?_).mono ?_
  · refine ⟨(cao (by simp; omega)).trans z0, (cao (by simp; omega)).trans z1, by refine (cao (by simp; omega)).trans ?_; go_simp, by refine (cao (by simp; omega)).trans ?_; go_simp, by refine (cao (by simp; omega)).trans ?_; go_simp, by refine (cao (by simp; omega)).trans ?_; go_simp, by refine (cao (by simp; omega)).trans ?_; go_simp, by refine (cao (by simp; omega)).trans ?_; go_simp, by refine (cao (by simp; omega)).trans ?_; go_simp, HR.out.below ?_⟩
    repeat (first | (with_reducible exact hb02) | (with_reducible refine Below.setCell ?_ (by simp; try omega) _) | (with_reducible refine Below.alloc ?_ (by simp; try omega) _))
  · intro k hk
    match k, hk with
    | 0, _ => simp only [askF]; go_simp
    | 1, _ => simp only [askF]; go_simp
    | 2, _ => simp only [askF]; go_simp
  rw [HY.out]
  rintro e' w3 ⟨rfl, hb3⟩
  have hb03 : Below w.heap.size w w3 := belowNext (by repeat (first | (with_reducible exact hb02) | (with_reducible refine Below.setCell ?_ (by simp; try omega) _) | (with_reducible refine Below.alloc ?_ (by simp; try omega) _))) hb3 (Nat.le_refl _)
  have c3 := fun b o (h : b < w.heap.size + 5) => (hb3.cell (p := ⟨b, o, none⟩) (by simp; omega)).trans (cao (by simp; omega))
  have f3 := fun b o (h : b < w.heap.size + 5) => (hb3.frozen (p := ⟨b, o, none⟩) (by simp; omega)).trans (fao (by simp; omega))
  have x30 := (c3 _ 0 (show w.heap.size < w.heap.size + 5 by omega)).trans z0
  have x31 := (c3 _ 1 (show w.heap.size < w.heap.size + 5 by omega)).trans z1
  have x32 := (c3 _ 2 (show w.heap.size < w.heap.size + 5 by omega)).trans z2
  have hs3 := hb3.size
  simp at hs3
  cases y
  · go_wp2
    go_region
    all_goals
      go_wp2
      refine bodyPost_ret (v := .tuple #[.agg #[.int .i64 (riseT t m.term), .int .i64 (riseV t v m.term), .int .i64 bt], (tellMsg self m.frm (riseT t m.term) false).val, .int .i64 0]) (by simp [results, Try.results34, go_sem, tellMsg, Msg.val, c3, f3, hs3, x30, x31, x32, c2, hc1, f2, hf1]) rfl ⟨by simp [Msg.val], ?_⟩
      repeat (first | (with_reducible exact hb03) | (with_reducible refine Below.setCell ?_ (by simp; try omega) _) | (with_reducible refine Below.drew ?_))
  · go_wp2
    have x41 := World.cell?_setCell_same w3 ⟨w.heap.size, 1, none⟩ (.int .i64 m.frm) x31
    have x40 := (World.cell?_setCell_other w3 ⟨w.heap.size, 1, none⟩ ⟨w.heap.size, 0, none⟩ (.int .i64 m.frm) (by simp)).trans x30
    have x42 := (World.cell?_setCell_other w3 ⟨w.heap.size, 1, none⟩ ⟨w.heap.size, 2, none⟩ (.int .i64 m.frm) (by simp)).trans x32
    have c4 := fun (b o : Nat) (h : b < w.heap.size + 5) (h' : ¬ w.heap.size = b) => (World.cell?_setCell_other w3 ⟨w.heap.size, 1, none⟩ ⟨b, o, none⟩ (.int .i64 m.frm) (fun hh => h' (congrArg Addr.block hh))).trans (c3 b o h)
    have f4 := fun b o (h : b < w.heap.size + 5) => (World.frozen?_setCell w3 ⟨w.heap.size, 1, none⟩ ⟨b, o, none⟩ (.int .i64 m.frm)).trans (f3 b o h)
    have d2 := fun o => c4 (w.heap.size + 1 + 1) o (by omega) (by omega)
    have d3 := fun o => c4 (w.heap.size + 1 + 1 + 1) o (by omega) (by omega)
    have d4 := fun o => c4 (w.heap.size + 1 + 1 + 1 + 1) o (by omega) (by omega)
    clear c4
    have hb04 := hb03.setCell (p := ⟨w.heap.size, 1, none⟩) (Nat.le_refl _) (.int .i64 m.frm)
    generalize w3.setCell ⟨w.heap.size, 1, none⟩ (.int .i64 m.frm) = w4 at x40 x41 x42 d2 d3 d4 f4 hb04 ⊢
    clear c3 f3 x30 x31 x32 hb3 hb03
    go_region
    all_goals
      go_wp2
      refine bodyPost_ret (v := .tuple #[.agg #[.int .i64 (riseT t m.term), .int .i64 m.frm, .int .i64 bt], (tellMsg self m.frm (riseT t m.term) true).val, .int .i64 0]) (by simp [results, Try.results34, go_sem, tellMsg, Msg.val, d2, d3, d4, f4, x40, x41, x42, c2, hc1, f2, hf1]) rfl ⟨by simp [Msg.val], ?_⟩
      repeat (first | (with_reducible exact hb04) | (with_reducible refine Below.setCell ?_ (by simp; try omega) _) | (with_reducible refine Below.drew ?_))
end Go.Proofs.Ythahlfabcjnkhaa
