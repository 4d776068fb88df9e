/- The contract of the reference's Answer, where it answers. -/
import Derived.Test.YthahlfabcjnkhaaRAns
import Derived.Deep.DeepCutAuto
namespace Go.Proofs.Ythahlfabcjnkhaa
open Go.ChangeShapes Go.WideShapes Go.ChangeAt Go.RowKit
set_option linter.unusedVariables false
set_option linter.unusedSimpArgs false
open Rw Vt

theorem yes_no0 {T V : Int} {r : Rw.R} {m : Msg} (h : (m.term == T) = false) : yesB T V r m = false := by
  unfold yesB
  rw [show askB T V r m 0 = (m.term == T) from rfl, h]; rfl
theorem yes_no1 {T V : Int} {r : Rw.R} {m : Msg} (h : (V == 0 || V == m.frm) = false) : yesB T V r m = false := by
  unfold yesB
  rw [show askB T V r m 1 = (V == 0 || V == m.frm) from rfl, h, Bool.and_false]; rfl
theorem yes_of {T V : Int} {r : Rw.R} {m : Msg} (h0 : (m.term == T) = true) (h1 : (V == 0 || V == m.frm) = true) : yesB T V r m = Rw.newerB r m.index m.last := by
  unfold yesB
  rw [show askB T V r m 0 = (m.term == T) from rfl, show askB T V r m 1 = (V == 0 || V == m.frm) from rfl, h0, h1, Bool.and_true, Bool.true_and]; rfl

set_option maxRecDepth 100000 in
set_option maxHeartbeats 3200000 in
theorem ranswer_ok (t v bt : Int) (r : Rw.R) (self : Int) (m : Msg) (w : World) (hw : RWf r) (hr : RAt w r) (hc : Rw.chkB r = true) (ha : argP self m) (y : Bool) (hy : yesB (riseT t m.term) (riseV t v m.term) r m = y) :
    Calls Try.prog 35 #[.agg #[.int .i64 t, .int .i64 v, .int .i64 bt], r.val, .int .i64 self, m.val] w fun e w' => e = .returned (.tuple #[.agg #[.int .i64 (riseT t m.term), .int .i64 (if y = true then m.frm else riseV t v m.term), .int .i64 bt], (tellMsg self m.frm (riseT t m.term) y).val, .int .i64 0]) ∧ Below w.heap.size w w' := by
  have hz := chkE_ok hc
  clear hc
  obtain ⟨a1, a2, a3, a4, a5⟩ := ha
  have k1 : (m.kind != 1) = false := bne_eq_false_iff_eq.2 a1
  have s1 : (m.frm == self) = false := beq_eq_false_iff_ne.2 a4
  replace a1 := Lib.hid a1
  replace a4 := Lib.hid a4
  have HY := Lib.hid hy
  clear hy
  have HR := Lib.hid hr
  clear hr
  have HW := Lib.hid hw
  unfold R.val Msg.val
  go_enter Try.func35, Try.ntmps35
  go_wp2_with fail
  refine (rcheck_c r _ hw (HR.out.below ?_)).mono ?_
  · repeat (first | exact Below.refl _ _ | refine Below.alloc ?_ (by simp; try omega) _)
  rintro e' w1 ⟨rfl, hb1⟩
  have hb0 : Below w.heap.size w w1 := belowNext (by repeat (first | exact Below.refl _ _ | refine Below.alloc ?_ (by simp; try omega) _)) hb1 (Nat.le_refl _)
  obtain ⟨hc1, hf1⟩ := bcell hb1
  have hsz := hb1.size
  simp at hsz
  go_wp2_with (first | (go_at_call 96; refine (rnode_b _ _).mono ?_; rintro e w' ⟨rfl, rfl⟩) | (go_at_call 55; fail))
  refine (rrise_c t v bt m.term _).mono ?_
  rintro e' w2 ⟨rfl, hb2⟩
  have hb02 := belowNext hb0 hb2 (Nat.le_refl _)
  have c2 : ∀ b o, b < w.heap.size + 5 → w2.cell? ⟨b, o, none⟩ = w1.cell? ⟨b, o, none⟩ := fun b o h => hb2.cell (p := ⟨b, o, none⟩) (by simp only; omega)
  have f2 : ∀ b o, b < w.heap.size + 5 → w2.frozen? ⟨b, o, none⟩ = w1.frozen? ⟨b, o, none⟩ := fun b o h => hb2.frozen (p := ⟨b, o, none⟩) (by simp only; omega)
  have hs2 := hb2.size
  have hs2' : w.heap.size + 5 ≤ w2.heap.size := by omega
  have x20 : w2.cell? ⟨w.heap.size, 0, none⟩ = some (.int .i64 t) := by go_simp
  have x21 : w2.cell? ⟨w.heap.size, 1, none⟩ = some (.int .i64 v) := by go_simp
  have x22 : w2.cell? ⟨w.heap.size, 2, none⟩ = some (.int .i64 bt) := by go_simp
  obtain ⟨z0, z1, z2⟩ := set3 (.int .i64 (riseT t m.term)) (.int .i64 (riseV t v m.term)) (.int .i64 bt) x20 x21 x22
  have c3 : ∀ b o, b < w.heap.size + 5 → ¬ w.heap.size = b → (((w2.setCell ⟨w.heap.size, 0, none⟩ (.int .i64 (riseT t m.term))).setCell ⟨w.heap.size, 1, none⟩ (.int .i64 (riseV t v m.term))).setCell ⟨w.heap.size, 2, none⟩ (.int .i64 bt)).cell? ⟨b, o, none⟩ = w1.cell? ⟨b, o, none⟩ := fun b o h h' => (World.cell?_setCell_other _ _ _ _ (fun hh => h' (congrArg Addr.block hh))).trans ((World.cell?_setCell_other _ _ _ _ (fun hh => h' (congrArg Addr.block hh))).trans ((World.cell?_setCell_other _ _ _ _ (fun hh => h' (congrArg Addr.block hh))).trans (c2 b o h)))
  have f3 : ∀ b o, b < w.heap.size + 5 → (((w2.setCell ⟨w.heap.size, 0, none⟩ (.int .i64 (riseT t m.term))).setCell ⟨w.heap.size, 1, none⟩ (.int .i64 (riseV t v m.term))).setCell ⟨w.heap.size, 2, none⟩ (.int .i64 bt)).frozen? ⟨b, o, none⟩ = w1.frozen? ⟨b, o, none⟩ := fun b o h => (World.frozen?_setCell _ _ _ _).trans ((World.frozen?_setCell _ _ _ _).trans ((World.frozen?_setCell _ _ _ _).trans (f2 b o h)))
  have hb03 : Below w.heap.size w (((w2.setCell ⟨w.heap.size, 0, none⟩ (.int .i64 (riseT t m.term))).setCell ⟨w.heap.size, 1, none⟩ (.int .i64 (riseV t v m.term))).setCell ⟨w.heap.size, 2, none⟩ (.int .i64 bt)) := ((hb02.setCell (p := ⟨w.heap.size, 0, none⟩) (Nat.le_refl _) _).setCell (p := ⟨w.heap.size, 1, none⟩) (Nat.le_refl _) _).setCell (p := ⟨w.heap.size, 2, none⟩) (Nat.le_refl _) _
  have hs3 : w.heap.size + 5 ≤ (((w2.setCell ⟨w.heap.size, 0, none⟩ (.int .i64 (riseT t m.term))).setCell ⟨w.heap.size, 1, none⟩ (.int .i64 (riseV t v m.term))).setCell ⟨w.heap.size, 2, none⟩ (.int .i64 bt)).heap.size := by simp; omega
  go_upto_region 6 with fail
  generalize (((w2.setCell ⟨w.heap.size, 0, none⟩ (.int .i64 (riseT t m.term))).setCell ⟨w.heap.size, 1, none⟩ (.int .i64 (riseV t v m.term))).setCell ⟨w.heap.size, 2, none⟩ (.int .i64 bt)) = w3 at z0 z1 z2 c3 f3 hb03 hs3 ⊢
  clear x20 x21 x22 c2 f2 hb2 hb02 hs2 hs2'
  obtain ⟨T, hT⟩ : ∃ x, riseT t m.term = x := ⟨_, rfl⟩
  obtain ⟨V, hV⟩ : ∃ x, riseV t v m.term = x := ⟨_, rfl⟩
  rw [hT, hV] at HY
  rw [hT] at z0 ⊢
  rw [hV] at z1 ⊢
  replace hT := Lib.hid hT
  replace hV := Lib.hid hV
  cases q0 : (m.term == T) with
  | false =>
    obtain rfl : y = false := by rw [← HY.out, yes_no0 q0]
    have d1 := fun o => c3 (w.heap.size + 1) o (by omega) (by omega)
    have g1 := fun o => f3 (w.heap.size + 1) o (by omega)
    have d2 := fun o => c3 (w.heap.size + 1 + 1) o (by omega) (by omega)
    have g2 := fun o => f3 (w.heap.size + 1 + 1) o (by omega)
    have d3 := fun o => c3 (w.heap.size + 1 + 1 + 1) o (by omega) (by omega)
    have g3 := fun o => f3 (w.heap.size + 1 + 1 + 1) o (by omega)
    have d4 := fun o => c3 (w.heap.size + 1 + 1 + 1 + 1) o (by omega) (by omega)
    have g4 := fun o => f3 (w.heap.size + 1 + 1 + 1 + 1) o (by omega)
    have g0 := fun o => f3 w.heap.size o (by omega)
    clear c3 f3
    go_wp2_with fail
    go_region
    all_goals
      go_wp2
      refine bodyPost_ret (v := .tuple #[.agg #[.int .i64 T, .int .i64 V, .int .i64 bt], (tellMsg self m.frm T false).val, .int .i64 0]) (by simp [results, Try.results35, go_sem, tellMsg, Msg.val, d1, d2, d3, d4, g0, g1, g2, g3, g4, z0, z1, z2, hc1, hf1, hsz]) rfl ⟨by simp [Msg.val, hT.out, hV.out], ?_⟩
      repeat (first | (with_reducible exact hb03) | (with_reducible refine Below.setCell ?_ (by simp; try omega) _) | (with_reducible refine Below.drew ?_))
  | true =>
    have e0 := q0
    cases q1 : (V == 0) with
    | true =>
      have e1 : (V == 0 || V == m.frm) = true := by rw [q1]; rfl
      have d1 := fun o => c3 (w.heap.size + 1) o (by omega) (by omega)
      have g1 := fun o => f3 (w.heap.size + 1) o (by omega)
      have d2 := fun o => c3 (w.heap.size + 1 + 1) o (by omega) (by omega)
      have g2 := fun o => f3 (w.heap.size + 1 + 1) o (by omega)
      have d3 := fun o => c3 (w.heap.size + 1 + 1 + 1) o (by omega) (by omega)
      have g3 := fun o => f3 (w.heap.size + 1 + 1 + 1) o (by omega)
      have d4 := fun o => c3 (w.heap.size + 1 + 1 + 1 + 1) o (by omega) (by omega)
      have g4 := fun o => f3 (w.heap.size + 1 + 1 + 1 + 1) o (by omega)
      have g0 := fun o => f3 w.heap.size o (by omega)
      cases hnw : Rw.newerB r m.index m.last with
      | false =>
        have hyv : y = false := by rw [← HY.out, yes_of e0 e1, hnw]
        subst hyv
        have hnn := Lib.hid hnw
        clear hnw
        go_wp2_with fail
        refine (rnewer_c r m.index m.last _ HW.out (HR.out.below hb03)).mono ?_
        rw [hnn.out]
        rintro e' w4 ⟨rfl, hb4⟩
        have hb04 := belowNext hb03 hb4 (Nat.le_refl _)
        have c4 : ∀ b o, b < w.heap.size + 5 → w4.cell? ⟨b, o, none⟩ = w3.cell? ⟨b, o, none⟩ := fun b o h => hb4.cell (p := ⟨b, o, none⟩) (by simp only; omega)
        have f4 : ∀ b o, b < w.heap.size + 5 → w4.frozen? ⟨b, o, none⟩ = w3.frozen? ⟨b, o, none⟩ := fun b o h => hb4.frozen (p := ⟨b, o, none⟩) (by simp only; omega)
        replace z0 := (c4 w.heap.size 0 (by omega)).trans z0
        replace z1 := (c4 w.heap.size 1 (by omega)).trans z1
        replace z2 := (c4 w.heap.size 2 (by omega)).trans z2
        replace g0 := fun o => (f4 w.heap.size o (by omega)).trans (g0 o)
        replace d1 := fun o => (c4 (w.heap.size + 1) o (by omega)).trans (d1 o)
        replace g1 := fun o => (f4 (w.heap.size + 1) o (by omega)).trans (g1 o)
        replace d2 := fun o => (c4 (w.heap.size + 1 + 1) o (by omega)).trans (d2 o)
        replace g2 := fun o => (f4 (w.heap.size + 1 + 1) o (by omega)).trans (g2 o)
        replace d3 := fun o => (c4 (w.heap.size + 1 + 1 + 1) o (by omega)).trans (d3 o)
        replace g3 := fun o => (f4 (w.heap.size + 1 + 1 + 1) o (by omega)).trans (g3 o)
        replace d4 := fun o => (c4 (w.heap.size + 1 + 1 + 1 + 1) o (by omega)).trans (d4 o)
        replace g4 := fun o => (f4 (w.heap.size + 1 + 1 + 1 + 1) o (by omega)).trans (g4 o)
        clear c4 f4 c3 f3 hb4 hb03 hs3
        go_wp2_with fail
        go_region
        all_goals
          go_wp2
          refine bodyPost_ret (v := .tuple #[.agg #[.int .i64 T, .int .i64 V, .int .i64 bt], (tellMsg self m.frm T false).val, .int .i64 0]) (by simp [results, Try.results35, go_sem, tellMsg, Msg.val, d1, d2, d3, d4, g0, g1, g2, g3, g4, z0, z1, z2, hc1, hf1, hsz]) rfl ⟨by simp [Msg.val, hT.out, hV.out], ?_⟩
          repeat (first | (with_reducible exact hb04) | (with_reducible refine Below.setCell ?_ (by simp; try omega) _) | (with_reducible refine Below.drew ?_))
      | true =>
        have hyv : y = true := by rw [← HY.out, yes_of e0 e1, hnw]
        subst hyv
        have hnn := Lib.hid hnw
        clear hnw
        go_wp2_with fail
        refine (rnewer_c r m.index m.last _ HW.out (HR.out.below hb03)).mono ?_
        rw [hnn.out]
        rintro e' w4 ⟨rfl, hb4⟩
        have hb04 := belowNext hb03 hb4 (Nat.le_refl _)
        have c4 : ∀ b o, b < w.heap.size + 5 → w4.cell? ⟨b, o, none⟩ = w3.cell? ⟨b, o, none⟩ := fun b o h => hb4.cell (p := ⟨b, o, none⟩) (by simp only; omega)
        have f4 : ∀ b o, b < w.heap.size + 5 → w4.frozen? ⟨b, o, none⟩ = w3.frozen? ⟨b, o, none⟩ := fun b o h => hb4.frozen (p := ⟨b, o, none⟩) (by simp only; omega)
        replace z0 := (c4 w.heap.size 0 (by omega)).trans z0
        replace z1 := (c4 w.heap.size 1 (by omega)).trans z1
        replace z2 := (c4 w.heap.size 2 (by omega)).trans z2
        replace g0 := fun o => (f4 w.heap.size o (by omega)).trans (g0 o)
        replace d1 := fun o => (c4 (w.heap.size + 1) o (by omega)).trans (d1 o)
        replace g1 := fun o => (f4 (w.heap.size + 1) o (by omega)).trans (g1 o)
        replace d2 := fun o => (c4 (w.heap.size + 1 + 1) o (by omega)).trans (d2 o)
        replace g2 := fun o => (f4 (w.heap.size + 1 + 1) o (by omega)).trans (g2 o)
        replace d3 := fun o => (c4 (w.heap.size + 1 + 1 + 1) o (by omega)).trans (d3 o)
        replace g3 := fun o => (f4 (w.heap.size + 1 + 1 + 1) o (by omega)).trans (g3 o)
        replace d4 := fun o => (c4 (w.heap.size + 1 + 1 + 1 + 1) o (by omega)).trans (d4 o)
        replace g4 := fun o => (f4 (w.heap.size + 1 + 1 + 1 + 1) o (by omega)).trans (g4 o)
        clear c4 f4 c3 f3 hb4 hb03 hs3
        go_upto_region 9 with fail
        replace z0 := (World.cell?_setCell_other w4 ⟨w.heap.size, 1, none⟩ ⟨w.heap.size, 0, none⟩ (.int .i64 m.frm) (by simp)).trans z0
        replace z2 := (World.cell?_setCell_other w4 ⟨w.heap.size, 1, none⟩ ⟨w.heap.size, 2, none⟩ (.int .i64 m.frm) (by simp)).trans z2
        replace z1 := World.cell?_setCell_same w4 ⟨w.heap.size, 1, none⟩ (.int .i64 m.frm) z1
        replace g0 := fun o => (World.frozen?_setCell w4 ⟨w.heap.size, 1, none⟩ ⟨w.heap.size, o, none⟩ (.int .i64 m.frm)).trans (g0 o)
        replace d1 := fun o => (World.cell?_setCell_other w4 ⟨w.heap.size, 1, none⟩ ⟨w.heap.size + 1, o, none⟩ (.int .i64 m.frm) (fun hh => absurd (congrArg Addr.block hh) (by simp only; omega))).trans (d1 o)
        replace g1 := fun o => (World.frozen?_setCell w4 ⟨w.heap.size, 1, none⟩ ⟨w.heap.size + 1, o, none⟩ (.int .i64 m.frm)).trans (g1 o)
        replace d2 := fun o => (World.cell?_setCell_other w4 ⟨w.heap.size, 1, none⟩ ⟨w.heap.size + 1 + 1, o, none⟩ (.int .i64 m.frm) (fun hh => absurd (congrArg Addr.block hh) (by simp only; omega))).trans (d2 o)
        replace g2 := fun o => (World.frozen?_setCell w4 ⟨w.heap.size, 1, none⟩ ⟨w.heap.size + 1 + 1, o, none⟩ (.int .i64 m.frm)).trans (g2 o)
        replace d3 := fun o => (World.cell?_setCell_other w4 ⟨w.heap.size, 1, none⟩ ⟨w.heap.size + 1 + 1 + 1, o, none⟩ (.int .i64 m.frm) (fun hh => absurd (congrArg Addr.block hh) (by simp only; omega))).trans (d3 o)
        replace g3 := fun o => (World.frozen?_setCell w4 ⟨w.heap.size, 1, none⟩ ⟨w.heap.size + 1 + 1 + 1, o, none⟩ (.int .i64 m.frm)).trans (g3 o)
        replace d4 := fun o => (World.cell?_setCell_other w4 ⟨w.heap.size, 1, none⟩ ⟨w.heap.size + 1 + 1 + 1 + 1, o, none⟩ (.int .i64 m.frm) (fun hh => absurd (congrArg Addr.block hh) (by simp only; omega))).trans (d4 o)
        replace g4 := fun o => (World.frozen?_setCell w4 ⟨w.heap.size, 1, none⟩ ⟨w.heap.size + 1 + 1 + 1 + 1, o, none⟩ (.int .i64 m.frm)).trans (g4 o)
        replace hb04 := hb04.setCell (p := ⟨w.heap.size, 1, none⟩) (Nat.le_refl _) (.int .i64 m.frm)
        generalize w4.setCell ⟨w.heap.size, 1, none⟩ (.int .i64 m.frm) = w5 at z0 z1 z2 g0 d1 d2 d3 d4 g1 g2 g3 g4 hb04 ⊢
        go_region
        all_goals
          go_wp2
          refine bodyPost_ret (v := .tuple #[.agg #[.int .i64 T, .int .i64 m.frm, .int .i64 bt], (tellMsg self m.frm T true).val, .int .i64 0]) (by simp [results, Try.results35, go_sem, tellMsg, Msg.val, d1, d2, d3, d4, g0, g1, g2, g3, g4, z0, z1, z2, hc1, hf1, hsz]) rfl ⟨by simp [Msg.val, hT.out, hV.out], ?_⟩
          repeat (first | (with_reducible exact hb04) | (with_reducible refine Below.setCell ?_ (by simp; try omega) _) | (with_reducible refine Below.drew ?_))
    | false =>
      cases q2 : (V == m.frm) with
      | true =>
        have e1 : (V == 0 || V == m.frm) = true := by rw [q1, q2]; rfl
        have d1 := fun o => c3 (w.heap.size + 1) o (by omega) (by omega)
        have g1 := fun o => f3 (w.heap.size + 1) o (by omega)
        have d2 := fun o => c3 (w.heap.size + 1 + 1) o (by omega) (by omega)
        have g2 := fun o => f3 (w.heap.size + 1 + 1) o (by omega)
        have d3 := fun o => c3 (w.heap.size + 1 + 1 + 1) o (by omega) (by omega)
        have g3 := fun o => f3 (w.heap.size + 1 + 1 + 1) o (by omega)
        have d4 := fun o => c3 (w.heap.size + 1 + 1 + 1 + 1) o (by omega) (by omega)
        have g4 := fun o => f3 (w.heap.size + 1 + 1 + 1 + 1) o (by omega)
        have g0 := fun o => f3 w.heap.size o (by omega)
        cases hnw : Rw.newerB r m.index m.last with
        | false =>
          have hyv : y = false := by rw [← HY.out, yes_of e0 e1, hnw]
          subst hyv
          have hnn := Lib.hid hnw
          clear hnw
          go_wp2_with fail
          refine (rnewer_c r m.index m.last _ HW.out (HR.out.below hb03)).mono ?_
          rw [hnn.out]
          rintro e' w4 ⟨rfl, hb4⟩
          have hb04 := belowNext hb03 hb4 (Nat.le_refl _)
          have c4 : ∀ b o, b < w.heap.size + 5 → w4.cell? ⟨b, o, none⟩ = w3.cell? ⟨b, o, none⟩ := fun b o h => hb4.cell (p := ⟨b, o, none⟩) (by simp only; omega)
          have f4 : ∀ b o, b < w.heap.size + 5 → w4.frozen? ⟨b, o, none⟩ = w3.frozen? ⟨b, o, none⟩ := fun b o h => hb4.frozen (p := ⟨b, o, none⟩) (by simp only; omega)
          replace z0 := (c4 w.heap.size 0 (by omega)).trans z0
          replace z1 := (c4 w.heap.size 1 (by omega)).trans z1
          replace z2 := (c4 w.heap.size 2 (by omega)).trans z2
          replace g0 := fun o => (f4 w.heap.size o (by omega)).trans (g0 o)
          replace d1 := fun o => (c4 (w.heap.size + 1) o (by omega)).trans (d1 o)
          replace g1 := fun o => (f4 (w.heap.size + 1) o (by omega)).trans (g1 o)
          replace d2 := fun o => (c4 (w.heap.size + 1 + 1) o (by omega)).trans (d2 o)
          replace g2 := fun o => (f4 (w.heap.size + 1 + 1) o (by omega)).trans (g2 o)
          replace d3 := fun o => (c4 (w.heap.size + 1 + 1 + 1) o (by omega)).trans (d3 o)
          replace g3 := fun o => (f4 (w.heap.size + 1 + 1 + 1) o (by omega)).trans (g3 o)
          replace d4 := fun o => (c4 (w.heap.size + 1 + 1 + 1 + 1) o (by omega)).trans (d4 o)
          replace g4 := fun o => (f4 (w.heap.size + 1 + 1 + 1 + 1) o (by omega)).trans (g4 o)
          clear c4 f4 c3 f3 hb4 hb03 hs3
          go_wp2_with fail
          go_region
          all_goals
            go_wp2
            refine bodyPost_ret (v := .tuple #[.agg #[.int .i64 T, .int .i64 V, .int .i64 bt], (tellMsg self m.frm T false).val, .int .i64 0]) (by simp [results, Try.results35, go_sem, tellMsg, Msg.val, d1, d2, d3, d4, g0, g1, g2, g3, g4, z0, z1, z2, hc1, hf1, hsz]) rfl ⟨by simp [Msg.val, hT.out, hV.out], ?_⟩
            repeat (first | (with_reducible exact hb04) | (with_reducible refine Below.setCell ?_ (by simp; try omega) _) | (with_reducible refine Below.drew ?_))
        | true =>
          have hyv : y = true := by rw [← HY.out, yes_of e0 e1, hnw]
          subst hyv
          have hnn := Lib.hid hnw
          clear hnw
          go_wp2_with fail
          refine (rnewer_c r m.index m.last _ HW.out (HR.out.below hb03)).mono ?_
          rw [hnn.out]
          rintro e' w4 ⟨rfl, hb4⟩
          have hb04 := belowNext hb03 hb4 (Nat.le_refl _)
          have c4 : ∀ b o, b < w.heap.size + 5 → w4.cell? ⟨b, o, none⟩ = w3.cell? ⟨b, o, none⟩ := fun b o h => hb4.cell (p := ⟨b, o, none⟩) (by simp only; omega)
          have f4 : ∀ b o, b < w.heap.size + 5 → w4.frozen? ⟨b, o, none⟩ = w3.frozen? ⟨b, o, none⟩ := fun b o h => hb4.frozen (p := ⟨b, o, none⟩) (by simp only; omega)
          replace z0 := (c4 w.heap.size 0 (by omega)).trans z0
          replace z1 := (c4 w.heap.size 1 (by omega)).trans z1
          replace z2 := (c4 w.heap.size 2 (by omega)).trans z2
          replace g0 := fun o => (f4 w.heap.size o (by omega)).trans (g0 o)
          replace d1 := fun o => (c4 (w.heap.size + 1) o (by omega)).trans (d1 o)
          replace g1 := fun o => (f4 (w.heap.size + 1) o (by omega)).trans (g1 o)
          replace d2 := fun o => (c4 (w.heap.size + 1 + 1) o (by omega)).trans (d2 o)
          replace g2 := fun o => (f4 (w.heap.size + 1 + 1) o (by omega)).trans (g2 o)
          replace d3 := fun o => (c4 (w.heap.size + 1 + 1 + 1) o (by omega)).trans (d3 o)
          replace g3 := fun o => (f4 (w.heap.size + 1 + 1 + 1) o (by omega)).trans (g3 o)
          replace d4 := fun o => (c4 (w.heap.size + 1 + 1 + 1 + 1) o (by omega)).trans (d4 o)
          replace g4 := fun o => (f4 (w.heap.size + 1 + 1 + 1 + 1) o (by omega)).trans (g4 o)
          clear c4 f4 c3 f3 hb4 hb03 hs3
          go_upto_region 9 with fail
          replace z0 := (World.cell?_setCell_other w4 ⟨w.heap.size, 1, none⟩ ⟨w.heap.size, 0, none⟩ (.int .i64 m.frm) (by simp)).trans z0
          replace z2 := (World.cell?_setCell_other w4 ⟨w.heap.size, 1, none⟩ ⟨w.heap.size, 2, none⟩ (.int .i64 m.frm) (by simp)).trans z2
          replace z1 := World.cell?_setCell_same w4 ⟨w.heap.size, 1, none⟩ (.int .i64 m.frm) z1
          replace g0 := fun o => (World.frozen?_setCell w4 ⟨w.heap.size, 1, none⟩ ⟨w.heap.size, o, none⟩ (.int .i64 m.frm)).trans (g0 o)
          replace d1 := fun o => (World.cell?_setCell_other w4 ⟨w.heap.size, 1, none⟩ ⟨w.heap.size + 1, o, none⟩ (.int .i64 m.frm) (fun hh => absurd (congrArg Addr.block hh) (by simp only; omega))).trans (d1 o)
          replace g1 := fun o => (World.frozen?_setCell w4 ⟨w.heap.size, 1, none⟩ ⟨w.heap.size + 1, o, none⟩ (.int .i64 m.frm)).trans (g1 o)
          replace d2 := fun o => (World.cell?_setCell_other w4 ⟨w.heap.size, 1, none⟩ ⟨w.heap.size + 1 + 1, o, none⟩ (.int .i64 m.frm) (fun hh => absurd (congrArg Addr.block hh) (by simp only; omega))).trans (d2 o)
          replace g2 := fun o => (World.frozen?_setCell w4 ⟨w.heap.size, 1, none⟩ ⟨w.heap.size + 1 + 1, o, none⟩ (.int .i64 m.frm)).trans (g2 o)
          replace d3 := fun o => (World.cell?_setCell_other w4 ⟨w.heap.size, 1, none⟩ ⟨w.heap.size + 1 + 1 + 1, o, none⟩ (.int .i64 m.frm) (fun hh => absurd (congrArg Addr.block hh) (by simp only; omega))).trans (d3 o)
          replace g3 := fun o => (World.frozen?_setCell w4 ⟨w.heap.size, 1, none⟩ ⟨w.heap.size + 1 + 1 + 1, o, none⟩ (.int .i64 m.frm)).trans (g3 o)
          replace d4 := fun o => (World.cell?_setCell_other w4 ⟨w.heap.size, 1, none⟩ ⟨w.heap.size + 1 + 1 + 1 + 1, o, none⟩ (.int .i64 m.frm) (fun hh => absurd (congrArg Addr.block hh) (by simp only; omega))).trans (d4 o)
          replace g4 := fun o => (World.frozen?_setCell w4 ⟨w.heap.size, 1, none⟩ ⟨w.heap.size + 1 + 1 + 1 + 1, o, none⟩ (.int .i64 m.frm)).trans (g4 o)
          replace hb04 := hb04.setCell (p := ⟨w.heap.size, 1, none⟩) (Nat.le_refl _) (.int .i64 m.frm)
          generalize w4.setCell ⟨w.heap.size, 1, none⟩ (.int .i64 m.frm) = w5 at z0 z1 z2 g0 d1 d2 d3 d4 g1 g2 g3 g4 hb04 ⊢
          go_region
          all_goals
            go_wp2
            refine bodyPost_ret (v := .tuple #[.agg #[.int .i64 T, .int .i64 m.frm, .int .i64 bt], (tellMsg self m.frm T true).val, .int .i64 0]) (by simp [results, Try.results35, go_sem, tellMsg, Msg.val, d1, d2, d3, d4, g0, g1, g2, g3, g4, z0, z1, z2, hc1, hf1, hsz]) rfl ⟨by simp [Msg.val, hT.out, hV.out], ?_⟩
            repeat (first | (with_reducible exact hb04) | (with_reducible refine Below.setCell ?_ (by simp; try omega) _) | (with_reducible refine Below.drew ?_))
      | false =>
        obtain rfl : y = false := by rw [← HY.out, yes_no1 (show (V == 0 || V == m.frm) = false by rw [q1, q2]; rfl)]
        have d1 := fun o => c3 (w.heap.size + 1) o (by omega) (by omega)
        have g1 := fun o => f3 (w.heap.size + 1) o (by omega)
        have d2 := fun o => c3 (w.heap.size + 1 + 1) o (by omega) (by omega)
        have g2 := fun o => f3 (w.heap.size + 1 + 1) o (by omega)
        have d3 := fun o => c3 (w.heap.size + 1 + 1 + 1) o (by omega) (by omega)
        have g3 := fun o => f3 (w.heap.size + 1 + 1 + 1) o (by omega)
        have d4 := fun o => c3 (w.heap.size + 1 + 1 + 1 + 1) o (by omega) (by omega)
        have g4 := fun o => f3 (w.heap.size + 1 + 1 + 1 + 1) o (by omega)
        have g0 := fun o => f3 w.heap.size o (by omega)
        clear c3 f3
        go_wp2_with fail
        go_region
        all_goals
          go_wp2
          refine bodyPost_ret (v := .tuple #[.agg #[.int .i64 T, .int .i64 V, .int .i64 bt], (tellMsg self m.frm T false).val, .int .i64 0]) (by simp [results, Try.results35, go_sem, tellMsg, Msg.val, d1, d2, d3, d4, g0, g1, g2, g3, g4, z0, z1, z2, hc1, hf1, hsz]) rfl ⟨by simp [Msg.val, hT.out, hV.out], ?_⟩
          repeat (first | (with_reducible exact hb03) | (with_reducible refine Below.setCell ?_ (by simp; try omega) _) | (with_reducible refine Below.drew ?_))
end Go.Proofs.Ythahlfabcjnkhaa
