/- The walk of VoteNewer. -/
import Derived.Test.YthahlfabcjnkhaaArgs10
namespace Go.Proofs.Ythahlfabcjnkhaa
open Go.ChangeShapes Go.WideShapes Go.ChangeAt Go.RowKit
set_option linter.unusedVariables false
set_option linter.unusedSimpArgs false
open Rw Vt

theorem great_c (r : Rw.R) (w : World) : Calls Try.prog 32 #[r.val] w fun e w' => e = .returned (.bool (decide (300 < r.n))) ∧ Below w.heap.size w w' := by
  unfold R.val
  go_enter Try.func32, Try.ntmps32
  go_wp2
  go_ret
  exact ⟨ret_bool (decide_eq_decide.2 (by omega)), (Below.refl w.heap.size w).alloc (Nat.le_refl _) _⟩

set_option maxRecDepth 100000 in
set_option maxHeartbeats 3200000 in
theorem newer_h (w : World) (t v b : Int) (r : Rw.R) (self : Int) (m : Msg) (hw : RWf r) (hr : RAt w r) :
    Calls Try.prog 9 #[.agg #[.int .i64 t, .int .i64 v, .int .i64 b], r.val, .int .i64 self, m.val] w fun e w' => e = .returned (.bool true) ∧ Below w.heap.size w w' := by
  have HR := Lib.hid hr
  have HW := Lib.hid hw
  clear hr hw
  by_cases hg : 300 < r.n
  · unfold R.val Msg.val
    go_enter Try.func9, Try.ntmps9
    go_wp2_with fail
    refine (great_c r _).mono ?_
    rw [decide_eq_true hg]
    rintro e w1 ⟨rfl, hb1⟩
    have hB1 := belowNext (((Below.refl w.heap.size w).alloc (Nat.le_refl _) _).alloc (by simp) _ |>.alloc (by simp; omega) _) hb1 (Nat.le_refl _)
    go_wp2_with fail
    refine (wakes10_c _).mono ?_
    rintro e w2 ⟨rfl, hb2⟩
    go_wp2
    go_ret
    exact ⟨rfl, belowNext hB1 hb2 (Nat.le_refl _)⟩
  · cases hc : Rw.chkB r with
    | false =>
      have hcc := Lib.hid hc
      clear hc
      unfold R.val Msg.val
      go_enter Try.func9, Try.ntmps9
      go_wp2_with fail
      refine (great_c r _).mono ?_
      rw [decide_eq_false hg]
      rintro e w1 ⟨rfl, hb1⟩
      have hB1 := belowNext (((Below.refl w.heap.size w).alloc (Nat.le_refl _) _).alloc (by simp) _ |>.alloc (by simp; omega) _) hb1 (Nat.le_refl _)
      obtain ⟨hc1, hf1⟩ := bcell hb1
      have hs1 : w.heap.size + 3 ≤ w1.heap.size := by have := hb1.size; simp at this; omega
      clear hb1
      go_wp2_with fail
      refine (answer_rows t v b r self m _ HW.out (HR.out.below hB1) hcc.out).mono ?_
      unfold zeroMsg Msg.val
      rintro e w2 ⟨rfl, hb2⟩
      have hB2 := belowNext hB1 hb2 (Nat.le_refl _)
      have hs2 : w.heap.size + 3 ≤ w2.heap.size := by have := hb2.size; omega
      go_wp2_with fail
      refine (wakes10_c _).mono ?_
      rintro e w3 ⟨rfl, hb3⟩
      go_wp2
      go_ret
      exact ⟨rfl, belowNext ((hB2.alloc hB2.size _).alloc (by simp; have := hB2.size; omega) _) hb3 (Nat.le_refl _)⟩
    | true =>
      by_cases ha : argP self m
      · cases hy : yesB (riseT t m.term) (riseV t v m.term) r m with
        | false =>
          have hyy := Lib.hid hy
          have hcc := Lib.hid hc
          have haa := Lib.hid ha
          clear hc ha hy
          unfold R.val Msg.val
          go_enter Try.func9, Try.ntmps9
          go_wp2_with fail
          refine (great_c r _).mono ?_
          rw [decide_eq_false hg]
          rintro e w1 ⟨rfl, hb1⟩
          have hB1 := belowNext (((Below.refl w.heap.size w).alloc (Nat.le_refl _) _).alloc (by simp) _ |>.alloc (by simp; omega) _) hb1 (Nat.le_refl _)
          obtain ⟨hc1, hf1⟩ := bcell hb1
          have hs1 : w.heap.size + 3 ≤ w1.heap.size := by have := hb1.size; simp at this; omega
          clear hb1
          go_wp2_with fail
          refine (answer_ok t v b r self m _ HW.out (HR.out.below hB1) hcc.out haa.out false hyy.out).mono ?_
          unfold tellMsg Msg.val
          rintro e w2 ⟨rfl, hb2⟩
          have hB2 := belowNext hB1 hb2 (Nat.le_refl _)
          have hs2 : w.heap.size + 3 ≤ w2.heap.size := by have := hb2.size; omega
          go_wp2_with fail
          refine (wakes10_c _).mono ?_
          rintro e w3 ⟨rfl, hb3⟩
          go_wp2
          go_ret
          exact ⟨rfl, belowNext ((hB2.alloc hB2.size _).alloc (by simp; have := hB2.size; omega) _) hb3 (Nat.le_refl _)⟩
        | true =>
          have hn : Hid (lstT r < m.last ∨ (m.last = lstT r ∧ lstI r ≤ m.index)) := Lib.hid (by
            have h1 : Rw.newerB r m.index m.last = true := by
              unfold yesB at hy
              rw [Bool.and_eq_true] at hy
              exact hy.2
            unfold Rw.newerB at h1
            rw [hc, Bool.true_and] at h1
            have h2 := of_decide_eq_true h1
            unfold lstT lstI
            rw [hc]
            exact h2)
          have hyy := Lib.hid hy
          have hcc := Lib.hid hc
          have haa := Lib.hid ha
          clear hc ha hy
          unfold R.val Msg.val
          go_enter Try.func9, Try.ntmps9
          go_wp2_with fail
          refine (great_c r _).mono ?_
          rw [decide_eq_false hg]
          rintro e w1 ⟨rfl, hb1⟩
          have hB1 := belowNext (((Below.refl w.heap.size w).alloc (Nat.le_refl _) _).alloc (by simp) _ |>.alloc (by simp; omega) _) hb1 (Nat.le_refl _)
          obtain ⟨hc1, hf1⟩ := bcell hb1
          have hs1 : w.heap.size + 3 ≤ w1.heap.size := by have := hb1.size; simp at this; omega
          clear hb1
          go_wp2_with fail
          refine (answer_ok t v b r self m _ HW.out (HR.out.below hB1) hcc.out haa.out true hyy.out).mono ?_
          unfold tellMsg Msg.val
          simp only [if_true]
          rintro e w2 ⟨rfl, hb2⟩
          have hB2 := belowNext hB1 hb2 (Nat.le_refl _)
          have hs2 : w.heap.size + 3 ≤ w2.heap.size := by have := hb2.size; omega
          have c2 : ∀ b o, b < w.heap.size + 3 → w2.cell? ⟨b, o, none⟩ = w1.cell? ⟨b, o, none⟩ := fun b o h => hb2.cell (p := ⟨b, o, none⟩) (by simp only; omega)
          have L := fun (q q' : Obj) (b o : Nat) (h : b < w.heap.size + 3) => ((cao (w := w2.alloc q) (o := q') (b := b) (off := o) (by simp; omega)).trans (cao (by omega))).trans (c2 b o h)
          have r0 : w1.cell? ⟨w.heap.size + 1, 0, none⟩ = some (.int .i64 r.base) := by go_simp
          have r1 : w1.cell? ⟨w.heap.size + 1, 1, none⟩ = some (.int .i64 r.term) := by go_simp
          have r2 : w1.cell? ⟨w.heap.size + 1, 2, none⟩ = some (.slice r.a r.n r.cap) := by go_simp
          have m1 : w1.cell? ⟨w.heap.size + 1 + 1, 1, none⟩ = some (.int .i64 m.frm) := by go_simp
          have m4 : w1.cell? ⟨w.heap.size + 1 + 1, 4, none⟩ = some (.int .i64 m.index) := by go_simp
          have m5 : w1.cell? ⟨w.heap.size + 1 + 1, 5, none⟩ = some (.int .i64 m.last) := by go_simp
          have dr0 : ∀ q q', ((w2.alloc q).alloc q').cell? ⟨w.heap.size + 1, 0, none⟩ = some (.int .i64 r.base) := fun q q' => (L q q' _ 0 (by omega)).trans r0
          have dr1 : ∀ q q', ((w2.alloc q).alloc q').cell? ⟨w.heap.size + 1, 1, none⟩ = some (.int .i64 r.term) := fun q q' => (L q q' _ 1 (by omega)).trans r1
          have dr2 : ∀ q q', ((w2.alloc q).alloc q').cell? ⟨w.heap.size + 1, 2, none⟩ = some (.slice r.a r.n r.cap) := fun q q' => (L q q' _ 2 (by omega)).trans r2
          have dm1 : ∀ q q', ((w2.alloc q).alloc q').cell? ⟨w.heap.size + 1 + 1, 1, none⟩ = some (.int .i64 m.frm) := fun q q' => (L q q' _ 1 (by omega)).trans m1
          have dm4 : ∀ q q', ((w2.alloc q).alloc q').cell? ⟨w.heap.size + 1 + 1, 4, none⟩ = some (.int .i64 m.index) := fun q q' => (L q q' _ 4 (by omega)).trans m4
          have dm5 : ∀ q q', ((w2.alloc q).alloc q').cell? ⟨w.heap.size + 1 + 1, 5, none⟩ = some (.int .i64 m.last) := fun q q' => (L q q' _ 5 (by omega)).trans m5
          clear L c2 hc1 hf1 r0 r1 r2 m1 m4 m5
          go_wp2_with fail
          refine (rlast_c r.base r.term r.a r.n r.cap r.e _ HW.out (HR.out.below ((hB2.alloc hB2.size _).alloc (by simp; have := hB2.size; omega) _))).mono ?_
          rintro e w4 ⟨rfl, hb4⟩
          have hB4 := belowNext ((hB2.alloc hB2.size _).alloc (by simp; have := hB2.size; omega) _) hb4 (Nat.le_refl _)
          have em1 := (hb4.cell (p := ⟨w.heap.size + 1 + 1, 1, none⟩) (by simp; omega)).trans (dm1 _ _)
          have em4 := (hb4.cell (p := ⟨w.heap.size + 1 + 1, 4, none⟩) (by simp; omega)).trans (dm4 _ _)
          have em5 := (hb4.cell (p := ⟨w.heap.size + 1 + 1, 5, none⟩) (by simp; omega)).trans (dm5 _ _)
          have ex : w4.cell? ⟨w2.heap.size + 1, 2, none⟩ = some (.int .i64 m.frm) := (hb4.cell (p := ⟨w2.heap.size + 1, 2, none⟩) (by simp)).trans (by go_simp)
          obtain ⟨LT, hLT⟩ : ∃ x, lstT r = x := ⟨_, rfl⟩
          obtain ⟨LI, hLI⟩ : ∃ x, lstI r = x := ⟨_, rfl⟩
          have hn := hn.out
          rw [show lstT ⟨r.base, r.term, r.a, r.n, r.cap, r.e⟩ = LT from hLT, show lstI ⟨r.base, r.term, r.a, r.n, r.cap, r.e⟩ = LI from hLI]
          rw [hLT, hLI] at hn
          clear hLT hLI hb4
          rcases hn with hn | ⟨hn1, hn2⟩
          · skip
            go_wp2_with fail
            refine (wakes10_c _).mono ?_
            rintro e w5 ⟨rfl, hb5⟩
            go_wp2
            go_ret
            exact ⟨rfl, belowNext hB4 hb5 (Nat.le_refl _)⟩
          · have hn3 : ¬ LT < m.last := by omega
            go_wp2_with fail
            refine (wakes10_c _).mono ?_
            rintro e w5 ⟨rfl, hb5⟩
            go_wp2
            go_ret
            exact ⟨rfl, belowNext hB4 hb5 (Nat.le_refl _)⟩
      · have hcc := Lib.hid hc
        have haa := Lib.hid ha
        clear hc ha
        unfold R.val Msg.val
        go_enter Try.func9, Try.ntmps9
        go_wp2_with fail
        refine (great_c r _).mono ?_
        rw [decide_eq_false hg]
        rintro e w1 ⟨rfl, hb1⟩
        have hB1 := belowNext (((Below.refl w.heap.size w).alloc (Nat.le_refl _) _).alloc (by simp) _ |>.alloc (by simp; omega) _) hb1 (Nat.le_refl _)
        obtain ⟨hc1, hf1⟩ := bcell hb1
        have hs1 : w.heap.size + 3 ≤ w1.heap.size := by have := hb1.size; simp at this; omega
        clear hb1
        go_wp2_with fail
        refine (answer_arg t v b r self m _ HW.out (HR.out.below hB1) hcc.out haa.out).mono ?_
        unfold zeroMsg Msg.val
        rintro e w2 ⟨rfl, hb2⟩
        have hB2 := belowNext hB1 hb2 (Nat.le_refl _)
        have hs2 : w.heap.size + 3 ≤ w2.heap.size := by have := hb2.size; omega
        go_wp2_with fail
        refine (wakes10_c _).mono ?_
        rintro e w3 ⟨rfl, hb3⟩
        go_wp2
        go_ret
        exact ⟨rfl, belowNext ((hB2.alloc hB2.size _).alloc (by simp; have := hB2.size; omega) _) hb3 (Nat.le_refl _)⟩

theorem voteNewer_walk (w : World) (v0 : Value) (a0 : XT_Hard) (v1 : Value) (a1 : XT_Rows) (a2 : Int) (v3 : Value) (a3 : XT_Message) (w0 : Is_Hard w v0 a0) (w1 : Is_Rows w v1 a1) (w2 : (Lit.int .i64 a2).wf = true) (w3 : Is_Message w v3 a3) :
    Calls Try.prog 9 #[v0, v1, .int .i64 a2, v3] w fun e w' => e = .returned (.bool true) ∧ Below w.heap.size w w' := by
  obtain ⟨rfl, _⟩ := w0
  obtain ⟨rfl, hw, hr⟩ := w1
  obtain ⟨rfl, _⟩ := w3
  exact newer_h w a0.t a0.v a0.b a1 a2 a3 hw hr
end Go.Proofs.Ythahlfabcjnkhaa
