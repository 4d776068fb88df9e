/- The walk of VoteAnswers. -/
import Derived.Test.YthahlfabcjnkhaaVoteNewer
import Derived.Test.YthahlfabcjnkhaaRAns2
import Derived.Test.YthahlfabcjnkhaaSame02
namespace Go.Proofs.Ythahlfabcjnkhaa
open Go.ChangeShapes Go.WideShapes Go.ChangeAt Go.RowKit
set_option linter.unusedVariables false
set_option linter.unusedSimpArgs false
open Rw Vt

/-- Both answer alike, at any rows and any message. -/
theorem both_answer (t v b : Int) (r : Rw.R) (self : Int) (m : Msg) (hw : RWf r) :
    ∃ (h0 h1 h2 e : Int) (k f u tm i l c : Int) (ok : Bool),
      (∀ w, RAt w r → Calls Try.prog 34 #[.agg #[.int .i64 t, .int .i64 v, .int .i64 b], r.val, .int .i64 self, m.val] w fun x w' => x = .returned (.tuple #[.agg #[.int .i64 h0, .int .i64 h1, .int .i64 h2], (bare k f u tm i l c ok).val, .int .i64 e]) ∧ Below w.heap.size w w') ∧
      (∀ w, RAt w r → Calls Try.prog 35 #[.agg #[.int .i64 t, .int .i64 v, .int .i64 b], r.val, .int .i64 self, m.val] w fun x w' => x = .returned (.tuple #[.agg #[.int .i64 h0, .int .i64 h1, .int .i64 h2], (bare k f u tm i l c ok).val, .int .i64 e]) ∧ Below w.heap.size w w') := by
  cases hc : Rw.chkB r with
  | false => exact ⟨0, 0, 0, 90, 0, 0, 0, 0, 0, 0, 0, false, fun w hr => answer_rows t v b r self m w hw hr hc, fun w hr => ranswer_rows t v b r self m w hw hr hc⟩
  | true =>
    by_cases ha : argP self m
    · exact ⟨_, _, _, 0, _, _, _, _, _, _, _, _, fun w hr => answer_ok t v b r self m w hw hr hc ha _ rfl, fun w hr => ranswer_ok t v b r self m w hw hr hc ha _ rfl⟩
    · exact ⟨0, 0, 0, 2, 0, 0, 0, 0, 0, 0, 0, false, fun w hr => answer_arg t v b r self m w hw hr hc ha, fun w hr => ranswer_arg t v b r self m w hw hr hc ha⟩

set_option maxRecDepth 100000 in
set_option maxHeartbeats 3200000 in
theorem answers_h (w : World) (t v b : Int) (r : Rw.R) (self : Int) (m : Msg) (hw : RWf r) (hr : RAt w r) :
    Calls Try.prog 7 #[.agg #[.int .i64 t, .int .i64 v, .int .i64 b], r.val, .int .i64 self, m.val] w fun e w' => e = .returned (.bool true) ∧ Below w.heap.size w w' := by
  have HR := Lib.hid hr
  clear hr
  by_cases hg : 300 < r.n
  · unfold R.val Msg.val
    go_enter Try.func7, Try.ntmps7
    go_wp2_with fail
    refine (great_c r _).mono ?_
    rw [decide_eq_true hg]
    rintro e w1 ⟨rfl, hb1⟩
    have hB1 := belowNext (((Below.refl w.heap.size w).alloc (Nat.le_refl _) _).alloc (by simp) _ |>.alloc (by simp; omega) _) hb1 (Nat.le_refl _)
    go_wp2_with fail
    refine (wakes10_c _).mono ?_
    rintro e w2 ⟨rfl, hb2⟩
    go_wp2
    go_ret
    exact ⟨rfl, belowNext hB1 hb2 (Nat.le_refl _)⟩
  · obtain ⟨h0, h1, h2, er, k, f, u, tm, i, l, c, ok, cA, cR⟩ := both_answer t v b r self m hw
    have CA := Lib.hid cA
    have CR := Lib.hid cR
    clear cA cR hw
    unfold R.val Msg.val
    go_enter Try.func7, Try.ntmps7
    go_wp2_with fail
    refine (great_c r _).mono ?_
    rw [decide_eq_false hg]
    rintro e w1 ⟨rfl, hb1⟩
    have hB1 := belowNext (((Below.refl w.heap.size w).alloc (Nat.le_refl _) _).alloc (by simp) _ |>.alloc (by simp; omega) _) hb1 (Nat.le_refl _)
    obtain ⟨hc1, hf1⟩ := bcell hb1
    have hs1 : w.heap.size + 3 ≤ w1.heap.size := by have := hb1.size; simp at this; omega
    clear hb1
    go_wp2_with fail
    refine (CA.out _ (HR.out.below hB1)).mono ?_
    unfold bare Msg.val
    rintro e w2 ⟨rfl, hb2⟩
    have hB2 := belowNext hB1 hb2 (Nat.le_refl _)
    have hs2 : w.heap.size + 3 ≤ w2.heap.size := by have := hb2.size; omega
    have c2 : ∀ b o, b < w.heap.size + 3 → w2.cell? ⟨b, o, none⟩ = w1.cell? ⟨b, o, none⟩ := fun b o h => hb2.cell (p := ⟨b, o, none⟩) (by simp only; omega)
    have L := fun (q q' : Obj) (b o : Nat) (h : b < w.heap.size + 3) => ((cao (w := w2.alloc q) (o := q') (b := b) (off := o) (by simp; omega)).trans (cao (by omega))).trans (c2 b o h)
    have d0_0 : ∀ q q', ((w2.alloc q).alloc q').cell? ⟨w.heap.size, 0, none⟩ = some (.int .i64 t) := fun q q' => (L q q' _ 0 (by omega)).trans (by go_simp)
    have d0_1 : ∀ q q', ((w2.alloc q).alloc q').cell? ⟨w.heap.size, 1, none⟩ = some (.int .i64 v) := fun q q' => (L q q' _ 1 (by omega)).trans (by go_simp)
    have d0_2 : ∀ q q', ((w2.alloc q).alloc q').cell? ⟨w.heap.size, 2, none⟩ = some (.int .i64 b) := fun q q' => (L q q' _ 2 (by omega)).trans (by go_simp)
    have d1_0 : ∀ q q', ((w2.alloc q).alloc q').cell? ⟨w.heap.size + 1, 0, none⟩ = some (.int .i64 r.base) := fun q q' => (L q q' _ 0 (by omega)).trans (by go_simp)
    have d1_1 : ∀ q q', ((w2.alloc q).alloc q').cell? ⟨w.heap.size + 1, 1, none⟩ = some (.int .i64 r.term) := fun q q' => (L q q' _ 1 (by omega)).trans (by go_simp)
    have d1_2 : ∀ q q', ((w2.alloc q).alloc q').cell? ⟨w.heap.size + 1, 2, none⟩ = some (.slice r.a r.n r.cap) := fun q q' => (L q q' _ 2 (by omega)).trans (by go_simp)
    have d2_0 : ∀ q q', ((w2.alloc q).alloc q').cell? ⟨w.heap.size + 1 + 1, 0, none⟩ = some (.int .i8 m.kind) := fun q q' => (L q q' _ 0 (by omega)).trans (by go_simp)
    have d2_1 : ∀ q q', ((w2.alloc q).alloc q').cell? ⟨w.heap.size + 1 + 1, 1, none⟩ = some (.int .i64 m.frm) := fun q q' => (L q q' _ 1 (by omega)).trans (by go_simp)
    have d2_2 : ∀ q q', ((w2.alloc q).alloc q').cell? ⟨w.heap.size + 1 + 1, 2, none⟩ = some (.int .i64 m.to) := fun q q' => (L q q' _ 2 (by omega)).trans (by go_simp)
    have d2_3 : ∀ q q', ((w2.alloc q).alloc q').cell? ⟨w.heap.size + 1 + 1, 3, none⟩ = some (.int .i64 m.term) := fun q q' => (L q q' _ 3 (by omega)).trans (by go_simp)
    have d2_4 : ∀ q q', ((w2.alloc q).alloc q').cell? ⟨w.heap.size + 1 + 1, 4, none⟩ = some (.int .i64 m.index) := fun q q' => (L q q' _ 4 (by omega)).trans (by go_simp)
    have d2_5 : ∀ q q', ((w2.alloc q).alloc q').cell? ⟨w.heap.size + 1 + 1, 5, none⟩ = some (.int .i64 m.last) := fun q q' => (L q q' _ 5 (by omega)).trans (by go_simp)
    have d2_6 : ∀ q q', ((w2.alloc q).alloc q').cell? ⟨w.heap.size + 1 + 1, 6, none⟩ = some (.int .i64 m.commit) := fun q q' => (L q q' _ 6 (by omega)).trans (by go_simp)
    have d2_7 : ∀ q q', ((w2.alloc q).alloc q').cell? ⟨w.heap.size + 1 + 1, 7, none⟩ = some (.bool m.ok) := fun q q' => (L q q' _ 7 (by omega)).trans (by go_simp)
    have d2_8 : ∀ q q', ((w2.alloc q).alloc q').cell? ⟨w.heap.size + 1 + 1, 8, none⟩ = some (m.ents) := fun q q' => (L q q' _ 8 (by omega)).trans (by go_simp)
    have d2_9 : ∀ q q', ((w2.alloc q).alloc q').cell? ⟨w.heap.size + 1 + 1, 9, none⟩ = some (.int .i64 m.si) := fun q q' => (L q q' _ 9 (by omega)).trans (by go_simp)
    have d2_10 : ∀ q q', ((w2.alloc q).alloc q').cell? ⟨w.heap.size + 1 + 1, 10, none⟩ = some (.int .i64 m.st) := fun q q' => (L q q' _ 10 (by omega)).trans (by go_simp)
    have d2_11 : ∀ q q', ((w2.alloc q).alloc q').cell? ⟨w.heap.size + 1 + 1, 11, none⟩ = some (.int .u8 m.ss) := fun q q' => (L q q' _ 11 (by omega)).trans (by go_simp)
    have d2_12 : ∀ q q', ((w2.alloc q).alloc q').cell? ⟨w.heap.size + 1 + 1, 12, none⟩ = some (m.sdata) := fun q q' => (L q q' _ 12 (by omega)).trans (by go_simp)
    have d2_13 : ∀ q q', ((w2.alloc q).alloc q').cell? ⟨w.heap.size + 1 + 1, 13, none⟩ = some (m.data) := fun q q' => (L q q' _ 13 (by omega)).trans (by go_simp)
    clear L c2 hc1 hf1
    go_wp2_with fail
    have hB2' := (hB2.alloc hB2.size (.cells #[.int .i64 h0, .int .i64 h1, .int .i64 h2] 53)).alloc (by simp; have := hB2.size; omega) (.cells #[.int .i8 k, .int .i64 f, .int .i64 u, .int .i64 tm, .int .i64 i, .int .i64 l, .int .i64 c, .bool ok, .slice none 0 0, .int .i64 0, .int .i64 0, .int .u8 0, .slice none 0 0, .slice none 0 0] 61)
    refine (CR.out _ (HR.out.below hB2')).mono ?_
    unfold bare Msg.val
    rintro e w3 ⟨rfl, hb3⟩
    have hB3 := belowNext hB2' hb3 (Nat.le_refl _)
    have hs3 : w2.heap.size + 2 ≤ w3.heap.size := by have := hb3.size; simp at this; omega
    have L3 := fun (q q' : Obj) (b o : Nat) (h : b < w2.heap.size + 2) => ((cao (w := w3.alloc q) (o := q') (b := b) (off := o) (by simp; omega)).trans (cao (w := w3) (o := q) (by omega))).trans (hb3.cell (p := ⟨b, o, none⟩) (by simp; omega))
    have e0_0 : ∀ q q', ((w3.alloc q).alloc q').cell? ⟨w2.heap.size, 0, none⟩ = some (.int .i64 h0) := fun q q' => (L3 q q' _ 0 (by omega)).trans (by go_simp)
    have e0_1 : ∀ q q', ((w3.alloc q).alloc q').cell? ⟨w2.heap.size, 1, none⟩ = some (.int .i64 h1) := fun q q' => (L3 q q' _ 1 (by omega)).trans (by go_simp)
    have e0_2 : ∀ q q', ((w3.alloc q).alloc q').cell? ⟨w2.heap.size, 2, none⟩ = some (.int .i64 h2) := fun q q' => (L3 q q' _ 2 (by omega)).trans (by go_simp)
    have e1_0 : ∀ q q', ((w3.alloc q).alloc q').cell? ⟨w2.heap.size + 1, 0, none⟩ = some (.int .i8 k) := fun q q' => (L3 q q' _ 0 (by omega)).trans (by go_simp)
    have e1_1 : ∀ q q', ((w3.alloc q).alloc q').cell? ⟨w2.heap.size + 1, 1, none⟩ = some (.int .i64 f) := fun q q' => (L3 q q' _ 1 (by omega)).trans (by go_simp)
    have e1_2 : ∀ q q', ((w3.alloc q).alloc q').cell? ⟨w2.heap.size + 1, 2, none⟩ = some (.int .i64 u) := fun q q' => (L3 q q' _ 2 (by omega)).trans (by go_simp)
    have e1_3 : ∀ q q', ((w3.alloc q).alloc q').cell? ⟨w2.heap.size + 1, 3, none⟩ = some (.int .i64 tm) := fun q q' => (L3 q q' _ 3 (by omega)).trans (by go_simp)
    have e1_4 : ∀ q q', ((w3.alloc q).alloc q').cell? ⟨w2.heap.size + 1, 4, none⟩ = some (.int .i64 i) := fun q q' => (L3 q q' _ 4 (by omega)).trans (by go_simp)
    have e1_5 : ∀ q q', ((w3.alloc q).alloc q').cell? ⟨w2.heap.size + 1, 5, none⟩ = some (.int .i64 l) := fun q q' => (L3 q q' _ 5 (by omega)).trans (by go_simp)
    have e1_6 : ∀ q q', ((w3.alloc q).alloc q').cell? ⟨w2.heap.size + 1, 6, none⟩ = some (.int .i64 c) := fun q q' => (L3 q q' _ 6 (by omega)).trans (by go_simp)
    have e1_7 : ∀ q q', ((w3.alloc q).alloc q').cell? ⟨w2.heap.size + 1, 7, none⟩ = some (.bool ok) := fun q q' => (L3 q q' _ 7 (by omega)).trans (by go_simp)
    have e1_8 : ∀ q q', ((w3.alloc q).alloc q').cell? ⟨w2.heap.size + 1, 8, none⟩ = some (.slice none 0 0) := fun q q' => (L3 q q' _ 8 (by omega)).trans (by go_simp)
    have e1_9 : ∀ q q', ((w3.alloc q).alloc q').cell? ⟨w2.heap.size + 1, 9, none⟩ = some (.int .i64 0) := fun q q' => (L3 q q' _ 9 (by omega)).trans (by go_simp)
    have e1_10 : ∀ q q', ((w3.alloc q).alloc q').cell? ⟨w2.heap.size + 1, 10, none⟩ = some (.int .i64 0) := fun q q' => (L3 q q' _ 10 (by omega)).trans (by go_simp)
    have e1_11 : ∀ q q', ((w3.alloc q).alloc q').cell? ⟨w2.heap.size + 1, 11, none⟩ = some (.int .u8 0) := fun q q' => (L3 q q' _ 11 (by omega)).trans (by go_simp)
    have e1_12 : ∀ q q', ((w3.alloc q).alloc q').cell? ⟨w2.heap.size + 1, 12, none⟩ = some (.slice none 0 0) := fun q q' => (L3 q q' _ 12 (by omega)).trans (by go_simp)
    have e1_13 : ∀ q q', ((w3.alloc q).alloc q').cell? ⟨w2.heap.size + 1, 13, none⟩ = some (.slice none 0 0) := fun q q' => (L3 q q' _ 13 (by omega)).trans (by go_simp)
    clear L3 hb3 d0_0 d0_1 d0_2 d1_0 d1_1 d1_2 d2_0 d2_1 d2_2 d2_3 d2_4 d2_5 d2_6 d2_7 d2_8 d2_9 d2_10 d2_11 d2_12 d2_13
    go_wp2_with fail
    refine (same_bare k f u tm i l c ok _).mono ?_
    rintro e w4 ⟨rfl, hb4⟩
    have hB4 := belowNext ((hB3.alloc hB3.size _).alloc (by simp; have := hB3.size; omega) _) hb4 (Nat.le_refl _)
    go_wp2_with fail
    refine (wakes10_c _).mono ?_
    rintro e w5 ⟨rfl, hb5⟩
    go_wp2
    go_ret
    exact ⟨rfl, belowNext hB4 hb5 (Nat.le_refl _)⟩

theorem voteAnswers_walk (w : World) (v0 : Value) (a0 : XT_Hard) (v1 : Value) (a1 : XT_Rows) (a2 : Int) (v3 : Value) (a3 : XT_Message) (w0 : Is_Hard w v0 a0) (w1 : Is_Rows w v1 a1) (w2 : (Lit.int .i64 a2).wf = true) (w3 : Is_Message w v3 a3) :
    Calls Try.prog 7 #[v0, v1, .int .i64 a2, v3] w fun e w' => e = .returned (.bool true) ∧ Below w.heap.size w w' := by
  obtain ⟨rfl, _⟩ := w0
  obtain ⟨rfl, hw, hr⟩ := w1
  obtain ⟨rfl, _⟩ := w3
  exact answers_h w a0.t a0.v a0.b a1 a2 a3 hw hr
end Go.Proofs.Ythahlfabcjnkhaa
