/- The contract of vote's Answer, whole. -/
import Derived.Test.YthahlfabcjnkhaaVote2
import Derived.RegionTactic
import Derived.ChangeAlike
import Derived.BigRegion
namespace Go.Proofs.Ythahlfabcjnkhaa
open Go.ChangeShapes Go.WideShapes Go.ChangeAt Go.RowKit
set_option linter.unusedVariables false
set_option linter.unusedSimpArgs false
open Rw Vt

set_option maxRecDepth 100000 in
set_option maxHeartbeats 2000000 in
theorem answer_arg (t v bt : Int) (r : Rw.R) (self : Int) (m : Msg) (w : World) (hw : RWf r) (hr : RAt w r) (hc : Rw.chkB r = true) (ha : ¬ argP self m) :
    Calls Try.prog 34 #[.agg #[.int .i64 t, .int .i64 v, .int .i64 bt], r.val, .int .i64 self, m.val] w fun e w' => e = .returned (.tuple #[.agg #[.int .i64 0, .int .i64 0, .int .i64 0], zeroMsg.val, .int .i64 2]) ∧ Below w.heap.size w w' := by
  have hz := chkE_ok hc
  clear hc
  have HA := Lib.hid ha
  clear ha
  obtain ⟨base, term, a, n, cap, e⟩ := r
  obtain ⟨k1, hk1⟩ : ∃ x, (m.kind != 1) = x := ⟨_, rfl⟩
  obtain ⟨s1, hs1⟩ : ∃ x, (m.frm == self) = x := ⟨_, rfl⟩
  have K1 := Lib.hid (show m.kind = 1 ↔ k1 = false by subst hk1; exact bne_eq_false_iff_eq.symm)
  have S1 := Lib.hid (show m.frm = self ↔ s1 = true by subst hs1; exact beq_iff_eq.symm)
  unfold R.val Msg.val
  simp only
  cases k1 <;> cases s1
  all_goals
    go_enter Try.func34, Try.ntmps34
    go_wp2_with fail
    refine (check_c ⟨base, term, a, n, cap, e⟩ _ hw (hr.below ?_)).mono ?_
    · repeat (first | exact Below.refl _ _ | refine Below.alloc ?_ (by simp; try omega) _)
    rintro e' w1 ⟨rfl, hb1⟩
    have hb0 : Below w.heap.size w w1 := belowNext (by repeat (first | exact Below.refl _ _ | refine Below.alloc ?_ (by simp; try omega) _)) hb1 (Nat.le_refl _)
    obtain ⟨hc1, hf1⟩ := bcell hb1
    have hsz := hb1.size
    simp at hsz
    go_wp2_with (first | (go_at_call 89; refine (node_c _ _).mono ?_; rintro e w' ⟨rfl, rfl⟩) | (go_at_call 54; fail))
    all_goals first
      | exact (HA.out ⟨by have := K1.out; simpa using this, by assumption, by assumption, by have := S1.out; simpa using this, by omega⟩).elim
      | (refine bodyPost_ret (v := .tuple #[.agg #[.int .i64 0, .int .i64 0, .int .i64 0], zeroMsg.val, .int .i64 2]) (by simp [results, Try.results34, go_sem, zeroMsg, Msg.val, hc1, hf1, hsz]) rfl ⟨rfl, ?_⟩
         repeat (first | (with_reducible exact hb0) | (with_reducible refine Below.setCell ?_ (by simp; try omega) _)))
end Go.Proofs.Ythahlfabcjnkhaa
