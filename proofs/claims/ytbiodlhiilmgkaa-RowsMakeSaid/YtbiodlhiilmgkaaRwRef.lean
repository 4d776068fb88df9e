/- The contracts of the reference weirref09 (entry, Check, Last): each as one walk over rows that lie in memory. -/
import Derived.Test.YtbiodlhiilmgkaaRw2
namespace Go.Proofs.Ytbiodlhiilmgkaa
open Go.ChangeShapes Go.WideShapes Go.ChangeAt Go.RowKit
set_option linter.unusedVariables false
set_option linter.unusedSimpArgs false
open Rw

set_option maxHeartbeats 2000000 in
theorem rentry_core (x : Ent) (t : Int) (w : World) (k1 k2 s0 d0 : Bool) (hk1 : (x.kind == 1) = k1) (hk2 : (x.kind == 2) = k2) (hs0 : (x.set != 0) = s0) (hd0 : ((x.dl : Int) == 0) = d0) (hdl : x.dl ≤ 9223372036854775807) :
    Calls Try.prog 35 #[.agg #[.int .i64 x.term, .int .i8 x.kind, .int .i64 x.stamp, .int .u8 x.set, .slice x.da x.dl x.dc], .int .i64 t] w fun e w' => e = .returned (.bool (Rw.mayB x t)) ∧ Below w.heap.size w w' := by
  have hf : Hid (∀ v : Bool, Rw.mayB x t = v → Ending.returned (.bool v) = .returned (.bool (Rw.mayB x t))) := fun v h => by rw [h]
  have H1 := Lib.hid (show x.kind = 1 ↔ k1 = true by subst hk1; exact beq_iff_eq.symm)
  have H2 := Lib.hid (show x.kind = 2 ↔ k2 = true by subst hk2; exact beq_iff_eq.symm)
  have H3 := Lib.hid (show x.set = 0 ↔ s0 = false by subst hs0; exact bne_eq_false_iff_eq.symm)
  have H4 := Lib.hid (show (x.dl : Int) = 0 ↔ d0 = true by subst hd0; exact beq_iff_eq.symm)
  cases k1 <;> cases k2 <;> cases s0 <;> cases d0
  all_goals
    go_enter Try.func35, Try.ntmps35
    go_wp2
    all_goals
      go_ret
      exact ⟨hf.out _ (by have q1 := H1.out; have q2 := H2.out; have q3 := H3.out; have q4 := H4.out; unfold Rw.mayB; simp at q1 q2 q3 q4; first | (simp only [decide_eq_true_eq, decide_eq_false_iff_not]; omega) | (rw [decide_eq_decide]; constructor <;> (intro hh; omega))), (Below.refl _ _).alloc (Nat.le_refl _) _⟩

theorem rentry_c (x : Ent) (t : Int) (w : World) (hw : EWf x) :
    Calls Try.prog 35 #[.agg #[.int .i64 x.term, .int .i8 x.kind, .int .i64 x.stamp, .int .u8 x.set, .slice x.da x.dl x.dc], .int .i64 t] w fun e w' => e = .returned (.bool (Rw.mayB x t)) ∧ Below w.heap.size w w' :=
  rentry_core x t w _ _ _ _ rfl rfl rfl rfl hw.2.2.2.2

set_option maxHeartbeats 2000000 in
theorem rcheck_bad (r : Rw.R) (w : World) (hw : RWf r) (h : ¬ Rw.headP r) :
    Calls Try.prog 13 #[r.val] w fun e w' => e = .returned (.int .i64 90) ∧ Below w.heap.size w w' := by
  obtain ⟨h1, h2, h3, h4, h5, _⟩ := hw
  have HH := Lib.hid h
  clear h
  unfold R.val
  obtain ⟨z1, hz1⟩ : ∃ z, (r.base == 0) = z := ⟨_, rfl⟩
  obtain ⟨z2, hz2⟩ : ∃ z, (r.term == 0) = z := ⟨_, rfl⟩
  have Z1 := Lib.hid (show r.base = 0 ↔ z1 = true by subst hz1; exact beq_iff_eq.symm)
  have Z2 := Lib.hid (show r.term = 0 ↔ z2 = true by subst hz2; exact beq_iff_eq.symm)
  have h5' : (r.n : Int) ≤ 9223372036854775807 := by omega
  cases z1 <;> cases z2
  all_goals
    go_enter Try.func13, Try.ntmps13
    go_wp2
    all_goals first
      | (go_ret; exact ⟨rfl, (Below.refl _ _).alloc (Nat.le_refl _) _⟩)
      | exact (HH.out (by have q1 := Z1.out; have q2 := Z2.out; simp at q1 q2; unfold Rw.headP; omega)).elim

end Go.Proofs.Ytbiodlhiilmgkaa
