/- The contracts of package rows (Last, Newer) and of its reference weirref09 (entry, Check, Last, Newer): each as one walk over rows that lie in memory. -/
import Derived.Test.YtbiodlhiilmgkaaRw2
namespace Go.Proofs.Ytbiodlhiilmgkaa
open Go.ChangeShapes Go.WideShapes Go.ChangeAt Go.RowKit
set_option linter.unusedVariables false
set_option linter.unusedSimpArgs false
open Rw

theorem head_of_chk {r : Rw.R} (h : Rw.chkB r = true) : Rw.headP r := by unfold Rw.chkB at h; exact (of_decide_eq_true h).1

theorem newer_c (r : Rw.R) (i t : Int) (w : World) (hw : RWf r) (hr : RAt w r) :
    Calls Try.prog 26 #[r.val, .int .i64 i, .int .i64 t] w fun e' w' => e' = .returned (.bool (Rw.newerB r i t)) ∧ Below w.heap.size w w' := by
  obtain ⟨base, term, a, n, cap, e⟩ := r
  cases hc : Rw.chkB ⟨base, term, a, n, cap, e⟩ with
  | false =>
    have hz := chkE_no hc
    have hno := Lib.hid (show Rw.newerB ⟨base, term, a, n, cap, e⟩ i t = false by unfold Rw.newerB; rw [hc]; rfl)
    clear hc
    unfold R.val
    simp only
    go_enter Try.func26, Try.ntmps26
    go_wp2_with fail
    refine (check_c ⟨base, term, a, n, cap, e⟩ _ hw (hr.below ((Below.refl _ w).alloc (Nat.le_refl _) _))).mono ?_
    rintro e' w1 ⟨rfl, hb1⟩
    go_wp2
    go_ret
    exact ⟨ret_bool hno.out.symm, belowNext ((Below.refl _ w).alloc (Nat.le_refl _) _) hb1 (Nat.le_refl _)⟩
  | true =>
    have hz := chkE_ok hc
    obtain ⟨g1, g2, g3, g4, _⟩ := head_of_chk hc
    simp only at g1 g2 g3 g4
    have hnew : Hid (∀ v, decide (Rw.lastT ⟨base, term, a, n, cap, e⟩ < t ∨ (t = Rw.lastT ⟨base, term, a, n, cap, e⟩ ∧ Rw.lastI ⟨base, term, a, n, cap, e⟩ ≤ i)) = v → Rw.newerB ⟨base, term, a, n, cap, e⟩ i t = v) := fun v h => by unfold Rw.newerB; rw [hc]; simpa using h
    clear hc
    have hbw := Lib.hid hr
    clear hr
    obtain ⟨LT, hLT⟩ : ∃ x, Rw.lastT ⟨base, term, a, n, cap, e⟩ = x := ⟨_, rfl⟩
    obtain ⟨LI, hLI⟩ : ∃ x, Rw.lastI ⟨base, term, a, n, cap, e⟩ = x := ⟨_, rfl⟩
    rw [hLT, hLI] at hnew
    have hL := Lib.hid hLT
    have hI := Lib.hid hLI
    clear hLT hLI
    obtain ⟨q, hq⟩ : ∃ q, (t == LT) = q := ⟨_, rfl⟩
    have hQ := Lib.hid (show t = LT ↔ q = true by subst hq; exact beq_iff_eq.symm)
    obtain ⟨x0, x1, x2⟩ := box_cells w (.int .i64 base) (.int .i64 term) (.slice a n cap) 24
    unfold R.val
    simp only
    cases q
    all_goals
      go_enter Try.func26, Try.ntmps26
      go_wp2_with fail
      refine (check_c ⟨base, term, a, n, cap, e⟩ _ hw (hbw.out.below ((Below.refl _ w).alloc (Nat.le_refl _) _))).mono ?_
      rintro e' w1 ⟨rfl, hb1⟩
      have y0 := (hb1.cell (p := ⟨w.heap.size, 0, none⟩) (by simp)).trans x0
      have y1 := (hb1.cell (p := ⟨w.heap.size, 1, none⟩) (by simp)).trans x1
      have y2 := (hb1.cell (p := ⟨w.heap.size, 2, none⟩) (by simp)).trans x2
      have hb2 := belowNext ((Below.refl _ w).alloc (Nat.le_refl _) _) hb1 (Nat.le_refl _)
      go_wp2_with fail
      refine (last_c base term a n cap e w.heap.size _ g1 (by omega) g2 (hbw.out.below hb2) y0 y1 y2).mono ?_
      rw [hL.out, hI.out]
      rintro e' w2 ⟨rfl, hb3⟩
      go_wp2
      all_goals
        go_ret
        exact ⟨ret_bool (hnew.out _ (by have q1 := hQ.out; simp at q1; first | (simp only [decide_eq_true_eq, decide_eq_false_iff_not]; omega) | (rw [Bool.eq_iff_iff]; simp only [Bool.or_eq_true, Bool.and_eq_true, decide_eq_true_eq]; constructor <;> (intro hh; omega)))).symm, belowNext hb2 hb3 (Nat.le_refl _)⟩
end Go.Proofs.Ytbiodlhiilmgkaa
