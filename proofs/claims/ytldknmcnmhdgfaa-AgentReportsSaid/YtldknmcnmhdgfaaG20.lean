/- Leases: a lease as it is spent, alive or not: one state for both. -/
import Derived.Test.YtldknmcnmhdgfaaG19
namespace Go.Proofs.Ytldknmcnmhdgfaa
open Go.ChangeShapes Go.WideShapes Go.ChangeAt Go.RowKit Go.Deep
set_option linter.unusedVariables false
set_option linter.unusedSimpArgs false
open BigFrame Bs Ag

namespace Ag
/-- A lease of 5's, of which so much is left; or none any more. -/
def LeR (m : Nat → Prop) (a : Nat) (ti sz se ov no lf : Int) (w : World) : Prop :=
  (∃ q g c x, AgL m w a (as_ 2 ti 1 5 sz se no false) q g c x ∧ x.til = ov ∧ x.left = lf ∧ x.ten = 5 ∧ no < ov) ∨ (∃ p c, AgE m w a (as_ 2 ti 1 5 sz se no false) p c ∧ ov ≤ no ∧ lf = 0)
def TokR (m : Nat → Prop) (a : Nat) (ti sz se ov no lf : Int) (w : World) (e : Ending) (w' : World) : Prop :=
  ∃ l2, e = .returned (.int .i64 l2) ∧ LeR m a ti sz se ov no l2 w' ∧ Kp m w w' ∧ 0 ≤ l2 ∧ l2 ≤ lf ∧ (no < ov → l2 = lf) ∧ (ov ≤ no → l2 = 0)
def SpR (m : Nat → Prop) (a : Nat) (ti sz se ov no lf n : Int) (w : World) (e : Ending) (w' : World) : Prop :=
  ∃ k l2, e = .returned (.int .i64 k) ∧ LeR m a ti sz se ov no l2 w' ∧ Kp m w w' ∧ ((k = 0 ∧ 0 ≤ n ∧ n ≤ lf ∧ l2 = lf - n) ∨ (k ≠ 0 ∧ l2 = lf))
theorem spL_ne {n l : Int} (h : n < 0 ∨ l < n) : spL n l ≠ 0 := by
  unfold spL
  by_cases h1 : n < 0
  · rw [if_pos h1]; decide
  · rw [if_neg h1, if_pos (by omega)]; decide
end Ag

theorem tokR {m : Nat → Prop} {a : Nat} {ti sz se ov no lf : Int} {w : World} (h : LeR m a ti sz se ov no lf w) (n : Int) (hn : no ≤ n) (hl : 0 ≤ lf ∧ lf ≤ 1000000) :
    Calls Try.prog 10 #[.pointer (some ⟨a, 0, none⟩), .int .i64 5, .int .i64 n] w (TokR m a ti sz se ov n lf w) := by
  rcases h with ⟨q, g, c, x, h, h1, h2, h3, h4⟩ | ⟨p, c, h, h1, h2⟩
  · by_cases hy : x.til ≤ n
    · exact (tokD h 5 n hn hy).mono fun e w' ⟨p, c, he, h5, h6⟩ => ⟨0, he, .inr ⟨p, c, h5, by omega, rfl⟩, h6, by omega, by omega, by omega, fun _ => rfl⟩
    · have := tokL h n hn hy (by omega)
      rw [h3] at this
      exact this.mono fun e w' ⟨he, h5, h6⟩ => ⟨lf, by rw [he, h2], .inl ⟨q, g, c, x, h5, h1, h2, h3, by omega⟩, h6, by omega, by omega, fun _ => rfl, by omega⟩
  · exact (tokA h 5 n hn).mono fun e w' ⟨he, h5, h6⟩ => ⟨0, he, .inr ⟨p, c, h5, by omega, rfl⟩, h6, by omega, by omega, by omega, fun _ => rfl⟩

theorem spR {m : Nat → Prop} {a : Nat} {ti sz se ov no lf : Int} {w : World} (h : LeR m a ti sz se ov no lf w) (n : Int) (hl : 0 ≤ lf ∧ lf ≤ 1000000) :
    Calls Try.prog 14 #[.pointer (some ⟨a, 0, none⟩), .int .i64 5, .int .i64 n, .int .i64 no] w (SpR m a ti sz se ov no lf n w) := by
  rcases h with ⟨q, g, c, x, h, h1, h2, h3, h4⟩ | ⟨p, c, h, h1, h2⟩
  · have hm : ¬ x.til ≤ max (as_ 2 ti 1 5 sz se no false).no no := by show ¬ x.til ≤ max no no; omega
    by_cases hb : 0 ≤ n ∧ n ≤ x.left
    · have := spend_ok h n no hm (by omega) hb.1 hb.2
      rw [as_no (Int.le_refl _), h3] at this
      exact this.mono fun e w' ⟨he, h5, h6⟩ => ⟨0, lf - n, he, .inl ⟨q, g, c, _, h5, h1, by show x.left - n = lf - n; rw [h2], by first | exact h3 | rfl, by omega⟩, h6, .inl ⟨rfl, hb.1, by omega, rfl⟩⟩
    · have := spend_no h n no hm (by omega) (by omega)
      rw [as_no (Int.le_refl _), h3] at this
      exact this.mono fun e w' ⟨he, h5, h6⟩ => ⟨_, lf, he, .inl ⟨q, g, c, _, h5, h1, h2, h3, by omega⟩, h6, .inr ⟨spL_ne (by omega), rfl⟩⟩
  · have := spend_E 5 n no (h.at no)
    rw [as_no (Int.le_refl _)] at this
    refine this.mono fun e w' ⟨p2, c2, he, h5, h6⟩ => ⟨_, 0, he, .inr ⟨p2, c2, h5, h1, rfl⟩, h6, ?_⟩
    unfold spE
    by_cases hb : n = 0
    · subst hb
      exact .inl ⟨rfl, by omega, by omega, by omega⟩
    · refine .inr ⟨?_, by omega⟩
      by_cases hn : n < 0
      · rw [if_pos hn]; decide
      · rw [if_neg hn, if_pos (by omega)]; decide
end Go.Proofs.Ytldknmcnmhdgfaa
