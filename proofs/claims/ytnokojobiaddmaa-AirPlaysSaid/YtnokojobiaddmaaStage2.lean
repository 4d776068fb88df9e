/- A region that draws its order, walked one way: what looks at no world may be taken first whatever has been stored. -/
import Derived.Test.YtnokojobiaddmaaStage
namespace Go.Proofs.Ytnokojobiaddmaa
open Go
set_option linter.unusedVariables false

namespace Stg
section
variable {P : Program} {ops : Array Oper} {Q : Exit → Act → World → Prop} {md : Region.Mode} {marks : List Nat} {S : Nat → World → Prop}
theorem wpAnyL_free' {i : Nat} {oi : Oper} {v : Value} (hi : ops[i]? = some oi) (hsel : ∀ (j : Nat) (o : Oper) cs b, ops[j]? = some o → o.op ≠ .select cs b)
    (hQ : ∀ c a w, Q (.panic c) (a.put oi.dst v) w → Q (.panic c) a w) (hmi : ∀ m ∈ marks, m ≠ i) :
    ∀ (fuel : Nat) (l : Array Bool) (a : Act) (w : World),
      (∀ j oj, ops[j]? = some oj → j ≠ i → l.getD j true = false → (∀ e ∈ oj.after, Region.binds md e = true → e.on ≠ i) → oi.apart ops oj = true) →
      i ∈ Region.ready md ops l → YieldsIf P ops (fun _ => True) oi v a → S (stage marks l) w →
      wpAnyL P md ops Q marks S fuel (l.setIfInBounds i true) (a.put oi.dst v) w → wpAnyL P md ops Q marks S (fuel + 1) l a w := by
  intro fuel
  induction fuel with
  | zero =>
    intro l a w _ hr hy hS H
    refine ⟨fun h => (by rw [h] at hr; cases hr), fun j hj => ?_⟩
    by_cases hji : j = i
    · subst hji; exact hy.wpOp hi trivial ⟨by rw [stage_set hmi]; exact hS, H⟩
    · have := ready_mono hj hji
      rw [H.1] at this
      cases this
  | succ fuel ih =>
    intro l a w hfree hr hy hS H
    refine ⟨fun h => (by rw [h] at hr; cases hr), fun j hj => ?_⟩
    by_cases hji : j = i
    · subst hji; exact hy.wpOp hi trivial ⟨by rw [stage_set hmi]; exact hS, H⟩
    · have h1 := H.2 j (ready_mono hj hji)
      obtain ⟨hjun, oj, hoj, hall⟩ := mem_ready.1 hj
      have hiun := (mem_ready.1 hr).1
      have hnot : ∀ e ∈ oj.after, Region.binds md e = true → e.on ≠ i := fun e he hb heq => by
        have h1 := hall e he hb
        rw [heq] at h1
        exact not_listed hiun h1
      have h2 := wpOp_putIf hoj (hfree j oj hoj hji hjun hnot) (fun cs b => hsel i oi cs b hi) (fun cs b => hsel j oj cs b hoj) hQ hy h1
      have hfree' : ∀ k ok, ops[k]? = some ok → k ≠ i → (l.setIfInBounds j true).getD k true = false →
          (∀ e ∈ ok.after, Region.binds md e = true → e.on ≠ i) → oi.apart ops ok = true := fun k ok hk hki hun hno => by
        refine hfree k ok hk hki ?_ hno
        by_cases hjk : j = k
        · subst hjk; exact hjun
        · rw [getD_set_ne true hjk] at hun; exact hun
      refine wpOp_mono (fun a' w' h3 => ?_) h2
      obtain ⟨h3a, h3b, h3c⟩ := h3
      rw [Array.setIfInBounds_comm _ _ (Ne.symm hji), stage_set hmi] at h3b
      refine ⟨h3b, ih (l.setIfInBounds j true) a' w' hfree' (ready_mono hr (Ne.symm hji)) h3a h3b ?_⟩
      rw [Array.setIfInBounds_comm _ _ hji]
      exact h3c

/-- Number i, which looks at no world, is taken first. -/
theorem wpAnyL_free {i : Nat} {oi : Oper} {v : Value} {fuel : Nat} {l : Array Bool} {a : Act} {w : World} (n : Nat) (hi : ops[i]? = some oi)
    (hs : Region.noSelect ops = true) (hf : Region.free md ops l i = true) (hr : (Region.ready md ops l).contains i = true) (hm : (marks.all fun m => m != i) = true) (hn : stage marks l = n)
    (hQ : ∀ c a w, Q (.panic c) (a.put oi.dst v) w → Q (.panic c) a w) (hy : YieldsIf P ops (fun _ => True) oi v a) (hS : S n w)
    (h : wpAnyL P md ops Q marks S fuel (l.setIfInBounds i true) (a.put oi.dst v) w) : wpAnyL P md ops Q marks S (fuel + 1) l a w :=
  wpAnyL_free' hi (Region.noSelect_spec hs) hQ (fun m hm' => by have := List.all_eq_true.1 hm m hm'; simpa using this) fuel l a w (Region.free_spec hi hf) (by simpa using hr) hy (by rw [hn]; exact hS) h

end
end Stg
end Go.Proofs.Ytnokojobiaddmaa
