/- A region that draws its order, walked one way: what is known of the world may hang on which of some operations have been carried out ('marks': the stores). -/
import Derived.OrdersHeld
import Derived.Deep.RegionHeld
import Derived.Deep.RegionHeld3
namespace Go.Proofs.Ytnokojobiaddmaa
open Go
set_option linter.unusedVariables false

namespace Stg
section
variable {P : Program} {ops : Array Oper} {Q : Exit → Act → World → Prop} {md : Region.Mode} {marks : List Nat} {S : Nat → World → Prop}

/-- How many of the marked operations have come up. -/
def stage (marks : List Nat) (l : Array Bool) : Nat := (marks.filter fun m => l.getD m false).length

theorem stage_set {marks : List Nat} {l : Array Bool} {i : Nat} (h : ∀ m ∈ marks, m ≠ i) : stage marks (l.setIfInBounds i true) = stage marks l := by
  unfold stage
  congr 1
  apply List.filter_congr
  intro m hm
  exact getD_set_ne false (Ne.symm (h m hm))

/-- Whatever order is picked from here on; behind every operation S holds of the stage that is reached. -/
def wpAnyL (P : Program) (md : Region.Mode) (ops : Array Oper) (Q : Exit → Act → World → Prop) (marks : List Nat) (S : Nat → World → Prop) : Nat → Array Bool → Act → World → Prop
  | 0, l, a, w => Region.ready md ops l = [] ∧ Q .normal a w
  | fuel + 1, l, a, w =>
    (Region.ready md ops l = [] → Q .normal a w) ∧
    ∀ i ∈ Region.ready md ops l, wpOp P ops Q i (fun a' w' => S (stage marks (l.setIfInBounds i true)) w' ∧ wpAnyL P md ops Q marks S fuel (l.setIfInBounds i true) a' w') a w

theorem wpAny_of_L : ∀ (fuel : Nat) (l : Array Bool) (a : Act) (w : World), wpAnyL P md ops Q marks S fuel l a w → wpAny P md ops Q fuel l a w
  | 0, _, _, _, h => h
  | fuel + 1, _, _, _, h => ⟨h.1, fun i hi => wpOp_mono (fun a' w' h' => wpAny_of_L fuel _ a' w' h'.2) (h.2 i hi)⟩

theorem not_listed {l : Array Bool} {i : Nat} (h0 : l.getD i true = false) (h1 : l.getD i false = true) : False := by
  rcases Nat.lt_or_ge i l.size with h' | h'
  · simp [h'] at h0 h1; rw [h0] at h1; cases h1
  · simp [Array.getElem?_eq_none h'] at h1

theorem wpAnyL_first {i : Nat} {oi : Oper} {v : Value} (D : List Nat) (n : Nat) (hi : ops[i]? = some oi) (hsel : ∀ (j : Nat) (o : Oper) cs b, ops[j]? = some o → o.op ≠ .select cs b)
    (hQ : ∀ c a w, Q (.panic c) (a.put oi.dst v) w → Q (.panic c) a w)
    (hD : ∀ j ∈ D, ∃ o, ops[j]? = some o ∧ ∃ e ∈ o.after, Region.binds md e = true ∧ (e.on = i ∨ e.on ∈ D)) (hmi : ∀ m ∈ marks, m ≠ i) :
    ∀ (fuel : Nat) (l : Array Bool) (a : Act) (w : World),
      (∀ j oj, ops[j]? = some oj → j ≠ i → l.getD j true = false → (∀ e ∈ oj.after, Region.binds md e = true → e.on ≠ i) → oi.apart ops oj = true) →
      i ∈ Region.ready md ops l → (∀ j ∈ D, l.getD j true = false) → (∀ m ∈ marks, l.getD m false = true ∨ m ∈ D) → stage marks l = n →
      YieldsIf P ops (S n) oi v a → S n w →
      wpAnyL P md ops Q marks S fuel (l.setIfInBounds i true) (a.put oi.dst v) w → wpAnyL P md ops Q marks S (fuel + 1) l a w := by
  intro fuel
  induction fuel with
  | zero =>
    intro l a w _ hr _ _ hn hy hS H
    refine ⟨fun h => (by rw [h] at hr; cases hr), fun j hj => ?_⟩
    by_cases hji : j = i
    · subst hji; exact hy.wpOp hi hS ⟨by rw [stage_set hmi, hn]; exact hS, H⟩
    · have := ready_mono hj hji
      rw [H.1] at this
      cases this
  | succ fuel ih =>
    intro l a w hfree hr hDl hml hn hy hS H
    refine ⟨fun h => (by rw [h] at hr; cases hr), fun j hj => ?_⟩
    by_cases hji : j = i
    · subst hji; exact hy.wpOp hi hS ⟨by rw [stage_set hmi, hn]; exact hS, H⟩
    · have h1 := H.2 j (ready_mono hj hji)
      obtain ⟨hjun, oj, hoj, hall⟩ := mem_ready.1 hj
      have hiun := (mem_ready.1 hr).1
      have hnot : ∀ e ∈ oj.after, Region.binds md e = true → e.on ≠ i := fun e he hb heq => by
        have h1 := hall e he hb
        rw [heq] at h1
        exact not_listed hiun h1
      have hjD : j ∉ D := fun hjD => by
        obtain ⟨o, ho, e, he, hb, h3⟩ := hD j hjD
        rw [hoj] at ho
        cases ho
        rcases h3 with h3 | h3
        · exact hnot e he hb h3
        · exact not_listed (hDl _ h3) (hall e he hb)
      have hjm : ∀ m ∈ marks, m ≠ j := fun m hm hmj => by
        subst hmj
        rcases hml m hm with h3 | h3
        · exact not_listed hjun h3
        · exact hjD h3
      have h2 := wpOp_putIf hoj (hfree j oj hoj hji hjun hnot) (fun cs b => hsel i oi cs b hi) (fun cs b => hsel j oj cs b hoj) hQ hy h1
      have hfree' : ∀ k ok, ops[k]? = some ok → k ≠ i → (l.setIfInBounds j true).getD k true = false →
          (∀ e ∈ ok.after, Region.binds md e = true → e.on ≠ i) → oi.apart ops ok = true := fun k ok hk hki hun hno => by
        refine hfree k ok hk hki ?_ hno
        by_cases hjk : j = k
        · subst hjk; exact hjun
        · rw [getD_set_ne true hjk] at hun; exact hun
      have hn' : stage marks (l.setIfInBounds j true) = n := by rw [stage_set hjm, hn]
      refine wpOp_mono (fun a' w' h3 => ?_) h2
      obtain ⟨h3a, h3b, h3c⟩ := h3
      rw [stage_set hjm, stage_set hmi, hn] at h3b
      refine ⟨by rw [hn']; exact h3b, ih (l.setIfInBounds j true) a' w' hfree' (ready_mono hr (Ne.symm hji)) (fun k hk => ?_) (fun m hm => ?_) hn' h3a h3b ?_⟩
      · rw [getD_set_ne true (fun e => hjD (by rw [e]; exact hk))]; exact hDl k hk
      · exact (hml m hm).imp (fun q => getD_set_true q) id
      · rw [Array.setIfInBounds_comm _ _ hji]
        exact h3c

/-- Do the operations of D wait for number i, one by another, and has none of them come up; and has each marked one come up, or does it wait? -/
def waits (md : Region.Mode) (ops : Array Oper) (marks D : List Nat) (l : Array Bool) (i : Nat) : Bool :=
  (D.all fun j => !l.getD j true && ((ops[j]?).map fun o => o.after.any fun e => Region.binds md e && (e.on == i || D.contains e.on)).getD false) &&
  (marks.all fun m => m != i && (l.getD m false || D.contains m))

theorem waits_spec {D : List Nat} {l : Array Bool} {i : Nat} (h : waits md ops marks D l i = true) :
    (∀ j ∈ D, ∃ o, ops[j]? = some o ∧ ∃ e ∈ o.after, Region.binds md e = true ∧ (e.on = i ∨ e.on ∈ D)) ∧ (∀ m ∈ marks, m ≠ i) ∧
    (∀ j ∈ D, l.getD j true = false) ∧ (∀ m ∈ marks, l.getD m false = true ∨ m ∈ D) := by
  unfold waits at h
  rw [Bool.and_eq_true, List.all_eq_true, List.all_eq_true] at h
  obtain ⟨h1, h2⟩ := h
  refine ⟨fun j hj => ?_, fun m hm => ?_, fun j hj => ?_, fun m hm => ?_⟩
  · have := h1 j hj
    rw [Bool.and_eq_true] at this
    obtain ⟨_, this⟩ := this
    cases ho : ops[j]? with
    | none => rw [ho] at this; cases this
    | some o =>
      rw [ho] at this
      obtain ⟨e, he, hb⟩ := Array.any_eq_true'.1 (show o.after.any _ = true from this)
      rw [Bool.and_eq_true, Bool.or_eq_true, beq_iff_eq] at hb
      exact ⟨o, rfl, e, he, hb.1, hb.2.imp id (fun q => by simpa using q)⟩
  · have := h2 m hm
    rw [Bool.and_eq_true] at this
    simpa using this.1
  · have := h1 j hj
    rw [Bool.and_eq_true] at this
    simpa using this.1
  · have := h2 m hm
    rw [Bool.and_eq_true, Bool.or_eq_true] at this
    exact this.2.imp id (fun q => by simpa using q)

/-- Number i is taken first. -/
theorem wpAnyL_take {i : Nat} {oi : Oper} {v : Value} {fuel : Nat} {l : Array Bool} {a : Act} {w : World} (D : List Nat) (n : Nat) (hi : ops[i]? = some oi)
    (hs : Region.noSelect ops = true) (hf : Region.free md ops l i = true) (hr : (Region.ready md ops l).contains i = true) (hw : waits md ops marks D l i = true) (hn : stage marks l = n)
    (hQ : ∀ c a w, Q (.panic c) (a.put oi.dst v) w → Q (.panic c) a w) (hy : YieldsIf P ops (S n) oi v a) (hS : S n w)
    (h : wpAnyL P md ops Q marks S fuel (l.setIfInBounds i true) (a.put oi.dst v) w) : wpAnyL P md ops Q marks S (fuel + 1) l a w := by
  obtain ⟨w1, w2, w3, w4⟩ := waits_spec hw
  exact wpAnyL_first D n hi (Region.noSelect_spec hs) hQ w1 w2 fuel l a w (Region.free_spec hi hf) (by simpa using hr) w3 w4 hn hy hS h

/-- Only number i may come up. -/
theorem wpAnyL_one {i : Nat} {o : Oper} {fuel : Nat} {l : Array Bool} {a : Act} {w : World} (n : Nat) (ho : ops[i]? = some o) (hr : Region.ready md ops l = [i]) (hn : stage marks (l.setIfInBounds i true) = n)
    (h : ∀ K' : Act → World → Prop, Shut (∀ a w, S n w → (S n w → wpAnyL P md ops Q marks S fuel (l.setIfInBounds i true) a w) → K' a w) → if Region.wanted o (yielded ops a.tmps) = true then Oper.wp P o a w K' Q else K' (a.put o.dst undef) w) :
    wpAnyL P md ops Q marks S (fuel + 1) l a w := by
  refine ⟨fun h0 => (by rw [h0] at hr; cases hr), fun j hj => ?_⟩
  rw [hr] at hj
  obtain rfl : j = i := by simpa using hj
  rw [hn]
  exact wpOp_step ho (fun K' hK => h K' (fun a w hS hW => hK a w ⟨hS, hW hS⟩))

/-- One of two may come up. -/
theorem wpAnyL_two {i k : Nat} {o o2 : Oper} {fuel : Nat} {l : Array Bool} {a : Act} {w : World} (n n2 : Nat) (ho : ops[i]? = some o) (ho2 : ops[k]? = some o2) (hr : Region.ready md ops l = [i, k])
    (hn : stage marks (l.setIfInBounds i true) = n) (hn2 : stage marks (l.setIfInBounds k true) = n2)
    (h : ∀ K' : Act → World → Prop, Shut (∀ a w, S n w → (S n w → wpAnyL P md ops Q marks S fuel (l.setIfInBounds i true) a w) → K' a w) → if Region.wanted o (yielded ops a.tmps) = true then Oper.wp P o a w K' Q else K' (a.put o.dst undef) w)
    (h2 : ∀ K' : Act → World → Prop, Shut (∀ a w, S n2 w → (S n2 w → wpAnyL P md ops Q marks S fuel (l.setIfInBounds k true) a w) → K' a w) → if Region.wanted o2 (yielded ops a.tmps) = true then Oper.wp P o2 a w K' Q else K' (a.put o2.dst undef) w) :
    wpAnyL P md ops Q marks S (fuel + 1) l a w := by
  refine ⟨fun h0 => (by rw [h0] at hr; cases hr), fun j hj => ?_⟩
  rw [hr] at hj
  rcases List.mem_cons.1 hj with rfl | hj
  · rw [hn]
    exact wpOp_step ho (fun K' hK => h K' (fun a w hS hW => hK a w ⟨hS, hW hS⟩))
  · obtain rfl : j = k := by simpa using hj
    rw [hn2]
    exact wpOp_step ho2 (fun K' hK => h2 K' (fun a w hS hW => hK a w ⟨hS, hW hS⟩))

theorem wpAnyL_done {l : Array Bool} {a : Act} {w : World} (hr : Region.ready md ops l = []) (h : Q .normal a w) :
    ∀ fuel, wpAnyL P md ops Q marks S fuel l a w
  | 0 => ⟨hr, h⟩
  | _ + 1 => ⟨fun _ => h, by rw [hr]; simp⟩

theorem wpAnyL_start {n n' : Nat} {l l' : Array Bool} {a : Act} {w : World} (h1 : n = n') (h2 : l = l') (h : wpAnyL P md ops Q marks S n' l' a w) : wpAnyL P md ops Q marks S n l a w := by
  subst h1; subst h2; exact h

theorem wp_region_L (marks : List Nat) (S : Nat → World → Prop) {id : Nat} {a : Act} {w : World} (hm : P.follows .mixedOrders = true) (hS : S 0 w.drew)
    (h : S 0 w.drew → wpAnyL P .any ops Q marks S ops.size (Array.replicate ops.size false) a w.drew) : (Code.region id ops true).wp P Q a w :=
  wp_region_any hm (wpAny_of_L _ _ _ _ (h hS))
end
end Stg
end Go.Proofs.Ytnokojobiaddmaa
