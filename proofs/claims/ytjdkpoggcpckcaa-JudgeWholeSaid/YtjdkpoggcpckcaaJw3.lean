/- The record judged as a whole: the program's maps; what they say (plain). -/
import Derived.Test.YtjdkpoggcpckcaaJw2
import Derived.Maps.Own
import Derived.Maps.OwnOps
namespace Go.Proofs.Ytjdkpoggcpckcaa
open Go.ChangeShapes Go.WideShapes Go.ChangeAt Go.RowKit Go.Maps
set_option linter.unusedVariables false
set_option linter.unusedSimpArgs false
open Pk BigFrame By Jw
open Bs (cellB IntRows)

namespace Jw
theorem ikey : Keyed Try.prog 3 := int_keyed Try.underlying3
theorem ikey_at {k : Int} (h : (Lit.int .i64 k).wf = true) : keyOf Try.prog 3 (.int .i64 k) = some (.int .i64 k) := keyOf_int_mk Try.underlying3 h
/-- A map of numbers. -/
def Ims (w : World) (bm n : Nat) (T : Int → Int) : Prop :=
  ∃ D : DataW Unit, w.ownsMap Try.prog 3 (plainElem Try.prog 3) bm n D ∧ Maps.IsMap D ∧ ∀ k, (Lit.int .i64 k).wf = true → D.atKey (.int .i64 k) (.lit (.int .i64 0)) = .lit (.int .i64 (T k))
/-- A map of yes and no. -/
def Bms (w : World) (bm n : Nat) (T : Int → Bool) : Prop :=
  ∃ D : DataW Unit, w.ownsMap Try.prog 3 (plainElem Try.prog 4) bm n D ∧ Maps.IsMap D ∧ ∀ k, (Lit.int .i64 k).wf = true → D.atKey (.int .i64 k) (.lit (.bool false)) = .lit (.bool (T k))
theorem Ims.blk {w w' : World} {bm n : Nat} {T : Int → Int} (h : Ims w bm n T) (e : w'.heap[bm]? = w.heap[bm]?) : Ims w' bm n T := by
  obtain ⟨D, ⟨es, clock, hb, F, hs, hD⟩, h2⟩ := h
  exact ⟨D, ⟨es, clock, e.trans hb, F, hs, hD⟩, h2⟩
theorem Bms.blk {w w' : World} {bm n : Nat} {T : Int → Bool} (h : Bms w bm n T) (e : w'.heap[bm]? = w.heap[bm]?) : Bms w' bm n T := by
  obtain ⟨D, ⟨es, clock, hb, F, hs, hD⟩, h2⟩ := h
  exact ⟨D, ⟨es, clock, e.trans hb, F, hs, hD⟩, h2⟩
theorem Ims.lt {w : World} {bm n : Nat} {T : Int → Int} (h : Ims w bm n T) : bm < w.heap.size := by
  obtain ⟨D, h1, _⟩ := h
  exact h1.lt
theorem Bms.lt {w : World} {bm n : Nat} {T : Int → Bool} (h : Bms w bm n T) : bm < w.heap.size := by
  obtain ⟨D, h1, _⟩ := h
  exact h1.lt
theorem Ims.look {w : World} {bm n : Nat} {T : Int → Int} (h : Ims w bm n T) (k : Int) (hk : (Lit.int .i64 k).wf = true) : (Instr.lookup 45 (.map (some bm)) (.int .i64 k) false).run Try.prog w = .ok (.int .i64 (T k)) w := by
  obtain ⟨D, h1, _, h2⟩ := h
  obtain ⟨c, hrun, hat, _⟩ := h1.lookup_int ikey Try.underlying45 Try.underlying3 (by rfl) (ikey_at hk)
  rw [h2 k hk] at hat
  injection hat with q
  injection q with _ q
  rw [q]
  exact hrun
theorem plainElem_bool_inv {v : Value} {x : Bool} {ps : List MemPlace} (h : plainElem (H := Unit) Try.prog 4 v = some (.lit (.bool x), ps)) : v = .bool x := by
  unfold plainElem at h
  rw [Try.underlying4] at h
  cases v <;> simp at h
  exact congrArg Value.bool h.1
theorem Bms.look {w : World} {bm n : Nat} {T : Int → Bool} (h : Bms w bm n T) (k : Int) (hk : (Lit.int .i64 k).wf = true) : (Instr.lookup 44 (.map (some bm)) (.int .i64 k) false).run Try.prog w = .ok (.bool (T k)) w := by
  obtain ⟨D, h1, _, h2⟩ := h
  obtain ⟨v, ps, hrun, hv⟩ := h1.lookup ikey Try.underlying44 (z := .bool false) (by rfl) (plainElem_bool Try.underlying4 false) (ikey_at hk)
  rw [h2 k hk] at hv
  rw [plainElem_bool_inv hv] at hrun
  exact hrun
def upT (T : Int → Int) (k v : Int) (x : Int) : Int := if x = k then v else T x
def upB (T : Int → Bool) (k : Int) (v : Bool) (x : Int) : Bool := if x = k then v else T x
theorem wp_updI {w : World} {o : Oper} {a : Act} {K : Act → World → Prop} {Q : Exit → Act → World → Prop} (m x v : Operand) (hop : o.op = Op.mapUpdate 45 m x v) {bm n : Nat} {T : Int → Int} (h : Ims w bm n T) (hn : n ≤ 1000) (hm : a.eval m = .map (some bm)) (k y : Int) (hx : a.eval x = .int .i64 k) (hv : a.eval v = .int .i64 y) (hk : (Lit.int .i64 k).wf = true) (hy : (Lit.int .i64 y).wf = true)
    (hK : ∀ w', Ims w' bm (n + 1) (upT T k y) → w.grownBy w' (some bm) → K (a.put o.dst undef) w') : o.wp Try.prog a w K Q := by
  obtain ⟨D, h1, h3, h2⟩ := h
  obtain ⟨w', hrun, r1, r2⟩ := h1.update ikey Try.underlying45 (by unfold maxLen; omega) (ikey_at hk) (plainElem_int Try.underlying3 hy)
  unfold Oper.wp
  simp [execOp, hop, hm, hx, hv, hrun, Result.andThen]
  refine hK w' ⟨_, r1, h3.put _ _, fun z hz => ?_⟩ r2
  unfold upT
  by_cases e : z = k
  · subst e
    rw [if_pos rfl]
    exact atKey_put_same h3 (ikey.key (ikey_at hz)) _ _
  · rw [if_neg e]
    have hne : (Lit.int .i64 z) ≠ .int .i64 k := fun q => e (by injection q)
    exact (atKey_put_other hne _ _).trans (h2 z hz)
theorem wp_updB {w : World} {o : Oper} {a : Act} {K : Act → World → Prop} {Q : Exit → Act → World → Prop} (m x v : Operand) (hop : o.op = Op.mapUpdate 44 m x v) {bm n : Nat} {T : Int → Bool} (h : Bms w bm n T) (hn : n ≤ 1000) (hm : a.eval m = .map (some bm)) (k : Int) (y : Bool) (hx : a.eval x = .int .i64 k) (hv : a.eval v = .bool y) (hk : (Lit.int .i64 k).wf = true)
    (hK : ∀ w', Bms w' bm (n + 1) (upB T k y) → w.grownBy w' (some bm) → K (a.put o.dst undef) w') : o.wp Try.prog a w K Q := by
  obtain ⟨D, h1, h3, h2⟩ := h
  obtain ⟨w', hrun, r1, r2⟩ := h1.update ikey Try.underlying44 (by unfold maxLen; omega) (ikey_at hk) (plainElem_bool Try.underlying4 y)
  unfold Oper.wp
  simp [execOp, hop, hm, hx, hv, hrun, Result.andThen]
  refine hK w' ⟨_, r1, h3.put _ _, fun z hz => ?_⟩ r2
  unfold upB
  by_cases e : z = k
  · subst e
    rw [if_pos rfl]
    exact atKey_put_same h3 (ikey.key (ikey_at hz)) _ _
  · rw [if_neg e]
    have hne : (Lit.int .i64 z) ≠ .int .i64 k := fun q => e (by injection q)
    exact (atKey_put_other hne _ _).trans (h2 z hz)
theorem ims_new (w : World) : Ims (w.alloc (.map #[] 0)) w.heap.size 0 (fun _ => 0) := ⟨.map [], World.ownsMap_made _ _ _ _, ⟨_, rfl⟩, fun k _ => rfl⟩
theorem bms_new (w : World) : Bms (w.alloc (.map #[] 0)) w.heap.size 0 (fun _ => false) := ⟨.map [], World.ownsMap_made _ _ _ _, ⟨_, rfl⟩, fun k _ => rfl⟩
/-- What the maps say behind i packets. -/
def lastT (S : Nat → Nat → Int) : Nat → Int → Int
  | 0 => fun _ => 0
  | i + 1 => upT (lastT S i) (S i 3) (S i 5)
def seenT (S : Nat → Nat → Int) : Nat → Int → Bool
  | 0 => fun _ => false
  | i + 1 => upB (seenT S i) (S i 5) true
theorem seen_iff (S : Nat → Nat → Int) (x : Int) : ∀ i, seenT S i x = true ↔ ∃ j, j < i ∧ S j 5 = x
  | 0 => by simp [seenT]
  | i + 1 => by
    unfold seenT upB
    split
    · rename_i e
      exact ⟨fun _ => ⟨i, by omega, e.symm⟩, fun _ => rfl⟩
    · rename_i e
      rw [seen_iff S x i]
      constructor
      · rintro ⟨j, h1, h2⟩; exact ⟨j, by omega, h2⟩
      · rintro ⟨j, h1, h2⟩
        refine ⟨j, ?_, h2⟩
        rcases Nat.lt_or_ge j i with q | q
        · exact q
        · obtain rfl : j = i := by omega
          exact absurd h2.symm e
theorem last_at (S : Nat → Nat → Int) (f : Int) : ∀ i, lastT S i f = 0 ∨ ∃ j, j < i ∧ S j 3 = f ∧ S j 5 = lastT S i f
  | 0 => .inl rfl
  | i + 1 => by
    unfold lastT upT
    split
    · rename_i e; exact .inr ⟨i, by omega, e.symm, rfl⟩
    · rcases last_at S f i with q | ⟨j, h1, h2, h3⟩
      · exact .inl q
      · exact .inr ⟨j, by omega, h2, h3⟩
theorem last_ge (J : Jd) (f : Int) : ∀ i, (∀ j, j < i → J.ok j) → ∀ j, j < i → J.S j 3 = f → J.S j 5 ≤ lastT J.S i f
  | 0, _, j, hj, _ => by omega
  | i + 1, hok, j, hj, hf => by
    unfold lastT upT
    by_cases e : f = J.S i 3
    · rw [if_pos e]
      rcases Nat.lt_or_ge j i with q | q
      · have h1 := (hok i (by omega)).2 j q
        refine Classical.byContradiction fun z => h1 (.inr ⟨by rw [hf, e], by omega⟩)
      · obtain rfl : j = i := by omega
        exact Int.le_refl _
    · rw [if_neg e]
      rcases Nat.lt_or_ge j i with q | q
      · exact last_ge J f i (fun j hj => hok j (by omega)) j q hf
      · obtain rfl : j = i := by omega
        exact absurd hf.symm e
theorem clash_iff (J : Jd) (i : Nat) (hok : ∀ j, j < i → J.ok j) (h1 : 1 ≤ J.S i 5) : (∀ j, j < i → ¬ J.clash i j) ↔ (seenT J.S i (J.S i 5) = false ∧ ¬ J.S i 5 < lastT J.S i (J.S i 3)) := by
  constructor
  · intro h
    constructor
    · refine Classical.byContradiction fun q => ?_
      have q2 : seenT J.S i (J.S i 5) = true := by simpa using q
      obtain ⟨j, hj, e⟩ := (seen_iff J.S (J.S i 5) i).1 q2
      exact h j hj (.inl e)
    · intro q
      rcases last_at J.S (J.S i 3) i with z | ⟨j, hj, e1, e2⟩
      · omega
      · exact h j hj (.inr ⟨e1, by omega⟩)
  · rintro ⟨g1, g2⟩ j hj (q | ⟨q1, q2⟩)
    · have := (seen_iff J.S (J.S i 5) i).2 ⟨j, hj, q⟩
      rw [g1] at this
      cases this
    · have := last_ge J (J.S i 3) i hok j hj q1
      omega
end Jw
end Go.Proofs.Ytjdkpoggcpckcaa
