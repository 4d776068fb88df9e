/- The air and the document, side by side. -/
import Derived.Test.YtnokojobiaddmaaP26
namespace Go.Proofs.Ytnokojobiaddmaa
open Go.ChangeShapes Go.WideShapes Go.ChangeAt Go.RowKit Go.Maps
set_option linter.unusedVariables false
set_option linter.unusedSimpArgs false
open BigFrame Bs By Am Ar

namespace Ar
theorem ne_of_types {w : World} {a b : Nat} {cs ds : Array Value} {s t : TypeId} (h : w.heap[a]? = some (.cells cs s (0, 0))) (k : w.heap[b]? = some (.cells ds t (0, 0))) (hn : s ≠ t) : a ≠ b := by
  rintro rfl
  rw [h] at k
  cases k
  exact hn rfl
theorem own_ne_cell {w : World} {base n size b : Nat} {e t : TypeId} {v : Value} {xs : List Value} {cs : Array Value} (h : w.ownsRow base e size v n xs) (k : w.heap[b]? = some (.cells cs t (0, 0))) (hn : e ≠ t) : v.ownBlock ≠ some b := fun hb => by
  rcases h.2 with ⟨rfl, _⟩ | ⟨q, cap, cur, rfl, _, h3, _⟩
  · cases hb
  · simp [Value.ownBlock] at hb
    subst hb
    rw [h3] at k
    cases k
    exact hn rfl
theorem own_ne_map {w : World} {base n size b : Nat} {e : TypeId} {v : Value} {xs : List Value} {es : Array (Value × Value × Nat)} {c : Nat} (h : w.ownsRow base e size v n xs) (k : ∀ cs t q, w.heap[b]? ≠ some (.cells cs t q)) : v.ownBlock ≠ some b := fun hb => by
  rcases h.2 with ⟨rfl, _⟩ | ⟨q, cap, cur, rfl, _, h3, _⟩
  · cases hb
  · simp [Value.ownBlock] at hb
    subst hb
    exact k _ _ _ h3
section
variable {m : Nat} {w w' : World} {g rg bp br bm n n' : Nat} {lv lv' rv rv' cv cv' : Value} {l l' q q' : List RM} {C C' : Int → Int → Bool} {ps ps' : List (Int × Int)} {ma ma' mr mr' : List Mg}
theorem AirAt.no_cells (h : AirAt m w g bp lv l bm n C) : ∀ cs t q, w.heap[bm]? ≠ some (.cells cs t q) := fun cs t q hh => by
  obtain ⟨D, ⟨es, clock, hb, r⟩, q2⟩ := h.mp
  rw [hb] at hh
  cases hh
theorem AirAt.beside {gs : List Nat} {mv mv' : Value} (h : AirAt m w g bp lv l bm n C) (k : Fx gs mv mv' w w') (h1 : g ∉ gs) (h2 : mv.ownBlock ≠ some g) (h3 : ∀ b, lv.ownBlock = some b → b ∉ gs ∧ mv.ownBlock ≠ some b) (h4 : bm ∉ gs) (h5 : mv.ownBlock ≠ some bm) : AirAt m w' g bp lv l bm n C := by
  have r := h.ra.beside k h1 h2 h3
  exact ⟨r.hg, r.own, AirAt.cuts_fx h.mp k h4 h5, h.h1, h.h2, h.h3, h.h4, h.h5, r.h6⟩
/-- The air and the document's, side by side. -/
structure Tw (m : Nat) (w : World) (g rg bp br bm n : Nat) (lv rv cv : Value) (l q : List RM) (C : Int → Int → Bool) (ps : List (Int × Int)) (ma mr : List Mg) : Prop where
  a : AirAt m w g bp lv l bm n C
  r : RF m w rg br rv q cv ps
  ta : TML w l ma
  tr : TML w q mr
  d : ∀ b, lv.ownBlock = some b → rv.ownBlock ≠ some b
theorem Tw.bel (h : Tw m w g rg bp br bm n lv rv cv l q C ps ma mr) (k : Below w.heap.size w w') : Tw m w' g rg bp br bm n lv rv cv l q C ps ma mr :=
  ⟨h.a.bel k, h.r.bel k, h.ta.tf (Tf.of k), h.tr.tf (Tf.of k), h.d⟩
theorem Tw.gr (h : Tw m w g rg bp br bm n lv rv cv l q C ps ma mr) : g ≠ rg := ne_of_types h.a.hg h.r.ra.hg (by decide)
theorem Tw.bmr (h : Tw m w g rg bp br bm n lv rv cv l q C ps ma mr) : bm ≠ rg := fun e => by subst e; exact h.a.no_cells _ _ _ h.r.ra.hg
theorem own_bm {e : TypeId} {size base k : Nat} {v : Value} {xs : List Value} (h : AirAt m w g bp lv l bm n C) (o : w.ownsRow base e size v k xs) : v.ownBlock ≠ some bm := fun hb => by
  rcases o.2 with ⟨rfl, _⟩ | ⟨q, cap, cur, rfl, _, h3, _⟩
  · cases hb
  · simp [Value.ownBlock] at hb
    subst hb
    exact h.no_cells _ _ _ h3
/-- The program did something. -/
theorem Tw.prog (h : Tw m w g rg bp br bm n lv rv cv l q C ps ma mr) (k : Fx [g, bm] lv lv' w w') (a' : AirAt m w' g bp lv' l' bm n' C') (ta' : TML w' l' ma') : Tw m w' g rg bp br bm n' lv' rv cv l' q C' ps ma' mr := by
  have t1 : rg ∉ [g, bm] := by simp; exact ⟨Ne.symm h.gr, Ne.symm h.bmr⟩
  have t2 : lv.ownBlock ≠ some rg := own_ne_cell h.a.own h.r.ra.hg (by decide)
  have t3 : ∀ b, rv.ownBlock = some b → b ∉ [g, bm] ∧ lv.ownBlock ≠ some b := fun b hb => ⟨by
    simp
    exact ⟨fun e => own_ne_cell h.r.ra.own h.a.hg (by decide) (by rw [hb, e]), fun e => own_bm h.a h.r.ra.own (by rw [hb, e])⟩, fun e => h.d b e hb⟩
  have t4 : ∀ b, cv.ownBlock = some b → b ∉ [g, bm] ∧ lv.ownBlock ≠ some b := fun b hb => ⟨by
    simp
    exact ⟨fun e => own_ne_cell h.r.k h.a.hg (by decide) (by rw [hb, e]), fun e => own_bm h.a h.r.k (by rw [hb, e])⟩, fun e => own_ne h.a.own h.r.k pair_ne b e hb⟩
  exact ⟨a', ⟨h.r.ra.beside k t1 t2 t3, own_fx h.r.k k t4, h.r.ge⟩, ta', h.tr.tf (k.tf h.a.types h.a.own), fun b hb e => k.row b (h.r.ra.own.lt b e).2 (t3 b e).2 hb⟩
theorem Tw.air_beside {mv mv' : Value} (h : Tw m w g rg bp br bm n lv rv cv l q C ps ma mr) (k : Fx [rg] mv mv' w w') (h1 : mv = rv ∨ mv = nilV) : AirAt m w' g bp lv l bm n C := by
  refine h.a.beside k (by simp; exact h.gr) ?_ (fun b hb => ⟨by simp; rintro rfl; exact own_ne_cell h.a.own h.r.ra.hg (by decide) hb, ?_⟩) (by simp; exact h.bmr) ?_
  · rcases h1 with rfl | rfl
    · exact own_ne_cell h.r.ra.own h.a.hg (by decide)
    · simp [Value.ownBlock]
  · rcases h1 with rfl | rfl
    · exact h.d b hb
    · simp [Value.ownBlock]
  · rcases h1 with rfl | rfl
    · exact own_bm h.a h.r.ra.own
    · simp [Value.ownBlock]
/-- The document did something with its row. -/
theorem Tw.refr (h : Tw m w g rg bp br bm n lv rv cv l q C ps ma mr) (k : Fx [rg] rv rv' w w') (r' : RF m w' rg br rv' q' cv' ps') (tr' : TML w' q' mr') : Tw m w' g rg bp br bm n lv rv' cv' l q' C ps' ma mr' :=
  ⟨h.air_beside k (.inl rfl), r', h.ta.tf (k.tf h.r.types h.r.ra.own), tr', fun b hb => k.row b (h.a.own.lt b hb).2 (h.d b hb)⟩
/-- The document did something with its ways. -/
theorem Tw.refc (h : Tw m w g rg bp br bm n lv rv cv l q C ps ma mr) (k : Fx [rg] nilV nilV w w') (r' : RF m w' rg br rv q cv' ps') : Tw m w' g rg bp br bm n lv rv cv' l q C ps' ma mr := by
  have tf : Tf w w' := k.tf h.r.types (World.ownsRow_nil w 0 34 14)
  exact ⟨h.air_beside k (.inr rfl), r', h.ta.tf tf, h.tr.tf tf, h.d⟩
theorem Tw.mle (h : Tw m w g rg bp br bm n lv rv cv l q C ps ma mr) : m ≤ w.heap.size := h.a.below
theorem Tw.bprog (h : Tw m w g rg bp br bm n lv rv cv l q C ps ma mr) (k : Fx [g, bm] lv lv' w w') : Below m w w' :=
  k.below (by simp; exact ⟨h.a.h4, h.a.h5⟩) (fun b hb => by have := (h.a.own.lt b hb).1; have := h.a.h1; have := h.a.h4; omega) h.mle
theorem Tw.brefr (h : Tw m w g rg bp br bm n lv rv cv l q C ps ma mr) (k : Fx [rg] rv rv' w w') : Below m w w' :=
  k.below (by simp; exact h.r.ge) (fun b hb => by have := (h.r.ra.own.lt b hb).1; have := h.r.ra.h1; have := h.r.ge; omega) h.mle
theorem Tw.brefc (h : Tw m w g rg bp br bm n lv rv cv l q C ps ma mr) (k : Fx [rg] nilV nilV w w') : Below m w w' :=
  k.below (by simp; exact h.r.ge) (fun b hb => by simp [Value.ownBlock] at hb) h.mle
/-- A block of the caller's own is as it was. -/
theorem Tw.bxp (h : Tw m w g rg bp br bm n lv rv cv l q C ps ma mr) (k : Fx [g, bm] lv lv' w w') {b : Nat} {cs : Array Value} {t : TypeId} (hb : HT w b cs t) (h1 : t ≠ 59) (h2 : t ≠ 34) : HT w' b cs t :=
  ⟨(k.blk b hb.lt (by simp; exact ⟨ne_of_types hb.h h.a.hg h1, fun e => by subst e; exact h.a.no_cells _ _ _ hb.h⟩) (own_ne_cell h.a.own hb.h (Ne.symm h2))).trans hb.h⟩
theorem Tw.bxr (h : Tw m w g rg bp br bm n lv rv cv l q C ps ma mr) (k : Fx [rg] rv rv' w w') {b : Nat} {cs : Array Value} {t : TypeId} (hb : HT w b cs t) (h1 : t ≠ 52) (h2 : t ≠ 34) : HT w' b cs t :=
  ⟨(k.blk b hb.lt (by simp; exact ne_of_types hb.h h.r.ra.hg h1) (own_ne_cell h.r.ra.own hb.h (Ne.symm h2))).trans hb.h⟩
theorem Tw.bxc (h : Tw m w g rg bp br bm n lv rv cv l q C ps ma mr) (k : Fx [rg] nilV nilV w w') {b : Nat} {cs : Array Value} {t : TypeId} (hb : HT w b cs t) (h1 : t ≠ 52) : HT w' b cs t :=
  ⟨(k.blk b hb.lt (by simp; exact ne_of_types hb.h h.r.ra.hg h1) (by simp [Value.ownBlock])).trans hb.h⟩
/-- A new block of a message of the caller's own. -/
theorem Tw.bxr' (h : Tw m w g rg bp br bm n lv rv cv l q C ps ma mr) (k : Fx [rg] rv rv' w w') {b : Nat} {cs : Array Value} {t : TypeId} (hb : HT w b cs t) (h1 : t ≠ 52) (h2 : rv.ownBlock ≠ some b) : HT w' b cs t :=
  ⟨(k.blk b hb.lt (by simp; exact ne_of_types hb.h h.r.ra.hg h1) h2).trans hb.h⟩
end
/-- What both say, and how much. -/
structure Gd (C : Int → Int → Bool) (ps : List (Int × Int)) (ms : List Mg) (n c : Nat) : Prop where
  ag : ∀ f t : Int, (1 ≤ f ∧ f ≤ 255) → (1 ≤ t ∧ t ≤ 255) → C f t = decide ((f, t) ∈ ps)
  sm : ∀ x ∈ ms, Sm x
  wf : ∀ x ∈ ms, (1 ≤ x.f.fr ∧ x.f.fr ≤ 255) ∧ (1 ≤ x.f.to ∧ x.f.to ≤ 255)
  le : ms.length ≤ 1024
  n1 : n ≤ c
  p1 : ps.length ≤ c
theorem Gd.up {C : Int → Int → Bool} {ps : List (Int × Int)} {ms : List Mg} {n c : Nat} (h : Gd C ps ms n c) : Gd C ps ms n (c + 1) := ⟨h.ag, h.sm, h.wf, h.le, by have := h.n1; omega, by have := h.p1; omega⟩
theorem Gd.snoc {C : Int → Int → Bool} {ps : List (Int × Int)} {ms : List Mg} {n c : Nat} (h : Gd C ps ms n c) {x : Mg} (hs : Sm x) (hw : (1 ≤ x.f.fr ∧ x.f.fr ≤ 255) ∧ (1 ≤ x.f.to ∧ x.f.to ≤ 255)) (hl : ms.length < 1024) : Gd C ps (ms ++ [x]) n (c + 1) :=
  ⟨h.ag, fun y hy => by
    rcases List.mem_append.1 hy with hy | hy
    · exact h.sm y hy
    · simp at hy; subst hy; exact hs, fun y hy => by
    rcases List.mem_append.1 hy with hy | hy
    · exact h.wf y hy
    · simp at hy; subst hy; exact hw, by simp; omega, by have := h.n1; omega, by have := h.p1; omega⟩
theorem Gd.sub {C : Int → Int → Bool} {ps : List (Int × Int)} {ms ms' : List Mg} {n c : Nat} (h : Gd C ps ms n c) (hs : ms'.Sublist ms) : Gd C ps ms' n (c + 1) :=
  ⟨h.ag, fun y hy => h.sm y (hs.subset hy), fun y hy => h.wf y (hs.subset hy), Nat.le_trans hs.length_le h.le, by have := h.n1; omega, by have := h.p1; omega⟩
theorem Gd.cut {C : Int → Int → Bool} {ps : List (Int × Int)} {ms : List Mg} {n c : Nat} (h : Gd C ps ms n c) (f t : Int) : Gd (setC C f t true) (ps.filter (keepP f t) ++ [(f, t)]) ms (n + 1) (c + 1) :=
  ⟨fun f' t' hf ht => by
    unfold setC
    by_cases e : f' = f ∧ t' = t
    · rw [if_pos e]; simp [e.1, e.2]
    · rw [if_neg e, h.ag f' t' hf ht, decide_eq_decide]
      simp only [List.mem_append, List.mem_filter, List.mem_singleton, Prod.mk.injEq]
      constructor
      · intro q
        refine .inl ⟨q, ?_⟩
        unfold keepP
        by_cases h1 : f' = f
        · have : t' ≠ t := fun h2 => e ⟨h1, h2⟩
          simp [this]
        · simp [h1]
      · rintro (q | q)
        · exact q.1
        · exact absurd q e, h.sm, h.wf, h.le, by have := h.n1; omega, by
    have h1 := List.length_filter_le (keepP f t) ps
    have := h.p1
    simp
    omega⟩
theorem Gd.mend {C : Int → Int → Bool} {ps : List (Int × Int)} {ms : List Mg} {n c : Nat} (h : Gd C ps ms n c) (f t : Int) : Gd (setC C f t false) (ps.filter (keepP f t)) ms (n + 1) (c + 1) :=
  ⟨fun f' t' hf ht => by
    unfold setC
    by_cases e : f' = f ∧ t' = t
    · rw [if_pos e]; symm; apply decide_eq_false
      rintro q
      have := (List.mem_filter.1 q).2
      simp [keepP, e.1, e.2] at this
    · rw [if_neg e, h.ag f' t' hf ht, decide_eq_decide]
      simp only [List.mem_filter]
      constructor
      · intro q
        refine ⟨q, ?_⟩
        unfold keepP
        by_cases h1 : f' = f
        · have : t' ≠ t := fun h2 => e ⟨h1, h2⟩
          simp [this]
        · simp [h1]
      · exact fun q => q.1, h.sm, h.wf, h.le, by have := h.n1; omega, by
    have h1 := List.length_filter_le (keepP f t) ps
    have := h.p1
    omega⟩
/-- The messages that are kept. -/
def kpm (a : Int) (x : Mg) : Bool := !(x.f.to == a)
theorem TML.filter {w : World} {l : List RM} {ms : List Mg} (h : TML w l ms) (a : Int) : TML w (l.filter (kp a)) (ms.filter (kpm a)) := by
  induction l generalizing ms with
  | nil =>
    have : ms = [] := List.eq_nil_of_length_eq_zero h.1.symm
    subst this
    exact TML.nil w
  | cons r l ih =>
    cases ms with
    | nil => exact absurd h.1 (by simp)
    | cons x ms =>
      have h0 : TM w r x := h.2 0 r x rfl rfl
      have ht : TML w l ms := ⟨by have := h.1; simpa using this, fun i a b h1 h2 => h.2 (i + 1) a b (by simpa using h1) (by simpa using h2)⟩
      have e : kp a r = kpm a x := by unfold kp kpm; rw [h0.f]
      have hi := ih ht
      cases hk : kpm a x with
      | false =>
        rw [List.filter_cons, List.filter_cons, e, hk]
        simpa using hi
      | true =>
        rw [List.filter_cons, List.filter_cons, e, hk]
        simp only [if_true]
        refine ⟨by simp [hi.1], fun i a b h1 h2 => ?_⟩
        cases i with
        | zero => simp at h1 h2; subst h1; subst h2; exact h0
        | succ i => exact hi.2 i a b (by simpa using h1) (by simpa using h2)
/-- Side by side, whatever they hold. -/
def Ok (m g rg bp br c : Nat) (w : World) : Prop := ∃ bm n lv rv cv l q C ps ms, Tw m w g rg bp br bm n lv rv cv l q C ps ms ms ∧ Gd C ps ms n c
def StepP (m g rg bp br c : Nat) (w : World) (e : Ending) (w' : World) : Prop := e = .returned (.bool true) ∧ Ok m g rg bp br (c + 1) w' ∧ Below m w w'
end Ar
end Go.Proofs.Ytnokojobiaddmaa
