/- The shaper: what the law holds beside it. -/
import Derived.Test.YtkefkophlhcbiaaS11
namespace Go.Proofs.Ytkefkophlhcbiaa
open Go.ChangeShapes Go.WideShapes Go.ChangeAt Go.RowKit
set_option linter.unusedVariables false
set_option linter.unusedSimpArgs false
open BigFrame Pk Sh Fa Fq Jw
open By (Byt RowG blkO)
open Fp (Pt PQ PqP)

namespace Sh
theorem SH.li_ns {I : Ids} {G : Gs} {L : List Nat} {w : World} {tb ct : Nat} {pos kd : Nat → Nat} (h : SH I G L w tb ct pos kd) {q : Nat} (hq : q ∈ L) : q ∉ I.ns := fun z => by
  have e := (h.li q hq).2
  have hk := h.k
  rcases Ids.mem_ns.1 z with rfl | rfl | rfl | ⟨i, hi, rfl | rfl⟩
  · omega
  · omega
  · omega
  · have := (h.kq i hi).1; omega
  · have := (h.kq i hi).2; omega
theorem SHP.li_ns {I : Ids} {G : Gs} {L : List Nat} {w : World} (h : SHP I G L w) {q : Nat} (hq : q ∈ L) : q ∉ I.ns := by
  obtain ⟨_, _, _, _, h⟩ := h
  exact h.li_ns hq
/-- What the law has of its own. -/
structure LW (I : Ids) (w0 w : World) (G : Gs) (tok : Nat → Int) (tk : Nat) (vi vo vb : Value) (ins : List Iv) (oo ob : List (Nat × Pt)) (vs : List Value) (kd : Nat → Nat) : Prop where
  s : ∃ L, SHP I G L w ∧ ∀ q, (q = tk ∨ vi.ownBlock = some q ∨ vo.ownBlock = some q ∨ vb.ownBlock = some q) → q ∈ L
  t : Bs.Blk w tk (tokC tok)
  i : w.ownsRow w0.heap.size 34 1 vi ins.length (ivC ins)
  o : w.ownsRow w0.heap.size 55 6 vo oo.length (sentC oo)
  b : w.ownsRow w0.heap.size 34 1 vb ob.length vs
  y : ∀ (j : Nat) (kp : Nat × Pt), ob[j]? = some kp → ∃ g c : Nat, vs[j]? = some (Value.slice (some ⟨g, 0, none⟩) (8 + kp.2.d.length) c) ∧ Byt w (some ⟨g, 0, none⟩) (8 + kp.2.d.length) c (bldD kp.2) ∧ g ∉ I.ns ∧ kd g = 5
  k : kd tk = 1 ∧ (∀ q, vi.ownBlock = some q → kd q = 2) ∧ (∀ q, vo.ownBlock = some q → kd q = 3) ∧ ∀ q, vb.ownBlock = some q → kd q = 4
  ns : ∀ q, q ∈ I.ns → w0.heap.size ≤ q
  ge : w0.heap.size ≤ tk
  bel : Below w0.heap.size w0 w
section
variable {I : Ids} {w0 w w' : World} {G G' : Gs} {tok : Nat → Int} {tk : Nat} {vi vo vb : Value} {ins : List Iv} {oo ob : List (Nat × Pt)} {vs : List Value} {kd : Nat → Nat}
theorem byt_lt {w : World} {g n c : Nat} {d : List Nat} (h : Byt w (some ⟨g, 0, none⟩) n c d) (hn : 0 < n) : g < w.heap.size := by
  obtain ⟨b, o, e, hb, _⟩ := h.row hn
  cases e
  exact hb
/-- A call of the shaper's. -/
theorem LW.call (h : LW I w0 w G tok tk vi vo vb ins oo ob vs kd) (k : By.KF I.ns w w') {L : List Nat} (hs : SHP I G' L w') (hm : ∀ q, (q = tk ∨ vi.ownBlock = some q ∨ vo.ownBlock = some q ∨ vb.ownBlock = some q) → q ∈ L) : LW I w0 w' G' tok tk vi vo vb ins oo ob vs kd := by
  have nn : ∀ q, (q = tk ∨ vi.ownBlock = some q ∨ vo.ownBlock = some q ∨ vb.ownBlock = some q) → q ∉ I.ns := fun q hq => hs.li_ns (hm q hq)
  refine ⟨⟨L, hs, hm⟩, k.blk h.t (nn _ (.inl rfl)), own_kf h.i k (fun q hq => nn q (.inr (.inl hq))), own_kf h.o k (fun q hq => nn q (.inr (.inr (.inl hq)))), own_kf h.b k (fun q hq => nn q (.inr (.inr (.inr hq)))), fun j kp hj => ?_, h.k, h.ns, h.ge, h.bel.trans (k.below h.ns h.bel.size)⟩
  obtain ⟨g, c, h1, h2, h3, h4⟩ := h.y j kp hj
  exact ⟨g, c, h1, k.byt h2 (fun _ ad e => by cases e; exact h3), h3, h4⟩
theorem LW.below (h : LW I w0 w G tok tk vi vo vb ins oo ob vs kd) (k : Below w.heap.size w w') : LW I w0 w' G tok tk vi vo vb ins oo ob vs kd := by
  obtain ⟨L, hL, hm⟩ := h.s
  exact h.call (By.KF.of k) (hL.bel k) hm
/-- Blocks that were made since may be named anew. -/
theorem LW.relab (h : LW I w0 w G tok tk vi vo vb ins oo ob vs kd) {n : Nat} (hn : ∀ q, (q = tk ∨ vi.ownBlock = some q ∨ vo.ownBlock = some q ∨ vb.ownBlock = some q) → q < n) : LW I w0 w G tok tk vi vo vb ins oo ob vs (fun c => if n ≤ c then 5 else kd c) := by
  have old : ∀ c, c < n → (fun c => if n ≤ c then 5 else kd c) c = kd c := fun c hc => if_neg (by omega)
  refine ⟨h.s, h.t, h.i, h.o, h.b, fun j kp hj => ?_, ⟨(old _ (hn _ (.inl rfl))).trans h.k.1, fun q hq => (old _ (hn _ (.inr (.inl hq)))).trans (h.k.2.1 q hq), fun q hq => (old _ (hn _ (.inr (.inr (.inl hq))))).trans (h.k.2.2.1 q hq), fun q hq => (old _ (hn _ (.inr (.inr (.inr hq))))).trans (h.k.2.2.2 q hq)⟩, h.ns, h.ge, h.bel⟩
  obtain ⟨g, c, h1, h2, h3, h4⟩ := h.y j kp hj
  refine ⟨g, c, h1, h2, h3, ?_⟩
  by_cases e : n ≤ g
  · exact if_pos e
  · exact (old g (by omega)).trans h4
theorem LW.lt (h : LW I w0 w G tok tk vi vo vb ins oo ob vs kd) : ∀ q, (q = tk ∨ vi.ownBlock = some q ∨ vo.ownBlock = some q ∨ vb.ownBlock = some q) → q < w.heap.size := fun q hq => by
  rcases hq with rfl | hq | hq | hq
  · exact h.t.l
  · exact (h.i.lt q hq).2
  · exact (h.o.lt q hq).2
  · exact (h.b.lt q hq).2
/-- What the law writes into a block of its own leaves the shaper, and what has another name. -/
theorem LW.own (h : LW I w0 w G tok tk vi vo vb ins oo ob vs kd) {M : List Nat} {x : Nat} (k : By.KF M w w') (hM : ∀ q, q ∈ M → kd q = x ∧ (q = tk ∨ vi.ownBlock = some q ∨ vo.ownBlock = some q ∨ vb.ownBlock = some q)) :
    (∃ L, SHP I G L w' ∧ ∀ q, (q = tk ∨ vi.ownBlock = some q ∨ vo.ownBlock = some q ∨ vb.ownBlock = some q) → q ∈ L) ∧ (x ≠ 1 → Bs.Blk w' tk (tokC tok)) ∧ (x ≠ 2 → w'.ownsRow w0.heap.size 34 1 vi ins.length (ivC ins)) ∧ (x ≠ 3 → w'.ownsRow w0.heap.size 55 6 vo oo.length (sentC oo)) ∧ (x ≠ 4 → w'.ownsRow w0.heap.size 34 1 vb ob.length vs) ∧ (x ≠ 5 → ∀ (g n c : Nat) (d : List Nat), kd g = 5 → Byt w (some ⟨g, 0, none⟩) n c d → Byt w' (some ⟨g, 0, none⟩) n c d) := by
  obtain ⟨L, ⟨tb, ct, pos, kd', hS⟩, hm⟩ := h.s
  refine ⟨⟨L, ⟨tb, ct, pos, kd', hS.foreign k (fun q hq => hm q (hM q hq).2)⟩, hm⟩, fun hx => k.blk h.t (fun z => ?_), fun hx => own_kf h.i k (fun q hq z => ?_), fun hx => own_kf h.o k (fun q hq z => ?_), fun hx => own_kf h.b k (fun q hq z => ?_), fun hx g n c d hg hy => k.byt hy (fun _ ad e z => ?_)⟩
  · have := (hM _ z).1; have := h.k.1; omega
  · have := (hM _ z).1; have := h.k.2.1 q hq; omega
  · have := (hM _ z).1; have := h.k.2.2.1 q hq; omega
  · have := (hM _ z).1; have := h.k.2.2.2 q hq; omega
  · cases e; have := (hM _ z).1; simp only at this; omega
theorem tokC_set (tok : Nat → Int) (k : Nat) (v : Int) (h : k < 17) : (tokC tok).set k (.int .i64 v) = tokC (Sh.up tok k v) := by
  refine List.ext_getElem? fun i => ?_
  rw [List.getElem?_set]
  by_cases e : k = i
  · subst e
    rw [if_pos rfl, if_pos (by rw [tokC_len]; exact h)]
    simp [tokC, h, Sh.up]
  · rw [if_neg e]
    by_cases hi : i < 17
    · simp [tokC, hi, Sh.up, show ¬ i = k by omega]
    · rw [List.getElem?_eq_none (by rw [tokC_len]; omega), List.getElem?_eq_none (by rw [tokC_len]; omega)]
theorem tokC_at (tok : Nat → Int) (i : Nat) (h : i < 17) : (tokC tok)[i]? = some (.int .i64 (tok i)) := by simp [tokC, h]
theorem LW.tokS (h : LW I w0 w G tok tk vi vo vb ins oo ob vs kd) (i : Nat) (hi : i < 17) (v : Int) : LW I w0 (w.setCell ⟨tk, i, none⟩ (.int .i64 v)) G (Sh.up tok i v) tk vi vo vb ins oo ob vs kd := by
  have k : By.KF [tk] w (w.setCell ⟨tk, i, none⟩ (.int .i64 v)) := (By.KF.refl _ _).set (.inl (by simp)) _
  obtain ⟨q1, _, q3, q4, q5, q6⟩ := h.own (x := 1) k (fun q hq => by simp at hq; subst hq; exact ⟨h.k.1, .inl rfl⟩)
  refine ⟨q1, ?_, q3 (by omega), q4 (by omega), q5 (by omega), fun j kp hj => ?_, h.k, h.ns, h.ge, h.bel.setCell (p := ⟨tk, i, none⟩) h.ge _⟩
  · have := h.t.set (i := i) (by rw [tokC_len]; exact hi) (.int .i64 v)
    rwa [tokC_set tok i v hi] at this
  · obtain ⟨g, c, h1, h2, h3, h4⟩ := h.y j kp hj
    exact ⟨g, c, h1, q6 (by omega) _ _ _ _ h4 h2, h3, h4⟩
theorem mem_or {b : Option Nat} {q : Nat} (h : q ∈ b.toList) : b = some q := by simpa using h
/-- Rows that grow: what came in. -/
theorem LW.inp (h : LW I w0 w G tok tk vi vo vb ins oo ob vs kd) {w5 : World} {v5 : Value} {ins' : List Iv} (ho : w5.ownsRow w0.heap.size 34 1 v5 ins'.length (ivC ins')) (hg : w.grownBy w5 vi.ownBlock) (hor : v5.ownBlock = vi.ownBlock ∨ v5.ownBlock = some w.heap.size) :
    LW I w0 w5 G tok tk v5 vo vb ins' oo ob vs (lab kd w.heap.size 2) := by
  have k1 : By.KF vi.ownBlock.toList w w5 := By.KF.grown1 hg
  have old : ∀ c, c < w.heap.size → lab kd w.heap.size 2 c = kd c := fun c hc => lab_ne (by omega)
  have hv5 : ∀ c, v5.ownBlock = some c → lab kd w.heap.size 2 c = 2 := fun c hc => by
    rcases hor with z | z
    · rw [z] at hc; rw [old _ (h.i.lt c hc).2]; exact h.k.2.1 c hc
    · rw [z] at hc; cases hc; exact lab_eq _ _ _
  obtain ⟨⟨L, hL, hm⟩, q2, _, q4, q5, q6⟩ := h.own (x := 2) k1 (fun q hq => ⟨h.k.2.1 q (mem_or hq), .inr (.inl (mem_or hq))⟩)
  obtain ⟨L0, ⟨tb, ct, pos, kd', hS⟩, hm0⟩ := h.s
  obtain ⟨kd2, hS2⟩ := hS.grow (N := v5.ownBlock.toList) k1 (fun q hq => hm0 q (.inr (.inl (mem_or hq)))) (fun q hq => by
    have hq := mem_or hq
    rcases hor with z | z
    · exact .inl (hm0 q (.inr (.inl (by rw [← z]; exact hq))))
    · rw [z] at hq; cases hq; exact .inr ⟨Nat.le_refl _, (ho.lt _ z).2⟩)
  refine ⟨⟨_, ⟨tb, ct, pos, kd2, hS2⟩, fun q hq => ?_⟩, q2 (by omega), ho, q4 (by omega), q5 (by omega), fun j kp hj => ?_, ⟨(old _ h.t.l).trans h.k.1, hv5, fun c hc => (old _ (h.o.lt c hc).2).trans (h.k.2.2.1 c hc), fun c hc => (old _ (h.b.lt c hc).2).trans (h.k.2.2.2 c hc)⟩, h.ns, h.ge, h.bel.grown hg h.bel.size (fun q hq => (h.i.lt q hq).1)⟩
  · rcases hq with e | e | e
    · exact List.mem_append_right _ (hm0 q (.inl e))
    · exact List.mem_append_left _ (by rw [e]; simp)
    · exact List.mem_append_right _ (hm0 q (.inr (.inr e)))
  · obtain ⟨g, c, h1, h2, h3, h4⟩ := h.y j kp hj
    exact ⟨g, c, h1, q6 (by omega) _ _ _ _ h4 h2, h3, (old g (byt_lt h2 (by omega))).trans h4⟩
theorem LW.outp (h : LW I w0 w G tok tk vi vo vb ins oo ob vs kd) {w5 : World} {v5 : Value} {oo' : List (Nat × Pt)} (ho : w5.ownsRow w0.heap.size 55 6 v5 oo'.length (sentC oo')) (hg : w.grownBy w5 vo.ownBlock) (hor : v5.ownBlock = vo.ownBlock ∨ v5.ownBlock = some w.heap.size) :
    LW I w0 w5 G tok tk vi v5 vb ins oo' ob vs (lab kd w.heap.size 3) := by
  have k1 : By.KF vo.ownBlock.toList w w5 := By.KF.grown1 hg
  have old : ∀ c, c < w.heap.size → lab kd w.heap.size 3 c = kd c := fun c hc => lab_ne (by omega)
  have hv5 : ∀ c, v5.ownBlock = some c → lab kd w.heap.size 3 c = 3 := fun c hc => by
    rcases hor with z | z
    · rw [z] at hc; rw [old _ (h.o.lt c hc).2]; exact h.k.2.2.1 c hc
    · rw [z] at hc; cases hc; exact lab_eq _ _ _
  obtain ⟨⟨L, hL, hm⟩, q2, q3, _, q5, q6⟩ := h.own (x := 3) k1 (fun q hq => ⟨h.k.2.2.1 q (mem_or hq), .inr (.inr (.inl (mem_or hq)))⟩)
  obtain ⟨L0, ⟨tb, ct, pos, kd', hS⟩, hm0⟩ := h.s
  obtain ⟨kd2, hS2⟩ := hS.grow (N := v5.ownBlock.toList) k1 (fun q hq => hm0 q (.inr (.inr (.inl (mem_or hq))))) (fun q hq => by
    have hq := mem_or hq
    rcases hor with z | z
    · exact .inl (hm0 q (.inr (.inr (.inl (by rw [← z]; exact hq)))))
    · rw [z] at hq; cases hq; exact .inr ⟨Nat.le_refl _, (ho.lt _ z).2⟩)
  refine ⟨⟨_, ⟨tb, ct, pos, kd2, hS2⟩, fun q hq => ?_⟩, q2 (by omega), q3 (by omega), ho, q5 (by omega), fun j kp hj => ?_, ⟨(old _ h.t.l).trans h.k.1, fun c hc => (old _ (h.i.lt c hc).2).trans (h.k.2.1 c hc), hv5, fun c hc => (old _ (h.b.lt c hc).2).trans (h.k.2.2.2 c hc)⟩, h.ns, h.ge, h.bel.grown hg h.bel.size (fun q hq => (h.o.lt q hq).1)⟩
  · rcases hq with e | e | e | e
    · exact List.mem_append_right _ (hm0 q (.inl e))
    · exact List.mem_append_right _ (hm0 q (.inr (.inl e)))
    · exact List.mem_append_left _ (by rw [e]; simp)
    · exact List.mem_append_right _ (hm0 q (.inr (.inr (.inr e))))
  · obtain ⟨g, c, h1, h2, h3, h4⟩ := h.y j kp hj
    exact ⟨g, c, h1, q6 (by omega) _ _ _ _ h4 h2, h3, (old g (byt_lt h2 (by omega))).trans h4⟩
theorem LW.byp (h : LW I w0 w G tok tk vi vo vb ins oo ob vs kd) {w5 : World} {v5 : Value} {o2 : List (Nat × Pt)} {vs2 : List Value} (ho : w5.ownsRow w0.heap.size 34 1 v5 (ob ++ o2).length (vs ++ vs2)) (hg : w.grownBy w5 vb.ownBlock) (hor : v5.ownBlock = vb.ownBlock ∨ v5.ownBlock = some w.heap.size)
    (hy : ∀ (j : Nat) (kp : Nat × Pt), o2[j]? = some kp → ∃ g c : Nat, vs2[j]? = some (Value.slice (some ⟨g, 0, none⟩) (8 + kp.2.d.length) c) ∧ Byt w (some ⟨g, 0, none⟩) (8 + kp.2.d.length) c (bldD kp.2) ∧ g ∉ I.ns ∧ kd g = 5) :
    LW I w0 w5 G tok tk vi vo v5 ins oo (ob ++ o2) (vs ++ vs2) (lab kd w.heap.size 4) := by
  have k1 : By.KF vb.ownBlock.toList w w5 := By.KF.grown1 hg
  have old : ∀ c, c < w.heap.size → lab kd w.heap.size 4 c = kd c := fun c hc => lab_ne (by omega)
  have hv5 : ∀ c, v5.ownBlock = some c → lab kd w.heap.size 4 c = 4 := fun c hc => by
    rcases hor with z | z
    · rw [z] at hc; rw [old _ (h.b.lt c hc).2]; exact h.k.2.2.2 c hc
    · rw [z] at hc; cases hc; exact lab_eq _ _ _
  obtain ⟨⟨L, hL, hm⟩, q2, q3, q4, _, q6⟩ := h.own (x := 4) k1 (fun q hq => ⟨h.k.2.2.2 q (mem_or hq), .inr (.inr (.inr (mem_or hq)))⟩)
  obtain ⟨L0, ⟨tb, ct, pos, kd', hS⟩, hm0⟩ := h.s
  obtain ⟨kd2, hS2⟩ := hS.grow (N := v5.ownBlock.toList) k1 (fun q hq => hm0 q (.inr (.inr (.inr (mem_or hq))))) (fun q hq => by
    have hq := mem_or hq
    rcases hor with z | z
    · exact .inl (hm0 q (.inr (.inr (.inr (by rw [← z]; exact hq)))))
    · rw [z] at hq; cases hq; exact .inr ⟨Nat.le_refl _, (ho.lt _ z).2⟩)
  have hvl : vs.length = ob.length := by have := h.b.1; omega
  refine ⟨⟨_, ⟨tb, ct, pos, kd2, hS2⟩, fun q hq => ?_⟩, q2 (by omega), q3 (by omega), q4 (by omega), ho, fun j kp hj => ?_, ⟨(old _ h.t.l).trans h.k.1, fun c hc => (old _ (h.i.lt c hc).2).trans (h.k.2.1 c hc), fun c hc => (old _ (h.o.lt c hc).2).trans (h.k.2.2.1 c hc), hv5⟩, h.ns, h.ge, h.bel.grown hg h.bel.size (fun q hq => (h.b.lt q hq).1)⟩
  · rcases hq with e | e | e | e
    · exact List.mem_append_right _ (hm0 q (.inl e))
    · exact List.mem_append_right _ (hm0 q (.inr (.inl e)))
    · exact List.mem_append_right _ (hm0 q (.inr (.inr (.inl e))))
    · exact List.mem_append_left _ (by rw [e]; simp)
  · by_cases e : j < ob.length
    · rw [List.getElem?_append_left e] at hj
      obtain ⟨g, c, h1, h2, h3, h4⟩ := h.y j kp hj
      exact ⟨g, c, by rw [List.getElem?_append_left (by omega)]; exact h1, q6 (by omega) _ _ _ _ h4 h2, h3, (old g (byt_lt h2 (by omega))).trans h4⟩
    · rw [List.getElem?_append_right (by omega)] at hj
      obtain ⟨g, c, h1, h2, h3, h4⟩ := hy _ kp hj
      exact ⟨g, c, by rw [List.getElem?_append_right (by omega), hvl]; exact h1, q6 (by omega) _ _ _ _ h4 h2, h3, (old g (byt_lt h2 (by omega))).trans h4⟩
end
end Sh
end Go.Proofs.Ytkefkophlhcbiaa
