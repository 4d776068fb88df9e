/- The shaper: what goes out is what came in (plain). -/
import Derived.Test.YtkefkophlhcbiaaS10
import Derived.Test.YtkefkophlhcbiaaJw2
namespace Go.Proofs.Ytkefkophlhcbiaa
open Go.ChangeShapes Go.WideShapes Go.ChangeAt Go.RowKit
set_option linter.unusedVariables false
set_option linter.unusedSimpArgs false
open BigFrame Pk Sh Fa Fq Jw
open By (Byt RowG blkO)
open Fp (Pt PQ PqP)

namespace Sh
/-- A slice of bytes that came in. -/
structure Iv where
  a : Option Addr
  n : Nat
  c : Nat
  d : List Nat
def iv0 : Iv := ⟨none, 0, 0, []⟩
def ivC (l : List Iv) : List Value := l.map fun v => .slice v.a v.n v.c
theorem getD_lt {d : List Nat} (h : ∀ x ∈ d, x < 256) (i : Nat) : d.getD i 0 < 256 := by
  by_cases hi : i < d.length
  · rw [List.getD_eq_getElem?_getD, List.getElem?_eq_getElem hi]; exact h _ (List.getElem_mem hi)
  · rw [List.getD_eq_getElem?_getD, List.getElem?_eq_none (by omega)]; simp
theorem gd_el (l : List Nat) (i : Nat) (h : i < l.length) : l.getD i 0 = l[i] := by
  rw [List.getD_eq_getElem?_getD, List.getElem?_eq_getElem h]
  rfl
/-- A good packet is built again as it was. -/
theorem bld_good {d : List Nat} (hb : ∀ x ∈ d, x < 256) (h : goodD d) (x : Int) : bldD ⟨x, dT d, dC d, d.drop 8⟩ = d := by
  have h8 := h.1
  have q := (good_iff (n := d.length) (F := fun i => d.getD i 0) (fun i _ => getD_lt hb i) h.1 h.2.1 h.2.2.2.1 h.2.2.2.2.1).2 h
  have e : (fun i => (d.drop 8).getD i 0) = fun i => d.getD (8 + i) 0 := funext fun i => by
    simp [List.getD]
  have hl : (d.drop 8).length = d.length - 8 := List.length_drop
  unfold bldD
  show pkL (dT d).toNat (dC d).toNat (d.drop 8).length (pkC (dT d).toNat (dC d).toNat (d.drop 8).length (fun i => (d.drop 8).getD i 0)) (fun i => (d.drop 8).getD i 0) = d
  rw [hl, e, show (dT d).toNat = d.getD 1 0 from Int.toNat_natCast _, show (dC d).toNat = d.getD 2 0 from Int.toNat_natCast _]
  refine List.ext_getElem (by rw [pkL_len]; omega) fun i h1 h2 => ?_
  have q2 := q i h2
  change (pkL (d.getD 1 0) (d.getD 2 0) (d.length - 8) (pkC (d.getD 1 0) (d.getD 2 0) (d.length - 8) (fun i => d.getD (8 + i) 0)) (fun i => d.getD (8 + i) 0)).getD i 0 = d.getD i 0 at q2
  exact (gd_el _ _ h1).symm.trans (q2.trans (gd_el _ _ h2))
/-- The numbers of a flow's packets: those that went out, those that wait. -/
def seqK (out : List (Nat × Pt)) (Q : Nat → List Pt) (k : Nat) : List Int := (out.filterMap fun kp => if kp.1 = k then some kp.2.x else none) ++ (Q k).map fun p => p.x
def ValidP (I : Ids) (ins : List Iv) (k : Nat) (p : Pt) : Prop := ∃ (j : Nat) (iv : Iv), ins[j]? = some iv ∧ p.x = (j : Int) + 1 ∧ goodD iv.d ∧ flowE I.T I.N (dT iv.d) (dC iv.d) = 0 ∧ dK I iv.d = k ∧ p.t = dT iv.d ∧ p.C = dC iv.d ∧ p.d = iv.d.drop 8
theorem ValidP.mono {I : Ids} {ins : List Iv} {k : Nat} {p : Pt} (h : ValidP I ins k p) (r : List Iv) : ValidP I (ins ++ r) k p := by
  obtain ⟨j, iv, h1, h2⟩ := h
  exact ⟨j, iv, by rw [List.getElem?_append_left (List.getElem?_eq_some_iff.1 h1).1]; exact h1, h2⟩
theorem ValidP.le {I : Ids} {ins : List Iv} {k : Nat} {p : Pt} (h : ValidP I ins k p) : 1 ≤ p.x ∧ p.x ≤ (ins.length : Int) := by
  obtain ⟨j, iv, h1, h2, _⟩ := h
  have := (List.getElem?_eq_some_iff.1 h1).1
  omega
/-- What holds of what came in, what went out, what waits. -/
structure WI (I : Ids) (G : Gs) (ins : List Iv) (out : List (Nat × Pt)) : Prop where
  n : ins.length = G.came
  q : ∀ k, k < I.N → ∀ p, p ∈ G.Q k → ValidP I ins k p
  o : ∀ kp, kp ∈ out → kp.1 < I.N ∧ ValidP I ins kp.1 kp.2
  s : ∀ k, k < I.N → (seqK out G.Q k).Pairwise (· < ·)
  c : G.came = out.length + totQ G.Q I.N
theorem WI.le {I : Ids} {G : Gs} {ins : List Iv} {out : List (Nat × Pt)} (h : WI I G ins out) {k : Nat} (hk : k < I.N) : ∀ x, x ∈ seqK out G.Q k → x ≤ (G.came : Int) := fun x hx => by
  unfold seqK at hx
  rcases List.mem_append.1 hx with z | z
  · obtain ⟨kp, h1, h2⟩ := List.mem_filterMap.1 z
    split at h2
    · cases h2
      have := ((h.o kp h1).2).le
      have := h.n
      omega
    · cases h2
  · obtain ⟨p, h1, rfl⟩ := List.mem_map.1 z
    have := (h.q k hk p h1).le
    have := h.n
    omega
theorem WI.same {I : Ids} {G G' : Gs} {ins : List Iv} {out : List (Nat × Pt)} (h : WI I G ins out) (hQ : G'.Q = G.Q) (hc : G'.came = G.came) : WI I G' ins out :=
  ⟨by rw [hc]; exact h.n, by rw [hQ]; exact h.q, h.o, by rw [hQ]; exact h.s, by rw [hQ, hc]; exact h.c⟩
theorem WI.in_ {I : Ids} {G : Gs} {ins : List Iv} {out : List (Nat × Pt)} (h : WI I G ins out) (iv : Iv) (hok : inOk I iv.d G) (hk : dK I iv.d < I.N) : WI I (inG I iv.d G) (ins ++ [iv]) out := by
  have hv : ValidP I (ins ++ [iv]) (dK I iv.d) (inPt iv.d G) := ⟨ins.length, iv, by rw [List.getElem?_append_right (Nat.le_refl _), Nat.sub_self]; rfl, by show (G.came : Int) + 1 = _; rw [h.n], hok.1, hok.2.1, rfl, rfl, rfl, rfl⟩
  refine ⟨by rw [List.length_append, List.length_singleton, h.n]; rfl, fun k hk' p hp => ?_, fun kp hkp => ⟨(h.o kp hkp).1, ((h.o kp hkp).2).mono _⟩, fun k hk' => ?_, ?_⟩
  · have hp' : p ∈ upQ G.Q (dK I iv.d) (G.Q (dK I iv.d) ++ [inPt iv.d G]) k := hp
    unfold upQ at hp'
    by_cases e : k = dK I iv.d
    · subst e
      simp only [if_true] at hp'
      rcases List.mem_append.1 hp' with z | z
      · exact (h.q _ hk' p z).mono _
      · rw [List.mem_singleton] at z; subst z; exact hv
    · simp only [if_neg e] at hp'
      exact (h.q k hk' p hp').mono _
  · have hs := h.s k hk'
    show (seqK out (upQ G.Q (dK I iv.d) (G.Q (dK I iv.d) ++ [inPt iv.d G])) k).Pairwise (· < ·)
    by_cases e : k = dK I iv.d
    · have e2 : seqK out (upQ G.Q (dK I iv.d) (G.Q (dK I iv.d) ++ [inPt iv.d G])) k = seqK out G.Q k ++ [(G.came : Int) + 1] := by
        subst e
        unfold seqK upQ
        simp only [if_true, List.map_append, List.append_assoc]
        rfl
      rw [e2]
      refine List.pairwise_append.2 ⟨hs, List.pairwise_singleton _ _, fun x hx y hy => ?_⟩
      rw [List.mem_singleton] at hy
      subst hy
      have := h.le hk' x hx
      omega
    · have e2 : seqK out (upQ G.Q (dK I iv.d) (G.Q (dK I iv.d) ++ [inPt iv.d G])) k = seqK out G.Q k := by
        unfold seqK upQ
        simp only [if_neg e]
      rw [e2]
      exact hs
  · have t := totQ_up (Q := G.Q) (l := G.Q (dK I iv.d) ++ [inPt iv.d G]) I.N hk
    rw [List.length_append, List.length_singleton] at t
    have := h.c
    show G.came + 1 = out.length + totQ (upQ G.Q (dK I iv.d) (G.Q (dK I iv.d) ++ [inPt iv.d G])) I.N
    omega
theorem WI.step {I : Ids} {G : Gs} {ins : List Iv} {out : List (Nat × Pt)} (h : WI I G ins out) {k : Nat} {p : Pt} {l : List Pt} (st : Step I G k p l) : WI I (popG I G k p l) ins (out ++ [(k, p)]) := by
  obtain ⟨_, _, _, hk, hq, _⟩ := st
  refine ⟨h.n, fun j hj p' hp => ?_, fun kp hkp => ?_, fun j hj => ?_, ?_⟩
  · have hp' : p' ∈ upQ G.Q k l j := hp
    unfold upQ at hp'
    by_cases e : j = k
    · subst e
      simp only [if_true] at hp'
      exact h.q j hj p' (by rw [hq]; exact List.mem_cons_of_mem _ hp')
    · simp only [if_neg e] at hp'
      exact h.q j hj p' hp'
  · rcases List.mem_append.1 hkp with z | z
    · exact h.o kp z
    · rw [List.mem_singleton] at z
      subst z
      exact ⟨hk, h.q k hk p (by rw [hq]; exact List.mem_cons_self ..)⟩
  · have hs := h.s j hj
    have e2 : seqK (out ++ [(k, p)]) (upQ G.Q k l) j = seqK out G.Q j := by
      unfold seqK upQ
      rw [List.filterMap_append]
      by_cases e : j = k
      · subst e
        simp [hq]
      · simp only [if_neg e]
        have : ¬ k = j := fun z => e z.symm
        simp [this]
    show (seqK (out ++ [(k, p)]) (upQ G.Q k l) j).Pairwise (· < ·)
    rw [e2]
    exact hs
  · have t := totQ_up (Q := G.Q) (l := l) I.N hk
    rw [hq, List.length_cons] at t
    have := h.c
    rw [List.length_append, List.length_singleton]
    show G.came = out.length + 1 + totQ (upQ G.Q k l) I.N
    omega
theorem WI.run {I : Ids} {G G1 : Gs} {ins : List Iv} {out o2 : List (Nat × Pt)} (h : WI I G ins out) (r : Run I G o2 G1) : WI I G1 ins (out ++ o2) := by
  induction r with
  | nil => rw [List.append_nil]; exact h
  | snoc r st ih =>
    have := ih.step st
    rw [List.append_assoc] at this
    exact this
/-- The record of what went out. -/
def recJ (I : Ids) (ins : List Iv) (out : List (Nat × Pt)) : Jd where
  ni := ins.length
  no := out.length
  nb := out.length
  N := I.N
  D := fun i => (ins.getD i iv0).d
  E := fun i => (out.map fun kp => bldD kp.2).getD i []
  T := I.T
  S := fun i j => match out[i]? with
    | none => 0
    | some kp => match j with
      | 2 => kp.2.t
      | 3 => (kp.1 : Nat)
      | 4 => 8 + (kp.2.d.length : Int)
      | 5 => kp.2.x
      | _ => 0
theorem WI.whole {I : Ids} {G : Gs} {ins : List Iv} {out : List (Nat × Pt)} (h : WI I G ins out) (hb : ∀ iv, iv ∈ ins → ∀ x ∈ iv.d, x < 256) : (recJ I ins out).whole := by
  refine ⟨rfl, fun i hi => ?_⟩
  have hi' : i < out.length := hi
  obtain ⟨⟨k, p⟩, hkp⟩ : ∃ kp, out[i]? = some kp := ⟨_, List.getElem?_eq_getElem hi'⟩
  obtain ⟨hkN, j, iv, hj, hx, hg, hfe, hdk, ht, hC, hd⟩ := h.o (k, p) (List.mem_of_getElem? hkp)
  have hjl := (List.getElem?_eq_some_iff.1 hj).1
  simp only at hx ht hC hd hdk hkN
  have s5 : (recJ I ins out).S i 5 = p.x := by simp [recJ, hkp]
  have s2 : (recJ I ins out).S i 2 = p.t := by simp [recJ, hkp]
  have s3 : (recJ I ins out).S i 3 = (k : Nat) := by simp [recJ, hkp]
  have s4 : (recJ I ins out).S i 4 = 8 + (p.d.length : Int) := by simp [recJ, hkp]
  have eb : (recJ I ins out).b i = iv.d := by
    unfold Jd.b
    rw [s5, hx, show ((j : Int) + 1).toNat - 1 = j by omega]
    show (ins.getD j iv0).d = iv.d
    rw [List.getD_eq_getElem?_getD, hj]
    rfl
  have hbl := bld_good (hb iv (List.mem_of_getElem? hj)) hg p.x
  have ep : p = ⟨p.x, dT iv.d, dC iv.d, iv.d.drop 8⟩ := by
    cases p
    simp only at ht hC hd
    subst ht hC hd
    rfl
  have et : (recJ I ins out).t i = dT iv.d := by unfold Jd.t; rw [eb]; rfl
  have eC : (recJ I ins out).C i = dC iv.d := by unfold Jd.C; rw [eb]; rfl
  have h8 := hg.1
  obtain ⟨k', hk', _, _⟩ := flow_ok hfe
  refine ⟨⟨by rw [s5]; omega, by rw [s5, hx]; show (j : Int) + 1 ≤ (ins.length : Int); omega, by rw [eb]; exact hg, by rw [et, eC]; exact hfe, ?_, by rw [s2, et, ht], ?_, ?_⟩, fun j2 hj2 hc => ?_⟩
  · rw [eb]
    show iv.d = (out.map fun kp => bldD kp.2).getD i []
    rw [List.getD_eq_getElem?_getD, List.getElem?_map, hkp]
    show iv.d = bldD p
    rw [ep]
    exact hbl.symm
  · rw [s3, et, eC]
    show _ = flowI I.T I.N (dT iv.d) (dC iv.d)
    unfold dK at hdk
    rw [hk'] at hdk ⊢
    omega
  · rw [s4, eb, hd, List.length_drop]
    omega
  · obtain ⟨⟨k2, p2⟩, hkp2⟩ : ∃ kp, out[j2]? = some kp := ⟨_, List.getElem?_eq_getElem (by omega)⟩
    obtain ⟨hkN2, j3, iv2, hj3, hx2, _, _, hdk2, _⟩ := h.o (k2, p2) (List.mem_of_getElem? hkp2)
    simp only at hx2 hdk2 hkN2
    have t5 : (recJ I ins out).S j2 5 = p2.x := by simp [recJ, hkp2]
    have t3 : (recJ I ins out).S j2 3 = (k2 : Nat) := by simp [recJ, hkp2]
    have key : k2 = k → p2.x < p.x := fun e => by
      subst e
      have hs := (List.pairwise_append.1 (h.s k2 hkN2)).1
      rw [List.pairwise_filterMap] at hs
      have z := (List.pairwise_iff_getElem.1 hs) j2 i (by omega) hi' hj2
      have g1 := (List.getElem?_eq_some_iff.1 hkp2).2
      have g2 := (List.getElem?_eq_some_iff.1 hkp).2
      rw [g1, g2] at z
      exact z p2.x (by simp) p.x (by simp)
    rcases hc with q | ⟨q1, q2⟩
    · rw [t5, s5] at q
      have e : j3 = j := by omega
      subst e
      rw [hj] at hj3
      cases hj3
      have := key (by omega)
      omega
    · rw [t3, s3] at q1
      rw [s5, t5] at q2
      have := key (by omega)
      omega
end Sh
end Go.Proofs.Ytkefkophlhcbiaa
