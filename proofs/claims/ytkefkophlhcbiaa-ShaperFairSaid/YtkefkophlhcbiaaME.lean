/- The shaper: shares along a stretch (plain). The shaper: a flow's share along pumps (plain). The shaper: the document's judgement of a stretch; whether flows have tenants of their own. The shaper: the law's pump with a stretch. The shaper: what the law of shares keeps (plain). -/
import Derived.Test.YtkefkophlhcbiaaS13
import Derived.Test.YtkefkophlhcbiaaMD
import Derived.Test.YtkefkophlhcbiaaJF
import Derived.Test.YtkefkophlhcbiaaS12
import Derived.Deep.Cut
import Derived.Deep.CutRange
namespace Go.Proofs.Ytkefkophlhcbiaa
open Go.ChangeShapes Go.WideShapes Go.ChangeAt Go.RowKit
set_option linter.unusedVariables false
set_option linter.unusedSimpArgs false
open BigFrame Pk Fq Sh Fa Fb
open Vr hiding cellB
open Fp (Pt PQ)

namespace Sh
theorem BI.mono {N : Nat} {ALL most own most2 own2 : Int} {fl : Nat} {W : Nat → Int} {x : Sched} (h : BI N ALL 720720 most own fl W x) (hm : most ≤ most2) (ho : own ≤ own2) (hW : W fl ≤ ALL) (hA : 0 ≤ ALL) : BI N ALL 720720 most2 own2 fl W x := by
  refine ⟨fun i hi => ⟨(h.z i hi).1, by have := (h.z i hi).2; omega⟩, by have := h.zo; omega, h.d, h.sf, h.tag, ?_, fun X hX => ?_⟩
  · have h1 := h.a
    have h2 : own * (ALL - W fl) * 720720 ≤ own2 * (ALL - W fl) * 720720 := Int.mul_le_mul_of_nonneg_right (Int.mul_le_mul_of_nonneg_right ho (by omega)) (by omega)
    exact Int.le_trans h1 h2
  · have h1 := h.b X hX
    have h2 : ALL * 720720 * most ≤ ALL * 720720 * most2 := Int.mul_le_mul_of_nonneg_left hm (Int.mul_nonneg hA (by omega))
    omega
theorem Qk.mono {w ALL own own2 dA dM V T : Int} (h : Qk w ALL own dA dM V T) (ho : own ≤ own2) (hw : w ≤ ALL) : Qk w ALL own2 dA dM V T := by
  unfold Qk at *
  have h2 : own * (ALL - w) * 720720 ≤ own2 * (ALL - w) * 720720 := Int.mul_le_mul_of_nonneg_right (Int.mul_le_mul_of_nonneg_right ho (by omega)) (by omega)
  omega
/-- The share of a stretch of which all weighs dA and the flow's dM. -/
def Bnd (w ALL own most dA dM : Int) : Prop := w * dA - (2 * own * ALL + (most - 2 * own) * w) ≤ dM * ALL
theorem Bnd.mono {w ALL own most own2 most2 dA dM : Int} (h : Bnd w ALL own most dA dM) (ho : own ≤ own2) (hm : most ≤ most2) (hw : 0 ≤ w) (hA : w ≤ ALL) : Bnd w ALL own2 most2 dA dM := by
  unfold Bnd at *
  have h1 : (own2 - own) * w ≤ (own2 - own) * ALL := Int.mul_le_mul_of_nonneg_left hA (by omega)
  have h2 : 0 ≤ (most2 - most) * w := Int.mul_nonneg (by omega) hw
  rw [Int.sub_mul, Int.sub_mul] at h1
  rw [Int.sub_mul] at h2
  have e1 : 2 * own * ALL = 2 * (own * ALL) := Int.mul_assoc _ _ _
  have e2 : 2 * own2 * ALL = 2 * (own2 * ALL) := Int.mul_assoc _ _ _
  have e3 : (most - 2 * own) * w = most * w - 2 * (own * w) := by rw [Int.sub_mul, Int.mul_assoc]
  have e4 : (most2 - 2 * own2) * w = most2 * w - 2 * (own2 * w) := by rw [Int.sub_mul, Int.mul_assoc]
  rw [e1, e3] at h
  rw [e2, e4]
  omega
/-- Sums up to an entry. -/
def put (d : Nat → Int) (n : Nat) (m : Int) : Nat → Int := fun i => if i = n + 1 then d n + m else d i
theorem put_new (d : Nat → Int) (n : Nat) (m : Int) : put d n m (n + 1) = d n + m := if_pos rfl
theorem put_old (d : Nat → Int) {n i : Nat} (m : Int) (h : i ≤ n) : put d n m i = d i := if_neg (by omega)
/-- What holds along a stretch: its entries' sums, all and the flow's. -/
structure BF (I : Ids) (G : Gs) (fl : Nat) (least most : Int) (n : Nat) (da dm : Nat → Int) : Prop where
  bi : BI I.N I.ALL 720720 most least fl I.W G.x
  hs : 0 < G.x.Z fl → G.x.D fl = false → ∃ p l, G.Q fl = p :: l ∧ G.x.Z fl = 8 + (p.d.length : Int)
  qm : (∀ i, i < I.N → ∀ p, p ∈ G.Q i → 8 + (p.d.length : Int) ≤ most) ∧ ∀ p, p ∈ G.Q fl → 8 + (p.d.length : Int) ≤ least
  nn : 0 ≤ most ∧ 0 ≤ least
  rd : 0 < n → 0 < G.x.Z fl
  qk : ∀ j, j < n → Qk (I.W fl) I.ALL least (da n - da j) (dm n - dm j) G.x.V (nx (G.x.Z fl) (G.x.D fl) (G.x.S fl) (G.x.F fl))
  ok : ∀ j k, j < k → k ≤ n → Bnd (I.W fl) I.ALL least most (da k - da j) (dm k - dm j)
/-- What is known of a shaper's weights. -/
structure WOk (I : Ids) (G : Gs) (fl : Nat) (M : Int) : Prop where
  inv : Inv M I.ALL G.x.V I.N I.W G.x.Z G.x.D G.x.S G.x.F
  all : sumW I.W I.N = I.ALL
  fl : fl < I.N
  pk : ∀ i, i < I.N → ∀ p, p ∈ G.Q i → PtOk (I.T i) p
section
variable {I : Ids} {G : Gs} {fl n : Nat} {least most : Int} {da dm : Nat → Int} {M : Int}
theorem WOk.w (h : WOk I G fl M) : ∀ i, i < I.N → 1 ≤ I.W i ∧ I.W i ≤ I.ALL := fun i hi => ⟨(h.inv.w i hi).1, (h.inv.w i hi).2.2⟩
theorem BF.mono (B : BF I G fl least most n da dm) (H : WOk I G fl M) {least2 most2 : Int} (hl : least ≤ least2) (hm : most ≤ most2) : BF I G fl least2 most2 n da dm := by
  have hw := H.w fl H.fl
  exact ⟨BI.mono B.bi hm hl hw.2 (by omega), B.hs, ⟨fun i hi p hp => by have := B.qm.1 i hi p hp; omega, fun p hp => by have := B.qm.2 p hp; omega⟩, ⟨by have := B.nn; omega, by have := B.nn; omega⟩, B.rd, fun j hj => Qk.mono (B.qk j hj) hl hw.2, fun j k h1 h2 => (B.ok j k h1 h2).mono hl hm (by omega) hw.2⟩
theorem BF.reset (B : BF I G fl least most n da dm) (da2 dm2 : Nat → Int) : BF I G fl least most 0 da2 dm2 :=
  ⟨B.bi, B.hs, B.qm, B.nn, fun h => absurd h (by omega), fun j hj => absurd hj (by omega), fun j k h1 h2 => absurd h2 (by omega)⟩
theorem hd_le (B : BF I G fl least most n da dm) : (∀ i, i < I.N → hd I G i ≤ most) ∧ hd I G fl ≤ least := by
  have key : ∀ (i : Nat) (b : Int), 0 ≤ b → (∀ p, p ∈ G.Q i → 8 + (p.d.length : Int) ≤ b) → hd I G i ≤ b := fun i b hb h => by
    unfold hd
    cases hq : G.Q i with
    | nil => exact hb
    | cons p l =>
      have := h p (by rw [hq]; exact List.mem_cons_self ..)
      simp only
      split
      · exact this
      · exact hb
  exact ⟨fun i hi => key i most B.nn.1 (B.qm.1 i hi), key fl least B.nn.2 B.qm.2⟩
/-- The calls that leave queues' heads and the scheduler as they were. -/
theorem BF.same (B : BF I G fl least most n da dm) {G' : Gs} (hx : G'.x = G.x) (hQ : G'.Q = G.Q) : BF I G' fl least most n da dm := by
  refine ⟨by rw [hx]; exact B.bi, by rw [hx, hQ]; exact B.hs, by rw [hQ]; exact B.qm, B.nn, by rw [hx]; exact B.rd, by rw [hx]; exact B.qk, B.ok⟩
theorem hd_head {p : Pt} {l : List Pt} (hq : G.Q fl = p :: l) (h : 0 < hd I G fl) : hd I G fl = 8 + (p.d.length : Int) := by
  unfold hd at h ⊢
  rw [hq] at h ⊢
  simp only at h ⊢
  split at h
  · rename_i z; rw [if_pos z]
  · omega
/-- A pick at which none may go. -/
theorem BF.fail (B : BF I G fl least most n da dm) (H : WOk I G fl M) (hno : (pk I G).ok = false) (da2 dm2 : Nat → Int) : BF I (noG I G) fl least most 0 da2 dm2 := by
  have hl := hd_le B
  obtain ⟨b1, b2, b3⟩ := B.bi.told H.inv H.all H.fl (hd_ok H.pk) hl.1 hl.2 B.nn.1 B.nn.2
  have hnot : ∀ i, i < I.N → ¬ 0 < hd I G i := fun i hi h => by have := pk_some hi h; rw [hno] at this; cases this
  have ex : (noG I G).x = toldN I.N I.ALL G.x.V I.W G.x.Z G.x.D G.x.S G.x.F (hd I G) := by
    show (pk I G).x = _
    unfold pk pickX
    rw [if_pos]
    refine Classical.byContradiction fun q => ?_
    have h1 := leastK_yes (O := (toldN I.N I.ALL G.x.V I.W G.x.Z G.x.D G.x.S G.x.F (hd I G)).S) (m := rdy (hd I G)) (n := I.N) (by omega)
    have h2 := (leastK_lt (toldN I.N I.ALL G.x.V I.W G.x.Z G.x.D G.x.S G.x.F (hd I G)).S (rdy (hd I G)) I.N).2
    exact hnot (leastK (toldN I.N I.ALL G.x.V I.W G.x.Z G.x.D G.x.S G.x.F (hd I G)).S (rdy (hd I G)) I.N).toNat (by omega) (by simpa [rdy] using h1.1)
  refine ⟨by rw [ex]; exact b1, fun hz _ => ?_, B.qm, B.nn, fun h => absurd h (by omega), fun j hj => absurd hj (by omega), fun j k h1 h2 => absurd h2 (by omega)⟩
  rw [ex, b3 fl H.fl] at hz
  exact absurd hz (hnot fl H.fl)
/-- A packet goes out. -/
theorem BF.step (B : BF I G fl least most n da dm) (H : WOk I G fl M) {k : Nat} {p : Pt} {l : List Pt} (st : Step I G k p l) :
    (¬ 0 < hd I G fl → BF I (popG I G k p l) fl least most 0 (fun _ => 0) (fun _ => 0)) ∧
    (0 < hd I G fl → BF I (popG I G k p l) fl least most (n + 1) (put da n (8 + (p.d.length : Int))) (put dm n (if k = fl then 8 + (p.d.length : Int) else 0))) := by
  obtain ⟨_, hok, hkE, hkN, hq, hfit⟩ := st
  have hl := hd_le B
  have hdk : hd I G k = 8 + (p.d.length : Int) := by
    unfold hd
    rw [hq]
    simp only
    rw [if_pos hfit]
  obtain ⟨b1, b2, b3⟩ := B.bi.told H.inv H.all H.fl (hd_ok H.pk) hl.1 hl.2 B.nn.1 B.nn.2
  have S := pick_yes (h := hd I G) (y := toldN I.N I.ALL G.x.V I.W G.x.Z G.x.D G.x.S G.x.F (hd I G)) ⟨k, hkN, by rw [hdk]; omega⟩
  have b4 := b1.pick b2 b3 H.w H.all H.fl B.nn.1 B.nn.2 S
  have S2 := S
  have hnx := fun (hr : 0 < hd I G fl) => nx_pick b1 b2 b3 H.fl hr S2
  have hsame := fun (hz : 0 < G.x.Z fl) (hr : 0 < hd I G fl) => nx_same (V := G.x.V) (z := G.x.Z fl) (n := hd I G fl) (c := costI (hd I G fl) (I.W fl) I.ALL) (s := G.x.S fl) (f := G.x.F fl) (d := G.x.D fl) hz hr (fun hdd => by
    obtain ⟨p2, l2, e1, e2⟩ := B.hs hz hdd
    rw [e2, hd_head e1 hr])
  have eV : (toldN I.N I.ALL G.x.V I.W G.x.Z G.x.D G.x.S G.x.F (hd I G)).V = G.x.V := rfl
  have eS : (toldN I.N I.ALL G.x.V I.W G.x.Z G.x.D G.x.S G.x.F (hd I G)).S fl = hrS G.x.V (G.x.S fl) (G.x.F fl) (G.x.Z fl) (hd I G fl) (costI (hd I G fl) (I.W fl) I.ALL) (G.x.D fl) := mix_lt _ G.x.S H.fl
  have eF : (toldN I.N I.ALL G.x.V I.W G.x.Z G.x.D G.x.S G.x.F (hd I G)).F fl = hrF G.x.V (G.x.S fl) (G.x.F fl) (G.x.Z fl) (hd I G fl) (costI (hd I G fl) (I.W fl) I.ALL) (G.x.D fl) := mix_lt _ G.x.F H.fl
  have epk : (pk I G) = pickX I.N (hd I G) (toldN I.N I.ALL G.x.V I.W G.x.Z G.x.D G.x.S G.x.F (hd I G)) := rfl
  have exx : (popG I G k p l).x = (pk I G).x := rfl
  rw [epk] at hkE exx
  generalize toldN I.N I.ALL G.x.V I.W G.x.Z G.x.D G.x.S G.x.F (hd I G) = y at b1 b2 b3 S b4 S2 hnx eV eS eF hkE exx
  obtain ⟨k1, V1, hp, hk, hpos, hV1, _, _, _⟩ := S
  rw [hp] at b4 hnx hkE exx
  obtain rfl : k1 = k := by have : ((k1 : Nat) : Int) = (k : Int) := hkE; omega
  have hQ' : ∀ i, (popG I G k1 p l).Q i = if i = k1 then l else G.Q i := fun i => rfl
  have hqm : (∀ i, i < I.N → ∀ q, q ∈ (popG I G k1 p l).Q i → 8 + (q.d.length : Int) ≤ most) ∧ ∀ q, q ∈ (popG I G k1 p l).Q fl → 8 + (q.d.length : Int) ≤ least := by
    refine ⟨fun i hi q hq2 => ?_, fun q hq2 => ?_⟩
    · rw [hQ'] at hq2
      split at hq2
      · rename_i e; subst e; exact B.qm.1 i hi q (by rw [hq]; exact List.mem_cons_of_mem _ hq2)
      · exact B.qm.1 i hi q hq2
    · rw [hQ'] at hq2
      split at hq2
      · rename_i e; subst e; exact B.qm.2 q (by rw [hq]; exact List.mem_cons_of_mem _ hq2)
      · exact B.qm.2 q hq2
  have hhs : 0 < (popG I G k1 p l).x.Z fl → (popG I G k1 p l).x.D fl = false → ∃ p2 l2, (popG I G k1 p l).Q fl = p2 :: l2 ∧ (popG I G k1 p l).x.Z fl = 8 + (p2.d.length : Int) := fun hz hdd => by
    rw [exx] at hz hdd ⊢
    have hz' : 0 < y.Z fl := hz
    have hdd' : upb y.D k1 true fl = false := hdd
    have hne : fl ≠ k1 := fun e => by subst e; simp [upb] at hdd'
    rw [b3 fl H.fl] at hz'
    obtain ⟨p2, l2, e1, e2⟩ := hd_pos hz'
    refine ⟨p2, l2, by rw [hQ', if_neg hne]; exact e1, ?_⟩
    show y.Z fl = _
    rw [b3 fl H.fl]
    exact hd_head e1 hz'
  refine ⟨fun hnr => ⟨by rw [exx]; exact b4, hhs, hqm, B.nn, fun h => absurd h (by omega), fun j hj => absurd hj (by omega), fun j k h1 h2 => absurd h2 (by omega)⟩, fun hr => ?_⟩
  obtain ⟨k', e1, _, _, _, hV, _, _, hT⟩ := hnx hr
  obtain rfl : k' = k1 := by have : ((k1 : Nat) : Int) = (k' : Int) := e1; omega
  have hV' : y.V + (8 + (p.d.length : Int)) * 720720 ≤ V1 + hd I G k' * 720720 := by rw [← hdk]; exact hV
  have hT' : I.W fl * (nx (y.Z fl) (upb y.D k' true fl) (y.S fl) (y.F fl) - nx (y.Z fl) (y.D fl) (y.S fl) (y.F fl)) = (if k' = fl then 8 + (p.d.length : Int) else 0) * I.ALL * 720720 := by rw [← hdk]; exact hT
  have hzf : 0 < y.Z fl := by rw [b3 fl H.fl]; exact hr
  have hwf := H.w fl H.fl
  have hfar := b1.far H.w H.fl hzf
  have hfar2 := b4.far H.w H.fl hzf
  have hQk : ∀ j, j < n + 1 → Qk (I.W fl) I.ALL least (put da n (8 + (p.d.length : Int)) (n + 1) - put da n (8 + (p.d.length : Int)) j) (put dm n (if k' = fl then 8 + (p.d.length : Int) else 0) (n + 1) - put dm n (if k' = fl then 8 + (p.d.length : Int) else 0) j) (V1 + hd I G k' * 720720) (nx (y.Z fl) (upb y.D k' true fl) (y.S fl) (y.F fl)) := fun j h2 => by
    rw [put_new, put_new, put_old da _ (by omega), put_old dm _ (by omega)]
    by_cases e : j = n
    · subst e
      rw [show da j + (8 + (p.d.length : Int)) - da j = 8 + (p.d.length : Int) by omega, show dm j + (if k' = fl then 8 + (p.d.length : Int) else 0) - dm j = (if k' = fl then 8 + (p.d.length : Int) else 0) by omega]
      exact Qk.new hfar.2 (by omega) hV' hT'
    · have hz := B.rd (by omega)
      have h3 := B.qk j (by omega)
      have h4 : nx (G.x.Z fl) (G.x.D fl) (G.x.S fl) (G.x.F fl) = nx (y.Z fl) (y.D fl) (y.S fl) (y.F fl) := by
        rw [b3 fl H.fl, b2 fl H.fl, eS, eF]; exact (hsame hz hr).symm
      rw [h4, ← eV] at h3
      have := h3.step (by omega) hV' hT'
      rw [show da n + (8 + (p.d.length : Int)) - da j = da n - da j + (8 + (p.d.length : Int)) by omega, show dm n + (if k' = fl then 8 + (p.d.length : Int) else 0) - dm j = dm n - dm j + (if k' = fl then 8 + (p.d.length : Int) else 0) by omega]
      exact this
  refine ⟨by rw [exx]; exact b4, hhs, hqm, B.nn, fun _ => by rw [exx]; exact hzf, fun j hj => by rw [exx]; exact hQk j hj, fun j k h1 h2 => ?_⟩
  by_cases e : k = n + 1
  · subst e
    exact (hQk j (by omega)).holds hfar2.1
  · rw [put_old da _ (by omega), put_old da _ (by omega), put_old dm _ (by omega), put_old dm _ (by omega)]
    exact B.ok j k h1 (by omega)
end
end Sh
end Go.Proofs.Ytkefkophlhcbiaa
namespace Go.Proofs.Ytkefkophlhcbiaa
open Go.ChangeShapes Go.WideShapes Go.ChangeAt Go.RowKit
set_option linter.unusedVariables false
set_option linter.unusedSimpArgs false
open BigFrame Pk Fq Sh Fa Fb
open Vr hiding cellB
open Fp (Pt PQ)

namespace Sh
theorem BF.congr {I : Ids} {G : Gs} {fl n : Nat} {least most : Int} {da dm da2 dm2 : Nat → Int} (B : BF I G fl least most n da dm) (h1 : ∀ j, j ≤ n → da j = da2 j) (h2 : ∀ j, j ≤ n → dm j = dm2 j) : BF I G fl least most n da2 dm2 :=
  ⟨B.bi, B.hs, B.qm, B.nn, B.rd, fun j hj => by rw [← h1 n (Nat.le_refl _), ← h1 j (by omega), ← h2 n (Nat.le_refl _), ← h2 j (by omega)]; exact B.qk j hj, fun j k a b => by rw [← h1 k b, ← h1 j (by omega), ← h2 k b, ← h2 j (by omega)]; exact B.ok j k a b⟩
def szO (st : List (Nat × Int)) (i : Nat) : Int := (st.getD i (0, 0)).2
def miO (fl : Nat) (st : List (Nat × Int)) (i : Nat) : Int := if (st.getD i (0, 0)).1 = fl then (st.getD i (0, 0)).2 else 0
theorem sumW_congr {a b : Nat → Int} : ∀ n, (∀ i, i < n → a i = b i) → sumW a n = sumW b n
  | 0, _ => rfl
  | n + 1, h => by simp only [sumW]; rw [sumW_congr n (fun i hi => h i (by omega)), h n (by omega)]
/-- A stretch as a list: what holds of it. -/
def PF (I : Ids) (G : Gs) (fl : Nat) (least most : Int) (st : List (Nat × Int)) : Prop := BF I G fl least most st.length (sumW (szO st)) (sumW (miO fl st))
theorem getD_old (st : List (Nat × Int)) (x : Nat × Int) {i : Nat} (h : i < st.length) : (st ++ [x]).getD i (0, 0) = st.getD i (0, 0) := by
  rw [List.getD_eq_getElem?_getD, List.getD_eq_getElem?_getD, List.getElem?_append_left h]
theorem getD_last (st : List (Nat × Int)) (x : Nat × Int) : (st ++ [x]).getD st.length (0, 0) = x := by
  rw [List.getD_eq_getElem?_getD, List.getElem?_append_right (Nat.le_refl _), Nat.sub_self]
  rfl
theorem PF.snoc {I : Ids} {G : Gs} {fl : Nat} {least most : Int} {st : List (Nat × Int)} {k : Nat} {m : Int} (h : BF I G fl least most (st.length + 1) (put (sumW (szO st)) st.length m) (put (sumW (miO fl st)) st.length (if k = fl then m else 0))) : PF I G fl least most (st ++ [(k, m)]) := by
  unfold PF
  rw [List.length_append, List.length_singleton]
  refine h.congr (fun j hj => ?_) (fun j hj => ?_)
  · by_cases e : j = st.length + 1
    · subst e
      rw [put_new]
      simp only [sumW]
      rw [sumW_congr st.length (a := szO (st ++ [(k, m)])) (b := szO st) (fun i hi => by unfold szO; rw [getD_old st _ hi])]
      unfold szO
      rw [getD_last]
    · rw [put_old _ _ (by omega)]
      exact sumW_congr j (fun i hi => by unfold szO; rw [getD_old st _ (by omega)])
  · by_cases e : j = st.length + 1
    · subst e
      rw [put_new]
      simp only [sumW]
      rw [sumW_congr st.length (a := miO fl (st ++ [(k, m)])) (b := miO fl st) (fun i hi => by unfold miO; rw [getD_old st _ hi])]
      unfold miO
      rw [getD_last]
    · rw [put_old _ _ (by omega)]
      exact sumW_congr j (fun i hi => by unfold miO; rw [getD_old st _ (by omega)])
theorem PF.nil {I : Ids} {G : Gs} {fl n : Nat} {least most : Int} {da dm : Nat → Int} (h : BF I G fl least most n da dm) : PF I G fl least most [] := h.reset _ _
/-- How the law counts along. -/
def stepSt (fl : Nat) (s : List (Nat × Int) × Nat) (k : Nat) (m : Int) : List (Nat × Int) × Nat := (if s.2 = 0 then [] else s.1 ++ [(k, m)], if k = fl then s.2 - 1 else s.2)
/-- What holds while the law pumps a flow that has tokens for all that waits. -/
structure PU (I : Ids) (G : Gs) (fl : Nat) (least most : Int) (st : List (Nat × Int)) (ws : Nat) : Prop where
  p : PF I G fl least most st
  w : ws = (G.Q fl).length
  t : (Fp.tot (G.Q fl) : Int) ≤ G.tok (I.T fl).toNat
  h : WOk I G fl (PM * (G.p : Nat))
theorem run_wok {I : Ids} {G G1 : Gs} {fl : Nat} {out : List (Nat × Pt)} (r : Run I G out G1) (h : WOk I G fl (PM * (G.p : Nat))) : WOk I G1 fl (PM * (G1.p : Nat)) := by
  induction r with
  | nil => exact h
  | snoc r st ih =>
    rename_i G1 out k p l
    exact ⟨inv_next ih.inv (hd_ok ih.pk), ih.all, ih.fl, run_pk (.snoc (.nil G1) st) ih.pk⟩
theorem PU.hd_pos {I : Ids} {G : Gs} {fl : Nat} {least most : Int} {st : List (Nat × Int)} {ws : Nat} (h : PU I G fl least most st ws) (hw : ws ≠ 0) : 0 < hd I G fl := by
  have h1 := h.w
  have h2 := h.t
  unfold hd
  cases hq : G.Q fl with
  | nil => rw [hq] at h1; simp at h1; omega
  | cons p l =>
    rw [hq] at h2
    simp only [Fp.tot] at h2
    simp only
    rw [if_pos (by omega)]
    omega
theorem PU.step {I : Ids} {G : Gs} {fl : Nat} {least most : Int} {st : List (Nat × Int)} {ws : Nat} (h : PU I G fl least most st ws) (hap : ∀ i, i < I.N → i ≠ fl → I.T i ≠ I.T fl) (hten : ∀ i, i < I.N → 1 ≤ I.T i) {k : Nat} {p : Pt} {l : List Pt} (s : Step I G k p l) :
    PU I (popG I G k p l) fl least most (stepSt fl (st, ws) k (8 + (p.d.length : Int))).1 (stepSt fl (st, ws) k (8 + (p.d.length : Int))).2 := by
  have hb := BF.step h.p h.h s
  have hkN := s.2.2.2.1
  have hq := s.2.2.2.2.1
  have hQ' : (popG I G k p l).Q fl = if fl = k then l else G.Q fl := rfl
  refine ⟨?_, ?_, ?_, run_wok (.snoc (.nil G) s) h.h⟩
  · show PF I (popG I G k p l) fl least most (if ws = 0 then [] else st ++ [(k, 8 + (p.d.length : Int))])
    by_cases e : ws = 0
    · rw [if_pos e]
      have hz : ¬ 0 < hd I G fl := fun q => by
        obtain ⟨p2, l2, e1, _⟩ := Sh.hd_pos q
        have := h.w
        rw [e1, e] at this
        simp at this
      exact PF.nil (hb.1 hz)
    · rw [if_neg e]
      exact PF.snoc (hb.2 (h.hd_pos e))
  · show (if k = fl then ws - 1 else ws) = _
    rw [hQ']
    by_cases e : k = fl
    · subst e
      rw [if_pos rfl, if_pos rfl, h.w, hq]
      simp
    · rw [if_neg e, if_neg (fun q => e q.symm)]
      exact h.w
  · rw [hQ']
    show _ ≤ Sh.up G.tok (I.T k).toNat (G.tok (I.T k).toNat - (8 + (p.d.length : Int))) (I.T fl).toNat
    have ht := h.t
    by_cases e : k = fl
    · subst e
      rw [if_pos rfl]
      unfold Sh.up
      rw [if_pos rfl]
      rw [hq] at ht
      simp only [Fp.tot] at ht
      omega
    · rw [if_neg (fun q => e q.symm)]
      have h1 := hap k hkN e
      have h2 := hten k hkN
      have h3 := hten fl h.h.fl
      unfold Sh.up
      rw [if_neg (by omega)]
      exact ht
/-- The end of a pump. -/
theorem PU.done {I : Ids} {G G2 : Gs} {fl : Nat} {least most : Int} {st : List (Nat × Int)} {ws : Nat} (h : PU I G fl least most st ws) (d : Done I G G2) : PF I G2 fl least most (if ws = 0 then [] else st) := by
  rcases d with ⟨_, rfl⟩ | ⟨_, hno, rfl⟩
  · split
    · exact PF.nil h.p
    · exact h.p
  · have hb := BF.fail h.p h.h hno (fun _ => 0) (fun _ => 0)
    by_cases e : ws = 0
    · rw [if_pos e]
      exact PF.nil (hb.same (G' := { noG I G with link := 0 }) rfl rfl)
    · have h1 := pk_some h.h.fl (h.hd_pos e)
      rw [hno] at h1
      cases h1
/-- Any pump, where the stretch ends. -/
theorem BF.run {I : Ids} {G G1 : Gs} {fl n : Nat} {least most : Int} {da dm : Nat → Int} {out : List (Nat × Pt)} (r : Run I G out G1) (h : BF I G fl least most n da dm) (hw : WOk I G fl (PM * (G.p : Nat))) : PF I G1 fl least most [] := by
  induction r with
  | nil => exact PF.nil h
  | snoc r st ih =>
    rename_i G1 out k p l
    have hb := BF.step ih (run_wok r hw) st
    by_cases e : 0 < hd I G1 fl
    · exact PF.nil (hb.2 e)
    · exact PF.nil (hb.1 e)
theorem PF.done {I : Ids} {G G2 : Gs} {fl : Nat} {least most : Int} {M : Int} (h : PF I G fl least most []) (hw : WOk I G fl M) (d : Done I G G2) : PF I G2 fl least most [] := by
  rcases d with ⟨_, rfl⟩ | ⟨_, hno, rfl⟩
  · exact h
  · exact PF.nil ((BF.fail h hw hno (fun _ => 0) (fun _ => 0)).same (G' := { noG I G with link := 0 }) rfl rfl)
/-- A packet comes in. -/
theorem PF.in_ {I : Ids} {G : Gs} {fl : Nat} {least most least2 most2 : Int} {M : Int} {st : List (Nat × Int)} {d : List Nat} (h : PF I G fl least most st) (hw : WOk I G fl M) (hl : least ≤ least2) (hm : most ≤ most2) (h1 : 8 + ((d.drop 8).length : Int) ≤ most2) (h2 : dK I d = fl → 8 + ((d.drop 8).length : Int) ≤ least2) : PF I (inG I d G) fl least2 most2 st := by
  have B := BF.mono h hw hl hm
  have hQ : ∀ i, (inG I d G).Q i = if i = dK I d then G.Q (dK I d) ++ [inPt d G] else G.Q i := fun i => rfl
  refine ⟨B.bi, fun hz hdd => ?_, ⟨fun i hi p hp => ?_, fun p hp => ?_⟩, B.nn, B.rd, B.qk, B.ok⟩
  · obtain ⟨p, l, e1, e2⟩ := B.hs hz hdd
    rw [hQ]
    by_cases e : fl = dK I d
    · rw [if_pos e, ← e, e1]
      exact ⟨p, l ++ [inPt d G], rfl, e2⟩
    · rw [if_neg e]
      exact ⟨p, l, e1, e2⟩
  · rw [hQ] at hp
    split at hp
    · rename_i e
      rcases List.mem_append.1 hp with z | z
      · rw [← e] at z; exact B.qm.1 i hi p z
      · rw [List.mem_singleton] at z; subst z; exact h1
    · exact B.qm.1 i hi p hp
  · rw [hQ] at hp
    split at hp
    · rename_i e
      rcases List.mem_append.1 hp with z | z
      · rw [← e] at z; exact B.qm.2 p z
      · rw [List.mem_singleton] at z; subst z; exact h2 e.symm
    · exact B.qm.2 p hp
/-- A new shaper. -/
theorem PF.new {I : Ids} {fl : Nat} (hf : fl < I.N) (hW : ∀ i, i < I.N → 1 ≤ I.W i ∧ I.W i ≤ I.ALL) : PF I g0 fl 0 0 [] := by
  have hw := hW fl hf
  refine ⟨⟨fun i hi => ⟨Int.le_refl 0, Int.le_refl 0⟩, Int.le_refl 0, fun i hi h => (by cases h), fun i hi => Int.le_refl 0, fun i hi h => absurd h (by show ¬ (0 : Int) < 0; omega), ?_, fun X hX => ?_⟩, fun h => absurd h (by show ¬ (0 : Int) < 0; omega), ⟨fun i hi p hp => (by cases hp), fun p hp => (by cases hp)⟩, ⟨Int.le_refl 0, Int.le_refl 0⟩, fun h => absurd h (by decide), fun j hj => absurd hj (Nat.not_lt_zero _), fun j k h1 h2 => absurd h1 (by have : k = 0 := Nat.le_zero.1 h2; omega)⟩
  · show I.W fl * ((if (0 : Int) < 0 ∧ false = false then (0 : Int) else 0) - 0) ≤ 0 * (I.ALL - I.W fl) * 720720
    simp
  · obtain ⟨i, _, hz, _⟩ := hX
    exact absurd hz (by show ¬ (0 : Int) < 0; omega)
end Sh
end Go.Proofs.Ytkefkophlhcbiaa
namespace Go.Proofs.Ytkefkophlhcbiaa
open Go.ChangeShapes Go.WideShapes Go.ChangeAt Go.RowKit
set_option linter.unusedVariables false
set_option linter.unusedSimpArgs false
open BigFrame Sh Jd Pk Fq
open Fa (sumW)
open Fp (Pt PQ)
open Bs (IntRows cellB)

namespace Sh
/-- A record of a stretch. -/
def stX (st : List (Nat × Int)) (X : Nat → Nat → Int) : Prop := ∀ i, i < st.length → X i 3 = ((st.getD i (0, 0)).1 : Nat) ∧ X i 4 = szO st i ∧ 0 ≤ szO st i ∧ szO st i ≤ 1500
theorem pre_st {st : List (Nat × Int)} {X : Nat → Nat → Int} (h : stX st X) (fl : Nat) (w all : Int) : ∀ j, j ≤ st.length → pre (dI X (fl : Int) w all) j = w * sumW (szO st) j - sumW (miO fl st) j * all
  | 0, _ => by simp [pre, sumW]
  | j + 1, hj => by
    have h1 := pre_st h fl w all j (by omega)
    obtain ⟨e3, e4, b1, b2⟩ := h j (by omega)
    have hc : clampI (X j 4) = szO st j := by rw [e4]; unfold clampI; omega
    unfold pre
    rw [h1]
    simp only [sumW]
    unfold dI
    rw [e3, hc]
    rw [Int.mul_add, Int.add_mul]
    by_cases e : (st.getD j (0, 0)).1 = fl
    · rw [if_pos (by rw [e])]
      have hm : miO fl st j = szO st j := by unfold miO szO; rw [if_pos e]
      rw [hm]
      omega
    · rw [if_neg (by omega)]
      have hm : miO fl st j = 0 := by unfold miO; rw [if_neg e]
      rw [hm]
      omega
theorem sw_sumW (F : Nat → Nat → Int) : ∀ n, SW F n = sumW (fun i => F i 1) n
  | 0 => rfl
  | n + 1 => by unfold SW; simp only [sumW]; rw [sw_sumW F n]
/-- A stretch of which the bound holds is judged well. -/
theorem fair_of {I : Ids} {G : Gs} {fl : Nat} {least most : Int} {st : List (Nat × Int)} (h : PF I G fl least most st) {F X : Nat → Nat → Int} (hX : stX st X) (hN8 : I.N ≤ 8) (hfl : fl < I.N) (hW : I.W = fun i => F i 1) (hWb : ∀ i, i < I.N → 1 ≤ I.W i ∧ I.W i ≤ 16) (hA : sumW I.W I.N = I.ALL) (hl : 0 ≤ least ∧ least ≤ 1500) (hm : 0 ≤ most ∧ most ≤ 1500) : FairOk F I.N X st.length (fl : Int) least most := by
  have hsw : SW F I.N = I.ALL := by rw [sw_sumW, ← hA, hW]
  refine ⟨⟨by omega, by omega⟩, hN8, fun i hi => by have := hWb i hi; rw [hW] at this; exact this, fun a b hab hb hq => ?_⟩
  have hB := h.ok a (b + 1) (by omega) (by omega)
  rw [pre_st hX fl _ _ (b + 1) (by omega), pre_st hX fl _ _ a (by omega), hsw, Int.toNat_natCast] at hq
  have hw : F fl 1 = I.W fl := by rw [hW]
  rw [hw] at hq
  unfold slackI at hq
  rw [show clampI least = least by unfold clampI; omega, show clampI most = most by unfold clampI; omega] at hq
  unfold Bnd at hB
  simp only [Int.mul_sub, Int.sub_mul] at hB hq
  omega
def apartI (F : Nat → Nat → Int) (n : Nat) : Prop := ∀ i k, i < n → k < i → F k 0 ≠ F i 0
end Sh

set_option maxRecDepth 100000 in
set_option maxHeartbeats 4000000 in
theorem apart_c (a : Option Addr) (b off n c : Nat) (F : Nat → Nat → Int) (w : World) (T : IntRows w a b off n 3 F) (hn : n ≤ 100) :
    Calls Try.prog 7 #[.slice a n c] w fun e w' => ((apartI F n ∧ e = .returned (.bool true)) ∨ (¬ apartI F n ∧ e = .returned (.bool false))) ∧ Below w.heap.size w w' := by
  have hni : (n : Int) ≤ 100 := by omega
  replace T := Lib.hid T
  go_enter Try.func7, Try.ntmps7
  go_wp2_with fail
  go_loopw [3, 4, 7] (fun _ _ s7 wr => ∃ i : Nat, i ≤ n ∧ s7 = .int .i64 (i : Nat) ∧ RowKit.Hid (apartI F i) ∧ RowKit.Hid (Below w.heap.size w wr)) (fun _ _ s7 _ => n - (intOf s7).toNat)
  case atStart => exact ⟨0, Nat.zero_le _, rfl, Lib.hid (fun i k h1 h2 => by omega), Lib.hid (Below.refl _ _)⟩
  case round =>
    obtain ⟨i, hi, rfl, hA, hB⟩ := hrel
    obtain ⟨W, rfl⟩ : ∃ W : World, W = wr := ⟨_, rfl⟩
    have iz : (i : Int) ≤ (n : Int) := by omega
    by_cases hlt : i < n
    · have iz1 : (i : Int) < (n : Int) := by omega
      go_wp2_with fail
      go_loopw [4, 11] (fun _ s11 wr => ∃ k : Nat, k ≤ i ∧ s11 = .int .i64 (k : Nat) ∧ RowKit.Hid (∀ j, j < k → F j 0 ≠ F i 0) ∧ RowKit.Hid (Below w.heap.size w wr)) (fun _ s11 _ => i - (intOf s11).toNat)
      case atStart => exact ⟨0, Nat.zero_le _, rfl, Lib.hid (fun j hj => by omega), hB⟩
      case round =>
        obtain ⟨k, hk, rfl, hK, hB2⟩ := hrel
        obtain ⟨W2, rfl⟩ : ∃ W : World, W = wr := ⟨_, rfl⟩
        have kz : (k : Int) ≤ (i : Int) := by omega
        by_cases hkl : k < i
        · have kz1 : (k : Int) < (i : Int) := by omega
          have kz2 : (k : Int) < (n : Int) := by omega
          have hT := T.out.bel hB2.out
          obtain rfl := hT.ha (by omega)
          have x1 := hT.c0 k (by omega) (by omega)
          have x2 := hT.c0 i hlt (by omega)
          obtain ⟨f1, hf1⟩ : ∃ y, RowKit.Hid (F k 0 = y) := ⟨_, Lib.hid rfl⟩
          obtain ⟨f2, hf2⟩ : ∃ y, RowKit.Hid (F i 0 = y) := ⟨_, Lib.hid rfl⟩
          rw [hf1.out] at x1
          rw [hf2.out] at x2
          clear hT
          by_cases he : f1 = f2
          · subst he
            have hno := Lib.hid (show ¬ apartI F n from fun q => q i k hlt hkl (by rw [hf1.out, hf2.out]))
            go_upto_region 7 with fail
            go_big_quiet (fail)
            have hBn := Lib.hid (bDrew hB2.out nq)
            go_wp2_with fail
            exact bodyPost_ret (v := .bool false) (by simp [results, Try.results7, go_sem]) rfl ⟨.inr ⟨hno.out, rfl⟩, hBn.out⟩
          · have hne : (f1 == f2) = false := by simpa using he
            have hK2 := Lib.hid (show ∀ j, j < k + 1 → F j 0 ≠ F i 0 from fun j hj => by
              rcases Nat.lt_or_ge j k with q | q
              · exact hK.out j q
              · obtain rfl : j = k := by omega
                rw [hf1.out, hf2.out]; exact he)
            go_upto_region 7 with fail
            go_big_quiet (fail)
            have hBn := Lib.hid (bDrew hB2.out nq)
            go_wp2_with fail
            go_roundw
            case rel => exact ⟨k + 1, by omega, by go_num, hK2, hBn⟩
            case measure => simp [intOf]; omega
        · obtain rfl : k = i := by omega
          have hA2 := Lib.hid (show apartI F (k + 1) from fun i2 k2 h1 h2 => by
            rcases Nat.lt_or_ge i2 k with q | q
            · exact hA.out i2 k2 q h2
            · obtain rfl : i2 = k := by omega
              exact hK.out k2 h2)
          go_wp2_with fail
          go_roundw
          case rel => exact ⟨k + 1, by omega, by go_num, hA2, hB2⟩
          case measure => simp [intOf]; omega
    · obtain rfl : i = n := by omega
      go_wp2_with fail
      exact bodyPost_ret (v := .bool true) (by simp [results, Try.results7, go_sem]) rfl ⟨.inl ⟨hA.out, rfl⟩, hB.out⟩
end Go.Proofs.Ytkefkophlhcbiaa
namespace Go.Proofs.Ytkefkophlhcbiaa
open Go.ChangeShapes Go.WideShapes Go.ChangeAt Go.RowKit
set_option linter.unusedVariables false
set_option linter.unusedSimpArgs false
open BigFrame Pk Fq Sh Fa
open Vr hiding cellB
open By (Byt RowG blkO)
open Fp (Pt PQ)
open Bs (IntRows cellB)

namespace Sh
/-- What the law of shares has of its own: a row of records. -/
structure LS (I : Ids) (w0 w : World) (G : Gs) (v : Value) (so : List (Nat × Pt)) : Prop where
  s : ∃ L, SHP I G L w ∧ ∀ q, v.ownBlock = some q → q ∈ L
  o : w.ownsRow w0.heap.size 55 6 v so.length (sentC so)
  ns : ∀ q, q ∈ I.ns → w0.heap.size ≤ q
  bel : Below w0.heap.size w0 w
section
variable {I : Ids} {w0 w w' : World} {G G' : Gs} {v : Value} {so : List (Nat × Pt)}
theorem LS.call (h : LS I w0 w G v so) (k : By.KF I.ns w w') {L : List Nat} (hs : SHP I G' L w') (hm : ∀ q, v.ownBlock = some q → q ∈ L) : LS I w0 w' G' v so :=
  ⟨⟨L, hs, hm⟩, own_kf h.o k (fun q hq => hs.li_ns (hm q hq)), h.ns, h.bel.trans (k.below h.ns h.bel.size)⟩
theorem LS.below (h : LS I w0 w G v so) (k : Below w.heap.size w w') : LS I w0 w' G v so := by
  obtain ⟨L, hL, hm⟩ := h.s
  exact h.call (By.KF.of k) (hL.bel k) hm
theorem LS.drop (h : LS I w0 w G v so) : LS I w0 w G (.slice none 0 0) [] := by
  obtain ⟨L, hL, _⟩ := h.s
  exact ⟨⟨L, hL, fun q hq => by cases hq⟩, World.ownsRow_nil _ _ _ _, h.ns, h.bel⟩
theorem LS.app (h : LS I w0 w G v so) {w5 : World} {v5 : Value} {so' : List (Nat × Pt)} (ho : w5.ownsRow w0.heap.size 55 6 v5 so'.length (sentC so')) (hg : w.grownBy w5 v.ownBlock) (hor : v5.ownBlock = v.ownBlock ∨ v5.ownBlock = some w.heap.size) : LS I w0 w5 G v5 so' := by
  have k1 : By.KF v.ownBlock.toList w w5 := By.KF.grown1 hg
  obtain ⟨L0, ⟨tb, ct, pos, kd', hS⟩, hm0⟩ := h.s
  obtain ⟨kd2, hS2⟩ := hS.grow (N := v5.ownBlock.toList) k1 (fun q hq => hm0 q (mem_or hq)) (fun q hq => by
    have hq := mem_or hq
    rcases hor with z | z
    · exact .inl (hm0 q (by rw [← z]; exact hq))
    · rw [z] at hq; cases hq; exact .inr ⟨Nat.le_refl _, (ho.lt _ z).2⟩)
  exact ⟨⟨_, ⟨tb, ct, pos, kd2, hS2⟩, fun q hq => List.mem_append_left _ (by rw [hq]; simp)⟩, ho, h.ns, h.bel.grown hg h.bel.size (fun q hq => (h.o.lt q hq).1)⟩
end
/-- How the law counts along, with the records. -/
def stepSo (fl : Nat) (s : List (Nat × Pt) × Nat) (kp : Nat × Pt) : List (Nat × Pt) × Nat := (if s.2 = 0 then [] else s.1 ++ [kp], if kp.1 = fl then s.2 - 1 else s.2)
def foldSo (fl : Nat) (s : List (Nat × Pt) × Nat) (out : List (Nat × Pt)) : List (Nat × Pt) × Nat := out.foldl (stepSo fl) s
def startSo (fl : Nat) (G : Gs) (so : List (Nat × Pt)) : List (Nat × Pt) × Nat := (if (G.Q fl).length = 0 then [] else so, (G.Q fl).length)
theorem foldSo_take (fl : Nat) (s : List (Nat × Pt) × Nat) (out : List (Nat × Pt)) (j : Nat) (kp : Nat × Pt) (h : out[j]? = some kp) : foldSo fl s (out.take (j + 1)) = stepSo fl (foldSo fl s (out.take j)) kp := by
  unfold foldSo
  obtain ⟨hj, e⟩ := List.getElem?_eq_some_iff.1 h
  rw [List.take_succ_eq_append_getElem hj, List.foldl_append, e]
  rfl
theorem foldSo_le (fl : Nat) : ∀ (out : List (Nat × Pt)) (s : List (Nat × Pt) × Nat), (foldSo fl s out).1.length ≤ s.1.length + out.length ∧ (foldSo fl s out).2 ≤ s.2
  | [], s => ⟨Nat.le_refl _, Nat.le_refl _⟩
  | kp :: out, s => by
    have h := foldSo_le fl out (stepSo fl s kp)
    have h1 : (stepSo fl s kp).1.length ≤ s.1.length + 1 := by unfold stepSo; split <;> simp
    have h2 : (stepSo fl s kp).2 ≤ s.2 := by unfold stepSo; simp only; split <;> omega
    show (foldSo fl (stepSo fl s kp) out).1.length ≤ _ ∧ (foldSo fl (stepSo fl s kp) out).2 ≤ _
    rw [List.length_cons]
    omega
theorem fold_len {I : Ids} {fl : Nat} {G G1 : Gs} {out : List (Nat × Pt)} (so : List (Nat × Pt)) (b : Int) (r : Run I (startG b G) out G1) : (foldSo fl (startSo fl G so) out).2 = (G1.Q fl).length := by
  generalize hg : startG b G = G0 at r
  induction r with
  | nil => subst hg; rfl
  | snoc r st ih =>
    rename_i G1 out k p l
    have h := ih
    have e0 : foldSo fl (startSo fl G so) (out ++ [(k, p)]) = stepSo fl (foldSo fl (startSo fl G so) out) (k, p) := by
      show List.foldl _ _ _ = _
      rw [List.foldl_append]
      rfl
    rw [e0]
    generalize foldSo fl (startSo fl G so) out = s0 at h ⊢
    show (if k = fl then s0.2 - 1 else s0.2) = (if fl = k then l else G1.Q fl).length
    rw [h]
    have hq := st.2.2.2.2.1
    by_cases e : k = fl
    · subst e
      rw [if_pos rfl, if_pos rfl, hq]
      simp
    · rw [if_neg e, if_neg (fun q => e q.symm)]
def PumpedP (I : Ids) (w0 : World) (b : Int) (fl : Nat) (G : Gs) (so : List (Nat × Pt)) (e : Ending) (w' : World) : Prop :=
  ∃ (out : List (Nat × Pt)) (Ga Gb : Gs) (a' : Option Addr) (c' : Nat), Run I (startG b G) out Ga ∧ Done I Ga Gb ∧ e = .returned (.tuple #[.slice a' (foldSo fl (startSo fl G so) out).1.length c', .int .i64 ((foldSo fl (startSo fl G so) out).2 : Nat)]) ∧ LS I w0 w' Gb (.slice a' (foldSo fl (startSo fl G so) out).1.length c') (foldSo fl (startSo fl G so) out).1
end Sh
set_option maxRecDepth 100000 in
set_option maxHeartbeats 16000000 in
theorem pumped_c {I : Ids} {G : Gs} {w0 w : World} (b : Int) (fl n c : Nat) (a : Option Addr) (so : List (Nat × Pt)) (h : LS I w0 w G (.slice a n c) so) (hfl : fl < I.N) (hG : G.n + 1 ≤ 6000) (hb : (Lit.int .i64 b).wf = true) (hso : so.length ≤ 100000) (hcm : ∀ out Ga, Run I (startG b G) out Ga → out.length ≤ 1000) :
    Calls Try.prog 16 #[.pointer (some ⟨I.s, 0, none⟩), .int .i64 b, .int .i64 (fl : Nat), .slice a n c] w (PumpedP I w0 b fl G so) := by
  have hn := own_len h.o
  obtain ⟨L, hS, hm⟩ := h.s
  have hN8 : (I.N : Int) ≤ 8 := by
    obtain ⟨_, _, _, _, hq⟩ := hS
    have := hq.n1.2
    omega
  have hwa := waiting_c (fl : Int) hS
  rw [if_pos (show (0 : Int) ≤ (fl : Int) ∧ (fl : Int) < (I.N : Int) by omega), Int.toNat_natCast] at hwa
  obtain ⟨ws, hws⟩ : ∃ y, RowKit.Hid ((G.Q fl).length = y) := ⟨_, Lib.hid rfl⟩
  rw [hws.out] at hwa
  have hpu := Lib.hid (pump_c b hS hG hb)
  have hwsb : (ws : Int) ≤ 64 := by
    obtain ⟨_, _, _, _, hq⟩ := hS
    have h1 := (hq.pq fl hfl).q.n1
    have h2 := (hq.pq fl hfl).q.room2
    have := hws.out
    omega
  replace hS := Lib.hid hS
  replace hm := Lib.hid hm
  replace hn := Lib.hid hn
  have hH := Lib.hid h
  replace hcm := Lib.hid hcm
  replace hb := Lib.hid hb
  -- the row that the stretch begins with
  have hst : ∃ (n1 c1 : Nat) (a1 : Option Addr), RowKit.Hid (LS I w0 w G (.slice a1 n1 c1) (startSo fl G so).1) ∧ RowKit.Hid (n1 = (startSo fl G so).1.length) ∧ RowKit.Hid ((ws = 0 ∧ a1 = none ∧ n1 = 0 ∧ c1 = 0) ∨ (ws ≠ 0 ∧ a1 = a ∧ n1 = n ∧ c1 = c)) := by
    by_cases e : ws = 0
    · refine ⟨0, 0, none, Lib.hid ?_, Lib.hid ?_, Lib.hid (.inl ⟨e, rfl, rfl, rfl⟩)⟩
      · unfold startSo; rw [hws.out]; simp only [e, if_true]; exact h.drop
      · unfold startSo; rw [hws.out]; simp only [e, if_true]; rfl
    · refine ⟨n, c, a, Lib.hid ?_, Lib.hid ?_, Lib.hid (.inr ⟨e, rfl, rfl, rfl⟩)⟩
      · unfold startSo; rw [hws.out]; simp only [e, if_false]; exact h
      · unfold startSo; rw [hws.out]; simp only [e, if_false]; exact hn.out
  obtain ⟨n1, c1, a1, hL0, hn1, hcase⟩ := hst
  clear h
  go_enter Try.func16, Try.ntmps16
  go_wp2_with fail
  refine hwa.mono ?_
  rintro e u ⟨rfl, rfl⟩
  go_upto_if 18 with fail
  go_cut [3, 18] from 19 to 50 (fun s3 _ wx => s3 = .slice a1 n1 c1 ∧ RowKit.Hid (u = wx))
  case first =>
    rcases hcase.out with ⟨e, e1, e2, e3⟩ | ⟨e, e1, e2, e3⟩
    · subst e e1 e2 e3
      go_wp2_with fail
      go_meet
      case rel => exact ⟨rfl, by first | exact Lib.hid rfl | exact Lib.hid trivial⟩
    · subst e1 e2 e3
      have hwb : ((ws : Int) == 0) = false := by simp; omega
      go_wp2_with fail
      go_meet
      case rel => exact ⟨rfl, by first | exact Lib.hid rfl | exact Lib.hid trivial⟩
  obtain ⟨rfl, hwx⟩ := hcut
  have hwx2 := hwx.out
  subst hwx2
  have hm1 : RowKit.Hid (∀ q, (Value.slice a1 n1 c1).ownBlock = some q → q ∈ L) := Lib.hid (by
    rcases hcase.out with ⟨e, e1, e2, e3⟩ | ⟨e, e1, e2, e3⟩
    · subst e1; intro q hq; cases hq
    · subst e1 e2 e3; exact hm.out)
  clear hcase hwx
  go_wp2_with fail
  refine hpu.out.mono ?_
  rintro e w5 ⟨out, Ga, Gb, la2, lb2, ca2, cb2, vs2, hr, hdn, rfl, hS5, hO5, hk5⟩
  obtain ⟨n2, hn2⟩ : ∃ y, RowKit.Hid (out.length = y) := ⟨_, Lib.hid rfl⟩
  rw [hn2.out]
  have hn2b : n2 ≤ 1000 := by rw [← hn2.out]; exact hcm.out out Ga hr
  have hL5 := Lib.hid (hL0.out.call hk5 hS5 hm1.out)
  have hown1 : ∀ q, (Value.slice a1 n1 c1).ownBlock = some q → q ∉ blkO la2 := fun q hq z => by
    have h1 := (hL0.out.o.lt q hq).2
    have h2 := hO5.fa q z
    omega
  have hR5 := hO5.s
  rw [hn2.out] at hR5
  have hlen0 : (startSo fl G so).1.length ≤ 100000 := by unfold startSo; simp only; split; exact Nat.zero_le _; exact hso
  have hlen2 : (startSo fl G so).2 = ws := hws.out
  replace hr := Lib.hid hr
  replace hdn := Lib.hid hdn
  replace hR5 := Lib.hid hR5
  replace hown1 := Lib.hid hown1
  clear hpu hk5 hS5 hO5
  obtain ⟨i0, hi0, hz0, hz1, hz2⟩ := info_parts info_sentS
  go_wp2_with fail
  go_loopw [3, 10, 13, 27] (fun s3 s10 _ s27 wr => ∃ (j n3 c3 wj : Nat) (a3 : Option Addr), s27 = .int .i64 (j : Nat) ∧ j ≤ n2 ∧ s3 = .slice a3 n3 c3 ∧ s10 = .int .i64 (wj : Nat) ∧ RowKit.Hid (n3 = (foldSo fl (startSo fl G so) (out.take j)).1.length ∧ wj = (foldSo fl (startSo fl G so) (out.take j)).2) ∧ RowKit.Hid (LS I w0 wr Gb (.slice a3 n3 c3) (foldSo fl (startSo fl G so) (out.take j)).1) ∧ RowKit.Hid (RowG wr 6 la2 n2 ca2 (sentC out)) ∧ RowKit.Hid (∀ q, (Value.slice a3 n3 c3).ownBlock = some q → q ∉ blkO la2)) (fun _ _ _ s27 _ => n2 - (intOf s27).toNat)
  case atStart => exact ⟨0, n1, c1, ws, a1, rfl, Nat.zero_le _, rfl, rfl, Lib.hid ⟨hn1.out, hlen2.symm⟩, hL5, hR5, hown1⟩
  case round =>
    obtain ⟨j, n3, c3, wj, a3, rfl, hj, rfl, rfl, hfo, hLj, hRj, hnj⟩ := hrel
    obtain ⟨W, rfl⟩ : ∃ W : World, W = wr := ⟨_, rfl⟩
    have jz : (j : Int) ≤ (n2 : Int) := by omega
    have hfl2 := foldSo_le fl (out.take j) (startSo fl G so)
    have hwjb : (wj : Int) ≤ 64 := by have := hfo.out.2; omega
    have hn3b : n3 ≤ 101000 := by
      have := hfo.out.1
      have : (out.take j).length ≤ 1000 := by rw [List.length_take]; omega
      omega
    clear hfl2
    by_cases hjl : j < n2
    · have jz1 : (j : Int) < (n2 : Int) := by omega
      obtain ⟨⟨kq, p⟩, hkp⟩ : ∃ kp, out[j]? = some kp := ⟨_, List.getElem?_eq_getElem (by rw [hn2.out]; exact hjl)⟩
      obtain ⟨Gj, l, r1, st, r2⟩ := run_take hr.out j (kq, p) hkp
      have hwq : kq = fl → wj ≠ 0 := fun e => by
        have h1 := fold_len (fl := fl) so b r1
        have h2 := hfo.out.2
        have h3 := st.2.2.2.2.1
        simp only at h3
        rw [e] at h3
        rw [h3] at h1
        simp at h1
        omega
      have hnx := foldSo_take fl (startSo fl G so) out j (kq, p) hkp
      obtain ⟨ad, rfl⟩ : ∃ ad, la2 = some ad := by
        cases la2 with
        | none => have := (hRj.out.nil rfl).1; omega
        | some ad => exact ⟨ad, rfl⟩
      obtain ⟨b6, o6, rfl, _, hc6, _, _⟩ := hRj.out.row ad rfl
      have x0 := hc6 _ _ (sentC_at out j (kq, p) hkp 0 (by omega))
      have x1 := hc6 _ _ (sentC_at out j (kq, p) hkp 1 (by omega))
      have x2 := hc6 _ _ (sentC_at out j (kq, p) hkp 2 (by omega))
      have x3 := hc6 _ _ (sentC_at out j (kq, p) hkp 3 (by omega))
      have x4 := hc6 _ _ (sentC_at out j (kq, p) hkp 4 (by omega))
      have x5 := hc6 _ _ (sentC_at out j (kq, p) hkp 5 (by omega))
      obtain ⟨pt, hpt⟩ : ∃ y, RowKit.Hid (p.t = y) := ⟨_, Lib.hid rfl⟩
      obtain ⟨px, hpx⟩ : ∃ y, RowKit.Hid (p.x = y) := ⟨_, Lib.hid rfl⟩
      obtain ⟨pz, hpz⟩ : ∃ y, RowKit.Hid (8 + (p.d.length : Int) = y) := ⟨_, Lib.hid rfl⟩
      simp only [hpt.out, hpx.out, hpz.out] at x2 x4 x5
      rw [← Nat.add_assoc] at x0 x1 x2 x3 x4 x5
      rw [Nat.add_zero] at x0
      replace hnx := Lib.hid hnx
      replace hwq := Lib.hid hwq
      clear hc6 r1 r2 st
      by_cases hw0 : wj = 0
      · subst hw0
        have hkq : kq ≠ fl := fun e => hwq.out e rfl
        have hkb : (((kq : Nat) : Int) == (fl : Int)) = false := by simp; omega
        have hF9 : RowKit.Hid (0 = (foldSo fl (startSo fl G so) (out.take (j + 1))).1.length ∧ 0 = (foldSo fl (startSo fl G so) (out.take (j + 1))).2) := Lib.hid (by
          rw [hnx.out]; unfold stepSo; simp only [← hfo.out.2, if_true, hkq, if_false]; exact ⟨rfl, trivial⟩)
        have hL9 : RowKit.Hid (LS I w0 W Gb (.slice none 0 0) (foldSo fl (startSo fl G so) (out.take (j + 1))).1) := Lib.hid (by
          rw [hnx.out]; unfold stepSo; simp only [← hfo.out.2, if_true]; exact hLj.out.drop)
        have hn9 : RowKit.Hid (∀ q, (Value.slice none 0 0).ownBlock = some q → q ∉ blkO (some (⟨b6, o6, none⟩ : Addr))) := Lib.hid (fun q hq => by cases hq)
        clear hnx hwq hkp
        go_wp2_with fail
        go_roundw
        case rel => exact ⟨j + 1, 0, 0, 0, none, by go_num, by omega, rfl, rfl, hF9, hL9, hRj, hn9⟩
        case measure => simp [intOf]; omega
      · have hwb : ((wj : Int) == 0) = false := by simp; omega
        have hBb := (Below.refl W.heap.size W).alloc (Nat.le_refl _) (.cells #[.int .i64 0, .int .i64 0, .int .i64 pt, .int .i64 (kq : Nat), .int .i64 pz, .int .i64 px] 55)
        have hnb := By.blkN_new W [.int .i64 0, .int .i64 0, .int .i64 pt, .int .i64 (kq : Nat), .int .i64 pz, .int .i64 px] 55
        have hL6 := Lib.hid (hLj.out.below hBb)
        have hR6 := Lib.hid (hRj.out.bel hBb)
        have hown := hL6.out.o
        rw [← hfo.out.1] at hown
        have hus := hL6.out.bel.size
        have hcel : 0 < 1 → ∃ ad, (some ⟨W.heap.size, 0, none⟩ : Option Addr) = some ad ∧ ∀ j x, ([.int .i64 0, .int .i64 0, .int .i64 pt, .int .i64 (kq : Nat), .int .i64 pz, .int .i64 px] : List Value)[j]? = some x → (W.alloc (.cells #[.int .i64 0, .int .i64 0, .int .i64 pt, .int .i64 (kq : Nat), .int .i64 pz, .int .i64 px] 55)).cell? (ad.add j) = some x := fun _ => ⟨_, rfl, fun j x hx => by rw [Addr.add_lit, Nat.zero_add]; exact hnb.c j x hx⟩
        clear hBb hnb
        go_upto_region 11 with (at_builtin; refine By.wpList_append_src rfl _ _ 31 (by rfl) w0.heap.size 55 i0 _ 6 48 Try.underlying31 hi0 hz0 hz1 hz2 (by rfl) (by omega) _ _ _ (by rfl) hown _ 1 1 [.int .i64 0, .int .i64 0, .int .i64 pt, .int .i64 (kq : Nat), .int .i64 pz, .int .i64 px] (by rfl) rfl hcel (by intro x hx; simp at hx; rcases hx with rfl | rfl | rfl | rfl | rfl | rfl <;> rfl) (by unfold maxLen; omega) (by omega) hus ?_; intro v7 w7 hown7 hgrow7 hor7; have hsl7 := own_slice hown7; obtain ⟨a7, c7, rfl⟩ := hsl7)
        have hF7 : RowKit.Hid (n3 + 1 = (foldSo fl (startSo fl G so) (out.take (j + 1))).1.length) := Lib.hid (by
          rw [hnx.out]; unfold stepSo; simp only [← hfo.out.2, hw0, if_false, List.length_append, List.length_singleton]; rw [← hfo.out.1])
        have hL7 : RowKit.Hid (LS I w0 w7 Gb (.slice a7 (n3 + 1) c7) (foldSo fl (startSo fl G so) (out.take (j + 1))).1) := Lib.hid (hL6.out.app (by
          rw [← hF7.out, hnx.out]
          unfold stepSo
          simp only [← hfo.out.2, hw0, if_false]
          rw [sentC_app]
          show World.ownsRow _ _ _ _ _ _ (sentC _ ++ (_ ++ []))
          rw [List.append_nil]
          simp only [hpt.out, hpx.out, hpz.out]
          exact hown7) hgrow7 hor7)
        have hR7 : RowKit.Hid (RowG w7 6 (some ⟨b6, o6, none⟩) n2 ca2 (sentC out)) := Lib.hid (hR6.out.kf (By.KF.grown1 hgrow7) (fun q hq z => hnj.out q (mem_or z) hq))
        have hn7 : RowKit.Hid (∀ q, (Value.slice a7 (n3 + 1) c7).ownBlock = some q → q ∉ blkO (some (⟨b6, o6, none⟩ : Addr))) := Lib.hid (fun q hq z => by
          rcases hor7 with e | e
          · exact hnj.out q (by rw [← e]; exact hq) z
          · rw [e] at hq
            cases hq
            exact absurd (hR6.out.lt z) (Nat.lt_irrefl _))
        have y3 := hR7.out.row _ rfl
        obtain ⟨b7, o7, e7, _, hc7, _, _⟩ := y3
        cases e7
        have x3' := hc7 _ _ (sentC_at out j (kq, p) hkp 3 (by omega))
        simp only at x3'
        rw [← Nat.add_assoc] at x3'
        clear hc7 hcel hown hown7 hgrow7 hor7 x0 x1 x2 x3 x4 x5 hus hL6 hR6
        have hF9 : RowKit.Hid ((foldSo fl (startSo fl G so) (out.take (j + 1))).2 = if kq = fl then wj - 1 else wj) := Lib.hid (by
          rw [hnx.out]; unfold stepSo; simp only [← hfo.out.2])
        clear hnx hwq hkp
        by_cases hkq : kq = fl
        · have hkb : (((kq : Nat) : Int) == (fl : Int)) = true := by simp; omega
          have hwc : (wj : Int) - 1 = ((wj - 1 : Nat) : Int) := by omega
          have hF8 : RowKit.Hid (n3 + 1 = (foldSo fl (startSo fl G so) (out.take (j + 1))).1.length ∧ wj - 1 = (foldSo fl (startSo fl G so) (out.take (j + 1))).2) := Lib.hid ⟨hF7.out, by rw [hF9.out, if_pos hkq]⟩
          go_wp2_with fail
          go_roundw
          case rel => exact ⟨j + 1, n3 + 1, c7, wj - 1, a7, by go_num, by omega, rfl, by first | rfl | (congr 1) | go_num, hF8, hL7, hR7, hn7⟩
          case measure => simp [intOf]; omega
        · have hkb : (((kq : Nat) : Int) == (fl : Int)) = false := by simp; omega
          have hF8 : RowKit.Hid (n3 + 1 = (foldSo fl (startSo fl G so) (out.take (j + 1))).1.length ∧ wj = (foldSo fl (startSo fl G so) (out.take (j + 1))).2) := Lib.hid ⟨hF7.out, by rw [hF9.out, if_neg hkq]⟩
          go_wp2_with fail
          go_roundw
          case rel => exact ⟨j + 1, n3 + 1, c7, wj, a7, by go_num, by omega, rfl, rfl, hF8, hL7, hR7, hn7⟩
          case measure => simp [intOf]; omega
    · obtain rfl : j = n2 := by omega
      have hF : RowKit.Hid (PumpedP I w0 b fl G so (.returned (.tuple #[.slice a3 n3 c3, .int .i64 (wj : Nat)])) W) := Lib.hid (by
        have e : out.take j = out := List.take_of_length_le (by rw [hn2.out]; exact Nat.le_refl _)
        have f := hfo.out
        have g := hLj.out
        rw [e] at f g
        rw [f.1] at g ⊢
        rw [f.2]
        exact ⟨out, Ga, Gb, a3, c3, hr.out, hdn.out, rfl, g⟩)
      go_wp2_with fail
      exact bodyPost_ret (v := .tuple #[.slice a3 n3 c3, .int .i64 (wj : Nat)]) (by simp [results, Try.results16, go_sem]) rfl hF.out
end Go.Proofs.Ytkefkophlhcbiaa
namespace Go.Proofs.Ytkefkophlhcbiaa
open Go.ChangeShapes Go.WideShapes Go.ChangeAt Go.RowKit
set_option linter.unusedVariables false
set_option linter.unusedSimpArgs false
open BigFrame Pk Fq Sh Fa Jw
open Vr hiding cellB
open By (Byt RowG blkO)
open Fp (Pt PQ)
open Bs (IntRows cellB)

namespace Sh
def st2 (so : List (Nat × Pt)) : List (Nat × Int) := so.map fun kp => (kp.1, 8 + (kp.2.d.length : Int))
theorem st2_len (so : List (Nat × Pt)) : (st2 so).length = so.length := by simp [st2]
theorem st2_step (fl : Nat) (s : List (Nat × Pt) × Nat) (k : Nat) (p : Pt) : stepSt fl (st2 s.1, s.2) k (8 + (p.d.length : Int)) = (st2 (stepSo fl s (k, p)).1, (stepSo fl s (k, p)).2) := by
  unfold stepSt stepSo
  simp only
  by_cases e : s.2 = 0
  · simp [e, st2]
  · simp [e, st2]
theorem shp_wok {I : Ids} {G : Gs} {L : List Nat} {w : World} {fl : Nat} (h : SHP I G L w) (hA : sumW I.W I.N = I.ALL) (hf : fl < I.N) : WOk I G fl (PM * (G.p : Nat)) := by
  obtain ⟨_, _, _, _, hS⟩ := h
  exact ⟨hS.inv, hA, hf, hS.pk⟩
theorem run_tot {I : Ids} {G G1 : Gs} {out : List (Nat × Pt)} (r : Run I G out G1) : out.length + totQ G1.Q I.N = totQ G.Q I.N := by
  induction r with
  | nil => simp
  | snoc r st ih =>
    rename_i G1 out k p l
    have t := totQ_up (Q := G1.Q) (l := l) I.N st.2.2.2.1
    rw [st.2.2.2.2.1] at t
    show (out ++ [(k, p)]).length + totQ (upQ G1.Q k l) I.N = _
    rw [List.length_append, List.length_singleton]
    rw [List.length_cons] at t
    omega
theorem PU.run {I : Ids} {G0 G1 : Gs} {fl : Nat} {least most : Int} {out : List (Nat × Pt)} (r : Run I G0 out G1) (s0 : List (Nat × Pt) × Nat) (h0 : PU I G0 fl least most (st2 s0.1) s0.2) (hap : ∀ i, i < I.N → i ≠ fl → I.T i ≠ I.T fl) (hten : ∀ i, i < I.N → 1 ≤ I.T i) :
    PU I G1 fl least most (st2 (foldSo fl s0 out).1) (foldSo fl s0 out).2 := by
  induction r with
  | nil => exact h0
  | snoc r st ih =>
    rename_i G1 out k p l
    have e0 : foldSo fl s0 (out ++ [(k, p)]) = stepSo fl (foldSo fl s0 out) (k, p) := by
      show List.foldl _ _ _ = _
      rw [List.foldl_append]
      rfl
    have h := PU.step ih hap hten st
    rw [st2_step] at h
    rw [e0]
    exact h
theorem PU.start {I : Ids} {G : Gs} {fl : Nat} {least most : Int} {so : List (Nat × Pt)} (b : Int) (h : PF I G fl least most (st2 so)) (ht : (Fp.tot (G.Q fl) : Int) ≤ G.tok (I.T fl).toNat) (hw : WOk I G fl (PM * (G.p : Nat))) : PU I (startG b G) fl least most (st2 (startSo fl G so).1) (startSo fl G so).2 := by
  refine ⟨?_, rfl, ht, ⟨hw.inv, hw.all, hw.fl, hw.pk⟩⟩
  unfold startSo
  by_cases e : (G.Q fl).length = 0
  · simp only [e, if_true]
    exact PF.nil (BF.same h (G' := startG b G) rfl rfl)
  · simp only [e, if_false]
    exact BF.same h (G' := startG b G) rfl rfl
theorem wantN_ne {I : Ids} {G : Gs} {t : Int} : ∀ n, (∀ i, i < n → I.T i ≠ t) → wantN I G t n = 0
  | 0, _ => rfl
  | n + 1, h => by
    unfold wantN
    rw [wantN_ne n (fun i hi => h i (by omega)), if_neg (h n (by omega))]
theorem wantN_one {I : Ids} {G : Gs} {fl : Nat} : ∀ n, fl < n → (∀ i, i < n → i ≠ fl → I.T i ≠ I.T fl) → wantN I G (I.T fl) n = Fp.tot (G.Q fl)
  | 0, h, _ => absurd h (Nat.not_lt_zero _)
  | n + 1, h, ha => by
    unfold wantN
    by_cases e : fl = n
    · subst e
      rw [wantN_ne fl (fun i hi => ha i (by omega) (by omega)), if_pos rfl, Nat.zero_add]
    · rw [wantN_one n (by omega) (fun i hi => ha i (by omega)), if_neg (ha n (by omega) (fun q => e q.symm)), Nat.add_zero]
/-- The sizes along a pump. -/
theorem fold_z {I : Ids} {G0 G1 : Gs} {fl : Nat} {out : List (Nat × Pt)} (r : Run I G0 out G1) (hpk : ∀ i, i < I.N → ∀ p, p ∈ G0.Q i → PtOk (I.T i) p) (s0 : List (Nat × Pt) × Nat) (h0 : ∀ kp, kp ∈ s0.1 → kp.2.d.length ≤ 1492) : ∀ kp, kp ∈ (foldSo fl s0 out).1 → kp.2.d.length ≤ 1492 := by
  induction r with
  | nil => exact h0
  | snoc r st ih =>
    rename_i G1 out k p l
    have e0 : foldSo fl s0 (out ++ [(k, p)]) = stepSo fl (foldSo fl s0 out) (k, p) := by
      show List.foldl _ _ _ = _
      rw [List.foldl_append]
      rfl
    have hp := run_pk r hpk k st.2.2.2.1 p (by rw [st.2.2.2.2.1]; simp)
    rw [e0]
    intro kp hkp
    unfold stepSo at hkp
    simp only at hkp
    split at hkp
    · cases hkp
    · rcases List.mem_append.1 hkp with z | z
      · exact ih kp z
      · rw [List.mem_singleton] at z; subst z; exact hp.2.2.2.1
/-- What stands between the acts. -/
structure LF (I : Ids) (w0 w : World) (k fl : Nat) (v : Value) (least most : Int) (G : Gs) (so : List (Nat × Pt)) : Prop where
  l : LS I w0 w G v so
  p : PF I G fl least most (st2 so)
  n : G.n ≤ k ∧ so.length + totQ G.Q I.N ≤ k
  b : (0 ≤ least ∧ least ≤ 1500) ∧ 0 ≤ most ∧ most ≤ 1500
  z : ∀ kp, kp ∈ so → kp.2.d.length ≤ 1492
def LFe (I : Ids) (w0 w : World) (k fl : Nat) (v : Value) (least most : Int) : Prop := ∃ G so, LF I w0 w k fl v least most G so
theorem LF.up {I : Ids} {w0 w : World} {k k2 fl : Nat} {v : Value} {least most : Int} {G : Gs} {so : List (Nat × Pt)} (h : LF I w0 w k fl v least most G so) (hk : k ≤ k2) : LF I w0 w k2 fl v least most G so :=
  ⟨h.l, h.p, ⟨by have := h.n.1; omega, by have := h.n.2; omega⟩, h.b, h.z⟩
theorem LF.wok {I : Ids} {w0 w : World} {k fl : Nat} {v : Value} {least most : Int} {G : Gs} {so : List (Nat × Pt)} (h : LF I w0 w k fl v least most G so) (hA : sumW I.W I.N = I.ALL) (hf : fl < I.N) : WOk I G fl (PM * (G.p : Nat)) := by
  obtain ⟨L, hS, _⟩ := h.l.s
  exact shp_wok hS hA hf
/-- A packet came in. -/
theorem LF.in_ {I : Ids} {w0 w w' : World} {k fl : Nat} {v : Value} {least most least2 most2 : Int} {G : Gs} {so : List (Nat × Pt)} {d : List Nat} (h : LF I w0 w k fl v least most G so) (hA : sumW I.W I.N = I.ALL) (hf : fl < I.N) (hok : inOk I d G) (hl : LS I w0 w' (inG I d G) v so) (h1 : least ≤ least2) (h2 : most ≤ most2) (h3 : 8 + ((d.drop 8).length : Int) ≤ most2) (h4 : dK I d = fl → 8 + ((d.drop 8).length : Int) ≤ least2) (h5 : least2 ≤ 1500) (h6 : most2 ≤ 1500) : LF I w0 w' (k + 1) fl v least2 most2 (inG I d G) so := by
  have hdk : dK I d < I.N := by
    obtain ⟨k', e1, e2, _⟩ := flow_ok hok.2.1
    unfold dK
    rw [e1, Int.toNat_natCast]
    exact e2
  refine ⟨hl, h.p.in_ (h.wok hA hf) h1 h2 h3 h4, ⟨?_, ?_⟩, ⟨⟨Int.le_trans h.b.1.1 h1, h5⟩, Int.le_trans h.b.2.1 h2, h6⟩, h.z⟩
  · show G.n + 1 ≤ k + 1
    have := h.n.1
    omega
  · have t := totQ_up (Q := G.Q) (l := G.Q (dK I d) ++ [inPt d G]) I.N hdk
    rw [List.length_append, List.length_singleton] at t
    show so.length + totQ (upQ G.Q (dK I d) (G.Q (dK I d) ++ [inPt d G])) I.N ≤ k + 1
    have := h.n.2
    omega
/-- Nothing that matters is otherwise. -/
theorem LF.same {I : Ids} {w0 w w' : World} {k fl : Nat} {v : Value} {least most : Int} {G G' : Gs} {so : List (Nat × Pt)} (h : LF I w0 w k fl v least most G so) (hl : LS I w0 w' G' v so) (hx : G'.x = G.x) (hQ : G'.Q = G.Q) (hn : G'.n ≤ G.n + 1) : LF I w0 w' (k + 1) fl v least most G' so :=
  ⟨hl, BF.same h.p hx hQ, ⟨by have := h.n.1; omega, by rw [hQ]; have := h.n.2; omega⟩, h.b, h.z⟩
/-- A pump while the flow may not be able to send. -/
theorem LF.pump {I : Ids} {w0 w w' : World} {k fl : Nat} {v : Value} {least most : Int} {G Ga Gb : Gs} {so out : List (Nat × Pt)} {b : Int} (h : LF I w0 w k fl v least most G so) (hA : sumW I.W I.N = I.ALL) (hf : fl < I.N) (r : Run I (startG b G) out Ga) (d : Done I Ga Gb) (hl : LS I w0 w' Gb (.slice none 0 0) []) : LF I w0 w' (k + 1) fl (.slice none 0 0) least most Gb [] := by
  have hw := h.wok hA hf
  have hw1 : WOk I (startG b G) fl (PM * ((startG b G).p : Nat)) := ⟨hw.inv, hw.all, hw.fl, hw.pk⟩
  have hp := BF.run r (BF.same h.p (G' := startG b G) rfl rfl) hw1
  have hdt := done_tok d
  have ht := run_tot r
  have hn := run_n r
  refine ⟨hl, hp.done (run_wok r hw1) d, ⟨?_, ?_⟩, h.b, fun kp hkp => by cases hkp⟩
  · rw [hdt.2.2.2, hn.1]
    show G.n + 1 ≤ k + 1
    have := h.n.1
    omega
  · rw [hdt.2.1]
    have : totQ (startG b G).Q I.N = totQ G.Q I.N := rfl
    have := h.n.2
    simp only [List.length_nil]
    omega
/-- A pump while it may. -/
theorem LF.pumped {I : Ids} {w0 w w' : World} {k fl : Nat} {v v' : Value} {least most : Int} {G Ga Gb : Gs} {so out : List (Nat × Pt)} {b : Int} (h : LF I w0 w k fl v least most G so) (hA : sumW I.W I.N = I.ALL) (hf : fl < I.N) (hap : ∀ i, i < I.N → i ≠ fl → I.T i ≠ I.T fl) (hten : ∀ i, i < I.N → 1 ≤ I.T i) (ht : (Fp.tot (G.Q fl) : Int) ≤ G.tok (I.T fl).toNat)
    (r : Run I (startG b G) out Ga) (d : Done I Ga Gb) (hl : LS I w0 w' Gb v' (foldSo fl (startSo fl G so) out).1) :
    PF I Ga fl least most (st2 (foldSo fl (startSo fl G so) out).1) ∧ (∀ kp, kp ∈ (foldSo fl (startSo fl G so) out).1 → kp.2.d.length ≤ 1492) ∧ (foldSo fl (startSo fl G so) out).1.length ≤ k ∧
    ((foldSo fl (startSo fl G so) out).2 = 0 → LF I w0 w' (k + 1) fl (.slice none 0 0) least most Gb []) ∧ ((foldSo fl (startSo fl G so) out).2 ≠ 0 → LF I w0 w' (k + 1) fl v' least most Gb (foldSo fl (startSo fl G so) out).1) := by
  have hw := h.wok hA hf
  have hU := PU.run r _ (PU.start b h.p ht hw) hap hten
  have hD := hU.done d
  have hz := fold_z (fl := fl) r (fun i hi p hp => hw.pk i hi p hp) (startSo fl G so) (fun kp hkp => by
    unfold startSo at hkp
    simp only at hkp
    split at hkp
    · cases hkp
    · exact h.z kp hkp)
  have hdt := done_tok d
  have hto := run_tot r
  have hn := run_n r
  have hle := (foldSo_le fl out (startSo fl G so)).1
  have hl0 : (startSo fl G so).1.length ≤ so.length := by unfold startSo; simp only; split <;> simp
  have e1 : totQ (startG b G).Q I.N = totQ G.Q I.N := rfl
  have e2 : (startG b G).n = G.n + 1 := rfl
  have hk := h.n
  have hQ : totQ Gb.Q I.N = totQ Ga.Q I.N := by rw [hdt.2.1]
  have hN : Gb.n = G.n + 1 := by rw [hdt.2.2.2, hn.1]; rfl
  refine ⟨hU.p, hz, by omega, fun e => ⟨hl.drop, by rw [if_pos e] at hD; exact hD, ⟨by omega, by simp only [List.length_nil]; omega⟩, h.b, fun kp hkp => by cases hkp⟩, fun e => ⟨hl, by rw [if_neg e] at hD; exact hD, ⟨by omega, by omega⟩, h.b, hz⟩⟩
end Sh
end Go.Proofs.Ytkefkophlhcbiaa
