/- The scheduler's bound: plain. The scheduler's bound: what is told. The scheduler's bound: what is picked. The scheduler's bound: along a stretch. -/
import Derived.Test.YtkefkophlhcbiaaF23
namespace Go.Proofs.Ytkefkophlhcbiaa
open Go.ChangeShapes Go.WideShapes Go.ChangeAt Go.RowKit Go.Maps
set_option linter.unusedVariables false
set_option linter.unusedSimpArgs false
open BigFrame Pk Fq Vr Fa

namespace Fb
/-- At least nothing. -/
def pos (x : Int) : Int := if 0 < x then x else 0
theorem pos_ge (x : Int) : 0 ≤ pos x ∧ x ≤ pos x := by unfold pos; split <;> omega
theorem pos_mono {x y : Int} (h : x ≤ y) : pos x ≤ pos y := by unfold pos; split <;> split <;> omega
theorem pos_of {x : Int} (h : 0 ≤ x) : pos x = x := by unfold pos; split <;> omega
theorem pos_no {x : Int} (h : x ≤ 0) : pos x = 0 := by unfold pos; split <;> omega
theorem pos_max (X a b : Int) : pos (X - max a b) ≤ pos (X - a) ∧ pos (X - max a b) ≤ pos (X - b) := ⟨pos_mono (by omega), pos_mono (by omega)⟩
/-- Work that a flow may still ask for up to a time. -/
def cw (V z : Int) (d : Bool) (s f X : Int) : Int :=
  if 0 < z then (if d then pos (X - f) else if f ≤ X then pos (X - s) else pos (X - max s V)) else pos (X - max f V)
theorem cw_ge (V z : Int) (d : Bool) (s f X : Int) : 0 ≤ cw V z d s f X := by
  unfold cw
  have h1 := pos_ge (X - f)
  have h2 := pos_ge (X - s)
  have h3 := pos_ge (X - max s V)
  have h4 := pos_ge (X - max f V)
  split
  · split
    · exact h1.1
    · split
      · exact h2.1
      · exact h3.1
  · exact h4.1
/-- A later time leaves no more. -/
theorem cw_up {V V2 z : Int} {d : Bool} {s f X : Int} (h : V ≤ V2) : cw V2 z d s f X ≤ cw V z d s f X := by
  unfold cw
  have h3 : pos (X - max s V2) ≤ pos (X - max s V) := pos_mono (by omega)
  have h4 : pos (X - max f V2) ≤ pos (X - max f V) := pos_mono (by omega)
  split
  · split
    · exact Int.le_refl _
    · split
      · exact Int.le_refl _
      · exact h3
  · exact h4
/-- What is told of a head leaves no more. -/
theorem cw_told {V z n c s f : Int} {d : Bool} {X : Int} (hz : 0 ≤ z) (hn : 0 ≤ n) (hd : d = true → 0 < z) (hsf : s ≤ f) (hc : 0 ≤ c) :
    cw V n false (hrS V s f z n c d) (hrF V s f z n c d) X ≤ cw V z d s f X := by
  have e1 : ∀ a b : Int, pos (X - max (max a b) b) = pos (X - max a b) := fun a b => by congr 1; omega
  by_cases hn0 : n = 0
  · subst hn0
    by_cases hz0 : 0 < z
    · cases d with
      | true =>
        have h1 : hrF V s f z 0 c true = f := by simp [hrF, hrF1]
        simp only [cw, h1, hz0, if_true, if_neg (show ¬ (0 : Int) < 0 by omega)]
        exact (pos_max X f V).1
      | false =>
        have hz1 : ¬ z = 0 := by omega
        have h1 : hrF V s f z 0 c false = s := by simp [hrF, hrF1, hz0, hz1]
        simp only [cw, h1, hz0, if_true, if_neg (show ¬ (0 : Int) < 0 by omega), Bool.false_eq_true, if_false]
        split
        · exact (pos_max X s V).1
        · exact Int.le_refl _
    · have hdd : d = false := by cases d with
        | true => exact absurd (hd rfl) hz0
        | false => rfl
      subst hdd
      have h1 : hrF V s f z 0 c false = f := by simp [hrF, hrF1, hz0]
      simp only [cw, h1, hz0, if_false, if_neg (show ¬ (0 : Int) < 0 by omega)]
      exact Int.le_refl _
  · have hnp : 0 < n := by omega
    cases d with
    | true =>
      have hz0 := hd rfl
      have h1 : hrS V s f z n c true = f := by simp [hrS, hrF1, hn0]
      have h2 : hrF V s f z n c true = f + c := by simp [hrF, hrF1, hn0]
      simp only [cw, h1, h2, hz0, hnp, if_true, Bool.false_eq_true, if_false]
      split
      · exact Int.le_refl _
      · exact (pos_max X f V).1
    | false =>
      by_cases hzn : z = n
      · subst hzn
        have h1 : hrS V s f z z c false = s := by simp [hrS, hrF1, hn0]
        have h2 : hrF V s f z z c false = f := by simp [hrF, hrF1, hn0]
        rw [h1, h2]
        exact Int.le_refl _
      · by_cases hz0 : 0 < z
        · have h1 : hrS V s f z n c false = max s V := by simp [hrS, hrF1, hn0, hzn, hz0]
          have h2 : hrF V s f z n c false = max s V + c := by simp [hrF, hrF1, hn0, hzn, hz0]
          simp only [cw, h1, h2, hz0, hnp, if_true, Bool.false_eq_true, if_false, e1]
          have := (pos_max X s V).1
          split <;> split <;> first | exact this | exact Int.le_refl _
        · have h1 : hrS V s f z n c false = max f V := by simp [hrS, hrF1, hn0, hzn, hz0]
          have h2 : hrF V s f z n c false = max f V + c := by simp [hrF, hrF1, hn0, hzn, hz0]
          simp only [cw, h1, h2, hz0, hnp, if_true, Bool.false_eq_true, if_false, e1]
          split <;> exact Int.le_refl _
/-- Beyond all that is asked for, work is in time. -/
theorem cw_out {V z : Int} {d : Bool} {s f X : Int} (h : ¬ (0 < z ∧ f ≤ X)) : cw V z d s f X ≤ pos (X - V) := by
  unfold cw
  by_cases hz : 0 < z
  · have hf : ¬ f ≤ X := fun q => h ⟨hz, q⟩
    rw [if_pos hz]
    split
    · rw [pos_no (by omega)]; exact (pos_ge _).1
    · first | exact (pos_max X s V).2 | (rw [if_neg hf]; exact (pos_max X s V).2)
  · rw [if_neg hz]; exact (pos_max X f V).2
theorem sumW_le {a b : Nat → Int} : ∀ n, (∀ i, i < n → a i ≤ b i) → sumW a n ≤ sumW b n
  | 0, _ => Int.le_refl _
  | n + 1, h => by
    have := sumW_le n (fun i hi => h i (by omega))
    have := h n (by omega)
    simp only [sumW]
    omega
theorem sumW_nn {a : Nat → Int} (n : Nat) (h : ∀ i, i < n → 0 ≤ a i) : 0 ≤ sumW a n := by
  have := sumW_le (a := fun _ => 0) n h
  have e : ∀ m, sumW (fun _ => 0) m = 0 := fun m => by
    induction m with
    | zero => rfl
    | succ m ih => simp only [sumW, ih]; rfl
  rw [e] at this
  exact this
theorem sumW_one {a : Nat → Int} {k : Nat} : ∀ n, k < n → (∀ i, i < n → 0 ≤ a i) → a k ≤ sumW a n
  | 0, h, _ => by omega
  | n + 1, h, hp => by
    have h1 := hp n (by omega)
    simp only [sumW]
    by_cases e : k = n
    · subst e
      have := sumW_nn k (fun i hi => hp i (by omega))
      omega
    · have := sumW_one (a := a) (k := k) n (by omega) (fun i hi => hp i (by omega))
      omega
theorem sumW_sub {a b : Nat → Int} {k : Nat} {e : Int} (hk : a k + e ≤ b k) : ∀ n, k < n → (∀ i, i < n → i ≠ k → a i ≤ b i) → sumW a n + e ≤ sumW b n
  | 0, h, _ => by omega
  | n + 1, h, hp => by
    simp only [sumW]
    by_cases q : k = n
    · subst q
      have := sumW_le k (fun i hi => hp i (by omega) (by omega))
      omega
    · have h1 := sumW_sub hk n (by omega) (fun i hi => hp i (by omega))
      have h2 := hp n (by omega) (fun e => q e.symm)
      omega
theorem sumW_mul (w : Nat → Int) (y : Int) : ∀ n, sumW (fun i => w i * y) n = sumW w n * y
  | 0 => by simp [sumW]
  | n + 1 => by simp only [sumW]; rw [sumW_mul w y n, Int.add_mul]
/-- What the bound stands on: flow by flow the tags fit the sizes; the flow told of is not far ahead; work asked for is in time. -/
structure BI (N : Nat) (ALL SC most own : Int) (fl : Nat) (W : Nat → Int) (x : Sched) : Prop where
  z : ∀ i, i < N → 0 ≤ x.Z i ∧ x.Z i ≤ most
  zo : x.Z fl ≤ own
  d : ∀ i, i < N → x.D i = true → 0 < x.Z i
  sf : ∀ i, i < N → x.S i ≤ x.F i
  tag : ∀ i, i < N → 0 < x.Z i → x.D i = false → W i * (x.F i - x.S i) = x.Z i * ALL * SC
  a : W fl * ((if 0 < x.Z fl ∧ x.D fl = false then x.S fl else x.F fl) - x.V) ≤ own * (ALL - W fl) * SC
  b : ∀ X, (∃ i, i < N ∧ 0 < x.Z i ∧ x.F i ≤ X) → ALL * x.V + sumW (fun i => W i * cw x.V (x.Z i) (x.D i) (x.S i) (x.F i) X) N ≤ ALL * X + ALL * SC * most
/-- All the work asked for behind a time is at most what there is till then. -/
theorem sum_in {N : Nat} {W c : Nat → Int} {ALL y : Int} (hW : ∀ i, i < N → 0 ≤ W i) (hA : sumW W N = ALL) (h : ∀ i, i < N → c i ≤ y) : sumW (fun i => W i * c i) N ≤ ALL * y := by
  rw [← hA, ← sumW_mul]
  exact sumW_le N (fun i hi => Int.mul_le_mul_of_nonneg_left (h i hi) (hW i hi))
end Fb
end Go.Proofs.Ytkefkophlhcbiaa
namespace Go.Proofs.Ytkefkophlhcbiaa
open Go.ChangeShapes Go.WideShapes Go.ChangeAt Go.RowKit Go.Maps
set_option linter.unusedVariables false
set_option linter.unusedSimpArgs false
open BigFrame Pk Fq Vr Fa Fb

namespace Fb
theorem cost_mul {n w all : Int} (h1 : 1 ≤ n) (h2 : n ≤ 1500) (h3 : 1 ≤ w) (h4 : w ≤ 16) (h5 : w ≤ all) (h6 : all ≤ 128) : w * costI n w all = n * all * 720720 := by
  rw [costI_ok h1 h2 h3 h4 h5 h6]
  have hq : w * (720720 / w) = 720720 := by
    have hw : w = 1 ∨ w = 2 ∨ w = 3 ∨ w = 4 ∨ w = 5 ∨ w = 6 ∨ w = 7 ∨ w = 8 ∨ w = 9 ∨ w = 10 ∨ w = 11 ∨ w = 12 ∨ w = 13 ∨ w = 14 ∨ w = 15 ∨ w = 16 := by omega
    rcases hw with rfl | rfl | rfl | rfl | rfl | rfl | rfl | rfl | rfl | rfl | rfl | rfl | rfl | rfl | rfl | rfl <;> decide
  calc w * (n * all * (720720 / w)) = n * all * (w * (720720 / w)) := by rw [Int.mul_left_comm]
    _ = n * all * 720720 := by rw [hq]
theorem hr_tag {V z n c s f : Int} {d : Bool} (hn : n ≠ 0) (hz : 0 ≤ z) (hd : d = true → 0 < z) : hrF V s f z n c d = hrS V s f z n c d + c ∨ (d = false ∧ 0 < z ∧ z = n ∧ hrS V s f z n c d = s ∧ hrF V s f z n c d = f) := by
  cases d with
  | true => left; simp [hrS, hrF, hn]
  | false =>
    by_cases hzn : z = n
    · right; subst hzn; exact ⟨rfl, by omega, rfl, by simp [hrS, hrF1, hn], by simp [hrF, hrF1, hn]⟩
    · left; simp [hrS, hrF, hn, hzn]
theorem hr_V {V z n c s f : Int} {d : Bool} (hn : n ≠ 0) (hc : 0 ≤ c) (hz0 : 0 ≤ z) : (0 < z ∧ f ≤ hrF V s f z n c d) ∨ V ≤ hrF V s f z n c d ∨ (d = true) := by
  cases d with
  | true => exact .inr (.inr rfl)
  | false =>
    by_cases hzn : z = n
    · subst hzn
      by_cases hz : 0 < z
      · left; exact ⟨hz, by simp [hrF, hrF1, hn]⟩
      · omega
    · right; left; simp only [hrF, hn, hzn, if_false, Bool.false_eq_true, ne_eq, not_false_eq_true, if_true]; omega
theorem hr_S {V z n c s f : Int} (hn : n ≠ 0) : hrF V s f z n c true = f + c := by simp [hrF, hrF1, hn]
/-- The start that a flow's next packet would have at least. -/
def nx (z : Int) (d : Bool) (s f : Int) : Int := if 0 < z ∧ d = false then s else f
theorem nx_told {V z n c s f : Int} {d : Bool} (hz : 0 ≤ z) (hn : 0 ≤ n) (hd : d = true → 0 < z) : nx n false (hrS V s f z n c d) (hrF V s f z n c d) ≤ max (nx z d s f) V := by
  unfold nx
  by_cases hn0 : n = 0
  · subst hn0
    rw [if_neg (by omega)]
    cases d with
    | true => simp [hrF, hrF1]; omega
    | false =>
      by_cases hz0 : 0 < z
      · have hz1 : ¬ z = 0 := by omega
        simp [hrF, hrF1, hz0, hz1]; omega
      · simp [hrF, hrF1, hz0]; omega
  · rw [if_pos ⟨by omega, rfl⟩]
    cases d with
    | true => simp [hrS, hrF1, hn0]; omega
    | false =>
      by_cases hzn : z = n
      · subst hzn
        have : 0 < z := by omega
        simp [hrS, hrF1, hn0, this]; omega
      · by_cases hz0 : 0 < z
        · simp [hrS, hrF1, hn0, hzn, hz0]
        · simp [hrS, hrF1, hn0, hzn, hz0]
/-- What is told of all heads keeps the bound. -/
theorem BI.told {N fl : Nat} {ALL most own M : Int} {W h : Nat → Int} {x : Sched} (B : BI N ALL 720720 most own fl W x) (H : Inv M ALL x.V N W x.Z x.D x.S x.F) (hA : sumW W N = ALL) (hf : fl < N)
    (hh : ∀ i, i < N → headBad (h i) = false) (hm : ∀ i, i < N → h i ≤ most) (ho : h fl ≤ own) (hm0 : 0 ≤ most) (ho0 : 0 ≤ own) :
    BI N ALL 720720 most own fl W (toldN N ALL x.V W x.Z x.D x.S x.F h) ∧ (∀ i, i < N → (toldN N ALL x.V W x.Z x.D x.S x.F h).D i = false) ∧ (∀ i, i < N → (toldN N ALL x.V W x.Z x.D x.S x.F h).Z i = h i) := by
  have eZ : ∀ i, i < N → (toldN N ALL x.V W x.Z x.D x.S x.F h).Z i = h i := fun i hi => mix_lt h x.Z hi
  have eD : ∀ i, i < N → (toldN N ALL x.V W x.Z x.D x.S x.F h).D i = false := fun i hi => mixb_lt nof x.D hi
  have eS : ∀ i, i < N → (toldN N ALL x.V W x.Z x.D x.S x.F h).S i = hrS x.V (x.S i) (x.F i) (x.Z i) (h i) (costI (h i) (W i) ALL) (x.D i) := fun i hi => mix_lt _ x.S hi
  have eF : ∀ i, i < N → (toldN N ALL x.V W x.Z x.D x.S x.F h).F i = hrF x.V (x.S i) (x.F i) (x.Z i) (h i) (costI (h i) (W i) ALL) (x.D i) := fun i hi => mix_lt _ x.F hi
  have eV : (toldN N ALL x.V W x.Z x.D x.S x.F h).V = x.V := rfl
  generalize toldN N ALL x.V W x.Z x.D x.S x.F h = y at eZ eD eS eF eV ⊢
  have hV := H.far.1
  have hW : ∀ i, i < N → 0 ≤ W i := fun i hi => by have := H.w i hi; omega
  have hcost : ∀ i, i < N → 0 ≤ costI (h i) (W i) ALL ∧ (h i = 0 ∨ 1 ≤ costI (h i) (W i) ALL) := fun i hi => by
    have h2 := headOk (hh i hi)
    have h3 := H.w i hi
    refine ⟨?_, ?_⟩
    · rcases costI_bd (h i) (W i) ALL with e | e <;> omega
    · by_cases e : h i = 0
      · exact .inl e
      · exact .inr (cost_pos (by omega) h2.2 h3.1 h3.2.1 h3.2.2 H.all).1
  have hbd : 0 ≤ own * (ALL - W fl) * 720720 := by
    have := (H.w fl hf).2.2
    exact Int.mul_nonneg (Int.mul_nonneg ho0 (by omega)) (by omega)
  refine ⟨⟨fun i hi => by rw [eZ i hi]; exact ⟨(headOk (hh i hi)).1, hm i hi⟩, by rw [eZ fl hf]; exact ho, fun i hi hd => (by rw [eD i hi] at hd; cases hd), fun i hi => ?_, fun i hi hz hd => ?_, ?_, fun X hX => ?_⟩, eD, eZ⟩
  · rw [eS i hi, eF i hi]
    have h1 := H.far.2.2 i hi
    exact (hr_bd h1.1 h1.2.1 (hcost i hi).2 hV).2
  · rw [eZ i hi] at hz ⊢
    rw [eS i hi, eF i hi]
    have h2 := headOk (hh i hi)
    have h3 := H.w i hi
    rcases hr_tag (V := x.V) (s := x.S i) (f := x.F i) (c := costI (h i) (W i) ALL) (show h i ≠ 0 by omega) (B.z i hi).1 (B.d i hi) with e | ⟨e1, e2, e3, e4, e5⟩
    · rw [e, show ∀ a b : Int, a + b - a = b from fun a b => by omega]
      exact cost_mul (by omega) h2.2 h3.1 h3.2.1 h3.2.2 H.all
    · rw [e4, e5, ← e3]
      exact B.tag i hi e2 e1
  · rw [eD fl hf, eZ fl hf, eS fl hf, eF fl hf, eV]
    have h1 := nx_told (V := x.V) (s := x.S fl) (f := x.F fl) (c := costI (h fl) (W fl) ALL) (B.z fl hf).1 (headOk (hh fl hf)).1 (B.d fl hf)
    have h2 := B.a
    unfold nx at h1
    generalize (if 0 < x.Z fl ∧ x.D fl = false then x.S fl else x.F fl) = T at h1 h2
    generalize (if 0 < h fl ∧ false = false then _ else _) = T' at h1 ⊢
    by_cases q : T ≤ x.V
    · have : W fl * (T' - x.V) ≤ 0 := by
        have := Int.mul_le_mul_of_nonneg_left (show T' - x.V ≤ 0 by omega) (hW fl hf)
        simpa using this
      omega
    · have := Int.mul_le_mul_of_nonneg_left (show T' - x.V ≤ T - x.V by omega) (hW fl hf)
      omega
  · obtain ⟨i, hi, hz, hfX⟩ := hX
    rw [eZ i hi] at hz
    rw [eF i hi] at hfX
    rw [eV]
    have hle : sumW (fun i => W i * cw x.V (y.Z i) (y.D i) (y.S i) (y.F i) X) N ≤ sumW (fun i => W i * cw x.V (x.Z i) (x.D i) (x.S i) (x.F i) X) N := sumW_le N (fun j hj => by
      rw [eZ j hj, eD j hj, eS j hj, eF j hj]
      exact Int.mul_le_mul_of_nonneg_left (cw_told (B.z j hj).1 (headOk (hh j hj)).1 (B.d j hj) (B.sf j hj) (hcost j hj).1) (hW j hj))
    by_cases hold : ∃ j, j < N ∧ 0 < x.Z j ∧ x.F j ≤ X
    · have := B.b X hold
      omega
    · have hout : ∀ j, j < N → cw x.V (x.Z j) (x.D j) (x.S j) (x.F j) X ≤ pos (X - x.V) := fun j hj => cw_out (fun q => hold ⟨j, hj, q⟩)
      have hVX : x.V ≤ X := by
        rcases hr_V (V := x.V) (s := x.S i) (f := x.F i) (z := x.Z i) (d := x.D i) (c := costI (h i) (W i) ALL) (show h i ≠ 0 by omega) (hcost i hi).1 (B.z i hi).1 with ⟨e1, e2⟩ | e | e
        · exact absurd ⟨i, hi, e1, by omega⟩ hold
        · omega
        · have e2 := B.d i hi e
          rw [e, hr_S (by omega)] at hfX
          exact absurd ⟨i, hi, e2, by have := (hcost i hi).1; omega⟩ hold
      have h1 := sum_in hW hA hout
      rw [pos_of (by omega), Int.mul_sub] at h1
      have h2 : 0 ≤ ALL * 720720 * most := Int.mul_nonneg (Int.mul_nonneg (by rw [← hA]; exact sumW_nn N hW) (by omega)) hm0
      omega
end Fb
end Go.Proofs.Ytkefkophlhcbiaa
namespace Go.Proofs.Ytkefkophlhcbiaa
open Go.ChangeShapes Go.WideShapes Go.ChangeAt Go.RowKit Go.Maps
set_option linter.unusedVariables false
set_option linter.unusedSimpArgs false
open BigFrame Pk Fq Vr Fa Fb

namespace Fb
/-- What a pick does, where one is ready. -/
def Served1 (N : Nat) (h : Nat → Int) (y : Sched) (p : Picked) : Prop :=
  ∃ k V1, p = ⟨((k : Nat) : Int), true, ⟨V1 + h k * 720720, y.Z, upb y.D k true, y.S, y.F⟩⟩ ∧ k < N ∧ 0 < h k ∧ y.V ≤ V1 ∧ y.S k ≤ V1 ∧ (∀ i, i < N → 0 < h i → y.S i ≤ V1 → y.F k ≤ y.F i) ∧ (V1 = y.V ∨ ∀ i, i < N → 0 < h i → V1 ≤ y.S i)
theorem pick_yes {N : Nat} {h : Nat → Int} {y : Sched} (hex : ∃ i, i < N ∧ 0 < h i) : Served1 N h y (pickX N h y) := by
  have hno : ¬ leastK y.S (rdy h) N < 0 := fun q => by
    obtain ⟨i, hi, hp⟩ := hex
    have := leastK_no q i hi
    simp [rdy] at this
    omega
  obtain ⟨kn, hkn, hkN, hkr, hkS⟩ := pick_some (F := y.F) (V := y.V) hno
  have h1 := leastK_yes (O := y.S) (m := rdy h) (n := N) (by omega)
  have h3 := leastK_yes (O := y.F) (m := fun i => rdy h i && decide (y.S i ≤ max y.V (y.S (leastK y.S (rdy h) N).toNat))) (n := N) (by rw [hkn]; omega)
  rw [hkn, Int.toNat_natCast] at h3
  refine ⟨kn, max y.V (y.S (leastK y.S (rdy h) N).toNat), ?_, hkN, by simpa [rdy] using hkr, by omega, hkS, fun i hi hp hs => h3.2 i hi (by simp [rdy, hp]; omega), ?_⟩
  · unfold pickX
    rw [if_neg hno]
    simp only [hkn, Int.toNat_natCast]
  · by_cases q : y.S (leastK y.S (rdy h) N).toNat ≤ y.V
    · left; omega
    · right
      intro i hi hp
      have := h1.2 i hi (by simp [rdy, hp])
      omega
/-- A pick keeps the bound. -/
theorem BI.pick {N fl : Nat} {ALL most own : Int} {W h : Nat → Int} {y : Sched} {p : Picked} (B : BI N ALL 720720 most own fl W y) (hD : ∀ i, i < N → y.D i = false) (hZ : ∀ i, i < N → y.Z i = h i) (hW : ∀ i, i < N → 1 ≤ W i ∧ W i ≤ ALL) (hA : sumW W N = ALL) (hf : fl < N)
    (hm0 : 0 ≤ most) (ho0 : 0 ≤ own) (S : Served1 N h y p) : BI N ALL 720720 most own fl W p.x := by
  obtain ⟨k, V1, rfl, hk, hp, hV1, hkS, hmin, hj⟩ := S
  have hW0 : ∀ i, i < N → 0 ≤ W i := fun i hi => by have := hW i hi; omega
  have hm2 : 0 ≤ ALL * 720720 * most := Int.mul_nonneg (Int.mul_nonneg (by rw [← hA]; exact sumW_nn N hW0) (by omega)) hm0
  have hkm : h k ≤ most := by have := (B.z k hk).2; rw [hZ k hk] at this; exact this
  have hktag := B.tag k hk (by rw [hZ k hk]; exact hp) (hD k hk)
  rw [hZ k hk] at hktag
  have hJ : ∀ X, (∃ i, i < N ∧ 0 < y.Z i ∧ y.F i ≤ X) → ALL * V1 + sumW (fun i => W i * cw V1 (y.Z i) (y.D i) (y.S i) (y.F i) X) N ≤ ALL * X + ALL * 720720 * most := fun X hX => by
    rcases hj with e | e
    · rw [e]; exact B.b X hX
    · obtain ⟨i, hi, hz, hfX⟩ := hX
      have hsi := e i hi (by rw [← hZ i hi]; exact hz)
      have hsf := B.sf i hi
      have h1 := sum_in (c := fun i => cw V1 (y.Z i) (y.D i) (y.S i) (y.F i) X) (y := pos (X - V1)) hW0 hA (fun j hj => by
        show cw V1 (y.Z j) (y.D j) (y.S j) (y.F j) X ≤ pos (X - V1)
        rw [hD j hj]
        unfold cw
        by_cases hz : 0 < y.Z j
        · have := e j hj (by rw [← hZ j hj]; exact hz)
          rw [if_pos hz, if_neg (by simp)]
          split
          · exact pos_mono (by omega)
          · exact (pos_max _ _ _).2
        · rw [if_neg hz]; exact (pos_max _ _ _).2)
      rw [pos_of (by omega), Int.mul_sub] at h1
      omega
  refine ⟨B.z, B.zo, fun i hi hd => ?_, B.sf, fun i hi hz hd => ?_, ?_, fun X hX => ?_⟩
  · simp only [upb] at hd
    by_cases e : i = k
    · subst e; show 0 < y.Z i; rw [hZ i hi]; exact hp
    · rw [if_neg e] at hd; exact B.d i hi hd
  · simp only [upb] at hd
    by_cases e : i = k
    · rw [if_pos e] at hd; cases hd
    · rw [if_neg e] at hd; exact B.tag i hi hz hd
  · have hA' := B.a
    have hwf := hW fl hf
    have hmk : W fl * y.V ≤ W fl * (V1 + h k * 720720) := Int.mul_le_mul_of_nonneg_left (by omega) (hW0 fl hf)
    show W fl * ((if 0 < y.Z fl ∧ upb y.D k true fl = false then y.S fl else y.F fl) - (V1 + h k * 720720)) ≤ own * (ALL - W fl) * 720720
    by_cases e : fl = k
    · subst e
      have eD : upb y.D fl true fl = true := by simp [upb]
      rw [eD, if_neg (by simp)]
      have hko : h fl ≤ own := by have := B.zo; rw [hZ fl hf] at this; exact this
      have h1 : W fl * y.S fl ≤ W fl * V1 := Int.mul_le_mul_of_nonneg_left hkS (hW0 fl hf)
      rw [Int.mul_sub] at hktag ⊢
      rw [Int.mul_add]
      have h2 : h fl * ((ALL - W fl) * 720720) ≤ own * ((ALL - W fl) * 720720) := Int.mul_le_mul_of_nonneg_right hko (Int.mul_nonneg (by omega) (by omega))
      have h3 : h fl * ((ALL - W fl) * 720720) = h fl * ALL * 720720 - W fl * (h fl * 720720) := by
        rw [Int.sub_mul, Int.mul_sub, Int.mul_assoc, Int.mul_left_comm (h fl) (W fl)]
      have h4 : own * (ALL - W fl) * 720720 = own * ((ALL - W fl) * 720720) := Int.mul_assoc _ _ _
      omega
    · have eD : upb y.D k true fl = y.D fl := if_neg e
      rw [eD]
      rw [Int.mul_sub] at hA' ⊢
      omega
  · obtain ⟨i, hi, hz, hfX⟩ : ∃ i, i < N ∧ 0 < y.Z i ∧ y.F i ≤ X := hX
    show ALL * (V1 + h k * 720720) + sumW (fun i => W i * cw (V1 + h k * 720720) (y.Z i) (upb y.D k true i) (y.S i) (y.F i) X) N ≤ ALL * X + ALL * 720720 * most
    have hup : ∀ j, j < N → j ≠ k → W j * cw (V1 + h k * 720720) (y.Z j) (upb y.D k true j) (y.S j) (y.F j) X ≤ W j * cw V1 (y.Z j) (y.D j) (y.S j) (y.F j) X := fun j hj e => by
      simp only [upb, if_neg e]
      exact Int.mul_le_mul_of_nonneg_left (cw_up (by omega)) (hW0 j hj)
    by_cases hc : y.F k ≤ X
    · have hkz : 0 < y.Z k := by rw [hZ k hk]; exact hp
      have hI := hJ X ⟨k, hk, hkz, hc⟩
      have hck : W k * cw (V1 + h k * 720720) (y.Z k) (upb y.D k true k) (y.S k) (y.F k) X + h k * ALL * 720720 ≤ W k * cw V1 (y.Z k) (y.D k) (y.S k) (y.F k) X := by
        have e1 : cw (V1 + h k * 720720) (y.Z k) (upb y.D k true k) (y.S k) (y.F k) X = X - y.F k := by
          unfold cw upb
          rw [if_pos hkz, if_pos rfl, if_pos rfl, pos_of (by omega)]
        have e2 : cw V1 (y.Z k) (y.D k) (y.S k) (y.F k) X = X - y.S k := by
          unfold cw
          rw [if_pos hkz, hD k hk, if_neg (by simp), if_pos hc, pos_of (by have := B.sf k hk; omega)]
        rw [e1, e2]
        rw [Int.mul_sub] at hktag
        rw [Int.mul_sub, Int.mul_sub]
        omega
      have hs := sumW_sub (a := fun i => W i * cw (V1 + h k * 720720) (y.Z i) (upb y.D k true i) (y.S i) (y.F i) X) (b := fun i => W i * cw V1 (y.Z i) (y.D i) (y.S i) (y.F i) X) hck N hk hup
      rw [Int.mul_add]
      have e3 : ALL * (h k * 720720) = h k * ALL * 720720 := by rw [Int.mul_left_comm, Int.mul_assoc]
      omega
    · have hnel : ¬ y.S i ≤ V1 := fun q => by
        have := hmin i hi (by rw [← hZ i hi]; exact hz) q
        omega
      have hsf := B.sf i hi
      have h1 := sum_in (c := fun i => cw (V1 + h k * 720720) (y.Z i) (upb y.D k true i) (y.S i) (y.F i) X) (y := pos (X - V1)) hW0 hA (fun j hj => by
        show cw (V1 + h k * 720720) (y.Z j) (upb y.D k true j) (y.S j) (y.F j) X ≤ pos (X - V1)
        by_cases e : j = k
        · subst e
          unfold cw upb
          rw [if_pos (by rw [hZ j hj]; exact hp), if_pos rfl, if_pos rfl, pos_no (by omega)]
          exact (pos_ge _).1
        · refine Int.le_trans (cw_up (V := V1) (by omega)) ?_
          simp only [upb, if_neg e]
          rw [hD j hj]
          unfold cw
          by_cases hz : 0 < y.Z j
          · rw [if_pos hz, if_neg (by simp)]
            split
            · rename_i hfj
              refine pos_mono ?_
              by_cases q : y.S j ≤ V1
              · have := hmin j hj (by rw [← hZ j hj]; exact hz) q
                omega
              · omega
            · exact (pos_max _ _ _).2
          · rw [if_neg hz]; exact (pos_max _ _ _).2)
      rw [pos_of (by omega), Int.mul_sub] at h1
      rw [Int.mul_add]
      have e3 : ALL * (h k * 720720) = ALL * 720720 * h k := by rw [Int.mul_assoc, Int.mul_comm (h k)]
      have h4 : ALL * 720720 * h k ≤ ALL * 720720 * most := Int.mul_le_mul_of_nonneg_left hkm (Int.mul_nonneg (by rw [← hA]; exact sumW_nn N hW0) (by omega))
      omega
end Fb
end Go.Proofs.Ytkefkophlhcbiaa
namespace Go.Proofs.Ytkefkophlhcbiaa
open Go.ChangeShapes Go.WideShapes Go.ChangeAt Go.RowKit Go.Maps
set_option linter.unusedVariables false
set_option linter.unusedSimpArgs false
open BigFrame Pk Fq Vr Fa Fb

namespace Fb
/-- How far a flow that is asked for may be behind. -/
theorem BI.far {N fl : Nat} {ALL most own : Int} {W : Nat → Int} {x : Sched} (B : BI N ALL 720720 most own fl W x) (hW : ∀ i, i < N → 1 ≤ W i ∧ W i ≤ ALL) (hf : fl < N) (hz : 0 < x.Z fl) :
    W fl * (x.V - nx (x.Z fl) (x.D fl) (x.S fl) (x.F fl)) ≤ own * (ALL - W fl) * 720720 + W fl * (720720 * most) ∧ W fl * (nx (x.Z fl) (x.D fl) (x.S fl) (x.F fl) - x.V) ≤ own * (ALL - W fl) * 720720 := by
  have hwf := hW fl hf
  have hW0 : ∀ i, i < N → 0 ≤ W i * cw x.V (x.Z i) (x.D i) (x.S i) (x.F i) (x.F fl) := fun i hi => Int.mul_nonneg (by have := hW i hi; omega) (cw_ge _ _ _ _ _ _)
  have hb := B.b (x.F fl) ⟨fl, hf, hz, Int.le_refl _⟩
  have h1 := sumW_one (a := fun i => W i * cw x.V (x.Z i) (x.D i) (x.S i) (x.F i) (x.F fl)) (k := fl) N hf hW0
  refine ⟨?_, B.a⟩
  unfold nx
  have e0 : ALL * 720720 * most = ALL * (720720 * most) := Int.mul_assoc _ _ _
  cases hd : x.D fl with
  | true =>
    rw [if_neg (by simp)]
    have h2 := hW0 fl hf
    have h3 : ALL * x.V ≤ ALL * (x.F fl + 720720 * most) := by rw [Int.mul_add]; omega
    have h4 := Int.le_of_mul_le_mul_left h3 (by omega)
    have h5 : W fl * (x.V - x.F fl) ≤ W fl * (720720 * most) := Int.mul_le_mul_of_nonneg_left (by omega) (by omega)
    have h6 : 0 ≤ own * (ALL - W fl) * 720720 := Int.mul_nonneg (Int.mul_nonneg (by have := (B.z fl hf).1; have := B.zo; omega) (by omega)) (by omega)
    omega
  | false =>
    rw [if_pos ⟨hz, rfl⟩]
    have ht := B.tag fl hf hz hd
    have e1 : W fl * cw x.V (x.Z fl) (x.D fl) (x.S fl) (x.F fl) (x.F fl) = x.Z fl * ALL * 720720 := by
      have : cw x.V (x.Z fl) (x.D fl) (x.S fl) (x.F fl) (x.F fl) = x.F fl - x.S fl := by
        unfold cw
        rw [if_pos hz, hd, if_neg (by simp), if_pos (Int.le_refl _), pos_of (by have := B.sf fl hf; omega)]
      rw [this]; exact ht
    have e2 : x.Z fl * ALL * 720720 = ALL * (x.Z fl * 720720) := by rw [Int.mul_comm (x.Z fl) ALL, Int.mul_assoc]
    have h3 : ALL * (x.V + x.Z fl * 720720) ≤ ALL * (x.F fl + 720720 * most) := by
      rw [Int.mul_add, Int.mul_add]
      omega
    have h4 := Int.le_of_mul_le_mul_left h3 (by omega)
    have h5 : W fl * (x.V + x.Z fl * 720720) ≤ W fl * (x.F fl + 720720 * most) := Int.mul_le_mul_of_nonneg_left h4 (by omega)
    rw [Int.mul_add, Int.mul_add] at h5
    rw [Int.mul_sub] at ht ⊢
    have h6 : x.Z fl * ((ALL - W fl) * 720720) ≤ own * ((ALL - W fl) * 720720) := Int.mul_le_mul_of_nonneg_right B.zo (Int.mul_nonneg (by omega) (by omega))
    have h7 : x.Z fl * ((ALL - W fl) * 720720) = x.Z fl * ALL * 720720 - W fl * (x.Z fl * 720720) := by
      rw [Int.sub_mul, Int.mul_sub, Int.mul_assoc, Int.mul_left_comm (x.Z fl) (W fl)]
    have h8 : own * (ALL - W fl) * 720720 = own * ((ALL - W fl) * 720720) := Int.mul_assoc _ _ _
    omega
/-- What holds of a place behind which a flow was ready throughout: dA was served since, dM of it to the flow. -/
def Qk (w ALL own dA dM V T : Int) : Prop := w * (720720 * dA) - dM * ALL * 720720 ≤ w * (V - T) + own * (ALL - w) * 720720
theorem Qk.step {w ALL own dA dM V T m mi V2 T2 : Int} (h : Qk w ALL own dA dM V T) (hw : 0 ≤ w) (hV : V + m * 720720 ≤ V2) (hT : w * (T2 - T) = mi * ALL * 720720) : Qk w ALL own (dA + m) (dM + mi) V2 T2 := by
  unfold Qk at *
  have h1 : w * (V + m * 720720) ≤ w * V2 := Int.mul_le_mul_of_nonneg_left hV hw
  rw [Int.mul_sub] at h hT ⊢
  rw [Int.mul_add] at h1
  rw [Int.mul_add 720720, Int.mul_add w, Int.add_mul dM, Int.add_mul (dM * ALL)]
  rw [show (720720 : Int) * m = m * 720720 from Int.mul_comm _ _]
  omega
theorem Qk.new {w ALL own V T m mi V2 T2 : Int} (ha : w * (T - V) ≤ own * (ALL - w) * 720720) (hw : 0 ≤ w) (hV : V + m * 720720 ≤ V2) (hT : w * (T2 - T) = mi * ALL * 720720) : Qk w ALL own m mi V2 T2 := by
  have h0 : Qk w ALL own 0 0 V T := by
    unfold Qk
    rw [Int.mul_sub] at ha ⊢
    simp only [Int.mul_zero, Int.zero_mul]
    omega
  have := h0.step hw hV hT
  rwa [Int.zero_add, Int.zero_add] at this
/-- The bound itself. -/
theorem Qk.holds {w ALL own most dA dM V T : Int} (h : Qk w ALL own dA dM V T) (hf : w * (V - T) ≤ own * (ALL - w) * 720720 + w * (720720 * most)) : w * dA - (2 * own * ALL + (most - 2 * own) * w) ≤ dM * ALL := by
  unfold Qk at h
  have e1 : w * (720720 * dA) = 720720 * (w * dA) := Int.mul_left_comm _ _ _
  have e2 : w * (720720 * most) = 720720 * (w * most) := Int.mul_left_comm _ _ _
  have e3 : own * (ALL - w) = own * ALL - own * w := Int.mul_sub _ _ _
  have e4 : (most - 2 * own) * w = w * most - 2 * (own * w) := by rw [Int.sub_mul, Int.mul_comm most w, Int.mul_assoc]
  have e5 : 2 * own * ALL = 2 * (own * ALL) := Int.mul_assoc _ _ _
  rw [e1] at h
  rw [e2] at hf
  rw [e3] at h hf
  rw [e4, e5]
  omega
/-- What a pick does to a flow that is asked for. -/
theorem nx_pick {N fl : Nat} {ALL most own : Int} {W h : Nat → Int} {y : Sched} {p : Picked} (B : BI N ALL 720720 most own fl W y) (hD : ∀ i, i < N → y.D i = false) (hZ : ∀ i, i < N → y.Z i = h i) (hf : fl < N) (hr : 0 < h fl) (S : Served1 N h y p) :
    ∃ k : Nat, p.k = (k : Int) ∧ p.ok = true ∧ k < N ∧ 0 < h k ∧ y.V + h k * 720720 ≤ p.x.V ∧ p.x.Z = y.Z ∧ p.x.D = upb y.D k true ∧
      W fl * (nx (p.x.Z fl) (p.x.D fl) (p.x.S fl) (p.x.F fl) - nx (y.Z fl) (y.D fl) (y.S fl) (y.F fl)) = (if k = fl then h k else 0) * ALL * 720720 := by
  obtain ⟨k, V1, rfl, hk, hp, hV1, hkS, hmin, hj⟩ := S
  refine ⟨k, rfl, rfl, hk, hp, by show y.V + _ ≤ V1 + _; omega, rfl, rfl, ?_⟩
  show W fl * (nx (y.Z fl) (upb y.D k true fl) (y.S fl) (y.F fl) - nx (y.Z fl) (y.D fl) (y.S fl) (y.F fl)) = _
  have hz : 0 < y.Z fl := by rw [hZ fl hf]; exact hr
  by_cases e : k = fl
  · subst e
    rw [if_pos rfl]
    have eD : upb y.D k true k = true := by simp [upb]
    unfold nx
    rw [eD, hD k hk, if_neg (by simp), if_pos ⟨hz, rfl⟩, ← hZ k hk]
    exact B.tag k hk hz (hD k hk)
  · rw [if_neg e]
    have eD : upb y.D k true fl = y.D fl := if_neg (fun q => e q.symm)
    rw [eD, Int.sub_self]
    simp
/-- A flow that was asked for, and is, with the same head or the next one, begins where it would have. -/
theorem nx_same {V z n c s f : Int} {d : Bool} (hz : 0 < z) (hn : 0 < n) (hs : d = false → z = n) : nx n false (hrS V s f z n c d) (hrF V s f z n c d) = nx z d s f := by
  unfold nx
  rw [if_pos ⟨hn, rfl⟩]
  cases d with
  | true => rw [if_neg (by simp)]; simp [hrS, hrF1, show n ≠ 0 by omega]
  | false =>
    have := hs rfl
    subst this
    rw [if_pos ⟨hz, rfl⟩]
    simp [hrS, hrF1, show z ≠ 0 by omega]
end Fb
end Go.Proofs.Ytkefkophlhcbiaa
