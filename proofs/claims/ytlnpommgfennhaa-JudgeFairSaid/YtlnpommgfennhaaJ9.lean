/- The judge: what is kept between packets is kept everywhere: the plain law. -/
import Derived.Test.YtlnpommgfennhaaJ8
namespace Go.Proofs.Ytlnpommgfennhaa
open Go.ChangeShapes Go.WideShapes Go.ChangeAt Go.RowKit
set_option linter.unusedVariables false
set_option linter.unusedSimpArgs false
open Jd
namespace Jd
def YBd (Y : Nat → Nat → Int) (M : Nat) : Prop := ∀ i, i < M → (0 ≤ Y i 2 ∧ Y i 2 ≤ 1000000) ∧ 0 ≤ Y i 3 ∧ Y i 3 ≤ 1000000
theorem bst_wide (Y : Nat → Nat → Int) (M : Nat) (tn f f2 t u : Int) (h : t ≤ u) (hf : f2 ≤ f) (p : Nat) :
    (bst Y M tn f t p).2.2 = (bst Y M tn f2 u p).2.2 ∧ (bst Y M tn f t p).1 ≤ (bst Y M tn f2 u p).1 ∧ (bst Y M tn f t p).2.1 ≤ (bst Y M tn f2 u p).2.1 := by
  induction p with
  | zero => simp [bst]
  | succ p ih =>
    obtain ⟨i1, i2, i3⟩ := ih
    show (bstep tn f t (Y (M - 1 - p)) (bst Y M tn f t p)).2.2 = (bstep tn f2 u (Y (M - 1 - p)) (bst Y M tn f2 u p)).2.2 ∧ (bstep tn f t (Y (M - 1 - p)) (bst Y M tn f t p)).1 ≤ (bstep tn f2 u (Y (M - 1 - p)) (bst Y M tn f2 u p)).1 ∧ (bstep tn f t (Y (M - 1 - p)) (bst Y M tn f t p)).2.1 ≤ (bstep tn f2 u (Y (M - 1 - p)) (bst Y M tn f2 u p)).2.1
    generalize bst Y M tn f t p = z at *
    generalize bst Y M tn f2 u p = z2 at *
    obtain ⟨r, b, e⟩ := z
    obtain ⟨r2, b2, e2⟩ := z2
    simp only at i1 i2 i3
    subst i1
    unfold bstep
    by_cases q : Y (M - 1 - p) 1 ≠ tn
    · rw [if_pos q, if_pos q]; exact ⟨rfl, i2, i3⟩
    · rw [if_neg q, if_neg q]
      by_cases q1 : Y (M - 1 - p) 0 ≤ t ∧ f ≤ e
      · rw [if_pos q1, if_pos ⟨by omega, by have := q1.2; dsimp only; omega⟩]; exact ⟨rfl, by dsimp only; omega, by dsimp only; omega⟩
      · rw [if_neg q1]
        by_cases q2 : Y (M - 1 - p) 0 ≤ u ∧ f2 ≤ e
        · rw [if_pos q2]; exact ⟨rfl, by dsimp only; omega, by dsimp only; omega⟩
        · rw [if_neg q2]; exact ⟨rfl, i2, i3⟩
theorem boundI_wide {Y : Nat → Nat → Int} {M : Nat} (tn s s2 t t2 h h2 : Int) (hs : s2 ≤ s) (ht : t ≤ t2) (hh : h ≤ h2) (hY : YBd Y M) : boundI Y M tn s t h ≤ boundI Y M tn s2 t2 h2 := by
  have hn := boundI_nn tn s2 t2 h2 hY
  have m1 : tickI t ≤ tickI t2 := by unfold tickI; omega
  have m2 : tickI s2 ≤ tickI s := by unfold tickI; omega
  have m3 : tickI h ≤ tickI h2 := by unfold tickI; omega
  by_cases h1 : tickI t ≤ tickI s
  · have : boundI Y M tn s t h = 0 := by unfold boundI; rw [if_pos h1]
    omega
  · unfold boundI
    rw [if_neg h1, if_neg (by omega)]
    have hb := bst_bd tn (tickI s - tickI h) (tickI t) hY M (Nat.le_refl _)
    obtain ⟨n1, n2, n3⟩ := bst_wide Y M tn (tickI s - tickI h) (tickI s2 - tickI h2) (tickI t) (tickI t2) m1 (by omega) M
    have h2' := Int.mul_le_mul n2 (show tickI t - tickI s ≤ tickI t2 - tickI s2 by omega) (by omega) (by omega)
    omega
theorem ownL_pre (X : Nat → Nat → Int) (tn : Int) (N d : Nat) : ∃ r, ownL X tn (N + d) = ownL X tn N ++ r := by
  induction d with
  | zero => exact ⟨[], by simp⟩
  | succ d ih =>
    obtain ⟨r, hr⟩ := ih
    exact ⟨r ++ (if X (N + d) 2 = tn then [N + d] else []), by rw [← List.append_assoc, ← hr]; rfl⟩
theorem ownN_le (X : Nat → Nat → Int) (tn : Int) {N N2 : Nat} (h : N ≤ N2) : ownN X tn N ≤ ownN X tn N2 := by
  obtain ⟨r, hr⟩ := ownL_pre X tn N (N2 - N)
  rw [show N + (N2 - N) = N2 by omega] at hr
  unfold ownN
  rw [hr]
  simp
theorem ownX_pre (X : Nat → Nat → Int) (tn : Int) {N N2 : Nat} (h : N ≤ N2) (q : Nat) (hq : q < ownN X tn N) (j : Nat) : ownX X tn N2 q j = ownX X tn N q j := by
  obtain ⟨r, hr⟩ := ownL_pre X tn N (N2 - N)
  rw [show N + (N2 - N) = N2 by omega] at hr
  unfold ownX
  unfold ownN at hq
  rw [hr]
  simp only [List.getD, List.getElem?_append_left hq]
/-- What went out of a tenant's packets. -/
def outO (Z : Nat → Nat → Int) (s t : Int) : Nat → Int
  | 0 => 0
  | n + 1 => outO Z s t n + if s < Z n 0 ∧ Z n 0 ≤ t then Z n 4 else 0
theorem outO_congr {Z Z2 : Nat → Nat → Int} (s t : Int) (n : Nat) (h : ∀ q, q < n → Z q 0 = Z2 q 0 ∧ Z q 4 = Z2 q 4) : outO Z s t n = outO Z2 s t n := by
  induction n with
  | zero => rfl
  | succ n ih =>
    unfold outO
    rw [ih (fun q hq => h q (by omega)), (h n (by omega)).1, (h n (by omega)).2]
theorem sumI_congr {Z Z2 : Nat → Nat → Int} (x : Int) (n : Nat) (h : ∀ q, q < n → Z q 0 = Z2 q 0 ∧ Z q 4 = Z2 q 4) : sumI Z x n = sumI Z2 x n := by
  induction n with
  | zero => rfl
  | succ n ih =>
    unfold sumI
    rw [ih (fun q hq => h q (by omega)), (h n (by omega)).1, (h n (by omega)).2]
theorem outI_own (X : Nat → Nat → Int) (tn s t : Int) (N : Nat) : outI X tn s t N = outO (ownX X tn N) s t (ownN X tn N) := by
  induction N with
  | zero => rfl
  | succ N ih =>
    unfold outI
    rw [ih]
    have hc : outO (ownX X tn N) s t (ownN X tn N) = outO (ownX X tn (N + 1)) s t (ownN X tn N) :=
      outO_congr s t _ fun q hq => ⟨(ownX_pre X tn (by omega) q hq 0).symm, (ownX_pre X tn (by omega) q hq 4).symm⟩
    by_cases h : X N 2 = tn
    · have hn : ownN X tn (N + 1) = ownN X tn N + 1 := by unfold ownN; rw [ownL_in h]; simp
      have hx : ∀ j, ownX X tn (N + 1) (ownN X tn N) j = X N j := fun j => by
        unfold ownX ownN
        rw [ownL_in h]
        simp [List.getD]
      rw [hn, hc]
      show _ = outO (ownX X tn (N + 1)) s t (ownN X tn N) + (if s < ownX X tn (N + 1) (ownN X tn N) 0 ∧ ownX X tn (N + 1) (ownN X tn N) 0 ≤ t then ownX X tn (N + 1) (ownN X tn N) 4 else 0)
      rw [hx, hx]
      by_cases q : s < X N 0 ∧ X N 0 ≤ t
      · rw [if_pos ⟨h, q⟩, if_pos q]
      · rw [if_neg (fun k => q k.2), if_neg q]
    · have hn : ownN X tn (N + 1) = ownN X tn N := by unfold ownN; rw [ownL_out h]
      rw [hn, ← hc, if_neg (fun k => h k.1), Int.add_zero]
theorem ownL_lt (X : Nat → Nat → Int) (tn : Int) (N : Nat) : (ownL X tn N).Pairwise (· < ·) := by
  induction N with
  | zero => exact List.Pairwise.nil
  | succ N ih =>
    by_cases h : X N 2 = tn
    · rw [ownL_in h]
      exact List.pairwise_append.2 ⟨ih, List.pairwise_singleton _ _, fun a ha b hb => by
        obtain rfl : b = N := by simpa using hb
        exact (ownL_mem ha).1⟩
    · rw [ownL_out h]; exact ih
/-- Ticks do not fall. -/
def Sorted (X : Nat → Nat → Int) (N : Nat) : Prop := ∀ i j, i ≤ j → j < N → X i 0 ≤ X j 0
theorem sorted_of {X : Nat → Nat → Int} {m : Nat → Bool} {N : Nat} (h : risingOk X m N) : Sorted X N := by
  intro i j hij
  induction j with
  | zero => intro _; obtain rfl : i = 0 := (by omega); exact Int.le_refl _
  | succ j ih =>
    intro hj
    by_cases e : i = j + 1
    · subst e; exact Int.le_refl _
    · have h1 := ih (by omega) (by omega)
      have h2 : X j 0 ≤ X (j + 1) 0 := (h (j + 1) hj).1
      omega
theorem own_in {X : Nat → Nat → Int} {tn : Int} {N q : Nat} (hq : q < ownN X tn N) : (ownL X tn N).getD q 0 < N := by
  unfold ownN at hq
  have hmem : (ownL X tn N).getD q 0 ∈ ownL X tn N := by
    simp only [List.getD, List.getElem?_eq_getElem hq, Option.getD_some]
    exact List.getElem_mem hq
  exact (ownL_mem hmem).1
theorem own_sorted {X : Nat → Nat → Int} {N : Nat} (tn : Int) (h : Sorted X N) : Sorted (ownX X tn N) (ownN X tn N) := by
  intro i j hij hj
  by_cases e : i = j
  · subst e; exact Int.le_refl _
  · refine h _ _ ?_ (own_in hj)
    unfold ownN at hj
    have hp := List.pairwise_iff_getElem.1 (ownL_lt X tn N) i j (by omega) hj (by omega)
    simp only [List.getD, List.getElem?_eq_getElem hj, List.getElem?_eq_getElem (show i < (ownL X tn N).length by omega), Option.getD_some]
    omega
theorem first_above (Z : Nat → Nat → Int) (s : Int) (q : Nat) (h : s < Z q 0) : ∃ i, i ≤ q ∧ s < Z i 0 ∧ ∀ j, j < i → Z j 0 ≤ s := by
  induction q using Nat.strongRecOn with
  | ind q ih =>
    by_cases hx : ∃ j, j < q ∧ s < Z j 0
    · obtain ⟨j, h1, h2⟩ := hx
      obtain ⟨i, h3, h4, h5⟩ := ih j h1 h2
      exact ⟨i, by omega, h4, h5⟩
    · refine ⟨q, Nat.le_refl _, h, fun j hj => ?_⟩
      refine Classical.byContradiction fun k => hx ⟨j, hj, by omega⟩
theorem last_below (Z : Nat → Nat → Int) (t : Int) (n : Nat) : ∀ d q, q + d + 1 = n → Z q 0 ≤ t → ∃ k, q ≤ k ∧ k < n ∧ Z k 0 ≤ t ∧ ∀ j, k < j → j < n → ¬ ∀ l, q ≤ l → l ≤ j → Z l 0 ≤ t := by
  intro d
  induction d with
  | zero => intro q hq h; exact ⟨q, Nat.le_refl _, by omega, h, fun j h1 h2 => by omega⟩
  | succ d ih =>
    intro q hq h
    by_cases hx : Z (q + 1) 0 ≤ t
    · obtain ⟨k, h1, h2, h3, h4⟩ := ih (q + 1) (by omega) hx
      exact ⟨k, by omega, h2, h3, fun j h5 h6 h7 => h4 j h5 h6 fun l h8 h9 => h7 l (by omega) h9⟩
    · exact ⟨q, Nat.le_refl _, by omega, h, fun j h1 h2 h3 => hx (h3 (q + 1) (by omega) (by omega))⟩
theorem last_sorted {Z : Nat → Nat → Int} {n : Nat} (hs : Sorted Z n) (t : Int) (q : Nat) (hq : q < n) (h : Z q 0 ≤ t) : ∃ k, q ≤ k ∧ k < n ∧ Z k 0 ≤ t ∧ (k + 1 = n ∨ t < Z (k + 1) 0) ∧ ∀ j, k < j → j < n → t < Z j 0 := by
  obtain ⟨k, h1, h2, h3, h4⟩ := last_below Z t n (n - 1 - q) q (by omega) h
  have h5 : ∀ j, k < j → j < n → t < Z j 0 := fun j hj hn => by
    refine Classical.byContradiction fun hx => h4 j hj hn fun l h6 h7 => ?_
    have := hs l j h7 hn
    omega
  refine ⟨k, h1, h2, h3, ?_, h5⟩
  by_cases e : k + 1 = n
  · exact .inl e
  · exact .inr (h5 (k + 1) (by omega) (by omega))
theorem outO_far {Z : Nat → Nat → Int} (s t : Int) (k : Nat) : ∀ d, (∀ j, k ≤ j → j < k + d → t < Z j 0) → outO Z s t (k + d) = outO Z s t k
  | 0, _ => rfl
  | d + 1, h => by
    show outO Z s t (k + d) + (if s < Z (k + d) 0 ∧ Z (k + d) 0 ≤ t then Z (k + d) 4 else 0) = _
    rw [if_neg (fun q => by have := h (k + d) (by omega) (by omega); omega), outO_far s t k d fun j h1 h2 => h j h1 (by omega), Int.add_zero]
theorem outO_le {Z : Nat → Nat → Int} (s t x : Int) (n : Nat) (h : ∀ q, q < n → 0 ≤ Z q 4) (hx : ∀ q, q < n → s < Z q 0 → x ≤ Z q 0) : outO Z s t n ≤ sumI Z x n := by
  induction n with
  | zero => exact Int.le_refl _
  | succ n ih =>
    have h1 := ih (fun q hq => h q (by omega)) (fun q hq => hx q (by omega))
    have h2 := h n (by omega)
    have h3 := hx n (by omega)
    unfold outO sumI
    split <;> split <;> omega
theorem outO_zero {Z : Nat → Nat → Int} (s t : Int) (n : Nat) (h : ∀ q, q < n → ¬ (s < Z q 0 ∧ Z q 0 ≤ t)) : outO Z s t n = 0 := by
  induction n with
  | zero => rfl
  | succ n ih =>
    unfold outO
    rw [ih (fun q hq => h q (by omega)), if_neg (h n (by omega))]; rfl
theorem sumI_le {Z : Nat → Nat → Int} (x : Int) (n : Nat) : ∀ d, (∀ q, q < n + d → 0 ≤ Z q 4) → sumI Z x n ≤ sumI Z x (n + d)
  | 0, _ => Int.le_refl _
  | d + 1, h => by
    have h1 := sumI_le x n d fun q hq => h q (by omega)
    have h2 := h (n + d) (by omega)
    show _ ≤ sumI Z x (n + d) + (if x ≤ Z (n + d) 0 then Z (n + d) 4 else 0)
    split <;> omega
/-- Kept between packets is kept everywhere. -/
theorem kept_all {X : Nat → Nat → Int} {N : Nat} {Y : Nat → Nat → Int} {M : Nat} {h : Int} (hok : checkOk N X M Y) (tn : Int) (hno : ∀ i k, ¬ viols X N Y M h tn i k) (s t : Int) : 1000 * outI X tn s t N ≤ boundI Y M tn s t h := by
  have hY : YBd Y M := fun i hi => by
    have h2 := forceB_iff.1 (hok.2 i hi).2.2
    omega
  have hs := own_sorted tn (sorted_of hok.1)
  have hz : ∀ q, q < ownN X tn N → 0 ≤ ownX X tn N q 4 := fun q hq => by
    have h2 := sentB_iff.1 (hok.1 _ (own_in hq)).2.2
    unfold ownX
    omega
  rw [outI_own]
  by_cases hx : ∃ q, q < ownN X tn N ∧ s < ownX X tn N q 0 ∧ ownX X tn N q 0 ≤ t
  · obtain ⟨q, hq, h1, h2⟩ := hx
    obtain ⟨i, hi1, hi2, hi3⟩ := first_above _ s q h1
    obtain ⟨k, hk1, hk2, hk3, hk4, hk5⟩ := last_sorted hs t q hq h2
    have hv := hno i k
    have hlast : k + 1 = ownN X tn N ∨ ownX X tn N k 0 < ownX X tn N (k + 1) 0 := hk4.imp id (fun q => by omega)
    have hle : 1000 * sumI (ownX X tn N) (ownX X tn N i 0) (k + 1) ≤ boundI Y M tn (ownX X tn N i 0 - 1) (ownX X tn N k 0) h := by
      refine Classical.byContradiction fun hn => hv ⟨by omega, hk2, by omega, hlast, by omega⟩
    have e1 := outO_far (Z := ownX X tn N) s t (k + 1) (ownN X tn N - (k + 1)) (fun j h3 h4 => hk5 j (by omega) (by omega))
    rw [show k + 1 + (ownN X tn N - (k + 1)) = ownN X tn N by omega] at e1
    have e2 := outO_le (Z := ownX X tn N) s t (ownX X tn N i 0) (k + 1) (fun q hq => hz q (by omega)) (fun q hq h6 => by
      have : i ≤ q := by
        refine Classical.byContradiction fun h7 => ?_
        have := hi3 q (by omega)
        omega
      exact hs i q this (by omega))
    have e3 := boundI_wide (Y := Y) (M := M) tn (ownX X tn N i 0 - 1) s (ownX X tn N k 0) t h h (by omega) hk3 (Int.le_refl _) hY
    omega
  · rw [outO_zero s t _ fun q hq h1 => hx ⟨q, hq, h1⟩]
    have := boundI_nn (Y := Y) (M := M) tn s t h hY
    omega
/-- The beginning of what is kept is kept. -/
theorem kept_pre {X : Nat → Nat → Int} {N N0 : Nat} {Y : Nat → Nat → Int} {M : Nat} {h : Int} (hok : checkOk N X M Y) (hN : N0 ≤ N) (tn : Int) (hno : ∀ i k, ¬ viols X N Y M h tn i k) (i k : Nat) : ¬ viols X N0 Y M h tn i k := by
  rintro ⟨h1, h2, h3, h4, h5⟩
  have hs := own_sorted tn (sorted_of hok.1)
  have hz : ∀ q, q < ownN X tn N → 0 ≤ ownX X tn N q 4 := fun q hq => by
    have h2 := sentB_iff.1 (hok.1 _ (own_in hq)).2.2
    unfold ownX
    omega
  have hn := ownN_le X tn hN
  have hx := fun q hq j => ownX_pre X tn hN q hq j
  rw [← hx i h1 0, ← hx k h2 0, sumI_congr (Z2 := ownX X tn N) _ (k + 1) (fun q hq => ⟨(hx q (by omega) 0).symm, (hx q (by omega) 4).symm⟩)] at h5
  obtain ⟨k2, hk1, hk2, hk3, hk4, hk5⟩ := last_sorted hs (ownX X tn N k 0) k (by omega) (Int.le_refl _)
  have e1 := hs k k2 hk1 hk2
  have e2 : ownX X tn N k2 0 = ownX X tn N k 0 := by omega
  have e3 := sumI_le (Z := ownX X tn N) (ownX X tn N i 0) (k + 1) (k2 - k) (fun q hq => hz q (by omega))
  rw [show k + 1 + (k2 - k) = k2 + 1 by omega] at e3
  exact hno i k2 ⟨by omega, hk2, by omega, by rw [e2]; exact hk4, by rw [e2]; omega⟩
theorem kept_more {X : Nat → Nat → Int} {N : Nat} {Y : Nat → Nat → Int} {M : Nat} {h more : Int} (hok : checkOk N X M Y) (hm : h ≤ more) (tn : Int) (hno : ∀ i k, ¬ viols X N Y M h tn i k) (i k : Nat) : ¬ viols X N Y M more tn i k := by
  rintro ⟨h1, h2, h3, h4, h5⟩
  have hY : YBd Y M := fun i hi => by
    have h2 := forceB_iff.1 (hok.2 i hi).2.2
    omega
  have e3 := boundI_wide (Y := Y) (M := M) tn (ownX X tn N i 0 - 1) (ownX X tn N i 0 - 1) (ownX X tn N k 0) (ownX X tn N k 0) h more (Int.le_refl _) (Int.le_refl _) hm hY
  exact hno i k ⟨h1, h2, h3, h4, by omega⟩
theorem check_pre {X : Nat → Nat → Int} {N N0 : Nat} {Y : Nat → Nat → Int} {M : Nat} (hok : checkOk N X M Y) (hN : N0 ≤ N) : checkOk N0 X M Y := ⟨fun i hi => hok.1 i (by omega), hok.2⟩
theorem pre_rows {w : World} {a : Option Addr} {b off N N0 k : Nat} {X : Nat → Nat → Int} (T : Bs.IntRows w a b off N k X) (hN : N0 ≤ N) : Bs.IntRows w a b off N0 k X :=
  ⟨fun h => T.ha (by omega), fun h => T.hb (by omega), fun i j hi hj => T.c i j (by omega) hj⟩
end Jd
end Go.Proofs.Ytlnpommgfennhaa
