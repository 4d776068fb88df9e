/- The scheduler run over queues: plain. -/
import Derived.Test.YtkefkophlhcbiaaF16
namespace Go.Proofs.Ytkefkophlhcbiaa
open Go.ChangeShapes Go.WideShapes Go.ChangeAt Go.RowKit Go.Maps
set_option linter.unusedVariables false
set_option linter.unusedSimpArgs false
open BigFrame Pk Fq Vr Fa

namespace Fa
/-- By how much the times may go on at a pick. -/
def PM : Int := 139459320000
theorem Inv.pick {M ALL V : Int} {N : Nat} {W Z : Nat → Int} {D : Nat → Bool} {S F h : Nat → Int} (H : Inv M ALL V N W Z D S F) (hh : ∀ i, i < N → headBad (h i) = false) :
    Inv (M + PM) ALL (pickX N h (toldN N ALL V W Z D S F h)).x.V N W (pickX N h (toldN N ALL V W Z D S F h)).x.Z (pickX N h (toldN N ALL V W Z D S F h)).x.D (pickX N h (toldN N ALL V W Z D S F h)).x.S (pickX N h (toldN N ALL V W Z D S F h)).x.F := by
  have hI := H.told hh N
  have hZ : ∀ i, i < N → (toldN N ALL V W Z D S F h).Z i = h i := fun i hi => mix_lt h Z hi
  have hV : (toldN N ALL V W Z D S F h).V = V := rfl
  generalize hx : toldN N ALL V W Z D S F h = x at hI hZ hV ⊢
  unfold pickX
  by_cases hno : leastK x.S (rdy h) N < 0
  · rw [if_pos hno]
    exact ⟨by rw [hV]; exact hI.far.mono (by unfold CM PM; omega), hI.w, hI.all, hI.z, hI.d⟩
  · rw [if_neg hno]
    obtain ⟨kn, hkn, hkN, hkr, hkS⟩ := pick_some (F := x.F) (V := x.V) hno
    simp only [hkn, Int.toNat_natCast]
    have hpos : 0 < h kn := by simpa [rdy] using hkr
    have hle := (headOk (hh kn hkN)).2
    have h2 := hI.far.2.2 (leastK x.S (rdy h) N).toNat (by have := (leastK_lt x.S (rdy h) N).2; omega)
    have h3 := hI.far.1
    have h4 := hI.far.2.1
    rw [hV]
    refine ⟨⟨by omega, by unfold CM PM at *; omega, fun i hi => ?_⟩, hI.w, hI.all, hI.z, fun i hi hd => ?_⟩
    · have := hI.far.2.2 i hi
      unfold CM PM at *
      omega
    · unfold upb at hd
      by_cases e : i = kn
      · subst e; rw [hZ i hi]; exact hpos
      · rw [if_neg e] at hd; exact hI.d i hi hd
/-- Where the heads of queues are that went on so far. -/
def headsQ (Q : Nat → List Int) (t : Nat → Nat) : Nat → Int := fun i => (Q i).getD (t i) 0
def upn (t : Nat → Nat) (k x : Nat) : Nat → Nat := fun i => if i = k then x else t i
def stepX (N : Nat) (ALL : Int) (W : Nat → Int) (Q : Nat → List Int) (x : Sched) (t : Nat → Nat) : Picked := pickX N (headsQ Q t) (toldN N ALL x.V W x.Z x.D x.S x.F (headsQ Q t))
/-- Which flows are served, one by one. -/
def servedN (N : Nat) (ALL : Int) (W : Nat → Int) (Q : Nat → List Int) : Nat → Sched → (Nat → Nat) → List Int
  | 0, _, _ => []
  | m + 1, x, t => if (stepX N ALL W Q x t).ok = true then (stepX N ALL W Q x t).k :: servedN N ALL W Q m (stepX N ALL W Q x t).x (upn t (stepX N ALL W Q x t).k.toNat (t (stepX N ALL W Q x t).k.toNat + 1)) else []
def sched0 : Sched := ⟨0, nz, nd, nz, nz⟩
theorem inv0 {N : Nat} {W : Nat → Int} (h8 : N ≤ 8) (hW : ∀ i, i < N → 1 ≤ W i ∧ W i ≤ 16) : Inv 0 (sumW W N) 0 N W nz nd nz nz := by
  have h1 := sumW_b hW N (Nat.le_refl _)
  have hle : ∀ n, n ≤ N → ∀ i, i < n → W i ≤ sumW W n := by
    intro n
    induction n with
    | zero => intro _ i hi; omega
    | succ n ih =>
      intro hn i hi
      have h2 := ih (by omega)
      have h3 := sumW_b hW n (by omega)
      have h4 := hW n (by omega)
      simp only [sumW]
      by_cases e : i = n
      · subst e; omega
      · have := h2 i (by omega); omega
  exact ⟨⟨Int.le_refl _, Int.le_refl _, fun i _ => ⟨Int.le_refl _, Int.le_refl _, Int.le_refl _⟩⟩, fun i hi => ⟨(hW i hi).1, (hW i hi).2, hle N (Nat.le_refl _) i hi⟩, by omega, fun i _ => by simp [nz], fun i _ h => by simp [nd] at h⟩
/-- How many are left. -/
def leftQ (Q : Nat → List Int) (t : Nat → Nat) : Nat → Nat
  | 0 => 0
  | n + 1 => leftQ Q t n + ((Q n).length - t n)
theorem leftQ_same {Q : Nat → List Int} {t t' : Nat → Nat} : ∀ n, (∀ i, i < n → t i = t' i) → leftQ Q t n = leftQ Q t' n
  | 0, _ => rfl
  | n + 1, h => by simp only [leftQ]; rw [leftQ_same n (fun i hi => h i (by omega)), h n (by omega)]
theorem leftQ_step {Q : Nat → List Int} {t : Nat → Nat} {k : Nat} (hk : t k < (Q k).length) : ∀ n, k < n → leftQ Q (upn t k (t k + 1)) n + 1 = leftQ Q t n
  | 0, h => by omega
  | n + 1, h => by
    simp only [leftQ]
    by_cases e : k = n
    · subst e
      rw [leftQ_same (t' := t) k (fun i hi => by unfold upn; rw [if_neg (by omega)])]
      have e2 : upn t k (t k + 1) k = t k + 1 := if_pos rfl
      rw [e2]
      omega
    · have := leftQ_step hk n (by omega)
      have e2 : upn t k (t k + 1) n = t n := if_neg (fun q => e q.symm)
      rw [e2]
      omega
theorem leftQ_pos {Q : Nat → List Int} {t : Nat → Nat} : ∀ n, 0 < leftQ Q t n → ∃ i, i < n ∧ t i < (Q i).length
  | 0, h => by simp [leftQ] at h
  | n + 1, h => by
    simp only [leftQ] at h
    by_cases e : t n < (Q n).length
    · exact ⟨n, by omega, e⟩
    · obtain ⟨i, a, b⟩ := leftQ_pos (Q := Q) (t := t) n (by omega)
      exact ⟨i, by omega, b⟩
theorem leftQ_none {Q : Nat → List Int} {t : Nat → Nat} {n i : Nat} (h : leftQ Q t n = 0) (hi : i < n) : (Q i).length ≤ t i := by
  induction n with
  | zero => omega
  | succ n ih =>
    simp only [leftQ] at h
    by_cases e : i = n
    · subst e; omega
    · exact ih (by omega) (by omega)
/-- Good sizes. -/
def goodQ (Q : Nat → List Int) (N : Nat) : Prop := ∀ i, i < N → ∀ x, x ∈ Q i → 1 ≤ x ∧ x ≤ 1500
theorem headsQ_in {Q : Nat → List Int} {N : Nat} (hg : goodQ Q N) {t : Nat → Nat} {i : Nat} (hi : i < N) (ht : t i < (Q i).length) : 1 ≤ headsQ Q t i ∧ headsQ Q t i ≤ 1500 := by
  unfold headsQ
  rw [List.getD_eq_getElem?_getD, List.getElem?_eq_getElem ht]
  exact hg i hi _ (List.getElem_mem ht)
theorem headsQ_out {Q : Nat → List Int} {t : Nat → Nat} {i : Nat} (ht : (Q i).length ≤ t i) : headsQ Q t i = 0 := by
  unfold headsQ
  rw [List.getD_eq_getElem?_getD, List.getElem?_eq_none ht]
  rfl
theorem headsQ_ok {Q : Nat → List Int} {N : Nat} (hg : goodQ Q N) (t : Nat → Nat) : ∀ i, i < N → headBad (headsQ Q t i) = false := fun i hi => by
  unfold headBad
  by_cases ht : t i < (Q i).length
  · have := headsQ_in hg hi ht
    simp; omega
  · rw [headsQ_out (by omega)]; simp
/-- What is picked is ready. -/
theorem stepX_yes {N : Nat} {ALL : Int} {W : Nat → Int} {Q : Nat → List Int} {x : Sched} {t : Nat → Nat} (hg : goodQ Q N) (h : (stepX N ALL W Q x t).ok = true) : ∃ k : Nat, (stepX N ALL W Q x t).k = (k : Int) ∧ k < N ∧ t k < (Q k).length := by
  unfold stepX at h ⊢
  generalize toldN N ALL x.V W x.Z x.D x.S x.F (headsQ Q t) = y at h ⊢
  unfold pickX at h ⊢
  by_cases hno : leastK y.S (rdy (headsQ Q t)) N < 0
  · rw [if_pos hno] at h; simp at h
  · rw [if_neg hno]
    obtain ⟨kn, hkn, hkN, hkr, hkS⟩ := pick_some (F := y.F) (V := y.V) hno
    refine ⟨kn, by simp only [hkn], hkN, ?_⟩
    have hpos : 0 < headsQ Q t kn := by simpa [rdy] using hkr
    refine Classical.byContradiction fun q => ?_
    rw [headsQ_out (by omega)] at hpos
    omega
theorem stepX_no {N : Nat} {ALL : Int} {W : Nat → Int} {Q : Nat → List Int} {x : Sched} {t : Nat → Nat} (hg : goodQ Q N) (h : (stepX N ALL W Q x t).ok = false) : leftQ Q t N = 0 := by
  unfold stepX at h
  generalize toldN N ALL x.V W x.Z x.D x.S x.F (headsQ Q t) = y at h
  unfold pickX at h
  by_cases hno : leastK y.S (rdy (headsQ Q t)) N < 0
  · refine Classical.byContradiction fun q => ?_
    obtain ⟨i, hi, ht⟩ := leftQ_pos (Q := Q) (t := t) N (by omega)
    have h1 := leastK_no hno i hi
    have h2 := headsQ_in hg hi ht
    simp [rdy] at h1
    omega
  · rw [if_neg hno] at h; simp at h
end Fa
end Go.Proofs.Ytkefkophlhcbiaa
