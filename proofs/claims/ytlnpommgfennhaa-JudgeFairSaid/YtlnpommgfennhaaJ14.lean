/- The judge: whether a flow got its share: the plain law. -/
import Derived.Test.YtlnpommgfennhaaJ9
namespace Go.Proofs.Ytlnpommgfennhaa
open Go.ChangeShapes Go.WideShapes Go.ChangeAt Go.RowKit
set_option linter.unusedVariables false
set_option linter.unusedSimpArgs false
open BigFrame Bs Jd

namespace Jd
def clampI (n : Int) : Int := min (max n 0) 1500
theorem clampI_bd (n : Int) : 0 ≤ clampI n ∧ clampI n ≤ 1500 := by unfold clampI; omega
def SW (F : Nat → Nat → Int) : Nat → Int
  | 0 => 0
  | n + 1 => SW F n + F n 1
def PA (X : Nat → Nat → Int) : Nat → Int
  | 0 => 0
  | n + 1 => PA X n + clampI (X n 4)
def PO (X : Nat → Nat → Int) (fl : Int) : Nat → Int
  | 0 => 0
  | n + 1 => PO X fl n + if X n 3 = fl then clampI (X n 4) else 0
theorem SW_bd {F : Nat → Nat → Int} {n : Nat} (h : ∀ i, i < n → 1 ≤ F i 1 ∧ F i 1 ≤ 16) (m : Nat) (hm : m ≤ n) : 0 ≤ SW F m ∧ SW F m ≤ 16 * m := by
  induction m with
  | zero => simp [SW]
  | succ m ih =>
    have h1 := ih (by omega)
    have h2 := h m (by omega)
    unfold SW
    omega
theorem PA_seg (X : Nat → Nat → Int) (a : Nat) : ∀ d, 0 ≤ PA X (a + d) - PA X a ∧ PA X (a + d) - PA X a ≤ 1500 * d
  | 0 => by simp
  | d + 1 => by
    have h1 := PA_seg X a d
    have h2 := clampI_bd (X (a + d) 4)
    show 0 ≤ (PA X (a + d) + clampI (X (a + d) 4)) - PA X a ∧ (PA X (a + d) + clampI (X (a + d) 4)) - PA X a ≤ 1500 * ((d + 1 : Nat) : Int)
    omega
theorem PO_seg (X : Nat → Nat → Int) (fl : Int) (a : Nat) : ∀ d, 0 ≤ PO X fl (a + d) - PO X fl a ∧ PO X fl (a + d) - PO X fl a ≤ 1500 * d
  | 0 => by simp
  | d + 1 => by
    have h1 := PO_seg X fl a d
    have h2 := clampI_bd (X (a + d) 4)
    show 0 ≤ (PO X fl (a + d) + (if X (a + d) 3 = fl then clampI (X (a + d) 4) else 0)) - PO X fl a ∧ (PO X fl (a + d) + (if X (a + d) 3 = fl then clampI (X (a + d) 4) else 0)) - PO X fl a ≤ 1500 * ((d + 1 : Nat) : Int)
    split <;> omega
/-- By how much the flow is behind, packet by packet. -/
def dI (X : Nat → Nat → Int) (fl w all : Int) (q : Nat) : Int := if X q 3 = fl then w * clampI (X q 4) - clampI (X q 4) * all else w * clampI (X q 4)
def kad (d : Nat → Int) : Nat → Int
  | 0 => 0
  | i + 1 => max (kad d i) 0 + d i
def pre (d : Nat → Int) : Nat → Int
  | 0 => 0
  | i + 1 => pre d i + d i
theorem kad_iff (d : Nat → Int) (i : Nat) : ∀ s, s < kad d (i + 1) ↔ ∃ a, a ≤ i ∧ s < pre d (i + 1) - pre d a := by
  induction i with
  | zero =>
    intro s
    constructor
    · intro h
      refine ⟨0, Nat.le_refl _, ?_⟩
      simp only [kad, pre] at h ⊢
      omega
    · rintro ⟨a, ha, h⟩
      obtain rfl : a = 0 := by omega
      simp only [kad, pre] at h ⊢
      omega
  | succ i ih =>
    intro s
    have e : kad d (i + 1 + 1) = max (kad d (i + 1)) 0 + d (i + 1) := rfl
    have e2 : pre d (i + 1 + 1) = pre d (i + 1) + d (i + 1) := rfl
    constructor
    · intro h
      by_cases h1 : s - d (i + 1) < kad d (i + 1)
      · obtain ⟨a, ha, h2⟩ := (ih _).1 h1
        exact ⟨a, by omega, by omega⟩
      · exact ⟨i + 1, Nat.le_refl _, by omega⟩
    · rintro ⟨a, ha, h⟩
      by_cases h1 : a = i + 1
      · subst h1; omega
      · have := (ih (s - d (i + 1))).2 ⟨a, by omega, by omega⟩
        omega
theorem kad_bd {d : Nat → Int} {D : Int} (hd : ∀ q, -D ≤ d q ∧ d q ≤ D) (i : Nat) : -D ≤ kad d i ∧ kad d i ≤ D * i := by
  have h0 := hd 0
  induction i with
  | zero => simp [kad]; omega
  | succ i ih =>
    have h1 := hd i
    have e : D * ((i + 1 : Nat) : Int) = D * (i : Int) + D := by rw [Int.natCast_succ, Int.mul_add, Int.mul_one]
    have e3 : 0 ≤ D * (i : Int) := Int.mul_nonneg (by omega) (by omega)
    rw [e]
    show -D ≤ max (kad d i) 0 + d i ∧ max (kad d i) 0 + d i ≤ _
    omega
theorem pre_eq (X : Nat → Nat → Int) (fl w all : Int) (m : Nat) : pre (dI X fl w all) m = w * PA X m - PO X fl m * all := by
  induction m with
  | zero => simp [pre, PA, PO]
  | succ m ih =>
    show pre (dI X fl w all) m + dI X fl w all m = w * (PA X m + clampI (X m 4)) - (PO X fl m + (if X m 3 = fl then clampI (X m 4) else 0)) * all
    rw [ih, Int.mul_add, Int.add_mul]
    unfold dI
    split
    · omega
    · simp; omega
theorem dI_bd {X : Nat → Nat → Int} {fl w all : Int} (hw : 0 ≤ w ∧ w ≤ 16) (ha : 0 ≤ all ∧ all ≤ 960) (q : Nat) : -1440000 ≤ dI X fl w all q ∧ dI X fl w all q ≤ 1440000 := by
  have h := clampI_bd (X q 4)
  have h1 : 0 ≤ w * clampI (X q 4) := Int.mul_nonneg hw.1 h.1
  have h2 : w * clampI (X q 4) ≤ 16 * 1500 := Int.mul_le_mul hw.2 h.2 h.1 (by omega)
  have h3 : 0 ≤ clampI (X q 4) * all := Int.mul_nonneg h.1 ha.1
  have h4 : clampI (X q 4) * all ≤ 1500 * 960 := Int.mul_le_mul h.2 ha.2 ha.1 (by omega)
  unfold dI
  split <;> omega
/-- What a stretch may lack. -/
def slackI (L Mo w all : Int) : Int := 2 * L * all + (Mo - 2 * L) * w
def FairOk (F : Nat → Nat → Int) (n : Nat) (X : Nat → Nat → Int) (N : Nat) (fl least most : Int) : Prop :=
  (0 ≤ fl ∧ fl < n) ∧ n ≤ 8 ∧ (∀ i, i < n → 1 ≤ F i 1 ∧ F i 1 ≤ 16) ∧
  ∀ a b, a ≤ b → b < N → ¬ slackI (clampI least) (clampI most) (F fl.toNat 1) (SW F n) < pre (dI X fl (F fl.toNat 1) (SW F n)) (b + 1) - pre (dI X fl (F fl.toNat 1) (SW F n)) a
theorem slack_bd {L Mo w all : Int} (hL : 0 ≤ L ∧ L ≤ 1500) (hM : 0 ≤ Mo ∧ Mo ≤ 1500) (hw : 0 ≤ w ∧ w ≤ 16) (ha : 0 ≤ all ∧ all ≤ 960) :
    (0 ≤ 2 * L * all ∧ 2 * L * all ≤ 2880000) ∧ -48000 ≤ (Mo - 2 * L) * w ∧ (Mo - 2 * L) * w ≤ 24000 := by
  have h1 : 0 ≤ 2 * L * all := Int.mul_nonneg (by omega) ha.1
  have h2 : 2 * L * all ≤ 3000 * 960 := Int.mul_le_mul (by omega) ha.2 ha.1 (by omega)
  have h3 : (Mo - 2 * L) * w = Mo * w - 2 * L * w := by rw [Int.sub_mul]
  have h4 : 0 ≤ Mo * w := Int.mul_nonneg hM.1 hw.1
  have h5 : Mo * w ≤ 1500 * 16 := Int.mul_le_mul hM.2 hw.2 hw.1 (by omega)
  have h6 : 0 ≤ 2 * L * w := Int.mul_nonneg (by omega) hw.1
  have h7 : 2 * L * w ≤ 3000 * 16 := Int.mul_le_mul (by omega) hw.2 hw.1 (by omega)
  omega
/-- The array of weights. -/
def arrL (F : Nat → Nat → Int) (k : Nat) : List Value := (List.range 8).map fun j => .int .i64 (if j < k then F j 1 else 0)
theorem arrL_len (F : Nat → Nat → Int) (k : Nat) : (arrL F k).length = 8 := by simp [arrL]
theorem arrL_at (F : Nat → Nat → Int) (k j : Nat) (h : j < 8) : (arrL F k)[j]? = some (.int .i64 (if j < k then F j 1 else 0)) := by
  simp [arrL, List.getElem?_map, h]
theorem arrL_set (F : Nat → Nat → Int) (k : Nat) (h : k < 8) : (arrL F k).set k (.int .i64 (F k 1)) = arrL F (k + 1) := by
  apply List.ext_getElem?
  intro j
  by_cases hj : j < 8
  · by_cases e : k = j
    · subst e
      rw [List.getElem?_set_self (by rw [arrL_len]; exact h), arrL_at F _ _ hj, if_pos (by omega)]
    · rw [List.getElem?_set_ne e, arrL_at F _ _ hj, arrL_at F _ _ hj]
      by_cases q : j < k
      · rw [if_pos q, if_pos (by omega)]
      · rw [if_neg q, if_neg (by omega)]
  · rw [List.getElem?_eq_none (by rw [List.length_set, arrL_len]; omega), List.getElem?_eq_none (by rw [arrL_len]; omega)]
theorem arrL_zero (F : Nat → Nat → Int) : arrL F 0 = [.int .i64 0, .int .i64 0, .int .i64 0, .int .i64 0, .int .i64 0, .int .i64 0, .int .i64 0, .int .i64 0] := by
  simp [arrL, List.range, List.range.loop]
end Jd
end Go.Proofs.Ytlnpommgfennhaa
