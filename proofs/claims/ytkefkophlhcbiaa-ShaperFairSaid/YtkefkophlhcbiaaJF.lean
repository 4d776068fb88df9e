/- The document's judgement of a flow's share, for up to 150 records. -/
import Derived.Test.YtkefkophlhcbiaaBase
import Derived.Test.YtkefkophlhcbiaaStage2
import Derived.Lib.Hide
namespace Go.Proofs.Ytkefkophlhcbiaa
open Go.ChangeShapes Go.WideShapes Go.ChangeAt Go.RowKit
set_option linter.unusedVariables false
set_option linter.unusedSimpArgs false
open BigFrame Bs

namespace Jd
@[irreducible] def mx (a b : Int) : Int := max a b
@[irreducible] def mn (a b : Int) : Int := min a b
theorem mx_eq (a b : Int) : mx a b = max a b := by unfold mx; rfl
theorem mn_eq (a b : Int) : mn a b = min a b := by unfold mn; rfl
theorem mx_fold (a b : Int) : (if a < b then b else a) = mx a b := by rw [mx_eq]; omega
theorem mn_fold (a b : Int) : (if a < b then a else b) = mn a b := by rw [mn_eq]; omega
def clampI (n : Int) : Int := min (max n 0) 1500
theorem clampI_bd (n : Int) : 0 ≤ clampI n ∧ clampI n ≤ 1500 := by unfold clampI; omega
def SW (F : Nat → Nat → Int) : Nat → Int
  | 0 => 0
  | n + 1 => SW F n + F n 1
def PA (X : Nat → Nat → Int) : Nat → Int
  | 0 => 0
  | n + 1 => PA X n + clampI (X n 4)
def PO (X : Nat → Nat → Int) (fl : Int) : Nat → Int
  | 0 => 0
  | n + 1 => PO X fl n + if X n 3 = fl then clampI (X n 4) else 0
theorem SW_bd {F : Nat → Nat → Int} {n : Nat} (h : ∀ i, i < n → 1 ≤ F i 1 ∧ F i 1 ≤ 16) (m : Nat) (hm : m ≤ n) : 0 ≤ SW F m ∧ SW F m ≤ 16 * m := by
  induction m with
  | zero => simp [SW]
  | succ m ih =>
    have h1 := ih (by omega)
    have h2 := h m (by omega)
    unfold SW
    omega
theorem PA_seg (X : Nat → Nat → Int) (a : Nat) : ∀ d, 0 ≤ PA X (a + d) - PA X a ∧ PA X (a + d) - PA X a ≤ 1500 * d
  | 0 => by simp
  | d + 1 => by
    have h1 := PA_seg X a d
    have h2 := clampI_bd (X (a + d) 4)
    show 0 ≤ (PA X (a + d) + clampI (X (a + d) 4)) - PA X a ∧ (PA X (a + d) + clampI (X (a + d) 4)) - PA X a ≤ 1500 * ((d + 1 : Nat) : Int)
    omega
theorem PO_seg (X : Nat → Nat → Int) (fl : Int) (a : Nat) : ∀ d, 0 ≤ PO X fl (a + d) - PO X fl a ∧ PO X fl (a + d) - PO X fl a ≤ 1500 * d
  | 0 => by simp
  | d + 1 => by
    have h1 := PO_seg X fl a d
    have h2 := clampI_bd (X (a + d) 4)
    show 0 ≤ (PO X fl (a + d) + (if X (a + d) 3 = fl then clampI (X (a + d) 4) else 0)) - PO X fl a ∧ (PO X fl (a + d) + (if X (a + d) 3 = fl then clampI (X (a + d) 4) else 0)) - PO X fl a ≤ 1500 * ((d + 1 : Nat) : Int)
    split <;> omega
/-- By how much the flow is behind, packet by packet. -/
def dI (X : Nat → Nat → Int) (fl w all : Int) (q : Nat) : Int := if X q 3 = fl then w * clampI (X q 4) - clampI (X q 4) * all else w * clampI (X q 4)
def kad (d : Nat → Int) : Nat → Int
  | 0 => 0
  | i + 1 => max (kad d i) 0 + d i
def pre (d : Nat → Int) : Nat → Int
  | 0 => 0
  | i + 1 => pre d i + d i
theorem kad_iff (d : Nat → Int) (i : Nat) : ∀ s, s < kad d (i + 1) ↔ ∃ a, a ≤ i ∧ s < pre d (i + 1) - pre d a := by
  induction i with
  | zero =>
    intro s
    constructor
    · intro h
      refine ⟨0, Nat.le_refl _, ?_⟩
      simp only [kad, pre] at h ⊢
      omega
    · rintro ⟨a, ha, h⟩
      obtain rfl : a = 0 := by omega
      simp only [kad, pre] at h ⊢
      omega
  | succ i ih =>
    intro s
    have e : kad d (i + 1 + 1) = max (kad d (i + 1)) 0 + d (i + 1) := rfl
    have e2 : pre d (i + 1 + 1) = pre d (i + 1) + d (i + 1) := rfl
    constructor
    · intro h
      by_cases h1 : s - d (i + 1) < kad d (i + 1)
      · obtain ⟨a, ha, h2⟩ := (ih _).1 h1
        exact ⟨a, by omega, by omega⟩
      · exact ⟨i + 1, Nat.le_refl _, by omega⟩
    · rintro ⟨a, ha, h⟩
      by_cases h1 : a = i + 1
      · subst h1; omega
      · have := (ih (s - d (i + 1))).2 ⟨a, by omega, by omega⟩
        omega
theorem kad_bd {d : Nat → Int} {D : Int} (hd : ∀ q, -D ≤ d q ∧ d q ≤ D) (i : Nat) : -D ≤ kad d i ∧ kad d i ≤ D * i := by
  have h0 := hd 0
  induction i with
  | zero => simp [kad]; omega
  | succ i ih =>
    have h1 := hd i
    have e : D * ((i + 1 : Nat) : Int) = D * (i : Int) + D := by rw [Int.natCast_succ, Int.mul_add, Int.mul_one]
    have e3 : 0 ≤ D * (i : Int) := Int.mul_nonneg (by omega) (by omega)
    rw [e]
    show -D ≤ max (kad d i) 0 + d i ∧ max (kad d i) 0 + d i ≤ _
    omega
theorem pre_eq (X : Nat → Nat → Int) (fl w all : Int) (m : Nat) : pre (dI X fl w all) m = w * PA X m - PO X fl m * all := by
  induction m with
  | zero => simp [pre, PA, PO]
  | succ m ih =>
    show pre (dI X fl w all) m + dI X fl w all m = w * (PA X m + clampI (X m 4)) - (PO X fl m + (if X m 3 = fl then clampI (X m 4) else 0)) * all
    rw [ih, Int.mul_add, Int.add_mul]
    unfold dI
    split
    · omega
    · simp; omega
theorem dI_bd {X : Nat → Nat → Int} {fl w all : Int} (hw : 0 ≤ w ∧ w ≤ 16) (ha : 0 ≤ all ∧ all ≤ 960) (q : Nat) : -1440000 ≤ dI X fl w all q ∧ dI X fl w all q ≤ 1440000 := by
  have h := clampI_bd (X q 4)
  have h1 : 0 ≤ w * clampI (X q 4) := Int.mul_nonneg hw.1 h.1
  have h2 : w * clampI (X q 4) ≤ 16 * 1500 := Int.mul_le_mul hw.2 h.2 h.1 (by omega)
  have h3 : 0 ≤ clampI (X q 4) * all := Int.mul_nonneg h.1 ha.1
  have h4 : clampI (X q 4) * all ≤ 1500 * 960 := Int.mul_le_mul h.2 ha.2 ha.1 (by omega)
  unfold dI
  split <;> omega
/-- What a stretch may lack. -/
def slackI (L Mo w all : Int) : Int := 2 * L * all + (Mo - 2 * L) * w
def FairOk (F : Nat → Nat → Int) (n : Nat) (X : Nat → Nat → Int) (N : Nat) (fl least most : Int) : Prop :=
  (0 ≤ fl ∧ fl < n) ∧ n ≤ 8 ∧ (∀ i, i < n → 1 ≤ F i 1 ∧ F i 1 ≤ 16) ∧
  ∀ a b, a ≤ b → b < N → ¬ slackI (clampI least) (clampI most) (F fl.toNat 1) (SW F n) < pre (dI X fl (F fl.toNat 1) (SW F n)) (b + 1) - pre (dI X fl (F fl.toNat 1) (SW F n)) a
theorem slack_bd {L Mo w all : Int} (hL : 0 ≤ L ∧ L ≤ 1500) (hM : 0 ≤ Mo ∧ Mo ≤ 1500) (hw : 0 ≤ w ∧ w ≤ 16) (ha : 0 ≤ all ∧ all ≤ 960) :
    (0 ≤ 2 * L * all ∧ 2 * L * all ≤ 2880000) ∧ -48000 ≤ (Mo - 2 * L) * w ∧ (Mo - 2 * L) * w ≤ 24000 := by
  have h1 : 0 ≤ 2 * L * all := Int.mul_nonneg (by omega) ha.1
  have h2 : 2 * L * all ≤ 3000 * 960 := Int.mul_le_mul (by omega) ha.2 ha.1 (by omega)
  have h3 : (Mo - 2 * L) * w = Mo * w - 2 * L * w := by rw [Int.sub_mul]
  have h4 : 0 ≤ Mo * w := Int.mul_nonneg hM.1 hw.1
  have h5 : Mo * w ≤ 1500 * 16 := Int.mul_le_mul hM.2 hw.2 hw.1 (by omega)
  have h6 : 0 ≤ 2 * L * w := Int.mul_nonneg (by omega) hw.1
  have h7 : 2 * L * w ≤ 3000 * 16 := Int.mul_le_mul (by omega) hw.2 hw.1 (by omega)
  omega
/-- The array of weights. -/
def arrL (F : Nat → Nat → Int) (k : Nat) : List Value := (List.range 8).map fun j => .int .i64 (if j < k then F j 1 else 0)
theorem arrL_len (F : Nat → Nat → Int) (k : Nat) : (arrL F k).length = 8 := by simp [arrL]
theorem arrL_at (F : Nat → Nat → Int) (k j : Nat) (h : j < 8) : (arrL F k)[j]? = some (.int .i64 (if j < k then F j 1 else 0)) := by
  simp [arrL, List.getElem?_map, h]
theorem arrL_set (F : Nat → Nat → Int) (k : Nat) (h : k < 8) : (arrL F k).set k (.int .i64 (F k 1)) = arrL F (k + 1) := by
  apply List.ext_getElem?
  intro j
  by_cases hj : j < 8
  · by_cases e : k = j
    · subst e
      rw [List.getElem?_set_self (by rw [arrL_len]; exact h), arrL_at F _ _ hj, if_pos (by omega)]
    · rw [List.getElem?_set_ne e, arrL_at F _ _ hj, arrL_at F _ _ hj]
      by_cases q : j < k
      · rw [if_pos q, if_pos (by omega)]
      · rw [if_neg q, if_neg (by omega)]
  · rw [List.getElem?_eq_none (by rw [List.length_set, arrL_len]; omega), List.getElem?_eq_none (by rw [arrL_len]; omega)]
theorem arrL_zero (F : Nat → Nat → Int) : arrL F 0 = [.int .i64 0, .int .i64 0, .int .i64 0, .int .i64 0, .int .i64 0, .int .i64 0, .int .i64 0, .int .i64 0] := by
  simp [arrL, List.range, List.range.loop]
end Jd
open Jd
attribute [local go_sem] mx_fold mn_fold

theorem clamp_mm (n : Int) : mn 1500 (mx n 0) = clampI n := by rw [mn_eq, mx_eq]; unfold clampI; omega

theorem PA_seg2 (X : Nat → Nat → Int) {a k : Nat} (h : a ≤ k) (hk : k ≤ 150) : 0 ≤ PA X k - PA X a ∧ PA X k - PA X a ≤ 225000 := by
  have := PA_seg X a (k - a)
  rw [show a + (k - a) = k by omega] at this
  omega
theorem PO_seg2 (X : Nat → Nat → Int) (fl : Int) {a k : Nat} (h : a ≤ k) (hk : k ≤ 150) : 0 ≤ PO X fl k - PO X fl a ∧ PO X fl k - PO X fl a ≤ 225000 := by
  have := PO_seg X fl a (k - a)
  rw [show a + (k - a) = k by omega] at this
  omega

set_option maxRecDepth 100000 in
set_option maxHeartbeats 8000000 in
theorem rfair27_c (ok : Bool) (a a2 : Option Addr) (b off n c b2 off2 N c2 : Nat) (F X : Nat → Nat → Int) (fl least most : Int) (w : World) (T : IntRows w a b off n 3 F) (T2 : IntRows w a2 b2 off2 N 6 X) (hn : n ≤ 60) (hN : N ≤ 150) (hok : ok = true ↔ FairOk F n X N fl least most) :
    Calls Try.prog 17 #[.slice a n c, .slice a2 N c2, .int .i64 fl, .int .i64 least, .int .i64 most] w fun e w' => e = .returned (.bool ok) ∧ w = w' := by
  have hni : (n : Int) ≤ 60 := by omega
  have hNi : (N : Int) ≤ 150 := by omega
  have hbad : ∀ i, i < n → ¬ (1 ≤ F i 1 ∧ F i 1 ≤ 16) → ok = false := fun i hi q => by
    cases ok
    · rfl
    · exact absurd ((hok.1 rfl).2.2.1 i hi) q
  replace hok := Lib.hid hok
  replace hbad := Lib.hid hbad
  replace T := Lib.hid T
  replace T2 := Lib.hid T2
  go_enter Try.func17, Try.ntmps17
  go_wp2_with fail
  go_loop [11, 12] (fun s11 s12 => ∃ kk : Nat, kk ≤ n ∧ s11 = .int .i64 (SW F kk) ∧ s12 = .int .i64 (kk : Nat) ∧ Aside (∀ i, i < kk → 1 ≤ F i 1 ∧ F i 1 ≤ 16)) (fun _ s12 => n - (intOf s12).toNat)
  case atStart => exact ⟨0, Nat.zero_le _, rfl, rfl, fun i hi => absurd hi (Nat.not_lt_zero _)⟩
  case round =>
    obtain ⟨kk, hkk, rfl, rfl, A⟩ := hrel
    obtain ⟨s0, s1⟩ := SW_bd (F := F) A.out kk (Nat.le_refl _)
    by_cases hlt : kk < n
    · have hltz : (kk : Int) < (n : Int) := by omega
      obtain rfl := T.out.ha (by omega)
      have x1 := T.out.c kk 1 hlt (by omega)
      have hsw : SW F (kk + 1) = SW F kk + F kk 1 := rfl
      obtain ⟨sw, hs⟩ : ∃ sw, SW F kk = sw := ⟨_, rfl⟩
      rw [hs] at hsw s0 s1 ⊢
      replace hsw := Lib.hid hsw
      clear hs
      by_cases c1 : F kk 1 < 1
      · obtain rfl := hbad.out kk hlt (by omega)
        go_wp2_with fail
        go_ret
        exact ⟨rfl, rfl⟩
      by_cases c2 : 16 < F kk 1
      · obtain rfl := hbad.out kk hlt (by omega)
        go_wp2_with fail
        go_ret
        exact ⟨rfl, rfl⟩
      have A2 : ∀ i, i < kk + 1 → 1 ≤ F i 1 ∧ F i 1 ≤ 16 := fun i hi => by
        by_cases e : i = kk
        · subst e; omega
        · exact A.out i (by omega)
      replace A2 := Lib.hid A2
      go_wp2_with fail
      go_round
      case rel => exact ⟨kk + 1, by omega, by rw [hsw.out], by go_num, (show Aside _ from A2.out)⟩
      case measure => simp [intOf]; omega
    · have hltz : ¬ (kk : Int) < (n : Int) := by omega
      obtain rfl : n = kk := by omega
      by_cases h1 : fl < 0
      · obtain rfl : ok = false := by cases ok; rfl; have := (hok.out.1 rfl).1; omega
        go_wp2_with fail
        go_ret
        exact ⟨rfl, rfl⟩
      by_cases h2 : (n : Int) ≤ fl
      · obtain rfl : ok = false := by cases ok; rfl; have := (hok.out.1 rfl).1; omega
        go_wp2_with fail
        go_ret
        exact ⟨rfl, rfl⟩
      by_cases h3 : (8 : Int) < (n : Int)
      · obtain rfl : ok = false := by cases ok; rfl; have := (hok.out.1 rfl).2.1; omega
        go_wp2_with fail
        go_ret
        exact ⟨rfl, rfl⟩
      obtain ⟨f, rfl⟩ : ∃ f : Nat, fl = (f : Int) := ⟨fl.toNat, by omega⟩
      have hfn : f < n := by omega
      have hn8 : n ≤ 8 := by omega
      have hfz : (0 : Int) ≤ (f : Int) := by omega
      have hw0 := A.out f hfn
      obtain rfl := T.out.ha (by omega)
      have x1 := T.out.c f 1 hfn (by omega)
      have hL := clampI_bd least
      have hMo := clampI_bd most
      have eL := clamp_mm least
      have eM := clamp_mm most
      have hsb := slack_bd (L := clampI least) (Mo := clampI most) (w := F f 1) (all := SW F n) hL hMo (by omega) (by omega)
      have hge : ∀ a0 i, a0 ≤ i → i < N → (slackI (clampI least) (clampI most) (F f 1) (SW F n) < pre (dI X f (F f 1) (SW F n)) (i + 1) - pre (dI X f (F f 1) (SW F n)) a0) → ok = false := fun a0 i ha0 hi q => by
        cases ok
        · rfl
        · exact absurd q ((hok.out.1 rfl).2.2.2 a0 i ha0 hi)
      have hyes : (∀ a0 i, a0 ≤ i → i < N → pre (dI X f (F f 1) (SW F n)) (i + 1) - pre (dI X f (F f 1) (SW F n)) a0 ≤ slackI (clampI least) (clampI most) (F f 1) (SW F n)) → ok = true := fun q =>
        hok.out.2 ⟨by omega, hn8, A.out, fun a0 i ha0 hi => Int.not_lt.2 (q a0 i ha0 hi)⟩
      have hpr := pre_eq X f (F f 1) (SW F n)
      obtain ⟨d, hd⟩ : ∃ d, dI X f (F f 1) (SW F n) = d := ⟨_, rfl⟩
      have hsl : slackI (clampI least) (clampI most) (F f 1) (SW F n) = 2 * clampI least * SW F n + (clampI most - 2 * clampI least) * F f 1 := rfl
      obtain ⟨sl, hsle⟩ : ∃ sl, slackI (clampI least) (clampI most) (F f 1) (SW F n) = sl := ⟨_, rfl⟩
      rw [hsle] at hsl
      simp only [hd, hsle] at hge hyes hpr
      clear hd hsle
      obtain ⟨wt, hwt⟩ : ∃ wt, F f 1 = wt := ⟨_, rfl⟩
      obtain ⟨al, hal⟩ : ∃ al, SW F n = al := ⟨_, rfl⟩
      obtain ⟨L, hLe⟩ : ∃ L, clampI least = L := ⟨_, rfl⟩
      obtain ⟨Mo, hMe⟩ : ∃ Mo, clampI most = Mo := ⟨_, rfl⟩
      rw [hLe] at eL
      rw [hMe] at eM
      simp only [hwt, hal, hLe, hMe] at hsl hsb hL hMo hpr hw0 s0 s1
      rw [hwt] at x1
      rw [hal]
      obtain ⟨p1, hp1⟩ : ∃ p1, 2 * L * al = p1 := ⟨_, rfl⟩
      obtain ⟨p2, hp2⟩ : ∃ p2, (Mo - 2 * L) * wt = p2 := ⟨_, rfl⟩
      rw [hp1, hp2] at hsb hsl
      have hw1 : wrap64 (2 * L * al) = p1 := by rw [hp1]; unfold wrap64; omega
      have hw2 : wrap64 ((Mo - 2 * L) * wt) = p2 := by rw [hp2]; unfold wrap64; omega
      obtain ⟨⟨b1, b2⟩, b3, b4⟩ := hsb
      obtain ⟨l1, l2⟩ := hL
      obtain ⟨l3, l4⟩ := hMo
      obtain ⟨wt1, wt2⟩ := hw0
      have al1 : al ≤ 960 := by omega
      clear hp1 hp2 hwt hal hLe hMe A hok hbad T s1
      replace hsl := Lib.hid hsl
      replace hge := Lib.hid hge
      replace hyes := Lib.hid hyes
      replace hpr := Lib.hid hpr
      go_upto_region 11 with fail
      replace hw1 := Lib.hid hw1
      replace hw2 := Lib.hid hw2
      go_wp2_with fail
      clear eL eM x1
      go_loop [14] (fun s14 => ∃ a0 : Nat, a0 ≤ N ∧ s14 = .int .i64 (a0 : Nat) ∧ Aside (∀ a1 i, a1 < a0 → a1 ≤ i → i < N → pre d (i + 1) - pre d a1 ≤ sl)) (fun s14 => N - (intOf s14).toNat)
      case atStart => exact ⟨0, Nat.zero_le _, rfl, fun a1 i h => absurd h (Nat.not_lt_zero _)⟩
      case round =>
        obtain ⟨a0, ha0, rfl, A1⟩ := hrel
        by_cases hlt : a0 < N
        · have hltz : (a0 : Int) < (N : Int) := by omega
          obtain rfl := T2.out.ha (by omega)
          go_wp2_with fail
          go_loop [15, 16, 17] (fun s15 s16 s17 => ∃ k : Nat, a0 ≤ k ∧ k ≤ N ∧ s15 = .int .i64 (PO X f k - PO X f a0) ∧ s16 = .int .i64 (PA X k - PA X a0) ∧ s17 = .int .i64 (k : Nat) ∧ Aside (∀ i, a0 ≤ i → i < k → pre d (i + 1) - pre d a0 ≤ sl)) (fun _ _ s17 => N - (intOf s17).toNat)
          case atStart => exact ⟨a0, Nat.le_refl _, ha0, by simp, by simp, rfl, fun i h1 h2 => by omega⟩
          case round =>
            obtain ⟨k, hak, hk, rfl, rfl, rfl, A2⟩ := hrel
            by_cases hlk : k < N
            · have hlkz : (k : Int) < (N : Int) := by omega
              have y3 := T2.out.c k 3 hlk (by omega)
              have y4 := T2.out.c k 4 hlk (by omega)
              have ec := clamp_mm (X k 4)
              obtain ⟨g1, g2⟩ := clampI_bd (X k 4)
              have hPA := PA_seg2 X hak (by omega)
              have hPO := PO_seg2 X f hak (by omega)
              have hPA2 := PA_seg2 X (show a0 ≤ k + 1 by omega) (by omega)
              have hPO2 := PO_seg2 X f (show a0 ≤ k + 1 by omega) (by omega)
              have ePA : PA X (k + 1) = PA X k + clampI (X k 4) := rfl
              have ePO : PO X f (k + 1) = PO X f k + if X k 3 = (f : Int) then clampI (X k 4) else 0 := rfl
              have hpk := hpr.out (k + 1)
              have hpa := hpr.out a0
              have hg1 := hge.out a0 k hak hlk
              have hdist : wt * (PA X (k + 1) - PA X a0) - (PO X f (k + 1) - PO X f a0) * al = pre d (k + 1) - pre d a0 := by
                rw [hpk, hpa, Int.mul_sub, Int.sub_mul]; omega
              have hA5 : pre d (k + 1) - pre d a0 ≤ sl → ∀ i, a0 ≤ i → i < k + 1 → pre d (i + 1) - pre d a0 ≤ sl := fun q i h1 h2 => by
                by_cases e : i = k
                · subst e; exact q
                · exact A2.out i h1 (by omega)
              replace hA5 := Lib.hid hA5
              clear hpk hpa
              obtain ⟨g, hg⟩ : ∃ g, clampI (X k 4) = g := ⟨_, rfl⟩
              rw [hg] at ec g1 g2 ePA ePO
              obtain ⟨O0, hO0⟩ : ∃ x, PO X f k - PO X f a0 = x := ⟨_, rfl⟩
              obtain ⟨A0, hA0⟩ : ∃ x, PA X k - PA X a0 = x := ⟨_, rfl⟩
              obtain ⟨O1, hO1⟩ : ∃ x, PO X f (k + 1) - PO X f a0 = x := ⟨_, rfl⟩
              obtain ⟨B1, hB1⟩ : ∃ x, PA X (k + 1) - PA X a0 = x := ⟨_, rfl⟩
              have eB : B1 = A0 + g := by omega
              rw [hO0] at hPO ⊢
              rw [hA0] at hPA ⊢
              rw [hO1, hB1] at hdist
              rw [hO1] at hPO2
              rw [hB1] at hPA2
              obtain ⟨r1, hr1⟩ : ∃ x, O1 * al = x := ⟨_, rfl⟩
              obtain ⟨r2, hr2⟩ : ∃ x, wt * B1 = x := ⟨_, rfl⟩
              have n1 : 0 ≤ O1 * al := Int.mul_nonneg hPO2.1 s0
              have n2 : O1 * al ≤ 225000 * 960 := Int.mul_le_mul hPO2.2 al1 s0 (by omega)
              have n3 : 0 ≤ wt * B1 := Int.mul_nonneg (by omega) hPA2.1
              have n4 : wt * B1 ≤ 16 * 225000 := Int.mul_le_mul wt2 hPA2.2 hPA2.1 (by omega)
              rw [hr1] at hdist n1 n2
              rw [hr2] at hdist n3 n4
              have hwb : wrap64 (wt * (A0 + g)) = r2 := by rw [← eB, hr2]; unfold wrap64; omega
              have hw1 := hw1.out
              have hw2 := hw2.out
              obtain ⟨D, hD⟩ : ∃ x, pre d (k + 1) - pre d a0 = x := ⟨_, rfl⟩
              rw [hD] at hdist hg1
              have hA5 : D ≤ sl → ∀ i, a0 ≤ i → i < k + 1 → pre d (i + 1) - pre d a0 ≤ sl := fun q => hA5.out (by omega)
              replace hA5 := Lib.hid hA5
              have hsl2 := hsl.out
              obtain ⟨q1, q2⟩ := hPO
              obtain ⟨q3, q4⟩ := hPA
              clear hPO2 hPA2 hD ePA
              replace hg1 := Lib.hid hg1
              replace hB1 := Lib.hid hB1
              replace hr2 := Lib.hid hr2
              by_cases hfl : X k 3 = (f : Int)
              · rw [if_pos hfl] at ePO
                have hfb : (X k 3 == (f : Int)) = true := by simpa using hfl
                have eO : O1 = O0 + g := by omega
                have hwa : wrap64 ((O0 + g) * al) = r1 := by rw [← eO, hr1]; unfold wrap64; omega
                replace hfl := Lib.hid hfl
                replace hO1 := Lib.hid hO1
                replace eO := Lib.hid eO
                replace eB := Lib.hid eB
                clear ePO hO0 hA0 hr1 hg
                by_cases hv : r1 < r2 - (p1 + p2)
                · obtain rfl := hg1.out (by omega)
                  clear hdist hsl2
                  go_wp2_with fail
                  go_ret
                  exact ⟨rfl, rfl⟩
                · have A6 := Lib.hid (hA5.out (by omega))
                  clear hdist hsl2
                  go_wp2_with fail
                  go_round
                  case rel => exact ⟨k + 1, by omega, by omega, by rw [hO1.out, eO.out], by rw [hB1.out, eB.out], by go_num, (show Aside _ from A6.out)⟩
                  case measure => simp [intOf]; omega
              · rw [if_neg hfl] at ePO
                have hfb : (X k 3 == (f : Int)) = false := by simpa using hfl
                have eO : O1 = O0 := by omega
                have hwa : wrap64 (O0 * al) = r1 := by rw [← eO, hr1]; unfold wrap64; omega
                replace hfl := Lib.hid hfl
                replace hO1 := Lib.hid hO1
                replace eO := Lib.hid eO
                replace eB := Lib.hid eB
                clear ePO hO0 hA0 hr1 hg
                by_cases hv : r1 < r2 - (p1 + p2)
                · obtain rfl := hg1.out (by omega)
                  clear hdist hsl2
                  go_wp2_with fail
                  go_ret
                  exact ⟨rfl, rfl⟩
                · have A6 := Lib.hid (hA5.out (by omega))
                  clear hdist hsl2
                  go_wp2_with fail
                  go_round
                  case rel => exact ⟨k + 1, by omega, by omega, by rw [hO1.out, eO.out], by rw [hB1.out, eB.out], by go_num, (show Aside _ from A6.out)⟩
                  case measure => simp [intOf]; omega
            · have hlkz : ¬ (k : Int) < (N : Int) := by omega
              have A6 : ∀ a1 i, a1 < a0 + 1 → a1 ≤ i → i < N → pre d (i + 1) - pre d a1 ≤ sl := fun a1 i h1 h2 h3 => by
                by_cases e : a1 = a0
                · subst e; exact A2.out i h2 (by omega)
                · exact A1.out a1 i (by omega) h2 h3
              replace A6 := Lib.hid A6
              go_wp2_with fail
              go_round
              case rel => exact ⟨a0 + 1, by omega, by go_num, (show Aside _ from A6.out)⟩
              case measure => simp [intOf]; omega
        · have hltz : ¬ (a0 : Int) < (N : Int) := by omega
          obtain rfl : a0 = N := by omega
          obtain rfl : ok = true := hyes.out fun a1 i h1 h2 => A1.out a1 i (by omega) h1 h2
          go_wp2_with fail
          go_ret
          exact ⟨rfl, rfl⟩
end Go.Proofs.Ytkefkophlhcbiaa
