/- The judge: the reference's Check. -/
import Derived.Test.YtlnpommgfennhaaJ11
namespace Go.Proofs.Ytlnpommgfennhaa
open Go.ChangeShapes Go.WideShapes Go.ChangeAt Go.RowKit
set_option linter.unusedVariables false
set_option linter.unusedSimpArgs false
open BigFrame Bs Jd

theorem rmay16_c (r b : Int) (w : World) : Calls Try.prog 37 #[.int .i64 r, .int .i64 b] w fun e w' => e = .returned (.bool (mayB r b)) ∧ w' = w := by
  obtain ⟨q, hq⟩ : ∃ q, mayB r b = q := ⟨_, rfl⟩
  rw [hq]
  by_cases h1 : 0 ≤ r
  · by_cases h2 : r ≤ 1000000
    · by_cases h3 : 0 ≤ b
      · by_cases h4 : b ≤ 1000000
        · obtain rfl : q = true := by rw [← hq]; simp [mayB]; omega
          clear hq
          go_enter Try.func37, Try.ntmps37
          go_wp2_with fail
          go_ret
          exact ⟨rfl, rfl⟩
        · obtain rfl : q = false := by rw [← hq]; simp [mayB]; omega
          clear hq
          go_enter Try.func37, Try.ntmps37
          go_wp2_with fail
          go_ret
          exact ⟨rfl, rfl⟩
      · obtain rfl : q = false := by rw [← hq]; simp [mayB]; omega
        clear hq
        go_enter Try.func37, Try.ntmps37
        go_wp2_with fail
        go_ret
        exact ⟨rfl, rfl⟩
    · obtain rfl : q = false := by rw [← hq]; simp [mayB]; omega
      clear hq
      go_enter Try.func37, Try.ntmps37
      go_wp2_with fail
      go_ret
      exact ⟨rfl, rfl⟩
  · obtain rfl : q = false := by rw [← hq]; simp [mayB]; omega
    clear hq
    go_enter Try.func37, Try.ntmps37
    go_wp2_with fail
    go_ret
    exact ⟨rfl, rfl⟩

namespace Jd
theorem wrapm (kp : Nat) (h : kp ≤ 1000) : IntKind.i64.wrap (((kp + 1 : Nat) : Int) - 1) = (kp : Int) := by
  rw [IntWalk.i64_in _ (by omega)]; omega
theorem wrapm2 (kp : Nat) (h : kp ≤ 1000) : IntKind.i64.wrap ((kp : Int) + 1 - 1) = (kp : Int) := by
  rw [IntWalk.i64_in _ (by omega)]; omega
end Jd

namespace Jd
def sGood (p x0 x2 x4 : Int) : Prop := 1 ≤ x0 ∧ x0 ≤ 1099511627776 ∧ p ≤ x0 ∧ 1 ≤ x4 ∧ x4 ≤ 1500 ∧ 1 ≤ x2 ∧ x2 ≤ 16
def fGood (p x0 x1 : Int) (m : Bool) : Prop := 0 ≤ x0 ∧ x0 ≤ 1099511627776 ∧ p ≤ x0 ∧ 1 ≤ x1 ∧ x1 ≤ 16 ∧ m = true
theorem sGood_iff (X : Nat → Nat → Int) (i : Nat) (h : 0 ≤ lastX X i ∨ True) : (lastX X i ≤ X i 0 ∧ X i 0 ≤ 1099511627776 ∧ sentB (X i) = true) ↔ sGood (lastX X i) (X i 0) (X i 2) (X i 4) := by
  unfold sGood
  rw [sentB_iff]
  omega
theorem last_nn {X : Nat → Nat → Int} {m : Nat → Bool} {N : Nat} (h : risingOk X m N) (i : Nat) (hi : i ≤ N) : 0 ≤ lastX X i := by
  induction i with
  | zero => exact Int.le_refl _
  | succ i ih =>
    have h1 := ih (by omega)
    have h2 := (h i (by omega)).1
    show 0 ≤ X i 0
    omega
theorem risS {X : Nat → Nat → Int} {N : Nat} : risingOk X (fun i => sentB (X i)) N ↔ ∀ i, i < N → sGood (lastX X i) (X i 0) (X i 2) (X i 4) :=
  ⟨fun h i hi => (sGood_iff X i (.inr trivial)).1 (h i hi), fun h i hi => (sGood_iff X i (.inr trivial)).2 (h i hi)⟩
theorem risF {Y : Nat → Nat → Int} {M : Nat} : risingOk Y (fun i => forceB (Y i)) M ↔ ∀ i, i < M → fGood (lastX Y i) (Y i 0) (Y i 1) (mayB (Y i 2) (Y i 3)) := by
  constructor
  · intro h i hi
    have h1 := h i hi
    have h2 := last_nn h i (by omega)
    have h3 : forceB (Y i) = true := h1.2.2
    unfold forceB at h3
    rw [Bool.and_eq_true, tenB_iff] at h3
    exact ⟨by omega, h1.2.1, h1.1, h3.1.1, h3.1.2, h3.2⟩
  · intro h i hi
    obtain ⟨h1, h2, h3, h4, h5, h6⟩ := h i hi
    refine ⟨h3, h2, ?_⟩
    show forceB (Y i) = true
    unfold forceB
    rw [Bool.and_eq_true, tenB_iff]
    exact ⟨⟨h4, h5⟩, h6⟩
end Jd

set_option maxRecDepth 100000 in
set_option maxHeartbeats 16000000 in
theorem rcheck30_c (ok : Bool) (a a2 : Option Addr) (b off N c b2 off2 M c2 : Nat) (X Y : Nat → Nat → Int) (w : World) (T : IntRows w a b off N 6 X) (T2 : IntRows w a2 b2 off2 M 4 Y) (hN : N ≤ 1000) (hM : M ≤ 1000) (hok : ok = true ↔ checkOk N X M Y) :
    Calls Try.prog 20 #[.slice a N c, .slice a2 M c2] w fun e w' => e = .returned (.bool ok) ∧ Below w.heap.size w w' := by
  have hno1 : ∀ i, i < N → ¬ sGood (lastX X i) (X i 0) (X i 2) (X i 4) → ok = false := fun i hi q => by
    cases ok
    · rfl
    · exact absurd (risS.1 (hok.1 rfl).1 i hi) q
  have hno2 : ∀ i, i < M → ¬ fGood (lastX Y i) (Y i 0) (Y i 1) (mayB (Y i 2) (Y i 3)) → ok = false := fun i hi q => by
    cases ok
    · rfl
    · exact absurd (risF.1 (hok.1 rfl).2 i hi) q
  have hyes : (∀ i, i < N → sGood (lastX X i) (X i 0) (X i 2) (X i 4)) → (∀ i, i < M → fGood (lastX Y i) (Y i 0) (Y i 1) (mayB (Y i 2) (Y i 3))) → ok = true := fun h1 h2 => hok.2 ⟨risS.2 h1, risF.2 h2⟩
  have hNi : (N : Int) ≤ 1000 := by omega
  have hMi : (M : Int) ≤ 1000 := by omega
  clear hok
  replace hno1 := Lib.hid hno1
  replace hno2 := Lib.hid hno2
  replace hyes := Lib.hid hyes
  replace T := Lib.hid T
  replace T2 := Lib.hid T2
  go_enter Try.func20, Try.ntmps20
  go_wp2_with fail
  go_loopw [5, 6] (fun s5 _ wr => ∃ kk : Nat, kk ≤ N ∧ s5 = .int .i64 (kk : Nat) ∧ Below w.heap.size w wr ∧ Aside (∀ i, i < kk → sGood (lastX X i) (X i 0) (X i 2) (X i 4))) (fun s5 _ _ => N - (intOf s5).toNat)
  case atStart => exact ⟨0, Nat.zero_le _, rfl, Below.refl _ _, fun j hj => absurd hj (Nat.not_lt_zero _)⟩
  case round =>
    obtain ⟨kk, hkk, rfl, hB, A⟩ := hrel
    by_cases hlt : kk < N
    · have hltz : (kk : Int) < (N : Int) := by omega
      obtain rfl := T.out.ha (by omega)
      have T1 := T.out.bel hB
      have x0 := T1.c0 kk hlt (by omega)
      have x1 := T1.c kk 1 hlt (by omega)
      have x2 := T1.c kk 2 hlt (by omega)
      have x3 := T1.c kk 3 hlt (by omega)
      have x4 := T1.c kk 4 hlt (by omega)
      have x5 := T1.c kk 5 hlt (by omega)
      have hB2 := bNext hB ((Below.refl wr.heap.size wr).alloc (Nat.le_refl _) (.cells #[.int .i64 (X kk 0), .int .i64 (X kk 1), .int .i64 (X kk 2), .int .i64 (X kk 3), .int .i64 (X kk 4), .int .i64 (X kk 5)] 44)) (Nat.le_refl _)
      have bx : Blk (wr.alloc (.cells #[.int .i64 (X kk 0), .int .i64 (X kk 1), .int .i64 (X kk 2), .int .i64 (X kk 3), .int .i64 (X kk 4), .int .i64 (X kk 5)] 44)) wr.heap.size [.int .i64 (X kk 0), .int .i64 (X kk 1), .int .i64 (X kk 2), .int .i64 (X kk 3), .int .i64 (X kk 4), .int .i64 (X kk 5)] := blk_new wr [.int .i64 (X kk 0), .int .i64 (X kk 1), .int .i64 (X kk 2), .int .i64 (X kk 3), .int .i64 (X kk 4), .int .i64 (X kk 5)] 44
      have hno := hno1.out kk hlt
      have hA2 : sGood (lastX X kk) (X kk 0) (X kk 2) (X kk 4) → ∀ j, j < kk + 1 → sGood (lastX X j) (X j 0) (X j 2) (X j 4) := fun q j hj => by
        by_cases e : j = kk
        · subst e; exact q
        · exact A.out j (by omega)
      replace hA2 := Lib.hid hA2
      replace hno := Lib.hid hno
      go_upto_region 5 with fail
      clear x0 x1 x2 x3 x4 x5 T1
      replace bx : Blk (wr.alloc (.cells #[.int .i64 (X kk 0), .int .i64 (X kk 1), .int .i64 (X kk 2), .int .i64 (X kk 3), .int .i64 (X kk 4), .int .i64 (X kk 5)] 44)) wr.heap.size [.int .i64 (X kk 0), .int .i64 (X kk 1), .int .i64 (X kk 2), .int .i64 (X kk 3), .int .i64 (X kk 4), .int .i64 (X kk 5)] := bx
      generalize wr.alloc (.cells #[.int .i64 (X kk 0), .int .i64 (X kk 1), .int .i64 (X kk 2), .int .i64 (X kk 3), .int .i64 (X kk 4), .int .i64 (X kk 5)] 44) = U at hB2 bx ⊢
      generalize wr.heap.size = xb at bx ⊢
      have y0 := bx.c 0 _ rfl
      have y1 := bx.c 1 _ rfl
      have y2 := bx.c 2 _ rfl
      have y3 := bx.c 3 _ rfl
      have y4 := bx.c 4 _ rfl
      have y5 := bx.c 5 _ rfl
      skip
      cases kk with
      | zero =>
        have hP : lastX X 0 = 0 := rfl
        have hpos : ¬ (0 : Int) < ((0 : Nat) : Int) := by omega
        by_cases c0 : X 0 0 < 1
        ·
          have d0 : decide (X 0 0 < 1) = true := decide_eq_true c0
          obtain rfl := hno.out (fun q => by unfold sGood at q; omega)
          clear hA2 hno hP
          go_wp2_with fail
          go_big_quiet (fail)
          go_wp2_with fail
          go_ret
          exact ⟨rfl, bDrew hB2 nq⟩
        have d0 : decide (X 0 0 < 1) = false := decide_eq_false c0
        by_cases c1 : 1099511627776 < X 0 0
        ·
          have d1 : decide (1099511627776 < X 0 0) = true := decide_eq_true c1
          obtain rfl := hno.out (fun q => by unfold sGood at q; omega)
          clear hA2 hno hP
          go_wp2_with fail
          go_big_quiet (fail)
          go_wp2_with fail
          go_ret
          exact ⟨rfl, bDrew hB2 nq⟩
        have d1 : decide (1099511627776 < X 0 0) = false := decide_eq_false c1
        by_cases c2 : X 0 4 < 1
        ·
          have d2 : decide (X 0 4 < 1) = true := decide_eq_true c2
          obtain rfl := hno.out (fun q => by unfold sGood at q; omega)
          clear hA2 hno hP
          go_wp2_with fail
          go_big_quiet (fail)
          go_wp2_with fail
          go_ret
          exact ⟨rfl, bDrew hB2 nq⟩
        have d2 : decide (X 0 4 < 1) = false := decide_eq_false c2
        by_cases c3 : 1500 < X 0 4
        ·
          have d3 : decide (1500 < X 0 4) = true := decide_eq_true c3
          obtain rfl := hno.out (fun q => by unfold sGood at q; omega)
          clear hA2 hno hP
          go_wp2_with fail
          go_big_quiet (fail)
          go_wp2_with fail
          go_ret
          exact ⟨rfl, bDrew hB2 nq⟩
        have d3 : decide (1500 < X 0 4) = false := decide_eq_false c3
        by_cases c4 : X 0 2 < 1
        ·
          have d4 : decide (X 0 2 < 1) = true := decide_eq_true c4
          obtain rfl := hno.out (fun q => by unfold sGood at q; omega)
          clear hA2 hno hP
          go_wp2_with fail
          go_big_quiet (fail)
          go_wp2_with fail
          go_ret
          exact ⟨rfl, bDrew hB2 nq⟩
        have d4 : decide (X 0 2 < 1) = false := decide_eq_false c4
        by_cases c5 : 16 < X 0 2
        ·
          have d5 : decide (16 < X 0 2) = true := decide_eq_true c5
          obtain rfl := hno.out (fun q => by unfold sGood at q; omega)
          clear hA2 hno hP
          go_wp2_with fail
          go_big_quiet (fail)
          go_wp2_with fail
          go_ret
          exact ⟨rfl, bDrew hB2 nq⟩
        have d5 : decide (16 < X 0 2) = false := decide_eq_false c5
        have A2 := hA2.out (by unfold sGood; omega)
        replace A2 := Lib.hid A2
        clear hA2 hno hP
        go_wp2_with fail
        go_big_quiet (fail)
        go_wp2_with fail
        go_roundw
        case rel => exact ⟨_, by omega, by go_num, bDrew hB2 nq, (show Aside _ from A2.out)⟩
        case measure => simp [intOf] <;> omega
      | succ kp =>
        have hP : lastX X (kp + 1) = X kp 0 := rfl
        have hpos : (0 : Int) < ((kp + 1 : Nat) : Int) := by omega
        have hpo2 : decide ((0 : Int) < (kp : Int) + 1) = true := decide_eq_true (by omega)
        have hpo3 : decide ((0 : Int) < ((kp + 1 : Nat) : Int)) = true := decide_eq_true (by omega)
        have z0 := (T.out.bel hB2).c0 kp (by omega) (by omega)
        have hw1 := wrapm kp (by omega)
        have hw2 := wrapm2 kp (by omega)
        have hkz : (kp : Int) < (N : Int) := by omega
        have hkz0 : (0 : Int) ≤ (kp : Int) := by omega
        by_cases c0 : X (kp + 1) 0 < 1
        ·
          have d0 : decide (X (kp + 1) 0 < 1) = true := decide_eq_true c0
          obtain rfl := hno.out (fun q => by unfold sGood at q; omega)
          clear hA2 hno hP
          go_wp2_with fail
          go_big_quiet (fail)
          go_wp2_with fail
          go_ret
          exact ⟨rfl, bDrew hB2 nq⟩
        have d0 : decide (X (kp + 1) 0 < 1) = false := decide_eq_false c0
        by_cases c1 : 1099511627776 < X (kp + 1) 0
        ·
          have d1 : decide (1099511627776 < X (kp + 1) 0) = true := decide_eq_true c1
          obtain rfl := hno.out (fun q => by unfold sGood at q; omega)
          clear hA2 hno hP
          go_wp2_with fail
          go_big_quiet (fail)
          go_wp2_with fail
          go_ret
          exact ⟨rfl, bDrew hB2 nq⟩
        have d1 : decide (1099511627776 < X (kp + 1) 0) = false := decide_eq_false c1
        by_cases c2 : X (kp + 1) 0 < X kp 0
        ·
          have d2 : decide (X (kp + 1) 0 < X kp 0) = true := decide_eq_true c2
          obtain rfl := hno.out (fun q => by unfold sGood at q; omega)
          clear hA2 hno hP
          go_wp2_with fail
          go_big_quiet (fail)
          go_wp2_with fail
          go_ret
          exact ⟨rfl, bDrew hB2 nq⟩
        have d2 : decide (X (kp + 1) 0 < X kp 0) = false := decide_eq_false c2
        by_cases c3 : X (kp + 1) 4 < 1
        ·
          have d3 : decide (X (kp + 1) 4 < 1) = true := decide_eq_true c3
          obtain rfl := hno.out (fun q => by unfold sGood at q; omega)
          clear hA2 hno hP
          go_wp2_with fail
          go_big_quiet (fail)
          go_wp2_with fail
          go_ret
          exact ⟨rfl, bDrew hB2 nq⟩
        have d3 : decide (X (kp + 1) 4 < 1) = false := decide_eq_false c3
        by_cases c4 : 1500 < X (kp + 1) 4
        ·
          have d4 : decide (1500 < X (kp + 1) 4) = true := decide_eq_true c4
          obtain rfl := hno.out (fun q => by unfold sGood at q; omega)
          clear hA2 hno hP
          go_wp2_with fail
          go_big_quiet (fail)
          go_wp2_with fail
          go_ret
          exact ⟨rfl, bDrew hB2 nq⟩
        have d4 : decide (1500 < X (kp + 1) 4) = false := decide_eq_false c4
        by_cases c5 : X (kp + 1) 2 < 1
        ·
          have d5 : decide (X (kp + 1) 2 < 1) = true := decide_eq_true c5
          obtain rfl := hno.out (fun q => by unfold sGood at q; omega)
          clear hA2 hno hP
          go_wp2_with fail
          go_big_quiet (fail)
          go_wp2_with fail
          go_ret
          exact ⟨rfl, bDrew hB2 nq⟩
        have d5 : decide (X (kp + 1) 2 < 1) = false := decide_eq_false c5
        by_cases c6 : 16 < X (kp + 1) 2
        ·
          have d6 : decide (16 < X (kp + 1) 2) = true := decide_eq_true c6
          obtain rfl := hno.out (fun q => by unfold sGood at q; omega)
          clear hA2 hno hP
          go_wp2_with fail
          go_big_quiet (fail)
          go_wp2_with fail
          go_ret
          exact ⟨rfl, bDrew hB2 nq⟩
        have d6 : decide (16 < X (kp + 1) 2) = false := decide_eq_false c6
        have A2 := hA2.out (by unfold sGood; omega)
        replace A2 := Lib.hid A2
        clear hA2 hno hP
        go_wp2_with fail
        go_big_quiet (fail)
        go_wp2_with fail
        go_roundw
        case rel => exact ⟨_, by omega, by go_num, bDrew hB2 nq, (show Aside _ from A2.out)⟩
        case measure => simp [intOf] <;> omega
    · have hltz : ¬ (kk : Int) < (N : Int) := by omega
      obtain rfl : kk = N := by omega
      replace hB := hB
      go_wp2_with fail
      go_loopw [7, 8] (fun s5 _ wr => ∃ kk : Nat, kk ≤ M ∧ s5 = .int .i64 (kk : Nat) ∧ Below w.heap.size w wr ∧ Aside (∀ i, i < kk → fGood (lastX Y i) (Y i 0) (Y i 1) (mayB (Y i 2) (Y i 3)))) (fun s5 _ _ => M - (intOf s5).toNat)
      case atStart => exact ⟨0, Nat.zero_le _, rfl, hB, fun j hj => absurd hj (Nat.not_lt_zero _)⟩
      case round =>
        obtain ⟨kk, hkk, rfl, hB, A5⟩ := hrel
        by_cases hlt : kk < M
        · have hltz : (kk : Int) < (M : Int) := by omega
          obtain rfl := T2.out.ha (by omega)
          have T1 := T2.out.bel hB
          have x0 := T1.c0 kk hlt (by omega)
          have x1 := T1.c kk 1 hlt (by omega)
          have x2 := T1.c kk 2 hlt (by omega)
          have x3 := T1.c kk 3 hlt (by omega)
          have hB2 := bNext hB ((Below.refl wr.heap.size wr).alloc (Nat.le_refl _) (.cells #[.int .i64 (Y kk 0), .int .i64 (Y kk 1), .int .i64 (Y kk 2), .int .i64 (Y kk 3)] 46)) (Nat.le_refl _)
          have bx : Blk (wr.alloc (.cells #[.int .i64 (Y kk 0), .int .i64 (Y kk 1), .int .i64 (Y kk 2), .int .i64 (Y kk 3)] 46)) wr.heap.size [.int .i64 (Y kk 0), .int .i64 (Y kk 1), .int .i64 (Y kk 2), .int .i64 (Y kk 3)] := blk_new wr [.int .i64 (Y kk 0), .int .i64 (Y kk 1), .int .i64 (Y kk 2), .int .i64 (Y kk 3)] 46
          have hno := hno2.out kk hlt
          have hA2 : fGood (lastX Y kk) (Y kk 0) (Y kk 1) (mayB (Y kk 2) (Y kk 3)) → ∀ j, j < kk + 1 → fGood (lastX Y j) (Y j 0) (Y j 1) (mayB (Y j 2) (Y j 3)) := fun q j hj => by
            by_cases e : j = kk
            · subst e; exact q
            · exact A5.out j (by omega)
          replace hA2 := Lib.hid hA2
          replace hno := Lib.hid hno
          go_upto_region 11 with fail
          clear x0 x1 x2 x3 T1
          replace bx : Blk (wr.alloc (.cells #[.int .i64 (Y kk 0), .int .i64 (Y kk 1), .int .i64 (Y kk 2), .int .i64 (Y kk 3)] 46)) wr.heap.size [.int .i64 (Y kk 0), .int .i64 (Y kk 1), .int .i64 (Y kk 2), .int .i64 (Y kk 3)] := bx
          generalize wr.alloc (.cells #[.int .i64 (Y kk 0), .int .i64 (Y kk 1), .int .i64 (Y kk 2), .int .i64 (Y kk 3)] 46) = U at hB2 bx ⊢
          generalize wr.heap.size = xb at bx ⊢
          have y0 := bx.c 0 _ rfl
          have y1 := bx.c 1 _ rfl
          have y2 := bx.c 2 _ rfl
          have y3 := bx.c 3 _ rfl
          skip
          cases kk with
          | zero =>
            have hP : lastX Y 0 = 0 := rfl
            have hpos : ¬ (0 : Int) < ((0 : Nat) : Int) := by omega
            by_cases c0 : Y 0 0 < 0
            ·
              have d0 : decide (Y 0 0 < 0) = true := decide_eq_true c0
              obtain rfl := hno.out (fun q => by unfold fGood at q; (first | omega | (rw [hmay] at q; exact absurd q.2.2.2.2.2 (by simp))))
              clear hA2 hno hP
              go_wp2_with fail
              go_big_quiet (exact Calls.quiet_of_same (hmc _))
              go_wp2_with fail
              go_ret
              exact ⟨rfl, bDrew hB2 nq⟩
            have d0 : decide (Y 0 0 < 0) = false := decide_eq_false c0
            by_cases c1 : 1099511627776 < Y 0 0
            ·
              have d1 : decide (1099511627776 < Y 0 0) = true := decide_eq_true c1
              obtain rfl := hno.out (fun q => by unfold fGood at q; (first | omega | (rw [hmay] at q; exact absurd q.2.2.2.2.2 (by simp))))
              clear hA2 hno hP
              go_wp2_with fail
              go_big_quiet (exact Calls.quiet_of_same (hmc _))
              go_wp2_with fail
              go_ret
              exact ⟨rfl, bDrew hB2 nq⟩
            have d1 : decide (1099511627776 < Y 0 0) = false := decide_eq_false c1
            by_cases c2 : Y 0 1 < 1
            ·
              have d2 : decide (Y 0 1 < 1) = true := decide_eq_true c2
              obtain rfl := hno.out (fun q => by unfold fGood at q; (first | omega | (rw [hmay] at q; exact absurd q.2.2.2.2.2 (by simp))))
              clear hA2 hno hP
              go_wp2_with fail
              go_big_quiet (exact Calls.quiet_of_same (hmc _))
              go_wp2_with fail
              go_ret
              exact ⟨rfl, bDrew hB2 nq⟩
            have d2 : decide (Y 0 1 < 1) = false := decide_eq_false c2
            by_cases c3 : 16 < Y 0 1
            ·
              have d3 : decide (16 < Y 0 1) = true := decide_eq_true c3
              obtain rfl := hno.out (fun q => by unfold fGood at q; (first | omega | (rw [hmay] at q; exact absurd q.2.2.2.2.2 (by simp))))
              clear hA2 hno hP
              go_wp2_with fail
              go_big_quiet (exact Calls.quiet_of_same (hmc _))
              go_wp2_with fail
              go_ret
              exact ⟨rfl, bDrew hB2 nq⟩
            have d3 : decide (16 < Y 0 1) = false := decide_eq_false c3
            cases hmay : mayB (Y 0 2) (Y 0 3) with
            | false =>
              have hmc := fun W => rmay16_c (Y 0 2) (Y 0 3) W
              rw [hmay] at hmc
              have hmay2 := Lib.hid hmay
              obtain rfl := hno.out (fun q => by unfold fGood at q; (first | omega | (rw [hmay] at q; exact absurd q.2.2.2.2.2 (by simp))))
              clear hA2 hno hP
              go_wp2_with fail
              go_big_quiet (exact Calls.quiet_of_same (hmc _))
              go_wp2_with fail
              go_ret
              exact ⟨rfl, bDrew hB2 nq⟩
            | true =>
              have hmc := fun W => rmay16_c (Y 0 2) (Y 0 3) W
              rw [hmay] at hmc
              have A2 := hA2.out (by unfold fGood; exact ⟨by omega, by omega, by omega, by omega, by omega, hmay⟩)
              replace A2 := Lib.hid A2
              clear hA2 hno hP
              go_wp2_with fail
              go_big_quiet (exact Calls.quiet_of_same (hmc _))
              go_wp2_with fail
              go_roundw
              case rel => exact ⟨_, by omega, by go_num, bDrew hB2 nq, (show Aside _ from A2.out)⟩
              case measure => simp [intOf] <;> omega
          | succ kp =>
            have hP : lastX Y (kp + 1) = Y kp 0 := rfl
            have hpos : (0 : Int) < ((kp + 1 : Nat) : Int) := by omega
            have hpo2 : decide ((0 : Int) < (kp : Int) + 1) = true := decide_eq_true (by omega)
            have hpo3 : decide ((0 : Int) < ((kp + 1 : Nat) : Int)) = true := decide_eq_true (by omega)
            have z0 := (T2.out.bel hB2).c0 kp (by omega) (by omega)
            have hw1 := wrapm kp (by omega)
            have hw2 := wrapm2 kp (by omega)
            have hkz : (kp : Int) < (M : Int) := by omega
            have hkz0 : (0 : Int) ≤ (kp : Int) := by omega
            by_cases c0 : Y (kp + 1) 0 < 0
            ·
              have d0 : decide (Y (kp + 1) 0 < 0) = true := decide_eq_true c0
              obtain rfl := hno.out (fun q => by unfold fGood at q; (first | omega | (rw [hmay] at q; exact absurd q.2.2.2.2.2 (by simp))))
              clear hA2 hno hP
              go_wp2_with fail
              go_big_quiet (exact Calls.quiet_of_same (hmc _))
              go_wp2_with fail
              go_ret
              exact ⟨rfl, bDrew hB2 nq⟩
            have d0 : decide (Y (kp + 1) 0 < 0) = false := decide_eq_false c0
            by_cases c1 : 1099511627776 < Y (kp + 1) 0
            ·
              have d1 : decide (1099511627776 < Y (kp + 1) 0) = true := decide_eq_true c1
              obtain rfl := hno.out (fun q => by unfold fGood at q; (first | omega | (rw [hmay] at q; exact absurd q.2.2.2.2.2 (by simp))))
              clear hA2 hno hP
              go_wp2_with fail
              go_big_quiet (exact Calls.quiet_of_same (hmc _))
              go_wp2_with fail
              go_ret
              exact ⟨rfl, bDrew hB2 nq⟩
            have d1 : decide (1099511627776 < Y (kp + 1) 0) = false := decide_eq_false c1
            by_cases c2 : Y (kp + 1) 0 < Y kp 0
            ·
              have d2 : decide (Y (kp + 1) 0 < Y kp 0) = true := decide_eq_true c2
              obtain rfl := hno.out (fun q => by unfold fGood at q; (first | omega | (rw [hmay] at q; exact absurd q.2.2.2.2.2 (by simp))))
              clear hA2 hno hP
              go_wp2_with fail
              go_big_quiet (exact Calls.quiet_of_same (hmc _))
              go_wp2_with fail
              go_ret
              exact ⟨rfl, bDrew hB2 nq⟩
            have d2 : decide (Y (kp + 1) 0 < Y kp 0) = false := decide_eq_false c2
            by_cases c3 : Y (kp + 1) 1 < 1
            ·
              have d3 : decide (Y (kp + 1) 1 < 1) = true := decide_eq_true c3
              obtain rfl := hno.out (fun q => by unfold fGood at q; (first | omega | (rw [hmay] at q; exact absurd q.2.2.2.2.2 (by simp))))
              clear hA2 hno hP
              go_wp2_with fail
              go_big_quiet (exact Calls.quiet_of_same (hmc _))
              go_wp2_with fail
              go_ret
              exact ⟨rfl, bDrew hB2 nq⟩
            have d3 : decide (Y (kp + 1) 1 < 1) = false := decide_eq_false c3
            by_cases c4 : 16 < Y (kp + 1) 1
            ·
              have d4 : decide (16 < Y (kp + 1) 1) = true := decide_eq_true c4
              obtain rfl := hno.out (fun q => by unfold fGood at q; (first | omega | (rw [hmay] at q; exact absurd q.2.2.2.2.2 (by simp))))
              clear hA2 hno hP
              go_wp2_with fail
              go_big_quiet (exact Calls.quiet_of_same (hmc _))
              go_wp2_with fail
              go_ret
              exact ⟨rfl, bDrew hB2 nq⟩
            have d4 : decide (16 < Y (kp + 1) 1) = false := decide_eq_false c4
            cases hmay : mayB (Y (kp + 1) 2) (Y (kp + 1) 3) with
            | false =>
              have hmc := fun W => rmay16_c (Y (kp + 1) 2) (Y (kp + 1) 3) W
              rw [hmay] at hmc
              have hmay2 := Lib.hid hmay
              obtain rfl := hno.out (fun q => by unfold fGood at q; (first | omega | (rw [hmay] at q; exact absurd q.2.2.2.2.2 (by simp))))
              clear hA2 hno hP
              go_wp2_with fail
              go_big_quiet (exact Calls.quiet_of_same (hmc _))
              go_wp2_with fail
              go_ret
              exact ⟨rfl, bDrew hB2 nq⟩
            | true =>
              have hmc := fun W => rmay16_c (Y (kp + 1) 2) (Y (kp + 1) 3) W
              rw [hmay] at hmc
              have A2 := hA2.out (by unfold fGood; exact ⟨by omega, by omega, by omega, by omega, by omega, hmay⟩)
              replace A2 := Lib.hid A2
              clear hA2 hno hP
              go_wp2_with fail
              go_big_quiet (exact Calls.quiet_of_same (hmc _))
              go_wp2_with fail
              go_roundw
              case rel => exact ⟨_, by omega, by go_num, bDrew hB2 nq, (show Aside _ from A2.out)⟩
              case measure => simp [intOf] <;> omega
        · have hltz : ¬ (kk : Int) < (M : Int) := by omega
          obtain rfl : kk = M := by omega
          obtain rfl : ok = true := hyes.out A.out A5.out
          go_wp2_with fail
          go_ret
          exact ⟨rfl, hB⟩
end Go.Proofs.Ytlnpommgfennhaa
