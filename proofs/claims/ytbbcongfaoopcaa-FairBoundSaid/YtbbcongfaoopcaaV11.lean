/- The reference's Check, Cost and Same of virtual times. -/
import Derived.Test.YtbbcongfaoopcaaV10
namespace Go.Proofs.Ytbbcongfaoopcaa
open Go.ChangeShapes Go.WideShapes Go.ChangeAt Go.RowKit
set_option linter.unusedVariables false
set_option linter.unusedSimpArgs false
open BigFrame Vr Pk Fq

set_option maxRecDepth 100000 in
set_option maxHeartbeats 4000000 in
theorem rcost25_c (size weight all : Int) (w : World) :
    Calls Try.prog 61 #[.int .i64 size, .int .i64 weight, .int .i64 all] w fun e w' => e = .returned (.int .i64 (costI size weight all)) ∧ w' = w := by
  by_cases h : size < 1 ∨ 1500 < size ∨ weight < 1 ∨ 16 < weight ∨ all < weight ∨ 128 < all
  · rw [costI_no h]
    by_cases h1 : size < 1
    · go_enter Try.func61, Try.ntmps61
      go_wp2_with fail
      go_ret
      exact ⟨rfl, rfl⟩
    by_cases h2 : 1500 < size
    · go_enter Try.func61, Try.ntmps61
      go_wp2_with fail
      go_ret
      exact ⟨rfl, rfl⟩
    by_cases h3 : weight < 1
    · go_enter Try.func61, Try.ntmps61
      go_wp2_with fail
      go_ret
      exact ⟨rfl, rfl⟩
    by_cases h4 : 16 < weight
    · go_enter Try.func61, Try.ntmps61
      go_wp2_with fail
      go_ret
      exact ⟨rfl, rfl⟩
    by_cases h5 : all < weight
    · go_enter Try.func61, Try.ntmps61
      go_wp2_with fail
      go_ret
      exact ⟨rfl, rfl⟩
    have h6 : 128 < all := by omega
    clear h
    go_enter Try.func61, Try.ntmps61
    go_wp2_with fail
    go_ret
    exact ⟨rfl, rfl⟩
  · rw [costI_ok (by omega) (by omega) (by omega) (by omega) (by omega) (by omega)]
    have g1 : ¬ size < 1 := by omega
    have g2 : ¬ 1500 < size := by omega
    have g3 : ¬ weight < 1 := by omega
    have g4 : ¬ 16 < weight := by omega
    have g5 : ¬ all < weight := by omega
    have g6 : ¬ 128 < all := by omega
    have g7 : ¬ weight = 0 := by omega
    clear h
    obtain ⟨q, hq⟩ : ∃ q, 720720 / weight = q := ⟨_, rfl⟩
    have q0 : 0 ≤ q := by rw [← hq]; exact Int.ediv_nonneg (by omega) (by omega)
    have q1 : q ≤ 720720 := by rw [← hq]; exact Int.ediv_le_self _ (by omega)
    obtain ⟨m, hm⟩ : ∃ m, size * all = m := ⟨_, rfl⟩
    have m0 : 0 ≤ m := by rw [← hm]; exact Int.mul_nonneg (by omega) (by omega)
    have m1 : m ≤ 192000 := by rw [← hm]; exact Int.le_trans (Int.mul_le_mul (show size ≤ 1500 by omega) (show all ≤ 128 by omega) (by omega) (by omega)) (by omega)
    obtain ⟨c, hc⟩ : ∃ c, m * q = c := ⟨_, rfl⟩
    have c0 : 0 ≤ c := by rw [← hc]; exact Int.mul_nonneg m0 q0
    have c1 : c ≤ 138378240000 := by rw [← hc]; exact Int.le_trans (Int.mul_le_mul m1 q1 q0 (by omega)) (by omega)
    rw [hq, hm, hc]
    go_enter Try.func61, Try.ntmps61
    go_wp2_with fail
    exact bodyPost_ret (v := .int .i64 c) (by simp [results, Try.results61, go_sem]) rfl ⟨rfl, rfl⟩

set_option maxRecDepth 100000 in
set_option maxHeartbeats 4000000 in
theorem rcheck25_c (ok : Bool) (V : Int) (a : Option Addr) (b off N c : Nat) (S F : Nat → Int) (w : World) (T : TagsAt w a b off N S F) (hN : N ≤ 1000) (hok : ok = true ↔ VOk V N S F) :
    Calls Try.prog 51 #[.agg #[.int .i64 V, .slice a N c]] w fun e w' => e = .returned (.bool ok) ∧ Below w.heap.size w w' := by
  have hB0 : Below w.heap.size w (w.alloc (.cells #[.int .i64 V, .slice a N c] 50)) := (Below.refl _ _).alloc (Nat.le_refl _) _
  have bx0 := blk_new w (.int .i64 V) (.slice a N c) 50
  have hNi : (N : Int) ≤ 1000 := by omega
  replace T := Lib.hid T
  by_cases h1 : V < 0
  · obtain rfl : ok = false := by cases ok; rfl; exact absurd (hok.1 rfl).1 (by omega)
    clear hok
    go_enter Try.func51, Try.ntmps51
    go_wp2_with fail
    go_ret
    exact ⟨rfl, hB0⟩
  by_cases h2 : 1152921504606846976 < V
  · obtain rfl : ok = false := by cases ok; rfl; exact absurd (hok.1 rfl).2.1 (by omega)
    clear hok
    go_enter Try.func51, Try.ntmps51
    go_wp2_with fail
    go_ret
    exact ⟨rfl, hB0⟩
  by_cases h3 : (8 : Int) < (N : Int)
  · obtain rfl : ok = false := by cases ok; rfl; exact absurd (hok.1 rfl).2.2.1 (by omega)
    clear hok
    go_enter Try.func51, Try.ntmps51
    go_wp2_with fail
    go_ret
    exact ⟨rfl, hB0⟩
  replace hok : Hid (ok = true ↔ ∀ i, i < N → tagBad (S i) (F i) = false) := Lib.hid (hok.trans ⟨fun h i hi => tagBad_no.2 (h.2.2.2 i hi), fun h => ⟨by omega, by omega, by omega, fun i hi => tagBad_no.1 (h i hi)⟩⟩)
  go_enter Try.func51, Try.ntmps51
  go_upto_region 3 with fail
  generalize w.alloc (.cells #[.int .i64 V, .slice a N c] 50) = W1 at bx0 hB0 ⊢
  go_wp2_with fail
  go_loopw [3, 4] (fun s3 _ wr => ∃ kk : Nat, kk ≤ N ∧ s3 = .int .i64 (kk : Nat) ∧ Below W1.heap.size W1 wr ∧ Aside (∀ j, j < kk → tagBad (S j) (F j) = false)) (fun s3 _ _ => N - (intOf s3).toNat)
  case atStart => exact ⟨0, Nat.zero_le _, rfl, Below.refl _ _, fun j hj => absurd hj (Nat.not_lt_zero _)⟩
  case round =>
    obtain ⟨kk, hkk, rfl, hBr, A⟩ := hrel
    have p1 := (bx0.bel hBr).c 1 _ rfl
    by_cases hlt : kk < N
    · have hltz : (kk : Int) < (N : Int) := by omega
      obtain rfl := T.out.ha (by omega)
      have hBw := bNext hB0 hBr (Nat.le_refl _)
      have x0 := (T.out.bel hBw).c0 kk hlt
      have x1 := (T.out.bel hBw).c1 kk hlt
      have hBr2 := bNext hBr ((Below.refl wr.heap.size wr).alloc (Nat.le_refl _) (.cells #[.int .i64 (S kk), .int .i64 (F kk)] 78)) (Nat.le_refl _)
      have hBw2 := bNext hB0 hBr2 (Nat.le_refl _)
      clear hBw
      by_cases hbad : tagBad (S kk) (F kk) = true
      · obtain rfl : ok = false := by cases ok; rfl; have := hok.out.1 rfl kk hlt; rw [hbad] at this; cases this
        have hx : S kk < 0 ∨ F kk < S kk ∨ 1152921504606846976 < F kk := by
          refine Classical.byContradiction fun q => ?_
          rw [tagBad_no.2 ⟨by omega, by omega, by omega⟩] at hbad
          cases hbad
        clear hbad
        by_cases k1 : S kk < 0
        · clear hx
          go_wp2_with fail
          go_ret
          exact ⟨rfl, hBw2⟩
        by_cases k2 : F kk < S kk
        · clear hx
          go_wp2_with fail
          go_ret
          exact ⟨rfl, hBw2⟩
        have k3 : 1152921504606846976 < F kk := by omega
        clear hx
        go_wp2_with fail
        go_ret
        exact ⟨rfl, hBw2⟩
      · have hbad' : tagBad (S kk) (F kk) = false := by simpa using hbad
        obtain ⟨k1, k2, k3⟩ := tagBad_no.1 hbad'
        have A2 : ∀ j, j < kk + 1 → tagBad (S j) (F j) = false := fun j hj => by
          by_cases e : j = kk
          · subst e; exact hbad'
          · exact A.out j (by omega)
        replace A2 := Lib.hid A2
        clear hbad hbad'
        go_wp2_with fail
        go_roundw
        case rel => exact ⟨kk + 1, by omega, by go_num, hBr2, (show Aside _ from A2.out)⟩
        case measure => simp [intOf]; omega
    · have hltz : ¬ (kk : Int) < (N : Int) := by omega
      obtain rfl : kk = N := by omega
      obtain rfl : ok = true := hok.out.2 A.out
      go_wp2_with fail
      go_ret
      exact ⟨rfl, bNext hB0 hBr (Nat.le_refl _)⟩