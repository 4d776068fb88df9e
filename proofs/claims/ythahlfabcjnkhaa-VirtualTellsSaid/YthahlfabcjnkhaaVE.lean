/- What VirtualEligible says: plain facts, and the walk. -/
import Derived.Test.YthahlfabcjnkhaaV9
import Derived.Test.YthahlfabcjnkhaaVOpen
namespace Go.Proofs.Ythahlfabcjnkhaa
open Go.ChangeShapes Go.WideShapes Go.ChangeAt Go.RowKit
set_option linter.unusedVariables false
set_option linter.unusedSimpArgs false
open BigFrame Vr Pk Fq

namespace Vr
theorem leastK_no {O : Nat → Int} {m : Nat → Bool} {n : Nat} (h : leastK O m n < 0) : ∀ i, i < n → m i = false := by
  induction n with
  | zero => intro i hi; omega
  | succ n ih =>
    intro i hi
    unfold leastK at h
    split at h
    · omega
    · rename_i hc
      have h2 := ih h
      by_cases e : i = n
      · subst e
        cases hm : m i with
        | false => rfl
        | true => exact absurd ⟨hm, .inl h⟩ hc
      · exact h2 i (by omega)
theorem leastK_yes {O : Nat → Int} {m : Nat → Bool} {n : Nat} (h : 0 ≤ leastK O m n) : m (leastK O m n).toNat = true ∧ ∀ i, i < n → m i = true → O (leastK O m n).toNat ≤ O i := by
  induction n with
  | zero => simp [leastK] at h
  | succ n ih =>
    have hd : leastK O m (n + 1) = if m n = true ∧ (leastK O m n < 0 ∨ O n < O (leastK O m n).toNat) then (n : Int) else leastK O m n := rfl
    by_cases hc : m n = true ∧ (leastK O m n < 0 ∨ O n < O (leastK O m n).toNat)
    · rw [if_pos hc] at hd
      rw [hd, Int.toNat_natCast]
      refine ⟨hc.1, fun i hi hmi => ?_⟩
      by_cases e : i = n
      · subst e; omega
      · rcases hc.2 with hneg | hlt
        · have := leastK_no hneg i (by omega); rw [hmi] at this; cases this
        · by_cases h0 : 0 ≤ leastK O m n
          · have := (ih h0).2 i (by omega) hmi; omega
          · have := leastK_no (show leastK O m n < 0 by omega) i (by omega); rw [hmi] at this; cases this
    · rw [if_neg hc] at hd
      rw [hd] at h ⊢
      obtain ⟨h1, h2⟩ := ih h
      refine ⟨h1, fun i hi hmi => ?_⟩
      by_cases e : i = n
      · subst e
        have : ¬ (O i < O (leastK O m i).toNat) := fun q => hc ⟨hmi, .inr q⟩
        omega
      · exact h2 i (by omega) hmi
theorem dvd_scale (w : Int) (h1 : 1 ≤ w) (h2 : w ≤ 16) : (720720 / w) * w = 720720 := by
  have : w = 1 ∨ w = 2 ∨ w = 3 ∨ w = 4 ∨ w = 5 ∨ w = 6 ∨ w = 7 ∨ w = 8 ∨ w = 9 ∨ w = 10 ∨ w = 11 ∨ w = 12 ∨ w = 13 ∨ w = 14 ∨ w = 15 ∨ w = 16 := by omega
  rcases this with rfl | rfl | rfl | rfl | rfl | rfl | rfl | rfl | rfl | rfl | rfl | rfl | rfl | rfl | rfl | rfl <;> rfl
theorem costTest (size weight all : Int) : ((costI size weight all != 0) && (wrap64 (costI size weight all * weight) != wrap64 (wrap64 (size * all) * 720720))) = false := by
  by_cases h : size < 1 ∨ 1500 < size ∨ weight < 1 ∨ 16 < weight ∨ all < weight ∨ 128 < all
  · rw [costI_no h]; rfl
  · have h1 := costI_ok (size := size) (weight := weight) (all := all) (by omega) (by omega) (by omega) (by omega) (by omega) (by omega)
    have m0 : 0 ≤ size * all := Int.mul_nonneg (by omega) (by omega)
    have m1 : size * all ≤ 192000 := Int.le_trans (Int.mul_le_mul (show size ≤ 1500 by omega) (show all ≤ 128 by omega) (by omega) (by omega)) (by omega)
    have e1 : wrap64 (size * all) = size * all := by unfold wrap64; omega
    have e2 : costI size weight all * weight = size * all * 720720 := by
      rw [h1, Int.mul_assoc, dvd_scale weight (by omega) (by omega)]
    rw [e1, e2]
    simp
end Vr

set_option maxRecDepth 100000 in
theorem great25_c (V : Int) (a : Option Addr) (N c : Nat) (w : World) :
    Calls Try.prog 27 #[.agg #[.int .i64 V, .slice a N c]] w fun e w' => e = .returned (.bool (decide ((50 : Int) < (N : Int)))) ∧ Below w.heap.size w w' := by
  go_enter Try.func27, Try.ntmps27
  go_wp2_with fail
  exact bodyPost_ret (v := .bool (decide ((50 : Int) < (N : Int)))) (by simp [results, Try.results27, go_sem]) rfl ⟨rfl, (Below.refl _ _).alloc (Nat.le_refl _) _⟩

set_option maxRecDepth 100000 in
set_option maxHeartbeats 4000000 in
/-- Too many flows, or none that may be. -/
theorem velig_no (w : World) (V : Int) (a ar : Option Addr) (b off N c n cr : Nat) (S F : Nat → Int) (size weight all : Int) (T : TagsAt w a b off N S F) (h : 50 < N ∨ ¬ VOk V N S F) :
    Calls Try.prog 6 #[.agg #[.int .i64 V, .slice a N c], .slice ar n cr, .int .i64 size, .int .i64 weight, .int .i64 all] w fun e w' => e = .returned (.bool true) ∧ Below w.heap.size w w' := by
  have bv0 := blk_new w (.int .i64 V) (.slice a N c) 43
  have hB0 : Below w.heap.size w (w.alloc (.cells #[.int .i64 V, .slice a N c] 43)) := (Below.refl _ _).alloc (Nat.le_refl _) _
  have hgr := great25_c V a N c (w.alloc (.cells #[.int .i64 V, .slice a N c] 43))
  by_cases hg : 50 < N
  · rw [decide_eq_true (by omega)] at hgr
    clear h
    go_enter Try.func6, Try.ntmps6
    go_wp2_with fail
    refine hgr.mono ?_
    rintro e w1 ⟨rfl, hb1⟩
    have hB1 := bNext hB0 hb1 (by simp)
    clear bv0 hB0 hgr hb1
    go_wp2_with fail
    refine (wakes25_c _).mono ?_
    rintro e w2 ⟨rfl, hb2⟩
    go_wp2_with fail
    go_ret
    exact ⟨rfl, bNext hB1 hb2 (Nat.le_refl _)⟩
  · rw [decide_eq_false (by omega)] at hgr
    have hv := h.resolve_left hg
    clear h
    replace T := Lib.hid T
    replace hv := Lib.hid hv
    go_enter Try.func6, Try.ntmps6
    go_wp2_with fail
    refine hgr.mono ?_
    rintro e w1 ⟨rfl, hb1⟩
    have hB1 := bNext hB0 hb1 (by simp)
    have bv1 := bv0.bel hb1
    clear bv0 hB0 hgr hb1
    have p0 := bv1.c 0 _ rfl
    have p1 := bv1.c 1 _ rfl
    go_wp2_with fail
    refine (vcheck_no V a b off N c S F w1 (T.out.bel hB1) (by omega) hv.out).mono ?_
    rintro e w3 ⟨rfl, hb3⟩
    have hB3 := bNext hB1 hb3 (Nat.le_refl _)
    clear bv1 p0 p1 hB1 hb3
    go_wp2_with fail
    refine (wakes25_c _).mono ?_
    rintro e w2 ⟨rfl, hb2⟩
    go_wp2_with fail
    go_ret
    exact ⟨rfl, bNext hB3 hb2 (Nat.le_refl _)⟩

set_option maxRecDepth 100000 in
set_option maxHeartbeats 4000000 in
/-- A virtual time that may be. -/
theorem velig_ok (w : World) (V : Int) (a ar : Option Addr) (b off N c n cr rb ro : Nat) (S F : Nat → Int) (R : Nat → Bool) (size weight all : Int) (T : TagsAt w a b off N S F) (BR : BoolsAt w ar rb ro n R) (hn : n ≤ 9223372036854775807) (hv : VOk V N S F) :
    Calls Try.prog 6 #[.agg #[.int .i64 V, .slice a N c], .slice ar n cr, .int .i64 size, .int .i64 weight, .int .i64 all] w fun e w' => e = .returned (.bool true) ∧ Below w.heap.size w w' := by
  have bv0 := blk_new w (.int .i64 V) (.slice a N c) 43
  have hB0 : Below w.heap.size w (w.alloc (.cells #[.int .i64 V, .slice a N c] 43)) := (Below.refl _ _).alloc (Nat.le_refl _) _
  have hgr := great25_c V a N c (w.alloc (.cells #[.int .i64 V, .slice a N c] 43))
  have hN8 := hv.2.2.1
  rw [decide_eq_false (by omega)] at hgr
  have hck := fun W (hW : Below w.heap.size w W) => vcheck_ok V a b off N c S F W (T.bel hW) hv
  have hpk := fun W (hW : Below w.heap.size w W) => vpick_c V a ar b off N c rb ro n cr S F R W (T.bel hW) (by omega) (BR.bel hW)
  replace hck := Lib.hid hck
  replace hpk := Lib.hid hpk
  replace T := Lib.hid T
  replace BR := Lib.hid BR
  have hv' := Lib.hid hv
  clear hv
  obtain ⟨cc, hcc⟩ : ∃ cc, costI size weight all = cc := ⟨_, rfl⟩
  have hco := fun W => vcost_c size weight all W
  have hct := costTest size weight all
  rw [hcc] at hco hct
  go_enter Try.func6, Try.ntmps6
  go_wp2_with fail
  refine hgr.mono ?_
  rintro e w1 ⟨rfl, hb1⟩
  have hB1 := bNext hB0 hb1 (by simp)
  have bv1 := bv0.bel hb1
  clear bv0 hB0 hgr hb1
  have p0 := bv1.c 0 _ rfl
  have p1 := bv1.c 1 _ rfl
  go_wp2_with fail
  refine (hck.out w1 hB1).mono ?_
  rintro e w3 ⟨rfl, hb3⟩
  have hB3 := bNext hB1 hb3 (Nat.le_refl _)
  have bv3 := bv1.bel hb3
  clear bv1 p0 p1 hB1 hb3
  go_wp2_with fail
  refine (hco w3).mono ?_
  rintro e w4 ⟨rfl, rfl⟩
  clear hco hcc
  go_upto_region 4 with fail
  go_cut [40] from 29 (fun s40 wx => s40 = .bool false ∧ w4 = wx)
  case first =>
    by_cases h0 : cc = 0
    · subst h0
      clear hct
      go_wp2_with fail
      go_meet
      case rel => exact ⟨rfl, rfl⟩
    · have h1 : (cc != 0) = true := by simpa using h0
      rw [h1, Bool.true_and] at hct
      go_wp2_with fail
      go_meet
      case rel => exact ⟨rfl, rfl⟩
  obtain ⟨rfl, rfl⟩ := hcut
  clear hct
  by_cases hok : pickOk V N S F n R
  · have hpk4 := hpk.out w4 hB3
    unfold pickR at hpk4
    rw [if_pos hok] at hpk4
    obtain ⟨_, rfl, hk0⟩ := hok
    obtain ⟨V', hV'⟩ : ∃ V', max V (S (leastK S R n).toNat) = V' := ⟨_, rfl⟩
    have hy0 := leastK_yes hk0
    have hk1 : 0 ≤ leastK F (fun i => R i && decide (S i ≤ V')) n := by
      refine Classical.byContradiction fun q => ?_
      have hl := leastK_lt S R n
      have := leastK_no (show leastK F (fun i => R i && decide (S i ≤ V')) n < 0 by omega) (leastK S R n).toNat (by omega)
      rw [hy0.1, Bool.true_and] at this
      have := of_decide_eq_false this
      omega
    have hy1 := leastK_yes hk1
    have hl1 := leastK_lt F (fun i => R i && decide (S i ≤ V')) n
    rw [hV'] at hpk4
    obtain ⟨k, hk⟩ : ∃ k : Nat, leastK F (fun i => R i && decide (S i ≤ V')) n = (k : Int) := ⟨(leastK F (fun i => R i && decide (S i ≤ V')) n).toNat, by omega⟩
    rw [hk, Int.toNat_natCast] at hy1
    rw [hk] at hpk4 hl1
    obtain ⟨hy2, hy3⟩ := hy1
    rw [Bool.and_eq_true, decide_eq_true_eq] at hy2
    have hVV : V ≤ V' := by omega
    have hfar : ∀ i, i < n → R i = true → V < V' → V' ≤ S i := fun i hi hRi hlt => by have := hy0.2 i hi hRi; omega
    have hleast : ∀ i, i < n → R i = true → S i ≤ V' → F k ≤ F i := fun i hi hRi hle => hy3 i hi (by rw [hRi, Bool.true_and]; exact decide_eq_true hle)
    obtain ⟨hRk, hSk⟩ := hy2
    have hkn : k < n := by omega
    replace hfar := Lib.hid hfar
    replace hleast := Lib.hid hleast
    replace hRk := Lib.hid hRk
    clear hy0 hy3 hk1 hl1 hk hV' hk0
    have p0 := bv3.c 0 _ rfl
    have p1 := bv3.c 1 _ rfl
    go_wp2_with fail
    refine hpk4.mono ?_
    rintro e w5 ⟨a5, g5, c5, rfl, T5, hg5, hb5⟩
    replace T5 : TagsAt w5 a5 g5 0 n S F := T5
    have hB5 := bNext hB3 hb5 (Nat.le_refl _)
    have bv5 := bv3.bel hb5
    clear p0 p1 bv3 hB3 hpk4 hg5 hb5
    have hB6 := hB5.alloc hB5.size (.cells #[.int .i64 V', .slice a5 n c5] 43)
    have hbb := (Below.refl w5.heap.size w5).alloc (Nat.le_refl _) (.cells #[.int .i64 V', .slice a5 n c5] 43)
    have bv6 := bv5.bel hbb
    have T6 := T5.bel hbb
    have bw6 := blk_new w5 (.int .i64 V') (.slice a5 n c5) 43
    clear bv5 hB5 T5 hbb
    obtain rfl := T6.ha (by omega)
    go_upto_region 15 with fail
    generalize w5.alloc (.cells #[.int .i64 V', .slice (some ⟨g5, 0, none⟩) n c5] 43) = w6 at hB6 bv6 T6 bw6 ⊢
    generalize w5.heap.size = wb at bw6 ⊢
    obtain rfl := BR.out.ha (by omega)
    obtain rfl := T.out.ha (by omega)
    have p0 := bv6.c 0 _ rfl
    have p1 := bv6.c 1 _ rfl
    have q0 := bw6.c 0 _ rfl
    have q1 := bw6.c 1 _ rfl
    have xk := (BR.out.bel hB6).c0 k hkn
    rw [hRk.out] at xk
    have yk := T6.c0 k hkn
    rw [Nat.zero_add] at yk
    have hkz : (k : Int) < (n : Int) := by omega
    have hd1 : decide ((k : Int) < 0) = false := by simp
    have hd2 : decide (n ≤ k) = false := by simp; omega
    have hd3 : decide (V' < V) = false := by simp; omega
    have hd4 : decide (V' < S k) = false := by simp; omega
    go_big_quiet (fail)
    have hdr := bDrew (Below.refl w6.heap.size w6) nq
    have bv7 := bv6.bel hdr
    have bw7 := bw6.bel hdr
    have T7 := T6.bel hdr
    have hB7 := bNext hB6 hdr (Nat.le_refl _)
    clear p0 p1 q0 q1 xk yk bv6 bw6 T6 hB6 hdr hd1 hd2 hd3 hd4 hRk
    generalize w6.drewN nq = U at bv7 bw7 T7 hB7 ⊢
    have p0 := bv7.c 0 _ rfl
    have p1 := bv7.c 1 _ rfl
    have q0 := bw7.c 0 _ rfl
    have q1 := bw7.c 1 _ rfl
    have yk0 := T7.c0 k hkn
    have yk1 := T7.c1 k hkn
    rw [Nat.zero_add] at yk0 yk1
    replace T7 := Lib.hid T7
    clear bv7 bw7 hck hpk hv'
    go_wp2_with fail
    go_loopw [16, 121] (fun _ s52 wr => ∃ i : Nat, i ≤ n ∧ s52 = .int .i64 (i : Nat) ∧ Below U.heap.size U wr) (fun _ s52 _ => n - (intOf s52).toNat)
    case atStart => exact ⟨0, Nat.zero_le _, rfl, Below.refl _ _⟩
    case round =>
      obtain ⟨i, hi, rfl, hBr⟩ := hrel
      by_cases hlt : i < n
      · have hltz : (i : Int) < (n : Int) := by omega
        have x0 := cellB hBr ((BR.out.bel hB7).c0 i hlt)
        have y0 := T7.out.c0 i hlt
        have y1 := T7.out.c1 i hlt
        rw [Nat.zero_add] at y0 y1
        replace y0 := cellB hBr y0
        replace y1 := cellB hBr y1
        have z0 := cellB hBr ((T.out.bel hB7).c0 i hlt)
        have z1 := cellB hBr ((T.out.bel hB7).c1 i hlt)
        have r0 := cellB hBr p0
        have r1 := cellB hBr p1
        have r2 := cellB hBr q0
        have r3 := cellB hBr q1
        have r4 := cellB hBr yk0
        have r5 := cellB hBr yk1
        have h1 := hfar.out i hlt
        have h2 := hleast.out i hlt
        replace p0 := Lib.hid p0
        replace p1 := Lib.hid p1
        replace q0 := Lib.hid q0
        replace q1 := Lib.hid q1
        replace yk0 := Lib.hid yk0
        replace yk1 := Lib.hid yk1
        cases hr : R i with
        | false =>
          rw [hr] at x0
          clear hr h1 h2
          go_upto_region 20 with fail
          simp only [List.append_eq, List.cons_append, List.nil_append]
          go_big_quiet (fail)
          go_wp2_with fail
          go_roundw
          case rel => exact ⟨i + 1, by omega, by go_num, bDrew hBr nq⟩
          case measure => simp [intOf]; omega
        | true =>
          rw [hr] at x0
          replace h1 := h1 hr
          replace h2 := h2 hr
          clear hr
          by_cases g1 : S i ≤ V'
          · have g2 : ¬ F i < F k := by have := h2 g1; omega
            by_cases g3 : V < V'
            · have g4 : ¬ S i < V' := by have := h1 g3; omega
              go_upto_region 20 with fail
              simp only [List.append_eq, List.cons_append, List.nil_append]
              go_big_quiet (fail)
              go_wp2_with fail
              go_roundw
              case rel => exact ⟨i + 1, by omega, by go_num, bDrew hBr nq⟩
              case measure => simp [intOf]; omega
            · go_upto_region 20 with fail
              simp only [List.append_eq, List.cons_append, List.nil_append]
              go_big_quiet (fail)
              go_wp2_with fail
              go_roundw
              case rel => exact ⟨i + 1, by omega, by go_num, bDrew hBr nq⟩
              case measure => simp [intOf]; omega
          · by_cases g3 : V < V'
            · have g4 : ¬ S i < V' := by have := h1 g3; omega
              go_upto_region 20 with fail
              simp only [List.append_eq, List.cons_append, List.nil_append]
              go_big_quiet (fail)
              go_wp2_with fail
              go_roundw
              case rel => exact ⟨i + 1, by omega, by go_num, bDrew hBr nq⟩
              case measure => simp [intOf]; omega
            · go_upto_region 20 with fail
              simp only [List.append_eq, List.cons_append, List.nil_append]
              go_big_quiet (fail)
              go_wp2_with fail
              go_roundw
              case rel => exact ⟨i + 1, by omega, by go_num, bDrew hBr nq⟩
              case measure => simp [intOf]; omega
      · have hltz : ¬ (i : Int) < (n : Int) := by omega
        go_wp2_with fail
        refine (wakes25_c _).mono ?_
        rintro e w7 ⟨rfl, hb7⟩
        go_wp2_with fail
        go_ret
        exact ⟨rfl, bNext (bNext hB7 hBr (Nat.le_refl _)) hb7 (Nat.le_refl _)⟩
  · have hR : ∀ i, i < n → R i = true → n ≠ N := fun i hi hRi hnN => by
      subst hnN
      have := leastK_no (O := S) (m := R) (n := n) (Classical.byContradiction fun q => hok ⟨hv'.out, rfl, by omega⟩) i hi
      rw [hRi] at this
      cases this
    have hpk4 := hpk.out w4 hB3
    unfold pickR at hpk4
    rw [if_neg hok] at hpk4
    replace hR := Lib.hid hR
    clear hok
    have p0 := bv3.c 0 _ rfl
    have p1 := bv3.c 1 _ rfl
    go_wp2_with fail
    refine hpk4.mono ?_
    rintro e w5 ⟨a5, g5, c5, rfl, T5, hg5, hb5⟩
    have hB5 := bNext hB3 hb5 (Nat.le_refl _)
    have bv5 := bv3.bel hb5
    clear p0 p1 bv3 hB3 hpk4 T5 hg5 hb5
    have hB6 := hB5.alloc hB5.size (.cells #[.int .i64 0, .slice a5 0 c5] 43)
    have bv6 := bv5.bel ((Below.refl w5.heap.size w5).alloc (Nat.le_refl _) (.cells #[.int .i64 0, .slice a5 0 c5] 43))
    clear bv5 hB5
    go_upto_region 8 with fail
    generalize w5.alloc (.cells #[.int .i64 0, .slice a5 0 c5] 43) = w6 at hB6 bv6 ⊢
    have hw6 := Lib.hid (rfl : w6 = w6)
    have p1 := bv6.c 1 _ rfl
    clear bv6 hv' hck hpk T
    go_wp2_with fail
    go_loop [15, 52] (fun _ s52 => ∃ i : Nat, i ≤ n ∧ s52 = .int .i64 (i : Nat)) (fun _ s52 => n - (intOf s52).toNat)
    case atStart => exact ⟨0, Nat.zero_le _, rfl⟩
    case round =>
      obtain ⟨i, hi, rfl⟩ := hrel
      by_cases hlt : i < n
      · have hltz : (i : Int) < (n : Int) := by omega
        obtain rfl := BR.out.ha (by omega)
        have x0 := (BR.out.bel hB6).c0 i hlt
        have hRi := hR.out i hlt
        cases hr : R i with
        | false =>
          rw [hr] at x0
          clear hr hRi
          go_wp2_with fail
          go_round
          case rel => exact ⟨i + 1, by omega, by go_num⟩
          case measure => simp [intOf]; omega
        | true =>
          rw [hr] at x0
          have hnN := hRi hr
          have hnd : (n == N) = false := by simpa using hnN
          have hne : ((n : Int) == (N : Int)) = false := by simp; omega
          clear hr hRi hnN
          go_wp2_with fail
          go_round
          case rel => exact ⟨i + 1, by omega, by go_num⟩
          case measure => simp [intOf]; omega
      · have hltz : ¬ (i : Int) < (n : Int) := by omega
        clear hR
        go_wp2_with fail
        refine (wakes25_c _).mono ?_
        rintro e w7 ⟨rfl, hb7⟩
        go_wp2_with fail
        go_ret
        exact ⟨rfl, bNext hB6 hb7 (Nat.le_refl _)⟩
end Go.Proofs.Ythahlfabcjnkhaa
