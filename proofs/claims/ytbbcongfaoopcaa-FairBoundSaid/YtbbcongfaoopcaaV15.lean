/- The reference's Pick. -/
import Derived.Test.YtbbcongfaoopcaaV14
import Derived.Test.YtbbcongfaoopcaaVE
namespace Go.Proofs.Ytbbcongfaoopcaa
open Go.ChangeShapes Go.WideShapes Go.ChangeAt Go.RowKit
set_option linter.unusedVariables false
set_option linter.unusedSimpArgs false
open BigFrame Vr Pk Fq
attribute [local go_sem] max_fold25

namespace Vr
/-- The least value itself, -1 if there is none. -/
def leastV (O : Nat → Int) (m : Nat → Bool) (n : Nat) : Int := if leastK O m n < 0 then -1 else O (leastK O m n).toNat
theorem leastV_succ {O : Nat → Int} {m : Nat → Bool} {n : Nat} (h0 : ∀ i, i < n → 0 ≤ O i) : leastV O m (n + 1) = if m n = true ∧ (leastV O m n < 0 ∨ O n < leastV O m n) then O n else leastV O m n := by
  have hd : leastK O m (n + 1) = if m n = true ∧ (leastK O m n < 0 ∨ O n < O (leastK O m n).toNat) then (n : Int) else leastK O m n := rfl
  have hl := leastK_lt O m n
  have h9 : ¬ (n : Int) < 0 := by omega
  by_cases hneg : leastK O m n < 0
  · by_cases hm : m n = true
    · rw [if_pos ⟨hm, .inl hneg⟩] at hd
      unfold leastV
      rw [hd, if_neg h9, if_pos hneg, Int.toNat_natCast, if_pos ⟨hm, .inl (by omega)⟩]
    · rw [if_neg (fun q => hm q.1)] at hd
      unfold leastV
      rw [hd, if_pos hneg, if_neg (fun q => hm q.1)]
  · have hk := h0 (leastK O m n).toNat (by omega)
    by_cases hm : m n = true
    · by_cases hlt : O n < O (leastK O m n).toNat
      · rw [if_pos ⟨hm, .inr hlt⟩] at hd
        unfold leastV
        rw [hd, if_neg h9, if_neg hneg, Int.toNat_natCast, if_pos ⟨hm, .inr hlt⟩]
      · rw [if_neg (fun q => by rcases q.2 with q | q; exact hneg q; exact hlt q)] at hd
        unfold leastV
        rw [hd, if_neg hneg, if_neg (fun q => by rcases q.2 with q | q; omega; exact hlt q)]
    · rw [if_neg (fun q => hm q.1)] at hd
      unfold leastV
      rw [hd, if_neg hneg, if_neg (fun q => hm q.1)]
theorem leastK_succ (O : Nat → Int) (m : Nat → Bool) (n : Nat) : leastK O m (n + 1) = if m n = true ∧ (leastK O m n < 0 ∨ O n < O (leastK O m n).toNat) then (n : Int) else leastK O m n := rfl
end Vr

set_option maxRecDepth 100000 in
set_option maxHeartbeats 4000000 in
theorem rpick_yes (V : Int) (a ar : Option Addr) (b off N c rb ro cr : Nat) (S F : Nat → Int) (R : Nat → Bool) (w : World) (T : TagsAt w a b off N S F) (hv : VOk V N S F) (BR : BoolsAt w ar rb ro N R) (hk0 : 0 ≤ leastK S R N) :
    Calls Try.prog 34 #[.agg #[.int .i64 V, .slice a N c], .slice ar N cr] w (PickP ⟨max V (S (leastK S R N).toNat), N, S, F, leastK F (fun i => R i && decide (S i ≤ max V (S (leastK S R N).toNat))) N, true⟩ w) := by
  have hlk := leastK_lt S R N
  have hN8 := hv.2.2.1
  have hck := rcheck25_c true V a b off N c S F _ (T.bel ((((Below.refl w.heap.size w).alloc (Nat.le_refl _) (.cells #[.int .i64 V, .slice a N c] 50))).alloc (by simp) (.cells #[.int .i64 0, .slice none 0 0] 50))) (by omega) ⟨fun _ => hv, fun _ => rfl⟩
  have hLV : leastV S R N = S (leastK S R N).toNat := by unfold leastV; rw [if_neg (by omega)]
  have hL0 := (hv.2.2.2 (leastK S R N).toNat (by omega)).1
  obtain ⟨L, hL⟩ : ∃ L, S (leastK S R N).toNat = L := ⟨_, rfl⟩
  rw [hL] at hLV hL0 ⊢
  clear hL hk0 hlk
  obtain ⟨V', hV'⟩ : ∃ V', max V L = V' := ⟨_, rfl⟩
  rw [hV']
  replace hV' := Lib.hid hV'
  replace T := Lib.hid T
  replace BR := Lib.hid BR
  replace hv := Lib.hid hv
  replace hLV := Lib.hid hLV
  have hB0 : Below w.heap.size w ((w.alloc (.cells #[.int .i64 V, .slice a N c] 50)).alloc (.cells #[.int .i64 0, .slice none 0 0] 50)) := ((Below.refl _ _).alloc (Nat.le_refl _) _).alloc (by simp) _
  have bx0 := blk_two w (.int .i64 V) (.slice a N c) (.int .i64 0) (.slice none 0 0) 50 50
  have rs0 := blk_new (w.alloc (.cells #[.int .i64 V, .slice a N c] 50)) (.int .i64 0) (.slice none 0 0) 50
  rw [World.size_alloc] at rs0
  have hszW : w.heap.size + 1 < ((w.alloc (.cells #[.int .i64 V, .slice a N c] 50)).alloc (.cells #[.int .i64 0, .slice none 0 0] 50)).heap.size := by simp
  go_enter Try.func34, Try.ntmps34
  go_wp2_with fail
  generalize ((w.alloc (.cells #[.int .i64 V, .slice a N c] 50)).alloc (.cells #[.int .i64 0, .slice none 0 0] 50)) = W1 at bx0 rs0 hB0 hszW hck ⊢
  refine hck.mono ?_
  rintro e w1 ⟨rfl, hb1⟩
  have bx1 := bx0.bel hb1
  have rs1 := rs0.bel hb1
  have hB1 := bNext hB0 hb1 (Nat.le_refl _)
  have hsz1 := hb1.size
  clear bx0 rs0 hB0 hck hb1
  have p0 := bx1.c 0 _ rfl
  have p1 := bx1.c 1 _ rfl
  go_wp2_with fail
  go_loop [7, 8] (fun s7 s8 => ∃ kk : Nat, kk ≤ N ∧ s7 = .int .i64 (leastV S R kk) ∧ s8 = .int .i64 (kk : Nat)) (fun _ s8 => N - (intOf s8).toNat)
  case atStart => exact ⟨0, Nat.zero_le _, rfl, rfl⟩
  case round =>
    obtain ⟨kk, hkk, rfl, rfl⟩ := hrel
    by_cases hlt : kk < N
    · have hltz : (kk : Int) < (N : Int) := by omega
      obtain rfl := T.out.ha (by omega)
      obtain rfl := BR.out.ha (by omega)
      have x0 := (T.out.bel hB1).c0 kk hlt
      have y0 := (BR.out.bel hB1).c0 kk hlt
      have hstep := leastV_succ (O := S) (m := R) (n := kk) (fun i hi => (hv.out.2.2.2 i (by omega)).1)
      obtain ⟨L, hL⟩ : ∃ L, leastV S R kk = L := ⟨_, rfl⟩
      rw [hL] at hstep ⊢
      clear hL
      cases hr : R kk with
      | false =>
        rw [hr] at y0
        rw [if_neg (fun q => by rw [hr] at q; cases q.1)] at hstep
        replace hstep := Lib.hid hstep
        clear hr
        go_wp2_with fail
        go_round
        case rel => exact ⟨kk + 1, by omega, by rw [hstep.out], by go_num⟩
        case measure => simp [intOf]; omega
      | true =>
        rw [hr] at y0
        by_cases hneg : L < 0
        · rw [if_pos ⟨hr, .inl hneg⟩] at hstep
          replace hstep := Lib.hid hstep
          clear hr
          go_wp2_with fail
          go_round
          case rel => exact ⟨kk + 1, by omega, by rw [hstep.out], by go_num⟩
          case measure => simp [intOf]; omega
        · by_cases hlL : S kk < L
          · rw [if_pos ⟨hr, .inr hlL⟩] at hstep
            replace hstep := Lib.hid hstep
            clear hr
            go_wp2_with fail
            go_round
            case rel => exact ⟨kk + 1, by omega, by rw [hstep.out], by go_num⟩
            case measure => simp [intOf]; omega
          · rw [if_neg (fun q => by rcases q.2 with q | q; exact hneg q; exact hlL q)] at hstep
            replace hstep := Lib.hid hstep
            clear hr
            go_wp2_with fail
            go_round
            case rel => exact ⟨kk + 1, by omega, by rw [hstep.out], by go_num⟩
            case measure => simp [intOf]; omega
    · have hltz : ¬ (kk : Int) < (N : Int) := by omega
      obtain rfl : kk = N := by omega
      rw [hLV.out]
      go_wp2_with fail
      refine (rcopied_c V a b off kk c S F w1 (T.out.bel hB1) (by omega)).mono ?_
      rintro e w3 ⟨a3, g3, c3, rfl, T3, hg3, hb3⟩
      have rs3 := rs1.bel hb3
      have bx3 := bx1.bel hb3
      have hB3 := bNext hB1 hb3 (Nat.le_refl _)
      have hl2 := rs1.l
      have hsz3 := hb3.size
      clear p0 p1 bx1 rs1 hb3 hB1
      have hbb := (Below.refl w3.heap.size w3).alloc (Nat.le_refl _) (.cells #[.int .i64 V, .slice a3 kk c3] 50)
      have bo3 := blk_new w3 (.int .i64 V) (.slice a3 kk c3) 50
      have rs3' := rs3.bel hbb
      have bx3' := bx3.bel hbb
      have T3' := T3.bel hbb
      have hB3' := bNext hB3 hbb (Nat.le_refl _)
      have hT3 : 0 < kk → g3 ≠ w3.heap.size := fun h0 => by have := T3.hb h0; omega
      have hrl := rs3.l
      have hwl := hB3.size
      clear rs3 bx3 T3 hB3 hbb
      go_upto_region 12 with fail
      generalize w3.alloc (.cells #[.int .i64 V, .slice a3 kk c3] 50) = w3' at bo3 rs3' bx3' T3' hB3' ⊢
      generalize w3.heap.size = ob at bo3 hT3 hrl hwl ⊢
      have p0 := bx3'.c 0 _ rfl
      have q0 := bo3.c 0 _ rfl
      have q2 := bo3.f 0
      have bo4 := bo3.set (i := 0) (by simp) (.int .i64 (max V L))
      have rs4 := rs3'.other (q := ob) (o := 0) (by omega) (.int .i64 (max V L))
      have hB4 := hB3'.setCell (p := ⟨ob, 0, none⟩) hwl (.int .i64 (max V L))
      have T4 := T3'.set_other (q := ob) (o := 0) hT3 (.int .i64 (max V L))
      go_upto_region 13 with fail
      rw [hV'.out] at bo4 rs4 hB4 T4 ⊢
      generalize w3'.setCell ⟨ob, 0, none⟩ (.int .i64 V') = w4 at bo4 rs4 hB4 T4 ⊢
      clear p0 q0 q2 bo3 rs3' bx3' hB3' T3'
      go_wp2_with fail
      go_loopw [10, 11] (fun s10 s11 wr => ∃ j : Nat, j ≤ kk ∧ s10 = .int .i64 (leastK F (fun i => R i && decide (S i ≤ V')) j) ∧ s11 = .int .i64 (j : Nat) ∧ Below w4.heap.size w4 wr) (fun _ s11 _ => kk - (intOf s11).toNat)
      case atStart => exact ⟨0, Nat.zero_le _, rfl, rfl, Below.refl _ _⟩
      case round =>
        obtain ⟨j, hj, rfl, rfl, hBr⟩ := hrel
        have hlj := leastK_lt F (fun i => R i && decide (S i ≤ V')) j
        by_cases hjl : j < kk
        · have hjz : (j : Int) < (kk : Int) := by omega
          obtain rfl := BR.out.ha (by omega)
          obtain rfl := T4.ha (by omega)
          have y0 := cellB hBr ((BR.out.bel hB4).c0 j hjl)
          have x0 := cellB hBr (T4.c0 j hjl)
          have x1 := cellB hBr (T4.c1 j hjl)
          rw [Nat.zero_add] at x0 x1
          have q0 := cellB hBr (bo4.c 0 _ rfl)
          have q1 := cellB hBr (bo4.c 1 _ rfl)
          have hstep := leastK_succ F (fun i => R i && decide (S i ≤ V')) j
          cases hr : R j with
          | false =>
            rw [hr] at y0
            rw [if_neg (fun q => by have := q.1; simp [hr] at this)] at hstep
            obtain ⟨K0, hK0⟩ : ∃ K0, leastK F (fun i => R i && decide (S i ≤ V')) j = K0 := ⟨_, rfl⟩
            rw [hK0] at hstep ⊢
            replace hstep := Lib.hid hstep
            clear hr hK0 hlj
            go_wp2_with fail
            go_big_quiet (fail)
            go_wp2_with fail
            go_roundw
            case rel => exact ⟨j + 1, by omega, by rw [hstep.out], by go_num, bDrew hBr nq⟩
            case measure => simp [intOf]; omega
          | true =>
            rw [hr] at y0
            by_cases hs : S j ≤ V'
            · have hm : (R j && decide (S j ≤ V')) = true := by rw [hr, decide_eq_true hs]; rfl
              by_cases hneg : leastK F (fun i => R i && decide (S i ≤ V')) j < 0
              · rw [if_pos ⟨hm, .inl hneg⟩] at hstep
                obtain ⟨K0, hK0⟩ : ∃ K0, leastK F (fun i => R i && decide (S i ≤ V')) j = K0 := ⟨_, rfl⟩
                rw [hK0] at hneg ⊢
                replace hstep := Lib.hid hstep
                clear hr hm hK0 hlj
                go_wp2_with fail
                go_big_quiet (fail)
                go_wp2_with fail
                go_roundw
                case rel => exact ⟨j + 1, by omega, by rw [hstep.out], by go_num, bDrew hBr nq⟩
                case measure => simp [intOf]; omega
              · obtain ⟨k0, hk0, hk0l⟩ : ∃ k0 : Nat, leastK F (fun i => R i && decide (S i ≤ V')) j = (k0 : Int) ∧ k0 < j := ⟨(leastK F (fun i => R i && decide (S i ≤ V')) j).toNat, by omega, by omega⟩
                rw [hk0] at hneg hstep ⊢
                rw [Int.toNat_natCast] at hstep
                have hk0z : (k0 : Int) < (kk : Int) := by omega
                have hd0 : decide ((k0 : Int) < 0) = false := by simp
                have z1 := cellB hBr (T4.c1 k0 (by omega))
                rw [Nat.zero_add] at z1
                by_cases hF : F j < F k0
                · rw [if_pos ⟨hm, .inr hF⟩] at hstep
                  replace hstep := Lib.hid hstep
                  clear hr hm hlj hk0
                  go_upto_region 17 with fail
                  refine wp_region_noPanic ?_
                  refine Stg.wp_region_L [] (Vr.SB wr) (by kernel_rfl) (fun _ => (Below.refl _ _).drew) (fun hHeld => ?_)
                  refine Stg.wpAnyL_start (n' := 34) (l' := #[false, false, false, false, false, false, false, false, false, false, false, false, false, false, false, false, false, false, false, false, false, false, false, false, false, false, false, false, false, false, false, false, false, false]) (by kernel_rfl) (by kernel_rfl) ?_
                  refine Stg.wpAnyL_take (i := 0) (v := ?_) [2, 3, 4, 5, 6, 7, 8, 9, 10, 11, 12, 13, 14, 15, 16, 17, 18, 19, 20, 21, 22, 23, 24, 25, 26, 27, 28, 29, 30, 31, 32, 33] 0 rfl (by kernel_rfl) (by kernel_rfl) (by kernel_rfl) (by kernel_rfl) (by kernel_rfl) (fun _ _ _ h => h) (Or.inl ⟨by kernel_rfl, ?_⟩) (by assumption) ?_
                  rotate_left
                  · intro u hSu
                    skip
                    try simp only [List.getElem_toArray, List.getElem_cons_succ, List.getElem_cons_zero]
                    go_simp
                    try with_reducible rfl
                  try simp only [Act.put, List.setIfInBounds_toArray, List.set_cons_zero, List.set_cons_succ]
                  refine Stg.wpAnyL_take (i := 1) (v := ?_) [2, 3, 4, 5, 6, 7, 8, 9, 10, 11, 12, 13, 14, 15, 16, 17, 18, 19, 20, 21, 22, 23, 24, 25, 26, 27, 28, 29, 30, 31, 32, 33] 0 rfl (by kernel_rfl) (by kernel_rfl) (by kernel_rfl) (by kernel_rfl) (by kernel_rfl) (fun _ _ _ h => h) (Or.inl ⟨by kernel_rfl, ?_⟩) (by assumption) ?_
                  rotate_left
                  · intro u hSu
                    skip
                    try simp only [List.getElem_toArray, List.getElem_cons_succ, List.getElem_cons_zero]
                    go_simp
                    try with_reducible rfl
                  try simp only [Act.put, List.setIfInBounds_toArray, List.set_cons_zero, List.set_cons_succ]
                  refine Stg.wpAnyL_take (i := 2) (v := ?_) [3, 4, 5, 6, 7, 8, 9, 10, 11, 12, 13, 14, 15, 16, 17, 18, 19, 20, 21, 22, 23, 24, 25, 26, 27, 28, 29, 30, 31, 32, 33] 0 rfl (by kernel_rfl) (by kernel_rfl) (by kernel_rfl) (by kernel_rfl) (by kernel_rfl) (fun _ _ _ h => h) (Or.inl ⟨by kernel_rfl, ?_⟩) (by assumption) ?_
                  rotate_left
                  · intro u hSu
                    skip
                    try simp only [List.getElem_toArray, List.getElem_cons_succ, List.getElem_cons_zero]
                    go_simp
                    try with_reducible rfl
                  try simp only [Act.put, List.setIfInBounds_toArray, List.set_cons_zero, List.set_cons_succ]
                  refine Stg.wpAnyL_start (n' := 31) (l' := #[true, true, true, false, false, false, false, false, false, false, false, false, false, false, false, false, false, false, false, false, false, false, false, false, false, false, false, false, false, false, false, false, false, false]) (by kernel_rfl) (by kernel_rfl) ?_
                  refine Stg.wpAnyL_take (i := 3) (v := ?_) [4, 5, 6, 7, 8, 9, 10, 11, 12, 13, 14, 15, 16, 17, 18, 19, 20, 21, 22, 23, 24, 25, 26, 27, 28, 29, 30, 31, 32, 33] 0 rfl (by kernel_rfl) (by kernel_rfl) (by kernel_rfl) (by kernel_rfl) (by kernel_rfl) (fun _ _ _ h => h) (Or.inl ⟨by kernel_rfl, ?_⟩) (by assumption) ?_
                  rotate_left
                  · intro u hSu
                    skip
                    have sB := hSu rfl
                    have y0 := cellB sB y0
                    have y1 := cellB sB x0
                    have y2 := cellB sB x1
                    have y3 := cellB sB q0
                    have y4 := cellB sB q1
                    have y5 := cellB sB z1
                    try simp only [List.getElem_toArray, List.getElem_cons_succ, List.getElem_cons_zero]
                    go_simp
                    try with_reducible rfl
                  try simp only [Act.put, List.setIfInBounds_toArray, List.set_cons_zero, List.set_cons_succ]
                  refine Stg.wpAnyL_take (i := 4) (v := ?_) [5, 6, 7, 8, 9, 10, 11, 12, 13, 14, 15, 16, 17, 18, 19, 20, 21, 22, 23, 24, 25, 26, 27, 28, 29, 30, 31, 32, 33] 0 rfl (by kernel_rfl) (by kernel_rfl) (by kernel_rfl) (by kernel_rfl) (by kernel_rfl) (fun _ _ _ h => h) (Or.inl ⟨by kernel_rfl, ?_⟩) (by assumption) ?_
                  rotate_left
                  · intro u hSu
                    skip
                    try simp only [List.getElem_toArray, List.getElem_cons_succ, List.getElem_cons_zero]
                    go_simp
                    try with_reducible rfl
                  try simp only [Act.put, List.setIfInBounds_toArray, List.set_cons_zero, List.set_cons_succ]
                  refine Stg.wpAnyL_take (i := 5) (v := ?_) [6, 8, 9, 10, 13, 14, 15, 16, 17, 18, 19, 20, 21, 22, 23, 24, 25, 26, 27, 28, 29, 30, 31, 32, 33] 0 rfl (by kernel_rfl) (by kernel_rfl) (by kernel_rfl) (by kernel_rfl) (by kernel_rfl) (fun _ _ _ h => h) (Or.inl ⟨by kernel_rfl, ?_⟩) (by assumption) ?_
                  rotate_left
                  · intro u hSu
                    skip
                    try simp only [List.getElem_toArray, List.getElem_cons_succ, List.getElem_cons_zero]
                    go_simp
                    try with_reducible rfl
                  try simp only [Act.put, List.setIfInBounds_toArray, List.set_cons_zero, List.set_cons_succ]
                  refine Stg.wpAnyL_start (n' := 28) (l' := #[true, true, true, true, true, true, false, false, false, false, false, false, false, false, false, false, false, false, false, false, false, false, false, false, false, false, false, false, false, false, false, false, false, false]) (by kernel_rfl) (by kernel_rfl) ?_
                  refine Stg.wpAnyL_take (i := 6) (v := ?_) [8, 9, 10, 13, 14, 15, 16, 17, 18, 19, 20, 21, 22, 23, 24, 25, 26, 27, 28, 29, 30, 31, 32, 33] 0 rfl (by kernel_rfl) (by kernel_rfl) (by kernel_rfl) (by kernel_rfl) (by kernel_rfl) (fun _ _ _ h => h) (Or.inl ⟨by kernel_rfl, ?_⟩) (by assumption) ?_
                  rotate_left
                  · intro u hSu
                    skip
                    have sB := hSu rfl
                    have y0 := cellB sB y0
                    have y1 := cellB sB x0
                    have y2 := cellB sB x1
                    have y3 := cellB sB q0
                    have y4 := cellB sB q1
                    have y5 := cellB sB z1
                    try simp only [List.getElem_toArray, List.getElem_cons_succ, List.getElem_cons_zero]
                    go_simp
                    try with_reducible rfl
                  try simp only [Act.put, List.setIfInBounds_toArray, List.set_cons_zero, List.set_cons_succ]
                  refine Stg.wpAnyL_take (i := 7) (v := ?_) [8, 9, 10, 13, 14, 15, 16, 17, 18, 19, 20, 21, 22, 23, 24, 25, 26, 27, 28, 29, 30, 31, 32, 33] 0 rfl (by kernel_rfl) (by kernel_rfl) (by kernel_rfl) (by kernel_rfl) (by kernel_rfl) (fun _ _ _ h => h) (Or.inl ⟨by kernel_rfl, ?_⟩) (by assumption) ?_
                  rotate_left
                  · intro u hSu
                    skip
                    try simp only [List.getElem_toArray, List.getElem_cons_succ, List.getElem_cons_zero]
                    go_simp
                    try with_reducible rfl
                  try simp only [Act.put, List.setIfInBounds_toArray, List.set_cons_zero, List.set_cons_succ]
                  refine Stg.wpAnyL_take (i := 8) (v := ?_) [9, 10, 13, 14, 15, 16, 17, 18, 19, 20, 21, 22, 23, 24, 25, 26, 27, 28, 29, 30, 31, 32, 33] 0 rfl (by kernel_rfl) (by kernel_rfl) (by kernel_rfl) (by kernel_rfl) (by kernel_rfl) (fun _ _ _ h => h) (Or.inl ⟨by kernel_rfl, ?_⟩) (by assumption) ?_
                  rotate_left
                  · intro u hSu
                    skip
                    try simp only [List.getElem_toArray, List.getElem_cons_succ, List.getElem_cons_zero]
                    go_simp
                    try with_reducible rfl
                  try simp only [Act.put, List.setIfInBounds_toArray, List.set_cons_zero, List.set_cons_succ]
                  refine Stg.wpAnyL_start (n' := 25) (l' := #[true, true, true, true, true, true, true, true, true, false, false, false, false, false, false, false, false, false, false, false, false, false, false, false, false, false, false, false, false, false, false, false, false, false]) (by kernel_rfl) (by kernel_rfl) ?_
                  refine Stg.wpAnyL_take (i := 9) (v := ?_) [10, 13, 14, 15, 16, 17, 18, 19, 20, 21, 22, 23, 24, 25, 26, 27, 28, 29, 30, 31, 32, 33] 0 rfl (by kernel_rfl) (by kernel_rfl) (by kernel_rfl) (by kernel_rfl) (by kernel_rfl) (fun _ _ _ h => h) (Or.inl ⟨by kernel_rfl, ?_⟩) (by assumption) ?_
                  rotate_left
                  · intro u hSu
                    skip
                    try simp only [List.getElem_toArray, List.getElem_cons_succ, List.getElem_cons_zero]
                    go_simp
                    try with_reducible rfl
                  try simp only [Act.put, List.setIfInBounds_toArray, List.set_cons_zero, List.set_cons_succ]
                  refine Stg.wpAnyL_take (i := 10) (v := ?_) [13, 14, 15, 16, 17, 18, 19, 20, 21, 22, 23, 24, 25, 26, 27, 28, 29, 30, 31, 32, 33] 0 rfl (by kernel_rfl) (by kernel_rfl) (by kernel_rfl) (by kernel_rfl) (by kernel_rfl) (fun _ _ _ h => h) (Or.inl ⟨by kernel_rfl, ?_⟩) (by assumption) ?_
                  rotate_left
                  · intro u hSu
                    skip
                    have sB := hSu rfl
                    have y0 := cellB sB y0
                    have y1 := cellB sB x0
                    have y2 := cellB sB x1
                    have y3 := cellB sB q0
                    have y4 := cellB sB q1
                    have y5 := cellB sB z1
                    try simp only [List.getElem_toArray, List.getElem_cons_succ, List.getElem_cons_zero]
                    go_simp
                    try with_reducible rfl
                  try simp only [Act.put, List.setIfInBounds_toArray, List.set_cons_zero, List.set_cons_succ]
                  refine Stg.wpAnyL_take (i := 11) (v := ?_) [12, 13, 14, 15, 16, 17, 18, 19, 20, 21, 22, 23, 24, 25, 26, 27, 28, 29, 30, 31, 32, 33] 0 rfl (by kernel_rfl) (by kernel_rfl) (by kernel_rfl) (by kernel_rfl) (by kernel_rfl) (fun _ _ _ h => h) (Or.inl ⟨by kernel_rfl, ?_⟩) (by assumption) ?_
                  rotate_left
                  · intro u hSu
                    skip
                    try simp only [List.getElem_toArray, List.getElem_cons_succ, List.getElem_cons_zero]
                    go_simp
                    try with_reducible rfl
                  try simp only [Act.put, List.setIfInBounds_toArray, List.set_cons_zero, List.set_cons_succ]
                  refine Stg.wpAnyL_start (n' := 22) (l' := #[true, true, true, true, true, true, true, true, true, true, true, true, false, false, false, false, false, false, false, false, false, false, false, false, false, false, false, false, false, false, false, false, false, false]) (by kernel_rfl) (by kernel_rfl) ?_
                  refine Stg.wpAnyL_take (i := 12) (v := ?_) [13, 14, 15, 16, 17, 18, 19, 20, 21, 22, 23, 24, 25, 26, 27, 28, 29, 30, 31, 32, 33] 0 rfl (by kernel_rfl) (by kernel_rfl) (by kernel_rfl) (by kernel_rfl) (by kernel_rfl) (fun _ _ _ h => h) (Or.inl ⟨by kernel_rfl, ?_⟩) (by assumption) ?_
                  rotate_left
                  · intro u hSu
                    skip
                    have sB := hSu rfl
                    have y0 := cellB sB y0
                    have y1 := cellB sB x0
                    have y2 := cellB sB x1
                    have y3 := cellB sB q0
                    have y4 := cellB sB q1
                    have y5 := cellB sB z1
                    try simp only [List.getElem_toArray, List.getElem_cons_succ, List.getElem_cons_zero]
                    go_simp
                    try with_reducible rfl
                  try simp only [Act.put, List.setIfInBounds_toArray, List.set_cons_zero, List.set_cons_succ]
                  refine Stg.wpAnyL_take (i := 13) (v := ?_) [14, 15, 16, 17, 18, 19, 20, 21, 22, 23, 24, 25, 26, 27, 28, 29, 30, 31, 32, 33] 0 rfl (by kernel_rfl) (by kernel_rfl) (by kernel_rfl) (by kernel_rfl) (by kernel_rfl) (fun _ _ _ h => h) (Or.inl ⟨by kernel_rfl, ?_⟩) (by assumption) ?_
                  rotate_left
                  · intro u hSu
                    skip
                    try simp only [List.getElem_toArray, List.getElem_cons_succ, List.getElem_cons_zero]
                    go_simp
                    try with_reducible rfl
                  try simp only [Act.put, List.setIfInBounds_toArray, List.set_cons_zero, List.set_cons_succ]
                  refine Stg.wpAnyL_take (i := 14) (v := ?_) [15, 16, 17, 18, 19, 20, 21, 22, 23, 24, 25, 26, 27, 28, 29, 30, 31, 32, 33] 0 rfl (by kernel_rfl) (by kernel_rfl) (by kernel_rfl) (by kernel_rfl) (by kernel_rfl) (fun _ _ _ h => h) (Or.inl ⟨by kernel_rfl, ?_⟩) (by assumption) ?_
                  rotate_left
                  · intro u hSu
                    skip
                    try simp only [List.getElem_toArray, List.getElem_cons_succ, List.getElem_cons_zero]
                    go_simp
                    try with_reducible rfl
                  try simp only [Act.put, List.setIfInBounds_toArray, List.set_cons_zero, List.set_cons_succ]
                  refine Stg.wpAnyL_start (n' := 19) (l' := #[true, true, true, true, true, true, true, true, true, true, true, true, true, true, true, false, false, false, false, false, false, false, false, false, false, false, false, false, false, false, false, false, false, false]) (by kernel_rfl) (by kernel_rfl) ?_
                  refine Stg.wpAnyL_take (i := 15) (v := ?_) [16, 17, 18, 19, 20, 21, 22, 23, 24, 25, 26, 27, 28, 29, 30, 31, 32, 33] 0 rfl (by kernel_rfl) (by kernel_rfl) (by kernel_rfl) (by kernel_rfl) (by kernel_rfl) (fun _ _ _ h => h) (Or.inl ⟨by kernel_rfl, ?_⟩) (by assumption) ?_
                  rotate_left
                  · intro u hSu
                    skip
                    try simp only [List.getElem_toArray, List.getElem_cons_succ, List.getElem_cons_zero]
                    go_simp
                    try with_reducible rfl
                  try simp only [Act.put, List.setIfInBounds_toArray, List.set_cons_zero, List.set_cons_succ]
                  refine Stg.wpAnyL_take (i := 16) (v := ?_) [17, 18, 19, 20, 21, 22, 23, 24, 25, 26, 27, 28, 29, 30, 31, 32, 33] 0 rfl (by kernel_rfl) (by kernel_rfl) (by kernel_rfl) (by kernel_rfl) (by kernel_rfl) (fun _ _ _ h => h) (Or.inl ⟨by kernel_rfl, ?_⟩) (by assumption) ?_
                  rotate_left
                  · intro u hSu
                    skip
                    try simp only [List.getElem_toArray, List.getElem_cons_succ, List.getElem_cons_zero]
                    go_simp
                    try with_reducible rfl
                  try simp only [Act.put, List.setIfInBounds_toArray, List.set_cons_zero, List.set_cons_succ]
                  refine Stg.wpAnyL_take (i := 17) (v := ?_) [18, 19, 20, 21, 22, 23, 24, 25, 26, 27, 28, 29, 30, 31, 32, 33] 0 rfl (by kernel_rfl) (by kernel_rfl) (by kernel_rfl) (by kernel_rfl) (by kernel_rfl) (fun _ _ _ h => h) (Or.inl ⟨by kernel_rfl, ?_⟩) (by assumption) ?_
                  rotate_left
                  · intro u hSu
                    skip
                    try simp only [List.getElem_toArray, List.getElem_cons_succ, List.getElem_cons_zero]
                    go_simp
                    try with_reducible rfl
                  try simp only [Act.put, List.setIfInBounds_toArray, List.set_cons_zero, List.set_cons_succ]
                  refine Stg.wpAnyL_start (n' := 16) (l' := #[true, true, true, true, true, true, true, true, true, true, true, true, true, true, true, true, true, true, false, false, false, false, false, false, false, false, false, false, false, false, false, false, false, false]) (by kernel_rfl) (by kernel_rfl) ?_
                  refine Stg.wpAnyL_take (i := 18) (v := ?_) [19, 20, 21, 22, 23, 24, 25, 26, 27, 28, 29, 30, 31, 32, 33] 0 rfl (by kernel_rfl) (by kernel_rfl) (by kernel_rfl) (by kernel_rfl) (by kernel_rfl) (fun _ _ _ h => h) (Or.inl ⟨by kernel_rfl, ?_⟩) (by assumption) ?_
                  rotate_left
                  · intro u hSu
                    skip
                    try simp only [List.getElem_toArray, List.getElem_cons_succ, List.getElem_cons_zero]
                    go_simp
                    try with_reducible rfl
                  try simp only [Act.put, List.setIfInBounds_toArray, List.set_cons_zero, List.set_cons_succ]
                  refine Stg.wpAnyL_take (i := 19) (v := ?_) [20, 22, 23, 24, 31, 32, 33] 0 rfl (by kernel_rfl) (by kernel_rfl) (by kernel_rfl) (by kernel_rfl) (by kernel_rfl) (fun _ _ _ h => h) (Or.inl ⟨by kernel_rfl, ?_⟩) (by assumption) ?_
                  rotate_left
                  · intro u hSu
                    skip
                    try simp only [List.getElem_toArray, List.getElem_cons_succ, List.getElem_cons_zero]
                    go_simp
                    try with_reducible rfl
                  try simp only [Act.put, List.setIfInBounds_toArray, List.set_cons_zero, List.set_cons_succ]
                  refine Stg.wpAnyL_take (i := 20) (v := ?_) [22, 23, 24, 31, 32, 33] 0 rfl (by kernel_rfl) (by kernel_rfl) (by kernel_rfl) (by kernel_rfl) (by kernel_rfl) (fun _ _ _ h => h) (Or.inl ⟨by kernel_rfl, ?_⟩) (by assumption) ?_
                  rotate_left
                  · intro u hSu
                    skip
                    have sB := hSu rfl
                    have y0 := cellB sB y0
                    have y1 := cellB sB x0
                    have y2 := cellB sB x1
                    have y3 := cellB sB q0
                    have y4 := cellB sB q1
                    have y5 := cellB sB z1
                    try simp only [List.getElem_toArray, List.getElem_cons_succ, List.getElem_cons_zero]
                    go_simp
                    try with_reducible rfl
                  try simp only [Act.put, List.setIfInBounds_toArray, List.set_cons_zero, List.set_cons_succ]
                  refine Stg.wpAnyL_start (n' := 13) (l' := #[true, true, true, true, true, true, true, true, true, true, true, true, true, true, true, true, true, true, true, true, true, false, false, false, false, false, false, false, false, false, false, false, false, false]) (by kernel_rfl) (by kernel_rfl) ?_
                  refine Stg.wpAnyL_take (i := 21) (v := ?_) [22, 23, 24, 31, 32, 33] 0 rfl (by kernel_rfl) (by kernel_rfl) (by kernel_rfl) (by kernel_rfl) (by kernel_rfl) (fun _ _ _ h => h) (Or.inl ⟨by kernel_rfl, ?_⟩) (by assumption) ?_
                  rotate_left
                  · intro u hSu
                    skip
                    try simp only [List.getElem_toArray, List.getElem_cons_succ, List.getElem_cons_zero]
                    go_simp
                    try with_reducible rfl
                  try simp only [Act.put, List.setIfInBounds_toArray, List.set_cons_zero, List.set_cons_succ]
                  refine Stg.wpAnyL_take (i := 22) (v := ?_) [23, 24, 31, 32, 33] 0 rfl (by kernel_rfl) (by kernel_rfl) (by kernel_rfl) (by kernel_rfl) (by kernel_rfl) (fun _ _ _ h => h) (Or.inl ⟨by kernel_rfl, ?_⟩) (by assumption) ?_
                  rotate_left
                  · intro u hSu
                    skip
                    try simp only [List.getElem_toArray, List.getElem_cons_succ, List.getElem_cons_zero]
                    go_simp
                    try with_reducible rfl
                  try simp only [Act.put, List.setIfInBounds_toArray, List.set_cons_zero, List.set_cons_succ]
                  refine Stg.wpAnyL_take (i := 23) (v := ?_) [24, 31, 32, 33] 0 rfl (by kernel_rfl) (by kernel_rfl) (by kernel_rfl) (by kernel_rfl) (by kernel_rfl) (fun _ _ _ h => h) (Or.inl ⟨by kernel_rfl, ?_⟩) (by assumption) ?_
                  rotate_left
                  · intro u hSu
                    skip
                    try simp only [List.getElem_toArray, List.getElem_cons_succ, List.getElem_cons_zero]
                    go_simp
                    try with_reducible rfl
                  try simp only [Act.put, List.setIfInBounds_toArray, List.set_cons_zero, List.set_cons_succ]
                  refine Stg.wpAnyL_start (n' := 10) (l' := #[true, true, true, true, true, true, true, true, true, true, true, true, true, true, true, true, true, true, true, true, true, true, true, true, false, false, false, false, false, false, false, false, false, false]) (by kernel_rfl) (by kernel_rfl) ?_
                  refine Stg.wpAnyL_take (i := 24) (v := ?_) [31, 32, 33] 0 rfl (by kernel_rfl) (by kernel_rfl) (by kernel_rfl) (by kernel_rfl) (by kernel_rfl) (fun _ _ _ h => h) (Or.inl ⟨by kernel_rfl, ?_⟩) (by assumption) ?_
                  rotate_left
                  · intro u hSu
                    skip
                    have sB := hSu rfl
                    have y0 := cellB sB y0
                    have y1 := cellB sB x0
                    have y2 := cellB sB x1
                    have y3 := cellB sB q0
                    have y4 := cellB sB q1
                    have y5 := cellB sB z1
                    try simp only [List.getElem_toArray, List.getElem_cons_succ, List.getElem_cons_zero]
                    go_simp
                    try with_reducible rfl
                  try simp only [Act.put, List.setIfInBounds_toArray, List.set_cons_zero, List.set_cons_succ]
                  refine Stg.wpAnyL_take (i := 25) (v := ?_) [26, 28, 29, 30, 31, 32, 33] 0 rfl (by kernel_rfl) (by kernel_rfl) (by kernel_rfl) (by kernel_rfl) (by kernel_rfl) (fun _ _ _ h => h) (Or.inl ⟨by kernel_rfl, ?_⟩) (by assumption) ?_
                  rotate_left
                  · intro u hSu
                    skip
                    try simp only [List.getElem_toArray, List.getElem_cons_succ, List.getElem_cons_zero]
                    go_simp
                    try with_reducible rfl
                  try simp only [Act.put, List.setIfInBounds_toArray, List.set_cons_zero, List.set_cons_succ]
                  refine Stg.wpAnyL_take (i := 26) (v := ?_) [28, 29, 30, 31, 32, 33] 0 rfl (by kernel_rfl) (by kernel_rfl) (by kernel_rfl) (by kernel_rfl) (by kernel_rfl) (fun _ _ _ h => h) (Or.inl ⟨by kernel_rfl, ?_⟩) (by assumption) ?_
                  rotate_left
                  · intro u hSu
                    skip
                    have sB := hSu rfl
                    have y0 := cellB sB y0
                    have y1 := cellB sB x0
                    have y2 := cellB sB x1
                    have y3 := cellB sB q0
                    have y4 := cellB sB q1
                    have y5 := cellB sB z1
                    try simp only [List.getElem_toArray, List.getElem_cons_succ, List.getElem_cons_zero]
                    go_simp
                    try with_reducible rfl
                  try simp only [Act.put, List.setIfInBounds_toArray, List.set_cons_zero, List.set_cons_succ]
                  refine Stg.wpAnyL_start (n' := 7) (l' := #[true, true, true, true, true, true, true, true, true, true, true, true, true, true, true, true, true, true, true, true, true, true, true, true, true, true, true, false, false, false, false, false, false, false]) (by kernel_rfl) (by kernel_rfl) ?_
                  refine Stg.wpAnyL_take (i := 27) (v := ?_) [28, 29, 30, 31, 32, 33] 0 rfl (by kernel_rfl) (by kernel_rfl) (by kernel_rfl) (by kernel_rfl) (by kernel_rfl) (fun _ _ _ h => h) (Or.inl ⟨by kernel_rfl, ?_⟩) (by assumption) ?_
                  rotate_left
                  · intro u hSu
                    skip
                    try simp only [List.getElem_toArray, List.getElem_cons_succ, List.getElem_cons_zero]
                    go_simp
                    try with_reducible rfl
                  try simp only [Act.put, List.setIfInBounds_toArray, List.set_cons_zero, List.set_cons_succ]
                  refine Stg.wpAnyL_take (i := 28) (v := ?_) [29, 30, 31, 32, 33] 0 rfl (by kernel_rfl) (by kernel_rfl) (by kernel_rfl) (by kernel_rfl) (by kernel_rfl) (fun _ _ _ h => h) (Or.inl ⟨by kernel_rfl, ?_⟩) (by assumption) ?_
                  rotate_left
                  · intro u hSu
                    skip
                    try simp only [List.getElem_toArray, List.getElem_cons_succ, List.getElem_cons_zero]
                    go_simp
                    try with_reducible rfl
                  try simp only [Act.put, List.setIfInBounds_toArray, List.set_cons_zero, List.set_cons_succ]
                  refine Stg.wpAnyL_take (i := 29) (v := ?_) [30, 31, 32, 33] 0 rfl (by kernel_rfl) (by kernel_rfl) (by kernel_rfl) (by kernel_rfl) (by kernel_rfl) (fun _ _ _ h => h) (Or.inl ⟨by kernel_rfl, ?_⟩) (by assumption) ?_
                  rotate_left
                  · intro u hSu
                    skip
                    try simp only [List.getElem_toArray, List.getElem_cons_succ, List.getElem_cons_zero]
                    go_simp
                    try with_reducible rfl
                  try simp only [Act.put, List.setIfInBounds_toArray, List.set_cons_zero, List.set_cons_succ]
                  refine Stg.wpAnyL_start (n' := 4) (l' := #[true, true, true, true, true, true, true, true, true, true, true, true, true, true, true, true, true, true, true, true, true, true, true, true, true, true, true, true, true, true, false, false, false, false]) (by kernel_rfl) (by kernel_rfl) ?_
                  refine Stg.wpAnyL_take (i := 30) (v := ?_) [31, 32, 33] 0 rfl (by kernel_rfl) (by kernel_rfl) (by kernel_rfl) (by kernel_rfl) (by kernel_rfl) (fun _ _ _ h => h) (Or.inl ⟨by kernel_rfl, ?_⟩) (by assumption) ?_
                  rotate_left
                  · intro u hSu
                    skip
                    have sB := hSu rfl
                    have y0 := cellB sB y0
                    have y1 := cellB sB x0
                    have y2 := cellB sB x1
                    have y3 := cellB sB q0
                    have y4 := cellB sB q1
                    have y5 := cellB sB z1
                    try simp only [List.getElem_toArray, List.getElem_cons_succ, List.getElem_cons_zero]
                    go_simp
                    try with_reducible rfl
                  try simp only [Act.put, List.setIfInBounds_toArray, List.set_cons_zero, List.set_cons_succ]
                  refine Stg.wpAnyL_take (i := 31) (v := ?_) [32, 33] 0 rfl (by kernel_rfl) (by kernel_rfl) (by kernel_rfl) (by kernel_rfl) (by kernel_rfl) (fun _ _ _ h => h) (Or.inl ⟨by kernel_rfl, ?_⟩) (by assumption) ?_
                  rotate_left
                  · intro u hSu
                    skip
                    try simp only [List.getElem_toArray, List.getElem_cons_succ, List.getElem_cons_zero]
                    go_simp
                    try with_reducible rfl
                  try simp only [Act.put, List.setIfInBounds_toArray, List.set_cons_zero, List.set_cons_succ]
                  refine Stg.wpAnyL_take (i := 32) (v := ?_) [33] 0 rfl (by kernel_rfl) (by kernel_rfl) (by kernel_rfl) (by kernel_rfl) (by kernel_rfl) (fun _ _ _ h => h) (Or.inl ⟨by kernel_rfl, ?_⟩) (by assumption) ?_
                  rotate_left
                  · intro u hSu
                    skip
                    try simp only [List.getElem_toArray, List.getElem_cons_succ, List.getElem_cons_zero]
                    go_simp
                    try with_reducible rfl
                  try simp only [Act.put, List.setIfInBounds_toArray, List.set_cons_zero, List.set_cons_succ]
                  refine Stg.wpAnyL_start (n' := 1) (l' := #[true, true, true, true, true, true, true, true, true, true, true, true, true, true, true, true, true, true, true, true, true, true, true, true, true, true, true, true, true, true, true, true, true, false]) (by kernel_rfl) (by kernel_rfl) ?_
                  refine Stg.wpAnyL_take (i := 33) (v := ?_) [] 0 rfl (by kernel_rfl) (by kernel_rfl) (by kernel_rfl) (by kernel_rfl) (by kernel_rfl) (fun _ _ _ h => h) (Or.inl ⟨by kernel_rfl, ?_⟩) (by assumption) ?_
                  rotate_left
                  · intro u hSu
                    skip
                    try simp only [List.getElem_toArray, List.getElem_cons_succ, List.getElem_cons_zero]
                    go_simp
                    try with_reducible rfl
                  try simp only [Act.put, List.setIfInBounds_toArray, List.set_cons_zero, List.set_cons_succ]
                  refine Stg.wpAnyL_done (by kernel_rfl) ?_ _
                  try simp only [List.getElem_toArray, List.getElem_cons_succ, List.getElem_cons_zero]
                  try simp only [Act.put, List.setIfInBounds_toArray, List.set_cons_zero, List.set_cons_succ]
                  refine NoPanic.normal ?_
                  go_wp2_with fail
                  go_roundw
                  case rel => exact ⟨j + 1, by omega, by rw [hstep.out], by go_num, bNext hBr (hHeld rfl) (Nat.le_refl _)⟩
                  case measure => simp [intOf]; omega
                · rw [if_neg (fun q => by rcases q.2 with q | q; exact hneg q; exact hF q)] at hstep
                  replace hstep := Lib.hid hstep
                  clear hr hm hlj hk0
                  go_upto_region 17 with fail
                  refine wp_region_noPanic ?_
                  refine Stg.wp_region_L [] (Vr.SB wr) (by kernel_rfl) (fun _ => (Below.refl _ _).drew) (fun hHeld => ?_)
                  refine Stg.wpAnyL_start (n' := 34) (l' := #[false, false, false, false, false, false, false, false, false, false, false, false, false, false, false, false, false, false, false, false, false, false, false, false, false, false, false, false, false, false, false, false, false, false]) (by kernel_rfl) (by kernel_rfl) ?_
                  refine Stg.wpAnyL_take (i := 0) (v := ?_) [2, 3, 4, 5, 6, 7, 8, 9, 10, 11, 12, 13, 14, 15, 16, 17, 18, 19, 20, 21, 22, 23, 24, 25, 26, 27, 28, 29, 30, 31, 32, 33] 0 rfl (by kernel_rfl) (by kernel_rfl) (by kernel_rfl) (by kernel_rfl) (by kernel_rfl) (fun _ _ _ h => h) (Or.inl ⟨by kernel_rfl, ?_⟩) (by assumption) ?_
                  rotate_left
                  · intro u hSu
                    skip
                    try simp only [List.getElem_toArray, List.getElem_cons_succ, List.getElem_cons_zero]
                    go_simp
                    try with_reducible rfl
                  try simp only [Act.put, List.setIfInBounds_toArray, List.set_cons_zero, List.set_cons_succ]
                  refine Stg.wpAnyL_take (i := 1) (v := ?_) [2, 3, 4, 5, 6, 7, 8, 9, 10, 11, 12, 13, 14, 15, 16, 17, 18, 19, 20, 21, 22, 23, 24, 25, 26, 27, 28, 29, 30, 31, 32, 33] 0 rfl (by kernel_rfl) (by kernel_rfl) (by kernel_rfl) (by kernel_rfl) (by kernel_rfl) (fun _ _ _ h => h) (Or.inl ⟨by kernel_rfl, ?_⟩) (by assumption) ?_
                  rotate_left
                  · intro u hSu
                    skip
                    try simp only [List.getElem_toArray, List.getElem_cons_succ, List.getElem_cons_zero]
                    go_simp
                    try with_reducible rfl
                  try simp only [Act.put, List.setIfInBounds_toArray, List.set_cons_zero, List.set_cons_succ]
                  refine Stg.wpAnyL_take (i := 2) (v := ?_) [3, 4, 5, 6, 7, 8, 9, 10, 11, 12, 13, 14, 15, 16, 17, 18, 19, 20, 21, 22, 23, 24, 25, 26, 27, 28, 29, 30, 31, 32, 33] 0 rfl (by kernel_rfl) (by kernel_rfl) (by kernel_rfl) (by kernel_rfl) (by kernel_rfl) (fun _ _ _ h => h) (Or.inl ⟨by kernel_rfl, ?_⟩) (by assumption) ?_
                  rotate_left
                  · intro u hSu
                    skip
                    try simp only [List.getElem_toArray, List.getElem_cons_succ, List.getElem_cons_zero]
                    go_simp
                    try with_reducible rfl
                  try simp only [Act.put, List.setIfInBounds_toArray, List.set_cons_zero, List.set_cons_succ]
                  refine Stg.wpAnyL_start (n' := 31) (l' := #[true, true, true, false, false, false, false, false, false, false, false, false, false, false, false, false, false, false, false, false, false, false, false, false, false, false, false, false, false, false, false, false, false, false]) (by kernel_rfl) (by kernel_rfl) ?_
                  refine Stg.wpAnyL_take (i := 3) (v := ?_) [4, 5, 6, 7, 8, 9, 10, 11, 12, 13, 14, 15, 16, 17, 18, 19, 20, 21, 22, 23, 24, 25, 26, 27, 28, 29, 30, 31, 32, 33] 0 rfl (by kernel_rfl) (by kernel_rfl) (by kernel_rfl) (by kernel_rfl) (by kernel_rfl) (fun _ _ _ h => h) (Or.inl ⟨by kernel_rfl, ?_⟩) (by assumption) ?_
                  rotate_left
                  · intro u hSu
                    skip
                    have sB := hSu rfl
                    have y0 := cellB sB y0
                    have y1 := cellB sB x0
                    have y2 := cellB sB x1
                    have y3 := cellB sB q0
                    have y4 := cellB sB q1
                    have y5 := cellB sB z1
                    try simp only [List.getElem_toArray, List.getElem_cons_succ, List.getElem_cons_zero]
                    go_simp
                    try with_reducible rfl
                  try simp only [Act.put, List.setIfInBounds_toArray, List.set_cons_zero, List.set_cons_succ]
                  refine Stg.wpAnyL_take (i := 4) (v := ?_) [5, 6, 7, 8, 9, 10, 11, 12, 13, 14, 15, 16, 17, 18, 19, 20, 21, 22, 23, 24, 25, 26, 27, 28, 29, 30, 31, 32, 33] 0 rfl (by kernel_rfl) (by kernel_rfl) (by kernel_rfl) (by kernel_rfl) (by kernel_rfl) (fun _ _ _ h => h) (Or.inl ⟨by kernel_rfl, ?_⟩) (by assumption) ?_
                  rotate_left
                  · intro u hSu
                    skip
                    try simp only [List.getElem_toArray, List.getElem_cons_succ, List.getElem_cons_zero]
                    go_simp
                    try with_reducible rfl
                  try simp only [Act.put, List.setIfInBounds_toArray, List.set_cons_zero, List.set_cons_succ]
                  refine Stg.wpAnyL_take (i := 5) (v := ?_) [6, 8, 9, 10, 13, 14, 15, 16, 17, 18, 19, 20, 21, 22, 23, 24, 25, 26, 27, 28, 29, 30, 31, 32, 33] 0 rfl (by kernel_rfl) (by kernel_rfl) (by kernel_rfl) (by kernel_rfl) (by kernel_rfl) (fun _ _ _ h => h) (Or.inl ⟨by kernel_rfl, ?_⟩) (by assumption) ?_
                  rotate_left
                  · intro u hSu
                    skip
                    try simp only [List.getElem_toArray, List.getElem_cons_succ, List.getElem_cons_zero]
                    go_simp
                    try with_reducible rfl
                  try simp only [Act.put, List.setIfInBounds_toArray, List.set_cons_zero, List.set_cons_succ]
                  refine Stg.wpAnyL_start (n' := 28) (l' := #[true, true, true, true, true, true, false, false, false, false, false, false, false, false, false, false, false, false, false, false, false, false, false, false, false, false, false, false, false, false, false, false, false, false]) (by kernel_rfl) (by kernel_rfl) ?_
                  refine Stg.wpAnyL_take (i := 6) (v := ?_) [8, 9, 10, 13, 14, 15, 16, 17, 18, 19, 20, 21, 22, 23, 24, 25, 26, 27, 28, 29, 30, 31, 32, 33] 0 rfl (by kernel_rfl) (by kernel_rfl) (by kernel_rfl) (by kernel_rfl) (by kernel_rfl) (fun _ _ _ h => h) (Or.inl ⟨by kernel_rfl, ?_⟩) (by assumption) ?_
                  rotate_left
                  · intro u hSu
                    skip
                    have sB := hSu rfl
                    have y0 := cellB sB y0
                    have y1 := cellB sB x0
                    have y2 := cellB sB x1
                    have y3 := cellB sB q0
                    have y4 := cellB sB q1
                    have y5 := cellB sB z1
                    try simp only [List.getElem_toArray, List.getElem_cons_succ, List.getElem_cons_zero]
                    go_simp
                    try with_reducible rfl
                  try simp only [Act.put, List.setIfInBounds_toArray, List.set_cons_zero, List.set_cons_succ]
                  refine Stg.wpAnyL_take (i := 7) (v := ?_) [8, 9, 10, 13, 14, 15, 16, 17, 18, 19, 20, 21, 22, 23, 24, 25, 26, 27, 28, 29, 30, 31, 32, 33] 0 rfl (by kernel_rfl) (by kernel_rfl) (by kernel_rfl) (by kernel_rfl) (by kernel_rfl) (fun _ _ _ h => h) (Or.inl ⟨by kernel_rfl, ?_⟩) (by assumption) ?_
                  rotate_left
                  · intro u hSu
                    skip
                    try simp only [List.getElem_toArray, List.getElem_cons_succ, List.getElem_cons_zero]
                    go_simp
                    try with_reducible rfl
                  try simp only [Act.put, List.setIfInBounds_toArray, List.set_cons_zero, List.set_cons_succ]
                  refine Stg.wpAnyL_take (i := 8) (v := ?_) [9, 10, 13, 14, 15, 16, 17, 18, 19, 20, 21, 22, 23, 24, 25, 26, 27, 28, 29, 30, 31, 32, 33] 0 rfl (by kernel_rfl) (by kernel_rfl) (by kernel_rfl) (by kernel_rfl) (by kernel_rfl) (fun _ _ _ h => h) (Or.inl ⟨by kernel_rfl, ?_⟩) (by assumption) ?_
                  rotate_left
                  · intro u hSu
                    skip
                    try simp only [List.getElem_toArray, List.getElem_cons_succ, List.getElem_cons_zero]
                    go_simp
                    try with_reducible rfl
                  try simp only [Act.put, List.setIfInBounds_toArray, List.set_cons_zero, List.set_cons_succ]
                  refine Stg.wpAnyL_start (n' := 25) (l' := #[true, true, true, true, true, true, true, true, true, false, false, false, false, false, false, false, false, false, false, false, false, false, false, false, false, false, false, false, false, false, false, false, false, false]) (by kernel_rfl) (by kernel_rfl) ?_
                  refine Stg.wpAnyL_take (i := 9) (v := ?_) [10, 13, 14, 15, 16, 17, 18, 19, 20, 21, 22, 23, 24, 25, 26, 27, 28, 29, 30, 31, 32, 33] 0 rfl (by kernel_rfl) (by kernel_rfl) (by kernel_rfl) (by kernel_rfl) (by kernel_rfl) (fun _ _ _ h => h) (Or.inl ⟨by kernel_rfl, ?_⟩) (by assumption) ?_
                  rotate_left
                  · intro u hSu
                    skip
                    try simp only [List.getElem_toArray, List.getElem_cons_succ, List.getElem_cons_zero]
                    go_simp
                    try with_reducible rfl
                  try simp only [Act.put, List.setIfInBounds_toArray, List.set_cons_zero, List.set_cons_succ]
                  refine Stg.wpAnyL_take (i := 10) (v := ?_) [13, 14, 15, 16, 17, 18, 19, 20, 21, 22, 23, 24, 25, 26, 27, 28, 29, 30, 31, 32, 33] 0 rfl (by kernel_rfl) (by kernel_rfl) (by kernel_rfl) (by kernel_rfl) (by kernel_rfl) (fun _ _ _ h => h) (Or.inl ⟨by kernel_rfl, ?_⟩) (by assumption) ?_
                  rotate_left
                  · intro u hSu
                    skip
                    have sB := hSu rfl
                    have y0 := cellB sB y0
                    have y1 := cellB sB x0
                    have y2 := cellB sB x1
                    have y3 := cellB sB q0
                    have y4 := cellB sB q1
                    have y5 := cellB sB z1
                    try simp only [List.getElem_toArray, List.getElem_cons_succ, List.getElem_cons_zero]
                    go_simp
                    try with_reducible rfl
                  try simp only [Act.put, List.setIfInBounds_toArray, List.set_cons_zero, List.set_cons_succ]
                  refine Stg.wpAnyL_take (i := 11) (v := ?_) [12, 13, 14, 15, 16, 17, 18, 19, 20, 21, 22, 23, 24, 25, 26, 27, 28, 29, 30, 31, 32, 33] 0 rfl (by kernel_rfl) (by kernel_rfl) (by kernel_rfl) (by kernel_rfl) (by kernel_rfl) (fun _ _ _ h => h) (Or.inl ⟨by kernel_rfl, ?_⟩) (by assumption) ?_
                  rotate_left
                  · intro u hSu
                    skip
                    try simp only [List.getElem_toArray, List.getElem_cons_succ, List.getElem_cons_zero]
                    go_simp
                    try with_reducible rfl
                  try simp only [Act.put, List.setIfInBounds_toArray, List.set_cons_zero, List.set_cons_succ]
                  refine Stg.wpAnyL_start (n' := 22) (l' := #[true, true, true, true, true, true, true, true, true, true, true, true, false, false, false, false, false, false, false, false, false, false, false, false, false, false, false, false, false, false, false, false, false, false]) (by kernel_rfl) (by kernel_rfl) ?_
                  refine Stg.wpAnyL_take (i := 12) (v := ?_) [13, 14, 15, 16, 17, 18, 19, 20, 21, 22, 23, 24, 25, 26, 27, 28, 29, 30, 31, 32, 33] 0 rfl (by kernel_rfl) (by kernel_rfl) (by kernel_rfl) (by kernel_rfl) (by kernel_rfl) (fun _ _ _ h => h) (Or.inl ⟨by kernel_rfl, ?_⟩) (by assumption) ?_
                  rotate_left
                  · intro u hSu
                    skip
                    have sB := hSu rfl
                    have y0 := cellB sB y0
                    have y1 := cellB sB x0
                    have y2 := cellB sB x1
                    have y3 := cellB sB q0
                    have y4 := cellB sB q1
                    have y5 := cellB sB z1
                    try simp only [List.getElem_toArray, List.getElem_cons_succ, List.getElem_cons_zero]
                    go_simp
                    try with_reducible rfl
                  try simp only [Act.put, List.setIfInBounds_toArray, List.set_cons_zero, List.set_cons_succ]
                  refine Stg.wpAnyL_take (i := 13) (v := ?_) [14, 15, 16, 17, 18, 19, 20, 21, 22, 23, 24, 25, 26, 27, 28, 29, 30, 31, 32, 33] 0 rfl (by kernel_rfl) (by kernel_rfl) (by kernel_rfl) (by kernel_rfl) (by kernel_rfl) (fun _ _ _ h => h) (Or.inl ⟨by kernel_rfl, ?_⟩) (by assumption) ?_
                  rotate_left
                  · intro u hSu
                    skip
                    try simp only [List.getElem_toArray, List.getElem_cons_succ, List.getElem_cons_zero]
                    go_simp
                    try with_reducible rfl
                  try simp only [Act.put, List.setIfInBounds_toArray, List.set_cons_zero, List.set_cons_succ]
                  refine Stg.wpAnyL_take (i := 14) (v := ?_) [15, 16, 17, 18, 19, 20, 21, 22, 23, 24, 25, 26, 27, 28, 29, 30, 31, 32, 33] 0 rfl (by kernel_rfl) (by kernel_rfl) (by kernel_rfl) (by kernel_rfl) (by kernel_rfl) (fun _ _ _ h => h) (Or.inl ⟨by kernel_rfl, ?_⟩) (by assumption) ?_
                  rotate_left
                  · intro u hSu
                    skip
                    try simp only [List.getElem_toArray, List.getElem_cons_succ, List.getElem_cons_zero]
                    go_simp
                    try with_reducible rfl
                  try simp only [Act.put, List.setIfInBounds_toArray, List.set_cons_zero, List.set_cons_succ]
                  refine Stg.wpAnyL_start (n' := 19) (l' := #[true, true, true, true, true, true, true, true, true, true, true, true, true, true, true, false, false, false, false, false, false, false, false, false, false, false, false, false, false, false, false, false, false, false]) (by kernel_rfl) (by kernel_rfl) ?_
                  refine Stg.wpAnyL_take (i := 15) (v := ?_) [16, 17, 18, 19, 20, 21, 22, 23, 24, 25, 26, 27, 28, 29, 30, 31, 32, 33] 0 rfl (by kernel_rfl) (by kernel_rfl) (by kernel_rfl) (by kernel_rfl) (by kernel_rfl) (fun _ _ _ h => h) (Or.inl ⟨by kernel_rfl, ?_⟩) (by assumption) ?_
                  rotate_left
                  · intro u hSu
                    skip
                    try simp only [List.getElem_toArray, List.getElem_cons_succ, List.getElem_cons_zero]
                    go_simp
                    try with_reducible rfl
                  try simp only [Act.put, List.setIfInBounds_toArray, List.set_cons_zero, List.set_cons_succ]
                  refine Stg.wpAnyL_take (i := 16) (v := ?_) [17, 18, 19, 20, 21, 22, 23, 24, 25, 26, 27, 28, 29, 30, 31, 32, 33] 0 rfl (by kernel_rfl) (by kernel_rfl) (by kernel_rfl) (by kernel_rfl) (by kernel_rfl) (fun _ _ _ h => h) (Or.inl ⟨by kernel_rfl, ?_⟩) (by assumption) ?_
                  rotate_left
                  · intro u hSu
                    skip
                    try simp only [List.getElem_toArray, List.getElem_cons_succ, List.getElem_cons_zero]
                    go_simp
                    try with_reducible rfl
                  try simp only [Act.put, List.setIfInBounds_toArray, List.set_cons_zero, List.set_cons_succ]
                  refine Stg.wpAnyL_take (i := 17) (v := ?_) [18, 19, 20, 21, 22, 23, 24, 25, 26, 27, 28, 29, 30, 31, 32, 33] 0 rfl (by kernel_rfl) (by kernel_rfl) (by kernel_rfl) (by kernel_rfl) (by kernel_rfl) (fun _ _ _ h => h) (Or.inl ⟨by kernel_rfl, ?_⟩) (by assumption) ?_
                  rotate_left
                  · intro u hSu
                    skip
                    try simp only [List.getElem_toArray, List.getElem_cons_succ, List.getElem_cons_zero]
                    go_simp
                    try with_reducible rfl
                  try simp only [Act.put, List.setIfInBounds_toArray, List.set_cons_zero, List.set_cons_succ]
                  refine Stg.wpAnyL_start (n' := 16) (l' := #[true, true, true, true, true, true, true, true, true, true, true, true, true, true, true, true, true, true, false, false, false, false, false, false, false, false, false, false, false, false, false, false, false, false]) (by kernel_rfl) (by kernel_rfl) ?_
                  refine Stg.wpAnyL_take (i := 18) (v := ?_) [19, 20, 21, 22, 23, 24, 25, 26, 27, 28, 29, 30, 31, 32, 33] 0 rfl (by kernel_rfl) (by kernel_rfl) (by kernel_rfl) (by kernel_rfl) (by kernel_rfl) (fun _ _ _ h => h) (Or.inl ⟨by kernel_rfl, ?_⟩) (by assumption) ?_
                  rotate_left
                  · intro u hSu
                    skip
                    try simp only [List.getElem_toArray, List.getElem_cons_succ, List.getElem_cons_zero]
                    go_simp
                    try with_reducible rfl
                  try simp only [Act.put, List.setIfInBounds_toArray, List.set_cons_zero, List.set_cons_succ]
                  refine Stg.wpAnyL_take (i := 19) (v := ?_) [20, 22, 23, 24, 31, 32, 33] 0 rfl (by kernel_rfl) (by kernel_rfl) (by kernel_rfl) (by kernel_rfl) (by kernel_rfl) (fun _ _ _ h => h) (Or.inl ⟨by kernel_rfl, ?_⟩) (by assumption) ?_
                  rotate_left
                  · intro u hSu
                    skip
                    try simp only [List.getElem_toArray, List.getElem_cons_succ, List.getElem_cons_zero]
                    go_simp
                    try with_reducible rfl
                  try simp only [Act.put, List.setIfInBounds_toArray, List.set_cons_zero, List.set_cons_succ]
                  refine Stg.wpAnyL_take (i := 20) (v := ?_) [22, 23, 24, 31, 32, 33] 0 rfl (by kernel_rfl) (by kernel_rfl) (by kernel_rfl) (by kernel_rfl) (by kernel_rfl) (fun _ _ _ h => h) (Or.inl ⟨by kernel_rfl, ?_⟩) (by assumption) ?_
                  rotate_left
                  · intro u hSu
                    skip
                    have sB := hSu rfl
                    have y0 := cellB sB y0
                    have y1 := cellB sB x0
                    have y2 := cellB sB x1
                    have y3 := cellB sB q0
                    have y4 := cellB sB q1
                    have y5 := cellB sB z1
                    try simp only [List.getElem_toArray, List.getElem_cons_succ, List.getElem_cons_zero]
                    go_simp
                    try with_reducible rfl
                  try simp only [Act.put, List.setIfInBounds_toArray, List.set_cons_zero, List.set_cons_succ]
                  refine Stg.wpAnyL_start (n' := 13) (l' := #[true, true, true, true, true, true, true, true, true, true, true, true, true, true, true, true, true, true, true, true, true, false, false, false, false, false, false, false, false, false, false, false, false, false]) (by kernel_rfl) (by kernel_rfl) ?_
                  refine Stg.wpAnyL_take (i := 21) (v := ?_) [22, 23, 24, 31, 32, 33] 0 rfl (by kernel_rfl) (by kernel_rfl) (by kernel_rfl) (by kernel_rfl) (by kernel_rfl) (fun _ _ _ h => h) (Or.inl ⟨by kernel_rfl, ?_⟩) (by assumption) ?_
                  rotate_left
                  · intro u hSu
                    skip
                    try simp only [List.getElem_toArray, List.getElem_cons_succ, List.getElem_cons_zero]
                    go_simp
                    try with_reducible rfl
                  try simp only [Act.put, List.setIfInBounds_toArray, List.set_cons_zero, List.set_cons_succ]
                  refine Stg.wpAnyL_take (i := 22) (v := ?_) [23, 24, 31, 32, 33] 0 rfl (by kernel_rfl) (by kernel_rfl) (by kernel_rfl) (by kernel_rfl) (by kernel_rfl) (fun _ _ _ h => h) (Or.inl ⟨by kernel_rfl, ?_⟩) (by assumption) ?_
                  rotate_left
                  · intro u hSu
                    skip
                    try simp only [List.getElem_toArray, List.getElem_cons_succ, List.getElem_cons_zero]
                    go_simp
                    try with_reducible rfl
                  try simp only [Act.put, List.setIfInBounds_toArray, List.set_cons_zero, List.set_cons_succ]
                  refine Stg.wpAnyL_take (i := 23) (v := ?_) [24, 31, 32, 33] 0 rfl (by kernel_rfl) (by kernel_rfl) (by kernel_rfl) (by kernel_rfl) (by kernel_rfl) (fun _ _ _ h => h) (Or.inl ⟨by kernel_rfl, ?_⟩) (by assumption) ?_
                  rotate_left
                  · intro u hSu
                    skip
                    try simp only [List.getElem_toArray, List.getElem_cons_succ, List.getElem_cons_zero]
                    go_simp
                    try with_reducible rfl
                  try simp only [Act.put, List.setIfInBounds_toArray, List.set_cons_zero, List.set_cons_succ]
                  refine Stg.wpAnyL_start (n' := 10) (l' := #[true, true, true, true, true, true, true, true, true, true, true, true, true, true, true, true, true, true, true, true, true, true, true, true, false, false, false, false, false, false, false, false, false, false]) (by kernel_rfl) (by kernel_rfl) ?_
                  refine Stg.wpAnyL_take (i := 24) (v := ?_) [31, 32, 33] 0 rfl (by kernel_rfl) (by kernel_rfl) (by kernel_rfl) (by kernel_rfl) (by kernel_rfl) (fun _ _ _ h => h) (Or.inl ⟨by kernel_rfl, ?_⟩) (by assumption) ?_
                  rotate_left
                  · intro u hSu
                    skip
                    have sB := hSu rfl
                    have y0 := cellB sB y0
                    have y1 := cellB sB x0
                    have y2 := cellB sB x1
                    have y3 := cellB sB q0
                    have y4 := cellB sB q1
                    have y5 := cellB sB z1
                    try simp only [List.getElem_toArray, List.getElem_cons_succ, List.getElem_cons_zero]
                    go_simp
                    try with_reducible rfl
                  try simp only [Act.put, List.setIfInBounds_toArray, List.set_cons_zero, List.set_cons_succ]
                  refine Stg.wpAnyL_take (i := 25) (v := ?_) [26, 28, 29, 30, 31, 32, 33] 0 rfl (by kernel_rfl) (by kernel_rfl) (by kernel_rfl) (by kernel_rfl) (by kernel_rfl) (fun _ _ _ h => h) (Or.inl ⟨by kernel_rfl, ?_⟩) (by assumption) ?_
                  rotate_left
                  · intro u hSu
                    skip
                    try simp only [List.getElem_toArray, List.getElem_cons_succ, List.getElem_cons_zero]
                    go_simp
                    try with_reducible rfl
                  try simp only [Act.put, List.setIfInBounds_toArray, List.set_cons_zero, List.set_cons_succ]
                  refine Stg.wpAnyL_take (i := 26) (v := ?_) [28, 29, 30, 31, 32, 33] 0 rfl (by kernel_rfl) (by kernel_rfl) (by kernel_rfl) (by kernel_rfl) (by kernel_rfl) (fun _ _ _ h => h) (Or.inl ⟨by kernel_rfl, ?_⟩) (by assumption) ?_
                  rotate_left
                  · intro u hSu
                    skip
                    have sB := hSu rfl
                    have y0 := cellB sB y0
                    have y1 := cellB sB x0
                    have y2 := cellB sB x1
                    have y3 := cellB sB q0
                    have y4 := cellB sB q1
                    have y5 := cellB sB z1
                    try simp only [List.getElem_toArray, List.getElem_cons_succ, List.getElem_cons_zero]
                    go_simp
                    try with_reducible rfl
                  try simp only [Act.put, List.setIfInBounds_toArray, List.set_cons_zero, List.set_cons_succ]
                  refine Stg.wpAnyL_start (n' := 7) (l' := #[true, true, true, true, true, true, true, true, true, true, true, true, true, true, true, true, true, true, true, true, true, true, true, true, true, true, true, false, false, false, false, false, false, false]) (by kernel_rfl) (by kernel_rfl) ?_
                  refine Stg.wpAnyL_take (i := 27) (v := ?_) [28, 29, 30, 31, 32, 33] 0 rfl (by kernel_rfl) (by kernel_rfl) (by kernel_rfl) (by kernel_rfl) (by kernel_rfl) (fun _ _ _ h => h) (Or.inl ⟨by kernel_rfl, ?_⟩) (by assumption) ?_
                  rotate_left
                  · intro u hSu
                    skip
                    try simp only [List.getElem_toArray, List.getElem_cons_succ, List.getElem_cons_zero]
                    go_simp
                    try with_reducible rfl
                  try simp only [Act.put, List.setIfInBounds_toArray, List.set_cons_zero, List.set_cons_succ]
                  refine Stg.wpAnyL_take (i := 28) (v := ?_) [29, 30, 31, 32, 33] 0 rfl (by kernel_rfl) (by kernel_rfl) (by kernel_rfl) (by kernel_rfl) (by kernel_rfl) (fun _ _ _ h => h) (Or.inl ⟨by kernel_rfl, ?_⟩) (by assumption) ?_
                  rotate_left
                  · intro u hSu
                    skip
                    try simp only [List.getElem_toArray, List.getElem_cons_succ, List.getElem_cons_zero]
                    go_simp
                    try with_reducible rfl
                  try simp only [Act.put, List.setIfInBounds_toArray, List.set_cons_zero, List.set_cons_succ]
                  refine Stg.wpAnyL_take (i := 29) (v := ?_) [30, 31, 32, 33] 0 rfl (by kernel_rfl) (by kernel_rfl) (by kernel_rfl) (by kernel_rfl) (by kernel_rfl) (fun _ _ _ h => h) (Or.inl ⟨by kernel_rfl, ?_⟩) (by assumption) ?_
                  rotate_left
                  · intro u hSu
                    skip
                    try simp only [List.getElem_toArray, List.getElem_cons_succ, List.getElem_cons_zero]
                    go_simp
                    try with_reducible rfl
                  try simp only [Act.put, List.setIfInBounds_toArray, List.set_cons_zero, List.set_cons_succ]
                  refine Stg.wpAnyL_start (n' := 4) (l' := #[true, true, true, true, true, true, true, true, true, true, true, true, true, true, true, true, true, true, true, true, true, true, true, true, true, true, true, true, true, true, false, false, false, false]) (by kernel_rfl) (by kernel_rfl) ?_
                  refine Stg.wpAnyL_take (i := 30) (v := ?_) [31, 32, 33] 0 rfl (by kernel_rfl) (by kernel_rfl) (by kernel_rfl) (by kernel_rfl) (by kernel_rfl) (fun _ _ _ h => h) (Or.inl ⟨by kernel_rfl, ?_⟩) (by assumption) ?_
                  rotate_left
                  · intro u hSu
                    skip
                    have sB := hSu rfl
                    have y0 := cellB sB y0
                    have y1 := cellB sB x0
                    have y2 := cellB sB x1
                    have y3 := cellB sB q0
                    have y4 := cellB sB q1
                    have y5 := cellB sB z1
                    try simp only [List.getElem_toArray, List.getElem_cons_succ, List.getElem_cons_zero]
                    go_simp
                    try with_reducible rfl
                  try simp only [Act.put, List.setIfInBounds_toArray, List.set_cons_zero, List.set_cons_succ]
                  refine Stg.wpAnyL_take (i := 31) (v := ?_) [32, 33] 0 rfl (by kernel_rfl) (by kernel_rfl) (by kernel_rfl) (by kernel_rfl) (by kernel_rfl) (fun _ _ _ h => h) (Or.inl ⟨by kernel_rfl, ?_⟩) (by assumption) ?_
                  rotate_left
                  · intro u hSu
                    skip
                    try simp only [List.getElem_toArray, List.getElem_cons_succ, List.getElem_cons_zero]
                    go_simp
                    try with_reducible rfl
                  try simp only [Act.put, List.setIfInBounds_toArray, List.set_cons_zero, List.set_cons_succ]
                  refine Stg.wpAnyL_take (i := 32) (v := ?_) [33] 0 rfl (by kernel_rfl) (by kernel_rfl) (by kernel_rfl) (by kernel_rfl) (by kernel_rfl) (fun _ _ _ h => h) (Or.inl ⟨by kernel_rfl, ?_⟩) (by assumption) ?_
                  rotate_left
                  · intro u hSu
                    skip
                    try simp only [List.getElem_toArray, List.getElem_cons_succ, List.getElem_cons_zero]
                    go_simp
                    try with_reducible rfl
                  try simp only [Act.put, List.setIfInBounds_toArray, List.set_cons_zero, List.set_cons_succ]
                  refine Stg.wpAnyL_start (n' := 1) (l' := #[true, true, true, true, true, true, true, true, true, true, true, true, true, true, true, true, true, true, true, true, true, true, true, true, true, true, true, true, true, true, true, true, true, false]) (by kernel_rfl) (by kernel_rfl) ?_
                  refine Stg.wpAnyL_take (i := 33) (v := ?_) [] 0 rfl (by kernel_rfl) (by kernel_rfl) (by kernel_rfl) (by kernel_rfl) (by kernel_rfl) (fun _ _ _ h => h) (Or.inl ⟨by kernel_rfl, ?_⟩) (by assumption) ?_
                  rotate_left
                  · intro u hSu
                    skip
                    try simp only [List.getElem_toArray, List.getElem_cons_succ, List.getElem_cons_zero]
                    go_simp
                    try with_reducible rfl
                  try simp only [Act.put, List.setIfInBounds_toArray, List.set_cons_zero, List.set_cons_succ]
                  refine Stg.wpAnyL_done (by kernel_rfl) ?_ _
                  try simp only [List.getElem_toArray, List.getElem_cons_succ, List.getElem_cons_zero]
                  try simp only [Act.put, List.setIfInBounds_toArray, List.set_cons_zero, List.set_cons_succ]
                  refine NoPanic.normal ?_
                  go_wp2_with fail
                  go_roundw
                  case rel => exact ⟨j + 1, by omega, by rw [hstep.out], by go_num, bNext hBr (hHeld rfl) (Nat.le_refl _)⟩
                  case measure => simp [intOf]; omega
            · rw [if_neg (fun q => by have := q.1; simp [hs] at this)] at hstep
              obtain ⟨K0, hK0⟩ : ∃ K0, leastK F (fun i => R i && decide (S i ≤ V')) j = K0 := ⟨_, rfl⟩
              rw [hK0] at hstep ⊢
              replace hstep := Lib.hid hstep
              clear hr hK0 hlj
              go_upto_region 17 with fail
              refine wp_region_noPanic ?_
              refine Stg.wp_region_L [] (Vr.SB wr) (by kernel_rfl) (fun _ => (Below.refl _ _).drew) (fun hHeld => ?_)
              refine Stg.wpAnyL_start (n' := 34) (l' := #[false, false, false, false, false, false, false, false, false, false, false, false, false, false, false, false, false, false, false, false, false, false, false, false, false, false, false, false, false, false, false, false, false, false]) (by kernel_rfl) (by kernel_rfl) ?_
              refine Stg.wpAnyL_take (i := 0) (v := ?_) [2, 3, 4, 5, 6, 7, 8, 9, 10, 11, 12, 13, 14, 15, 16, 17, 18, 19, 20, 21, 22, 23, 24, 25, 26, 27, 28, 29, 30, 31, 32, 33] 0 rfl (by kernel_rfl) (by kernel_rfl) (by kernel_rfl) (by kernel_rfl) (by kernel_rfl) (fun _ _ _ h => h) (Or.inl ⟨by kernel_rfl, ?_⟩) (by assumption) ?_
              rotate_left
              · intro u hSu
                skip
                try simp only [List.getElem_toArray, List.getElem_cons_succ, List.getElem_cons_zero]
                go_simp
                try with_reducible rfl
              try simp only [Act.put, List.setIfInBounds_toArray, List.set_cons_zero, List.set_cons_succ]
              refine Stg.wpAnyL_take (i := 1) (v := ?_) [2, 3, 4, 5, 6, 7, 8, 9, 10, 11, 12, 13, 14, 15, 16, 17, 18, 19, 20, 21, 22, 23, 24, 25, 26, 27, 28, 29, 30, 31, 32, 33] 0 rfl (by kernel_rfl) (by kernel_rfl) (by kernel_rfl) (by kernel_rfl) (by kernel_rfl) (fun _ _ _ h => h) (Or.inl ⟨by kernel_rfl, ?_⟩) (by assumption) ?_
              rotate_left
              · intro u hSu
                skip
                try simp only [List.getElem_toArray, List.getElem_cons_succ, List.getElem_cons_zero]
                go_simp
                try with_reducible rfl
              try simp only [Act.put, List.setIfInBounds_toArray, List.set_cons_zero, List.set_cons_succ]
              refine Stg.wpAnyL_take (i := 2) (v := ?_) [3, 4, 5, 6, 7, 8, 9, 10, 11, 12, 13, 14, 15, 16, 17, 18, 19, 20, 21, 22, 23, 24, 25, 26, 27, 28, 29, 30, 31, 32, 33] 0 rfl (by kernel_rfl) (by kernel_rfl) (by kernel_rfl) (by kernel_rfl) (by kernel_rfl) (fun _ _ _ h => h) (Or.inl ⟨by kernel_rfl, ?_⟩) (by assumption) ?_
              rotate_left
              · intro u hSu
                skip
                try simp only [List.getElem_toArray, List.getElem_cons_succ, List.getElem_cons_zero]
                go_simp
                try with_reducible rfl
              try simp only [Act.put, List.setIfInBounds_toArray, List.set_cons_zero, List.set_cons_succ]
              refine Stg.wpAnyL_start (n' := 31) (l' := #[true, true, true, false, false, false, false, false, false, false, false, false, false, false, false, false, false, false, false, false, false, false, false, false, false, false, false, false, false, false, false, false, false, false]) (by kernel_rfl) (by kernel_rfl) ?_
              refine Stg.wpAnyL_take (i := 3) (v := ?_) [4, 5, 6, 7, 8, 9, 10, 11, 12, 13, 14, 15, 16, 17, 18, 19, 20, 21, 22, 23, 24, 25, 26, 27, 28, 29, 30, 31, 32, 33] 0 rfl (by kernel_rfl) (by kernel_rfl) (by kernel_rfl) (by kernel_rfl) (by kernel_rfl) (fun _ _ _ h => h) (Or.inl ⟨by kernel_rfl, ?_⟩) (by assumption) ?_
              rotate_left
              · intro u hSu
                skip
                have sB := hSu rfl
                have y0 := cellB sB y0
                have y1 := cellB sB x0
                have y2 := cellB sB x1
                have y3 := cellB sB q0
                have y4 := cellB sB q1
                try simp only [List.getElem_toArray, List.getElem_cons_succ, List.getElem_cons_zero]
                go_simp
                try with_reducible rfl
              try simp only [Act.put, List.setIfInBounds_toArray, List.set_cons_zero, List.set_cons_succ]
              refine Stg.wpAnyL_take (i := 4) (v := ?_) [5, 6, 7, 8, 9, 10, 11, 12, 13, 14, 15, 16, 17, 18, 19, 20, 21, 22, 23, 24, 25, 26, 27, 28, 29, 30, 31, 32, 33] 0 rfl (by kernel_rfl) (by kernel_rfl) (by kernel_rfl) (by kernel_rfl) (by kernel_rfl) (fun _ _ _ h => h) (Or.inl ⟨by kernel_rfl, ?_⟩) (by assumption) ?_
              rotate_left
              · intro u hSu
                skip
                try simp only [List.getElem_toArray, List.getElem_cons_succ, List.getElem_cons_zero]
                go_simp
                try with_reducible rfl
              try simp only [Act.put, List.setIfInBounds_toArray, List.set_cons_zero, List.set_cons_succ]
              refine Stg.wpAnyL_take (i := 5) (v := ?_) [6, 8, 9, 10, 13, 14, 15, 16, 17, 18, 19, 20, 21, 22, 23, 24, 25, 26, 27, 28, 29, 30, 31, 32, 33] 0 rfl (by kernel_rfl) (by kernel_rfl) (by kernel_rfl) (by kernel_rfl) (by kernel_rfl) (fun _ _ _ h => h) (Or.inl ⟨by kernel_rfl, ?_⟩) (by assumption) ?_
              rotate_left
              · intro u hSu
                skip
                try simp only [List.getElem_toArray, List.getElem_cons_succ, List.getElem_cons_zero]
                go_simp
                try with_reducible rfl
              try simp only [Act.put, List.setIfInBounds_toArray, List.set_cons_zero, List.set_cons_succ]
              refine Stg.wpAnyL_start (n' := 28) (l' := #[true, true, true, true, true, true, false, false, false, false, false, false, false, false, false, false, false, false, false, false, false, false, false, false, false, false, false, false, false, false, false, false, false, false]) (by kernel_rfl) (by kernel_rfl) ?_
              refine Stg.wpAnyL_take (i := 6) (v := ?_) [8, 9, 10, 13, 14, 15, 16, 17, 18, 19, 20, 21, 22, 23, 24, 25, 26, 27, 28, 29, 30, 31, 32, 33] 0 rfl (by kernel_rfl) (by kernel_rfl) (by kernel_rfl) (by kernel_rfl) (by kernel_rfl) (fun _ _ _ h => h) (Or.inl ⟨by kernel_rfl, ?_⟩) (by assumption) ?_
              rotate_left
              · intro u hSu
                skip
                have sB := hSu rfl
                have y0 := cellB sB y0
                have y1 := cellB sB x0
                have y2 := cellB sB x1
                have y3 := cellB sB q0
                have y4 := cellB sB q1
                try simp only [List.getElem_toArray, List.getElem_cons_succ, List.getElem_cons_zero]
                go_simp
                try with_reducible rfl
              try simp only [Act.put, List.setIfInBounds_toArray, List.set_cons_zero, List.set_cons_succ]
              refine Stg.wpAnyL_take (i := 7) (v := ?_) [8, 9, 10, 13, 14, 15, 16, 17, 18, 19, 20, 21, 22, 23, 24, 25, 26, 27, 28, 29, 30, 31, 32, 33] 0 rfl (by kernel_rfl) (by kernel_rfl) (by kernel_rfl) (by kernel_rfl) (by kernel_rfl) (fun _ _ _ h => h) (Or.inl ⟨by kernel_rfl, ?_⟩) (by assumption) ?_
              rotate_left
              · intro u hSu
                skip
                try simp only [List.getElem_toArray, List.getElem_cons_succ, List.getElem_cons_zero]
                go_simp
                try with_reducible rfl
              try simp only [Act.put, List.setIfInBounds_toArray, List.set_cons_zero, List.set_cons_succ]
              refine Stg.wpAnyL_take (i := 8) (v := ?_) [9, 10, 13, 14, 15, 16, 17, 18, 19, 20, 21, 22, 23, 24, 25, 26, 27, 28, 29, 30, 31, 32, 33] 0 rfl (by kernel_rfl) (by kernel_rfl) (by kernel_rfl) (by kernel_rfl) (by kernel_rfl) (fun _ _ _ h => h) (Or.inl ⟨by kernel_rfl, ?_⟩) (by assumption) ?_
              rotate_left
              · intro u hSu
                skip
                try simp only [List.getElem_toArray, List.getElem_cons_succ, List.getElem_cons_zero]
                go_simp
                try with_reducible rfl
              try simp only [Act.put, List.setIfInBounds_toArray, List.set_cons_zero, List.set_cons_succ]
              refine Stg.wpAnyL_start (n' := 25) (l' := #[true, true, true, true, true, true, true, true, true, false, false, false, false, false, false, false, false, false, false, false, false, false, false, false, false, false, false, false, false, false, false, false, false, false]) (by kernel_rfl) (by kernel_rfl) ?_
              refine Stg.wpAnyL_take (i := 9) (v := ?_) [10, 13, 14, 15, 16, 17, 18, 19, 20, 21, 22, 23, 24, 25, 26, 27, 28, 29, 30, 31, 32, 33] 0 rfl (by kernel_rfl) (by kernel_rfl) (by kernel_rfl) (by kernel_rfl) (by kernel_rfl) (fun _ _ _ h => h) (Or.inl ⟨by kernel_rfl, ?_⟩) (by assumption) ?_
              rotate_left
              · intro u hSu
                skip
                try simp only [List.getElem_toArray, List.getElem_cons_succ, List.getElem_cons_zero]
                go_simp
                try with_reducible rfl
              try simp only [Act.put, List.setIfInBounds_toArray, List.set_cons_zero, List.set_cons_succ]
              refine Stg.wpAnyL_take (i := 10) (v := ?_) [13, 14, 15, 16, 17, 18, 19, 20, 21, 22, 23, 24, 25, 26, 27, 28, 29, 30, 31, 32, 33] 0 rfl (by kernel_rfl) (by kernel_rfl) (by kernel_rfl) (by kernel_rfl) (by kernel_rfl) (fun _ _ _ h => h) (Or.inl ⟨by kernel_rfl, ?_⟩) (by assumption) ?_
              rotate_left
              · intro u hSu
                skip
                have sB := hSu rfl
                have y0 := cellB sB y0
                have y1 := cellB sB x0
                have y2 := cellB sB x1
                have y3 := cellB sB q0
                have y4 := cellB sB q1
                try simp only [List.getElem_toArray, List.getElem_cons_succ, List.getElem_cons_zero]
                go_simp
                try with_reducible rfl
              try simp only [Act.put, List.setIfInBounds_toArray, List.set_cons_zero, List.set_cons_succ]
              refine Stg.wpAnyL_take (i := 11) (v := ?_) [12, 13, 14, 15, 16, 17, 18, 19, 20, 21, 22, 23, 24, 25, 26, 27, 28, 29, 30, 31, 32, 33] 0 rfl (by kernel_rfl) (by kernel_rfl) (by kernel_rfl) (by kernel_rfl) (by kernel_rfl) (fun _ _ _ h => h) (Or.inl ⟨by kernel_rfl, ?_⟩) (by assumption) ?_
              rotate_left
              · intro u hSu
                skip
                try simp only [List.getElem_toArray, List.getElem_cons_succ, List.getElem_cons_zero]
                go_simp
                try with_reducible rfl
              try simp only [Act.put, List.setIfInBounds_toArray, List.set_cons_zero, List.set_cons_succ]
              refine Stg.wpAnyL_start (n' := 22) (l' := #[true, true, true, true, true, true, true, true, true, true, true, true, false, false, false, false, false, false, false, false, false, false, false, false, false, false, false, false, false, false, false, false, false, false]) (by kernel_rfl) (by kernel_rfl) ?_
              refine Stg.wpAnyL_take (i := 12) (v := ?_) [13, 14, 15, 16, 17, 18, 19, 20, 21, 22, 23, 24, 25, 26, 27, 28, 29, 30, 31, 32, 33] 0 rfl (by kernel_rfl) (by kernel_rfl) (by kernel_rfl) (by kernel_rfl) (by kernel_rfl) (fun _ _ _ h => h) (Or.inl ⟨by kernel_rfl, ?_⟩) (by assumption) ?_
              rotate_left
              · intro u hSu
                skip
                have sB := hSu rfl
                have y0 := cellB sB y0
                have y1 := cellB sB x0
                have y2 := cellB sB x1
                have y3 := cellB sB q0
                have y4 := cellB sB q1
                try simp only [List.getElem_toArray, List.getElem_cons_succ, List.getElem_cons_zero]
                go_simp
                try with_reducible rfl
              try simp only [Act.put, List.setIfInBounds_toArray, List.set_cons_zero, List.set_cons_succ]
              refine Stg.wpAnyL_take (i := 13) (v := ?_) [14, 15, 16, 17, 18, 19, 20, 21, 22, 23, 24, 25, 26, 27, 28, 29, 30, 31, 32, 33] 0 rfl (by kernel_rfl) (by kernel_rfl) (by kernel_rfl) (by kernel_rfl) (by kernel_rfl) (fun _ _ _ h => h) (Or.inl ⟨by kernel_rfl, ?_⟩) (by assumption) ?_
              rotate_left
              · intro u hSu
                skip
                try simp only [List.getElem_toArray, List.getElem_cons_succ, List.getElem_cons_zero]
                go_simp
                try with_reducible rfl
              try simp only [Act.put, List.setIfInBounds_toArray, List.set_cons_zero, List.set_cons_succ]
              refine Stg.wpAnyL_take (i := 14) (v := ?_) [15, 16, 17, 18, 19, 20, 21, 22, 23, 24, 25, 26, 27, 28, 29, 30, 31, 32, 33] 0 rfl (by kernel_rfl) (by kernel_rfl) (by kernel_rfl) (by kernel_rfl) (by kernel_rfl) (fun _ _ _ h => h) (Or.inl ⟨by kernel_rfl, ?_⟩) (by assumption) ?_
              rotate_left
              · intro u hSu
                skip
                try simp only [List.getElem_toArray, List.getElem_cons_succ, List.getElem_cons_zero]
                go_simp
                try with_reducible rfl
              try simp only [Act.put, List.setIfInBounds_toArray, List.set_cons_zero, List.set_cons_succ]
              refine Stg.wpAnyL_start (n' := 19) (l' := #[true, true, true, true, true, true, true, true, true, true, true, true, true, true, true, false, false, false, false, false, false, false, false, false, false, false, false, false, false, false, false, false, false, false]) (by kernel_rfl) (by kernel_rfl) ?_
              refine Stg.wpAnyL_take (i := 15) (v := ?_) [16, 17, 18, 19, 20, 21, 22, 23, 24, 25, 26, 27, 28, 29, 30, 31, 32, 33] 0 rfl (by kernel_rfl) (by kernel_rfl) (by kernel_rfl) (by kernel_rfl) (by kernel_rfl) (fun _ _ _ h => h) (Or.inl ⟨by kernel_rfl, ?_⟩) (by assumption) ?_
              rotate_left
              · intro u hSu
                skip
                try simp only [List.getElem_toArray, List.getElem_cons_succ, List.getElem_cons_zero]
                go_simp
                try with_reducible rfl
              try simp only [Act.put, List.setIfInBounds_toArray, List.set_cons_zero, List.set_cons_succ]
              refine Stg.wpAnyL_take (i := 16) (v := undef) [17, 18, 19, 20, 21, 22, 23, 24, 25, 26, 27, 28, 29, 30, 31, 32, 33] 0 rfl (by kernel_rfl) (by kernel_rfl) (by kernel_rfl) (by kernel_rfl) (by kernel_rfl) (fun _ _ _ h => h) (Or.inr ⟨by kernel_rfl, rfl⟩) (by assumption) ?_
              try simp only [Act.put, List.setIfInBounds_toArray, List.set_cons_zero, List.set_cons_succ]
              refine Stg.wpAnyL_take (i := 17) (v := undef) [18, 19, 20, 21, 22, 23, 24, 25, 26, 27, 28, 29, 30, 31, 32, 33] 0 rfl (by kernel_rfl) (by kernel_rfl) (by kernel_rfl) (by kernel_rfl) (by kernel_rfl) (fun _ _ _ h => h) (Or.inr ⟨by kernel_rfl, rfl⟩) (by assumption) ?_
              try simp only [Act.put, List.setIfInBounds_toArray, List.set_cons_zero, List.set_cons_succ]
              refine Stg.wpAnyL_start (n' := 16) (l' := #[true, true, true, true, true, true, true, true, true, true, true, true, true, true, true, true, true, true, false, false, false, false, false, false, false, false, false, false, false, false, false, false, false, false]) (by kernel_rfl) (by kernel_rfl) ?_
              refine Stg.wpAnyL_take (i := 18) (v := undef) [19, 20, 21, 22, 23, 24, 25, 26, 27, 28, 29, 30, 31, 32, 33] 0 rfl (by kernel_rfl) (by kernel_rfl) (by kernel_rfl) (by kernel_rfl) (by kernel_rfl) (fun _ _ _ h => h) (Or.inr ⟨by kernel_rfl, rfl⟩) (by assumption) ?_
              try simp only [Act.put, List.setIfInBounds_toArray, List.set_cons_zero, List.set_cons_succ]
              refine Stg.wpAnyL_take (i := 19) (v := undef) [20, 22, 23, 24, 31, 32, 33] 0 rfl (by kernel_rfl) (by kernel_rfl) (by kernel_rfl) (by kernel_rfl) (by kernel_rfl) (fun _ _ _ h => h) (Or.inr ⟨by kernel_rfl, rfl⟩) (by assumption) ?_
              try simp only [Act.put, List.setIfInBounds_toArray, List.set_cons_zero, List.set_cons_succ]
              refine Stg.wpAnyL_take (i := 20) (v := undef) [22, 23, 24, 31, 32, 33] 0 rfl (by kernel_rfl) (by kernel_rfl) (by kernel_rfl) (by kernel_rfl) (by kernel_rfl) (fun _ _ _ h => h) (Or.inr ⟨by kernel_rfl, rfl⟩) (by assumption) ?_
              try simp only [Act.put, List.setIfInBounds_toArray, List.set_cons_zero, List.set_cons_succ]
              refine Stg.wpAnyL_start (n' := 13) (l' := #[true, true, true, true, true, true, true, true, true, true, true, true, true, true, true, true, true, true, true, true, true, false, false, false, false, false, false, false, false, false, false, false, false, false]) (by kernel_rfl) (by kernel_rfl) ?_
              refine Stg.wpAnyL_take (i := 21) (v := undef) [22, 23, 24, 31, 32, 33] 0 rfl (by kernel_rfl) (by kernel_rfl) (by kernel_rfl) (by kernel_rfl) (by kernel_rfl) (fun _ _ _ h => h) (Or.inr ⟨by kernel_rfl, rfl⟩) (by assumption) ?_
              try simp only [Act.put, List.setIfInBounds_toArray, List.set_cons_zero, List.set_cons_succ]
              refine Stg.wpAnyL_take (i := 22) (v := undef) [23, 24, 31, 32, 33] 0 rfl (by kernel_rfl) (by kernel_rfl) (by kernel_rfl) (by kernel_rfl) (by kernel_rfl) (fun _ _ _ h => h) (Or.inr ⟨by kernel_rfl, rfl⟩) (by assumption) ?_
              try simp only [Act.put, List.setIfInBounds_toArray, List.set_cons_zero, List.set_cons_succ]
              refine Stg.wpAnyL_take (i := 23) (v := undef) [24, 31, 32, 33] 0 rfl (by kernel_rfl) (by kernel_rfl) (by kernel_rfl) (by kernel_rfl) (by kernel_rfl) (fun _ _ _ h => h) (Or.inr ⟨by kernel_rfl, rfl⟩) (by assumption) ?_
              try simp only [Act.put, List.setIfInBounds_toArray, List.set_cons_zero, List.set_cons_succ]
              refine Stg.wpAnyL_start (n' := 10) (l' := #[true, true, true, true, true, true, true, true, true, true, true, true, true, true, true, true, true, true, true, true, true, true, true, true, false, false, false, false, false, false, false, false, false, false]) (by kernel_rfl) (by kernel_rfl) ?_
              refine Stg.wpAnyL_take (i := 24) (v := undef) [31, 32, 33] 0 rfl (by kernel_rfl) (by kernel_rfl) (by kernel_rfl) (by kernel_rfl) (by kernel_rfl) (fun _ _ _ h => h) (Or.inr ⟨by kernel_rfl, rfl⟩) (by assumption) ?_
              try simp only [Act.put, List.setIfInBounds_toArray, List.set_cons_zero, List.set_cons_succ]
              refine Stg.wpAnyL_take (i := 25) (v := undef) [26, 28, 29, 30, 31, 32, 33] 0 rfl (by kernel_rfl) (by kernel_rfl) (by kernel_rfl) (by kernel_rfl) (by kernel_rfl) (fun _ _ _ h => h) (Or.inr ⟨by kernel_rfl, rfl⟩) (by assumption) ?_
              try simp only [Act.put, List.setIfInBounds_toArray, List.set_cons_zero, List.set_cons_succ]
              refine Stg.wpAnyL_take (i := 26) (v := undef) [28, 29, 30, 31, 32, 33] 0 rfl (by kernel_rfl) (by kernel_rfl) (by kernel_rfl) (by kernel_rfl) (by kernel_rfl) (fun _ _ _ h => h) (Or.inr ⟨by kernel_rfl, rfl⟩) (by assumption) ?_
              try simp only [Act.put, List.setIfInBounds_toArray, List.set_cons_zero, List.set_cons_succ]
              refine Stg.wpAnyL_start (n' := 7) (l' := #[true, true, true, true, true, true, true, true, true, true, true, true, true, true, true, true, true, true, true, true, true, true, true, true, true, true, true, false, false, false, false, false, false, false]) (by kernel_rfl) (by kernel_rfl) ?_
              refine Stg.wpAnyL_take (i := 27) (v := undef) [28, 29, 30, 31, 32, 33] 0 rfl (by kernel_rfl) (by kernel_rfl) (by kernel_rfl) (by kernel_rfl) (by kernel_rfl) (fun _ _ _ h => h) (Or.inr ⟨by kernel_rfl, rfl⟩) (by assumption) ?_
              try simp only [Act.put, List.setIfInBounds_toArray, List.set_cons_zero, List.set_cons_succ]
              refine Stg.wpAnyL_take (i := 28) (v := undef) [29, 30, 31, 32, 33] 0 rfl (by kernel_rfl) (by kernel_rfl) (by kernel_rfl) (by kernel_rfl) (by kernel_rfl) (fun _ _ _ h => h) (Or.inr ⟨by kernel_rfl, rfl⟩) (by assumption) ?_
              try simp only [Act.put, List.setIfInBounds_toArray, List.set_cons_zero, List.set_cons_succ]
              refine Stg.wpAnyL_take (i := 29) (v := undef) [30, 31, 32, 33] 0 rfl (by kernel_rfl) (by kernel_rfl) (by kernel_rfl) (by kernel_rfl) (by kernel_rfl) (fun _ _ _ h => h) (Or.inr ⟨by kernel_rfl, rfl⟩) (by assumption) ?_
              try simp only [Act.put, List.setIfInBounds_toArray, List.set_cons_zero, List.set_cons_succ]
              refine Stg.wpAnyL_start (n' := 4) (l' := #[true, true, true, true, true, true, true, true, true, true, true, true, true, true, true, true, true, true, true, true, true, true, true, true, true, true, true, true, true, true, false, false, false, false]) (by kernel_rfl) (by kernel_rfl) ?_
              refine Stg.wpAnyL_take (i := 30) (v := undef) [31, 32, 33] 0 rfl (by kernel_rfl) (by kernel_rfl) (by kernel_rfl) (by kernel_rfl) (by kernel_rfl) (fun _ _ _ h => h) (Or.inr ⟨by kernel_rfl, rfl⟩) (by assumption) ?_
              try simp only [Act.put, List.setIfInBounds_toArray, List.set_cons_zero, List.set_cons_succ]
              refine Stg.wpAnyL_take (i := 31) (v := undef) [32, 33] 0 rfl (by kernel_rfl) (by kernel_rfl) (by kernel_rfl) (by kernel_rfl) (by kernel_rfl) (fun _ _ _ h => h) (Or.inr ⟨by kernel_rfl, rfl⟩) (by assumption) ?_
              try simp only [Act.put, List.setIfInBounds_toArray, List.set_cons_zero, List.set_cons_succ]
              refine Stg.wpAnyL_take (i := 32) (v := undef) [33] 0 rfl (by kernel_rfl) (by kernel_rfl) (by kernel_rfl) (by kernel_rfl) (by kernel_rfl) (fun _ _ _ h => h) (Or.inr ⟨by kernel_rfl, rfl⟩) (by assumption) ?_
              try simp only [Act.put, List.setIfInBounds_toArray, List.set_cons_zero, List.set_cons_succ]
              refine Stg.wpAnyL_start (n' := 1) (l' := #[true, true, true, true, true, true, true, true, true, true, true, true, true, true, true, true, true, true, true, true, true, true, true, true, true, true, true, true, true, true, true, true, true, false]) (by kernel_rfl) (by kernel_rfl) ?_
              refine Stg.wpAnyL_take (i := 33) (v := ?_) [] 0 rfl (by kernel_rfl) (by kernel_rfl) (by kernel_rfl) (by kernel_rfl) (by kernel_rfl) (fun _ _ _ h => h) (Or.inl ⟨by kernel_rfl, ?_⟩) (by assumption) ?_
              rotate_left
              · intro u hSu
                skip
                try simp only [List.getElem_toArray, List.getElem_cons_succ, List.getElem_cons_zero]
                go_simp
                try with_reducible rfl
              try simp only [Act.put, List.setIfInBounds_toArray, List.set_cons_zero, List.set_cons_succ]
              refine Stg.wpAnyL_done (by kernel_rfl) ?_ _
              try simp only [List.getElem_toArray, List.getElem_cons_succ, List.getElem_cons_zero]
              try simp only [Act.put, List.setIfInBounds_toArray, List.set_cons_zero, List.set_cons_succ]
              refine NoPanic.normal ?_
              go_wp2_with fail
              go_roundw
              case rel => exact ⟨j + 1, by omega, by rw [hstep.out], by go_num, bNext hBr (hHeld rfl) (Nat.le_refl _)⟩
              case measure => simp [intOf]; omega
        · have hjz : ¬ (j : Int) < (kk : Int) := by omega
          obtain rfl : j = kk := by omega
          have q0 := cellB hBr (bo4.c 0 _ rfl)
          have q1 := cellB hBr (bo4.c 1 _ rfl)
          have rs9 := rs4.bel hBr
          have T9 := T4.bel hBr
          have hB9 := bNext hB4 hBr (Nat.le_refl _)
          have r0 := rs9.c 0 _ rfl
          have r1 := rs9.c 1 _ rfl
          have r2 := rs9.f 0
          have r3 := rs9.f 1
          go_wp2_with fail
          refine bodyPost_ret (v := .tuple #[.agg #[.int .i64 V', .slice a3 j c3], .int .i64 (leastK F (fun i => R i && decide (S i ≤ V')) j), .bool true]) (by simp [results, Try.results34, go_sem, r0, r1]) rfl ⟨_, g3, _, rfl, ?_, fun h0 => by have := (hg3 h0).1; show _ ≤ g3; omega, ?_⟩
          · exact (T9.set_other (fun h0 => by have := (hg3 h0).1; omega) _).set_other (fun h0 => by have := (hg3 h0).1; omega) _
          · exact (hB9.setCell (p := ⟨w.heap.size + 1, 0, none⟩) (by show _ ≤ w.heap.size + 1; omega) _).setCell (p := ⟨w.heap.size + 1, 1, none⟩) (by show _ ≤ w.heap.size + 1; omega) _

set_option maxRecDepth 100000 in
set_option maxHeartbeats 4000000 in
theorem rpick_no (V : Int) (a ar : Option Addr) (b off N c rb ro n cr : Nat) (S F : Nat → Int) (R : Nat → Bool) (w : World) (T : TagsAt w a b off N S F) (hN : N ≤ 1000) (BR : BoolsAt w ar rb ro n R) (h : ¬ VOk V N S F ∨ n ≠ N ∨ leastK S R N < 0) :
    Calls Try.prog 34 #[.agg #[.int .i64 V, .slice a N c], .slice ar n cr] w (PickP ⟨0, 0, S, F, 0, false⟩ w) := by
  have hB0 : Below w.heap.size w ((w.alloc (.cells #[.int .i64 V, .slice a N c] 50)).alloc (.cells #[.int .i64 0, .slice none 0 0] 50)) := ((Below.refl _ _).alloc (Nat.le_refl _) _).alloc (by simp) _
  have bx0 := blk_two w (.int .i64 V) (.slice a N c) (.int .i64 0) (.slice none 0 0) 50 50
  have rs0 := blk_new (w.alloc (.cells #[.int .i64 V, .slice a N c] 50)) (.int .i64 0) (.slice none 0 0) 50
  rw [World.size_alloc] at rs0
  have hszW : w.heap.size + 1 < ((w.alloc (.cells #[.int .i64 V, .slice a N c] 50)).alloc (.cells #[.int .i64 0, .slice none 0 0] 50)).heap.size := by simp
  by_cases hv : VOk V N S F
  · have hck := rcheck25_c true V a b off N c S F _ (T.bel hB0) hN ⟨fun _ => hv, fun _ => rfl⟩
    by_cases hnN : n = N
    · have hnN' := hnN.symm
      subst hnN'
      clear hnN
      have hneg : leastV S R N = -1 := by
        have hlt : leastK S R N < 0 := by rcases h with h | h | h; exact absurd hv h; exact absurd rfl h; exact h
        unfold leastV; rw [if_pos hlt]
      clear h
      replace T := Lib.hid T
      replace BR := Lib.hid BR
      replace hv := Lib.hid hv
      replace hneg := Lib.hid hneg
      go_enter Try.func34, Try.ntmps34
      go_wp2_with fail
      generalize ((w.alloc (.cells #[.int .i64 V, .slice a N c] 50)).alloc (.cells #[.int .i64 0, .slice none 0 0] 50)) = W1 at bx0 rs0 hB0 hszW hck ⊢
      refine hck.mono ?_
      rintro e w1 ⟨rfl, hb1⟩
      have bx1 := bx0.bel hb1
      have rs1 := rs0.bel hb1
      have hB1 := bNext hB0 hb1 (Nat.le_refl _)
      have hsz1 := hb1.size
      clear bx0 rs0 hB0 hck hb1
      have p0 := bx1.c 0 _ rfl
      have p1 := bx1.c 1 _ rfl
      go_wp2_with fail
      go_loop [7, 8] (fun s7 s8 => ∃ kk : Nat, kk ≤ N ∧ s7 = .int .i64 (leastV S R kk) ∧ s8 = .int .i64 (kk : Nat)) (fun _ s8 => N - (intOf s8).toNat)
      case atStart => exact ⟨0, Nat.zero_le _, rfl, rfl⟩
      case round =>
        obtain ⟨kk, hkk, rfl, rfl⟩ := hrel
        by_cases hlt : kk < N
        · have hltz : (kk : Int) < (N : Int) := by omega
          obtain rfl := T.out.ha (by omega)
          obtain rfl := BR.out.ha (by omega)
          have x0 := (T.out.bel hB1).c0 kk hlt
          have y0 := (BR.out.bel hB1).c0 kk hlt
          have hstep := leastV_succ (O := S) (m := R) (n := kk) (fun i hi => (hv.out.2.2.2 i (by omega)).1)
          obtain ⟨L, hL⟩ : ∃ L, leastV S R kk = L := ⟨_, rfl⟩
          rw [hL] at hstep ⊢
          clear hL
          cases hr : R kk with
          | false =>
            rw [hr] at y0
            rw [if_neg (fun q => by rw [hr] at q; cases q.1)] at hstep
            replace hstep := Lib.hid hstep
            clear hr
            go_wp2_with fail
            go_round
            case rel => exact ⟨kk + 1, by omega, by rw [hstep.out], by go_num⟩
            case measure => simp [intOf]; omega
          | true =>
            rw [hr] at y0
            by_cases hneg : L < 0
            · rw [if_pos ⟨hr, .inl hneg⟩] at hstep
              replace hstep := Lib.hid hstep
              clear hr
              go_wp2_with fail
              go_round
              case rel => exact ⟨kk + 1, by omega, by rw [hstep.out], by go_num⟩
              case measure => simp [intOf]; omega
            · by_cases hlL : S kk < L
              · rw [if_pos ⟨hr, .inr hlL⟩] at hstep
                replace hstep := Lib.hid hstep
                clear hr
                go_wp2_with fail
                go_round
                case rel => exact ⟨kk + 1, by omega, by rw [hstep.out], by go_num⟩
                case measure => simp [intOf]; omega
              · rw [if_neg (fun q => by rcases q.2 with q | q; exact hneg q; exact hlL q)] at hstep
                replace hstep := Lib.hid hstep
                clear hr
                go_wp2_with fail
                go_round
                case rel => exact ⟨kk + 1, by omega, by rw [hstep.out], by go_num⟩
                case measure => simp [intOf]; omega
        · have hltz : ¬ (kk : Int) < (N : Int) := by omega
          obtain rfl : kk = N := by omega
          rw [hneg.out]
          have r0 := rs1.c 0 _ rfl
          have r1 := rs1.c 1 _ rfl
          have r2 := rs1.f 0
          have r3 := rs1.f 1
          go_wp2_with fail
          refine bodyPost_ret (v := .tuple #[.agg #[.int .i64 0, .slice none 0 0], .int .i64 0, .bool false]) (by simp [results, Try.results34, go_sem, r0, r1]) rfl (pickP_no S F ⟨rfl, ?_⟩)
          exact (hB1.setCell (p := ⟨w.heap.size + 1, 0, none⟩) (by show _ ≤ w.heap.size + 1; omega) _).setCell (p := ⟨w.heap.size + 1, 1, none⟩) (by show _ ≤ w.heap.size + 1; omega) _
    · have hnd : (n == N) = false := by simpa using hnN
      have hne : decide ((n : Int) = (N : Int)) = false := by simp; omega
      clear hv h T BR
      go_enter Try.func34, Try.ntmps34
      go_wp2_with fail
      generalize ((w.alloc (.cells #[.int .i64 V, .slice a N c] 50)).alloc (.cells #[.int .i64 0, .slice none 0 0] 50)) = W1 at bx0 rs0 hB0 hszW hck ⊢
      refine hck.mono ?_
      rintro e w1 ⟨rfl, hb1⟩
      have bx1 := bx0.bel hb1
      have rs1 := rs0.bel hb1
      have hB1 := bNext hB0 hb1 (Nat.le_refl _)
      have hsz1 := hb1.size
      clear bx0 rs0 hB0 hck hb1
      have p0 := bx1.c 0 _ rfl
      have p1 := bx1.c 1 _ rfl
      have r0 := rs1.c 0 _ rfl
      have r1 := rs1.c 1 _ rfl
      have r2 := rs1.f 0
      have r3 := rs1.f 1
      go_wp2_with fail
      refine bodyPost_ret (v := .tuple #[.agg #[.int .i64 0, .slice none 0 0], .int .i64 0, .bool false]) (by simp [results, Try.results34, go_sem, r0, r1]) rfl (pickP_no S F ⟨rfl, ?_⟩)
      exact (hB1.setCell (p := ⟨w.heap.size + 1, 0, none⟩) (by show _ ≤ w.heap.size + 1; omega) _).setCell (p := ⟨w.heap.size + 1, 1, none⟩) (by show _ ≤ w.heap.size + 1; omega) _
  · have hck := rcheck25_c false V a b off N c S F _ (T.bel hB0) hN ⟨(fun q => by cases q), fun q => absurd q hv⟩
    clear hv h T BR
    go_enter Try.func34, Try.ntmps34
    go_wp2_with fail
    generalize ((w.alloc (.cells #[.int .i64 V, .slice a N c] 50)).alloc (.cells #[.int .i64 0, .slice none 0 0] 50)) = W1 at bx0 rs0 hB0 hszW hck ⊢
    refine hck.mono ?_
    rintro e w1 ⟨rfl, hb1⟩
    have bx1 := bx0.bel hb1
    have rs1 := rs0.bel hb1
    have hB1 := bNext hB0 hb1 (Nat.le_refl _)
    have hsz1 := hb1.size
    clear bx0 rs0 hB0 hck hb1
    have p0 := bx1.c 0 _ rfl
    have p1 := bx1.c 1 _ rfl
    have r0 := rs1.c 0 _ rfl
    have r1 := rs1.c 1 _ rfl
    have r2 := rs1.f 0
    have r3 := rs1.f 1
    go_wp2_with fail
    refine bodyPost_ret (v := .tuple #[.agg #[.int .i64 0, .slice none 0 0], .int .i64 0, .bool false]) (by simp [results, Try.results34, go_sem, r0, r1]) rfl (pickP_no S F ⟨rfl, ?_⟩)
    exact (hB1.setCell (p := ⟨w.heap.size + 1, 0, none⟩) (by show _ ≤ w.heap.size + 1; omega) _).setCell (p := ⟨w.heap.size + 1, 1, none⟩) (by show _ ≤ w.heap.size + 1; omega) _

theorem rpick_c (V : Int) (a ar : Option Addr) (b off N c rb ro n cr : Nat) (S F : Nat → Int) (R : Nat → Bool) (w : World) (T : TagsAt w a b off N S F) (hN : N ≤ 1000) (BR : BoolsAt w ar rb ro n R) :
    Calls Try.prog 34 #[.agg #[.int .i64 V, .slice a N c], .slice ar n cr] w (PickP (pickR V N S F n R) w) := by
  unfold pickR
  by_cases hok : pickOk V N S F n R
  · rw [if_pos hok]
    obtain ⟨h1, rfl, h3⟩ := hok
    exact rpick_yes V a ar b off n c rb ro cr S F R w T h1 BR h3
  · rw [if_neg hok]
    refine rpick_no V a ar b off N c rb ro n cr S F R w T hN BR ?_
    by_cases h1 : VOk V N S F
    · by_cases h2 : n = N
      · exact .inr (.inr (Classical.byContradiction fun q => hok ⟨h1, h2, by omega⟩))
      · exact .inr (.inl h2)
    · exact .inl h1
end Go.Proofs.Ytbbcongfaoopcaa
