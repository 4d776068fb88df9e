/- The judge: whether the bound is kept: the walk. -/
import Derived.Test.YtjdkpoggcpckcaaJ5
import Derived.Deep.CutRange
namespace Go.Proofs.Ytjdkpoggcpckcaa
open Go.ChangeShapes Go.WideShapes Go.ChangeAt Go.RowKit
set_option linter.unusedVariables false
set_option linter.unusedSimpArgs false
open BigFrame Bs Jd

set_option maxRecDepth 100000 in
set_option maxHeartbeats 8000000 in
theorem jkept_yes (h : Int) (a a2 : Option Addr) (b off N c b2 off2 M c2 : Nat) (X Y : Nat → Nat → Int) (w : World) (T : IntRows w a b off N 6 X) (T2 : IntRows w a2 b2 off2 M 4 Y) (hN : N ≤ 1000) (hM : M ≤ 1000) (hok : checkOk N X M Y) :
    Calls Try.prog 8 #[.slice a N c, .slice a2 M c2, .int .i64 h] w (KeptP X N Y M h w) := by
  obtain ⟨i0, hi0, hz0, hz1, hz2⟩ := info_parts info_sent
  have hck := jcheck_c true a a2 b off N c b2 off2 M c2 X Y w T T2 (by omega) (by omega) ⟨fun _ => hok, fun _ => rfl⟩
  have hX : ∀ i, i < N → (1 ≤ X i 0 ∧ X i 0 ≤ 1099511627776) ∧ 1 ≤ X i 4 ∧ X i 4 ≤ 1500 := fun i hi => by
    have h1 := hok.1 i hi
    have h2 := sentB_iff.1 h1.2.2
    omega
  have hY : ∀ i, i < M → (0 ≤ Y i 2 ∧ Y i 2 ≤ 1000000) ∧ 0 ≤ Y i 3 ∧ Y i 3 ≤ 1000000 := fun i hi => by
    have h1 := hok.2 i hi
    have h2 := forceB_iff.1 h1.2.2
    omega
  have hbo := fun W (hW : Below w.heap.size w W) tn s t => jbound_c a2 b2 off2 M c2 Y tn s t h W (T2.bel hW) hM hY
  have hNi : (N : Int) ≤ 1000 := by omega
  clear hok T2
  replace hX := Lib.hid hX
  replace hbo := Lib.hid hbo
  replace T := Lib.hid T
  go_enter Try.func8, Try.ntmps8
  go_wp2_with fail
  go_step3
  go_wp2_with fail
  refine hck.mono ?_
  rintro e u0 ⟨rfl, hu0⟩
  clear hck
  go_wp2_with fail
  try go_step3
  try go_wp2_with fail
  go_loopw [8] (fun s8 w1 => ∃ m : Int, 1 ≤ m ∧ m ≤ 17 ∧ s8 = .int .i64 m ∧ Below w.heap.size w w1 ∧ Aside (∀ (q : Int) i k, 1 ≤ q → q < m → ¬ viols X N Y M h q i k)) (fun s8 _ => (17 - intOf s8).toNat)
  case atStart => exact ⟨1, by omega, by omega, rfl, hu0, fun q i k h1 h2 => by omega⟩
  case round =>
    obtain ⟨m, hm1, hm2, rfl, hB1, A1⟩ := hrel
    have hw1 := hB1.size
    by_cases hm : m ≤ 16
    · go_wp2_with fail
      obtain ⟨W1, rfl⟩ : ∃ W1, W1 = wr := ⟨_, rfl⟩
      go_loopw [11, 30] (fun s11 s30 w2 => ∃ (kk : Nat) (lv : Value), kk ≤ N ∧ lv = s11 ∧ s30 = .int .i64 (kk : Nat) ∧ w2.ownsRow W1.heap.size 34 6 lv (ownL X m kk).length (rowV X (ownL X m kk)) ∧ ((ownL X m kk).length = 0 → lv = .slice none 0 0) ∧ Below W1.heap.size W1 w2) (fun _ s30 _ => N - (intOf s30).toNat)
      case atStart => exact ⟨0, .slice none 0 0, Nat.zero_le _, rfl, rfl, World.ownsRow_nil _ _ _ _, fun _ => rfl, Below.refl _ _⟩
      case round =>
        obtain ⟨kk, lv, hkk, rfl, rfl, hown, hnil, hB2⟩ := hrel
        have hlen := ownL_len X m kk
        by_cases hlt : kk < N
        · have hltz : (kk : Int) < (N : Int) := by omega
          obtain rfl := T.out.ha (by omega)
          have hBw := bNext hB1 hB2 (Nat.le_refl _)
          have T1 := T.out.bel hBw
          have x0 := T1.c0 kk hlt (by omega)
          have x1 := T1.c kk 1 hlt (by omega)
          have x2 := T1.c kk 2 hlt (by omega)
          have x3 := T1.c kk 3 hlt (by omega)
          have x4 := T1.c kk 4 hlt (by omega)
          have x5 := T1.c kk 5 hlt (by omega)
          clear T1
          have hwr := hB2.size
          have hal := (Below.refl wr.heap.size wr).alloc (Nat.le_refl _) (.cells #[.int .i64 (X kk 0), .int .i64 (X kk 1), .int .i64 (X kk 2), .int .i64 (X kk 3), .int .i64 (X kk 4), .int .i64 (X kk 5)] 34)
          have hB3 := bNext hB2 hal (Nat.le_refl _)
          by_cases hten : X kk 2 = m
          · have e1 : (X kk 2 == m) = true := by simpa using hten
            have hl := Lib.hid (ownL_in hten)
            have ownU := hown.alloc (.cells #[.int .i64 (X kk 0), .int .i64 (X kk 1), .int .i64 (X kk 2), .int .i64 (X kk 3), .int .i64 (X kk 4), .int .i64 (X kk 5)] 34)
            have bx := blk_new wr [.int .i64 (X kk 0), .int .i64 (X kk 1), .int .i64 (X kk 2), .int .i64 (X kk 3), .int .i64 (X kk 4), .int .i64 (X kk 5)] 34
            replace hten := Lib.hid hten
            replace hnil := Lib.hid hnil
            go_upto_region 11 with fail
            replace bx : Blk (wr.alloc (.cells #[.int .i64 (X kk 0), .int .i64 (X kk 1), .int .i64 (X kk 2), .int .i64 (X kk 3), .int .i64 (X kk 4), .int .i64 (X kk 5)] 34)) wr.heap.size [.int .i64 (X kk 0), .int .i64 (X kk 1), .int .i64 (X kk 2), .int .i64 (X kk 3), .int .i64 (X kk 4), .int .i64 (X kk 5)] := bx
            clear hal hwr
            generalize wr.alloc (.cells #[.int .i64 (X kk 0), .int .i64 (X kk 1), .int .i64 (X kk 2), .int .i64 (X kk 3), .int .i64 (X kk 4), .int .i64 (X kk 5)] 34) = U at ownU bx hB3 ⊢
            generalize wr.heap.size = xb at bx ⊢
            have y0 := bx.c 0 _ rfl
            have y1 := bx.c 1 _ rfl
            have y2 := bx.c 2 _ rfl
            have y3 := bx.c 3 _ rfl
            have y4 := bx.c 4 _ rfl
            have y5 := bx.c 5 _ rfl
            have hUs := hB3.size
            clear bx x0 x1 x2 x3 x4 x5
            go_wp2_with (at_builtin; refine wpList_append_lies _ rfl _ _ 24 (by rfl) W1.heap.size 34 i0 _ 6 48 Try.underlying24 hi0 hz0 hz1 hz2 (by rfl) (by omega) _ _ _ (by rfl) (ownU.alloc _) ⟨U.heap.size, 0, none⟩ 1 1 (sixV (X kk)) (by rfl) (by rfl) (World.news_of_block (cs := #[.int .i64 (X kk 0), .int .i64 (X kk 1), .int .i64 (X kk 2), .int .i64 (X kk 3), .int .i64 (X kk 4), .int .i64 (X kk 5)]) (t := 34) (fr := (0, 0)) (heap_alloc_new U _)) (sixV_one _) (by omega) (by unfold maxLen; omega) (by omega) (by simp; omega) (U.heap.size + 1) (by simp) ?_; intro g1 cap1 w3 hown1 hgrow1 hat1 hlt1)
            have hb3 : Below W1.heap.size W1 w3 := (hB3.alloc (by omega) _).grown hgrow1 (by simp; omega) (fun q hq => by have := (ownU.lt q hq).1; omega)
            go_roundw
            case rel => exact ⟨kk + 1, _, by omega, rfl, by go_num, by rw [hl.out, List.length_append, rowV_snoc]; exact hown1, fun q => by rw [hl.out] at q; simp at q, hb3⟩
            case measure => simp [intOf]; omega
          · have e1 : (X kk 2 == m) = false := by simpa using hten
            have hl := Lib.hid (ownL_out hten)
            have ownU := hown.alloc (.cells #[.int .i64 (X kk 0), .int .i64 (X kk 1), .int .i64 (X kk 2), .int .i64 (X kk 3), .int .i64 (X kk 4), .int .i64 (X kk 5)] 34)
            replace hten := Lib.hid hten
            replace hnil := Lib.hid hnil
            clear hlen
            go_wp2_with fail
            go_roundw
            case rel => exact ⟨kk + 1, _, by omega, rfl, by go_num, by rw [hl.out]; exact ownU, by rw [hl.out]; exact hnil.out, hB3⟩
            case measure => simp [intOf]; omega
        · have hltz : ¬ (kk : Int) < (N : Int) := by omega
          have hkn : N = kk := by omega
          subst hkn
          have hBw := bNext hB1 hB2 (Nat.le_refl _)
          clear hkk hlt
          by_cases hn0 : (ownL X m N).length = 0
          · have hl := hnil hn0
            subst hl
            have hnov : ∀ (q : Int) i k, 1 ≤ q → q < m + 1 → ¬ viols X N Y M h q i k := fun q i k h1 h2 hv => by
              by_cases e : q = m
              · subst e; have := hv.1; unfold ownN at this; omega
              · exact A1.out q i k h1 (by omega) hv
            replace hnov := Lib.hid hnov
            clear hown hnil hn0 hlen hB2
            go_wp2_with fail
            go_roundw
            case rel => exact ⟨m + 1, by omega, by omega, rfl, hBw, (show Aside _ from hnov.out)⟩
            case measure => simp [intOf]; omega
          · obtain ⟨g, cap, rfl, hg1, hg2⟩ := hown.form (by omega)
            have TZ : IntRows wr (some ⟨g, 0, none⟩) g 0 (ownN X m N) 6 (ownX X m N) := ⟨fun _ => rfl, fun _ => hg2, fun i j hi hj => by
              rw [Nat.zero_add]
              exact (hown.cellAt (i * 6 + j) (by unfold ownN at hi; omega)).trans (rowV_at X _ i j hi hj)⟩
            have hZ : ∀ q, q < ownN X m N → (1 ≤ ownX X m N q 0 ∧ ownX X m N q 0 ≤ 1099511627776) ∧ 1 ≤ ownX X m N q 4 ∧ ownX X m N q 4 ≤ 1500 := fun q hq => by
              unfold ownN at hq
              have hmem : (ownL X m N).getD q 0 ∈ ownL X m N := by
                rw [List.getD_eq_getElem?_getD, List.getElem?_eq_getElem hq]
                exact List.getElem_mem hq
              exact hX.out _ (ownL_mem hmem).1
            have hvd : ∀ i k, viols X N Y M h m i k ↔ i < ownN X m N ∧ k < ownN X m N ∧ viol (ownX X m N) (ownN X m N) Y M m h i k := fun i k => Iff.rfl
            have hn1 : 0 < ownN X m N := by unfold ownN; omega
            have hn2 : ownN X m N ≤ 1000 := by unfold ownN; omega
            rw [show (ownL X m N).length = ownN X m N from rfl]
            obtain ⟨n, hn⟩ : ∃ n, ownN X m N = n := ⟨_, rfl⟩
            obtain ⟨Z, hZd⟩ : ∃ Z, ownX X m N = Z := ⟨_, rfl⟩
            rw [hn, hZd] at TZ hZ
            rw [hn, hZd] at hvd
            rw [hn] at hn1 hn2 ⊢
            have hnz : ¬ (n : Int) = 0 := by omega
            have hnz2 : ((n : Int) == 0) = false := by simp; omega
            have hnz3 : (n == 0) = false := by simp; omega
            replace hn := Lib.hid hn
            replace hZd := Lib.hid hZd
            replace TZ := Lib.hid TZ
            replace hZ := Lib.hid hZ
            replace hvd := Lib.hid hvd
            clear hown hnil hn0 hlen hB2 hB1 hg1 hg2
            obtain ⟨W3, rfl⟩ : ∃ W3, W3 = wr := ⟨_, rfl⟩
            go_wp2_with fail
            go_loopw [8, 48] (fun s8 s48 w4 => ∃ i : Nat, i ≤ n ∧ s8 = .int .i64 m ∧ s48 = .int .i64 (i : Nat) ∧ Below W3.heap.size W3 w4 ∧ Aside (∀ i' k', i' < i → ¬ viols X N Y M h m i' k')) (fun _ s48 _ => n - (intOf s48).toNat)
            case atStart => exact ⟨0, Nat.zero_le _, rfl, rfl, Below.refl _ _, fun i' k' q => absurd q (Nat.not_lt_zero _)⟩
            case round =>
              obtain ⟨i, hi, rfl, rfl, hB4, A3⟩ := hrel
              by_cases hlt : i < n
              · have hltz : (i : Int) < (n : Int) := by omega
                have T4 := TZ.out.bel hB4
                have x0 := T4.c0 i hlt (by omega)
                have x1 := T4.c i 1 hlt (by omega)
                have x2 := T4.c i 2 hlt (by omega)
                have x3 := T4.c i 3 hlt (by omega)
                have x4 := T4.c i 4 hlt (by omega)
                have x5 := T4.c i 5 hlt (by omega)
                rw [Nat.zero_add] at x0 x1 x2 x3 x4 x5
                clear T4
                have hB5 := bNext hB4 ((Below.refl wr.heap.size wr).alloc (Nat.le_refl _) (.cells #[.int .i64 (Z i 0), .int .i64 (Z i 1), .int .i64 (Z i 2), .int .i64 (Z i 3), .int .i64 (Z i 4), .int .i64 (Z i 5)] 34)) (Nat.le_refl _)
                have bx : Blk (wr.alloc (.cells #[.int .i64 (Z i 0), .int .i64 (Z i 1), .int .i64 (Z i 2), .int .i64 (Z i 3), .int .i64 (Z i 4), .int .i64 (Z i 5)] 34)) wr.heap.size [.int .i64 (Z i 0), .int .i64 (Z i 1), .int .i64 (Z i 2), .int .i64 (Z i 3), .int .i64 (Z i 4), .int .i64 (Z i 5)] := blk_new wr [.int .i64 (Z i 0), .int .i64 (Z i 1), .int .i64 (Z i 2), .int .i64 (Z i 3), .int .i64 (Z i 4), .int .i64 (Z i 5)] 34
                go_upto_region 17 with fail
                generalize wr.alloc (.cells #[.int .i64 (Z i 0), .int .i64 (Z i 1), .int .i64 (Z i 2), .int .i64 (Z i 3), .int .i64 (Z i 4), .int .i64 (Z i 5)] 34) = W5 at hB5 bx ⊢
                generalize wr.heap.size = xb at bx ⊢
                clear x0 x1 x2 x3 x4 x5 hB4
                go_wp2_with fail
                go_loopw [8, 16, 55] (fun s8 s16 s55 w6 => ∃ k : Nat, k ≤ n ∧ s8 = .int .i64 m ∧ s16 = .int .i64 (sumI Z (Z i 0) k) ∧ s55 = .int .i64 (k : Nat) ∧ Below W5.heap.size W5 w6 ∧ Aside (∀ k', k' < k → ¬ viols X N Y M h m i k')) (fun _ _ s55 _ => n - (intOf s55).toNat)
                case atStart => exact ⟨0, Nat.zero_le _, rfl, rfl, rfl, Below.refl _ _, fun k' q => absurd q (Nat.not_lt_zero _)⟩
                case round =>
                  obtain ⟨k, hk, rfl, rfl, rfl, hB6, A4⟩ := hrel
                  by_cases hlk : k < n
                  · have hlkz : (k : Int) < (n : Int) := by omega
                    have T6 := (TZ.out.bel hB5).bel hB6
                    have y0 := T6.c0 k hlk (by omega)
                    have y1 := T6.c k 1 hlk (by omega)
                    have y2 := T6.c k 2 hlk (by omega)
                    have y3 := T6.c k 3 hlk (by omega)
                    have y4 := T6.c k 4 hlk (by omega)
                    have y5 := T6.c k 5 hlk (by omega)
                    rw [Nat.zero_add] at y0 y1 y2 y3 y4 y5
                    clear T6
                    have hal := (Below.refl wr.heap.size wr).alloc (Nat.le_refl _) (.cells #[.int .i64 (Z k 0), .int .i64 (Z k 1), .int .i64 (Z k 2), .int .i64 (Z k 3), .int .i64 (Z k 4), .int .i64 (Z k 5)] 34)
                    have hB7 := bNext hB6 hal (Nat.le_refl _)
                    have by7 : Blk (wr.alloc (.cells #[.int .i64 (Z k 0), .int .i64 (Z k 1), .int .i64 (Z k 2), .int .i64 (Z k 3), .int .i64 (Z k 4), .int .i64 (Z k 5)] 34)) wr.heap.size [.int .i64 (Z k 0), .int .i64 (Z k 1), .int .i64 (Z k 2), .int .i64 (Z k 3), .int .i64 (Z k 4), .int .i64 (Z k 5)] := blk_new wr [.int .i64 (Z k 0), .int .i64 (Z k 1), .int .i64 (Z k 2), .int .i64 (Z k 3), .int .i64 (Z k 4), .int .i64 (Z k 5)] 34
                    clear hal
                    go_upto_region 21 with fail
                    generalize wr.alloc (.cells #[.int .i64 (Z k 0), .int .i64 (Z k 1), .int .i64 (Z k 2), .int .i64 (Z k 3), .int .i64 (Z k 4), .int .i64 (Z k 5)] 34) = W7 at hB7 by7 ⊢
                    generalize wr.heap.size = yb at by7 ⊢
                    clear y0 y1 y2 y3 y4 y5 hB6
                    obtain ⟨⟨t1, t2⟩, t3, t4⟩ := hZ.out k hlk
                    obtain ⟨⟨r1, r2⟩, _, _⟩ := hZ.out i hlt
                    obtain ⟨o1, o2⟩ := sumI_bd (Z := Z) (Z i 0) (fun q hq => by have := hZ.out q hq; omega) k (by omega)
                    have x0 := (bx.bel hB7).c 0 _ rfl
                    have y0 := by7.c 0 _ rfl
                    have y4 := by7.c 4 _ rfl
                    go_upto_if 64 with fail
                    go_cut [16] from 56 to 111 (fun s16 wx => s16 = .int .i64 (sumI Z (Z i 0) (k + 1)) ∧ W7 = wx)
                    case first =>
                      have hs : sumI Z (Z i 0) (k + 1) = sumI Z (Z i 0) k + if Z i 0 ≤ Z k 0 then Z k 4 else 0 := rfl
                      obtain ⟨O, hO⟩ : ∃ O, sumI Z (Z i 0) k = O := ⟨_, rfl⟩
                      rw [hO] at hs o1 o2 ⊢
                      by_cases hp : Z i 0 ≤ Z k 0
                      · rw [if_pos hp] at hs
                        replace hs := Lib.hid hs
                        clear hO
                        go_wp2_with fail
                        go_meet
                        case rel => exact ⟨by rw [hs.out], rfl⟩
                      · rw [if_neg hp, Int.add_zero] at hs
                        replace hs := Lib.hid hs
                        clear hO
                        go_wp2_with fail
                        go_meet
                        case rel => exact ⟨by rw [hs.out], rfl⟩
                    obtain ⟨rfl, rfl⟩ := hcut
                    obtain ⟨S1, hS1⟩ : ∃ S1, sumI Z (Z i 0) (k + 1) = S1 := ⟨_, rfl⟩
                    obtain ⟨p1, p2⟩ := sumI_bd (Z := Z) (Z i 0) (fun q hq => by have := hZ.out q hq; omega) (k + 1) (by omega)
                    rw [hS1] at p1 p2 ⊢
                    replace hS1 := Lib.hid hS1
                    obtain ⟨L, hL⟩ : ∃ L : Bool, L = true ↔ (k + 1 = n ∨ Z k 0 < Z (k + 1) 0) := by
                      by_cases q : k + 1 = n ∨ Z k 0 < Z (k + 1) 0
                      · exact ⟨true, fun _ => q, fun _ => rfl⟩
                      · exact ⟨false, (fun q2 => by cases q2), fun q2 => absurd q2 q⟩
                    go_upto_region 23 with fail
                    go_cut [19] from 56 to 111 (fun s19 wx => s19 = .bool L ∧ Below W7.heap.size W7 wx)
                    case first =>
                      have k1 := IntWalk.i64_in ((k : Int) + 1) (by omega)
                      have k2 : 0 ≤ (k : Int) + 1 := by omega
                      have k3 : ((k : Int) + 1).toNat = k + 1 := by omega
                      by_cases hq : k + 1 = n
                      · have e1 : ((k : Int) + 1 == (n : Int)) = true := by simp; omega
                        obtain rfl : L = true := hL.2 (.inl hq)
                        replace hq := Lib.hid hq
                        replace hL := Lib.hid hL
                        go_wp2_with fail
                        go_big_quiet (fail)
                        go_wp2_with fail
                        go_meet
                        case rel => exact ⟨rfl, bDrew (Below.refl _ _) nq⟩
                      · have e1 : ((k : Int) + 1 == (n : Int)) = false := by simp; omega
                        have z1 := ((TZ.out.bel hB5).bel hB7).c0 (k + 1) (by omega) (by omega)
                        rw [Nat.zero_add] at z1
                        have k4 : (k : Int) + 1 < (n : Int) := by omega
                        by_cases hq2 : Z k 0 < Z (k + 1) 0
                        · obtain rfl : L = true := hL.2 (.inr hq2)
                          replace hL := Lib.hid hL
                          go_wp2_with fail
                          go_big_quiet (fail)
                          go_wp2_with fail
                          go_meet
                          case rel => exact ⟨rfl, bDrew (Below.refl _ _) nq⟩
                        · obtain rfl : L = false := by cases L; rfl; exact absurd (hL.1 rfl) (fun q => by rcases q with q | q; exact hq q; exact hq2 q)
                          replace hL := Lib.hid hL
                          go_wp2_with fail
                          go_big_quiet (fail)
                          go_wp2_with fail
                          go_meet
                          case rel => exact ⟨by rw [decide_eq_false (by omega)], bDrew (Below.refl _ _) nq⟩
                    obtain ⟨rfl, hwc⟩ := hcut
                    have hB8 := bNext hB7 hwc (Nat.le_refl _)
                    have x0 := (bx.bel hB8).c 0 _ rfl
                    have y0 := (by7.bel hwc).c 0 _ rfl
                    clear hwc by7 hB7 y4
                    replace hL := Lib.hid hL
                    have hBc := bNext (bNext hBw (bNext hB5 hB8 (Nat.le_refl _)) (Nat.le_refl _)) (Below.refl _ _) (Nat.le_refl _)
                    by_cases hik : i ≤ k
                    · have d1 : decide (i ≤ k) = true := decide_eq_true hik
                      have d2 : (i : Int) ≤ (k : Int) := by omega
                      cases L with
                      | false =>
                        have hno : ∀ k', k' < k + 1 → ¬ viols X N Y M h m i k' := fun k' hk' hv => by
                          by_cases e : k' = k
                          · subst e; have hv2 := (hvd.out i k').1 hv; exact by have := hL.out.2 hv2.2.2.2.1; cases this
                          · exact A4.out k' (by omega) hv
                        replace hno := Lib.hid hno
                        go_wp2_with fail
                        go_roundw
                        case rel => exact ⟨k + 1, by omega, rfl, by rw [hS1.out], by go_num, hB8, (show Aside _ from hno.out)⟩
                        case measure => simp [intOf]; omega
                      | true =>
                        have hbd := hbo.out wc hBc m (Z i 0 - 1) (Z k 0)
                        obtain ⟨Bd, hBd⟩ : ∃ Bd, boundI Y M m (Z i 0 - 1) (Z k 0) h = Bd := ⟨_, rfl⟩
                        rw [hBd] at hbd
                        replace hBd := Lib.hid hBd
                        by_cases hvi : Bd < 1000 * S1
                        · have hvv : viols X N Y M h m i k := (hvd.out i k).2 ⟨hlt, hlk, hik, hL.out.1 rfl, by rw [hBd.out, hS1.out]; exact hvi⟩
                          have hA : KeptA X N Y M h (Z i 0 - 1) (Z k 0) m false := .inr ⟨rfl, hm1, hm, i, k, hvv, by rw [hZd.out], by rw [hZd.out], A1.out, A3.out, A4.out⟩
                          replace hvv := Lib.hid hvv
                          replace hA := Lib.hid hA
                          go_wp2_with fail
                          refine hbd.mono ?_
                          rintro e u9 ⟨rfl, hu9⟩
                          have x0 := cellB hu9 x0
                          have y0 := cellB hu9 y0
                          go_wp2_with fail
                          go_big_quiet (fail)
                          go_wp2_with fail
                          try rw [Exit.noGoto_ret]
                          exact bodyPost_ret (v := .tuple #[.int .i64 (Z i 0 - 1), .int .i64 (Z k 0), .int .i64 m, .bool false, .int .i64 0]) (by simp [results, Try.results8, go_sem]) rfl ⟨_, _, _, _, rfl, hA.out, bDrew (bNext hBc hu9 (Nat.le_refl _)) nq⟩
                        · have hno : ∀ k', k' < k + 1 → ¬ viols X N Y M h m i k' := fun k' hk' hv => by
                            by_cases e : k' = k
                            · subst e; have hv2 := (hvd.out i k').1 hv; exact hvi (by have := hv2.2.2.2.2; rw [hBd.out, hS1.out] at this; exact this)
                            · exact A4.out k' (by omega) hv
                          replace hno := Lib.hid hno
                          go_wp2_with fail
                          refine hbd.mono ?_
                          rintro e u9 ⟨rfl, hu9⟩
                          go_wp2_with fail
                          go_roundw
                          case rel => exact ⟨k + 1, by omega, rfl, by rw [hS1.out], by go_num, bNext hB8 hu9 (Nat.le_refl _), (show Aside _ from hno.out)⟩
                          case measure => simp [intOf]; omega
                    · have d1 : decide (i ≤ k) = false := decide_eq_false hik
                      have d2 : ¬ (i : Int) ≤ (k : Int) := by omega
                      have hno : ∀ k', k' < k + 1 → ¬ viols X N Y M h m i k' := fun k' hk' hv => by
                        by_cases e : k' = k
                        · subst e; have hv2 := (hvd.out i k').1 hv; exact hik hv2.2.2.1
                        · exact A4.out k' (by omega) hv
                      replace hno := Lib.hid hno
                      go_wp2_with fail
                      go_roundw
                      case rel => exact ⟨k + 1, by omega, rfl, by rw [hS1.out], by go_num, hB8, (show Aside _ from hno.out)⟩
                      case measure => simp [intOf]; omega
                  · have hlkz : ¬ (k : Int) < (n : Int) := by omega
                    have hnov : ∀ i' k', i' < i + 1 → ¬ viols X N Y M h m i' k' := fun i' k' h1 hv => by
                      by_cases e : i' = i
                      · subst e; have := hv.2.1; rw [hn.out] at this; exact A4.out k' (by omega) hv
                      · exact A3.out i' k' (by omega) hv
                    replace hnov := Lib.hid hnov
                    go_wp2_with fail
                    go_roundw
                    case rel => exact ⟨i + 1, by omega, rfl, by go_num, bNext hB5 hB6 (Nat.le_refl _), (show Aside _ from hnov.out)⟩
                    case measure => simp [intOf]; omega
              · have hltz : ¬ (i : Int) < (n : Int) := by omega
                have hnov : ∀ (q : Int) i' k, 1 ≤ q → q < m + 1 → ¬ viols X N Y M h q i' k := fun q i' k h1 h2 hv => by
                  by_cases e : q = m
                  · subst e; have := hv.1; rw [hn.out] at this; exact A3.out i' k (by omega) hv
                  · exact A1.out q i' k h1 (by omega) hv
                replace hnov := Lib.hid hnov
                go_wp2_with fail
                go_roundw
                case rel => exact ⟨m + 1, by omega, by omega, rfl, bNext hBw hB4 (Nat.le_refl _), (show Aside _ from hnov.out)⟩
                case measure => simp [intOf]; omega
    · go_wp2_with fail
      try rw [Exit.noGoto_ret]
      refine bodyPost_ret (v := .tuple #[.int .i64 0, .int .i64 0, .int .i64 0, .bool true, .int .i64 0]) (by simp [results, Try.results8, go_sem]) rfl ⟨0, 0, 0, true, rfl, .inl ⟨rfl, rfl, rfl, rfl, fun q i k h1 h2 => A1.out q i k h1 (by omega)⟩, hB1⟩
end Go.Proofs.Ytjdkpoggcpckcaa
