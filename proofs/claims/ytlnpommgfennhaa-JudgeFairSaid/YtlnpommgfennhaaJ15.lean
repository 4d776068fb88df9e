/- The judge: whether a flow got its share: the walks. -/
import Derived.Test.YtlnpommgfennhaaJ14
namespace Go.Proofs.Ytlnpommgfennhaa
open Go.ChangeShapes Go.WideShapes Go.ChangeAt Go.RowKit
set_option linter.unusedVariables false
set_option linter.unusedSimpArgs false
open BigFrame Bs Jd
attribute [local go_sem] mx_fold mn_fold

theorem clamp_mm (n : Int) : mn 1500 (mx n 0) = clampI n := by rw [mn_eq, mx_eq]; unfold clampI; omega

set_option maxRecDepth 100000 in
theorem brought_c (n : Int) (w : World) : Calls Try.prog 31 #[.int .i64 n] w fun e w' => e = .returned (.int .i64 (clampI n)) ∧ w = w' := by
  rw [← clamp_mm]
  go_enter Try.func31, Try.ntmps31
  go_wp2_with fail
  go_ret
  exact ⟨rfl, rfl⟩

set_option maxRecDepth 100000 in
set_option maxHeartbeats 8000000 in
theorem jfair_c (ok : Bool) (a a2 : Option Addr) (b off n c b2 off2 N c2 : Nat) (F X : Nat → Nat → Int) (fl least most : Int) (w : World) (T : IntRows w a b off n 3 F) (T2 : IntRows w a2 b2 off2 N 6 X) (hn : n ≤ 60) (hN : N ≤ 60) (hok : ok = true ↔ FairOk F n X N fl least most) :
    Calls Try.prog 15 #[.slice a n c, .slice a2 N c2, .int .i64 fl, .int .i64 least, .int .i64 most] w fun e w' => e = .returned (.bool ok) ∧ Below w.heap.size w w' := by
  have hni : (n : Int) ≤ 60 := by omega
  have hNi : (N : Int) ≤ 60 := by omega
  by_cases h1 : fl < 0
  · obtain rfl : ok = false := by cases ok; rfl; have := (hok.1 rfl).1; omega
    clear hok T T2
    go_enter Try.func15, Try.ntmps15
    go_wp2_with fail
    go_ret
    exact ⟨rfl, Below.refl _ _⟩
  by_cases h2 : (n : Int) ≤ fl
  · obtain rfl : ok = false := by cases ok; rfl; have := (hok.1 rfl).1; omega
    clear hok T T2
    go_enter Try.func15, Try.ntmps15
    go_wp2_with fail
    go_ret
    exact ⟨rfl, Below.refl _ _⟩
  by_cases h3 : (8 : Int) < (n : Int)
  · obtain rfl : ok = false := by cases ok; rfl; have := (hok.1 rfl).2.1; omega
    clear hok T T2
    go_enter Try.func15, Try.ntmps15
    go_wp2_with fail
    go_ret
    exact ⟨rfl, Below.refl _ _⟩
  obtain ⟨f, rfl⟩ : ∃ f : Nat, fl = (f : Int) := ⟨fl.toNat, by omega⟩
  have hfn : f < n := by omega
  have hn8 : n ≤ 8 := by omega
  have hbad : ∀ i, i < n → ¬ (1 ≤ F i 1 ∧ F i 1 ≤ 16) → ok = false := fun i hi q => by
    cases ok
    · rfl
    · exact absurd ((hok.1 rfl).2.2.1 i hi) q
  replace hok := Lib.hid hok
  replace hbad := Lib.hid hbad
  replace T := Lib.hid T
  replace T2 := Lib.hid T2
  have hb0 := (Below.refl w.heap.size w).alloc (Nat.le_refl _) (.cells #[.int .i64 0, .int .i64 0, .int .i64 0, .int .i64 0, .int .i64 0, .int .i64 0, .int .i64 0, .int .i64 0] 57)
  have ba := blk_new w [.int .i64 0, .int .i64 0, .int .i64 0, .int .i64 0, .int .i64 0, .int .i64 0, .int .i64 0, .int .i64 0] 57
  rw [← arrL_zero F] at ba
  go_enter Try.func15, Try.ntmps15
  go_upto_region 4 with fail
  replace ba : Blk (w.alloc (.cells #[.int .i64 0, .int .i64 0, .int .i64 0, .int .i64 0, .int .i64 0, .int .i64 0, .int .i64 0, .int .i64 0] 57)) w.heap.size (arrL F 0) := ba
  generalize w.alloc (.cells #[.int .i64 0, .int .i64 0, .int .i64 0, .int .i64 0, .int .i64 0, .int .i64 0, .int .i64 0, .int .i64 0] 57) = W1 at hb0 ba ⊢
  obtain ⟨ab, hab⟩ : ∃ ab, w.heap.size = ab := ⟨_, rfl⟩
  have hle : w.heap.size ≤ ab := by omega
  rw [hab] at ba ⊢
  replace hab := Lib.hid hab
  go_wp2_with fail
  go_loopw [12, 38] (fun s12 s38 wr => ∃ kk : Nat, kk ≤ n ∧ s12 = .int .i64 (SW F kk) ∧ s38 = .int .i64 (kk : Nat) ∧ Below w.heap.size w wr ∧ Blk wr ab (arrL F kk) ∧ Aside (∀ i, i < kk → 1 ≤ F i 1 ∧ F i 1 ≤ 16)) (fun _ s38 _ => n - (intOf s38).toNat)
  case atStart => exact ⟨0, Nat.zero_le _, rfl, rfl, by rw [hab.out]; rw [hab.out] at hb0; exact hb0, ba, fun i hi => absurd hi (Nat.not_lt_zero _)⟩
  case round =>
    obtain ⟨kk, hkk, rfl, rfl, hB, bk, A⟩ := hrel
    by_cases hlt : kk < n
    · have hltz : (kk : Int) < (n : Int) := by omega
      have hk8 : (kk : Int) < 8 := by omega
      obtain rfl := T.out.ha (by omega)
      have T1 := T.out.bel hB
      have x0 := T1.c0 kk hlt (by omega)
      have x1 := T1.c kk 1 hlt (by omega)
      have x2 := T1.c kk 2 hlt (by omega)
      have hal := (Below.refl wr.heap.size wr).alloc (Nat.le_refl _) (.cells #[.int .i64 (F kk 0), .int .i64 (F kk 1), .int .i64 (F kk 2)] 59)
      have hB2 := bNext hB hal (Nat.le_refl _)
      have bx : Blk (wr.alloc (.cells #[.int .i64 (F kk 0), .int .i64 (F kk 1), .int .i64 (F kk 2)] 59)) wr.heap.size [.int .i64 (F kk 0), .int .i64 (F kk 1), .int .i64 (F kk 2)] := blk_new wr [.int .i64 (F kk 0), .int .i64 (F kk 1), .int .i64 (F kk 2)] 59
      have bk2 := bk.bel hal
      have hne : wr.heap.size ≠ ab := fun q => by have := bk.l; omega
      obtain ⟨s0, s1⟩ := SW_bd (F := F) A.out kk (Nat.le_refl _)
      have hsw : SW F (kk + 1) = SW F kk + F kk 1 := rfl
      obtain ⟨sw, hs⟩ : ∃ sw, SW F kk = sw := ⟨_, rfl⟩
      rw [hs] at hsw s0 s1 ⊢
      replace hsw := Lib.hid hsw
      clear hs
      go_upto_region 8 with fail
      clear x0 x1 x2 T1 hal bk
      generalize wr.alloc (.cells #[.int .i64 (F kk 0), .int .i64 (F kk 1), .int .i64 (F kk 2)] 59) = U at hB2 bx bk2 ⊢
      generalize wr.heap.size = xb at bx hne ⊢
      have y1 := bx.c 1 _ rfl
      by_cases c1 : F kk 1 < 1
      · obtain rfl := hbad.out kk hlt (by omega)
        go_wp2_with fail
        go_ret
        exact ⟨rfl, hB2⟩
      by_cases c2 : 16 < F kk 1
      · obtain rfl := hbad.out kk hlt (by omega)
        go_wp2_with fail
        go_ret
        exact ⟨rfl, hB2⟩
      have z0 := bk2.c kk _ (arrL_at F kk kk (by omega))
      rw [if_neg (by omega)] at z0
      have z1 := bk2.f kk
      have y2 := (bx.other (o := kk) hne (.int .i64 (F kk 1))).c 1 _ rfl
      have bk3 := bk2.set (i := kk) (by rw [arrL_len]; omega) (.int .i64 (F kk 1))
      rw [arrL_set F kk (by omega)] at bk3
      have hB3 : Below w.heap.size w (U.setCell ⟨ab, kk, none⟩ (.int .i64 (F kk 1))) := hB2.setCell hle _
      have A2 : ∀ i, i < kk + 1 → 1 ≤ F i 1 ∧ F i 1 ≤ 16 := fun i hi => by
        by_cases e : i = kk
        · subst e; omega
        · exact A.out i (by omega)
      replace A2 := Lib.hid A2
      replace bk3 := Lib.hid bk3
      clear bk2 bx
      go_wp2_with fail
      go_roundw
      case rel => exact ⟨kk + 1, by omega, by rw [hsw.out], by go_num, hB3, bk3.out, (show Aside _ from A2.out)⟩
      case measure => simp [intOf]; omega
    · have hltz : ¬ (kk : Int) < (n : Int) := by omega
      obtain rfl : n = kk := by omega
      have hw0 := A.out f hfn
      have hsw := SW_bd (F := F) A.out n (Nat.le_refl _)
      have hL := clampI_bd least
      have hMo := clampI_bd most
      have hsb := slack_bd (L := clampI least) (Mo := clampI most) (w := F f 1) (all := SW F n) hL hMo (by omega) (by omega)
      have z0 := bk.c f _ (arrL_at F n f (by omega))
      rw [if_pos hfn] at z0
      have hf8 : (f : Int) < 8 := by omega
      have hfz : (0 : Int) ≤ (f : Int) := by omega
      have hkd := fun i => kad_bd (d := dI X f (F f 1) (SW F n)) (D := 1440000) (dI_bd (by omega) (by omega)) i
      have hge : ∀ i, i < N → (slackI (clampI least) (clampI most) (F f 1) (SW F n) < kad (dI X f (F f 1) (SW F n)) (i + 1)) → ok = false := fun i hi q => by
        obtain ⟨a0, ha0, q2⟩ := (kad_iff _ i _).1 q
        cases ok
        · rfl
        · exact absurd q2 ((hok.out.1 rfl).2.2.2 a0 i ha0 hi)
      have hyes : (∀ i, i < N → kad (dI X f (F f 1) (SW F n)) (i + 1) ≤ slackI (clampI least) (clampI most) (F f 1) (SW F n)) → ok = true := fun q =>
        hok.out.2 ⟨by omega, hn8, A.out, fun a0 i ha0 hi q2 => by have q3 := q i hi; have q4 := (kad_iff _ i _).2 ⟨a0, ha0, q2⟩; exact absurd q4 (Int.not_lt.2 q3)⟩
      have hdI : ∀ i, dI X f (F f 1) (SW F n) i = if X i 3 = f then F f 1 * clampI (X i 4) - clampI (X i 4) * SW F n else F f 1 * clampI (X i 4) := fun i => rfl
      have hprod : ∀ g, 0 ≤ clampI g → clampI g ≤ 1500 → (0 ≤ F f 1 * clampI g ∧ F f 1 * clampI g ≤ 24000) ∧ 0 ≤ clampI g * SW F n ∧ clampI g * SW F n ≤ 1440000 := fun g g1 g2 => by
        have q1 : 0 ≤ F f 1 * clampI g := Int.mul_nonneg (by omega) g1
        have q2 : F f 1 * clampI g ≤ 16 * 1500 := Int.mul_le_mul (by omega) g2 g1 (by omega)
        have q3 : 0 ≤ clampI g * SW F n := Int.mul_nonneg g1 (by omega)
        have q4 : clampI g * SW F n ≤ 1500 * 960 := Int.mul_le_mul g2 (by omega) (by omega) (by omega)
        omega
      obtain ⟨d, hd⟩ : ∃ d, dI X f (F f 1) (SW F n) = d := ⟨_, rfl⟩
      have hsl : slackI (clampI least) (clampI most) (F f 1) (SW F n) = 2 * clampI least * SW F n + (clampI most - 2 * clampI least) * F f 1 := rfl
      obtain ⟨sl, hsle⟩ : ∃ sl, slackI (clampI least) (clampI most) (F f 1) (SW F n) = sl := ⟨_, rfl⟩
      rw [hsle] at hsl
      simp only [hd, hsle] at hge hyes hkd hdI
      clear hd hsle hw0
      obtain ⟨wt, hwt⟩ : ∃ wt, F f 1 = wt := ⟨_, rfl⟩
      obtain ⟨al, hal⟩ : ∃ al, SW F n = al := ⟨_, rfl⟩
      have cL := fun W => brought_c least W
      have cM := fun W => brought_c most W
      obtain ⟨L, hLe⟩ : ∃ L, clampI least = L := ⟨_, rfl⟩
      obtain ⟨Mo, hMe⟩ : ∃ Mo, clampI most = Mo := ⟨_, rfl⟩
      simp only [hwt, hal, hLe, hMe] at hsl hdI hprod hsb hL hMo cL cM
      rw [hwt] at z0
      rw [hal]
      obtain ⟨p1, hp1⟩ : ∃ p1, 2 * L * al = p1 := ⟨_, rfl⟩
      obtain ⟨p2, hp2⟩ : ∃ p2, (Mo - 2 * L) * wt = p2 := ⟨_, rfl⟩
      rw [hp1, hp2] at hsb hsl
      have hw1 : wrap64 (2 * L * al) = p1 := by rw [hp1]; unfold wrap64; omega
      have hw2 : wrap64 ((Mo - 2 * L) * wt) = p2 := by rw [hp2]; unfold wrap64; omega
      replace hsl := Lib.hid hsl
      obtain ⟨⟨b1, b2⟩, b3, b4⟩ := hsb
      obtain ⟨l1, l2⟩ := hL
      obtain ⟨l3, l4⟩ := hMo
      clear hp1 hp2 hwt hal hLe hMe hsw bk A hok hbad T hb0 ba
      replace hge := Lib.hid hge
      replace hyes := Lib.hid hyes
      replace hkd := Lib.hid hkd
      replace hdI := Lib.hid hdI
      replace hprod := Lib.hid hprod
      replace cL := Lib.hid cL
      replace cM := Lib.hid cM
      go_wp2_with fail
      refine (cL.out _).mono ?_
      rintro e w' ⟨rfl, rfl⟩
      go_wp2_with fail
      refine (cM.out _).mono ?_
      rintro e w' ⟨rfl, rfl⟩
      go_wp2_with fail
      refine (cL.out _).mono ?_
      rintro e w' ⟨rfl, rfl⟩
      go_upto_region 16 with fail
      rw [← hsl.out]
      clear hw1 hw2 cL cM
      go_wp2_with fail
      obtain ⟨W2, rfl⟩ : ∃ W2, W2 = wr := ⟨_, rfl⟩
      go_loopw [18, 82] (fun s18 s82 wx => ∃ i : Nat, i ≤ N ∧ s18 = .int .i64 (kad d i) ∧ s82 = .int .i64 (i : Nat) ∧ Below w.heap.size w wx ∧ Aside (∀ j, j < i → kad d (j + 1) ≤ sl)) (fun _ s82 _ => N - (intOf s82).toNat)
      case atStart => exact ⟨0, Nat.zero_le _, rfl, rfl, hB, fun j hj => absurd hj (Nat.not_lt_zero _)⟩
      case round =>
        obtain ⟨i, hi, rfl, rfl, hB4, A4⟩ := hrel
        by_cases hlt : i < N
        · have hltz : (i : Int) < (N : Int) := by omega
          obtain rfl := T2.out.ha (by omega)
          have T3 := T2.out.bel hB4
          have x0 := T3.c0 i hlt (by omega)
          have x1 := T3.c i 1 hlt (by omega)
          have x2 := T3.c i 2 hlt (by omega)
          have x3 := T3.c i 3 hlt (by omega)
          have x4 := T3.c i 4 hlt (by omega)
          have x5 := T3.c i 5 hlt (by omega)
          have hB5 := bNext hB4 ((Below.refl wr.heap.size wr).alloc (Nat.le_refl _) (.cells #[.int .i64 (X i 0), .int .i64 (X i 1), .int .i64 (X i 2), .int .i64 (X i 3), .int .i64 (X i 4), .int .i64 (X i 5)] 44)) (Nat.le_refl _)
          have bx : Blk (wr.alloc (.cells #[.int .i64 (X i 0), .int .i64 (X i 1), .int .i64 (X i 2), .int .i64 (X i 3), .int .i64 (X i 4), .int .i64 (X i 5)] 44)) wr.heap.size [.int .i64 (X i 0), .int .i64 (X i 1), .int .i64 (X i 2), .int .i64 (X i 3), .int .i64 (X i 4), .int .i64 (X i 5)] := blk_new wr [.int .i64 (X i 0), .int .i64 (X i 1), .int .i64 (X i 2), .int .i64 (X i 3), .int .i64 (X i 4), .int .i64 (X i 5)] 44
          go_upto_region 20 with fail
          clear x0 x1 x2 x3 x4 x5 T3
          generalize wr.alloc (.cells #[.int .i64 (X i 0), .int .i64 (X i 1), .int .i64 (X i 2), .int .i64 (X i 3), .int .i64 (X i 4), .int .i64 (X i 5)] 44) = U at hB5 bx ⊢
          generalize wr.heap.size = xb at bx ⊢
          have y3 := bx.c 3 _ rfl
          have y4 := bx.c 4 _ rfl
          have cb := brought_c (X i 4) U
          obtain ⟨g1, g2⟩ := clampI_bd (X i 4)
          have hpr := hprod.out (X i 4) g1 g2
          have hdi := hdI.out i
          have hk1 := hkd.out i
          have hkn : kad d (i + 1) = max (kad d i) 0 + d i := rfl
          have hg1 := hge.out i hlt
          obtain ⟨g, hg⟩ : ∃ g, clampI (X i 4) = g := ⟨_, rfl⟩
          rw [hg] at cb g1 g2 hpr hdi
          obtain ⟨e1, he1⟩ : ∃ e1, wt * g = e1 := ⟨_, rfl⟩
          obtain ⟨e2, he2⟩ : ∃ e2, g * al = e2 := ⟨_, rfl⟩
          rw [he1, he2] at hpr hdi
          obtain ⟨⟨m1, m2⟩, m3, m4⟩ := hpr
          have hwa : wrap64 (wt * g) = e1 := by rw [he1]; unfold wrap64; omega
          have hwb : wrap64 (g * al) = e2 := by rw [he2]; unfold wrap64; omega
          obtain ⟨K, hK⟩ : ∃ K, kad d i = K := ⟨_, rfl⟩
          rw [hK] at hk1 hkn ⊢
          obtain ⟨K2, hK2⟩ : ∃ K2, kad d (i + 1) = K2 := ⟨_, rfl⟩
          rw [hK2] at hkn hg1
          obtain ⟨k1, k2⟩ := hk1
          have hmx : mx K 0 = max K 0 := mx_eq _ _
          obtain ⟨K0, hK0⟩ : ∃ K0, max K 0 = K0 := ⟨_, rfl⟩
          have hK0b : 0 ≤ K0 ∧ K0 ≤ 86400000 := by omega
          rw [hK0] at hmx hkn
          obtain ⟨q1, q2⟩ := hK0b
          clear hg he1 he2 hK hK0
          replace hK2 := Lib.hid hK2
          replace hg1 := Lib.hid hg1
          have A5 : K2 ≤ sl → ∀ j, j < i + 1 → kad d (j + 1) ≤ sl := fun q j hj => by
            by_cases e : j = i
            · subst e; rw [hK2.out]; exact q
            · exact A4.out j (by omega)
          replace A5 := Lib.hid A5
          by_cases hfl : X i 3 = (f : Int)
          · rw [if_pos hfl] at hdi
            have hfb : (X i 3 == (f : Int)) = true := by simpa using hfl
            have hk3 : K2 = K0 + (e1 - e2) := by omega
            clear hdi hkn
            by_cases hv : sl < K2
            · obtain rfl := hg1.out hv
              rw [hk3] at hv
              replace hk3 := Lib.hid hk3
              replace hfl := Lib.hid hfl
              go_wp2_with fail
              refine cb.mono ?_
              rintro e w' ⟨rfl, rfl⟩
              go_wp2_with fail
              go_ret
              exact ⟨rfl, hB5⟩
            · have A6 := Lib.hid (A5.out (by omega))
              rw [hk3] at hv
              replace hk3 := Lib.hid hk3
              replace hfl := Lib.hid hfl
              go_wp2_with fail
              refine cb.mono ?_
              rintro e w' ⟨rfl, rfl⟩
              go_wp2_with fail
              go_roundw
              case rel => exact ⟨i + 1, by omega, by rw [hK2.out, hk3.out], by go_num, hB5, (show Aside _ from A6.out)⟩
              case measure => simp [intOf]; omega
          · rw [if_neg hfl] at hdi
            have hfb : (X i 3 == (f : Int)) = false := by simpa using hfl
            have hk3 : K2 = K0 + e1 := by omega
            clear hdi hkn
            by_cases hv : sl < K2
            · obtain rfl := hg1.out hv
              rw [hk3] at hv
              replace hk3 := Lib.hid hk3
              replace hfl := Lib.hid hfl
              go_wp2_with fail
              refine cb.mono ?_
              rintro e w' ⟨rfl, rfl⟩
              go_wp2_with fail
              go_ret
              exact ⟨rfl, hB5⟩
            · have A6 := Lib.hid (A5.out (by omega))
              rw [hk3] at hv
              replace hk3 := Lib.hid hk3
              replace hfl := Lib.hid hfl
              go_wp2_with fail
              refine cb.mono ?_
              rintro e w' ⟨rfl, rfl⟩
              go_wp2_with fail
              go_roundw
              case rel => exact ⟨i + 1, by omega, by rw [hK2.out, hk3.out], by go_num, hB5, (show Aside _ from A6.out)⟩
              case measure => simp [intOf]; omega
        · have hltz : ¬ (i : Int) < (N : Int) := by omega
          obtain rfl : i = N := by omega
          obtain rfl : ok = true := hyes.out A4.out
          go_wp2_with fail
          go_ret
          exact ⟨rfl, hB4⟩
end Go.Proofs.Ytlnpommgfennhaa
