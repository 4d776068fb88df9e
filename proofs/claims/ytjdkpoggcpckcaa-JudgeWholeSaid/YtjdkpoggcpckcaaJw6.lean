/- Proved here: the law JudgeWhole returns true for whatever it is handed. Conditions: none. -/
import Derived.Test.YtjdkpoggcpckcaaJw5
namespace Go.Proofs.Ytjdkpoggcpckcaa
open Go.ChangeShapes Go.WideShapes Go.ChangeAt Go.RowKit Go.Deep
set_option linter.unusedVariables false
set_option linter.unusedSimpArgs false
open Pk BigFrame By Jw
open Bs (cellB IntRows)

theorem jAt_of {w : World} {ni N no nb : Nat} {ai af ao ab : Option Addr} {fb fo ob oo : Nat} {A : Nat → Option Addr} {L C : Nat → Nat} {D : Nat → List Nat} {A2 : Nat → Option Addr} {L2 C2 : Nat → Nat} {E : Nat → List Nat} {X S : Nat → Nat → Int}
    (hI : BsAt w ai ni A L C D) (hF : IntRows w af fb fo N 3 X) (hO : IntRows w ao ob oo no 6 S) (hB : BsAt w ab nb A2 L2 C2 E) (h1 : ni ≤ 60) (h2 : N ≤ 60) (h3 : no ≤ 60) (h4 : nb ≤ 60) (hl : ∀ q, q < ni → L q ≤ 60000) (hl2 : ∀ q, q < nb → L2 q ≤ 60000) :
    JAt w ⟨ni, no, nb, N, D, E, fun q => X q 0, S⟩ ai af ao ab fb fo ob oo A L C A2 L2 C2 :=
  ⟨hI, hB, fun hn => ⟨hF.ha hn, hF.hb hn⟩, fun q hq => hF.c0 q hq (by omega), fun hn => ⟨hO.ha hn, hO.hb hn⟩, fun q j hq hj => hO.c q j hq hj, ⟨h1, h3, h4, h2⟩, ⟨hl, hl2⟩⟩
set_option maxRecDepth 100000 in
set_option maxHeartbeats 8000000 in
theorem judgeWhole_walk (w : World) (v0 : Value) (a0 : XT_LLuint8) (v1 : Value) (a1 : XT_LFlow) (v2 : Value) (a2 : XT_LSent) (v3 : Value) (a3 : XT_LLuint8) (w0 : Is_LLuint8 w v0 a0) (w1 : Is_LFlow w v1 a1) (w2 : Is_LSent w v2 a2) (w3 : Is_LLuint8 w v3 a3) (hz0 : ∀ i, i < a0.n → a0.L i ≤ reachBytes) (hz3 : ∀ i, i < a3.n → a3.L i ≤ reachBytes) :
    Calls Try.prog 3 #[v0, v1, v2, v3] w fun e w' => e = .returned (.bool true) ∧ Below w.heap.size w w' := by
  obtain ⟨rfl, _, _, hI⟩ := w0
  obtain ⟨rfl, _, _, hF, _⟩ := w1
  obtain ⟨rfl, _, _, hO, hS⟩ := w2
  obtain ⟨rfl, _, _, hB⟩ := w3
  obtain ⟨ai, ni, ci, A, L, C, D⟩ := a0
  obtain ⟨af, fb, fo, N, cf, X⟩ := a1
  obtain ⟨ao, ob, oo, no, co, S⟩ := a2
  obtain ⟨ab, nb, cb, A2, L2, C2, E⟩ := a3
  simp only at hI hF hO hB hS hz0 hz3
  show Calls Try.prog 3 #[.slice ai ni ci, .slice af N cf, .slice ao no co, .slice ab nb cb] w fun e w' => e = .returned (.bool true) ∧ Below w.heap.size w w'
  have hrb : reachBytes = 140737488351232 := rfl
  rw [hrb] at hz0 hz3
  clear hrb
  replace hI := Lib.hid hI
  replace hF := Lib.hid hF
  replace hO := Lib.hid hO
  replace hB := Lib.hid hB
  replace hS := Lib.hid hS
  replace hz0 := Lib.hid hz0
  replace hz3 := Lib.hid hz3
  by_cases h1 : (60 : Int) < (ni : Int)
  · have hwk := wakes30_c w
    go_enter Try.func3, Try.ntmps3
    go_wp2_with fail
    refine hwk.mono ?_
    rintro e w' ⟨rfl, hB⟩
    go_wp2_with fail
    go_ret
    exact ⟨rfl, hB⟩
  by_cases h2 : (60 : Int) < (N : Int)
  · have hwk := wakes30_c w
    go_enter Try.func3, Try.ntmps3
    go_wp2_with fail
    refine hwk.mono ?_
    rintro e w' ⟨rfl, hB⟩
    go_wp2_with fail
    go_ret
    exact ⟨rfl, hB⟩
  by_cases h3 : (60 : Int) < (no : Int)
  · have hwk := wakes30_c w
    go_enter Try.func3, Try.ntmps3
    go_wp2_with fail
    refine hwk.mono ?_
    rintro e w' ⟨rfl, hB⟩
    go_wp2_with fail
    go_ret
    exact ⟨rfl, hB⟩
  by_cases h4 : (60 : Int) < (nb : Int)
  · have hwk := wakes30_c w
    go_enter Try.func3, Try.ntmps3
    go_wp2_with fail
    refine hwk.mono ?_
    rintro e w' ⟨rfl, hB⟩
    go_wp2_with fail
    go_ret
    exact ⟨rfl, hB⟩
  have z1 : (ni : Int) ≤ 60 := by omega
  have z2 : (N : Int) ≤ 60 := by omega
  have z3 : (no : Int) ≤ 60 := by omega
  have z4 : (nb : Int) ≤ 60 := by omega
  go_enter Try.func3, Try.ntmps3
  go_wp2_with fail
  go_loopw [9, 10, 36] (fun s9 _ s36 wr => ∃ k : Nat, k ≤ ni ∧ s36 = .int .i64 (k : Nat) ∧ (∃ x : Int, s9 = .int .i64 x ∧ 0 ≤ x ∧ x ≤ 8444249301073920 ∧ x ≤ (k : Int) * 140737488351232 ∧ RowKit.Hid (∀ j, j < k → (L j : Int) ≤ x)) ∧ Below w.heap.size w wr) (fun _ _ s36 _ => ni - (intOf s36).toNat)
  case atStart => exact ⟨0, Nat.zero_le _, rfl, ⟨_, rfl, by omega, by omega, by omega, Lib.hid (fun j hj => by omega)⟩, Below.refl _ _⟩
  case round =>
    obtain ⟨k, hk, rfl, ⟨x, rfl, hx0, hx1, hx2, hxl⟩, hBl⟩ := hrel
    have iz : (k : Int) ≤ (ni : Int) := by omega
    by_cases hlt : k < ni
    · have iz1 : (k : Int) < (ni : Int) := by omega
      obtain ⟨bi, oi, rfl, hbi, hc⟩ := (hI.out.bel hBl).row (by omega)
      have c0 := hc k hlt
      have hlk := hz0.out k hlt
      obtain ⟨Ak, hAk⟩ : ∃ d, RowKit.Hid (A k = d) := ⟨_, Lib.hid rfl⟩
      obtain ⟨Lk, hLk⟩ : ∃ d, RowKit.Hid (L k = d) := ⟨_, Lib.hid rfl⟩
      obtain ⟨Ck, hCk⟩ : ∃ d, RowKit.Hid (C k = d) := ⟨_, Lib.hid rfl⟩
      rw [hAk.out, hLk.out, hCk.out] at c0
      rw [hLk.out] at hlk
      have hl1 : (Lk : Int) ≤ 140737488351232 := by omega
      have hnew := Lib.hid (show ∀ j, j < k + 1 → (L j : Int) ≤ x + (Lk : Int) from fun j hj => by
        rcases Nat.lt_or_ge j k with q | q
        · have := hxl.out j q; omega
        · obtain rfl : j = k := by omega
          rw [hLk.out]; omega)
      clear hc hlk
      have hm : x ≤ 59 * 140737488351232 := by omega
      go_wp2_with fail
      go_roundw
      case rel => exact ⟨k + 1, by omega, by go_num, ⟨_, rfl, by omega, by omega, by omega, hnew.out |> Lib.hid⟩, hBl⟩
      case measure => simp [intOf]; omega
    · obtain rfl : k = ni := by omega
      have hx3 : x ≤ 60 * 140737488351232 := by omega
      have hx4 := Lib.hid hxl.out
      clear hx2
      go_wp2_with fail
      go_loopw [9, 11, 49] (fun s9 _ s49 wr => ∃ k2 : Nat, k2 ≤ nb ∧ s49 = .int .i64 (k2 : Nat) ∧ (∃ y : Int, s9 = .int .i64 y ∧ x ≤ y ∧ y ≤ 16888498602147840 ∧ y ≤ 8444249301073920 + (k2 : Int) * 140737488351232 ∧ RowKit.Hid (∀ j, j < k2 → (L2 j : Int) ≤ y)) ∧ Below w.heap.size w wr) (fun _ _ s49 _ => nb - (intOf s49).toNat)
      case atStart => exact ⟨0, Nat.zero_le _, rfl, ⟨_, rfl, by omega, by omega, by omega, Lib.hid (fun j hj => by omega)⟩, hBl⟩
      case round =>
        obtain ⟨k2, hk2, rfl, ⟨y, rfl, hy0, hy1, hy2, hyl⟩, hBl2⟩ := hrel
        have iz2 : (k2 : Int) ≤ (nb : Int) := by omega
        by_cases hlt : k2 < nb
        · have iz1 : (k2 : Int) < (nb : Int) := by omega
          obtain ⟨bi, oi, rfl, hbi, hc⟩ := (hB.out.bel hBl2).row (by omega)
          have c0 := hc k2 hlt
          have hlk := hz3.out k2 hlt
          obtain ⟨Ak, hAk⟩ : ∃ d, RowKit.Hid (A2 k2 = d) := ⟨_, Lib.hid rfl⟩
          obtain ⟨Lk, hLk⟩ : ∃ d, RowKit.Hid (L2 k2 = d) := ⟨_, Lib.hid rfl⟩
          obtain ⟨Ck, hCk⟩ : ∃ d, RowKit.Hid (C2 k2 = d) := ⟨_, Lib.hid rfl⟩
          rw [hAk.out, hLk.out, hCk.out] at c0
          rw [hLk.out] at hlk
          have hl1 : (Lk : Int) ≤ 140737488351232 := by omega
          have hnew := Lib.hid (show ∀ j, j < k2 + 1 → (L2 j : Int) ≤ y + (Lk : Int) from fun j hj => by
            rcases Nat.lt_or_ge j k2 with q | q
            · have := hyl.out j q; omega
            · obtain rfl : j = k2 := by omega
              rw [hLk.out]; omega)
          clear hc hlk
          have hm : y ≤ 8444249301073920 + 59 * 140737488351232 := by omega
          go_wp2_with fail
          go_roundw
          case rel => exact ⟨k2 + 1, by omega, by go_num, ⟨_, rfl, by omega, by omega, by omega, hnew.out |> Lib.hid⟩, hBl2⟩
          case measure => simp [intOf]; omega
        · obtain rfl : k2 = nb := by omega
          by_cases hbig : 60000 < y
          · have hwk := wakes30_c wr
            clear hy2
            go_wp2_with fail
            refine hwk.mono ?_
            rintro e w' ⟨rfl, hB9⟩
            have hBf := Lib.hid (bNext hBl2 hB9 (Nat.le_refl _))
            go_wp2_with fail
            exact bodyPost_ret (v := .bool true) (by simp [results, Try.results3, go_sem]) rfl ⟨rfl, hBf.out⟩
          · have hJ := Lib.hid (jAt_of hI.out hF.out hO.out hB.out (by omega) (by omega) (by omega) (by omega) (fun q hq => by have := hx4.out q hq; omega) (fun q hq => by have := hyl.out q hq; omega))
            obtain ⟨J, hJd⟩ : ∃ J : Jd, RowKit.Hid (J = ⟨k, no, k2, N, D, E, fun q => X q 0, S⟩) := ⟨_, Lib.hid rfl⟩
            rw [← hJd.out] at hJ
            have hr := rwhole30_c wr J ai af ao ab ci cf co cb fb fo ob oo A L C A2 L2 C2 (hJ.out.bel hBl2)
            have e1 : RowKit.Hid (J.ni = k) := Lib.hid (by rw [hJd.out])
            have e2 : RowKit.Hid (J.N = N) := Lib.hid (by rw [hJd.out])
            have e3 : RowKit.Hid (J.no = no) := Lib.hid (by rw [hJd.out])
            have e4 : RowKit.Hid (J.nb = k2) := Lib.hid (by rw [hJd.out])
            have eS : RowKit.Hid (J.S = S) := Lib.hid (by rw [hJd.out])
            have eE : RowKit.Hid (J.E = E) := Lib.hid (by rw [hJd.out])
            rw [e1.out, e2.out, e3.out, e4.out] at hr
            have hend : ∀ u, Below w.heap.size w u → Calls Try.prog 7 #[.slice ai k ci, .slice af N cf, .slice ao no co, .slice ab k2 cb] u (BoolP J.whole u) := fun u hu => by
              have q := whole_c u J ai af ao ab ci cf co cb fb fo ob oo A L C A2 L2 C2 (hJ.out.bel hu) (fun q j h1 h2 => by rw [eS.out]; exact hS.out q j (by have := e3.out; omega) h2)
              rwa [e1.out, e2.out, e3.out, e4.out] at q
            have hend2 : ∀ u, Below w.heap.size w u → Calls Try.prog 5 #[.slice ai k ci, .slice af N cf, .slice ao no co, .slice ab k2 cb] u (BoolP J.whole u) := fun u hu => by
              have q := rwhole30_c u J ai af ao ab ci cf co cb fb fo ob oo A L C A2 L2 C2 (hJ.out.bel hu)
              rwa [e1.out, e2.out, e3.out, e4.out] at q
            replace hend := Lib.hid hend
            replace hend2 := Lib.hid hend2
            replace hBl2 := Lib.hid hBl2
            clear hBl hy2
            go_wp2_with fail
            refine hr.mono ?_
            rintro e u1 ⟨(⟨hw, rfl⟩ | ⟨hw, rfl⟩), hb1⟩
            · have hB1 := Lib.hid (bNext hBl2.out hb1 (Nat.le_refl _))
              replace hw := Lib.hid hw
              clear hb1 hr
              go_wp2_with fail
              go_loopw [12, 13, 14, 70] (fun _ _ _ s70 wr => ∃ i : Nat, i ≤ no ∧ s70 = .int .i64 (i : Nat) ∧ RowKit.Hid (Below w.heap.size w wr)) (fun _ _ _ s70 _ => no - (intOf s70).toNat)
              case atStart => exact ⟨0, Nat.zero_le _, rfl, hB1⟩
              case round =>
                obtain ⟨i, hi, rfl, hBw⟩ := hrel
                have iz3 : (i : Int) ≤ (no : Int) := by omega
                obtain ⟨W, rfl⟩ : ∃ W : World, W = wr := ⟨_, rfl⟩
                by_cases hlt3 : i < no
                · have iz4 : (i : Int) < (no : Int) := by omega
                  have hnn := e3.out
                  have hww := hw.out
                  have hnb := hww.1
                  rw [e3.out, e4.out] at hnb
                  subst hnb
                  have hok := (hww.2 i (by rw [hnn]; exact hlt3)).1
                  obtain ⟨bb, ob2, rfl, hbb, hc⟩ := (hB.out.bel hBw.out).row (by omega)
                  have a2 := hc i hlt3
                  have hy2 := (hB.out.bel hBw.out).by_ i hlt3
                  have hl2 := hJ.out.l.2 i (by rw [e4.out]; exact hlt3)
                  have hO1 := hO.out.bel hBw.out
                  obtain ⟨rfl⟩ := hO1.ha (by omega)
                  have o2 := hO1.c i 2 hlt3 (by omega)
                  have hE : J.E i = E i := by rw [eE.out]
                  have hgood : goodD (E i) := by rw [← hE, ← hok.2.2.2.2.1]; exact hok.2.2.1
                  have hten : S i 2 = ((E i).getD 1 0 : Nat) := by
                    have q := hok.2.2.2.2.2.1
                    rw [eS.out] at q
                    rw [q]
                    unfold Jd.t
                    rw [hok.2.2.2.2.1, hE]
                  have hp := rparseL_c (A2 i) (L2 i) (C2 i) (E i) W hy2 (by omega)
                  obtain ⟨ei, hei⟩ : ∃ d, RowKit.Hid (E i = d) := ⟨_, Lib.hid rfl⟩
                  obtain ⟨Ai2, hAi2⟩ : ∃ d, RowKit.Hid (A2 i = d) := ⟨_, Lib.hid rfl⟩
                  obtain ⟨Li2, hLi2⟩ : ∃ d, RowKit.Hid (L2 i = d) := ⟨_, Lib.hid rfl⟩
                  obtain ⟨Ci2, hCi2⟩ : ∃ d, RowKit.Hid (C2 i = d) := ⟨_, Lib.hid rfl⟩
                  rw [hei.out, hAi2.out, hLi2.out, hCi2.out] at hp
                  rw [hAi2.out, hLi2.out, hCi2.out] at a2
                  rw [hei.out] at hgood hten
                  obtain ⟨x2, hx2⟩ : ∃ x, RowKit.Hid (S i 2 = x) := ⟨_, Lib.hid rfl⟩
                  rw [hx2.out] at o2 hten
                  have hgH := Lib.hid hgood
                  have htH := Lib.hid hten
                  replace hO1 := Lib.hid hO1
                  replace hp := Lib.hid hp
                  clear hc hy2 hok hww hgood hten hnn hE hl2
                  go_wp2_with fail
                  refine hp.out.mono ?_
                  rintro e w5 ⟨(⟨hg, a1, m1, c1, rfl⟩ | ⟨hg, rfl⟩), hb5⟩
                  · rw [← htH.out]
                    have hB6 := Lib.hid (hb5.alloc hb5.size (.cells #[.int .i64 0, .int .i64 x2, .int .i64 ((ei.getD 2 0 : Nat) : Int), .slice a1 m1 c1] 29))
                    have bx := By.blkN_new w5 [.int .i64 0, .int .i64 x2, .int .i64 ((ei.getD 2 0 : Nat) : Int), .slice a1 m1 c1] 29
                    obtain ⟨t2, ht2⟩ : ∃ t : Int, RowKit.Hid (((ei.getD 2 0 : Nat) : Int) = t) := ⟨_, Lib.hid rfl⟩
                    rw [ht2.out] at bx hB6
                    rw [ht2.out]
                    go_upto_region 21 with fail
                    generalize (w5.alloc (.cells #[.int .i64 0, .int .i64 x2, .int .i64 t2, .slice a1 m1 c1] 29)) = U at bx hB6 ⊢
                    generalize w5.heap.size = pb at bx ⊢
                    have o2 := (hO1.out.bel hB6.out).c i 2 hlt3 (by omega)
                    rw [hx2.out] at o2
                    have b1 := bx.c 1 _ rfl
                    have hBn := Lib.hid (hBw.out.trans (hB6.out.mono hBw.out.size))
                    have hbb2 : (x2 != x2) = false := by simp
                    go_big_quiet (fail)
                    have hBn2 := Lib.hid (bDrew hBn.out nq)
                    go_wp2_with fail
                    go_roundw
                    case rel => exact ⟨i + 1, by omega, by go_num, hBn2⟩
                    case measure => simp [intOf]; omega
                  · exact absurd hgH.out hg
                · obtain rfl : i = no := by omega
                  have hq := hend.out W hBw.out
                  go_wp2_with fail
                  refine hq.mono ?_
                  rintro e u2 ⟨(⟨_, rfl⟩ | ⟨hw2, rfl⟩), hb2⟩
                  · have hB2 := Lib.hid (bNext hBw.out hb2 (Nat.le_refl _))
                    have hq2 := hend2.out u2 hB2.out
                    clear hq hb2
                    go_wp2_with fail
                    refine hq2.mono ?_
                    rintro e u3 ⟨(⟨_, rfl⟩ | ⟨hw2, rfl⟩), hb3⟩
                    · have hB3 := Lib.hid (bNext hB2.out hb3 (Nat.le_refl _))
                      have hwk := wakes30_c u3
                      clear hq2 hb3
                      go_wp2_with fail
                      refine hwk.mono ?_
                      rintro e w' ⟨rfl, hB9⟩
                      have hBf := Lib.hid (bNext hB3.out hB9 (Nat.le_refl _))
                      go_wp2_with fail
                      exact bodyPost_ret (v := .bool true) (by simp [results, Try.results3, go_sem]) rfl ⟨rfl, hBf.out⟩
                    · exact absurd hw.out hw2
                  · exact absurd hw.out hw2
            · have hB1 := Lib.hid (bNext hBl2.out hb1 (Nat.le_refl _))
              replace hw := Lib.hid hw
              have hq := hend.out u1 hB1.out
              clear hb1 hr
              go_wp2_with fail
              refine hq.mono ?_
              rintro e u2 ⟨(⟨hw2, rfl⟩ | ⟨_, rfl⟩), hb2⟩
              · exact absurd hw2 hw.out
              · have hB2 := Lib.hid (bNext hB1.out hb2 (Nat.le_refl _))
                have hq2 := hend2.out u2 hB2.out
                clear hq hb2
                go_wp2_with fail
                refine hq2.mono ?_
                rintro e u3 ⟨(⟨hw2, rfl⟩ | ⟨_, rfl⟩), hb3⟩
                · exact absurd hw2 hw.out
                · have hB3 := Lib.hid (bNext hB2.out hb3 (Nat.le_refl _))
                  have hwk := wakes30_c u3
                  clear hq2 hb3
                  go_wp2_with fail
                  refine hwk.mono ?_
                  rintro e w' ⟨rfl, hB9⟩
                  have hBf := Lib.hid (bNext hB3.out hB9 (Nat.le_refl _))
                  go_wp2_with fail
                  exact bodyPost_ret (v := .bool true) (by simp [results, Try.results3, go_sem]) rfl ⟨rfl, hBf.out⟩
end Go.Proofs.Ytjdkpoggcpckcaa
