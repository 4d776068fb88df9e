/- The scheduler run over queues: Run. -/
import Derived.Test.YtbbcongfaoopcaaF24
namespace Go.Proofs.Ytbbcongfaoopcaa
open Go.ChangeShapes Go.WideShapes Go.ChangeAt Go.RowKit Go.Maps
set_option linter.unusedVariables false
set_option linter.unusedSimpArgs false
open BigFrame Pk Fq Vr Fa

namespace Fa
def t0 : Nat → Nat := fun _ => 0
def upA (A : Nat → Option Addr) (k : Nat) (a : Option Addr) : Nat → Option Addr := fun i => if i = k then a else A i
theorem sC_set (A : Nat → Option Addr) (L C : Nat → Nat) (k : Nat) (a : Option Addr) (n c N : Nat) : (sC A L C N).set k (.slice a n c) = sC (upA A k a) (upn L k n) (upn C k c) N := by
  apply List.ext_getElem?
  intro i
  rw [List.getElem?_set]
  by_cases e : k = i
  · subst e
    by_cases h : k < N
    · rw [if_pos rfl, if_pos (by rw [sC_len]; exact h), sC_at _ _ _ _ _ h]; simp [upA, upn]
    · rw [if_pos rfl, if_neg (by rw [sC_len]; exact h)]
      rw [List.getElem?_eq_none (by rw [sC_len]; omega)]
  · rw [if_neg e]
    by_cases h : i < N
    · rw [sC_at _ _ _ _ _ h, sC_at _ _ _ _ _ h]; simp only [upA, upn]; rw [if_neg (fun q => e q.symm), if_neg (fun q => e q.symm), if_neg (fun q => e q.symm)]
    · rw [List.getElem?_eq_none (by rw [sC_len]; omega), List.getElem?_eq_none (by rw [sC_len]; omega)]
theorem sizeOk {x : Int} : sizeBad x = false ↔ 1 ≤ x ∧ x ≤ 1500 := by
  unfold sizeBad
  simp only [Bool.or_eq_false_iff, decide_eq_false_iff_not]
  omega
theorem leftQ_mono {Q : Nat → List Int} {t : Nat → Nat} {i : Nat} : ∀ n, i ≤ n → leftQ Q t i ≤ leftQ Q t n
  | 0, h => by obtain rfl : i = 0 := by omega
               exact Nat.le_refl _
  | n + 1, h => by
    by_cases e : i = n + 1
    · subst e; exact Nat.le_refl _
    · have := leftQ_mono (Q := Q) (t := t) (i := i) n (by omega)
      simp only [leftQ]
      omega
theorem headsQ_drop (Q : Nat → List Int) (t : Nat → Nat) (i : Nat) : headsQ Q t i = ((Q i).drop (t i)).getD 0 0 := by
  unfold headsQ
  rw [List.getD_eq_getElem?_getD, List.getD_eq_getElem?_getD, List.getElem?_drop, Nat.add_zero]
/-- Where Run stands. -/
structure RunS (w wr : World) (f lb lq N : Nat) (ALL : Int) (W : Nat → Int) (Q : Nat → List Int) (total : Nat) (all : List Int) (x : Sched) (t : Nat → Nat) (m : Nat) (out : List Int) (ov : Value) (cl tb ct : Nat) (A : Nat → Option Addr) (L C : Nat → Nat) : Prop where
  hfd : FD wr f lb cl tb ct N ALL x.V W x.Z x.D x.S x.F
  hinv : Inv ((total - m : Nat) * PM) ALL x.V N W x.Z x.D x.S x.F
  hm : m ≤ total
  hleft : leftQ Q t N = m
  hall : out ++ servedN N ALL W Q m x t = all
  hln : out.length + m = total
  hown : OwnZ wr w.heap.size ov out
  hlq : Blk wr lq (sC A L C N)
  hq : ∀ i, i < N → t i ≤ (Q i).length ∧ IAt w (A i) (L i) (C i) ((Q i).drop (t i))
  hbel : Below w.heap.size w wr
  f1 : w.heap.size ≤ f
  f2 : w.heap.size ≤ lb
  f3 : w.heap.size ≤ tb
  f4 : w.heap.size ≤ lq
  d1 : lq ≠ f
  d2 : lq ≠ lb
  d3 : lq ≠ tb
  d4 : ∀ q, ov.ownBlock = some q → q ≠ f ∧ q ≠ lb ∧ q ≠ tb ∧ q ≠ lq
def RunP (w : World) (l : List Int) (e : Ending) (w' : World) : Prop := ∃ a n c, e = .returned (.slice a n c) ∧ n = l.length ∧ OwnZ w' w.heap.size (.slice a n c) l ∧ Below w.heap.size w w'
end Fa

set_option maxRecDepth 100000 in
set_option maxHeartbeats 20000000 in
theorem frun_ok (w : World) (b off N c c2 b2 off2 : Nat) (g : Nat → Int) (a2 : Option Addr) (A : Nat → Option Addr) (L C : Nat → Nat) (Q : Nat → List Int) (h1 : 1 ≤ N) (h8 : N ≤ 8) (hb : b < w.heap.size) (hc : ∀ i, i < N → w.cell? ⟨b, off + i, none⟩ = some (.int .i64 (g i))) (hg : ∀ i, i < N → 1 ≤ g i ∧ g i ≤ 16)
    (T : QsAt w a2 b2 off2 N A L C Q) (hgood : goodQ Q N) (htot : leftQ Q t0 N ≤ 1000) :
    Calls Try.prog 9 #[.slice (some ⟨b, off, none⟩) N c, .slice a2 N c2] w (RunP w (servedN N (sumW g N) g Q (leftQ Q t0 N) sched0 t0)) := by
  have hN1 : (1 : Int) ≤ (N : Int) := by omega
  have hN8 : (N : Int) ≤ 8 := by omega
  have hnew := Lib.hid (fnew_ok w b off N c g h1 h8 hb hc hg)
  obtain rfl := T.ha (by omega)
  have hb2 := T.hb (by omega)
  replace T := Lib.hid T
  replace hgood := Lib.hid hgood
  replace hg := Lib.hid hg
  clear hc
  go_enter Try.func9, Try.ntmps9
  go_wp2_with fail
  refine hnew.out.mono ?_
  rintro e w1 ⟨f, lb, cl, tb, ct, rfl, hF, hf1, hf2, hf3, hB1⟩
  have T1 := Lib.hid (T.out.bel hB1)
  replace hF := Lib.hid hF
  replace hB1 := Lib.hid hB1
  clear hnew
  go_wp2_with fail
  go_loopw [4, 7, 9, 33] (fun s4 s7 _ s33 wr => ∃ (i : Nat), s4 = .slice none 0 0 ∧ s7 = .int .i64 ((leftQ Q t0 i : Nat) : Int) ∧ s33 = .int .i64 (i : Nat) ∧ i ≤ N ∧ wr = w1) (fun _ _ _ s33 _ => N - (intOf s33).toNat)
  case atStart => exact ⟨0, rfl, rfl, rfl, Nat.zero_le _, rfl⟩
  case round =>
    obtain ⟨i, rfl, rfl, rfl, hi, rfl⟩ := hrel
    have ii : (i : Int) ≤ (N : Int) := by omega
    by_cases hlt : i < N
    · have ii1 : (i : Int) < (N : Int) := by omega
      have x0 := T1.out.c0 i hlt
      have hq := T1.out.q i hlt
      have hmono := leftQ_mono (Q := Q) (t := t0) (i := i + 1) N (by omega)
      have hlen := hq.len
      have hcap := hq.cap
      have hmax := hq.max
      have hstep : leftQ Q t0 (i + 1) = leftQ Q t0 i + L i := by simp only [leftQ, t0]; omega
      have hcont := scontains_c (A i) (L i) (C i) (Q i) wr hq (by omega)
      have hdec : (!decide (∀ x, x ∈ Q i → sizeBad x = false)) = false := by
        rw [decide_eq_true (fun x hx => sizeOk.2 (hgood.out i hlt x hx))]; rfl
      rw [hdec] at hcont
      replace hcont := Lib.hid hcont
      obtain ⟨Li, eL⟩ : ∃ n, L i = n := ⟨_, rfl⟩
      obtain ⟨Ci, eC⟩ : ∃ n, C i = n := ⟨_, rfl⟩
      obtain ⟨Ai, eA⟩ : ∃ n, A i = n := ⟨_, rfl⟩
      obtain ⟨S, eS⟩ : ∃ n, leftQ Q t0 i = n := ⟨_, rfl⟩
      rw [eL, eC] at hcap
      rw [eC] at hmax
      rw [eL, eC, eA] at hcont x0
      rw [hstep, eS, eL] at hmono
      rw [eS, eL] at hstep
      replace hstep := Lib.hid hstep
      have hle : ((S : Nat) : Int) + (Li : Int) ≤ 1000 := by omega
      clear hq hdec eL eC eA hlen
      rw [eS]
      clear eS
      go_wp2_with fail
      refine hcont.out.mono ?_
      rintro e w' ⟨rfl, rfl⟩
      go_wp2_with fail
      go_roundw
      case rel => exact ⟨i + 1, rfl, by rw [hstep.out]; push_cast; rfl, by go_num, hlt, by first | rfl | trivial⟩
      case measure => simp [intOf]; omega
    · obtain rfl : i = N := by omega
      have hcl := Lib.hid (qclone_c c2 wr T1.out (by omega) (by omega))
      go_wp2_with fail
      refine hcl.out.mono ?_
      rintro e w2 ⟨lq, cq, rfl, hLQ, hlq, hB2⟩
      have hsz1 := hB1.out.size
      have hfl := hF.out.b.l
      have hll := hF.out.l.l
      have htl := hF.out.tl
      have hS : RowKit.Hid (RunS w w2 f lb lq i (sumW g i) g Q (leftQ Q t0 i) (servedN i (sumW g i) g Q (leftQ Q t0 i) sched0 t0) sched0 t0 (leftQ Q t0 i) [] (.slice none 0 0) cl tb ct A L C) := Lib.hid
        ⟨hF.out.bel hB2, by rw [Nat.sub_self]; have := inv0 h8 hg.out; simpa [sched0] using this, Nat.le_refl _, rfl, List.nil_append _, by simp, OwnZ.nil _ _, hLQ, fun j hj => ⟨Nat.zero_le _, by have := T.out.q j hj; simpa [t0] using this⟩, hB1.out.trans (hB2.mono hsz1), hf1, hf2, hf3, by omega, by omega, by omega, by omega, fun q e => by cases e⟩
      clear hcl hF T1 hLQ hB1 hB2 T
      obtain ⟨total, htot2⟩ : ∃ n, leftQ Q t0 i = n := ⟨_, rfl⟩
      rw [htot2] at hS htot
      generalize hall : servedN i (sumW g i) g Q total sched0 t0 = all at hS
      replace hall := Lib.hid hall
      replace htot2 := Lib.hid htot2
      go_wp2_with fail
      go_loopg [4, 11, 13, 14, 15, 16] total (fun gg s4 _ _ _ _ _ wr => ∃ (x : Sched) (t : Nat → Nat) (m : Nat) (out : List Int) (ov : Option Addr) (on oc tb ct : Nat) (A : Nat → Option Addr) (L C : Nat → Nat), s4 = .slice ov on oc ∧ on = out.length ∧ m ≤ gg ∧ RowKit.Hid (RunS w wr f lb lq i (sumW g i) g Q total all x t m out (.slice ov on oc) cl tb ct A L C))
      case atStart => exact ⟨sched0, t0, total, [], none, 0, 0, tb, ct, A, L, C, rfl, by first | rfl | trivial, Nat.le_refl _, hS⟩
      case round =>
        obtain ⟨x, t, m, out, ov, on, oc, tb, ct, A, L, C, rfl, hon, hgg, hS⟩ := hrel
        obtain ⟨W2, rfl⟩ : ∃ u : World, u = wr := ⟨_, rfl⟩
        replace hon := Lib.hid hon
        go_wp2_with fail
        go_loopw [11, 13, 14, 52] (fun s11 _ _ s52 wr => ∃ (j : Nat) (hv : Option Addr) (hc : Nat), s11 = .slice hv j hc ∧ s52 = .int .i64 (j : Nat) ∧ j ≤ i ∧ RowKit.Hid (OwnH wr W2.heap.size (.slice hv j hc) (headsQ Q t) j) ∧ RowKit.Hid (Below W2.heap.size W2 wr)) (fun _ _ _ s52 _ => i - (intOf s52).toNat)
        case atStart => exact ⟨0, none, 0, rfl, rfl, Nat.zero_le _, Lib.hid (OwnH.nil _ _ _), Lib.hid (Below.refl _ _)⟩
        case round =>
          obtain ⟨j, hv, hc, rfl, rfl, hj, hO, hB⟩ := hrel
          have jj : (j : Int) ≤ (i : Int) := by omega
          by_cases hjl : j < i
          · have jj1 : (j : Int) < (i : Int) := by omega
            have x0 := (hS.out.hlq.bel hB.out).c j _ (sC_at A L C i j hjl)
            obtain ⟨htj, hqj⟩ := hS.out.hq j hjl
            have hq2 := hqj.bel (hS.out.hbel.trans (hB.out.mono hS.out.hbel.size))
            have hlen := hq2.len
            have hhd := Lib.hid (headsQ_drop Q t j)
            by_cases hpos : 0 < L j
            · obtain ⟨bj, oj, eA, hbj, hcj⟩ := hq2.row hpos
              obtain ⟨y, hy⟩ : ∃ y, ((Q j).drop (t j))[0]? = some y := ⟨_, List.getElem?_eq_getElem (by omega)⟩
              have hhy : RowKit.Hid (headsQ Q t j = y) := Lib.hid (by rw [hhd.out, List.getD_eq_getElem?_getD, hy]; rfl)
              have y0 := hcj 0 y hy
              rw [Nat.add_zero] at y0
              have hpos2 : (0 : Int) < (L j : Int) := by omega
              rw [eA] at x0
              replace hy := Lib.hid hy
              replace hcj := Lib.hid hcj
              clear hq2 hqj hhd eA
              go_upto_region 20 with fail
              have hO3 := hO.out.kf (KF.of (l := []) ((Below.refl wr.heap.size wr).alloc (Nat.le_refl _) (.cells #[.int .i64 y, .int .i64 0] 60))) (fun q hq => by simp)
              have hB3 := hB.out.alloc hB.out.size (.cells #[.int .i64 y, .int .i64 0] 60)
              have xb := blk_new wr (.int .i64 y) (.int .i64 0) 60
              generalize wr.alloc (.cells #[.int .i64 y, .int .i64 0] 60) = W3 at hO3 hB3 xb ⊢
              have q0 := xb.c 0 _ rfl
              have q1 := xb.c 1 _ rfl
              have hbk := Lib.hid (show Blk (W3.alloc (.cells #[.int .i64 y, .int .i64 0] 60)) W3.heap.size [.int .i64 (headsQ Q t j), .int .i64 0] by rw [hhy.out]; exact blk_new W3 (.int .i64 y) (.int .i64 0) 60)
              have hO8 := Lib.hid (hO3.kf (KF.of (l := []) ((Below.refl W3.heap.size W3).alloc (Nat.le_refl _) (.cells #[.int .i64 y, .int .i64 0] 60))) (fun q hq => by simp))
              have hszA := Lib.hid (show W2.heap.size ≤ (W3.alloc (.cells #[.int .i64 y, .int .i64 0] 60)).heap.size by have := hB3.size; simp; omega)
              replace hB3 := Lib.hid hB3
              replace hO3 := Lib.hid hO3
              clear x0 y0 xb
              go_wp2_with (at_builtin; refine wpList_appH rfl _ _ rfl W2.heap.size (.slice hv j hc) (headsQ Q t) j (by rfl) hO8.out hszA.out (by rfl) hbk.out (by omega) ?_; intro a5 n5 c5 w5 hown5 hn5 hsz5 hgrow5 hor5; obtain rfl : n5 = j + 1 := hn5; have hown5 := Lib.hid hown5; have hgrow5 := Lib.hid hgrow5; clear hor5 hsz5 hbk hO8 q0 q1)
              go_roundw
              case rel => exact ⟨j + 1, a5, c5, rfl, by go_num, hjl, hown5, Lib.hid ((hB3.out.alloc hB3.out.size _).grown hgrow5.out hszA.out (fun q hq => (hO3.out.lt hq).1))⟩
              case measure => simp [intOf]; omega
            · have hz : L j = 0 := by omega
              have hhy : RowKit.Hid (headsQ Q t j = 0) := Lib.hid (by rw [hhd.out, List.eq_nil_of_length_eq_zero (hlen.trans hz)]; rfl)
              rw [hz] at x0
              clear hq2 hqj hhd
              go_upto_region 20 with fail
              have hO3 := hO.out.kf (KF.of (l := []) ((Below.refl wr.heap.size wr).alloc (Nat.le_refl _) (.cells #[.int .i64 0, .int .i64 0] 60))) (fun q hq => by simp)
              have hB3 := hB.out.alloc hB.out.size (.cells #[.int .i64 0, .int .i64 0] 60)
              have xb := blk_new wr (.int .i64 0) (.int .i64 0) 60
              generalize wr.alloc (.cells #[.int .i64 0, .int .i64 0] 60) = W3 at hO3 hB3 xb ⊢
              have q0 := xb.c 0 _ rfl
              have q1 := xb.c 1 _ rfl
              have hbk := Lib.hid (show Blk (W3.alloc (.cells #[.int .i64 0, .int .i64 0] 60)) W3.heap.size [.int .i64 (headsQ Q t j), .int .i64 0] by rw [hhy.out]; exact blk_new W3 (.int .i64 0) (.int .i64 0) 60)
              have hO8 := Lib.hid (hO3.kf (KF.of (l := []) ((Below.refl W3.heap.size W3).alloc (Nat.le_refl _) (.cells #[.int .i64 0, .int .i64 0] 60))) (fun q hq => by simp))
              have hszA := Lib.hid (show W2.heap.size ≤ (W3.alloc (.cells #[.int .i64 0, .int .i64 0] 60)).heap.size by have := hB3.size; simp; omega)
              replace hB3 := Lib.hid hB3
              replace hO3 := Lib.hid hO3
              clear x0 xb
              go_wp2_with (at_builtin; refine wpList_appH rfl _ _ rfl W2.heap.size (.slice hv j hc) (headsQ Q t) j (by rfl) hO8.out hszA.out (by rfl) hbk.out (by omega) ?_; intro a5 n5 c5 w5 hown5 hn5 hsz5 hgrow5 hor5; obtain rfl : n5 = j + 1 := hn5; have hown5 := Lib.hid hown5; have hgrow5 := Lib.hid hgrow5; clear hor5 hsz5 hbk hO8 q0 q1)
              go_roundw
              case rel => exact ⟨j + 1, a5, c5, rfl, by go_num, hjl, hown5, Lib.hid ((hB3.out.alloc hB3.out.size _).grown hgrow5.out hszA.out (fun q hq => (hO3.out.lt hq).1))⟩
              case measure => simp [intOf]; omega
          · obtain rfl : j = i := by omega
            obtain ⟨hg3, rfl, hgb, TH⟩ := hO.out.tags (by omega)
            have hbl := hS.out.hbel.trans (hB.out.mono hS.out.hbel.size)
            have dF := hS.out.hfd.bel hB.out
            have hfl2 := hS.out.hfd.b.l
            have hll2 := hS.out.hfd.l.l
            have hinv := hS.out.hinv
            have hm := hS.out.hm
            have hM : ((total - m : Nat) : Int) * PM ≤ 1000000000000000 := by unfold PM; omega
            have hpk := Lib.hid (fpick_ok dF hinv hM hg3 0 hc (headsQ Q t) nz TH (by omega) (by omega) (headsQ_ok hgood.out t))
            have hst : pickX j (headsQ Q t) (toldN j (sumW g j) x.V g x.Z x.D x.S x.F (headsQ Q t)) = stepX j (sumW g j) g Q x t := rfl
            rw [hst] at hpk
            obtain ⟨p, hp⟩ : ∃ p, RowKit.Hid (stepX j (sumW g j) g Q x t = p) := ⟨_, Lib.hid rfl⟩
            rw [hp.out] at hpk
            have hO2 := Lib.hid (hS.out.hown.kf (KF.of (l := []) hB.out) (fun q hq => by simp))
            have hL2 := Lib.hid (hS.out.hlq.bel hB.out)
            have hd4 := Lib.hid hS.out.d4
            have hd12 : f ≠ lq ∧ lb ≠ lq := ⟨fun e => hS.out.d1 e.symm, fun e => hS.out.d2 e.symm⟩
            have hF12 := hS.out.f1
            have hF22 := hS.out.f2
            replace hbl := Lib.hid hbl
            have hinv2 := Lib.hid (hinv.pick (headsQ_ok hgood.out t))
            rw [hst, hp.out] at hinv2
            clear hO TH dF hst hinv hM
            obtain ⟨pk, pok, px⟩ := p
            cases pok with
            | false =>
              have hm0 : m = 0 := by
                have h1 := stepX_no (x := x) (W := g) (ALL := sumW g j) hgood.out (by rw [hp.out])
                rw [← h1]; exact hS.out.hleft.symm
              have hout : RowKit.Hid (out = all) := Lib.hid (by have := hS.out.hall; rw [hm0] at this; simpa [servedN] using this)
              clear hm0
              go_wp2_with fail
              refine hpk.out.mono ?_
              rintro e w4 ⟨tb4, ct4, rfl, F4, ht4, k4⟩
              have hQ := Lib.hid (show RunP w all (.returned (.slice ov on oc)) w4 from ⟨ov, on, oc, rfl, by rw [← hout.out]; exact hon.out, by rw [← hout.out]; exact hO2.out.kf k4 (fun q hq => by have := hd4.out q hq; simp; omega), hbl.out.trans (k4.below (fun q hq => by simp at hq; omega) hbl.out.size)⟩)
              clear F4 k4 ht4 hpk
              go_wp2_with fail
              refine bodyPost_ret (v := .slice ov on oc) (by simp [results, Try.results9, go_sem]) rfl ?_
              rw [htot2.out, hall.out]
              exact hQ.out
            | true =>
              obtain ⟨k, hk1, hk2, hk3⟩ := stepX_yes (x := x) (W := g) (ALL := sumW g j) (t := t) hgood.out (by rw [hp.out])
              rw [hp.out] at hk1
              obtain rfl : pk = (k : Int) := hk1
              go_wp2_with fail
              refine hpk.out.mono ?_
              rintro e w4 ⟨tb4, ct4, rfl, F4, ht4, k4⟩
              have hL4 := k4.blk hL2.out (by simp; omega)
              have hO4 := Lib.hid (hO2.out.kf k4 (fun q hq => by have := hd4.out q hq; simp; omega))
              have hb4 := Lib.hid (hbl.out.trans (k4.below (fun q hq => by simp at hq; omega) hbl.out.size))
              have hkz : (k : Int) < (j : Int) := by omega
              obtain ⟨htk, hqk⟩ := hS.out.hq k hk2
              have hlk := hqk.len
              have hck := hqk.cap
              have hmk := hqk.max
              rw [List.length_drop] at hlk
              obtain ⟨bk, ok, eA, hbk, hck2⟩ := hqk.row (by omega)
              have x0 := hL4.c k _ (sC_at A L C j k hk2)
              have z0 := hL4.f k
              rw [eA] at x0
              obtain ⟨Lk, eL⟩ : ∃ n, RowKit.Hid (L k = n) := ⟨_, Lib.hid rfl⟩
              obtain ⟨Ck, eC⟩ : ∃ n, RowKit.Hid (C k = n) := ⟨_, Lib.hid rfl⟩
              rw [eL.out, eC.out] at x0 hck
              rw [eL.out] at hlk
              rw [eC.out] at hmk
              have hL1 : (1 : Int) ≤ (Lk : Int) := by omega
              have hL2' : (Lk : Int) ≤ (Ck : Int) := by omega
              replace hck2 := Lib.hid hck2
              replace F4 := Lib.hid F4
              replace k4 := Lib.hid k4
              replace ht4 := Lib.hid ht4
              replace hL4 := Lib.hid hL4
              clear hpk hqk
              go_upto_region 26 with fail
              clear x0 z0
              obtain ⟨A5, eA5⟩ : ∃ a, RowKit.Hid ((if Ck = 1 then some (⟨bk, ok, none⟩ : Addr) else some ⟨bk, ok + 1, none⟩) = a) := ⟨_, Lib.hid rfl⟩
              rw [eA5.out]
              have hkb : KF [lq] w4 (w4.setCell ⟨lq, k, none⟩ (.slice A5 (Lk - 1) (Ck - 1))) := (KF.refl [lq] w4).set (p := ⟨lq, k, none⟩) (.inl (by simp)) _
              have hLQ5 : RowKit.Hid (Blk (w4.setCell ⟨lq, k, none⟩ (.slice A5 (Lk - 1) (Ck - 1))) lq (sC (upA A k A5) (upn L k (Lk - 1)) (upn C k (Ck - 1)) j)) := Lib.hid (by rw [← sC_set]; exact hL4.out.set (by rw [sC_len]; exact hk2) _)
              have hlq4 := hL4.out.l
              have hlq2 := hL2.out.l
              have hwr2 := hbl.out.size
              have ht5 : RowKit.Hid (w.heap.size ≤ tb4 ∧ lq ≠ tb4) := Lib.hid (by
                rcases ht4.out with e | e
                · rw [e]; exact ⟨hS.out.f3, hS.out.d3⟩
                · exact ⟨by omega, by omega⟩)
              have F5 := Lib.hid (hkb.fd F4.out (by simp; exact hd12.1) (by simp; exact hd12.2) (by simp; exact fun e => ht5.out.2 e.symm))
              have hO5 := Lib.hid (hO4.out.kf hkb (fun q hq => by have := hd4.out q hq; simp; omega))
              have hB5 := Lib.hid (hb4.out.setCell (p := ⟨lq, k, none⟩) (show w.heap.size ≤ lq from hS.out.f4) (.slice A5 (Lk - 1) (Ck - 1)))
              have htb4 := F4.out.tl
              have hq5 : RowKit.Hid (∀ q, (Value.slice ov on oc).ownBlock = some q → q ≠ tb4 ∧ q < w4.heap.size) := Lib.hid (fun q hq => by
                have h1 := hd4.out q hq
                refine ⟨?_, (hO4.out.lt hq).2⟩
                rcases ht4.out with e | e
                · rw [e]; exact h1.2.2.1
                · have := (hO2.out.lt hq).2; omega)
              have hIq : RowKit.Hid (∀ i, i < j → upn t k (t k + 1) i ≤ (Q i).length ∧ IAt w (upA A k A5 i) (upn L k (Lk - 1) i) (upn C k (Ck - 1) i) ((Q i).drop (upn t k (t k + 1) i))) := Lib.hid (fun i hi => by
                by_cases e : i = k
                · subst e
                  simp only [upn, upA, if_pos]
                  refine ⟨by omega, by rw [List.length_drop]; omega, by omega, by omega, fun hp => ?_⟩
                  refine ⟨bk, ok + 1, ?_, hbk, fun y z hz => ?_⟩
                  · rw [← eA5.out, if_neg (by omega)]
                  · have h1 : ((Q i).drop (t i))[y + 1]? = some z := by rw [List.getElem?_drop] at hz ⊢; rw [← hz]; congr 1; omega
                    have h2 := hck2.out (y + 1) z h1
                    rwa [show ok + (y + 1) = ok + 1 + y by omega] at h2
                · simp only [upn, upA, if_neg e]
                  exact hS.out.hq i hi)
              have hsz4 : (w4.setCell ⟨lq, k, none⟩ (.slice A5 (Lk - 1) (Ck - 1))).heap.size = w4.heap.size := by simp
              rw [← hsz4] at hlq4 htb4 hq5
              have hstepQ := leftQ_step (Q := Q) (t := t) hk3 j hk2
              have hlf := hS.out.hleft
              have hmt := hS.out.hm
              have hall2 := hS.out.hall
              have hlnO := hS.out.hln
              obtain ⟨m, rfl⟩ : ∃ m', m = m' + 1 := ⟨m - 1, by omega⟩
              simp only [servedN] at hall2
              rw [hp.out] at hall2
              simp only [if_true, Int.toNat_natCast] at hall2
              replace hall2 := Lib.hid hall2
              replace hlf := Lib.hid hlf
              replace hstepQ := Lib.hid hstepQ
              replace hlnO := Lib.hid hlnO
              have hsc := Lib.hid (⟨hS.out.f1, hS.out.f2, hS.out.f4, hS.out.d1, hS.out.d2⟩ : w.heap.size ≤ f ∧ w.heap.size ≤ lb ∧ w.heap.size ≤ lq ∧ lq ≠ f ∧ lq ≠ lb)
              clear hS F4 hL4 hO4 hb4 k4 ht4 hsz4 hkb hO2 hL2 hbl hck2
              generalize w4.setCell ⟨lq, k, none⟩ (.slice A5 (Lk - 1) (Ck - 1)) = w5 at hlq4 htb4 hq5 hLQ5 F5 hO5 hB5 ⊢
              have ha := (Below.refl w5.heap.size w5).alloc (Nat.le_refl _) (.cells #[.int .i64 (k : Nat)] 3)
              have hbk5 := Lib.hid (blkN_new w5 [.int .i64 (k : Nat)] 3)
              have hO6 := Lib.hid (hO5.out.kf (KF.of (l := []) ha) (fun q hq => by simp))
              have hszA := Lib.hid (show w.heap.size ≤ (w5.alloc (.cells #[.int .i64 (k : Nat)] 3)).heap.size by have := hB5.out.size; simp; omega)
              have hlo : out.length ≤ 1000000 := by have := hlnO.out; omega
              have hFK := Lib.hid (fun (wz : World) (hgz : (w5.alloc (.cells #[.int .i64 (k : Nat)] 3)).grownBy wz (Value.slice ov on oc).ownBlock) => (⟨F5.out.grown hgz (fun q hq => ⟨(hd4.out q hq).1, (hd4.out q hq).2.1, (hq5.out q hq).1⟩), (KF.grown2 (l := (Value.slice ov on oc).ownBlock.toList) ((KF.refl _ w5).alloc _) hgz (fun q e => by rw [e]; simp)).blk hLQ5.out (fun e => (hd4.out lq (by simpa using e)).2.2.2 rfl), (hB5.out.alloc hB5.out.size _).grown hgz hszA.out (fun q hq => (hO5.out.lt hq).1)⟩ : FD wz f lb cl tb4 ct4 j (sumW g j) px.V g px.Z px.D px.S px.F ∧ Blk wz lq (sC (upA A k A5) (upn L k (Lk - 1)) (upn C k (Ck - 1)) j) ∧ Below w.heap.size w wz))
              go_wp2_with (at_builtin; refine wpList_appZ rfl _ _ rfl w.heap.size (.slice ov on oc) out (k : Int) (by rfl) hO6.out hszA.out (by rfl) hbk5.out hlo ?_; intro a6 n6 c6 w6 hown6 hn6 hsz6 hgrow6 hor6; obtain rfl : n6 = out.length + 1 := hn6; have hown6 := Lib.hid hown6; have hor6 := Lib.hid hor6; have hK6 := Lib.hid (hFK.out w6 hgrow6); clear hsz6 hbk5 hO6 hFK hgrow6)
              go_roundg m
              case measure => omega
              case rel =>
                refine ⟨px, upn t k (t k + 1), m, out ++ [(k : Int)], a6, out.length + 1, c6, tb4, ct4, upA A k A5, upn L k (Lk - 1), upn C k (Ck - 1), rfl, by simp, Nat.le_refl _, Lib.hid ⟨hK6.out.1, ?_, by omega, ?_, ?_, ?_, hown6.out, hK6.out.2.1, hIq.out, hK6.out.2.2, hsc.out.1, hsc.out.2.1, ht5.out.1, hsc.out.2.2.1, hsc.out.2.2.2.1, hsc.out.2.2.2.2, ht5.out.2, fun q hq => ?_⟩⟩
                · have := hinv2.out
                  have e : ((total - m : Nat) : Int) * PM = ((total - (m + 1) : Nat) : Int) * PM + PM := by
                    have : total - m = total - (m + 1) + 1 := by omega
                    rw [this]
                    push_cast
                    rw [Int.add_mul, Int.one_mul]
                  rw [e]
                  exact this
                · have := hstepQ.out; have := hlf.out; omega
                · have := hall2.out
                  rw [List.append_assoc]
                  exact this
                · have := hlnO.out; simp; omega
                · rcases hor6.out with e | e
                  · rw [e] at hq
                    have h1 := hd4.out q hq
                    exact ⟨h1.1, h1.2.1, (hq5.out q hq).1, h1.2.2.2⟩
                  · rw [e] at hq
                    simp at hq
                    have h1 := F5.out.b.l
                    have h2 := F5.out.l.l
                    exact ⟨by omega, by omega, by omega, by omega⟩
end Go.Proofs.Ytbbcongfaoopcaa
