/- The scheduler: every packet is served once. -/
import Derived.Test.YtbbcongfaoopcaaF28
namespace Go.Proofs.Ytbbcongfaoopcaa
open Go.ChangeShapes Go.WideShapes Go.ChangeAt Go.RowKit Go.Maps
set_option linter.unusedVariables false
set_option linter.unusedSimpArgs false
open BigFrame Pk Fq Vr Fa

namespace Fa
theorem served_cons {N m : Nat} {ALL y : Int} {W : Nat → Int} {Q : Nat → List Int} {x : Sched} {t : Nat → Nat} {r : List Int} (hg : goodQ Q N) (h : servedN N ALL W Q m x t = y :: r) :
    ∃ m' k x', m = m' + 1 ∧ y = ((k : Nat) : Int) ∧ k < N ∧ t k < (Q k).length ∧ r = servedN N ALL W Q m' x' (upn t k (t k + 1)) := by
  cases m with
  | zero => simp [servedN] at h
  | succ m =>
    simp only [servedN] at h
    by_cases hok : (stepX N ALL W Q x t).ok = true
    · rw [if_pos hok] at h
      obtain ⟨k, hk1, hk2, hk3⟩ := stepX_yes hg hok
      injection h with h1 h2
      rw [hk1] at h1 h2
      rw [Int.toNat_natCast] at h2
      exact ⟨m, k, _, rfl, h1.symm, hk2, hk3, h2.symm⟩
    · rw [if_neg hok] at h
      cases h
theorem served_nil {N m : Nat} {ALL : Int} {W : Nat → Int} {Q : Nat → List Int} {x : Sched} {t : Nat → Nat} (hg : goodQ Q N) (h : servedN N ALL W Q m x t = []) (hm : leftQ Q t N = m) : m = 0 := by
  cases m with
  | zero => rfl
  | succ m =>
    simp only [servedN] at h
    by_cases hok : (stepX N ALL W Q x t).ok = true
    · rw [if_pos hok] at h
      cases h
    · have := stepX_no hg (by simpa using hok)
      omega
def atC (t : Nat → Nat) : List Value := (List.range 20).map fun i => .int .i64 ((t i : Nat) : Int)
theorem atC_len (t : Nat → Nat) : (atC t).length = 20 := by simp [atC]
theorem atC_at (t : Nat → Nat) (i : Nat) (h : i < 20) : (atC t)[i]? = some (.int .i64 ((t i : Nat) : Int)) := by simp [atC, h]
theorem atC_set (t : Nat → Nat) (k x : Nat) : (atC t).set k (.int .i64 ((x : Nat) : Int)) = atC (upn t k x) := by
  apply List.ext_getElem?
  intro i
  rw [List.getElem?_set]
  by_cases e : k = i
  · subst e
    by_cases h : k < 20
    · rw [if_pos rfl, if_pos (by rw [atC_len]; exact h), atC_at _ _ h]; simp [upn]
    · rw [if_pos rfl, if_neg (by rw [atC_len]; exact h)]
      rw [List.getElem?_eq_none (by rw [atC_len]; omega)]
  · rw [if_neg e]
    by_cases h : i < 20
    · rw [atC_at _ _ h, atC_at _ _ h]; simp only [upn]; rw [if_neg (fun q => e q.symm)]
    · rw [List.getElem?_eq_none (by rw [atC_len]; omega), List.getElem?_eq_none (by rw [atC_len]; omega)]
/-- What Run gave is a run, where there is something. -/
theorem runR_some {dw : List Int} {nq : Nat} {Q : Nat → List Int} (h : runR dw nq Q ≠ []) : newOk dw ∧ nq = dw.length ∧ goodQ Q nq ∧ leftQ Q t0 nq ≤ 1000 ∧ runR dw nq Q = servedN nq (sumW (gd dw) nq) (gd dw) Q (leftQ Q t0 nq) sched0 t0 := by
  unfold runR at h ⊢
  by_cases hok : runOk dw nq Q
  · rw [if_pos hok]
    exact ⟨hok.1, hok.2.1, hok.2.2.1, hok.2.2.2, rfl⟩
  · rw [if_neg hok] at h
    exact absurd rfl h
theorem runR_none {dw : List Int} {nq : Nat} {Q : Nat → List Int} (h : ¬ newOk dw ∨ nq ≠ dw.length) : runR dw nq Q = [] := by
  unfold runR
  rw [if_neg (fun q => h.elim (fun n => n q.1) (fun n => n q.2.1))]
theorem served_len {N m : Nat} {ALL : Int} {W : Nat → Int} {Q : Nat → List Int} : ∀ {x : Sched} {t : Nat → Nat}, (servedN N ALL W Q m x t).length ≤ m := by
  induction m with
  | zero => intro x t; simp [servedN]
  | succ m ih =>
    intro x t
    simp only [servedN]
    split
    · simp; exact ih
    · simp
theorem runR_len {dw : List Int} {nq : Nat} {Q : Nat → List Int} : (runR dw nq Q).length ≤ 1000 := by
  by_cases h : runR dw nq Q = []
  · rw [h]; simp
  · obtain ⟨_, _, _, h4, h5⟩ := runR_some h
    rw [h5]
    exact Nat.le_trans served_len h4
end Fa

set_option maxRecDepth 100000 in
set_option maxHeartbeats 8000000 in
theorem fall_great (w : World) (aw aq : Option Addr) (nw cw nq cq : Nat) (h : 20 < nw ∨ 20 < nq) :
    Calls Try.prog 4 #[.slice aw nw cw, .slice aq nq cq] w fun e w' => e = .returned (.bool true) ∧ Below w.heap.size w w' := by
  by_cases h1 : 20 < nw
  · have h1z : (20 : Int) < (nw : Int) := by omega
    clear h
    go_enter Try.func4, Try.ntmps4
    go_wp2_with fail
    refine (wakes26_c _).mono ?_
    rintro e w3 ⟨rfl, hb⟩
    replace hb := Lib.hid hb
    go_wp2_with fail
    exact bodyPost_ret (v := .bool true) (by simp [results, Try.results4, go_sem]) rfl ⟨rfl, hb.out⟩
  · have h1z : ¬ (20 : Int) < (nw : Int) := by omega
    have h2z : (20 : Int) < (nq : Int) := by omega
    clear h
    go_enter Try.func4, Try.ntmps4
    go_wp2_with fail
    refine (wakes26_c _).mono ?_
    rintro e w3 ⟨rfl, hb⟩
    replace hb := Lib.hid hb
    go_wp2_with fail
    exact bodyPost_ret (v := .bool true) (by simp [results, Try.results4, go_sem]) rfl ⟨rfl, hb.out⟩

set_option maxRecDepth 100000 in
set_option maxHeartbeats 20000000 in
theorem fall_c (w : World) (aw aq : Option Addr) (nw cw nq cq b2 off2 : Nat) (dw : List Int) (A : Nat → Option Addr) (L C : Nat → Nat) (Q : Nat → List Int) (Wt : IAt w aw nw cw dw) (T : QsAt w aq b2 off2 nq A L C Q) (hw : nw ≤ 20) (hq : nq ≤ 20) :
    Calls Try.prog 4 #[.slice aw nw cw, .slice aq nq cq] w fun e w' => e = .returned (.bool true) ∧ Below w.heap.size w w' := by
  have hwz : ¬ (20 : Int) < (nw : Int) := by omega
  have hqz : ¬ (20 : Int) < (nq : Int) := by omega
  have hlw := Lib.hid Wt.len
  replace Wt := Lib.hid Wt
  replace T := Lib.hid T
  go_enter Try.func4, Try.ntmps4
  go_wp2_with fail
  go_loopw [4, 5, 6] (fun _ s5 s6 wr => ∃ (i : Nat), s5 = .int .i64 ((leftQ Q t0 i : Nat) : Int) ∧ s6 = .int .i64 (i : Nat) ∧ i ≤ nq ∧ wr = w ∧ RowKit.Hid (leftQ Q t0 i ≤ 200 * i) ∧ RowKit.Hid (∀ j, j < i → L j ≤ 200)) (fun _ _ s6 _ => nq - (intOf s6).toNat)
  case atStart => exact ⟨0, rfl, rfl, Nat.zero_le _, rfl, Lib.hid (by simp [leftQ]), Lib.hid (fun j hj => by omega)⟩
  case round =>
    obtain ⟨i, rfl, rfl, hi, rfl, hle, hls⟩ := hrel
    have ii : (i : Int) ≤ (nq : Int) := by omega
    by_cases hlt : i < nq
    · have ii1 : (i : Int) < (nq : Int) := by omega
      obtain rfl := T.out.ha (by omega)
      have x0 := T.out.c0 i hlt
      have hIq := T.out.q i hlt
      have hlen := hIq.len
      have hcap := hIq.cap
      have hmax := hIq.max
      have hstep : leftQ Q t0 (i + 1) = leftQ Q t0 i + L i := by simp only [leftQ, t0]; omega
      have hle1 := hle.out
      obtain ⟨Li, eL⟩ : ∃ n, L i = n := ⟨_, rfl⟩
      obtain ⟨S, eS⟩ : ∃ n, leftQ Q t0 i = n := ⟨_, rfl⟩
      rw [eL] at x0 hlen hcap hstep
      rw [eS] at hstep hle1 ⊢
      replace hstep := Lib.hid hstep
      have eL2 := Lib.hid eL
      clear hIq eL eS hlen
      by_cases hbig : 200 < Li
      · have hbz : (200 : Int) < (Li : Int) := by omega
        go_wp2_with fail
        refine (wakes26_c _).mono ?_
        rintro e w3 ⟨rfl, hb⟩
        replace hb := Lib.hid hb
        go_wp2_with fail
        exact bodyPost_ret (v := .bool true) (by simp [results, Try.results4, go_sem]) rfl ⟨rfl, hb.out⟩
      · have hbz : (Li : Int) ≤ 200 := by omega
        have hSz : (S : Int) ≤ 4000 := by omega
        go_wp2_with fail
        go_roundw
        case rel =>
          refine ⟨i + 1, by rw [hstep.out]; push_cast; rfl, by go_num, hlt, by first | rfl | trivial, Lib.hid (by rw [hstep.out]; omega), Lib.hid (fun j hj => ?_)⟩
          by_cases e : j = i
          · subst e; rw [eL2.out]; omega
          · exact hls.out j (by omega)
        case measure => simp [intOf]; omega
    · obtain rfl : i = nq := by omega
      rcases fnew_c wr aw nw cw dw Wt.out with ⟨hok, hnew⟩ | ⟨hno, hnew⟩
      · have hok2 := Lib.hid hok
        replace hnew := Lib.hid hnew
        go_wp2_with fail
        refine hnew.out.mono ?_
        rintro e w1 ⟨f, lb, cl, tb, ct, rfl, hFD, hf1, hf2, hf3, hB1⟩
        have hr := Lib.hid (frun_c w1 aw aq nw cw i cq b2 off2 dw A L C Q (Wt.out.bel hB1) (T.out.bel hB1) hls.out)
        replace hB1 := Lib.hid hB1
        clear hnew hFD hok
        go_wp2_with fail
        refine hr.out.mono ?_
        rintro e w2 ⟨a2, n2, c2, rfl, hn2, hO2, hB2⟩
        have hB2' := Lib.hid (hB1.out.trans (hB2.mono hB1.out.size))
        have R2 := Lib.hid (hO2.rd hn2 (by have := runR_len (dw := dw) (nq := i) (Q := Q); omega))
        clear hr hO2 hB2
        by_cases hl0 : runR dw i Q = []
        · obtain rfl : n2 = 0 := by rw [hn2, hl0]; rfl
          clear hl0 hn2
          by_cases hnn : i = nw
          · have hnz : (i : Int) = (nw : Int) := by omega
            go_wp2_with fail
            refine (wakes26_c _).mono ?_
            rintro e w3 ⟨rfl, hb⟩
            have hF := Lib.hid (hB2'.out.trans (hb.mono hB2'.out.size))
            clear hb
            go_wp2_with fail
            exact bodyPost_ret (v := .bool true) (by simp [results, Try.results4, go_sem]) rfl ⟨rfl, hF.out⟩
          · have hnz : ¬ (i : Int) = (nw : Int) := by omega
            go_wp2_with fail
            refine (wakes26_c _).mono ?_
            rintro e w3 ⟨rfl, hb⟩
            have hF := Lib.hid (hB2'.out.trans (hb.mono hB2'.out.size))
            clear hb
            go_wp2_with fail
            exact bodyPost_ret (v := .bool true) (by simp [results, Try.results4, go_sem]) rfl ⟨rfl, hF.out⟩
        · obtain ⟨_, h2, hgood, htot, hrun⟩ := runR_some hl0
          have hnw : nw = i := by have := hlw.out; omega
          subst hnw
          have hl8 : nw ≤ 8 := by have := hok2.out.2.1; omega
          clear h2
          have hpos : 0 < n2 := by rw [hn2]; exact List.length_pos_iff.2 hl0
          have hle2 : n2 ≤ 1000 := by rw [hn2]; exact runR_len
          have hnz : ¬ (n2 : Int) = 0 := by omega
          have hn2z : (n2 : Int) ≤ 1000 := by omega
          generalize hl : runR dw nw Q = l at R2 hn2 hrun hl0
          replace hrun := Lib.hid hrun
          replace hn2 := Lib.hid hn2
          replace hgood := Lib.hid hgood
          clear hl0 hl
          have hab : RowKit.Hid (Blk (w2.alloc (.cells #[.int .i64 0, .int .i64 0, .int .i64 0, .int .i64 0, .int .i64 0, .int .i64 0, .int .i64 0, .int .i64 0, .int .i64 0, .int .i64 0, .int .i64 0, .int .i64 0, .int .i64 0, .int .i64 0, .int .i64 0, .int .i64 0, .int .i64 0, .int .i64 0, .int .i64 0, .int .i64 0] 32)) w2.heap.size (atC t0)) := Lib.hid (blkN_new w2 (atC t0) 32)
          have hB3 := Lib.hid (hB2'.out.alloc hB2'.out.size (.cells #[.int .i64 0, .int .i64 0, .int .i64 0, .int .i64 0, .int .i64 0, .int .i64 0, .int .i64 0, .int .i64 0, .int .i64 0, .int .i64 0, .int .i64 0, .int .i64 0, .int .i64 0, .int .i64 0, .int .i64 0, .int .i64 0, .int .i64 0, .int .i64 0, .int .i64 0, .int .i64 0] 32))
          have R3 := Lib.hid (R2.out.bel ((Below.refl w2.heap.size w2).alloc (Nat.le_refl _) (.cells #[.int .i64 0, .int .i64 0, .int .i64 0, .int .i64 0, .int .i64 0, .int .i64 0, .int .i64 0, .int .i64 0, .int .i64 0, .int .i64 0, .int .i64 0, .int .i64 0, .int .i64 0, .int .i64 0, .int .i64 0, .int .i64 0, .int .i64 0, .int .i64 0, .int .i64 0, .int .i64 0] 32)))
          have T3 := Lib.hid (T.out.bel hB3.out)
          have hab2 : w1.heap.size ≤ w1.heap.size := Nat.le_refl _
          have hwab := hB2'.out.size
          have hR3 : RowKit.Hid (∀ b off, a2 = some ⟨b, off, none⟩ → b < w2.heap.size) := Lib.hid (fun b off e => by
            obtain ⟨b', o', e', hb', _⟩ := R2.out.row hpos
            rw [e] at e'
            cases e'
            exact hb')
          go_upto_region 15 with fail
          obtain ⟨ab, hab0⟩ : ∃ ab, w2.heap.size = ab := ⟨_, rfl⟩
          rw [hab0] at hab hwab hR3 ⊢
          clear R2 hB2' hab0
          generalize (w2.alloc (.cells #[.int .i64 0, .int .i64 0, .int .i64 0, .int .i64 0, .int .i64 0, .int .i64 0, .int .i64 0, .int .i64 0, .int .i64 0, .int .i64 0, .int .i64 0, .int .i64 0, .int .i64 0, .int .i64 0, .int .i64 0, .int .i64 0, .int .i64 0, .int .i64 0, .int .i64 0, .int .i64 0] 32)) = W3 at hab hB3 R3 T3 ⊢
          go_wp2_with fail
          go_loopw [4, 11] (fun _ s11 wr => ∃ (i : Nat) (x : Sched) (t : Nat → Nat) (m : Nat), s11 = .int .i64 (i : Nat) ∧ i ≤ n2 ∧ RowKit.Hid (Blk wr ab (atC t)) ∧ RowKit.Hid (KF [ab] W3 wr) ∧ RowKit.Hid (l.drop i = servedN nw (sumW (gd dw) nw) (gd dw) Q m x t) ∧ RowKit.Hid (leftQ Q t nw = m) ∧ RowKit.Hid (i + m = leftQ Q t0 nw)) (fun _ s11 _ => n2 - (intOf s11).toNat)
          case atStart => exact ⟨0, sched0, t0, leftQ Q t0 nw, rfl, Nat.zero_le _, hab, Lib.hid (KF.refl _ _), Lib.hid hrun.out, Lib.hid rfl, Lib.hid (Nat.zero_add _)⟩
          case round =>
            obtain ⟨i, x, t, m, rfl, hi, hA, hK, hd, hm, him⟩ := hrel
            have ii : (i : Int) ≤ (n2 : Int) := by omega
            by_cases hlt : i < n2
            · have ii1 : (i : Int) < (n2 : Int) := by omega
              have hlen := R3.out.len
              obtain ⟨y, r, hyr⟩ : ∃ y r, l.drop i = y :: r := by
                cases e : l.drop i with
                | nil => have := congrArg List.length e; simp at this; omega
                | cons y r => exact ⟨y, r, rfl⟩
              obtain ⟨m', k, x', rfl, rfl, hkN, hkt, hr⟩ := served_cons hgood.out (hd.out.symm.trans hyr)
              have hli : l[i]? = some ((k : Nat) : Int) := by
                have := congrArg (fun q => q[0]?) hyr
                simpa using this
              have hdr : RowKit.Hid (l.drop (i + 1) = r) := Lib.hid (by rw [← List.drop_drop, hyr]; rfl)
              obtain ⟨rb, ro, rfl, hrb, hrc⟩ := R3.out.row hpos
              have hneb := hR3.out rb ro rfl
              have y0 := (World.cell?_of_block (hK.out.k rb hrb (by simp; omega))).trans (hrc i _ hli)
              obtain rfl := T3.out.ha (by omega)
              have hbq := T.out.hb (by omega)
              have hneq : b2 ≠ ab := by omega
              have y1 := (World.cell?_of_block (hK.out.k b2 (T3.out.hb (by omega)) (by simp; omega))).trans (T3.out.c0 k hkN)
              have hqk := T3.out.q k hkN
              have hlk := hqk.len
              have hck := hqk.cap
              have hmk := hqk.max
              have y2 := hA.out.c k _ (atC_at t k (by omega))
              have y3 := hA.out.f k
              have hk0 : ¬ (k : Int) < 0 := by omega
              have hk1n : ¬ (nw : Int) ≤ (k : Int) := by omega
              have hk1 : (k : Int) < (nw : Int) := by omega
              have hk2 : (k : Int) < 20 := by omega
              obtain ⟨Lk, eL⟩ : ∃ n, L k = n := ⟨_, rfl⟩
              obtain ⟨tk, et⟩ : ∃ n, t k = n := ⟨_, rfl⟩
              have etH := Lib.hid et
              rw [eL] at y1 hlk hck
              rw [et] at y2 hkt
              rw [hlk] at hkt
              have hk3 : ¬ (Lk : Int) ≤ (tk : Int) := by omega
              have hk4 : (Lk : Int) ≤ 9223372036854775807 := by omega
              have hktH := Lib.hid (show t k < (Q k).length by omega)
              replace hyr := Lib.hid hyr
              replace hli := Lib.hid hli
              replace hrc := Lib.hid hrc
              replace hr := Lib.hid hr
              clear eL et hqk hmk hlen hlk hck
              go_upto_region 18 with fail
              go_big_quiet (fail)
              have hbd := Lib.hid (bDrew (Below.refl wr.heap.size wr) nq)
              have hA4 := hA.out.bel hbd.out
              have z0 := hA4.f k
              have hst : ((tk : Nat) : Int) + 1 = ((tk + 1 : Nat) : Int) := by push_cast; rfl
              have hA5 : RowKit.Hid (Blk ((wr.drewN nq).setCell ⟨ab, k, none⟩ (.int .i64 ((tk : Int) + 1))) ab (atC (upn t k (t k + 1)))) := Lib.hid (by
                rw [etH.out, hst, ← atC_set]
                exact hA4.set (by rw [atC_len]; omega) _)
              have hK5 := Lib.hid ((hK.out.trans (KF.of (l := [ab]) hbd.out)).set (p := ⟨ab, k, none⟩) (.inl (by simp)) (.int .i64 ((tk : Int) + 1)))
              have hls2 := Lib.hid (leftQ_step (Q := Q) hktH.out nw hkN)
              clear hst hA4 hA hK
              go_wp2_with fail
              go_roundw
              case rel => exact ⟨i + 1, x', upn t k (t k + 1), m', by go_num, hlt, hA5, hK5, Lib.hid (by rw [hdr.out]; exact hr.out), Lib.hid (by have := hls2.out; have := hm.out; omega), Lib.hid (by have := him.out; omega)⟩
              case measure => simp [intOf]; omega
            · obtain rfl : i = n2 := by omega
              have hm0 : m = 0 := served_nil hgood.out (by rw [← hd.out]; exact List.drop_eq_nil_of_le (by have := R3.out.len; omega)) hm.out
              have htt : leftQ Q t0 nw = i := by have := him.out; omega
              rw [htt]
              have hB9 := Lib.hid (hB3.out.trans (hK.out.below (fun q hq => by simp at hq; omega) hB3.out.size))
              clear hm0 htt hd hm him
              go_wp2_with fail
              refine (wakes26_c _).mono ?_
              rintro e w3 ⟨rfl, hb⟩
              have hF := Lib.hid (hB9.out.trans (hb.mono hB9.out.size))
              clear hb
              go_wp2_with fail
              exact bodyPost_ret (v := .bool true) (by simp [results, Try.results4, go_sem]) rfl ⟨rfl, hF.out⟩
      · have hl0 : runR dw i Q = [] := runR_none (.inl hno)
        replace hnew := Lib.hid hnew
        go_wp2_with fail
        refine hnew.out.mono ?_
        rintro e w1 ⟨rfl, hB1⟩
        have hr := frun_c w1 aw aq nw cw i cq b2 off2 dw A L C Q (Wt.out.bel hB1) (T.out.bel hB1) hls.out
        rw [hl0] at hr
        replace hr := Lib.hid hr
        replace hB1 := Lib.hid hB1
        clear hnew hl0 hno
        go_wp2_with fail
        refine hr.out.mono ?_
        rintro e w2 ⟨a2, n2, c2, rfl, hn2, hO2, hB2⟩
        obtain rfl : n2 = 0 := hn2
        have hB2' := Lib.hid (hB1.out.trans (hB2.mono hB1.out.size))
        clear hr hO2 hB2
        go_wp2_with fail
        refine (wakes26_c _).mono ?_
        rintro e w3 ⟨rfl, hb⟩
        have hF := Lib.hid (hB2'.out.trans (hb.mono hB2'.out.size))
        clear hb
        go_wp2_with fail
        exact bodyPost_ret (v := .bool true) (by simp [results, Try.results4, go_sem]) rfl ⟨rfl, hF.out⟩
theorem fairAll_walk (w : World) (v0 : Value) (a0 : XT_Lint) (v1 : Value) (a1 : XT_LLint) (w0 : Is_Lint w v0 a0) (w1 : Is_LLint w v1 a1) :
    Calls Try.prog 4 #[v0, v1] w fun e w' => e = .returned (.bool true) ∧ Below w.heap.size w w' := by
  obtain ⟨rfl, W0⟩ := w0
  obtain ⟨rfl, _, _, T0⟩ := w1
  by_cases h : 20 < a0.n ∨ 20 < a1.n
  · exact fall_great w a0.a a1.a a0.n a0.c a1.n a1.c h
  · exact fall_c w a0.a a1.a a0.n a0.c a1.n a1.c a1.b a1.off a0.d a1.A a1.L a1.C a1.Q W0 T0 (by omega) (by omega)
end Go.Proofs.Ytbbcongfaoopcaa
