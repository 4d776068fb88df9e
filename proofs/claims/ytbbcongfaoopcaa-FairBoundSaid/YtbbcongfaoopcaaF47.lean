/- The scheduler's bound: the law. -/
import Derived.Test.YtbbcongfaoopcaaM5
namespace Go.Proofs.Ytbbcongfaoopcaa
open Go.ChangeShapes Go.WideShapes Go.ChangeAt Go.RowKit Go.Maps
set_option linter.unusedVariables false
set_option linter.unusedSimpArgs false
open BigFrame Pk Fq Vr Fa Fb
attribute [local go_sem] max_fold25

namespace Fb
/-- What is known of the queues looked at so far. -/
def Seen (Q : Nat → List Int) (fl i : Nat) (most own : Int) : Prop := 0 ≤ most ∧ most ≤ 1500 ∧ 0 ≤ own ∧ own ≤ 1500 ∧ (∀ j, j < i → ∀ x, x ∈ Q j → 1 ≤ x ∧ x ≤ 1500 ∧ x ≤ most) ∧ (fl < i → ∀ x, x ∈ Q fl → x ≤ own)
def SeenIn (Q : Nat → List Int) (fl i q : Nat) (most own : Int) : Prop := Seen Q fl i most own ∧ (∀ r x, r < q → (Q i)[r]? = some x → 1 ≤ x ∧ x ≤ 1500 ∧ x ≤ most ∧ (i = fl → x ≤ own))
theorem SeenIn.step {Q : Nat → List Int} {fl i q : Nat} {most own y o2 : Int} (h : SeenIn Q fl i q most own) (hy : (Q i)[q]? = some y) (h1 : 1 ≤ y) (h2 : y ≤ 1500) (ho : o2 = if i = fl then max own y else own) : SeenIn Q fl i (q + 1) (max most y) o2 := by
  obtain ⟨⟨a1, a2, a3, a4, a5, a6⟩, b⟩ := h
  have c1 : own ≤ o2 := by rw [ho]; split <;> omega
  have c2 : o2 ≤ 1500 := by rw [ho]; split <;> omega
  refine ⟨⟨by omega, by omega, by omega, c2, fun j hj x hx => ?_, fun hf x hx => ?_⟩, fun r x hr hx => ?_⟩
  · have := a5 j hj x hx; omega
  · have := a6 hf x hx; omega
  · by_cases e : r = q
    · subst e
      rw [hy] at hx
      cases hx
      refine ⟨h1, h2, by omega, fun e2 => by rw [ho, if_pos e2]; omega⟩
    · have := b r x (by omega) hx
      exact ⟨this.1, this.2.1, by omega, fun e2 => by have := this.2.2.2 e2; omega⟩
theorem SeenIn.done {Q : Nat → List Int} {fl i q : Nat} {most own : Int} (h : SeenIn Q fl i q most own) (hq : (Q i).length ≤ q) : Seen Q fl (i + 1) most own := by
  obtain ⟨⟨a1, a2, a3, a4, a5, a6⟩, b⟩ := h
  have key : ∀ x, x ∈ Q i → 1 ≤ x ∧ x ≤ 1500 ∧ x ≤ most ∧ (i = fl → x ≤ own) := fun x hx => by
    obtain ⟨r, hr⟩ := List.getElem?_of_mem hx
    exact b r x (by have := (List.getElem?_eq_some_iff.1 hr).1; omega) hr
  refine ⟨a1, a2, a3, a4, fun j hj x hx => ?_, fun hf x hx => ?_⟩
  · by_cases e : j = i
    · subst e; have := key x hx; exact ⟨this.1, this.2.1, this.2.2.1⟩
    · exact a5 j (by omega) x hx
  · by_cases e : i = fl
    · subst e; exact (key x hx).2.2.2 rfl
    · exact a6 (by omega) x hx
end Fb

set_option maxRecDepth 100000 in
set_option maxHeartbeats 20000000 in
theorem fbound_c (w : World) (aw aq am : Option Addr) (nw cw nm cm cq b2 off2 : Nat) (dw dk : List Int) (A : Nat → Option Addr) (L C : Nat → Nat) (Q : Nat → List Int) (flow : Int) (Wt : IAt w aw nw cw dw) (T : QsAt w aq b2 off2 nw A L C Q) (Mt : IAt w am nm cm dk) (hok : newOk dw) (hnm : nm ≤ 150) (hfl1 : -9223372036854775808 ≤ flow) (hfl2 : flow ≤ 9223372036854775807) :
    Calls Try.prog 5 #[.slice aw nw cw, .slice aq nw cq, .slice am nm cm, .int .i64 flow] w fun e w' => e = .returned (.bool true) ∧ Below w.heap.size w w' := by
  have hlw := Wt.len
  have hnw : nw ≤ 8 := by have := hok.2.1; omega
  have hn1 : 1 ≤ nw := by have := hok.1; omega
  have hnz : (1 : Int) ≤ (nw : Int) := by omega
  have hnz8 : (nw : Int) ≤ 8 := by omega
  have hmz : ¬ (150 : Int) < (nm : Int) := by omega
  have hn0 : ¬ (nw : Int) = 0 := by omega
  have hgd : ∀ i, i < nw → 1 ≤ gd dw i ∧ gd dw i ≤ 16 := fun i hi => hok.2.2 _ (gd_mem (by omega))
  have hnew := Lib.hid ((fnew_c w aw nw cw dw Wt).resolve_right (fun q => q.1 hok)).2
  have hinv0 := Lib.hid (inv0 hnw hgd)
  obtain ⟨wb, wo, rfl, hwb, hwc⟩ := Wt.row (by omega)
  have hwc2 := Lib.hid (fun i (hi : i < nw) => hwc i _ (gd_at (show i < dw.length by omega)))
  obtain rfl := T.ha (by omega)
  have hqb := T.hb (by omega)
  have hr1 : -8 < flow.tmod (nw : Int) ∧ flow.tmod (nw : Int) < 8 := ⟨by have := Int.lt_tmod_of_pos flow (show (0 : Int) < nw by omega); omega, by have := Int.tmod_lt_of_pos flow (show (0 : Int) < nw by omega); omega⟩
  replace T := Lib.hid T
  replace Mt := Lib.hid Mt
  replace hgd := Lib.hid hgd
  clear Wt hok hlw hwc
  go_enter Try.func5, Try.ntmps5
  go_wp2_with fail
  refine hnew.out.mono ?_
  rintro e w1 ⟨f, lb, cl, tb, ct, rfl, hFD, hf1, hf2, hf3, hB1⟩
  have T1 := Lib.hid (T.out.bel hB1)
  replace hB1 := Lib.hid hB1
  replace hFD := Lib.hid hFD
  clear hnew
  go_upto_region 5 with fail
  obtain ⟨fl, hfln, hfle⟩ : ∃ fl : Nat, fl < nw ∧ (flow.tmod (nw : Int) + (nw : Int)).tmod (nw : Int) = (fl : Int) := by
    have h1 := Int.tmod_lt_of_pos (flow.tmod (nw : Int) + (nw : Int)) (show (0 : Int) < nw by omega)
    have h2 : 0 ≤ flow.tmod (nw : Int) + (nw : Int) := by have := Int.lt_tmod_of_pos flow (show (0 : Int) < nw by omega); omega
    have h3 := Int.tmod_nonneg (nw : Int) h2
    exact ⟨((flow.tmod (nw : Int) + (nw : Int)).tmod (nw : Int)).toNat, by omega, by omega⟩
  rw [hfle]
  clear hr1 hfl1 hfl2 hfle
  have hflz : (fl : Int) < (nw : Int) := by omega
  go_wp2_with fail
  go_loopw [8, 11, 12, 13, 14, 15] (fun _ s11 s12 s13 s14 _ wr => ∃ (i : Nat) (most own : Int), s11 = .int .i64 (sumW (gd dw) i) ∧ s12 = .int .i64 most ∧ s13 = .int .i64 own ∧ s14 = .int .i64 (i : Nat) ∧ i ≤ nw ∧ wr = w1 ∧ RowKit.Hid (Seen Q fl i most own) ∧ RowKit.Hid (∀ j, j < i → (Q j).length ≤ 60)) (fun _ _ _ _ s14 _ _ => nw - (intOf s14).toNat)
  case atStart => exact ⟨0, 0, 0, rfl, rfl, rfl, rfl, Nat.zero_le _, rfl, Lib.hid ⟨by omega, by omega, by omega, by omega, fun j hj => by omega, fun hf => by omega⟩, Lib.hid (fun j hj => by omega)⟩
  case round =>
    obtain ⟨i, most, own, rfl, rfl, rfl, rfl, hi, rfl, hseen, hlens⟩ := hrel
    have ii : (i : Int) ≤ (nw : Int) := by omega
    by_cases hlt : i < nw
    · have ii1 : (i : Int) < (nw : Int) := by omega
      have x0 := (hB1.out.cell (p := ⟨wb, wo + i, none⟩) hwb).trans (hwc2.out i hlt)
      have x1 := T1.out.c0 i hlt
      have hgi := hgd.out i hlt
      have sb := sumW_b hgd.out i (by omega)
      have hs2 := Lib.hid (show sumW (gd dw) (i + 1) = sumW (gd dw) i + gd dw i from rfl)
      have hq := T1.out.q i hlt
      have hlen := hq.len
      obtain ⟨y, hy⟩ : ∃ y, RowKit.Hid (gd dw i = y) := ⟨_, Lib.hid rfl⟩
      obtain ⟨s, hs⟩ : ∃ s, RowKit.Hid (sumW (gd dw) i = s) := ⟨_, Lib.hid rfl⟩
      obtain ⟨Li, eL⟩ : ∃ n, L i = n := ⟨_, rfl⟩
      obtain ⟨Ai, eA⟩ : ∃ n, A i = n := ⟨_, rfl⟩
      rw [hy.out] at x0 hgi
      rw [hs.out] at sb ⊢
      rw [eL] at hlen
      rw [eL, eA] at x1 hq
      obtain ⟨g1, g2⟩ := hgi
      obtain ⟨s3, s4⟩ := sb
      replace hq := Lib.hid hq
      replace hlen := Lib.hid hlen
      clear eL eA
      have hs128 : s ≤ 128 := by omega
      by_cases hbig : 60 < Li
      · have hbz : (60 : Int) < (Li : Int) := by omega
        go_wp2_with fail
        refine (wakes26_c _).mono ?_
        rintro e w3 ⟨rfl, hb⟩
        have hF := Lib.hid (hB1.out.trans (hb.mono hB1.out.size))
        clear hb
        go_wp2_with fail
        exact bodyPost_ret (v := .bool true) (by simp [results, Try.results5, go_sem]) rfl ⟨rfl, hF.out⟩
      · have hbz : (Li : Int) ≤ 60 := by omega
        go_wp2_with fail
        go_loopw [8, 12, 13, 15] (fun _ s12 s13 s15 wz => ∃ (q : Nat) (mo ow : Int), s12 = .int .i64 mo ∧ s13 = .int .i64 ow ∧ s15 = .int .i64 (q : Nat) ∧ q ≤ Li ∧ wz = wr ∧ RowKit.Hid (SeenIn Q fl i q mo ow)) (fun _ _ _ s15 _ => Li - (intOf s15).toNat)
        case atStart => exact ⟨0, most, own, rfl, rfl, rfl, Nat.zero_le _, rfl, Lib.hid ⟨hseen.out, fun r x hr => by omega⟩⟩
        case round =>
          obtain ⟨q, mo, ow, rfl, rfl, rfl, hql, rfl, hsn⟩ := hrel
          have qq : (q : Int) ≤ (Li : Int) := by omega
          by_cases hqlt : q < Li
          · have qq1 : (q : Int) < (Li : Int) := by omega
            obtain ⟨bj, oj, rfl, hbj, hcj⟩ := hq.out.row (by omega)
            obtain ⟨z, hz⟩ : ∃ z, (Q i)[q]? = some z := ⟨_, List.getElem?_eq_getElem (by have := hlen.out; omega)⟩
            have z0 := hcj q z hz
            replace hcj := Lib.hid hcj
            have hzH := Lib.hid hz
            clear hz
            by_cases g3 : z < 1
            · go_wp2_with fail
              refine (wakes26_c _).mono ?_
              rintro e w3 ⟨rfl, hb⟩
              have hF := Lib.hid (hB1.out.trans (hb.mono hB1.out.size))
              clear hb
              go_wp2_with fail
              exact bodyPost_ret (v := .bool true) (by simp [results, Try.results5, go_sem]) rfl ⟨rfl, hF.out⟩
            · by_cases g4 : 1500 < z
              · go_wp2_with fail
                refine (wakes26_c _).mono ?_
                rintro e w3 ⟨rfl, hb⟩
                have hF := Lib.hid (hB1.out.trans (hb.mono hB1.out.size))
                clear hb
                go_wp2_with fail
                exact bodyPost_ret (v := .bool true) (by simp [results, Try.results5, go_sem]) rfl ⟨rfl, hF.out⟩
              · by_cases hif : i = fl
                · have hifz : (i : Int) = (fl : Int) := by omega
                  have hst := Lib.hid (hsn.out.step hzH.out (by omega) (by omega) (show max ow z = if i = fl then max ow z else ow by rw [if_pos hif]))
                  subst hif
                  go_wp2_with fail
                  go_roundw
                  case rel => exact ⟨q + 1, max mo z, max ow z, rfl, rfl, by go_num, hqlt, by first | rfl | trivial, hst⟩
                  case measure => simp [intOf]; omega
                · have hifz : ¬ (i : Int) = (fl : Int) := by omega
                  have hst := Lib.hid (hsn.out.step hzH.out (by omega) (by omega) (show ow = if i = fl then max ow z else ow by rw [if_neg hif]))
                  go_wp2_with fail
                  go_roundw
                  case rel => exact ⟨q + 1, max mo z, ow, rfl, rfl, by go_num, hqlt, by first | rfl | trivial, hst⟩
                  case measure => simp [intOf]; omega
          · obtain rfl : q = Li := by omega
            have hdn := Lib.hid (hsn.out.done (by have := hlen.out; omega))
            go_wp2_with fail
            go_roundw
            case rel => exact ⟨i + 1, mo, ow, by rw [hs2.out, hs.out, hy.out], rfl, rfl, by go_num, hlt, by first | rfl | trivial, hdn, Lib.hid (fun j hj => by
              by_cases e : j = i
              · subst e; have := hlen.out; omega
              · exact hlens.out j (by omega))⟩
            case measure => simp [intOf]; omega
    · obtain rfl : i = nw := by omega
      obtain ⟨i0, hi0, hz0, hz1, hz2⟩ := info_parts info_int
      obtain ⟨ALL, hALL⟩ : ∃ z, RowKit.Hid (sumW (gd dw) i = z) := ⟨_, Lib.hid rfl⟩
      rw [hALL.out]
      have hA128 : 1 ≤ ALL ∧ ALL ≤ 128 := by have := sumW_b hgd.out i (Nat.le_refl _); rw [hALL.out] at this; omega
      obtain ⟨hA1, hA2⟩ := hA128
      obtain ⟨wz, hwz⟩ : ∃ z, RowKit.Hid (wr.heap.size = z) := ⟨_, Lib.hid rfl⟩
      have hwz2 := hwz.out
      go_upto_region 21 with (at_make; refine wpList_make_full _ rfl _ _ 22 rfl wr.heap.size 3 i0 _ 1 Try.underlying22 hi0 hz0 hz1 .i64 .i64 _ _ i rfl rfl rfl rfl (by rw [hz2]; omega) (by unfold maxLen; omega) (by simp) ?_; intro w3 hown3 hgrow3; have hown3 := Lib.hid hown3; have hgrow3 := Lib.hid hgrow3)
      have hAt : RowKit.Hid (Blk w3 wz (iC (tI t0) i)) := Lib.hid (by
        have hl := (hown3.out.lt wr.heap.size rfl).2
        rw [← hwz.out]
        exact ⟨fun j z hz => by
          have hj : j < i := by have := (List.getElem?_eq_some_iff.1 hz).1; rwa [iC_len] at this
          have e := hown3.out.cellAt j (by omega)
          rw [e, madeInts i j (by omega), ← hz, iC_at _ _ _ hj]
          rfl, fun o => hown3.out.frozenAt o, hl⟩)
      have hs3 := hgrow3.out.size
      have hK3 := Lib.hid (grownK hgrow3.out)
      have hB3 := Lib.hid ((Below.refl wr.heap.size wr).grown hgrow3.out (Nat.le_refl _) (fun q e => by cases e))
      have ha1 := (Below.refl w3.heap.size w3).alloc (Nat.le_refl _) (.cells #[.int .i64 0] 3)
      have o1 := own_lit w3 w.heap.size (by have := hB1.out.size; omega)
      have z1 : (w3.alloc (.cells #[.int .i64 0] 3)).heap.size = w3.heap.size + 1 := by simp
      have ha2 := (Below.refl (w3.alloc (.cells #[.int .i64 0] 3)).heap.size (w3.alloc (.cells #[.int .i64 0] 3))).alloc (Nat.le_refl _) (.cells #[.int .i64 0] 3)
      have o2 := own_lit (w3.alloc (.cells #[.int .i64 0] 3)) w.heap.size (by have := hB1.out.size; rw [z1]; omega)
      have z2 : ((w3.alloc (.cells #[.int .i64 0] 3)).alloc (.cells #[.int .i64 0] 3)).heap.size = w3.heap.size + 1 + 1 := by simp
      have ha3 := (Below.refl ((w3.alloc (.cells #[.int .i64 0] 3)).alloc (.cells #[.int .i64 0] 3)).heap.size ((w3.alloc (.cells #[.int .i64 0] 3)).alloc (.cells #[.int .i64 0] 3))).alloc (Nat.le_refl _) (.cells #[.slice (some ⟨w3.heap.size, 0, none⟩) 1 1, .slice (some ⟨w3.heap.size + 1, 0, none⟩) 1 1, .int .i64 0] 34)
      have bb := blkN_new ((w3.alloc (.cells #[.int .i64 0] 3)).alloc (.cells #[.int .i64 0] 3)) [.slice (some ⟨w3.heap.size, 0, none⟩) 1 1, .slice (some ⟨w3.heap.size + 1, 0, none⟩) 1 1, .int .i64 0] 34
      rw [z1] at o2
      rw [z2] at bb
      have hab12 := ha1.trans (ha2.mono (by rw [z1]; omega))
      have hab := hab12.trans (ha3.mono (by rw [z2]; omega))
      have hwl3 := hAt.out.l
      have hfl := hFD.out.b.l
      have hll := hFD.out.l.l
      have htl := hFD.out.tl
      have hBW : RowKit.Hid (BW w (((w3.alloc (.cells #[.int .i64 0] 3)).alloc (.cells #[.int .i64 0] 3)).alloc (.cells #[.slice (some ⟨w3.heap.size, 0, none⟩) 1 1, .slice (some ⟨w3.heap.size + 1, 0, none⟩) 1 1, .int .i64 0] 34)) f lb cl tb ct i ALL (gd dw) sched0 wz t0 (w3.heap.size + 1 + 1) 0 0 0 (fun _ => 0) (fun _ => 0) (some ⟨w3.heap.size, 0, none⟩) 1 (some ⟨w3.heap.size + 1, 0, none⟩) 1) := Lib.hid
        ⟨by rw [← hALL.out]; exact (hFD.out.bel hB3.out).bel hab, hAt.out.bel hab, bb, (o1.kf (KF.of (l := []) ha2) (fun q _ => by simp)).kf (KF.of (l := []) ha3) (fun q _ => by simp), o2.kf (KF.of (l := []) ha3) (fun q _ => by simp),
          (hB1.out.trans (hB3.out.mono hB1.out.size)).trans (hab.mono (by have := hB1.out.size; omega)), ⟨hf1, hf2, hf3, by have := hB1.out.size; omega, by have := hB1.out.size; omega⟩, ⟨by omega, by omega, by omega, by omega, by omega, by omega, by omega⟩,
          fun q e => by
            have e2 : w3.heap.size = q := by simpa [Value.ownBlock] using e
            subst e2
            exact ⟨by omega, by omega, by omega, by omega, by omega, by simp [Value.ownBlock]⟩, fun q e => by
            have e2 : w3.heap.size + 1 = q := by simpa [Value.ownBlock] using e
            subst e2
            exact ⟨by omega, by omega, by omega, by omega, by omega⟩⟩
      clear hAt hK3 hB3 ha1 o1 ha2 o2 ha3 bb hab12 hab hown3 hgrow3
      go_upto_region 22 with fail
      generalize (((w3.alloc (.cells #[.int .i64 0] 3)).alloc (.cells #[.int .i64 0] 3)).alloc (.cells #[.slice (some ⟨w3.heap.size, 0, none⟩) 1 1, .slice (some ⟨w3.heap.size + 1, 0, none⟩) 1 1, .int .i64 0] 34)) = W4 at hBW ⊢
      have hseen2 := hseen.out
      obtain ⟨m0, m1, o0, o1, hsx, hsy⟩ := hseen2
      have hgoodQ : RowKit.Hid (goodQ Q i) := Lib.hid (fun j hj x hx => ⟨(hsx j hj x hx).1, (hsx j hj x hx).2.1⟩)
      have hmostQ : RowKit.Hid (mostQ Q i fl most own) := Lib.hid ⟨fun j hj x hx => (hsx j hj x hx).2.2, hsy hfln⟩
      have hWf := hgd.out fl hfln
      have hWl : RowKit.Hid (∀ j, j < i → 1 ≤ gd dw j ∧ gd dw j ≤ ALL) := Lib.hid (fun j hj => by have := hinv0.out.w j hj; rw [hALL.out] at this; exact ⟨this.1, this.2.2⟩)
      have hBP : RowKit.Hid (BP i fl ALL most own (gd dw) Q sched0 t0 0 0 (fun _ => 0) (fun _ => 0)) := Lib.hid
        ⟨⟨fun j hj => ⟨by simp [sched0, nz], by simp [sched0, nz]; exact m0⟩, by simp [sched0, nz]; exact o0, fun j hj hd => by simp [sched0, nd] at hd, fun j hj => Int.le_refl _, fun j hj hz => by simp [sched0, nz] at hz,
          by
            have h1 := (hWl.out fl hfln).2
            have : 0 ≤ own * (ALL - gd dw fl) * 720720 := Int.mul_nonneg (Int.mul_nonneg o0 (by omega)) (by omega)
            simp [sched0, nz]
            simpa using this, fun X hX => by
            obtain ⟨j, hj, hz, _⟩ := hX
            simp [sched0, nz] at hz⟩, fun j hj hz => by simp [sched0, nz] at hz, fun j hj => Nat.zero_le _, Nat.le_refl _, fun h => absurd h (Nat.lt_irrefl _), fun k h1 h2 => by omega, fun j hj => ⟨Int.le_refl _, by omega⟩, fun j hj => ⟨Int.le_refl _, by omega⟩⟩
      have hI0 : RowKit.Hid (Inv ((0 : Nat) * PM) ALL sched0.V i (gd dw) sched0.Z sched0.D sched0.S sched0.F) := Lib.hid (by have := hinv0.out; rw [hALL.out] at this; simpa [sched0] using this)
      have hl60 : RowKit.Hid (∀ q, q < i → t0 q ≤ 60 ∧ (Q q).length ≤ 60) := Lib.hid (fun q hq => ⟨Nat.zero_le _, hlens.out q hq⟩)
      clear hsx hsy hseen hlens hFD hinv0
      generalize w3.heap.size + 1 + 1 = sb at hBW ⊢
      generalize wz = ab at hBW ⊢
      go_wp2_with fail
      go_loopw [8, 18, 19, 20, 21, 22, 23, 24] (fun _ s18 _ _ _ _ _ _ wr => ∃ (j : Nat) (x : Sched) (tb ct : Nat) (t : Nat → Nat) (n fr : Nat) (dm da : Nat → Int) (mv : Option Addr) (mc : Nat) (av : Option Addr) (ac : Nat), s18 = .int .i64 (j : Nat) ∧ j ≤ nm ∧ n ≤ j ∧ RowKit.Hid (BW w wr f lb cl tb ct i ALL (gd dw) x ab t sb n n fr dm da mv mc av ac) ∧ RowKit.Hid (Inv ((j : Nat) * PM) ALL x.V i (gd dw) x.Z x.D x.S x.F) ∧ RowKit.Hid (BP i fl ALL most own (gd dw) Q x t fr n dm da)) (fun _ s18 _ _ _ _ _ _ _ => nm - (intOf s18).toNat)
      case atStart => exact ⟨0, sched0, tb, ct, t0, 0, 0, fun _ => 0, fun _ => 0, _, _, _, _, rfl, Nat.zero_le _, Nat.le_refl _, hBW, hI0, hBP⟩
      case round =>
        obtain ⟨j, x, tb, ct, t, n, fr, dm, da, mv, mc, av, ac, rfl, hj, hnj, hS, hI, hP⟩ := hrel
        have jj : (j : Int) ≤ (nm : Int) := by omega
        have hbw := Lib.hid hS.out.bel
        by_cases hjl : j < nm
        · have jj1 : (j : Int) < (nm : Int) := by omega
          have hsz := hS.out.bel.size
          have hge := hS.out.ge
          have hs1 := hS.out.s1
          have x0 := hS.out.at_.c fl _ (iC_at (tI t) i fl hfln)
          simp only [tI] at x0
          have x1 := (T.out.bel hS.out.bel).c0 fl hfln
          have hqf := T.out.q fl hfln
          have hlenf := hqf.len
          have hcapf := hqf.cap
          have hmaxf := hqf.max
          have htf := hP.out.tl fl hfln
          obtain ⟨mbk, mbo, rfl, hmb1, hmb2⟩ := Mt.out.row (by omega)
          obtain ⟨mk, hmk⟩ : ∃ z, dk[j]? = some z := ⟨_, List.getElem?_eq_getElem (by have := Mt.out.len; omega)⟩
          have x2 := (hS.out.bel.cell (p := ⟨mbk, mbo + j, none⟩) hmb1).trans (hmb2 j mk hmk)
          replace hmb2 := Lib.hid hmb2
          replace hmk := Lib.hid hmk
          obtain ⟨tf, et⟩ : ∃ n, t fl = n := ⟨_, rfl⟩
          obtain ⟨Lf, eL⟩ : ∃ n, L fl = n := ⟨_, rfl⟩
          rw [et] at x0 htf
          rw [eL] at x1 hlenf hcapf
          rw [hlenf] at htf
          have etH := Lib.hid et
          have eLH := Lib.hid (hlenf : (Q fl).length = Lf)
          have hz3 : (Lf : Int) ≤ 9223372036854775807 := by omega
          clear et eL hqf hlenf
          have hM : ((j : Nat) : Int) * PM ≤ 1000000000000000 := by unfold PM; omega
          have hfl0 : ¬ (fl : Int) < 0 := by omega
          have hfl64 : (fl : Int) < 64 := by omega
          go_upto_region 25 with fail
          by_cases hpos : tf < Lf
          · have hpz : (tf : Int) < (Lf : Int) := by omega
            cases hmb : mb mk fl with
            | true =>
              have hmbx : (bits BinOp.and IntKind.i64 (mk / 2 ^ fl) 1 == 0) = true := hmb
              have hrd : 0 < headM Q t mk fl := by
                unfold headM
                rw [hmb, if_pos rfl]
                have h1 := headsQ_in hgoodQ.out hfln (t := t) (by have := eLH.out; have := etH.out; omega)
                omega
              have hex : ∃ q, q < i ∧ 0 < headM Q t mk q := ⟨fl, hfln, hrd⟩
              go_big_quiet (fail)
              have hS5 := Lib.hid (hS.out.below (bDrew (Below.refl wr.heap.size wr) nq))
              clear x0 x1 x2
              generalize wr.drewN nq = W5 at hS5 ⊢
              have x2 := (hS5.out.bel.cell (p := ⟨mbk, mbo + j, none⟩) hmb1).trans (hmb2.out j mk hmk.out)
              have hpk := lpick_c W5 f lb cl tb ct i b2 off2 cq ab i ALL ((j : Nat) * PM) mk (gd dw) x A L C Q t hS5.out.fd hI.out hM (T.out.bel hS5.out.bel) (fun q hq => hS5.out.at_.c q _ (iC_at (tI t) i q hq)) hS5.out.at_.l hP.out.tl hgoodQ.out
              have hI2 := Lib.hid (hI.out.pick (headM_ok hgoodQ.out t mk))
              obtain ⟨k, px, e1, hkN, hkp, hk15, hkt, hNR, hRD⟩ := hP.out.some hI.out hALL.out hfln hgoodQ.out hmostQ.out m0 o0 o1 m1 hex
              rw [e1] at hpk hI2
              clear e1
              obtain ⟨m, hmm⟩ : ∃ z, RowKit.Hid (headM Q t mk k = z) := ⟨_, Lib.hid rfl⟩
              rw [hmm.out] at hkp hk15
              replace hNR := Lib.hid hNR
              replace hRD := Lib.hid hRD
              replace hpk := Lib.hid (show Calls Try.prog 12 #[.pointer (some ⟨f, 0, none⟩), .slice (some ⟨b2, off2, none⟩) i cq, .slice (some ⟨ab, 0, none⟩) i i, .int .i64 mk] W5 (fun e w' => ∃ tb' ct', e = .returned (.tuple #[.int .i64 (k : Int), .int .i64 m, .bool true]) ∧ FD w' f lb cl tb' ct' i ALL px.V (gd dw) px.Z px.D px.S px.F ∧ (tb' = tb ∨ W5.heap.size ≤ tb') ∧ KF [f, lb] W5 w') from hpk.mono (by
                rintro e w' ⟨tb', ct', rfl, h1, h2, h3⟩
                exact ⟨tb', ct', by rw [← hmm.out]; rfl, h1, h2, h3⟩))
              go_wp2_with fail
              refine hpk.out.mono ?_
              rintro e w6 ⟨tb6, ct6, rfl, F6, ht6, k6⟩
              have hS6 := hS5.out.pick F6 ht6 k6
              have q0 := hS6.box.c 1 _ rfl
              have q1 := hS6.box.f 2
              have q2 := hS6.box.c 2 _ rfl
              have hnzz : (n : Int) ≤ 150 := by omega
              have Sw7 := Lib.hid (hS6)
              clear hpk F6 ht6 k6 hS5 hS x2
              go_upto_region 31 with fail
              clear q0 q1 q2 hS6
              have y0 := Sw7.out.at_.c k _ (iC_at (tI t) i k hkN)
              have y1 := Sw7.out.at_.f k
              simp only [tI] at y0
              obtain ⟨tk, etk⟩ : ∃ z, t k = z := ⟨_, rfl⟩
              have etkH := Lib.hid etk
              have hki : (k : Int) < (i : Int) := by omega
              have htk6 : (tk : Int) ≤ 60 := by have := (hP.out.tl k hkN); have := (hl60.out k hkN).2; omega
              have Sw8 := Sw7.out.setAt hkN
              rw [etk] at y0 Sw8
              replace Sw8 := Lib.hid Sw8
              clear etk Sw7
              go_upto_region 32 with fail
              generalize w6.setCell ⟨ab, k, none⟩ (.int .i64 ((tk : Int) + 1)) = w8 at Sw8 ⊢
              clear y0 y1
              by_cases hkf : k = fl
              · skip
                have hkz : (k : Int) = (fl : Int) := by omega
                have hval : RowKit.Hid ((if k = fl then m else 0) = m) := Lib.hid (if_pos hkf)
                obtain ⟨g8, rfl, hg8, hrow⟩ := Sw8.out.om.blk (by omega)
                have q0 := Sw8.out.box.c 0 _ rfl
                have q1 := hrow.c n _ (iC_at dm (n + 1) n (by omega))
                have hdb := hP.out.b1 n (Nat.le_refl _)
                obtain ⟨dn, hdn⟩ : ∃ z, RowKit.Hid (dm n = z) := ⟨_, Lib.hid rfl⟩
                rw [hdn.out] at q1 hdb
                obtain ⟨hdb1, hdb2⟩ := hdb
                have hdb3 : dn ≤ 225000 := by omega
                have hwr1 : IntKind.i64.wrap (dn + m) = dn + m := IntWalk.i64_in _ (by omega)
                replace hrow := Lib.hid hrow
                have hnn1 : (n : Int) < (n : Int) + 1 := by omega
                go_upto_region 35 with fail
                refine wp_region_noPanic ?_
                refine Stg.wp_region_L [10, 12] (Vr.SB w8) (by kernel_rfl) (fun _ => (Below.refl _ _).drew) (fun hHeld => ?_)
                refine Stg.wpAnyL_start (n' := 13) (l' := #[false, false, false, false, false, false, false, false, false, false, false, false, false]) (by kernel_rfl) (by kernel_rfl) ?_
                refine Stg.wpAnyL_free (i := 0) (v := ?_) 0 rfl (by kernel_rfl) (by kernel_rfl) (by kernel_rfl) (by kernel_rfl) (by kernel_rfl) (fun _ _ _ h => h) (Or.inl ⟨by kernel_rfl, ?_⟩) (by assumption) ?_
                rotate_left
                · intro u _
                  try simp only [List.getElem_toArray, List.getElem_cons_succ, List.getElem_cons_zero]
                  go_simp
                  try with_reducible rfl
                try simp only [Act.put, List.setIfInBounds_toArray, List.set_cons_zero, List.set_cons_succ]
                refine Stg.wpAnyL_take (i := 1) (v := ?_) [10, 11, 12] 0 rfl (by kernel_rfl) (by kernel_rfl) (by kernel_rfl) (by kernel_rfl) (by kernel_rfl) (fun _ _ _ h => h) (Or.inl ⟨by kernel_rfl, ?_⟩) (by assumption) ?_
                rotate_left
                · intro u hSu
                  skip
                  have sB := hSu rfl
                  have y0 := cellB sB q0
                  have y1 := cellB sB q1
                  try simp only [List.getElem_toArray, List.getElem_cons_succ, List.getElem_cons_zero]
                  go_simp
                  try with_reducible rfl
                try simp only [Act.put, List.setIfInBounds_toArray, List.set_cons_zero, List.set_cons_succ]
                refine Stg.wpAnyL_free (i := 2) (v := ?_) 0 rfl (by kernel_rfl) (by kernel_rfl) (by kernel_rfl) (by kernel_rfl) (by kernel_rfl) (fun _ _ _ h => h) (Or.inl ⟨by kernel_rfl, ?_⟩) (by assumption) ?_
                rotate_left
                · intro u _
                  try simp only [List.getElem_toArray, List.getElem_cons_succ, List.getElem_cons_zero]
                  go_simp
                  try with_reducible rfl
                try simp only [Act.put, List.setIfInBounds_toArray, List.set_cons_zero, List.set_cons_succ]
                refine Stg.wpAnyL_start (n' := 10) (l' := #[true, true, true, false, false, false, false, false, false, false, false, false, false]) (by kernel_rfl) (by kernel_rfl) ?_
                refine Stg.wpAnyL_take (i := 3) (v := ?_) [5, 6, 8, 9, 10, 11, 12] 0 rfl (by kernel_rfl) (by kernel_rfl) (by kernel_rfl) (by kernel_rfl) (by kernel_rfl) (fun _ _ _ h => h) (Or.inl ⟨by kernel_rfl, ?_⟩) (by assumption) ?_
                rotate_left
                · intro u hSu
                  skip
                  have sB := hSu rfl
                  have y0 := cellB sB q0
                  have y1 := cellB sB q1
                  try simp only [List.getElem_toArray, List.getElem_cons_succ, List.getElem_cons_zero]
                  go_simp
                  try with_reducible rfl
                try simp only [Act.put, List.setIfInBounds_toArray, List.set_cons_zero, List.set_cons_succ]
                refine Stg.wpAnyL_free (i := 4) (v := ?_) 0 rfl (by kernel_rfl) (by kernel_rfl) (by kernel_rfl) (by kernel_rfl) (by kernel_rfl) (fun _ _ _ h => h) (Or.inl ⟨by kernel_rfl, ?_⟩) (by assumption) ?_
                rotate_left
                · intro u _
                  try simp only [List.getElem_toArray, List.getElem_cons_succ, List.getElem_cons_zero]
                  go_simp
                  try with_reducible rfl
                try simp only [Act.put, List.setIfInBounds_toArray, List.set_cons_zero, List.set_cons_succ]
                refine Stg.wpAnyL_free (i := 5) (v := ?_) 0 rfl (by kernel_rfl) (by kernel_rfl) (by kernel_rfl) (by kernel_rfl) (by kernel_rfl) (fun _ _ _ h => h) (Or.inl ⟨by kernel_rfl, ?_⟩) (by assumption) ?_
                rotate_left
                · intro u _
                  try simp only [List.getElem_toArray, List.getElem_cons_succ, List.getElem_cons_zero]
                  go_simp
                  try with_reducible rfl
                try simp only [Act.put, List.setIfInBounds_toArray, List.set_cons_zero, List.set_cons_succ]
                refine Stg.wpAnyL_start (n' := 7) (l' := #[true, true, true, true, true, true, false, false, false, false, false, false, false]) (by kernel_rfl) (by kernel_rfl) ?_
                refine Stg.wpAnyL_take (i := 6) (v := ?_) [8, 9, 10, 11, 12] 0 rfl (by kernel_rfl) (by kernel_rfl) (by kernel_rfl) (by kernel_rfl) (by kernel_rfl) (fun _ _ _ h => h) (Or.inl ⟨by kernel_rfl, ?_⟩) (by assumption) ?_
                rotate_left
                · intro u hSu
                  skip
                  have sB := hSu rfl
                  have y0 := cellB sB q0
                  have y1 := cellB sB q1
                  try simp only [List.getElem_toArray, List.getElem_cons_succ, List.getElem_cons_zero]
                  go_simp
                  try with_reducible rfl
                try simp only [Act.put, List.setIfInBounds_toArray, List.set_cons_zero, List.set_cons_succ]
                refine Stg.wpAnyL_free (i := 7) (v := ?_) 0 rfl (by kernel_rfl) (by kernel_rfl) (by kernel_rfl) (by kernel_rfl) (by kernel_rfl) (fun _ _ _ h => h) (Or.inl ⟨by kernel_rfl, ?_⟩) (by assumption) ?_
                rotate_left
                · intro u _
                  try simp only [List.getElem_toArray, List.getElem_cons_succ, List.getElem_cons_zero]
                  go_simp
                  try with_reducible rfl
                try simp only [Act.put, List.setIfInBounds_toArray, List.set_cons_zero, List.set_cons_succ]
                refine Stg.wpAnyL_free (i := 8) (v := ?_) 0 rfl (by kernel_rfl) (by kernel_rfl) (by kernel_rfl) (by kernel_rfl) (by kernel_rfl) (fun _ _ _ h => h) (Or.inl ⟨by kernel_rfl, ?_⟩) (by assumption) ?_
                rotate_left
                · intro u _
                  try simp only [List.getElem_toArray, List.getElem_cons_succ, List.getElem_cons_zero]
                  go_simp
                  try with_reducible rfl
                try simp only [Act.put, List.setIfInBounds_toArray, List.set_cons_zero, List.set_cons_succ]
                refine Stg.wpAnyL_start (n' := 4) (l' := #[true, true, true, true, true, true, true, true, true, false, false, false, false]) (by kernel_rfl) (by kernel_rfl) ?_
                refine Stg.wpAnyL_one (i := 9) 0 rfl (by kernel_rfl) (by kernel_rfl) (fun K hK => ?_)
                try simp only [List.getElem_toArray, List.getElem_cons_succ, List.getElem_cons_zero]
                go_simp
                refine hK.out _ _ ?_ (fun hHeld1 => ?_)
                · exact fun _ => bNext (hHeld rfl) ((Below.refl _ _).alloc (Nat.le_refl _) _) (Nat.le_refl _)
                clear hK K
                try simp only [Act.put, List.setIfInBounds_toArray, List.set_cons_zero, List.set_cons_succ]
                refine Stg.wpAnyL_one (i := 10) 1 rfl (by kernel_rfl) (by kernel_rfl) (fun K hK => ?_)
                try simp only [List.getElem_toArray, List.getElem_cons_succ, List.getElem_cons_zero]
                rw [if_pos (by kernel_rfl)]
                refine wp_appI (.tmp 188) (.tmp 196) rfl w.heap.size (.slice (some ⟨g8, 0, none⟩) (n + 1) mc) (put dm n m) (n + 1) (by kernel_rfl) ((Sw8.out.om.kf (KF.of (l := []) (hHeld1 rfl)) (fun q _ => by simp)).congr (fun q hq => (put_old dm m (by omega)).symm)) (by have := (hHeld1 rfl).size; have := Sw8.out.bel.size; omega) (q := w8.drew.heap.size) (c := 1) (by kernel_rfl) (by rw [put_new, hdn.out]; exact blkN_new w8.drew [.int .i64 (dn + m)] 3) (by omega) ?_
                intro a8 n5 c8 w5 hown5 hn5 hsz5 hgrow5 hor5
                obtain rfl : n5 = n + 1 + 1 := hn5
                have hU := (Sw8.out.below (hHeld1 rfl)).appM (m := m) hown5 hgrow5 hor5
                refine hK.out _ _ ?_ (fun hHeld2 => ?_)
                · exact fun h => absurd h (by decide)
                clear hK K
                try simp only [Act.put, List.setIfInBounds_toArray, List.set_cons_zero, List.set_cons_succ]
                refine Stg.wpAnyL_free (i := 11) (v := ?_) 1 rfl (by kernel_rfl) (by kernel_rfl) (by kernel_rfl) (by kernel_rfl) (by kernel_rfl) (fun _ _ _ h => h) (Or.inl ⟨by kernel_rfl, ?_⟩) (by assumption) ?_
                rotate_left
                · intro u _
                  try simp only [List.getElem_toArray, List.getElem_cons_succ, List.getElem_cons_zero]
                  go_simp
                  try with_reducible rfl
                try simp only [Act.put, List.setIfInBounds_toArray, List.set_cons_zero, List.set_cons_succ]
                refine Stg.wpAnyL_start (n' := 1) (l' := #[true, true, true, true, true, true, true, true, true, true, true, true, false]) (by kernel_rfl) (by kernel_rfl) ?_
                refine Stg.wpAnyL_one (i := 12) 2 rfl (by kernel_rfl) (by kernel_rfl) (fun K hK => ?_)
                have z0 := hU.2.f 0
                have z1 := hU.2.c 0 _ rfl
                try simp only [List.getElem_toArray, List.getElem_cons_succ, List.getElem_cons_zero]
                go_simp
                refine hK.out _ _ ?_ (fun hHeld3 => ?_)
                · exact fun h => absurd h (by decide)
                clear hK K
                try simp only [Act.put, List.setIfInBounds_toArray, List.set_cons_zero, List.set_cons_succ]
                refine Stg.wpAnyL_done (by kernel_rfl) ?_ _
                try simp only [List.getElem_toArray, List.getElem_cons_succ, List.getElem_cons_zero]
                try simp only [Act.put, List.setIfInBounds_toArray, List.set_cons_zero, List.set_cons_succ]
                refine NoPanic.normal ?_
                have Sw9 := Lib.hid hU.1
                clear z0 z1 hU hown5 hgrow5 hor5 hsz5 q0 q1 hHeld Sw8 hrow hwr1 hdb3 hdb1 hdb2 hdn
                generalize w5.setCell ⟨sb, 0, none⟩ (.slice a8 (n + 1 + 1) c8) = w9 at Sw9 ⊢
                obtain ⟨g9, rfl, hg9, hrow⟩ := Sw9.out.oa.blk (by omega)
                have q0 := Sw9.out.box.c 1 _ rfl
                have q1 := hrow.c n _ (iC_at da (n + 1) n (by omega))
                have hdb := hP.out.b2 n (Nat.le_refl _)
                obtain ⟨dn, hdn⟩ : ∃ z, RowKit.Hid (da n = z) := ⟨_, Lib.hid rfl⟩
                rw [hdn.out] at q1 hdb
                obtain ⟨hdb1, hdb2⟩ := hdb
                have hdb3 : dn ≤ 225000 := by omega
                have hwr1 : IntKind.i64.wrap (dn + m) = dn + m := IntWalk.i64_in _ (by omega)
                replace hrow := Lib.hid hrow
                have hnn1 : (n : Int) < (n : Int) + 1 := by omega
                go_upto_region 36 with fail
                refine wp_region_noPanic ?_
                refine Stg.wp_region_L [10, 12] (Vr.SB w9) (by kernel_rfl) (fun _ => (Below.refl _ _).drew) (fun hHeld => ?_)
                refine Stg.wpAnyL_start (n' := 13) (l' := #[false, false, false, false, false, false, false, false, false, false, false, false, false]) (by kernel_rfl) (by kernel_rfl) ?_
                refine Stg.wpAnyL_free (i := 0) (v := ?_) 0 rfl (by kernel_rfl) (by kernel_rfl) (by kernel_rfl) (by kernel_rfl) (by kernel_rfl) (fun _ _ _ h => h) (Or.inl ⟨by kernel_rfl, ?_⟩) (by assumption) ?_
                rotate_left
                · intro u _
                  try simp only [List.getElem_toArray, List.getElem_cons_succ, List.getElem_cons_zero]
                  go_simp
                  try with_reducible rfl
                try simp only [Act.put, List.setIfInBounds_toArray, List.set_cons_zero, List.set_cons_succ]
                refine Stg.wpAnyL_take (i := 1) (v := ?_) [10, 11, 12] 0 rfl (by kernel_rfl) (by kernel_rfl) (by kernel_rfl) (by kernel_rfl) (by kernel_rfl) (fun _ _ _ h => h) (Or.inl ⟨by kernel_rfl, ?_⟩) (by assumption) ?_
                rotate_left
                · intro u hSu
                  skip
                  have sB := hSu rfl
                  have y0 := cellB sB q0
                  have y1 := cellB sB q1
                  try simp only [List.getElem_toArray, List.getElem_cons_succ, List.getElem_cons_zero]
                  go_simp
                  try with_reducible rfl
                try simp only [Act.put, List.setIfInBounds_toArray, List.set_cons_zero, List.set_cons_succ]
                refine Stg.wpAnyL_free (i := 2) (v := ?_) 0 rfl (by kernel_rfl) (by kernel_rfl) (by kernel_rfl) (by kernel_rfl) (by kernel_rfl) (fun _ _ _ h => h) (Or.inl ⟨by kernel_rfl, ?_⟩) (by assumption) ?_
                rotate_left
                · intro u _
                  try simp only [List.getElem_toArray, List.getElem_cons_succ, List.getElem_cons_zero]
                  go_simp
                  try with_reducible rfl
                try simp only [Act.put, List.setIfInBounds_toArray, List.set_cons_zero, List.set_cons_succ]
                refine Stg.wpAnyL_start (n' := 10) (l' := #[true, true, true, false, false, false, false, false, false, false, false, false, false]) (by kernel_rfl) (by kernel_rfl) ?_
                refine Stg.wpAnyL_take (i := 3) (v := ?_) [5, 6, 8, 9, 10, 11, 12] 0 rfl (by kernel_rfl) (by kernel_rfl) (by kernel_rfl) (by kernel_rfl) (by kernel_rfl) (fun _ _ _ h => h) (Or.inl ⟨by kernel_rfl, ?_⟩) (by assumption) ?_
                rotate_left
                · intro u hSu
                  skip
                  have sB := hSu rfl
                  have y0 := cellB sB q0
                  have y1 := cellB sB q1
                  try simp only [List.getElem_toArray, List.getElem_cons_succ, List.getElem_cons_zero]
                  go_simp
                  try with_reducible rfl
                try simp only [Act.put, List.setIfInBounds_toArray, List.set_cons_zero, List.set_cons_succ]
                refine Stg.wpAnyL_free (i := 4) (v := ?_) 0 rfl (by kernel_rfl) (by kernel_rfl) (by kernel_rfl) (by kernel_rfl) (by kernel_rfl) (fun _ _ _ h => h) (Or.inl ⟨by kernel_rfl, ?_⟩) (by assumption) ?_
                rotate_left
                · intro u _
                  try simp only [List.getElem_toArray, List.getElem_cons_succ, List.getElem_cons_zero]
                  go_simp
                  try with_reducible rfl
                try simp only [Act.put, List.setIfInBounds_toArray, List.set_cons_zero, List.set_cons_succ]
                refine Stg.wpAnyL_free (i := 5) (v := ?_) 0 rfl (by kernel_rfl) (by kernel_rfl) (by kernel_rfl) (by kernel_rfl) (by kernel_rfl) (fun _ _ _ h => h) (Or.inl ⟨by kernel_rfl, ?_⟩) (by assumption) ?_
                rotate_left
                · intro u _
                  try simp only [List.getElem_toArray, List.getElem_cons_succ, List.getElem_cons_zero]
                  go_simp
                  try with_reducible rfl
                try simp only [Act.put, List.setIfInBounds_toArray, List.set_cons_zero, List.set_cons_succ]
                refine Stg.wpAnyL_start (n' := 7) (l' := #[true, true, true, true, true, true, false, false, false, false, false, false, false]) (by kernel_rfl) (by kernel_rfl) ?_
                refine Stg.wpAnyL_take (i := 6) (v := ?_) [8, 9, 10, 11, 12] 0 rfl (by kernel_rfl) (by kernel_rfl) (by kernel_rfl) (by kernel_rfl) (by kernel_rfl) (fun _ _ _ h => h) (Or.inl ⟨by kernel_rfl, ?_⟩) (by assumption) ?_
                rotate_left
                · intro u hSu
                  skip
                  have sB := hSu rfl
                  have y0 := cellB sB q0
                  have y1 := cellB sB q1
                  try simp only [List.getElem_toArray, List.getElem_cons_succ, List.getElem_cons_zero]
                  go_simp
                  try with_reducible rfl
                try simp only [Act.put, List.setIfInBounds_toArray, List.set_cons_zero, List.set_cons_succ]
                refine Stg.wpAnyL_free (i := 7) (v := ?_) 0 rfl (by kernel_rfl) (by kernel_rfl) (by kernel_rfl) (by kernel_rfl) (by kernel_rfl) (fun _ _ _ h => h) (Or.inl ⟨by kernel_rfl, ?_⟩) (by assumption) ?_
                rotate_left
                · intro u _
                  try simp only [List.getElem_toArray, List.getElem_cons_succ, List.getElem_cons_zero]
                  go_simp
                  try with_reducible rfl
                try simp only [Act.put, List.setIfInBounds_toArray, List.set_cons_zero, List.set_cons_succ]
                refine Stg.wpAnyL_free (i := 8) (v := ?_) 0 rfl (by kernel_rfl) (by kernel_rfl) (by kernel_rfl) (by kernel_rfl) (by kernel_rfl) (fun _ _ _ h => h) (Or.inl ⟨by kernel_rfl, ?_⟩) (by assumption) ?_
                rotate_left
                · intro u _
                  try simp only [List.getElem_toArray, List.getElem_cons_succ, List.getElem_cons_zero]
                  go_simp
                  try with_reducible rfl
                try simp only [Act.put, List.setIfInBounds_toArray, List.set_cons_zero, List.set_cons_succ]
                refine Stg.wpAnyL_start (n' := 4) (l' := #[true, true, true, true, true, true, true, true, true, false, false, false, false]) (by kernel_rfl) (by kernel_rfl) ?_
                refine Stg.wpAnyL_one (i := 9) 0 rfl (by kernel_rfl) (by kernel_rfl) (fun K hK => ?_)
                try simp only [List.getElem_toArray, List.getElem_cons_succ, List.getElem_cons_zero]
                go_simp
                refine hK.out _ _ ?_ (fun hHeld1 => ?_)
                · exact fun _ => bNext (hHeld rfl) ((Below.refl _ _).alloc (Nat.le_refl _) _) (Nat.le_refl _)
                clear hK K
                try simp only [Act.put, List.setIfInBounds_toArray, List.set_cons_zero, List.set_cons_succ]
                refine Stg.wpAnyL_one (i := 10) 1 rfl (by kernel_rfl) (by kernel_rfl) (fun K hK => ?_)
                try simp only [List.getElem_toArray, List.getElem_cons_succ, List.getElem_cons_zero]
                rw [if_pos (by kernel_rfl)]
                refine wp_appI (.tmp 200) (.tmp 208) rfl w.heap.size (.slice (some ⟨g9, 0, none⟩) (n + 1) ac) (put da n m) (n + 1) (by kernel_rfl) ((Sw9.out.oa.kf (KF.of (l := []) (hHeld1 rfl)) (fun q _ => by simp)).congr (fun q hq => (put_old da m (by omega)).symm)) (by have := (hHeld1 rfl).size; have := Sw9.out.bel.size; omega) (q := w9.drew.heap.size) (c := 1) (by kernel_rfl) (by rw [put_new, hdn.out]; exact blkN_new w9.drew [.int .i64 (dn + m)] 3) (by omega) ?_
                intro a9 n5 c9 w5 hown5 hn5 hsz5 hgrow5 hor5
                obtain rfl : n5 = n + 1 + 1 := hn5
                have hU := (Sw9.out.below (hHeld1 rfl)).appA (m := m) hown5 hgrow5 hor5
                refine hK.out _ _ ?_ (fun hHeld2 => ?_)
                · exact fun h => absurd h (by decide)
                clear hK K
                try simp only [Act.put, List.setIfInBounds_toArray, List.set_cons_zero, List.set_cons_succ]
                refine Stg.wpAnyL_free (i := 11) (v := ?_) 1 rfl (by kernel_rfl) (by kernel_rfl) (by kernel_rfl) (by kernel_rfl) (by kernel_rfl) (fun _ _ _ h => h) (Or.inl ⟨by kernel_rfl, ?_⟩) (by assumption) ?_
                rotate_left
                · intro u _
                  try simp only [List.getElem_toArray, List.getElem_cons_succ, List.getElem_cons_zero]
                  go_simp
                  try with_reducible rfl
                try simp only [Act.put, List.setIfInBounds_toArray, List.set_cons_zero, List.set_cons_succ]
                refine Stg.wpAnyL_start (n' := 1) (l' := #[true, true, true, true, true, true, true, true, true, true, true, true, false]) (by kernel_rfl) (by kernel_rfl) ?_
                refine Stg.wpAnyL_one (i := 12) 2 rfl (by kernel_rfl) (by kernel_rfl) (fun K hK => ?_)
                have z0 := hU.2.f 1
                have z1 := hU.2.c 1 _ rfl
                try simp only [List.getElem_toArray, List.getElem_cons_succ, List.getElem_cons_zero]
                go_simp
                refine hK.out _ _ ?_ (fun hHeld3 => ?_)
                · exact fun h => absurd h (by decide)
                clear hK K
                try simp only [Act.put, List.setIfInBounds_toArray, List.set_cons_zero, List.set_cons_succ]
                refine Stg.wpAnyL_done (by kernel_rfl) ?_ _
                try simp only [List.getElem_toArray, List.getElem_cons_succ, List.getElem_cons_zero]
                try simp only [Act.put, List.setIfInBounds_toArray, List.set_cons_zero, List.set_cons_succ]
                refine NoPanic.normal ?_
                have Sw10 := Lib.hid hU.1
                clear z0 z1 hU hown5 hgrow5 hor5 hsz5 q0 q1 hHeld Sw9 hrow hwr1 hdb3 hdb1 hdb2 hdn
                generalize w5.setCell ⟨sb, 1, none⟩ (.slice a9 (n + 1 + 1) c9) = w10 at Sw10 ⊢
                have hBP2 := hRD.out hrd
                rw [hmm.out, hval.out, etkH.out] at hBP2
                obtain ⟨hBP2, hall⟩ := hBP2
                obtain ⟨gm, rfl, hgm, hrm⟩ := Sw10.out.om.blk (by omega)
                obtain ⟨ga, rfl, hga, hra⟩ := Sw10.out.oa.blk (by omega)
                have q0 := Sw10.out.box.c 0 _ rfl
                have q1 := Sw10.out.box.c 1 _ rfl
                have q2 := Sw10.out.box.c 2 _ rfl
                have q4 := (Sw10.out.bel.cell (p := ⟨wb, wo + fl, none⟩) hwb).trans (hwc2.out fl hfln)
                have hWf2 := hWl.out fl hfln
                have hho : ∀ u, Below w10.heap.size w10 u → Calls Try.prog 13 #[.agg #[.slice (some ⟨gm, 0, none⟩) (n + 1 + 1) c8, .slice (some ⟨ga, 0, none⟩) (n + 1 + 1) c9, .int .i64 (fr : Nat)], .int .i64 (gd dw fl), .int .i64 ALL, .int .i64 own, .int .i64 most] u fun e w' => e = .returned (.bool true) ∧ Below u.heap.size u w' := fun u hu => by
                  have r1 := hrm.bel hu
                  have r2 := hra.bel hu
                  exact holds_c u gm 0 c8 ga 0 c9 (n + 1) fr (put dm n m) (put da n m) (gd dw fl) ALL own most (fun q hq => by rw [Nat.zero_add]; exact r1.c q _ (iC_at _ (n + 1 + 1) q (by omega))) (fun q hq => by rw [Nat.zero_add]; exact r2.c q _ (iC_at _ (n + 1 + 1) q (by omega))) r1.l r2.l (by omega) (fun q hq => by have := hBP2.b1 q hq; omega) (fun q hq => by have := hBP2.b2 q hq; omega) (by omega) ⟨hA1, hA2⟩ ⟨o0, o1⟩ ⟨m0, m1⟩ hall
                replace hho := Lib.hid hho
                replace hBP2 := Lib.hid hBP2
                replace hrm := Lib.hid hrm
                replace hra := Lib.hid hra
                clear hall hWf2
                obtain ⟨wf, hwf⟩ : ∃ z, RowKit.Hid (gd dw fl = z) := ⟨_, Lib.hid rfl⟩
                rw [hwf.out] at q4 hho
                go_upto_region 39 with fail
                refine wp_region_noPanic ?_
                refine Stg.wp_region_L [8] (Vr.SB w10) (by kernel_rfl) (fun _ => (Below.refl _ _).drew) (fun hHeld => ?_)
                refine Stg.wpAnyL_start (n' := 10) (l' := #[false, false, false, false, false, false, false, false, false, false]) (by kernel_rfl) (by kernel_rfl) ?_
                refine Stg.wpAnyL_take (i := 0) (v := ?_) [8, 9] 0 rfl (by kernel_rfl) (by kernel_rfl) (by kernel_rfl) (by kernel_rfl) (by kernel_rfl) (fun _ _ _ h => h) (Or.inl ⟨by kernel_rfl, ?_⟩) (by assumption) ?_
                rotate_left
                · intro u hSu
                  skip
                  have sB := hSu rfl
                  have y0 := cellB sB q0
                  have y1 := cellB sB q1
                  have y2 := cellB sB q2
                  have y3 := cellB sB q4
                  try simp only [List.getElem_toArray, List.getElem_cons_succ, List.getElem_cons_zero]
                  go_simp
                  try with_reducible rfl
                try simp only [Act.put, List.setIfInBounds_toArray, List.set_cons_zero, List.set_cons_succ]
                refine Stg.wpAnyL_free (i := 1) (v := ?_) 0 rfl (by kernel_rfl) (by kernel_rfl) (by kernel_rfl) (by kernel_rfl) (by kernel_rfl) (fun _ _ _ h => h) (Or.inl ⟨by kernel_rfl, ?_⟩) (by assumption) ?_
                rotate_left
                · intro u _
                  try simp only [List.getElem_toArray, List.getElem_cons_succ, List.getElem_cons_zero]
                  go_simp
                  try with_reducible rfl
                try simp only [Act.put, List.setIfInBounds_toArray, List.set_cons_zero, List.set_cons_succ]
                refine Stg.wpAnyL_free (i := 2) (v := ?_) 0 rfl (by kernel_rfl) (by kernel_rfl) (by kernel_rfl) (by kernel_rfl) (by kernel_rfl) (fun _ _ _ h => h) (Or.inl ⟨by kernel_rfl, ?_⟩) (by assumption) ?_
                rotate_left
                · intro u _
                  try simp only [List.getElem_toArray, List.getElem_cons_succ, List.getElem_cons_zero]
                  go_simp
                  try with_reducible rfl
                try simp only [Act.put, List.setIfInBounds_toArray, List.set_cons_zero, List.set_cons_succ]
                refine Stg.wpAnyL_start (n' := 7) (l' := #[true, true, true, false, false, false, false, false, false, false]) (by kernel_rfl) (by kernel_rfl) ?_
                refine Stg.wpAnyL_free (i := 3) (v := ?_) 0 rfl (by kernel_rfl) (by kernel_rfl) (by kernel_rfl) (by kernel_rfl) (by kernel_rfl) (fun _ _ _ h => h) (Or.inl ⟨by kernel_rfl, ?_⟩) (by assumption) ?_
                rotate_left
                · intro u _
                  try simp only [List.getElem_toArray, List.getElem_cons_succ, List.getElem_cons_zero]
                  go_simp
                  try with_reducible rfl
                try simp only [Act.put, List.setIfInBounds_toArray, List.set_cons_zero, List.set_cons_succ]
                refine Stg.wpAnyL_take (i := 4) (v := ?_) [8, 9] 0 rfl (by kernel_rfl) (by kernel_rfl) (by kernel_rfl) (by kernel_rfl) (by kernel_rfl) (fun _ _ _ h => h) (Or.inl ⟨by kernel_rfl, ?_⟩) (by assumption) ?_
                rotate_left
                · intro u hSu
                  skip
                  have sB := hSu rfl
                  have y0 := cellB sB q0
                  have y1 := cellB sB q1
                  have y2 := cellB sB q2
                  have y3 := cellB sB q4
                  try simp only [List.getElem_toArray, List.getElem_cons_succ, List.getElem_cons_zero]
                  go_simp
                  try with_reducible rfl
                try simp only [Act.put, List.setIfInBounds_toArray, List.set_cons_zero, List.set_cons_succ]
                refine Stg.wpAnyL_free (i := 5) (v := ?_) 0 rfl (by kernel_rfl) (by kernel_rfl) (by kernel_rfl) (by kernel_rfl) (by kernel_rfl) (fun _ _ _ h => h) (Or.inl ⟨by kernel_rfl, ?_⟩) (by assumption) ?_
                rotate_left
                · intro u _
                  try simp only [List.getElem_toArray, List.getElem_cons_succ, List.getElem_cons_zero]
                  go_simp
                  try with_reducible rfl
                try simp only [Act.put, List.setIfInBounds_toArray, List.set_cons_zero, List.set_cons_succ]
                refine Stg.wpAnyL_start (n' := 4) (l' := #[true, true, true, true, true, true, false, false, false, false]) (by kernel_rfl) (by kernel_rfl) ?_
                refine Stg.wpAnyL_free (i := 6) (v := ?_) 0 rfl (by kernel_rfl) (by kernel_rfl) (by kernel_rfl) (by kernel_rfl) (by kernel_rfl) (fun _ _ _ h => h) (Or.inl ⟨by kernel_rfl, ?_⟩) (by assumption) ?_
                rotate_left
                · intro u _
                  try simp only [List.getElem_toArray, List.getElem_cons_succ, List.getElem_cons_zero]
                  go_simp
                  try with_reducible rfl
                try simp only [Act.put, List.setIfInBounds_toArray, List.set_cons_zero, List.set_cons_succ]
                refine Stg.wpAnyL_free (i := 7) (v := ?_) 0 rfl (by kernel_rfl) (by kernel_rfl) (by kernel_rfl) (by kernel_rfl) (by kernel_rfl) (fun _ _ _ h => h) (Or.inl ⟨by kernel_rfl, ?_⟩) (by assumption) ?_
                rotate_left
                · intro u _
                  try simp only [List.getElem_toArray, List.getElem_cons_succ, List.getElem_cons_zero]
                  go_simp
                  try with_reducible rfl
                try simp only [Act.put, List.setIfInBounds_toArray, List.set_cons_zero, List.set_cons_succ]
                refine Stg.wpAnyL_one (i := 8) 1 rfl (by kernel_rfl) (by kernel_rfl) (fun K hK => ?_)
                try simp only [List.getElem_toArray, List.getElem_cons_succ, List.getElem_cons_zero]
                go_simp
                refine (hho.out _ (hHeld rfl)).mono ?_
                rintro e w12 ⟨rfl, hb1⟩
                have Sw12 := Lib.hid ((Sw10.out.below (hHeld rfl)).below hb1)
                refine hK.out _ _ ?_ (fun hHeld1 => ?_)
                · exact fun h => absurd h (by decide)
                clear hK K
                try simp only [Act.put, List.setIfInBounds_toArray, List.set_cons_zero, List.set_cons_succ]
                refine Stg.wpAnyL_start (n' := 1) (l' := #[true, true, true, true, true, true, true, true, true, false]) (by kernel_rfl) (by kernel_rfl) ?_
                refine Stg.wpAnyL_free (i := 9) (v := ?_) 1 rfl (by kernel_rfl) (by kernel_rfl) (by kernel_rfl) (by kernel_rfl) (by kernel_rfl) (fun _ _ _ h => h) (Or.inl ⟨by kernel_rfl, ?_⟩) (by assumption) ?_
                rotate_left
                · intro u _
                  try simp only [List.getElem_toArray, List.getElem_cons_succ, List.getElem_cons_zero]
                  go_simp
                  try with_reducible rfl
                try simp only [Act.put, List.setIfInBounds_toArray, List.set_cons_zero, List.set_cons_succ]
                refine Stg.wpAnyL_done (by kernel_rfl) ?_ _
                try simp only [List.getElem_toArray, List.getElem_cons_succ, List.getElem_cons_zero]
                try simp only [Act.put, List.setIfInBounds_toArray, List.set_cons_zero, List.set_cons_succ]
                refine NoPanic.normal ?_
                clear hho q0 q1 q2 q4 Sw10 hHeld
                go_wp2_with fail
                go_roundw
                case rel => exact ⟨j + 1, px, tb6, ct6, upn t k (tk + 1), n + 1, fr, put dm n m, put da n m, _, _, _, _, by go_num, hjl, by omega, Sw12, Lib.hid (by rw [show (((j + 1 : Nat) : Int)) * PM = (j : Int) * PM + PM by push_cast; rw [Int.add_mul, Int.one_mul]]; exact hI2.out), hBP2⟩
                case measure => simp [intOf]; omega
              · skip
                have hkz : ¬ (k : Int) = (fl : Int) := by omega
                have hval : RowKit.Hid ((if k = fl then m else 0) = 0) := Lib.hid (if_neg hkf)
                obtain ⟨g8, rfl, hg8, hrow⟩ := Sw8.out.om.blk (by omega)
                have q0 := Sw8.out.box.c 0 _ rfl
                have q1 := hrow.c n _ (iC_at dm (n + 1) n (by omega))
                have hdb := hP.out.b1 n (Nat.le_refl _)
                obtain ⟨dn, hdn⟩ : ∃ z, RowKit.Hid (dm n = z) := ⟨_, Lib.hid rfl⟩
                rw [hdn.out] at q1 hdb
                obtain ⟨hdb1, hdb2⟩ := hdb
                have hdb3 : dn ≤ 225000 := by omega
                have hwr1 : IntKind.i64.wrap dn = dn := IntWalk.i64_in _ (by omega)
                replace hrow := Lib.hid hrow
                have hnn1 : (n : Int) < (n : Int) + 1 := by omega
                go_upto_region 35 with fail
                refine wp_region_noPanic ?_
                refine Stg.wp_region_L [10, 12] (Vr.SB w8) (by kernel_rfl) (fun _ => (Below.refl _ _).drew) (fun hHeld => ?_)
                refine Stg.wpAnyL_start (n' := 13) (l' := #[false, false, false, false, false, false, false, false, false, false, false, false, false]) (by kernel_rfl) (by kernel_rfl) ?_
                refine Stg.wpAnyL_free (i := 0) (v := ?_) 0 rfl (by kernel_rfl) (by kernel_rfl) (by kernel_rfl) (by kernel_rfl) (by kernel_rfl) (fun _ _ _ h => h) (Or.inl ⟨by kernel_rfl, ?_⟩) (by assumption) ?_
                rotate_left
                · intro u _
                  try simp only [List.getElem_toArray, List.getElem_cons_succ, List.getElem_cons_zero]
                  go_simp
                  try with_reducible rfl
                try simp only [Act.put, List.setIfInBounds_toArray, List.set_cons_zero, List.set_cons_succ]
                refine Stg.wpAnyL_take (i := 1) (v := ?_) [10, 11, 12] 0 rfl (by kernel_rfl) (by kernel_rfl) (by kernel_rfl) (by kernel_rfl) (by kernel_rfl) (fun _ _ _ h => h) (Or.inl ⟨by kernel_rfl, ?_⟩) (by assumption) ?_
                rotate_left
                · intro u hSu
                  skip
                  have sB := hSu rfl
                  have y0 := cellB sB q0
                  have y1 := cellB sB q1
                  try simp only [List.getElem_toArray, List.getElem_cons_succ, List.getElem_cons_zero]
                  go_simp
                  try with_reducible rfl
                try simp only [Act.put, List.setIfInBounds_toArray, List.set_cons_zero, List.set_cons_succ]
                refine Stg.wpAnyL_free (i := 2) (v := ?_) 0 rfl (by kernel_rfl) (by kernel_rfl) (by kernel_rfl) (by kernel_rfl) (by kernel_rfl) (fun _ _ _ h => h) (Or.inl ⟨by kernel_rfl, ?_⟩) (by assumption) ?_
                rotate_left
                · intro u _
                  try simp only [List.getElem_toArray, List.getElem_cons_succ, List.getElem_cons_zero]
                  go_simp
                  try with_reducible rfl
                try simp only [Act.put, List.setIfInBounds_toArray, List.set_cons_zero, List.set_cons_succ]
                refine Stg.wpAnyL_start (n' := 10) (l' := #[true, true, true, false, false, false, false, false, false, false, false, false, false]) (by kernel_rfl) (by kernel_rfl) ?_
                refine Stg.wpAnyL_take (i := 3) (v := ?_) [5, 6, 8, 9, 10, 11, 12] 0 rfl (by kernel_rfl) (by kernel_rfl) (by kernel_rfl) (by kernel_rfl) (by kernel_rfl) (fun _ _ _ h => h) (Or.inl ⟨by kernel_rfl, ?_⟩) (by assumption) ?_
                rotate_left
                · intro u hSu
                  skip
                  have sB := hSu rfl
                  have y0 := cellB sB q0
                  have y1 := cellB sB q1
                  try simp only [List.getElem_toArray, List.getElem_cons_succ, List.getElem_cons_zero]
                  go_simp
                  try with_reducible rfl
                try simp only [Act.put, List.setIfInBounds_toArray, List.set_cons_zero, List.set_cons_succ]
                refine Stg.wpAnyL_free (i := 4) (v := ?_) 0 rfl (by kernel_rfl) (by kernel_rfl) (by kernel_rfl) (by kernel_rfl) (by kernel_rfl) (fun _ _ _ h => h) (Or.inl ⟨by kernel_rfl, ?_⟩) (by assumption) ?_
                rotate_left
                · intro u _
                  try simp only [List.getElem_toArray, List.getElem_cons_succ, List.getElem_cons_zero]
                  go_simp
                  try with_reducible rfl
                try simp only [Act.put, List.setIfInBounds_toArray, List.set_cons_zero, List.set_cons_succ]
                refine Stg.wpAnyL_free (i := 5) (v := ?_) 0 rfl (by kernel_rfl) (by kernel_rfl) (by kernel_rfl) (by kernel_rfl) (by kernel_rfl) (fun _ _ _ h => h) (Or.inl ⟨by kernel_rfl, ?_⟩) (by assumption) ?_
                rotate_left
                · intro u _
                  try simp only [List.getElem_toArray, List.getElem_cons_succ, List.getElem_cons_zero]
                  go_simp
                  try with_reducible rfl
                try simp only [Act.put, List.setIfInBounds_toArray, List.set_cons_zero, List.set_cons_succ]
                refine Stg.wpAnyL_start (n' := 7) (l' := #[true, true, true, true, true, true, false, false, false, false, false, false, false]) (by kernel_rfl) (by kernel_rfl) ?_
                refine Stg.wpAnyL_take (i := 6) (v := ?_) [8, 9, 10, 11, 12] 0 rfl (by kernel_rfl) (by kernel_rfl) (by kernel_rfl) (by kernel_rfl) (by kernel_rfl) (fun _ _ _ h => h) (Or.inl ⟨by kernel_rfl, ?_⟩) (by assumption) ?_
                rotate_left
                · intro u hSu
                  skip
                  have sB := hSu rfl
                  have y0 := cellB sB q0
                  have y1 := cellB sB q1
                  try simp only [List.getElem_toArray, List.getElem_cons_succ, List.getElem_cons_zero]
                  go_simp
                  try with_reducible rfl
                try simp only [Act.put, List.setIfInBounds_toArray, List.set_cons_zero, List.set_cons_succ]
                refine Stg.wpAnyL_free (i := 7) (v := ?_) 0 rfl (by kernel_rfl) (by kernel_rfl) (by kernel_rfl) (by kernel_rfl) (by kernel_rfl) (fun _ _ _ h => h) (Or.inl ⟨by kernel_rfl, ?_⟩) (by assumption) ?_
                rotate_left
                · intro u _
                  try simp only [List.getElem_toArray, List.getElem_cons_succ, List.getElem_cons_zero]
                  go_simp
                  try with_reducible rfl
                try simp only [Act.put, List.setIfInBounds_toArray, List.set_cons_zero, List.set_cons_succ]
                refine Stg.wpAnyL_free (i := 8) (v := ?_) 0 rfl (by kernel_rfl) (by kernel_rfl) (by kernel_rfl) (by kernel_rfl) (by kernel_rfl) (fun _ _ _ h => h) (Or.inl ⟨by kernel_rfl, ?_⟩) (by assumption) ?_
                rotate_left
                · intro u _
                  try simp only [List.getElem_toArray, List.getElem_cons_succ, List.getElem_cons_zero]
                  go_simp
                  try with_reducible rfl
                try simp only [Act.put, List.setIfInBounds_toArray, List.set_cons_zero, List.set_cons_succ]
                refine Stg.wpAnyL_start (n' := 4) (l' := #[true, true, true, true, true, true, true, true, true, false, false, false, false]) (by kernel_rfl) (by kernel_rfl) ?_
                refine Stg.wpAnyL_one (i := 9) 0 rfl (by kernel_rfl) (by kernel_rfl) (fun K hK => ?_)
                try simp only [List.getElem_toArray, List.getElem_cons_succ, List.getElem_cons_zero]
                go_simp
                refine hK.out _ _ ?_ (fun hHeld1 => ?_)
                · exact fun _ => bNext (hHeld rfl) ((Below.refl _ _).alloc (Nat.le_refl _) _) (Nat.le_refl _)
                clear hK K
                try simp only [Act.put, List.setIfInBounds_toArray, List.set_cons_zero, List.set_cons_succ]
                refine Stg.wpAnyL_one (i := 10) 1 rfl (by kernel_rfl) (by kernel_rfl) (fun K hK => ?_)
                try simp only [List.getElem_toArray, List.getElem_cons_succ, List.getElem_cons_zero]
                rw [if_pos (by kernel_rfl)]
                refine wp_appI (.tmp 188) (.tmp 196) rfl w.heap.size (.slice (some ⟨g8, 0, none⟩) (n + 1) mc) (put dm n 0) (n + 1) (by kernel_rfl) ((Sw8.out.om.kf (KF.of (l := []) (hHeld1 rfl)) (fun q _ => by simp)).congr (fun q hq => (put_old dm 0 (by omega)).symm)) (by have := (hHeld1 rfl).size; have := Sw8.out.bel.size; omega) (q := w8.drew.heap.size) (c := 1) (by kernel_rfl) (by rw [put_new, hdn.out, Int.add_zero]; exact blkN_new w8.drew [.int .i64 dn] 3) (by omega) ?_
                intro a8 n5 c8 w5 hown5 hn5 hsz5 hgrow5 hor5
                obtain rfl : n5 = n + 1 + 1 := hn5
                have hU := (Sw8.out.below (hHeld1 rfl)).appM (m := 0) hown5 hgrow5 hor5
                refine hK.out _ _ ?_ (fun hHeld2 => ?_)
                · exact fun h => absurd h (by decide)
                clear hK K
                try simp only [Act.put, List.setIfInBounds_toArray, List.set_cons_zero, List.set_cons_succ]
                refine Stg.wpAnyL_free (i := 11) (v := ?_) 1 rfl (by kernel_rfl) (by kernel_rfl) (by kernel_rfl) (by kernel_rfl) (by kernel_rfl) (fun _ _ _ h => h) (Or.inl ⟨by kernel_rfl, ?_⟩) (by assumption) ?_
                rotate_left
                · intro u _
                  try simp only [List.getElem_toArray, List.getElem_cons_succ, List.getElem_cons_zero]
                  go_simp
                  try with_reducible rfl
                try simp only [Act.put, List.setIfInBounds_toArray, List.set_cons_zero, List.set_cons_succ]
                refine Stg.wpAnyL_start (n' := 1) (l' := #[true, true, true, true, true, true, true, true, true, true, true, true, false]) (by kernel_rfl) (by kernel_rfl) ?_
                refine Stg.wpAnyL_one (i := 12) 2 rfl (by kernel_rfl) (by kernel_rfl) (fun K hK => ?_)
                have z0 := hU.2.f 0
                have z1 := hU.2.c 0 _ rfl
                try simp only [List.getElem_toArray, List.getElem_cons_succ, List.getElem_cons_zero]
                go_simp
                refine hK.out _ _ ?_ (fun hHeld3 => ?_)
                · exact fun h => absurd h (by decide)
                clear hK K
                try simp only [Act.put, List.setIfInBounds_toArray, List.set_cons_zero, List.set_cons_succ]
                refine Stg.wpAnyL_done (by kernel_rfl) ?_ _
                try simp only [List.getElem_toArray, List.getElem_cons_succ, List.getElem_cons_zero]
                try simp only [Act.put, List.setIfInBounds_toArray, List.set_cons_zero, List.set_cons_succ]
                refine NoPanic.normal ?_
                have Sw9 := Lib.hid hU.1
                clear z0 z1 hU hown5 hgrow5 hor5 hsz5 q0 q1 hHeld Sw8 hrow hwr1 hdb3 hdb1 hdb2 hdn
                generalize w5.setCell ⟨sb, 0, none⟩ (.slice a8 (n + 1 + 1) c8) = w9 at Sw9 ⊢
                obtain ⟨g9, rfl, hg9, hrow⟩ := Sw9.out.oa.blk (by omega)
                have q0 := Sw9.out.box.c 1 _ rfl
                have q1 := hrow.c n _ (iC_at da (n + 1) n (by omega))
                have hdb := hP.out.b2 n (Nat.le_refl _)
                obtain ⟨dn, hdn⟩ : ∃ z, RowKit.Hid (da n = z) := ⟨_, Lib.hid rfl⟩
                rw [hdn.out] at q1 hdb
                obtain ⟨hdb1, hdb2⟩ := hdb
                have hdb3 : dn ≤ 225000 := by omega
                have hwr1 : IntKind.i64.wrap (dn + m) = dn + m := IntWalk.i64_in _ (by omega)
                replace hrow := Lib.hid hrow
                have hnn1 : (n : Int) < (n : Int) + 1 := by omega
                go_upto_region 36 with fail
                refine wp_region_noPanic ?_
                refine Stg.wp_region_L [10, 12] (Vr.SB w9) (by kernel_rfl) (fun _ => (Below.refl _ _).drew) (fun hHeld => ?_)
                refine Stg.wpAnyL_start (n' := 13) (l' := #[false, false, false, false, false, false, false, false, false, false, false, false, false]) (by kernel_rfl) (by kernel_rfl) ?_
                refine Stg.wpAnyL_free (i := 0) (v := ?_) 0 rfl (by kernel_rfl) (by kernel_rfl) (by kernel_rfl) (by kernel_rfl) (by kernel_rfl) (fun _ _ _ h => h) (Or.inl ⟨by kernel_rfl, ?_⟩) (by assumption) ?_
                rotate_left
                · intro u _
                  try simp only [List.getElem_toArray, List.getElem_cons_succ, List.getElem_cons_zero]
                  go_simp
                  try with_reducible rfl
                try simp only [Act.put, List.setIfInBounds_toArray, List.set_cons_zero, List.set_cons_succ]
                refine Stg.wpAnyL_take (i := 1) (v := ?_) [10, 11, 12] 0 rfl (by kernel_rfl) (by kernel_rfl) (by kernel_rfl) (by kernel_rfl) (by kernel_rfl) (fun _ _ _ h => h) (Or.inl ⟨by kernel_rfl, ?_⟩) (by assumption) ?_
                rotate_left
                · intro u hSu
                  skip
                  have sB := hSu rfl
                  have y0 := cellB sB q0
                  have y1 := cellB sB q1
                  try simp only [List.getElem_toArray, List.getElem_cons_succ, List.getElem_cons_zero]
                  go_simp
                  try with_reducible rfl
                try simp only [Act.put, List.setIfInBounds_toArray, List.set_cons_zero, List.set_cons_succ]
                refine Stg.wpAnyL_free (i := 2) (v := ?_) 0 rfl (by kernel_rfl) (by kernel_rfl) (by kernel_rfl) (by kernel_rfl) (by kernel_rfl) (fun _ _ _ h => h) (Or.inl ⟨by kernel_rfl, ?_⟩) (by assumption) ?_
                rotate_left
                · intro u _
                  try simp only [List.getElem_toArray, List.getElem_cons_succ, List.getElem_cons_zero]
                  go_simp
                  try with_reducible rfl
                try simp only [Act.put, List.setIfInBounds_toArray, List.set_cons_zero, List.set_cons_succ]
                refine Stg.wpAnyL_start (n' := 10) (l' := #[true, true, true, false, false, false, false, false, false, false, false, false, false]) (by kernel_rfl) (by kernel_rfl) ?_
                refine Stg.wpAnyL_take (i := 3) (v := ?_) [5, 6, 8, 9, 10, 11, 12] 0 rfl (by kernel_rfl) (by kernel_rfl) (by kernel_rfl) (by kernel_rfl) (by kernel_rfl) (fun _ _ _ h => h) (Or.inl ⟨by kernel_rfl, ?_⟩) (by assumption) ?_
                rotate_left
                · intro u hSu
                  skip
                  have sB := hSu rfl
                  have y0 := cellB sB q0
                  have y1 := cellB sB q1
                  try simp only [List.getElem_toArray, List.getElem_cons_succ, List.getElem_cons_zero]
                  go_simp
                  try with_reducible rfl
                try simp only [Act.put, List.setIfInBounds_toArray, List.set_cons_zero, List.set_cons_succ]
                refine Stg.wpAnyL_free (i := 4) (v := ?_) 0 rfl (by kernel_rfl) (by kernel_rfl) (by kernel_rfl) (by kernel_rfl) (by kernel_rfl) (fun _ _ _ h => h) (Or.inl ⟨by kernel_rfl, ?_⟩) (by assumption) ?_
                rotate_left
                · intro u _
                  try simp only [List.getElem_toArray, List.getElem_cons_succ, List.getElem_cons_zero]
                  go_simp
                  try with_reducible rfl
                try simp only [Act.put, List.setIfInBounds_toArray, List.set_cons_zero, List.set_cons_succ]
                refine Stg.wpAnyL_free (i := 5) (v := ?_) 0 rfl (by kernel_rfl) (by kernel_rfl) (by kernel_rfl) (by kernel_rfl) (by kernel_rfl) (fun _ _ _ h => h) (Or.inl ⟨by kernel_rfl, ?_⟩) (by assumption) ?_
                rotate_left
                · intro u _
                  try simp only [List.getElem_toArray, List.getElem_cons_succ, List.getElem_cons_zero]
                  go_simp
                  try with_reducible rfl
                try simp only [Act.put, List.setIfInBounds_toArray, List.set_cons_zero, List.set_cons_succ]
                refine Stg.wpAnyL_start (n' := 7) (l' := #[true, true, true, true, true, true, false, false, false, false, false, false, false]) (by kernel_rfl) (by kernel_rfl) ?_
                refine Stg.wpAnyL_take (i := 6) (v := ?_) [8, 9, 10, 11, 12] 0 rfl (by kernel_rfl) (by kernel_rfl) (by kernel_rfl) (by kernel_rfl) (by kernel_rfl) (fun _ _ _ h => h) (Or.inl ⟨by kernel_rfl, ?_⟩) (by assumption) ?_
                rotate_left
                · intro u hSu
                  skip
                  have sB := hSu rfl
                  have y0 := cellB sB q0
                  have y1 := cellB sB q1
                  try simp only [List.getElem_toArray, List.getElem_cons_succ, List.getElem_cons_zero]
                  go_simp
                  try with_reducible rfl
                try simp only [Act.put, List.setIfInBounds_toArray, List.set_cons_zero, List.set_cons_succ]
                refine Stg.wpAnyL_free (i := 7) (v := ?_) 0 rfl (by kernel_rfl) (by kernel_rfl) (by kernel_rfl) (by kernel_rfl) (by kernel_rfl) (fun _ _ _ h => h) (Or.inl ⟨by kernel_rfl, ?_⟩) (by assumption) ?_
                rotate_left
                · intro u _
                  try simp only [List.getElem_toArray, List.getElem_cons_succ, List.getElem_cons_zero]
                  go_simp
                  try with_reducible rfl
                try simp only [Act.put, List.setIfInBounds_toArray, List.set_cons_zero, List.set_cons_succ]
                refine Stg.wpAnyL_free (i := 8) (v := ?_) 0 rfl (by kernel_rfl) (by kernel_rfl) (by kernel_rfl) (by kernel_rfl) (by kernel_rfl) (fun _ _ _ h => h) (Or.inl ⟨by kernel_rfl, ?_⟩) (by assumption) ?_
                rotate_left
                · intro u _
                  try simp only [List.getElem_toArray, List.getElem_cons_succ, List.getElem_cons_zero]
                  go_simp
                  try with_reducible rfl
                try simp only [Act.put, List.setIfInBounds_toArray, List.set_cons_zero, List.set_cons_succ]
                refine Stg.wpAnyL_start (n' := 4) (l' := #[true, true, true, true, true, true, true, true, true, false, false, false, false]) (by kernel_rfl) (by kernel_rfl) ?_
                refine Stg.wpAnyL_one (i := 9) 0 rfl (by kernel_rfl) (by kernel_rfl) (fun K hK => ?_)
                try simp only [List.getElem_toArray, List.getElem_cons_succ, List.getElem_cons_zero]
                go_simp
                refine hK.out _ _ ?_ (fun hHeld1 => ?_)
                · exact fun _ => bNext (hHeld rfl) ((Below.refl _ _).alloc (Nat.le_refl _) _) (Nat.le_refl _)
                clear hK K
                try simp only [Act.put, List.setIfInBounds_toArray, List.set_cons_zero, List.set_cons_succ]
                refine Stg.wpAnyL_one (i := 10) 1 rfl (by kernel_rfl) (by kernel_rfl) (fun K hK => ?_)
                try simp only [List.getElem_toArray, List.getElem_cons_succ, List.getElem_cons_zero]
                rw [if_pos (by kernel_rfl)]
                refine wp_appI (.tmp 200) (.tmp 208) rfl w.heap.size (.slice (some ⟨g9, 0, none⟩) (n + 1) ac) (put da n m) (n + 1) (by kernel_rfl) ((Sw9.out.oa.kf (KF.of (l := []) (hHeld1 rfl)) (fun q _ => by simp)).congr (fun q hq => (put_old da m (by omega)).symm)) (by have := (hHeld1 rfl).size; have := Sw9.out.bel.size; omega) (q := w9.drew.heap.size) (c := 1) (by kernel_rfl) (by rw [put_new, hdn.out]; exact blkN_new w9.drew [.int .i64 (dn + m)] 3) (by omega) ?_
                intro a9 n5 c9 w5 hown5 hn5 hsz5 hgrow5 hor5
                obtain rfl : n5 = n + 1 + 1 := hn5
                have hU := (Sw9.out.below (hHeld1 rfl)).appA (m := m) hown5 hgrow5 hor5
                refine hK.out _ _ ?_ (fun hHeld2 => ?_)
                · exact fun h => absurd h (by decide)
                clear hK K
                try simp only [Act.put, List.setIfInBounds_toArray, List.set_cons_zero, List.set_cons_succ]
                refine Stg.wpAnyL_free (i := 11) (v := ?_) 1 rfl (by kernel_rfl) (by kernel_rfl) (by kernel_rfl) (by kernel_rfl) (by kernel_rfl) (fun _ _ _ h => h) (Or.inl ⟨by kernel_rfl, ?_⟩) (by assumption) ?_
                rotate_left
                · intro u _
                  try simp only [List.getElem_toArray, List.getElem_cons_succ, List.getElem_cons_zero]
                  go_simp
                  try with_reducible rfl
                try simp only [Act.put, List.setIfInBounds_toArray, List.set_cons_zero, List.set_cons_succ]
                refine Stg.wpAnyL_start (n' := 1) (l' := #[true, true, true, true, true, true, true, true, true, true, true, true, false]) (by kernel_rfl) (by kernel_rfl) ?_
                refine Stg.wpAnyL_one (i := 12) 2 rfl (by kernel_rfl) (by kernel_rfl) (fun K hK => ?_)
                have z0 := hU.2.f 1
                have z1 := hU.2.c 1 _ rfl
                try simp only [List.getElem_toArray, List.getElem_cons_succ, List.getElem_cons_zero]
                go_simp
                refine hK.out _ _ ?_ (fun hHeld3 => ?_)
                · exact fun h => absurd h (by decide)
                clear hK K
                try simp only [Act.put, List.setIfInBounds_toArray, List.set_cons_zero, List.set_cons_succ]
                refine Stg.wpAnyL_done (by kernel_rfl) ?_ _
                try simp only [List.getElem_toArray, List.getElem_cons_succ, List.getElem_cons_zero]
                try simp only [Act.put, List.setIfInBounds_toArray, List.set_cons_zero, List.set_cons_succ]
                refine NoPanic.normal ?_
                have Sw10 := Lib.hid hU.1
                clear z0 z1 hU hown5 hgrow5 hor5 hsz5 q0 q1 hHeld Sw9 hrow hwr1 hdb3 hdb1 hdb2 hdn
                generalize w5.setCell ⟨sb, 1, none⟩ (.slice a9 (n + 1 + 1) c9) = w10 at Sw10 ⊢
                have hBP2 := hRD.out hrd
                rw [hmm.out, hval.out, etkH.out] at hBP2
                obtain ⟨hBP2, hall⟩ := hBP2
                obtain ⟨gm, rfl, hgm, hrm⟩ := Sw10.out.om.blk (by omega)
                obtain ⟨ga, rfl, hga, hra⟩ := Sw10.out.oa.blk (by omega)
                have q0 := Sw10.out.box.c 0 _ rfl
                have q1 := Sw10.out.box.c 1 _ rfl
                have q2 := Sw10.out.box.c 2 _ rfl
                have q4 := (Sw10.out.bel.cell (p := ⟨wb, wo + fl, none⟩) hwb).trans (hwc2.out fl hfln)
                have hWf2 := hWl.out fl hfln
                have hho : ∀ u, Below w10.heap.size w10 u → Calls Try.prog 13 #[.agg #[.slice (some ⟨gm, 0, none⟩) (n + 1 + 1) c8, .slice (some ⟨ga, 0, none⟩) (n + 1 + 1) c9, .int .i64 (fr : Nat)], .int .i64 (gd dw fl), .int .i64 ALL, .int .i64 own, .int .i64 most] u fun e w' => e = .returned (.bool true) ∧ Below u.heap.size u w' := fun u hu => by
                  have r1 := hrm.bel hu
                  have r2 := hra.bel hu
                  exact holds_c u gm 0 c8 ga 0 c9 (n + 1) fr (put dm n 0) (put da n m) (gd dw fl) ALL own most (fun q hq => by rw [Nat.zero_add]; exact r1.c q _ (iC_at _ (n + 1 + 1) q (by omega))) (fun q hq => by rw [Nat.zero_add]; exact r2.c q _ (iC_at _ (n + 1 + 1) q (by omega))) r1.l r2.l (by omega) (fun q hq => by have := hBP2.b1 q hq; omega) (fun q hq => by have := hBP2.b2 q hq; omega) (by omega) ⟨hA1, hA2⟩ ⟨o0, o1⟩ ⟨m0, m1⟩ hall
                replace hho := Lib.hid hho
                replace hBP2 := Lib.hid hBP2
                replace hrm := Lib.hid hrm
                replace hra := Lib.hid hra
                clear hall hWf2
                obtain ⟨wf, hwf⟩ : ∃ z, RowKit.Hid (gd dw fl = z) := ⟨_, Lib.hid rfl⟩
                rw [hwf.out] at q4 hho
                go_upto_region 39 with fail
                refine wp_region_noPanic ?_
                refine Stg.wp_region_L [8] (Vr.SB w10) (by kernel_rfl) (fun _ => (Below.refl _ _).drew) (fun hHeld => ?_)
                refine Stg.wpAnyL_start (n' := 10) (l' := #[false, false, false, false, false, false, false, false, false, false]) (by kernel_rfl) (by kernel_rfl) ?_
                refine Stg.wpAnyL_take (i := 0) (v := ?_) [8, 9] 0 rfl (by kernel_rfl) (by kernel_rfl) (by kernel_rfl) (by kernel_rfl) (by kernel_rfl) (fun _ _ _ h => h) (Or.inl ⟨by kernel_rfl, ?_⟩) (by assumption) ?_
                rotate_left
                · intro u hSu
                  skip
                  have sB := hSu rfl
                  have y0 := cellB sB q0
                  have y1 := cellB sB q1
                  have y2 := cellB sB q2
                  have y3 := cellB sB q4
                  try simp only [List.getElem_toArray, List.getElem_cons_succ, List.getElem_cons_zero]
                  go_simp
                  try with_reducible rfl
                try simp only [Act.put, List.setIfInBounds_toArray, List.set_cons_zero, List.set_cons_succ]
                refine Stg.wpAnyL_free (i := 1) (v := ?_) 0 rfl (by kernel_rfl) (by kernel_rfl) (by kernel_rfl) (by kernel_rfl) (by kernel_rfl) (fun _ _ _ h => h) (Or.inl ⟨by kernel_rfl, ?_⟩) (by assumption) ?_
                rotate_left
                · intro u _
                  try simp only [List.getElem_toArray, List.getElem_cons_succ, List.getElem_cons_zero]
                  go_simp
                  try with_reducible rfl
                try simp only [Act.put, List.setIfInBounds_toArray, List.set_cons_zero, List.set_cons_succ]
                refine Stg.wpAnyL_free (i := 2) (v := ?_) 0 rfl (by kernel_rfl) (by kernel_rfl) (by kernel_rfl) (by kernel_rfl) (by kernel_rfl) (fun _ _ _ h => h) (Or.inl ⟨by kernel_rfl, ?_⟩) (by assumption) ?_
                rotate_left
                · intro u _
                  try simp only [List.getElem_toArray, List.getElem_cons_succ, List.getElem_cons_zero]
                  go_simp
                  try with_reducible rfl
                try simp only [Act.put, List.setIfInBounds_toArray, List.set_cons_zero, List.set_cons_succ]
                refine Stg.wpAnyL_start (n' := 7) (l' := #[true, true, true, false, false, false, false, false, false, false]) (by kernel_rfl) (by kernel_rfl) ?_
                refine Stg.wpAnyL_free (i := 3) (v := ?_) 0 rfl (by kernel_rfl) (by kernel_rfl) (by kernel_rfl) (by kernel_rfl) (by kernel_rfl) (fun _ _ _ h => h) (Or.inl ⟨by kernel_rfl, ?_⟩) (by assumption) ?_
                rotate_left
                · intro u _
                  try simp only [List.getElem_toArray, List.getElem_cons_succ, List.getElem_cons_zero]
                  go_simp
                  try with_reducible rfl
                try simp only [Act.put, List.setIfInBounds_toArray, List.set_cons_zero, List.set_cons_succ]
                refine Stg.wpAnyL_take (i := 4) (v := ?_) [8, 9] 0 rfl (by kernel_rfl) (by kernel_rfl) (by kernel_rfl) (by kernel_rfl) (by kernel_rfl) (fun _ _ _ h => h) (Or.inl ⟨by kernel_rfl, ?_⟩) (by assumption) ?_
                rotate_left
                · intro u hSu
                  skip
                  have sB := hSu rfl
                  have y0 := cellB sB q0
                  have y1 := cellB sB q1
                  have y2 := cellB sB q2
                  have y3 := cellB sB q4
                  try simp only [List.getElem_toArray, List.getElem_cons_succ, List.getElem_cons_zero]
                  go_simp
                  try with_reducible rfl
                try simp only [Act.put, List.setIfInBounds_toArray, List.set_cons_zero, List.set_cons_succ]
                refine Stg.wpAnyL_free (i := 5) (v := ?_) 0 rfl (by kernel_rfl) (by kernel_rfl) (by kernel_rfl) (by kernel_rfl) (by kernel_rfl) (fun _ _ _ h => h) (Or.inl ⟨by kernel_rfl, ?_⟩) (by assumption) ?_
                rotate_left
                · intro u _
                  try simp only [List.getElem_toArray, List.getElem_cons_succ, List.getElem_cons_zero]
                  go_simp
                  try with_reducible rfl
                try simp only [Act.put, List.setIfInBounds_toArray, List.set_cons_zero, List.set_cons_succ]
                refine Stg.wpAnyL_start (n' := 4) (l' := #[true, true, true, true, true, true, false, false, false, false]) (by kernel_rfl) (by kernel_rfl) ?_
                refine Stg.wpAnyL_free (i := 6) (v := ?_) 0 rfl (by kernel_rfl) (by kernel_rfl) (by kernel_rfl) (by kernel_rfl) (by kernel_rfl) (fun _ _ _ h => h) (Or.inl ⟨by kernel_rfl, ?_⟩) (by assumption) ?_
                rotate_left
                · intro u _
                  try simp only [List.getElem_toArray, List.getElem_cons_succ, List.getElem_cons_zero]
                  go_simp
                  try with_reducible rfl
                try simp only [Act.put, List.setIfInBounds_toArray, List.set_cons_zero, List.set_cons_succ]
                refine Stg.wpAnyL_free (i := 7) (v := ?_) 0 rfl (by kernel_rfl) (by kernel_rfl) (by kernel_rfl) (by kernel_rfl) (by kernel_rfl) (fun _ _ _ h => h) (Or.inl ⟨by kernel_rfl, ?_⟩) (by assumption) ?_
                rotate_left
                · intro u _
                  try simp only [List.getElem_toArray, List.getElem_cons_succ, List.getElem_cons_zero]
                  go_simp
                  try with_reducible rfl
                try simp only [Act.put, List.setIfInBounds_toArray, List.set_cons_zero, List.set_cons_succ]
                refine Stg.wpAnyL_one (i := 8) 1 rfl (by kernel_rfl) (by kernel_rfl) (fun K hK => ?_)
                try simp only [List.getElem_toArray, List.getElem_cons_succ, List.getElem_cons_zero]
                go_simp
                refine (hho.out _ (hHeld rfl)).mono ?_
                rintro e w12 ⟨rfl, hb1⟩
                have Sw12 := Lib.hid ((Sw10.out.below (hHeld rfl)).below hb1)
                refine hK.out _ _ ?_ (fun hHeld1 => ?_)
                · exact fun h => absurd h (by decide)
                clear hK K
                try simp only [Act.put, List.setIfInBounds_toArray, List.set_cons_zero, List.set_cons_succ]
                refine Stg.wpAnyL_start (n' := 1) (l' := #[true, true, true, true, true, true, true, true, true, false]) (by kernel_rfl) (by kernel_rfl) ?_
                refine Stg.wpAnyL_free (i := 9) (v := ?_) 1 rfl (by kernel_rfl) (by kernel_rfl) (by kernel_rfl) (by kernel_rfl) (by kernel_rfl) (fun _ _ _ h => h) (Or.inl ⟨by kernel_rfl, ?_⟩) (by assumption) ?_
                rotate_left
                · intro u _
                  try simp only [List.getElem_toArray, List.getElem_cons_succ, List.getElem_cons_zero]
                  go_simp
                  try with_reducible rfl
                try simp only [Act.put, List.setIfInBounds_toArray, List.set_cons_zero, List.set_cons_succ]
                refine Stg.wpAnyL_done (by kernel_rfl) ?_ _
                try simp only [List.getElem_toArray, List.getElem_cons_succ, List.getElem_cons_zero]
                try simp only [Act.put, List.setIfInBounds_toArray, List.set_cons_zero, List.set_cons_succ]
                refine NoPanic.normal ?_
                clear hho q0 q1 q2 q4 Sw10 hHeld
                go_wp2_with fail
                go_roundw
                case rel => exact ⟨j + 1, px, tb6, ct6, upn t k (tk + 1), n + 1, fr, put dm n 0, put da n m, _, _, _, _, by go_num, hjl, by omega, Sw12, Lib.hid (by rw [show (((j + 1 : Nat) : Int)) * PM = (j : Int) * PM + PM by push_cast; rw [Int.add_mul, Int.one_mul]]; exact hI2.out), hBP2⟩
                case measure => simp [intOf]; omega
            | false =>
              have hmbx : (bits BinOp.and IntKind.i64 (mk / 2 ^ fl) 1 == 0) = false := hmb
              have hrd : ¬ 0 < headM Q t mk fl := by unfold headM; rw [hmb]; simp
              go_big_quiet (fail)
              have hS5 := Lib.hid (hS.out.below (bDrew (Below.refl wr.heap.size wr) nq))
              clear x0 x1 x2
              generalize wr.drewN nq = W5 at hS5 ⊢
              have x2 := (hS5.out.bel.cell (p := ⟨mbk, mbo + j, none⟩) hmb1).trans (hmb2.out j mk hmk.out)
              have hpk := lpick_c W5 f lb cl tb ct i b2 off2 cq ab i ALL ((j : Nat) * PM) mk (gd dw) x A L C Q t hS5.out.fd hI.out hM (T.out.bel hS5.out.bel) (fun q hq => hS5.out.at_.c q _ (iC_at (tI t) i q hq)) hS5.out.at_.l hP.out.tl hgoodQ.out
              have hI2 := Lib.hid (hI.out.pick (headM_ok hgoodQ.out t mk))
              by_cases hex : ∃ q, q < i ∧ 0 < headM Q t mk q
              · skip
                obtain ⟨k, px, e1, hkN, hkp, hk15, hkt, hNR, hRD⟩ := hP.out.some hI.out hALL.out hfln hgoodQ.out hmostQ.out m0 o0 o1 m1 hex
                rw [e1] at hpk hI2
                clear e1
                have hkf : ¬ k = fl := fun e => hrd (by rw [← e]; exact hkp)
                obtain ⟨m, hmm⟩ : ∃ z, RowKit.Hid (headM Q t mk k = z) := ⟨_, Lib.hid rfl⟩
                rw [hmm.out] at hkp hk15
                replace hNR := Lib.hid hNR
                replace hRD := Lib.hid hRD
                replace hpk := Lib.hid (show Calls Try.prog 12 #[.pointer (some ⟨f, 0, none⟩), .slice (some ⟨b2, off2, none⟩) i cq, .slice (some ⟨ab, 0, none⟩) i i, .int .i64 mk] W5 (fun e w' => ∃ tb' ct', e = .returned (.tuple #[.int .i64 (k : Int), .int .i64 m, .bool true]) ∧ FD w' f lb cl tb' ct' i ALL px.V (gd dw) px.Z px.D px.S px.F ∧ (tb' = tb ∨ W5.heap.size ≤ tb') ∧ KF [f, lb] W5 w') from hpk.mono (by
                  rintro e w' ⟨tb', ct', rfl, h1, h2, h3⟩
                  exact ⟨tb', ct', by rw [← hmm.out]; rfl, h1, h2, h3⟩))
                go_wp2_with fail
                refine hpk.out.mono ?_
                rintro e w6 ⟨tb6, ct6, rfl, F6, ht6, k6⟩
                have hS6 := hS5.out.pick F6 ht6 k6
                have q0 := hS6.box.c 1 _ rfl
                have q1 := hS6.box.f 2
                have q2 := hS6.box.c 2 _ rfl
                have hnzz : (n : Int) ≤ 150 := by omega
                have Sw7 := Lib.hid (hS6.setFr n)
                clear hpk F6 ht6 k6 hS5 hS x2
                go_upto_region 31 with fail
                generalize w6.setCell ⟨sb, 2, none⟩ (.int .i64 (n : Nat)) = w7 at Sw7 ⊢
                clear q0 q1 q2 hS6
                have y0 := Sw7.out.at_.c k _ (iC_at (tI t) i k hkN)
                have y1 := Sw7.out.at_.f k
                simp only [tI] at y0
                obtain ⟨tk, etk⟩ : ∃ z, t k = z := ⟨_, rfl⟩
                have etkH := Lib.hid etk
                have hki : (k : Int) < (i : Int) := by omega
                have htk6 : (tk : Int) ≤ 60 := by have := (hP.out.tl k hkN); have := (hl60.out k hkN).2; omega
                have Sw8 := Sw7.out.setAt hkN
                rw [etk] at y0 Sw8
                replace Sw8 := Lib.hid Sw8
                clear etk Sw7
                go_upto_region 32 with fail
                generalize w7.setCell ⟨ab, k, none⟩ (.int .i64 ((tk : Int) + 1)) = w8 at Sw8 ⊢
                clear y0 y1
                have hkz : ¬ (k : Int) = (fl : Int) := by omega
                have hval : RowKit.Hid ((if k = fl then m else 0) = 0) := Lib.hid (if_neg hkf)
                obtain ⟨g8, rfl, hg8, hrow⟩ := Sw8.out.om.blk (by omega)
                have q0 := Sw8.out.box.c 0 _ rfl
                have q1 := hrow.c n _ (iC_at dm (n + 1) n (by omega))
                have hdb := hP.out.b1 n (Nat.le_refl _)
                obtain ⟨dn, hdn⟩ : ∃ z, RowKit.Hid (dm n = z) := ⟨_, Lib.hid rfl⟩
                rw [hdn.out] at q1 hdb
                obtain ⟨hdb1, hdb2⟩ := hdb
                have hdb3 : dn ≤ 225000 := by omega
                have hwr1 : IntKind.i64.wrap dn = dn := IntWalk.i64_in _ (by omega)
                replace hrow := Lib.hid hrow
                have hnn1 : (n : Int) < (n : Int) + 1 := by omega
                go_upto_region 35 with fail
                refine wp_region_noPanic ?_
                refine Stg.wp_region_L [10, 12] (Vr.SB w8) (by kernel_rfl) (fun _ => (Below.refl _ _).drew) (fun hHeld => ?_)
                refine Stg.wpAnyL_start (n' := 13) (l' := #[false, false, false, false, false, false, false, false, false, false, false, false, false]) (by kernel_rfl) (by kernel_rfl) ?_
                refine Stg.wpAnyL_free (i := 0) (v := ?_) 0 rfl (by kernel_rfl) (by kernel_rfl) (by kernel_rfl) (by kernel_rfl) (by kernel_rfl) (fun _ _ _ h => h) (Or.inl ⟨by kernel_rfl, ?_⟩) (by assumption) ?_
                rotate_left
                · intro u _
                  try simp only [List.getElem_toArray, List.getElem_cons_succ, List.getElem_cons_zero]
                  go_simp
                  try with_reducible rfl
                try simp only [Act.put, List.setIfInBounds_toArray, List.set_cons_zero, List.set_cons_succ]
                refine Stg.wpAnyL_take (i := 1) (v := ?_) [10, 11, 12] 0 rfl (by kernel_rfl) (by kernel_rfl) (by kernel_rfl) (by kernel_rfl) (by kernel_rfl) (fun _ _ _ h => h) (Or.inl ⟨by kernel_rfl, ?_⟩) (by assumption) ?_
                rotate_left
                · intro u hSu
                  skip
                  have sB := hSu rfl
                  have y0 := cellB sB q0
                  have y1 := cellB sB q1
                  try simp only [List.getElem_toArray, List.getElem_cons_succ, List.getElem_cons_zero]
                  go_simp
                  try with_reducible rfl
                try simp only [Act.put, List.setIfInBounds_toArray, List.set_cons_zero, List.set_cons_succ]
                refine Stg.wpAnyL_free (i := 2) (v := ?_) 0 rfl (by kernel_rfl) (by kernel_rfl) (by kernel_rfl) (by kernel_rfl) (by kernel_rfl) (fun _ _ _ h => h) (Or.inl ⟨by kernel_rfl, ?_⟩) (by assumption) ?_
                rotate_left
                · intro u _
                  try simp only [List.getElem_toArray, List.getElem_cons_succ, List.getElem_cons_zero]
                  go_simp
                  try with_reducible rfl
                try simp only [Act.put, List.setIfInBounds_toArray, List.set_cons_zero, List.set_cons_succ]
                refine Stg.wpAnyL_start (n' := 10) (l' := #[true, true, true, false, false, false, false, false, false, false, false, false, false]) (by kernel_rfl) (by kernel_rfl) ?_
                refine Stg.wpAnyL_take (i := 3) (v := ?_) [5, 6, 8, 9, 10, 11, 12] 0 rfl (by kernel_rfl) (by kernel_rfl) (by kernel_rfl) (by kernel_rfl) (by kernel_rfl) (fun _ _ _ h => h) (Or.inl ⟨by kernel_rfl, ?_⟩) (by assumption) ?_
                rotate_left
                · intro u hSu
                  skip
                  have sB := hSu rfl
                  have y0 := cellB sB q0
                  have y1 := cellB sB q1
                  try simp only [List.getElem_toArray, List.getElem_cons_succ, List.getElem_cons_zero]
                  go_simp
                  try with_reducible rfl
                try simp only [Act.put, List.setIfInBounds_toArray, List.set_cons_zero, List.set_cons_succ]
                refine Stg.wpAnyL_free (i := 4) (v := ?_) 0 rfl (by kernel_rfl) (by kernel_rfl) (by kernel_rfl) (by kernel_rfl) (by kernel_rfl) (fun _ _ _ h => h) (Or.inl ⟨by kernel_rfl, ?_⟩) (by assumption) ?_
                rotate_left
                · intro u _
                  try simp only [List.getElem_toArray, List.getElem_cons_succ, List.getElem_cons_zero]
                  go_simp
                  try with_reducible rfl
                try simp only [Act.put, List.setIfInBounds_toArray, List.set_cons_zero, List.set_cons_succ]
                refine Stg.wpAnyL_free (i := 5) (v := ?_) 0 rfl (by kernel_rfl) (by kernel_rfl) (by kernel_rfl) (by kernel_rfl) (by kernel_rfl) (fun _ _ _ h => h) (Or.inl ⟨by kernel_rfl, ?_⟩) (by assumption) ?_
                rotate_left
                · intro u _
                  try simp only [List.getElem_toArray, List.getElem_cons_succ, List.getElem_cons_zero]
                  go_simp
                  try with_reducible rfl
                try simp only [Act.put, List.setIfInBounds_toArray, List.set_cons_zero, List.set_cons_succ]
                refine Stg.wpAnyL_start (n' := 7) (l' := #[true, true, true, true, true, true, false, false, false, false, false, false, false]) (by kernel_rfl) (by kernel_rfl) ?_
                refine Stg.wpAnyL_take (i := 6) (v := ?_) [8, 9, 10, 11, 12] 0 rfl (by kernel_rfl) (by kernel_rfl) (by kernel_rfl) (by kernel_rfl) (by kernel_rfl) (fun _ _ _ h => h) (Or.inl ⟨by kernel_rfl, ?_⟩) (by assumption) ?_
                rotate_left
                · intro u hSu
                  skip
                  have sB := hSu rfl
                  have y0 := cellB sB q0
                  have y1 := cellB sB q1
                  try simp only [List.getElem_toArray, List.getElem_cons_succ, List.getElem_cons_zero]
                  go_simp
                  try with_reducible rfl
                try simp only [Act.put, List.setIfInBounds_toArray, List.set_cons_zero, List.set_cons_succ]
                refine Stg.wpAnyL_free (i := 7) (v := ?_) 0 rfl (by kernel_rfl) (by kernel_rfl) (by kernel_rfl) (by kernel_rfl) (by kernel_rfl) (fun _ _ _ h => h) (Or.inl ⟨by kernel_rfl, ?_⟩) (by assumption) ?_
                rotate_left
                · intro u _
                  try simp only [List.getElem_toArray, List.getElem_cons_succ, List.getElem_cons_zero]
                  go_simp
                  try with_reducible rfl
                try simp only [Act.put, List.setIfInBounds_toArray, List.set_cons_zero, List.set_cons_succ]
                refine Stg.wpAnyL_free (i := 8) (v := ?_) 0 rfl (by kernel_rfl) (by kernel_rfl) (by kernel_rfl) (by kernel_rfl) (by kernel_rfl) (fun _ _ _ h => h) (Or.inl ⟨by kernel_rfl, ?_⟩) (by assumption) ?_
                rotate_left
                · intro u _
                  try simp only [List.getElem_toArray, List.getElem_cons_succ, List.getElem_cons_zero]
                  go_simp
                  try with_reducible rfl
                try simp only [Act.put, List.setIfInBounds_toArray, List.set_cons_zero, List.set_cons_succ]
                refine Stg.wpAnyL_start (n' := 4) (l' := #[true, true, true, true, true, true, true, true, true, false, false, false, false]) (by kernel_rfl) (by kernel_rfl) ?_
                refine Stg.wpAnyL_one (i := 9) 0 rfl (by kernel_rfl) (by kernel_rfl) (fun K hK => ?_)
                try simp only [List.getElem_toArray, List.getElem_cons_succ, List.getElem_cons_zero]
                go_simp
                refine hK.out _ _ ?_ (fun hHeld1 => ?_)
                · exact fun _ => bNext (hHeld rfl) ((Below.refl _ _).alloc (Nat.le_refl _) _) (Nat.le_refl _)
                clear hK K
                try simp only [Act.put, List.setIfInBounds_toArray, List.set_cons_zero, List.set_cons_succ]
                refine Stg.wpAnyL_one (i := 10) 1 rfl (by kernel_rfl) (by kernel_rfl) (fun K hK => ?_)
                try simp only [List.getElem_toArray, List.getElem_cons_succ, List.getElem_cons_zero]
                rw [if_pos (by kernel_rfl)]
                refine wp_appI (.tmp 188) (.tmp 196) rfl w.heap.size (.slice (some ⟨g8, 0, none⟩) (n + 1) mc) (put dm n 0) (n + 1) (by kernel_rfl) ((Sw8.out.om.kf (KF.of (l := []) (hHeld1 rfl)) (fun q _ => by simp)).congr (fun q hq => (put_old dm 0 (by omega)).symm)) (by have := (hHeld1 rfl).size; have := Sw8.out.bel.size; omega) (q := w8.drew.heap.size) (c := 1) (by kernel_rfl) (by rw [put_new, hdn.out, Int.add_zero]; exact blkN_new w8.drew [.int .i64 dn] 3) (by omega) ?_
                intro a8 n5 c8 w5 hown5 hn5 hsz5 hgrow5 hor5
                obtain rfl : n5 = n + 1 + 1 := hn5
                have hU := (Sw8.out.below (hHeld1 rfl)).appM (m := 0) hown5 hgrow5 hor5
                refine hK.out _ _ ?_ (fun hHeld2 => ?_)
                · exact fun h => absurd h (by decide)
                clear hK K
                try simp only [Act.put, List.setIfInBounds_toArray, List.set_cons_zero, List.set_cons_succ]
                refine Stg.wpAnyL_free (i := 11) (v := ?_) 1 rfl (by kernel_rfl) (by kernel_rfl) (by kernel_rfl) (by kernel_rfl) (by kernel_rfl) (fun _ _ _ h => h) (Or.inl ⟨by kernel_rfl, ?_⟩) (by assumption) ?_
                rotate_left
                · intro u _
                  try simp only [List.getElem_toArray, List.getElem_cons_succ, List.getElem_cons_zero]
                  go_simp
                  try with_reducible rfl
                try simp only [Act.put, List.setIfInBounds_toArray, List.set_cons_zero, List.set_cons_succ]
                refine Stg.wpAnyL_start (n' := 1) (l' := #[true, true, true, true, true, true, true, true, true, true, true, true, false]) (by kernel_rfl) (by kernel_rfl) ?_
                refine Stg.wpAnyL_one (i := 12) 2 rfl (by kernel_rfl) (by kernel_rfl) (fun K hK => ?_)
                have z0 := hU.2.f 0
                have z1 := hU.2.c 0 _ rfl
                try simp only [List.getElem_toArray, List.getElem_cons_succ, List.getElem_cons_zero]
                go_simp
                refine hK.out _ _ ?_ (fun hHeld3 => ?_)
                · exact fun h => absurd h (by decide)
                clear hK K
                try simp only [Act.put, List.setIfInBounds_toArray, List.set_cons_zero, List.set_cons_succ]
                refine Stg.wpAnyL_done (by kernel_rfl) ?_ _
                try simp only [List.getElem_toArray, List.getElem_cons_succ, List.getElem_cons_zero]
                try simp only [Act.put, List.setIfInBounds_toArray, List.set_cons_zero, List.set_cons_succ]
                refine NoPanic.normal ?_
                have Sw9 := Lib.hid hU.1
                clear z0 z1 hU hown5 hgrow5 hor5 hsz5 q0 q1 hHeld Sw8 hrow hwr1 hdb3 hdb1 hdb2 hdn
                generalize w5.setCell ⟨sb, 0, none⟩ (.slice a8 (n + 1 + 1) c8) = w9 at Sw9 ⊢
                obtain ⟨g9, rfl, hg9, hrow⟩ := Sw9.out.oa.blk (by omega)
                have q0 := Sw9.out.box.c 1 _ rfl
                have q1 := hrow.c n _ (iC_at da (n + 1) n (by omega))
                have hdb := hP.out.b2 n (Nat.le_refl _)
                obtain ⟨dn, hdn⟩ : ∃ z, RowKit.Hid (da n = z) := ⟨_, Lib.hid rfl⟩
                rw [hdn.out] at q1 hdb
                obtain ⟨hdb1, hdb2⟩ := hdb
                have hdb3 : dn ≤ 225000 := by omega
                have hwr1 : IntKind.i64.wrap (dn + m) = dn + m := IntWalk.i64_in _ (by omega)
                replace hrow := Lib.hid hrow
                have hnn1 : (n : Int) < (n : Int) + 1 := by omega
                go_upto_region 36 with fail
                refine wp_region_noPanic ?_
                refine Stg.wp_region_L [10, 12] (Vr.SB w9) (by kernel_rfl) (fun _ => (Below.refl _ _).drew) (fun hHeld => ?_)
                refine Stg.wpAnyL_start (n' := 13) (l' := #[false, false, false, false, false, false, false, false, false, false, false, false, false]) (by kernel_rfl) (by kernel_rfl) ?_
                refine Stg.wpAnyL_free (i := 0) (v := ?_) 0 rfl (by kernel_rfl) (by kernel_rfl) (by kernel_rfl) (by kernel_rfl) (by kernel_rfl) (fun _ _ _ h => h) (Or.inl ⟨by kernel_rfl, ?_⟩) (by assumption) ?_
                rotate_left
                · intro u _
                  try simp only [List.getElem_toArray, List.getElem_cons_succ, List.getElem_cons_zero]
                  go_simp
                  try with_reducible rfl
                try simp only [Act.put, List.setIfInBounds_toArray, List.set_cons_zero, List.set_cons_succ]
                refine Stg.wpAnyL_take (i := 1) (v := ?_) [10, 11, 12] 0 rfl (by kernel_rfl) (by kernel_rfl) (by kernel_rfl) (by kernel_rfl) (by kernel_rfl) (fun _ _ _ h => h) (Or.inl ⟨by kernel_rfl, ?_⟩) (by assumption) ?_
                rotate_left
                · intro u hSu
                  skip
                  have sB := hSu rfl
                  have y0 := cellB sB q0
                  have y1 := cellB sB q1
                  try simp only [List.getElem_toArray, List.getElem_cons_succ, List.getElem_cons_zero]
                  go_simp
                  try with_reducible rfl
                try simp only [Act.put, List.setIfInBounds_toArray, List.set_cons_zero, List.set_cons_succ]
                refine Stg.wpAnyL_free (i := 2) (v := ?_) 0 rfl (by kernel_rfl) (by kernel_rfl) (by kernel_rfl) (by kernel_rfl) (by kernel_rfl) (fun _ _ _ h => h) (Or.inl ⟨by kernel_rfl, ?_⟩) (by assumption) ?_
                rotate_left
                · intro u _
                  try simp only [List.getElem_toArray, List.getElem_cons_succ, List.getElem_cons_zero]
                  go_simp
                  try with_reducible rfl
                try simp only [Act.put, List.setIfInBounds_toArray, List.set_cons_zero, List.set_cons_succ]
                refine Stg.wpAnyL_start (n' := 10) (l' := #[true, true, true, false, false, false, false, false, false, false, false, false, false]) (by kernel_rfl) (by kernel_rfl) ?_
                refine Stg.wpAnyL_take (i := 3) (v := ?_) [5, 6, 8, 9, 10, 11, 12] 0 rfl (by kernel_rfl) (by kernel_rfl) (by kernel_rfl) (by kernel_rfl) (by kernel_rfl) (fun _ _ _ h => h) (Or.inl ⟨by kernel_rfl, ?_⟩) (by assumption) ?_
                rotate_left
                · intro u hSu
                  skip
                  have sB := hSu rfl
                  have y0 := cellB sB q0
                  have y1 := cellB sB q1
                  try simp only [List.getElem_toArray, List.getElem_cons_succ, List.getElem_cons_zero]
                  go_simp
                  try with_reducible rfl
                try simp only [Act.put, List.setIfInBounds_toArray, List.set_cons_zero, List.set_cons_succ]
                refine Stg.wpAnyL_free (i := 4) (v := ?_) 0 rfl (by kernel_rfl) (by kernel_rfl) (by kernel_rfl) (by kernel_rfl) (by kernel_rfl) (fun _ _ _ h => h) (Or.inl ⟨by kernel_rfl, ?_⟩) (by assumption) ?_
                rotate_left
                · intro u _
                  try simp only [List.getElem_toArray, List.getElem_cons_succ, List.getElem_cons_zero]
                  go_simp
                  try with_reducible rfl
                try simp only [Act.put, List.setIfInBounds_toArray, List.set_cons_zero, List.set_cons_succ]
                refine Stg.wpAnyL_free (i := 5) (v := ?_) 0 rfl (by kernel_rfl) (by kernel_rfl) (by kernel_rfl) (by kernel_rfl) (by kernel_rfl) (fun _ _ _ h => h) (Or.inl ⟨by kernel_rfl, ?_⟩) (by assumption) ?_
                rotate_left
                · intro u _
                  try simp only [List.getElem_toArray, List.getElem_cons_succ, List.getElem_cons_zero]
                  go_simp
                  try with_reducible rfl
                try simp only [Act.put, List.setIfInBounds_toArray, List.set_cons_zero, List.set_cons_succ]
                refine Stg.wpAnyL_start (n' := 7) (l' := #[true, true, true, true, true, true, false, false, false, false, false, false, false]) (by kernel_rfl) (by kernel_rfl) ?_
                refine Stg.wpAnyL_take (i := 6) (v := ?_) [8, 9, 10, 11, 12] 0 rfl (by kernel_rfl) (by kernel_rfl) (by kernel_rfl) (by kernel_rfl) (by kernel_rfl) (fun _ _ _ h => h) (Or.inl ⟨by kernel_rfl, ?_⟩) (by assumption) ?_
                rotate_left
                · intro u hSu
                  skip
                  have sB := hSu rfl
                  have y0 := cellB sB q0
                  have y1 := cellB sB q1
                  try simp only [List.getElem_toArray, List.getElem_cons_succ, List.getElem_cons_zero]
                  go_simp
                  try with_reducible rfl
                try simp only [Act.put, List.setIfInBounds_toArray, List.set_cons_zero, List.set_cons_succ]
                refine Stg.wpAnyL_free (i := 7) (v := ?_) 0 rfl (by kernel_rfl) (by kernel_rfl) (by kernel_rfl) (by kernel_rfl) (by kernel_rfl) (fun _ _ _ h => h) (Or.inl ⟨by kernel_rfl, ?_⟩) (by assumption) ?_
                rotate_left
                · intro u _
                  try simp only [List.getElem_toArray, List.getElem_cons_succ, List.getElem_cons_zero]
                  go_simp
                  try with_reducible rfl
                try simp only [Act.put, List.setIfInBounds_toArray, List.set_cons_zero, List.set_cons_succ]
                refine Stg.wpAnyL_free (i := 8) (v := ?_) 0 rfl (by kernel_rfl) (by kernel_rfl) (by kernel_rfl) (by kernel_rfl) (by kernel_rfl) (fun _ _ _ h => h) (Or.inl ⟨by kernel_rfl, ?_⟩) (by assumption) ?_
                rotate_left
                · intro u _
                  try simp only [List.getElem_toArray, List.getElem_cons_succ, List.getElem_cons_zero]
                  go_simp
                  try with_reducible rfl
                try simp only [Act.put, List.setIfInBounds_toArray, List.set_cons_zero, List.set_cons_succ]
                refine Stg.wpAnyL_start (n' := 4) (l' := #[true, true, true, true, true, true, true, true, true, false, false, false, false]) (by kernel_rfl) (by kernel_rfl) ?_
                refine Stg.wpAnyL_one (i := 9) 0 rfl (by kernel_rfl) (by kernel_rfl) (fun K hK => ?_)
                try simp only [List.getElem_toArray, List.getElem_cons_succ, List.getElem_cons_zero]
                go_simp
                refine hK.out _ _ ?_ (fun hHeld1 => ?_)
                · exact fun _ => bNext (hHeld rfl) ((Below.refl _ _).alloc (Nat.le_refl _) _) (Nat.le_refl _)
                clear hK K
                try simp only [Act.put, List.setIfInBounds_toArray, List.set_cons_zero, List.set_cons_succ]
                refine Stg.wpAnyL_one (i := 10) 1 rfl (by kernel_rfl) (by kernel_rfl) (fun K hK => ?_)
                try simp only [List.getElem_toArray, List.getElem_cons_succ, List.getElem_cons_zero]
                rw [if_pos (by kernel_rfl)]
                refine wp_appI (.tmp 200) (.tmp 208) rfl w.heap.size (.slice (some ⟨g9, 0, none⟩) (n + 1) ac) (put da n m) (n + 1) (by kernel_rfl) ((Sw9.out.oa.kf (KF.of (l := []) (hHeld1 rfl)) (fun q _ => by simp)).congr (fun q hq => (put_old da m (by omega)).symm)) (by have := (hHeld1 rfl).size; have := Sw9.out.bel.size; omega) (q := w9.drew.heap.size) (c := 1) (by kernel_rfl) (by rw [put_new, hdn.out]; exact blkN_new w9.drew [.int .i64 (dn + m)] 3) (by omega) ?_
                intro a9 n5 c9 w5 hown5 hn5 hsz5 hgrow5 hor5
                obtain rfl : n5 = n + 1 + 1 := hn5
                have hU := (Sw9.out.below (hHeld1 rfl)).appA (m := m) hown5 hgrow5 hor5
                refine hK.out _ _ ?_ (fun hHeld2 => ?_)
                · exact fun h => absurd h (by decide)
                clear hK K
                try simp only [Act.put, List.setIfInBounds_toArray, List.set_cons_zero, List.set_cons_succ]
                refine Stg.wpAnyL_free (i := 11) (v := ?_) 1 rfl (by kernel_rfl) (by kernel_rfl) (by kernel_rfl) (by kernel_rfl) (by kernel_rfl) (fun _ _ _ h => h) (Or.inl ⟨by kernel_rfl, ?_⟩) (by assumption) ?_
                rotate_left
                · intro u _
                  try simp only [List.getElem_toArray, List.getElem_cons_succ, List.getElem_cons_zero]
                  go_simp
                  try with_reducible rfl
                try simp only [Act.put, List.setIfInBounds_toArray, List.set_cons_zero, List.set_cons_succ]
                refine Stg.wpAnyL_start (n' := 1) (l' := #[true, true, true, true, true, true, true, true, true, true, true, true, false]) (by kernel_rfl) (by kernel_rfl) ?_
                refine Stg.wpAnyL_one (i := 12) 2 rfl (by kernel_rfl) (by kernel_rfl) (fun K hK => ?_)
                have z0 := hU.2.f 1
                have z1 := hU.2.c 1 _ rfl
                try simp only [List.getElem_toArray, List.getElem_cons_succ, List.getElem_cons_zero]
                go_simp
                refine hK.out _ _ ?_ (fun hHeld3 => ?_)
                · exact fun h => absurd h (by decide)
                clear hK K
                try simp only [Act.put, List.setIfInBounds_toArray, List.set_cons_zero, List.set_cons_succ]
                refine Stg.wpAnyL_done (by kernel_rfl) ?_ _
                try simp only [List.getElem_toArray, List.getElem_cons_succ, List.getElem_cons_zero]
                try simp only [Act.put, List.setIfInBounds_toArray, List.set_cons_zero, List.set_cons_succ]
                refine NoPanic.normal ?_
                have Sw10 := Lib.hid hU.1
                clear z0 z1 hU hown5 hgrow5 hor5 hsz5 q0 q1 hHeld Sw9 hrow hwr1 hdb3 hdb1 hdb2 hdn
                generalize w5.setCell ⟨sb, 1, none⟩ (.slice a9 (n + 1 + 1) c9) = w10 at Sw10 ⊢
                have q2 := Sw10.out.box.c 2 _ rfl
                have q3 := Sw10.out.box.f 2
                have Sw11 := Lib.hid (Sw10.out.setFr (n + 1))
                have hBP2 := hNR.out hrd
                rw [hmm.out, hval.out, etkH.out] at hBP2
                replace hBP2 := Lib.hid hBP2
                go_wp2_with fail
                go_roundw
                case rel => exact ⟨j + 1, px, tb6, ct6, upn t k (tk + 1), n + 1, n + 1, put dm n 0, put da n m, _, _, _, _, by go_num, hjl, by omega, Sw11, Lib.hid (by rw [show (((j + 1 : Nat) : Int)) * PM = (j : Int) * PM + PM by push_cast; rw [Int.add_mul, Int.one_mul]]; exact hI2.out), hBP2⟩
                case measure => simp [intOf]; omega
              · have hnone : ∀ q, q < i → ¬ 0 < headM Q t mk q := fun q hq hp => hex ⟨q, hq, hp⟩
                obtain ⟨e1, hP2⟩ := hP.out.none hI.out hALL.out hfln hgoodQ.out hmostQ.out m0 o0 hnone
                rw [e1] at hpk hI2
                replace hpk := Lib.hid hpk
                replace hP2 := Lib.hid hP2
                obtain ⟨px, hpx⟩ : ∃ px, RowKit.Hid (toldN i ALL x.V (gd dw) x.Z x.D x.S x.F (headM Q t mk) = px) := ⟨_, Lib.hid rfl⟩
                rw [hpx.out] at hpk hI2 hP2
                clear e1
                go_wp2_with fail
                refine hpk.out.mono ?_
                rintro e w6 ⟨tb6, ct6, rfl, F6, ht6, k6⟩
                have hS6 := hS5.out.pick F6 ht6 k6
                have q0 := hS6.box.c 1 _ rfl
                have q1 := hS6.box.f 2
                have q2 := hS6.box.c 2 _ rfl
                have hnzz : (n : Int) ≤ 150 := by omega
                have hS7 := Lib.hid (hS6.setFr n)
                replace hS6 := Lib.hid hS6
                clear hpk F6 ht6 k6 hS5 hS x2
                go_wp2_with fail
                go_roundw
                case rel => exact ⟨j + 1, px, tb6, ct6, t, n, n, dm, da, mv, mc, av, ac, by go_num, hjl, by omega, hS7, Lib.hid (by rw [show (((j + 1 : Nat) : Int)) * PM = (j : Int) * PM + PM by push_cast; rw [Int.add_mul, Int.one_mul]]; exact hI2.out), hP2⟩
                case measure => simp [intOf]; omega
          · have hpz : ¬ (tf : Int) < (Lf : Int) := by omega
            have hrd : ¬ 0 < headM Q t mk fl := by
              unfold headM
              rw [headsQ_out (by have := eLH.out; have := etH.out; omega)]
              split <;> omega
            go_big_quiet (fail)
            have hS5 := Lib.hid (hS.out.below (bDrew (Below.refl wr.heap.size wr) nq))
            clear x0 x1 x2
            generalize wr.drewN nq = W5 at hS5 ⊢
            have x2 := (hS5.out.bel.cell (p := ⟨mbk, mbo + j, none⟩) hmb1).trans (hmb2.out j mk hmk.out)
            have hpk := lpick_c W5 f lb cl tb ct i b2 off2 cq ab i ALL ((j : Nat) * PM) mk (gd dw) x A L C Q t hS5.out.fd hI.out hM (T.out.bel hS5.out.bel) (fun q hq => hS5.out.at_.c q _ (iC_at (tI t) i q hq)) hS5.out.at_.l hP.out.tl hgoodQ.out
            have hI2 := Lib.hid (hI.out.pick (headM_ok hgoodQ.out t mk))
            by_cases hex : ∃ q, q < i ∧ 0 < headM Q t mk q
            · skip
              obtain ⟨k, px, e1, hkN, hkp, hk15, hkt, hNR, hRD⟩ := hP.out.some hI.out hALL.out hfln hgoodQ.out hmostQ.out m0 o0 o1 m1 hex
              rw [e1] at hpk hI2
              clear e1
              have hkf : ¬ k = fl := fun e => hrd (by rw [← e]; exact hkp)
              obtain ⟨m, hmm⟩ : ∃ z, RowKit.Hid (headM Q t mk k = z) := ⟨_, Lib.hid rfl⟩
              rw [hmm.out] at hkp hk15
              replace hNR := Lib.hid hNR
              replace hRD := Lib.hid hRD
              replace hpk := Lib.hid (show Calls Try.prog 12 #[.pointer (some ⟨f, 0, none⟩), .slice (some ⟨b2, off2, none⟩) i cq, .slice (some ⟨ab, 0, none⟩) i i, .int .i64 mk] W5 (fun e w' => ∃ tb' ct', e = .returned (.tuple #[.int .i64 (k : Int), .int .i64 m, .bool true]) ∧ FD w' f lb cl tb' ct' i ALL px.V (gd dw) px.Z px.D px.S px.F ∧ (tb' = tb ∨ W5.heap.size ≤ tb') ∧ KF [f, lb] W5 w') from hpk.mono (by
                rintro e w' ⟨tb', ct', rfl, h1, h2, h3⟩
                exact ⟨tb', ct', by rw [← hmm.out]; rfl, h1, h2, h3⟩))
              go_wp2_with fail
              refine hpk.out.mono ?_
              rintro e w6 ⟨tb6, ct6, rfl, F6, ht6, k6⟩
              have hS6 := hS5.out.pick F6 ht6 k6
              have q0 := hS6.box.c 1 _ rfl
              have q1 := hS6.box.f 2
              have q2 := hS6.box.c 2 _ rfl
              have hnzz : (n : Int) ≤ 150 := by omega
              have Sw7 := Lib.hid (hS6.setFr n)
              clear hpk F6 ht6 k6 hS5 hS x2
              go_upto_region 31 with fail
              generalize w6.setCell ⟨sb, 2, none⟩ (.int .i64 (n : Nat)) = w7 at Sw7 ⊢
              clear q0 q1 q2 hS6
              have y0 := Sw7.out.at_.c k _ (iC_at (tI t) i k hkN)
              have y1 := Sw7.out.at_.f k
              simp only [tI] at y0
              obtain ⟨tk, etk⟩ : ∃ z, t k = z := ⟨_, rfl⟩
              have etkH := Lib.hid etk
              have hki : (k : Int) < (i : Int) := by omega
              have htk6 : (tk : Int) ≤ 60 := by have := (hP.out.tl k hkN); have := (hl60.out k hkN).2; omega
              have Sw8 := Sw7.out.setAt hkN
              rw [etk] at y0 Sw8
              replace Sw8 := Lib.hid Sw8
              clear etk Sw7
              go_upto_region 32 with fail
              generalize w7.setCell ⟨ab, k, none⟩ (.int .i64 ((tk : Int) + 1)) = w8 at Sw8 ⊢
              clear y0 y1
              have hkz : ¬ (k : Int) = (fl : Int) := by omega
              have hval : RowKit.Hid ((if k = fl then m else 0) = 0) := Lib.hid (if_neg hkf)
              obtain ⟨g8, rfl, hg8, hrow⟩ := Sw8.out.om.blk (by omega)
              have q0 := Sw8.out.box.c 0 _ rfl
              have q1 := hrow.c n _ (iC_at dm (n + 1) n (by omega))
              have hdb := hP.out.b1 n (Nat.le_refl _)
              obtain ⟨dn, hdn⟩ : ∃ z, RowKit.Hid (dm n = z) := ⟨_, Lib.hid rfl⟩
              rw [hdn.out] at q1 hdb
              obtain ⟨hdb1, hdb2⟩ := hdb
              have hdb3 : dn ≤ 225000 := by omega
              have hwr1 : IntKind.i64.wrap dn = dn := IntWalk.i64_in _ (by omega)
              replace hrow := Lib.hid hrow
              have hnn1 : (n : Int) < (n : Int) + 1 := by omega
              go_upto_region 35 with fail
              refine wp_region_noPanic ?_
              refine Stg.wp_region_L [10, 12] (Vr.SB w8) (by kernel_rfl) (fun _ => (Below.refl _ _).drew) (fun hHeld => ?_)
              refine Stg.wpAnyL_start (n' := 13) (l' := #[false, false, false, false, false, false, false, false, false, false, false, false, false]) (by kernel_rfl) (by kernel_rfl) ?_
              refine Stg.wpAnyL_free (i := 0) (v := ?_) 0 rfl (by kernel_rfl) (by kernel_rfl) (by kernel_rfl) (by kernel_rfl) (by kernel_rfl) (fun _ _ _ h => h) (Or.inl ⟨by kernel_rfl, ?_⟩) (by assumption) ?_
              rotate_left
              · intro u _
                try simp only [List.getElem_toArray, List.getElem_cons_succ, List.getElem_cons_zero]
                go_simp
                try with_reducible rfl
              try simp only [Act.put, List.setIfInBounds_toArray, List.set_cons_zero, List.set_cons_succ]
              refine Stg.wpAnyL_take (i := 1) (v := ?_) [10, 11, 12] 0 rfl (by kernel_rfl) (by kernel_rfl) (by kernel_rfl) (by kernel_rfl) (by kernel_rfl) (fun _ _ _ h => h) (Or.inl ⟨by kernel_rfl, ?_⟩) (by assumption) ?_
              rotate_left
              · intro u hSu
                skip
                have sB := hSu rfl
                have y0 := cellB sB q0
                have y1 := cellB sB q1
                try simp only [List.getElem_toArray, List.getElem_cons_succ, List.getElem_cons_zero]
                go_simp
                try with_reducible rfl
              try simp only [Act.put, List.setIfInBounds_toArray, List.set_cons_zero, List.set_cons_succ]
              refine Stg.wpAnyL_free (i := 2) (v := ?_) 0 rfl (by kernel_rfl) (by kernel_rfl) (by kernel_rfl) (by kernel_rfl) (by kernel_rfl) (fun _ _ _ h => h) (Or.inl ⟨by kernel_rfl, ?_⟩) (by assumption) ?_
              rotate_left
              · intro u _
                try simp only [List.getElem_toArray, List.getElem_cons_succ, List.getElem_cons_zero]
                go_simp
                try with_reducible rfl
              try simp only [Act.put, List.setIfInBounds_toArray, List.set_cons_zero, List.set_cons_succ]
              refine Stg.wpAnyL_start (n' := 10) (l' := #[true, true, true, false, false, false, false, false, false, false, false, false, false]) (by kernel_rfl) (by kernel_rfl) ?_
              refine Stg.wpAnyL_take (i := 3) (v := ?_) [5, 6, 8, 9, 10, 11, 12] 0 rfl (by kernel_rfl) (by kernel_rfl) (by kernel_rfl) (by kernel_rfl) (by kernel_rfl) (fun _ _ _ h => h) (Or.inl ⟨by kernel_rfl, ?_⟩) (by assumption) ?_
              rotate_left
              · intro u hSu
                skip
                have sB := hSu rfl
                have y0 := cellB sB q0
                have y1 := cellB sB q1
                try simp only [List.getElem_toArray, List.getElem_cons_succ, List.getElem_cons_zero]
                go_simp
                try with_reducible rfl
              try simp only [Act.put, List.setIfInBounds_toArray, List.set_cons_zero, List.set_cons_succ]
              refine Stg.wpAnyL_free (i := 4) (v := ?_) 0 rfl (by kernel_rfl) (by kernel_rfl) (by kernel_rfl) (by kernel_rfl) (by kernel_rfl) (fun _ _ _ h => h) (Or.inl ⟨by kernel_rfl, ?_⟩) (by assumption) ?_
              rotate_left
              · intro u _
                try simp only [List.getElem_toArray, List.getElem_cons_succ, List.getElem_cons_zero]
                go_simp
                try with_reducible rfl
              try simp only [Act.put, List.setIfInBounds_toArray, List.set_cons_zero, List.set_cons_succ]
              refine Stg.wpAnyL_free (i := 5) (v := ?_) 0 rfl (by kernel_rfl) (by kernel_rfl) (by kernel_rfl) (by kernel_rfl) (by kernel_rfl) (fun _ _ _ h => h) (Or.inl ⟨by kernel_rfl, ?_⟩) (by assumption) ?_
              rotate_left
              · intro u _
                try simp only [List.getElem_toArray, List.getElem_cons_succ, List.getElem_cons_zero]
                go_simp
                try with_reducible rfl
              try simp only [Act.put, List.setIfInBounds_toArray, List.set_cons_zero, List.set_cons_succ]
              refine Stg.wpAnyL_start (n' := 7) (l' := #[true, true, true, true, true, true, false, false, false, false, false, false, false]) (by kernel_rfl) (by kernel_rfl) ?_
              refine Stg.wpAnyL_take (i := 6) (v := ?_) [8, 9, 10, 11, 12] 0 rfl (by kernel_rfl) (by kernel_rfl) (by kernel_rfl) (by kernel_rfl) (by kernel_rfl) (fun _ _ _ h => h) (Or.inl ⟨by kernel_rfl, ?_⟩) (by assumption) ?_
              rotate_left
              · intro u hSu
                skip
                have sB := hSu rfl
                have y0 := cellB sB q0
                have y1 := cellB sB q1
                try simp only [List.getElem_toArray, List.getElem_cons_succ, List.getElem_cons_zero]
                go_simp
                try with_reducible rfl
              try simp only [Act.put, List.setIfInBounds_toArray, List.set_cons_zero, List.set_cons_succ]
              refine Stg.wpAnyL_free (i := 7) (v := ?_) 0 rfl (by kernel_rfl) (by kernel_rfl) (by kernel_rfl) (by kernel_rfl) (by kernel_rfl) (fun _ _ _ h => h) (Or.inl ⟨by kernel_rfl, ?_⟩) (by assumption) ?_
              rotate_left
              · intro u _
                try simp only [List.getElem_toArray, List.getElem_cons_succ, List.getElem_cons_zero]
                go_simp
                try with_reducible rfl
              try simp only [Act.put, List.setIfInBounds_toArray, List.set_cons_zero, List.set_cons_succ]
              refine Stg.wpAnyL_free (i := 8) (v := ?_) 0 rfl (by kernel_rfl) (by kernel_rfl) (by kernel_rfl) (by kernel_rfl) (by kernel_rfl) (fun _ _ _ h => h) (Or.inl ⟨by kernel_rfl, ?_⟩) (by assumption) ?_
              rotate_left
              · intro u _
                try simp only [List.getElem_toArray, List.getElem_cons_succ, List.getElem_cons_zero]
                go_simp
                try with_reducible rfl
              try simp only [Act.put, List.setIfInBounds_toArray, List.set_cons_zero, List.set_cons_succ]
              refine Stg.wpAnyL_start (n' := 4) (l' := #[true, true, true, true, true, true, true, true, true, false, false, false, false]) (by kernel_rfl) (by kernel_rfl) ?_
              refine Stg.wpAnyL_one (i := 9) 0 rfl (by kernel_rfl) (by kernel_rfl) (fun K hK => ?_)
              try simp only [List.getElem_toArray, List.getElem_cons_succ, List.getElem_cons_zero]
              go_simp
              refine hK.out _ _ ?_ (fun hHeld1 => ?_)
              · exact fun _ => bNext (hHeld rfl) ((Below.refl _ _).alloc (Nat.le_refl _) _) (Nat.le_refl _)
              clear hK K
              try simp only [Act.put, List.setIfInBounds_toArray, List.set_cons_zero, List.set_cons_succ]
              refine Stg.wpAnyL_one (i := 10) 1 rfl (by kernel_rfl) (by kernel_rfl) (fun K hK => ?_)
              try simp only [List.getElem_toArray, List.getElem_cons_succ, List.getElem_cons_zero]
              rw [if_pos (by kernel_rfl)]
              refine wp_appI (.tmp 188) (.tmp 196) rfl w.heap.size (.slice (some ⟨g8, 0, none⟩) (n + 1) mc) (put dm n 0) (n + 1) (by kernel_rfl) ((Sw8.out.om.kf (KF.of (l := []) (hHeld1 rfl)) (fun q _ => by simp)).congr (fun q hq => (put_old dm 0 (by omega)).symm)) (by have := (hHeld1 rfl).size; have := Sw8.out.bel.size; omega) (q := w8.drew.heap.size) (c := 1) (by kernel_rfl) (by rw [put_new, hdn.out, Int.add_zero]; exact blkN_new w8.drew [.int .i64 dn] 3) (by omega) ?_
              intro a8 n5 c8 w5 hown5 hn5 hsz5 hgrow5 hor5
              obtain rfl : n5 = n + 1 + 1 := hn5
              have hU := (Sw8.out.below (hHeld1 rfl)).appM (m := 0) hown5 hgrow5 hor5
              refine hK.out _ _ ?_ (fun hHeld2 => ?_)
              · exact fun h => absurd h (by decide)
              clear hK K
              try simp only [Act.put, List.setIfInBounds_toArray, List.set_cons_zero, List.set_cons_succ]
              refine Stg.wpAnyL_free (i := 11) (v := ?_) 1 rfl (by kernel_rfl) (by kernel_rfl) (by kernel_rfl) (by kernel_rfl) (by kernel_rfl) (fun _ _ _ h => h) (Or.inl ⟨by kernel_rfl, ?_⟩) (by assumption) ?_
              rotate_left
              · intro u _
                try simp only [List.getElem_toArray, List.getElem_cons_succ, List.getElem_cons_zero]
                go_simp
                try with_reducible rfl
              try simp only [Act.put, List.setIfInBounds_toArray, List.set_cons_zero, List.set_cons_succ]
              refine Stg.wpAnyL_start (n' := 1) (l' := #[true, true, true, true, true, true, true, true, true, true, true, true, false]) (by kernel_rfl) (by kernel_rfl) ?_
              refine Stg.wpAnyL_one (i := 12) 2 rfl (by kernel_rfl) (by kernel_rfl) (fun K hK => ?_)
              have z0 := hU.2.f 0
              have z1 := hU.2.c 0 _ rfl
              try simp only [List.getElem_toArray, List.getElem_cons_succ, List.getElem_cons_zero]
              go_simp
              refine hK.out _ _ ?_ (fun hHeld3 => ?_)
              · exact fun h => absurd h (by decide)
              clear hK K
              try simp only [Act.put, List.setIfInBounds_toArray, List.set_cons_zero, List.set_cons_succ]
              refine Stg.wpAnyL_done (by kernel_rfl) ?_ _
              try simp only [List.getElem_toArray, List.getElem_cons_succ, List.getElem_cons_zero]
              try simp only [Act.put, List.setIfInBounds_toArray, List.set_cons_zero, List.set_cons_succ]
              refine NoPanic.normal ?_
              have Sw9 := Lib.hid hU.1
              clear z0 z1 hU hown5 hgrow5 hor5 hsz5 q0 q1 hHeld Sw8 hrow hwr1 hdb3 hdb1 hdb2 hdn
              generalize w5.setCell ⟨sb, 0, none⟩ (.slice a8 (n + 1 + 1) c8) = w9 at Sw9 ⊢
              obtain ⟨g9, rfl, hg9, hrow⟩ := Sw9.out.oa.blk (by omega)
              have q0 := Sw9.out.box.c 1 _ rfl
              have q1 := hrow.c n _ (iC_at da (n + 1) n (by omega))
              have hdb := hP.out.b2 n (Nat.le_refl _)
              obtain ⟨dn, hdn⟩ : ∃ z, RowKit.Hid (da n = z) := ⟨_, Lib.hid rfl⟩
              rw [hdn.out] at q1 hdb
              obtain ⟨hdb1, hdb2⟩ := hdb
              have hdb3 : dn ≤ 225000 := by omega
              have hwr1 : IntKind.i64.wrap (dn + m) = dn + m := IntWalk.i64_in _ (by omega)
              replace hrow := Lib.hid hrow
              have hnn1 : (n : Int) < (n : Int) + 1 := by omega
              go_upto_region 36 with fail
              refine wp_region_noPanic ?_
              refine Stg.wp_region_L [10, 12] (Vr.SB w9) (by kernel_rfl) (fun _ => (Below.refl _ _).drew) (fun hHeld => ?_)
              refine Stg.wpAnyL_start (n' := 13) (l' := #[false, false, false, false, false, false, false, false, false, false, false, false, false]) (by kernel_rfl) (by kernel_rfl) ?_
              refine Stg.wpAnyL_free (i := 0) (v := ?_) 0 rfl (by kernel_rfl) (by kernel_rfl) (by kernel_rfl) (by kernel_rfl) (by kernel_rfl) (fun _ _ _ h => h) (Or.inl ⟨by kernel_rfl, ?_⟩) (by assumption) ?_
              rotate_left
              · intro u _
                try simp only [List.getElem_toArray, List.getElem_cons_succ, List.getElem_cons_zero]
                go_simp
                try with_reducible rfl
              try simp only [Act.put, List.setIfInBounds_toArray, List.set_cons_zero, List.set_cons_succ]
              refine Stg.wpAnyL_take (i := 1) (v := ?_) [10, 11, 12] 0 rfl (by kernel_rfl) (by kernel_rfl) (by kernel_rfl) (by kernel_rfl) (by kernel_rfl) (fun _ _ _ h => h) (Or.inl ⟨by kernel_rfl, ?_⟩) (by assumption) ?_
              rotate_left
              · intro u hSu
                skip
                have sB := hSu rfl
                have y0 := cellB sB q0
                have y1 := cellB sB q1
                try simp only [List.getElem_toArray, List.getElem_cons_succ, List.getElem_cons_zero]
                go_simp
                try with_reducible rfl
              try simp only [Act.put, List.setIfInBounds_toArray, List.set_cons_zero, List.set_cons_succ]
              refine Stg.wpAnyL_free (i := 2) (v := ?_) 0 rfl (by kernel_rfl) (by kernel_rfl) (by kernel_rfl) (by kernel_rfl) (by kernel_rfl) (fun _ _ _ h => h) (Or.inl ⟨by kernel_rfl, ?_⟩) (by assumption) ?_
              rotate_left
              · intro u _
                try simp only [List.getElem_toArray, List.getElem_cons_succ, List.getElem_cons_zero]
                go_simp
                try with_reducible rfl
              try simp only [Act.put, List.setIfInBounds_toArray, List.set_cons_zero, List.set_cons_succ]
              refine Stg.wpAnyL_start (n' := 10) (l' := #[true, true, true, false, false, false, false, false, false, false, false, false, false]) (by kernel_rfl) (by kernel_rfl) ?_
              refine Stg.wpAnyL_take (i := 3) (v := ?_) [5, 6, 8, 9, 10, 11, 12] 0 rfl (by kernel_rfl) (by kernel_rfl) (by kernel_rfl) (by kernel_rfl) (by kernel_rfl) (fun _ _ _ h => h) (Or.inl ⟨by kernel_rfl, ?_⟩) (by assumption) ?_
              rotate_left
              · intro u hSu
                skip
                have sB := hSu rfl
                have y0 := cellB sB q0
                have y1 := cellB sB q1
                try simp only [List.getElem_toArray, List.getElem_cons_succ, List.getElem_cons_zero]
                go_simp
                try with_reducible rfl
              try simp only [Act.put, List.setIfInBounds_toArray, List.set_cons_zero, List.set_cons_succ]
              refine Stg.wpAnyL_free (i := 4) (v := ?_) 0 rfl (by kernel_rfl) (by kernel_rfl) (by kernel_rfl) (by kernel_rfl) (by kernel_rfl) (fun _ _ _ h => h) (Or.inl ⟨by kernel_rfl, ?_⟩) (by assumption) ?_
              rotate_left
              · intro u _
                try simp only [List.getElem_toArray, List.getElem_cons_succ, List.getElem_cons_zero]
                go_simp
                try with_reducible rfl
              try simp only [Act.put, List.setIfInBounds_toArray, List.set_cons_zero, List.set_cons_succ]
              refine Stg.wpAnyL_free (i := 5) (v := ?_) 0 rfl (by kernel_rfl) (by kernel_rfl) (by kernel_rfl) (by kernel_rfl) (by kernel_rfl) (fun _ _ _ h => h) (Or.inl ⟨by kernel_rfl, ?_⟩) (by assumption) ?_
              rotate_left
              · intro u _
                try simp only [List.getElem_toArray, List.getElem_cons_succ, List.getElem_cons_zero]
                go_simp
                try with_reducible rfl
              try simp only [Act.put, List.setIfInBounds_toArray, List.set_cons_zero, List.set_cons_succ]
              refine Stg.wpAnyL_start (n' := 7) (l' := #[true, true, true, true, true, true, false, false, false, false, false, false, false]) (by kernel_rfl) (by kernel_rfl) ?_
              refine Stg.wpAnyL_take (i := 6) (v := ?_) [8, 9, 10, 11, 12] 0 rfl (by kernel_rfl) (by kernel_rfl) (by kernel_rfl) (by kernel_rfl) (by kernel_rfl) (fun _ _ _ h => h) (Or.inl ⟨by kernel_rfl, ?_⟩) (by assumption) ?_
              rotate_left
              · intro u hSu
                skip
                have sB := hSu rfl
                have y0 := cellB sB q0
                have y1 := cellB sB q1
                try simp only [List.getElem_toArray, List.getElem_cons_succ, List.getElem_cons_zero]
                go_simp
                try with_reducible rfl
              try simp only [Act.put, List.setIfInBounds_toArray, List.set_cons_zero, List.set_cons_succ]
              refine Stg.wpAnyL_free (i := 7) (v := ?_) 0 rfl (by kernel_rfl) (by kernel_rfl) (by kernel_rfl) (by kernel_rfl) (by kernel_rfl) (fun _ _ _ h => h) (Or.inl ⟨by kernel_rfl, ?_⟩) (by assumption) ?_
              rotate_left
              · intro u _
                try simp only [List.getElem_toArray, List.getElem_cons_succ, List.getElem_cons_zero]
                go_simp
                try with_reducible rfl
              try simp only [Act.put, List.setIfInBounds_toArray, List.set_cons_zero, List.set_cons_succ]
              refine Stg.wpAnyL_free (i := 8) (v := ?_) 0 rfl (by kernel_rfl) (by kernel_rfl) (by kernel_rfl) (by kernel_rfl) (by kernel_rfl) (fun _ _ _ h => h) (Or.inl ⟨by kernel_rfl, ?_⟩) (by assumption) ?_
              rotate_left
              · intro u _
                try simp only [List.getElem_toArray, List.getElem_cons_succ, List.getElem_cons_zero]
                go_simp
                try with_reducible rfl
              try simp only [Act.put, List.setIfInBounds_toArray, List.set_cons_zero, List.set_cons_succ]
              refine Stg.wpAnyL_start (n' := 4) (l' := #[true, true, true, true, true, true, true, true, true, false, false, false, false]) (by kernel_rfl) (by kernel_rfl) ?_
              refine Stg.wpAnyL_one (i := 9) 0 rfl (by kernel_rfl) (by kernel_rfl) (fun K hK => ?_)
              try simp only [List.getElem_toArray, List.getElem_cons_succ, List.getElem_cons_zero]
              go_simp
              refine hK.out _ _ ?_ (fun hHeld1 => ?_)
              · exact fun _ => bNext (hHeld rfl) ((Below.refl _ _).alloc (Nat.le_refl _) _) (Nat.le_refl _)
              clear hK K
              try simp only [Act.put, List.setIfInBounds_toArray, List.set_cons_zero, List.set_cons_succ]
              refine Stg.wpAnyL_one (i := 10) 1 rfl (by kernel_rfl) (by kernel_rfl) (fun K hK => ?_)
              try simp only [List.getElem_toArray, List.getElem_cons_succ, List.getElem_cons_zero]
              rw [if_pos (by kernel_rfl)]
              refine wp_appI (.tmp 200) (.tmp 208) rfl w.heap.size (.slice (some ⟨g9, 0, none⟩) (n + 1) ac) (put da n m) (n + 1) (by kernel_rfl) ((Sw9.out.oa.kf (KF.of (l := []) (hHeld1 rfl)) (fun q _ => by simp)).congr (fun q hq => (put_old da m (by omega)).symm)) (by have := (hHeld1 rfl).size; have := Sw9.out.bel.size; omega) (q := w9.drew.heap.size) (c := 1) (by kernel_rfl) (by rw [put_new, hdn.out]; exact blkN_new w9.drew [.int .i64 (dn + m)] 3) (by omega) ?_
              intro a9 n5 c9 w5 hown5 hn5 hsz5 hgrow5 hor5
              obtain rfl : n5 = n + 1 + 1 := hn5
              have hU := (Sw9.out.below (hHeld1 rfl)).appA (m := m) hown5 hgrow5 hor5
              refine hK.out _ _ ?_ (fun hHeld2 => ?_)
              · exact fun h => absurd h (by decide)
              clear hK K
              try simp only [Act.put, List.setIfInBounds_toArray, List.set_cons_zero, List.set_cons_succ]
              refine Stg.wpAnyL_free (i := 11) (v := ?_) 1 rfl (by kernel_rfl) (by kernel_rfl) (by kernel_rfl) (by kernel_rfl) (by kernel_rfl) (fun _ _ _ h => h) (Or.inl ⟨by kernel_rfl, ?_⟩) (by assumption) ?_
              rotate_left
              · intro u _
                try simp only [List.getElem_toArray, List.getElem_cons_succ, List.getElem_cons_zero]
                go_simp
                try with_reducible rfl
              try simp only [Act.put, List.setIfInBounds_toArray, List.set_cons_zero, List.set_cons_succ]
              refine Stg.wpAnyL_start (n' := 1) (l' := #[true, true, true, true, true, true, true, true, true, true, true, true, false]) (by kernel_rfl) (by kernel_rfl) ?_
              refine Stg.wpAnyL_one (i := 12) 2 rfl (by kernel_rfl) (by kernel_rfl) (fun K hK => ?_)
              have z0 := hU.2.f 1
              have z1 := hU.2.c 1 _ rfl
              try simp only [List.getElem_toArray, List.getElem_cons_succ, List.getElem_cons_zero]
              go_simp
              refine hK.out _ _ ?_ (fun hHeld3 => ?_)
              · exact fun h => absurd h (by decide)
              clear hK K
              try simp only [Act.put, List.setIfInBounds_toArray, List.set_cons_zero, List.set_cons_succ]
              refine Stg.wpAnyL_done (by kernel_rfl) ?_ _
              try simp only [List.getElem_toArray, List.getElem_cons_succ, List.getElem_cons_zero]
              try simp only [Act.put, List.setIfInBounds_toArray, List.set_cons_zero, List.set_cons_succ]
              refine NoPanic.normal ?_
              have Sw10 := Lib.hid hU.1
              clear z0 z1 hU hown5 hgrow5 hor5 hsz5 q0 q1 hHeld Sw9 hrow hwr1 hdb3 hdb1 hdb2 hdn
              generalize w5.setCell ⟨sb, 1, none⟩ (.slice a9 (n + 1 + 1) c9) = w10 at Sw10 ⊢
              have q2 := Sw10.out.box.c 2 _ rfl
              have q3 := Sw10.out.box.f 2
              have Sw11 := Lib.hid (Sw10.out.setFr (n + 1))
              have hBP2 := hNR.out hrd
              rw [hmm.out, hval.out, etkH.out] at hBP2
              replace hBP2 := Lib.hid hBP2
              go_wp2_with fail
              go_roundw
              case rel => exact ⟨j + 1, px, tb6, ct6, upn t k (tk + 1), n + 1, n + 1, put dm n 0, put da n m, _, _, _, _, by go_num, hjl, by omega, Sw11, Lib.hid (by rw [show (((j + 1 : Nat) : Int)) * PM = (j : Int) * PM + PM by push_cast; rw [Int.add_mul, Int.one_mul]]; exact hI2.out), hBP2⟩
              case measure => simp [intOf]; omega
            · have hnone : ∀ q, q < i → ¬ 0 < headM Q t mk q := fun q hq hp => hex ⟨q, hq, hp⟩
              obtain ⟨e1, hP2⟩ := hP.out.none hI.out hALL.out hfln hgoodQ.out hmostQ.out m0 o0 hnone
              rw [e1] at hpk hI2
              replace hpk := Lib.hid hpk
              replace hP2 := Lib.hid hP2
              obtain ⟨px, hpx⟩ : ∃ px, RowKit.Hid (toldN i ALL x.V (gd dw) x.Z x.D x.S x.F (headM Q t mk) = px) := ⟨_, Lib.hid rfl⟩
              rw [hpx.out] at hpk hI2 hP2
              clear e1
              go_wp2_with fail
              refine hpk.out.mono ?_
              rintro e w6 ⟨tb6, ct6, rfl, F6, ht6, k6⟩
              have hS6 := hS5.out.pick F6 ht6 k6
              have q0 := hS6.box.c 1 _ rfl
              have q1 := hS6.box.f 2
              have q2 := hS6.box.c 2 _ rfl
              have hnzz : (n : Int) ≤ 150 := by omega
              have hS7 := Lib.hid (hS6.setFr n)
              replace hS6 := Lib.hid hS6
              clear hpk F6 ht6 k6 hS5 hS x2
              go_wp2_with fail
              go_roundw
              case rel => exact ⟨j + 1, px, tb6, ct6, t, n, n, dm, da, mv, mc, av, ac, by go_num, hjl, by omega, hS7, Lib.hid (by rw [show (((j + 1 : Nat) : Int)) * PM = (j : Int) * PM + PM by push_cast; rw [Int.add_mul, Int.one_mul]]; exact hI2.out), hP2⟩
              case measure => simp [intOf]; omega
        · obtain rfl : j = nm := by omega
          clear hS hI hP
          go_wp2_with fail
          refine (wakes26_c _).mono ?_
          rintro e w5 ⟨rfl, hb⟩
          have hF := Lib.hid (hbw.out.trans (hb.mono hbw.out.size))
          clear hb
          go_wp2_with fail
          exact bodyPost_ret (v := .bool true) (by simp [results, Try.results5, go_sem]) rfl ⟨rfl, hF.out⟩
end Go.Proofs.Ytbbcongfaoopcaa
