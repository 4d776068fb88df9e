/- The scheduler: Pick. -/
import Derived.Test.YtkefkophlhcbiaaF14
namespace Go.Proofs.Ytkefkophlhcbiaa
open Go.ChangeShapes Go.WideShapes Go.ChangeAt Go.RowKit Go.Maps
set_option linter.unusedVariables false
set_option linter.unusedSimpArgs false
open BigFrame Pk Fq Vr Fa

namespace Fa
def rdy (h : Nat → Int) : Nat → Bool := fun i => decide (0 < h i)
/-- What is picked of what was told. -/
structure Picked where
  k : Int
  ok : Bool
  x : Sched
def pickX (N : Nat) (h : Nat → Int) (x : Sched) : Picked :=
  if leastK x.S (rdy h) N < 0 then ⟨0, false, x⟩
  else
    let V1 := max x.V (x.S (leastK x.S (rdy h) N).toNat)
    let k := leastK x.F (fun i => rdy h i && decide (x.S i ≤ V1)) N
    ⟨k, true, ⟨V1 + h k.toNat * 720720, x.Z, upb x.D k.toNat true, x.S, x.F⟩⟩
def PickQ (p : Picked) (tb0 f lb cl N : Nat) (ALL : Int) (W : Nat → Int) (w : World) (e : Ending) (w' : World) : Prop :=
  ∃ tb ct, e = .returned (.tuple #[.int .i64 p.k, .bool p.ok]) ∧ FD w' f lb cl tb ct N ALL p.x.V W p.x.Z p.x.D p.x.S p.x.F ∧ (tb = tb0 ∨ w.heap.size ≤ tb) ∧ KF [f, lb] w w'
theorem pick_some {S F : Nat → Int} {R : Nat → Bool} {N : Nat} {V : Int} (h0 : ¬ leastK S R N < 0) :
    ∃ kn : Nat, leastK F (fun i => R i && decide (S i ≤ max V (S (leastK S R N).toNat))) N = (kn : Int) ∧ kn < N ∧ R kn = true ∧ S kn ≤ max V (S (leastK S R N).toNat) := by
  have h1 := leastK_yes (O := S) (m := R) (n := N) (by omega)
  have h2 := (leastK_lt S R N).2
  obtain ⟨k, hk⟩ : ∃ k : Int, leastK F (fun i => R i && decide (S i ≤ max V (S (leastK S R N).toNat))) N = k := ⟨_, rfl⟩
  by_cases hn : k < 0
  · have := leastK_no (by rw [hk]; exact hn) (leastK S R N).toNat (by omega)
    simp [h1.1] at this
    omega
  · have h3 := leastK_yes (O := F) (m := fun i => R i && decide (S i ≤ max V (S (leastK S R N).toNat))) (n := N) (by rw [hk]; omega)
    have h4 := (leastK_lt F (fun i => R i && decide (S i ≤ max V (S (leastK S R N).toNat))) N).2
    rw [hk] at h3 h4
    have h5 := h3.1
    rw [Bool.and_eq_true, decide_eq_true_iff] at h5
    exact ⟨k.toNat, by omega, by omega, h5.1, h5.2⟩
theorem rowF_served (W Z : Nat → Int) (D : Nat → Bool) (k N : Nat) (hk : k < N) (d : Bool) : (rowF W Z D N).set (k * 3 + 2) (.bool d) = rowF W Z (upb D k d) N := by
  have h := rowF_set W Z D k (Z k) d N hk
  have e : (rowF W Z D N).set (k * 3 + 1) (.int .i64 (Z k)) = rowF W Z D N := by
    have h1 := rowF_at W Z D N k 1 hk (by omega)
    have h2 : (rowF W Z D N)[k * 3 + 1]? = some (.int .i64 (Z k)) := h1
    obtain ⟨hl, he⟩ := List.getElem?_eq_some_iff.1 h2
    rw [← he]
    exact List.set_getElem_self hl
  rw [e, up_same] at h
  exact h
theorem FD.setServed {w : World} {f lb cl tb ct N k : Nat} {ALL V : Int} {W Z : Nat → Int} {D : Nat → Bool} {S F : Nat → Int} (h : FD w f lb cl tb ct N ALL V W Z D S F) (hk : k < N) (d : Bool) :
    FD (w.setCell ⟨lb, k * 3 + 2, none⟩ (.bool d)) f lb cl tb ct N ALL V W Z (upb D k d) S F :=
  ⟨h.b.other h.a1 _, by
    have h1 := h.l.set (i := k * 3 + 2) (by rw [rowF_len]; omega) (.bool d)
    rw [rowF_served W Z D k N hk d] at h1
    exact h1, h.t.set_other (fun _ => by have := h.a3; omega) _, h.a1, h.a2, h.a3, h.n1, h.n8⟩
end Fa

set_option maxRecDepth 100000 in
set_option maxHeartbeats 8000000 in
theorem fpick_ok {w : World} {f lb cl tb ct N : Nat} {ALL V M : Int} {W Z : Nat → Int} {D : Nat → Bool} {S F : Nat → Int} (hd : FD w f lb cl tb ct N ALL V W Z D S F) (H : Inv M ALL V N W Z D S F) (hM : M ≤ 1000000000000000)
    (b off c : Nat) (h g : Nat → Int) (T : TagsAt w (some ⟨b, off, none⟩) b off N h g) (hbf : b ≠ f) (hbl : b ≠ lb) (hh : ∀ i, i < N → headBad (h i) = false) :
    Calls Try.prog 34 #[.pointer (some ⟨f, 0, none⟩), .slice (some ⟨b, off, none⟩) N c] w (PickQ (pickX N h (toldN N ALL V W Z D S F h)) tb f lb cl N ALL W w) := by
  have hN1 : (1 : Int) ≤ (N : Int) := by have := hd.n1; omega
  have hN8 : (N : Int) ≤ 8 := by have := hd.n8; omega
  have hfl := hd.b.l
  have hll := hd.l.l
  have htl := hd.tl
  have hbw := T.hb (by omega)
  have hc := hcontains_c (some ⟨b, off, none⟩) b off N c h g w T (by omega)
  have hdec : (!decide (∀ i, i < N → headBad (h i) = false)) = false := by simp; exact hh
  rw [hdec] at hc
  replace hc := Lib.hid hc
  have b0 := hd.b.c 0 _ rfl
  replace hd := Lib.hid hd
  replace H := Lib.hid H
  replace T := Lib.hid T
  replace hh := Lib.hid hh
  clear hdec
  go_enter Try.func34, Try.ntmps34
  go_wp2_with (go_at_call 46; refine hc.out.mono ?_; rintro e w1 ⟨rfl, hb1⟩; have hd1 := Lib.hid (hd.out.bel hb1); have k1 := Lib.hid (KF.of (l := [f, lb]) hb1); clear hc hb1 b0)
  go_loopw [6, 7, 8, 30] (fun s6 _ _ s30 wr => ∃ (i : Nat) (rv : Option Addr) (rc tbr ctr : Nat), s6 = .slice rv i rc ∧ s30 = .int .i64 (i : Nat) ∧ i ≤ N ∧ RowKit.Hid (FD wr f lb cl tbr ctr N ALL V W (mix i h Z) (mixb i nof D) (mix i (S1 V ALL W Z D S F h) S) (mix i (F1 V ALL W Z D S F h) F)) ∧ RowKit.Hid (OwnB wr w.heap.size (.slice rv i rc) (rdy h) i) ∧ RowKit.Hid (KF [f, lb] w wr) ∧ RowKit.Hid (tbr = tb ∨ w.heap.size ≤ tbr) ∧ RowKit.Hid (∀ q, (Value.slice rv i rc).ownBlock = some q → q ≠ tbr)) (fun _ _ _ s30 _ => N - (intOf s30).toNat)
  case atStart => exact ⟨0, none, 0, tb, ct, rfl, rfl, Nat.zero_le _, by rw [mix_zero, mixb_zero, mix_zero, mix_zero]; exact hd1, Lib.hid (OwnB.nil _ _ _), k1, Lib.hid (.inl rfl), Lib.hid (fun q e => by cases e)⟩
  case round =>
    obtain ⟨i, rv, rc, tbr, ctr, rfl, rfl, hi, hF, hO, hK, ht, hne⟩ := hrel
    have ii : (i : Int) ≤ (N : Int) := by omega
    by_cases hlt : i < N
    · have ii1 : (i : Int) < (N : Int) := by omega
      have T2 := Lib.hid (hK.out.tags T.out (fun _ => by simp; omega))
      have t0 := T2.out.c0 i hlt
      have t1 := T2.out.c1 i hlt
      have hb6 := (Below.refl wr.heap.size wr).alloc (Nat.le_refl _) (.cells #[.int .i64 (h i), .int .i64 (g i)] 78)
      have bx := blk_new wr (.int .i64 (h i)) (.int .i64 (g i)) 78
      have hF6 := hF.out.bel hb6
      have hx := headOk (hh.out i hlt)
      have hw := H.out.w i hlt
      have hz := H.out.z i hlt
      have hfar := H.out.far
      have hv : VOk V N (mix i (S1 V ALL W Z D S F h) S) (mix i (F1 V ALL W Z D S F h) F) := (H.out.told hh.out i).far.vok (by unfold CM; omega) (by omega)
      have hear := hear_c hF6 i hlt (h i) hx.1 hx.2 (by rw [mix_at]; exact hz.1) (by rw [mix_at, mixb_at]; exact H.out.d i hlt) hv (by rw [mix_at]; have := hfar.2.2 i hlt; omega) (by have := hfar.2.1; omega) hw.1 hw.2.1 hw.2.2 H.out.all
      simp only [mix_at, mixb_at] at hear
      have hear2 : Calls Try.prog 48 #[.pointer (some ⟨f, 0, none⟩), .int .i64 (i : Nat), .int .i64 (h i)] (wr.alloc (.cells #[.int .i64 (h i), .int .i64 (g i)] 78)) (HearQ tbr f lb cl N ALL V W (mix (i + 1) h Z) (mixb (i + 1) nof D) (mix (i + 1) (S1 V ALL W Z D S F h) S) (mix (i + 1) (F1 V ALL W Z D S F h) F) [f, lb] (wr.alloc (.cells #[.int .i64 (h i), .int .i64 (g i)] 78))) := by
        rw [← mix_succ i h Z, ← mixb_succ i nof D, ← mix_succ i (S1 V ALL W Z D S F h) S, ← mix_succ i (F1 V ALL W Z D S F h) F]
        exact hear
      replace hear2 := Lib.hid hear2
      replace bx := Lib.hid bx
      have k6 := Lib.hid (KF.of (l := [f, lb]) hb6)
      clear hear hb6 hF6 hx hw hz hfar hv hF
      have hsz := hK.out.size
      go_wp2_with fail
      refine hear2.out.mono ?_
      rintro e w7 ⟨tb7, ct7, rfl, F7, ht7, K7⟩
      have O7 := Lib.hid ((hO.out.kf k6.out (fun q hq => by have := (hO.out.lt hq).1; simp; omega)).kf K7 (fun q hq => by have := (hO.out.lt hq).1; simp; omega))
      have b7 := K7.blk bx.out (by simp; omega)
      have b70 := b7.c 0 _ rfl
      have k7 := Lib.hid (hK.out.trans (k6.out.trans K7))
      replace F7 := Lib.hid F7
      replace ht7 := Lib.hid ht7
      clear K7 b7 hear2 bx k6 t0 t1
      have ht8 := Lib.hid (show tb7 = tb ∨ w.heap.size ≤ tb7 by
        have h1 := ht.out
        have h2 := ht7.out
        rw [World.size_alloc] at h2
        rcases h2 with h2 | h2
        · rcases h1 with h1 | h1
          · exact .inl (h2.trans h1)
          · exact .inr (by omega)
        · exact .inr (by omega))
      have hne8 := Lib.hid (show ∀ q, (Value.slice rv i rc).ownBlock = some q → w.heap.size ≤ q ∧ q ≠ f ∧ q ≠ lb ∧ q ≠ tb7 from fun q hq => by
        have h1 := hO.out.lt hq
        have h2 := ht7.out
        rw [World.size_alloc] at h2
        have h3 := hne.out q hq
        refine ⟨h1.1, by omega, by omega, ?_⟩
        rcases h2 with h2 | h2
        · rw [h2]; exact h3
        · omega)
      clear ht hne hO hK ht7
      have hbk := Lib.hid (blkN_new w7 [.bool (decide (0 < h i))] 4)
      have hO8 := Lib.hid (O7.out.kf (KF.of (l := []) ((Below.refl w7.heap.size w7).alloc (Nat.le_refl _) (.cells #[.bool (decide (0 < h i))] 4))) (fun q hq => by simp))
      have hszA := Lib.hid (show w.heap.size ≤ (w7.alloc (.cells #[.bool (decide (0 < h i))] 4)).heap.size by have := k7.out.size; simp; omega)
      clear O7
      go_wp2_with (at_builtin; refine wpList_appB rfl _ _ rfl w.heap.size (.slice rv i rc) (rdy h) i (by rfl) hO8.out hszA.out (by rfl) hbk.out (by omega) ?_; intro a5 n5 c5 w5 hown5 hn5 hsz5 hgrow5 hor5; obtain rfl : n5 = i + 1 := hn5; have hown5 := Lib.hid hown5; have hgrow5 := Lib.hid hgrow5; have hor5 := Lib.hid hor5; clear hsz5 b70 hbk hO8 hszA)
      go_roundw
      case rel =>
        refine ⟨i + 1, a5, c5, tb7, ct7, rfl, by go_num, hlt, Lib.hid (F7.out.grown hgrow5.out (fun q hq => (hne8.out q hq).2)), hown5, Lib.hid ((k7.out.alloc _).grown hgrow5.out (fun q hq => (hne8.out q hq).1)), ht8, Lib.hid (fun q hq => ?_)⟩
        rcases hor5.out with e | e
        · rw [e] at hq
          exact (hne8.out q hq).2.2.2
        · rw [e] at hq
          have h1 := F7.out.tl
          rw [World.size_alloc] at hq
          cases hq
          omega
      case measure => simp [intOf]; omega
    · obtain rfl : i = N := by omega
      obtain ⟨rb, rfl, hrb, BR⟩ := hO.out.at_ (by omega)
      have hI := Lib.hid (H.out.told hh.out i)
      have hF2 : RowKit.Hid (FD wr f lb cl tbr ctr i ALL V W (toldN i ALL V W Z D S F h).Z (toldN i ALL V W Z D S F h).D (toldN i ALL V W Z D S F h).S (toldN i ALL V W Z D S F h).F) := hF
      have T2 := Lib.hid (hK.out.tags T.out (fun _ => by simp; omega))
      have hbw2 := T2.out.hb (by omega)
      obtain ⟨x, hx⟩ : ∃ x, RowKit.Hid (toldN i ALL V W Z D S F h = x) := ⟨_, Lib.hid rfl⟩
      have hxV : x.V = V := by rw [← hx.out]; rfl
      rw [hx.out] at hI hF2
      have hpk := vpick_c V (some ⟨tbr, 0, none⟩) (some ⟨rb, 0, none⟩) tbr 0 i ctr rb 0 i rc x.S x.F (rdy h) wr hF2.out.t (by omega) BR
      have b2 := hF2.out.b.c 2 _ rfl
      have b3 := hF2.out.b.c 3 _ rfl
      have hvok : VOk V i x.S x.F := hI.out.far.vok (by unfold CM; omega) (by omega)
      clear hF hO hne BR hd H
      by_cases hno : leastK x.S (rdy h) i < 0
      · have e : pickR V i x.S x.F i (rdy h) = ⟨0, 0, x.S, x.F, 0, false⟩ := by unfold pickR; rw [if_neg (fun q => by have := q.2.2; omega)]
        have e2 : pickX i h x = ⟨0, false, x⟩ := by unfold pickX; rw [if_pos hno]
        rw [e] at hpk
        replace e2 := Lib.hid ((congrArg (pickX i h) hx.out).trans e2)
        replace hpk := Lib.hid hpk
        clear hno e hvok
        go_wp2_with fail
        refine hpk.out.mono ?_
        rintro e w8 ⟨a8, g8, c8, rfl, T8, hg8, hb8⟩
        have hb9 := Lib.hid (hb8.trans (((Below.refl w8.heap.size w8).alloc (Nat.le_refl _) (.cells #[.int .i64 0, .slice a8 0 c8] 96)).mono hb8.size))
        clear hb8 hpk T8 hg8
        go_wp2_with fail
        refine bodyPost_ret (v := .tuple #[.int .i64 0, .bool false]) (by simp [results, Try.results34, go_sem]) rfl ?_
        rw [e2.out]
        exact ⟨tbr, ctr, rfl, by show FD _ f lb cl tbr ctr i ALL x.V W x.Z x.D x.S x.F; rw [hxV]; exact hF2.out.bel hb9.out, ht.out, hK.out.trans (KF.of hb9.out)⟩
      · obtain ⟨kn, hkn, hkN, hkr, hkS⟩ := pick_some (F := x.F) (V := V) hno
        obtain ⟨V1, hV1⟩ : ∃ V1, max V (x.S (leastK x.S (rdy h) i).toNat) = V1 := ⟨_, rfl⟩
        have hV1b : 0 ≤ V1 ∧ V1 ≤ M + CM := by
          have h1 := hI.out.far
          have h2 := h1.2.2 (leastK x.S (rdy h) i).toNat (by have := (leastK_lt x.S (rdy h) i).2; omega)
          have h3 := h1.1
          have h4 := h1.2.1
          omega
        have e : pickR V i x.S x.F i (rdy h) = ⟨V1, i, x.S, x.F, kn, true⟩ := by
          unfold pickR
          rw [if_pos ⟨hvok, rfl, by omega⟩]
          simp only [hV1] at hkn ⊢
          rw [hkn]
        have hpos : 0 < h kn := by simpa [rdy] using hkr
        have hle := (headOk (hh.out kn hkN)).2
        have e2 : pickX i h x = ⟨kn, true, ⟨V1 + h kn * 720720, x.Z, upb x.D kn true, x.S, x.F⟩⟩ := by
          unfold pickX
          rw [if_neg hno, hxV]
          simp only [hV1] at hkn ⊢
          rw [hkn]
          rfl
        rw [e] at hpk
        replace e2 := Lib.hid ((congrArg (pickX i h) hx.out).trans e2)
        replace hpk := Lib.hid hpk
        clear hno e hkn hkS hV1 hkr
        replace hvok := Lib.hid hvok
        go_wp2_with fail
        refine hpk.out.mono ?_
        rintro e w8 ⟨a8, g8, c8, rfl, T8, hg8, hb8⟩
        obtain rfl := T8.ha (by show 0 < i; omega)
        replace hg8 : wr.heap.size ≤ g8 := hg8 (by show 0 < i; omega)
        replace T8 : TagsAt w8 (some ⟨g8, 0, none⟩) g8 0 i x.S x.F := T8
        have ha := (Below.refl w8.heap.size w8).alloc (Nat.le_refl _) (.cells #[.int .i64 V1, .slice (some ⟨g8, 0, none⟩) i c8] 96)
        have nb := blk_new w8 (.int .i64 V1) (.slice (some ⟨g8, 0, none⟩) i c8) 96
        have hb9 := hb8.trans (ha.mono hb8.size)
        have d9 := Lib.hid (hF2.out.bel hb9)
        have T9 := Lib.hid (T8.bel ha)
        have k9 := Lib.hid (hK.out.trans (KF.of (l := [f, lb]) hb9))
        have H9 := Lib.hid (T2.out.bel hb9)
        have hs8 := hb8.size
        have hg8l := T8.hb (by omega)
        have hwr := hK.out.size
        have htr := hF2.out.tl
        clear T8 hb8 hpk ha hb9 hF2 hK T2 b2 b3 T
        go_upto_region 13 with fail
        generalize w8.alloc (.cells #[.int .i64 V1, .slice (some ⟨g8, 0, none⟩) i c8] 96) = w9 at nb d9 T9 k9 H9 ⊢
        generalize w8.heap.size = nbb at nb hs8 hg8l ⊢
        have q0 := nb.c 0 _ rfl
        have q1 := nb.c 1 _ rfl
        have t0 := H9.out.c0 kn hkN
        have hkn2 : (kn : Int) < (i : Int) := by omega
        replace nb := Lib.hid nb
        have hsv := Lib.hid (show serveOk V1 i x.S x.F (h kn) from ⟨⟨hV1b.1, by have := hV1b.2; unfold CM at this; omega, by omega, hvok.out.2.2.2⟩, by omega, hle, by have := hV1b.2; unfold CM at this; omega⟩)
        refine wp_region_noPanic ?_
        refine Stg.wp_region_L [10] (Vr.SB w9) (by kernel_rfl) (fun _ => (Below.refl _ _).drew) (fun hHeld => ?_)
        refine Stg.wpAnyL_start (n' := 11) (l' := #[false, false, false, false, false, false, false, false, false, false, false]) (by kernel_rfl) (by kernel_rfl) ?_
        refine Stg.wpAnyL_take (i := 0) (v := ?_) [6, 7, 8, 9, 10] 0 rfl (by kernel_rfl) (by kernel_rfl) (by kernel_rfl) (by kernel_rfl) (by kernel_rfl) (fun _ _ _ h => h) (Or.inl ⟨by kernel_rfl, ?_⟩) (by assumption) ?_
        rotate_left
        · intro u hSu
          skip
          have sB := hSu rfl
          have y0 := cellB sB q0
          have y1 := cellB sB q1
          have y2 := cellB sB t0
          try simp only [List.getElem_toArray, List.getElem_cons_succ, List.getElem_cons_zero]
          go_simp
          try with_reducible rfl
        try simp only [Act.put, List.setIfInBounds_toArray, List.set_cons_zero, List.set_cons_succ]
        refine Stg.wpAnyL_free (i := 1) (v := ?_) 0 rfl (by kernel_rfl) (by kernel_rfl) (by kernel_rfl) (by kernel_rfl) (by kernel_rfl) (fun _ _ _ h => h) (Or.inl ⟨by kernel_rfl, ?_⟩) (by assumption) ?_
        rotate_left
        · intro u _
          try simp only [List.getElem_toArray, List.getElem_cons_succ, List.getElem_cons_zero]
          go_simp
          try with_reducible rfl
        try simp only [Act.put, List.setIfInBounds_toArray, List.set_cons_zero, List.set_cons_succ]
        refine Stg.wpAnyL_free (i := 2) (v := ?_) 0 rfl (by kernel_rfl) (by kernel_rfl) (by kernel_rfl) (by kernel_rfl) (by kernel_rfl) (fun _ _ _ h => h) (Or.inl ⟨by kernel_rfl, ?_⟩) (by assumption) ?_
        rotate_left
        · intro u _
          try simp only [List.getElem_toArray, List.getElem_cons_succ, List.getElem_cons_zero]
          go_simp
          try with_reducible rfl
        try simp only [Act.put, List.setIfInBounds_toArray, List.set_cons_zero, List.set_cons_succ]
        refine Stg.wpAnyL_start (n' := 8) (l' := #[true, true, true, false, false, false, false, false, false, false, false]) (by kernel_rfl) (by kernel_rfl) ?_
        refine Stg.wpAnyL_free (i := 3) (v := ?_) 0 rfl (by kernel_rfl) (by kernel_rfl) (by kernel_rfl) (by kernel_rfl) (by kernel_rfl) (fun _ _ _ h => h) (Or.inl ⟨by kernel_rfl, ?_⟩) (by assumption) ?_
        rotate_left
        · intro u _
          try simp only [List.getElem_toArray, List.getElem_cons_succ, List.getElem_cons_zero]
          go_simp
          try with_reducible rfl
        try simp only [Act.put, List.setIfInBounds_toArray, List.set_cons_zero, List.set_cons_succ]
        refine Stg.wpAnyL_free (i := 4) (v := ?_) 0 rfl (by kernel_rfl) (by kernel_rfl) (by kernel_rfl) (by kernel_rfl) (by kernel_rfl) (fun _ _ _ h => h) (Or.inl ⟨by kernel_rfl, ?_⟩) (by assumption) ?_
        rotate_left
        · intro u _
          try simp only [List.getElem_toArray, List.getElem_cons_succ, List.getElem_cons_zero]
          go_simp
          try with_reducible rfl
        try simp only [Act.put, List.setIfInBounds_toArray, List.set_cons_zero, List.set_cons_succ]
        refine Stg.wpAnyL_take (i := 5) (v := ?_) [6, 7, 8, 9, 10] 0 rfl (by kernel_rfl) (by kernel_rfl) (by kernel_rfl) (by kernel_rfl) (by kernel_rfl) (fun _ _ _ h => h) (Or.inl ⟨by kernel_rfl, ?_⟩) (by assumption) ?_
        rotate_left
        · intro u hSu
          skip
          have sB := hSu rfl
          have y0 := cellB sB q0
          have y1 := cellB sB q1
          have y2 := cellB sB t0
          try simp only [List.getElem_toArray, List.getElem_cons_succ, List.getElem_cons_zero]
          go_simp
          try with_reducible rfl
        try simp only [Act.put, List.setIfInBounds_toArray, List.set_cons_zero, List.set_cons_succ]
        refine Stg.wpAnyL_start (n' := 5) (l' := #[true, true, true, true, true, true, false, false, false, false, false]) (by kernel_rfl) (by kernel_rfl) ?_
        refine Stg.wpAnyL_one (i := 6) 0 rfl (by kernel_rfl) (by kernel_rfl) (fun K hK => ?_)
        try simp only [List.getElem_toArray, List.getElem_cons_succ, List.getElem_cons_zero]
        go_simp
        refine (vserve_c V1 (h kn) i (some ⟨g8, 0, none⟩) g8 0 c8 x.S x.F _ (T9.out.bel (hHeld rfl)) (by omega)).mono ?_
        rintro e w10 hX
        unfold serveR at hX
        rw [if_pos hsv.out] at hX
        obtain ⟨a10, g10, c10, rfl, T10, hg10, hb1⟩ := hX
        obtain rfl := T10.ha (by show 0 < i; omega)
        replace hg10 : w9.heap.size ≤ g10 := by have := hg10 (by show 0 < i; omega); simpa using this
        replace T10 : TagsAt w10 (some ⟨g10, 0, none⟩) g10 0 i x.S x.F := T10
        refine hK.out _ _ ?_ (fun hHeld1 => ?_)
        · exact fun _ => bNext (hHeld rfl) hb1 (Nat.le_refl _)
        clear hK K
        try simp only [Act.put, List.setIfInBounds_toArray, List.set_cons_zero, List.set_cons_succ]
        refine Stg.wpAnyL_free (i := 7) (v := ?_) 0 rfl (by kernel_rfl) (by kernel_rfl) (by kernel_rfl) (by kernel_rfl) (by kernel_rfl) (fun _ _ _ h => h) (Or.inl ⟨by kernel_rfl, ?_⟩) (by assumption) ?_
        rotate_left
        · intro u _
          try simp only [List.getElem_toArray, List.getElem_cons_succ, List.getElem_cons_zero]
          go_simp
          try with_reducible rfl
        try simp only [Act.put, List.setIfInBounds_toArray, List.set_cons_zero, List.set_cons_succ]
        refine Stg.wpAnyL_free (i := 8) (v := ?_) 0 rfl (by kernel_rfl) (by kernel_rfl) (by kernel_rfl) (by kernel_rfl) (by kernel_rfl) (fun _ _ _ h => h) (Or.inl ⟨by kernel_rfl, ?_⟩) (by assumption) ?_
        rotate_left
        · intro u _
          try simp only [List.getElem_toArray, List.getElem_cons_succ, List.getElem_cons_zero]
          go_simp
          try with_reducible rfl
        try simp only [Act.put, List.setIfInBounds_toArray, List.set_cons_zero, List.set_cons_succ]
        refine Stg.wpAnyL_start (n' := 2) (l' := #[true, true, true, true, true, true, true, true, true, false, false]) (by kernel_rfl) (by kernel_rfl) ?_
        refine Stg.wpAnyL_free (i := 9) (v := ?_) 0 rfl (by kernel_rfl) (by kernel_rfl) (by kernel_rfl) (by kernel_rfl) (by kernel_rfl) (fun _ _ _ h => h) (Or.inl ⟨by kernel_rfl, ?_⟩) (by assumption) ?_
        rotate_left
        · intro u _
          try simp only [List.getElem_toArray, List.getElem_cons_succ, List.getElem_cons_zero]
          go_simp
          try with_reducible rfl
        try simp only [Act.put, List.setIfInBounds_toArray, List.set_cons_zero, List.set_cons_succ]
        refine Stg.wpAnyL_one (i := 10) 1 rfl (by kernel_rfl) (by kernel_rfl) (fun K hK => ?_)
        have hb10 := hHeld1 rfl
        have z0 := (nb.out.bel hb10).f 0
        have z1 := (nb.out.bel hb10).f 1
        have z2 := (nb.out.bel hb10).c 0 _ rfl
        have z3 := (nb.out.bel hb10).c 1 _ rfl
        try simp only [List.getElem_toArray, List.getElem_cons_succ, List.getElem_cons_zero]
        go_simp
        refine hK.out _ _ ?_ (fun hHeld2 => ?_)
        · exact fun h => absurd h (by decide)
        clear hK K
        try simp only [Act.put, List.setIfInBounds_toArray, List.set_cons_zero, List.set_cons_succ]
        refine Stg.wpAnyL_done (by kernel_rfl) ?_ _
        try simp only [List.getElem_toArray, List.getElem_cons_succ, List.getElem_cons_zero]
        try simp only [Act.put, List.setIfInBounds_toArray, List.set_cons_zero, List.set_cons_succ]
        refine NoPanic.normal ?_
        clear q0 q1 t0 z0 z1 z2 z3 hHeld
        have hnl := nb.out.l
        have K10 : KF [nbb] w9 ((w10.setCell ⟨nbb, 0, none⟩ (.int .i64 (V1 + h kn * 720720))).setCell ⟨nbb, 1, none⟩ (.slice (some ⟨g10, 0, none⟩) i c10)) := ((KF.of hb10).set (p := ⟨nbb, 0, none⟩) (.inl (by simp)) _).set (p := ⟨nbb, 1, none⟩) (.inl (by simp)) _
        have d11 := Lib.hid (K10.fd d9.out (by simp; omega) (by simp; omega) (by simp; omega))
        have T11 := Lib.hid ((T10.set_other (q := nbb) (o := 0) (fun _ => by omega) (.int .i64 (V1 + h kn * 720720))).set_other (q := nbb) (o := 1) (fun _ => by omega) (.slice (some ⟨g10, 0, none⟩) i c10))
        have k11 := Lib.hid (k9.out.new K10 (fun q hq => by simp at hq; omega))
        have nb11 := ((nb.out.bel hb10).set (i := 0) (by simp) (.int .i64 (V1 + h kn * 720720))).set (i := 1) (by simp) (.slice (some ⟨g10, 0, none⟩) i c10)
        clear K10 d9 T9 k9 nb hb10 H9 T10
        go_upto_region 14 with fail
        generalize ((w10.setCell ⟨nbb, 0, none⟩ (.int .i64 (V1 + h kn * 720720))).setCell ⟨nbb, 1, none⟩ (.slice (some ⟨g10, 0, none⟩) i c10)) = w11 at d11 T11 k11 nb11 ⊢
        obtain ⟨V2, hV2⟩ : ∃ V2, V1 + h kn * 720720 = V2 := ⟨_, rfl⟩
        have hV2b : 0 ≤ V2 ∧ V2 ≤ 1125899906842624 := by
          have := hV1b.1
          have := hV1b.2
          unfold CM at this
          omega
        rw [hV2] at nb11
        have q0 := nb11.c 0 _ rfl
        have q1 := nb11.c 1 _ rfl
        clear nb11
        have hreb := Lib.hid (vrebase_same V2 i (some ⟨g10, 0, none⟩) g10 0 c10 x.S x.F w11 T11.out (by omega) (fun q => by have := q.2; omega))
        go_wp2_with fail
        refine hreb.out.mono ?_
        rintro e w12 ⟨a12, g12, c12, rfl, T12, hg12, hb12⟩
        obtain rfl := T12.ha (by omega)
        replace hg12 := (hg12 (by omega)).1
        have d12 := d11.out.bel hb12
        have hf11 := d11.out.b.l
        have hl11 := d11.out.l.l
        have z0 := d12.b.f 2
        have z1 := d12.b.f 3
        have z2 := d12.b.c 2 _ rfl
        have z3 := d12.b.c 3 _ rfl
        have hw11 := k11.out.size
        have d13 := Lib.hid (d12.setV (V2 := V2) (c := c12) T12 (by omega) (by omega))
        have k13 := Lib.hid (((k11.out.trans (KF.of hb12)).set (p := ⟨f, 2, none⟩) (.inl (by simp)) (.int .i64 V2)).set (p := ⟨f, 3, none⟩) (.inl (by simp)) (.slice (some ⟨g12, 0, none⟩) i c12))
        clear d11 T11 k11 hreb d12 hb12 T12 q0 q1 hg10 hf11 hl11
        go_upto_region 15 with fail
        generalize ((w12.setCell ⟨f, 2, none⟩ (.int .i64 V2)).setCell ⟨f, 3, none⟩ (.slice (some ⟨g12, 0, none⟩) i c12)) = w13 at d13 k13 ⊢
        clear z0 z1 z2 z3
        have z0 := d13.out.b.c 0 _ rfl
        have z1 := (d13.out.flow hkN).2.2
        have z2 := d13.out.l.f (kn * 3 + 2)
        have d14 := Lib.hid (d13.out.setServed hkN true)
        have k14 := Lib.hid (k13.out.set (p := ⟨lb, kn * 3 + 2, none⟩) (.inl (by simp)) (.bool true))
        clear d13 k13
        go_wp2_with fail
        refine bodyPost_ret (v := .tuple #[.int .i64 kn, .bool true]) (by simp [results, Try.results34, go_sem]) rfl ?_
        rw [e2.out]
        exact ⟨g12, c12, rfl, by show FD _ f lb cl g12 c12 i ALL (V1 + h kn * 720720) W x.Z (upb x.D kn true) x.S x.F; rw [hV2]; exact d14.out, .inr (by omega), k14.out⟩
end Go.Proofs.Ytkefkophlhcbiaa
