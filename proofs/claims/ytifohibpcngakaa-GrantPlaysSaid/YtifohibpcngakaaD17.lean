/- What GrantPlays says: the walk. -/
import Derived.Test.YtifohibpcngakaaD16b
namespace Go.Proofs.Ytifohibpcngakaa
open Go.ChangeShapes Go.WideShapes Go.ChangeAt Go.RowKit Go.Maps Go.Deep
set_option linter.unusedVariables false
set_option linter.unusedSimpArgs false
open BigFrame Bs Gr

set_option maxRecDepth 100000 in
set_option maxHeartbeats 40000000 in
theorem grantPlays_some (w : World) (ti rho now : Int) (p1 : Option Addr) (N cp : Nat) (hN : N ≤ 100) (ht : 1 ≤ ti ∧ ti ≤ 1099511627776) (hr : 0 ≤ rho ∧ rho ≤ 200) (hnw : 0 ≤ now ∧ now ≤ 9223372036854775807) (hf : Acts w p1 N) :
    Calls Try.prog 4 #[.int .i64 ti, .int .i64 rho, .int .i64 now, .slice p1 N cp] w fun e w' => e = .returned (.bool true) ∧ Below w.heap.size w w' := by
  have hNi : (N : Int) ≤ 100 := by omega
  obtain ⟨OV, hOV⟩ : ∃ OV, Ck.over ti rho = OV := ⟨_, rfl⟩
  have hov1 := over_any ti rho ht hr
  have hov2 : ∀ u, Calls Try.prog 27 #[.int .i64 ti, .int .i64 rho] u fun e w' => e = .returned (.int .i64 OV) ∧ u = w' := fun u => by rw [← hOV]; exact rover_c ti rho u
  rw [hOV] at hov1
  have hn1 := Lib.hid (dnew_ok (mm w.heap.size []) w ti rho now OV (mm_nil (Nat.le_refl _)) ht hr hnw.1 hov1)
  replace hov2 := Lib.hid hov2
  replace hf := Lib.hid hf
  replace ht := Lib.hid ht
  replace hr := Lib.hid hr
  replace hnw := Lib.hid hnw
  clear hOV hov1
  go_enter Try.func4, Try.ntmps4
  go_wp2_with fail
  refine hn1.out.mono ?_
  rintro e w1 ⟨d, bm, rfl, hD, hd1, hd2, hb1⟩
  have hn2 := Lib.hid (rdnew_ok (mm w.heap.size []) w1 ti rho now hD.mw ht.out hr.out hnw.out.1)
  have hdl := Lib.hid (And.intro hD.b.l hD.t.lt)
  replace hD := Lib.hid hD
  replace hb1 := Lib.hid hb1
  clear hn1 hd1 hd2
  go_wp2_with fail
  refine hn2.out.mono ?_
  rintro e w2 ⟨r, rfl, hR, hr1, hb2⟩
  have hP0 : PlX [] w w.heap.size d bm r ti rho OV now 0 w2 := by
    have q := hdl.out
    exact ⟨0, now, [], _, _, ⟨(Kp.of hb1.out).trans (Kp.of hb2), hD.out.bel hb2, hR, ⟨by omega, by omega⟩, fun q hq => (nomatch hq), fun q hq => (nomatch hq), by simp, hnw.out, fun k c hk => by cases hk⟩, Nat.le_refl _, Nat.le_refl _⟩
  obtain ⟨B, hB⟩ : ∃ B, RowKit.Hid (w.heap.size = B) := ⟨_, Lib.hid rfl⟩
  rw [hB.out] at hP0
  replace hP0 := Lib.hid hP0
  clear hn2 hR hr1 hb2 hD hb1 hdl
  go_wp2_with fail
  go_loopw [14, 15, 17, 71] (fun _ _ _ s71 wr => ∃ i : Nat, s71 = .int .i64 (i : Nat) ∧ i ≤ N ∧ RowKit.Hid (PlX [] w B d bm r ti rho OV now i wr)) (fun _ _ _ s71 _ => N - (intOf s71).toNat)
  case atStart => exact ⟨0, rfl, Nat.zero_le _, Lib.hid hP0.out⟩
  case round =>
    obtain ⟨i, rfl, hi, hP⟩ := hrel
    have ii : (i : Int) ≤ (N : Int) := by omega
    have hbl : Below w.heap.size w wr := hP.out.kp0.bel (fun j hj => .inl (by rw [← hB.out]; exact hj)) (Nat.le_refl _)
    by_cases hlt : i < N
    · have ii1 : (i : Int) < (N : Int) := by omega
      obtain ⟨b, off, rfl, hb, hc⟩ := hf.out (by omega)
      obtain ⟨f, a, n, c, g, hA⟩ := hc i hlt
      obtain ⟨x0, x1, x2, x3, hwf, hnc, hcm, hg⟩ := hA
      obtain ⟨k0, hk0⟩ : ∃ x, f 0 = x := ⟨_, rfl⟩
      obtain ⟨k1, hk1⟩ : ∃ x, f 1 = x := ⟨_, rfl⟩
      obtain ⟨k2, hk2⟩ : ∃ x, f 2 = x := ⟨_, rfl⟩
      have wf1 := bounds_i64 (hwf 1)
      have wf2 := bounds_i64 (hwf 2)
      rw [hk0] at x0
      rw [hk1] at x1 wf1
      rw [hk2] at x2 wf2
      replace x0 := (hbl.cell (p := ⟨b, off + i * 4, none⟩) hb).trans x0
      replace x1 := (hbl.cell (p := ⟨b, off + i * 4 + 1, none⟩) hb).trans x1
      replace x2 := (hbl.cell (p := ⟨b, off + i * 4 + 2, none⟩) hb).trans x2
      replace x3 := (hbl.cell (p := ⟨b, off + i * 4 + 3, none⟩) hb).trans x3
      have hbB : w.heap.size ≤ wr.heap.size := hbl.size
      have hP1 := Lib.hid (hP.out.add (o := .cells #[.int .i64 k0, .int .i64 k1, .int .i64 k2, .slice a n c] 46))
      have xb_ := Lib.hid (blk_new wr [.int .i64 k0, .int .i64 k1, .int .i64 k2, .slice a n c] 46)
      have hba := Lib.hid (bNext hbl ((Below.refl wr.heap.size wr).alloc (Nat.le_refl _) (.cells #[.int .i64 k0, .int .i64 k1, .int .i64 k2, .slice a n c] 46)) (Nat.le_refl _))
      obtain ⟨wf3, wf4⟩ := wf1
      obtain ⟨wf5, wf6⟩ := wf2
      replace hg := Lib.hid hg
      replace hnc := Lib.hid hnc
      replace hcm := Lib.hid hcm
      clear hk0 hk1 hk2 hwf hc hP hbl hP0
      go_upto_region 12 with fail
      clear x0 x1 x2 x3
      generalize wr.alloc (.cells #[.int .i64 k0, .int .i64 k1, .int .i64 k2, .slice a n c] 46) = W1 at hP1 xb_ hba ⊢
      generalize wr.heap.size = xb at hP1 xb_ hbB ⊢
      have y0 := xb_.out.c 0 _ rfl
      have y1 := xb_.out.c 1 _ rfl
      have y2 := xb_.out.c 2 _ rfl
      have y3 := xb_.out.c 3 _ rfl
      have hend : ∀ u Y, PlX Y w B d bm r ti rho OV now (i + 1) u → RowKit.Hid (PlX [] w B d bm r ti rho OV now (i + 1) u) := fun u Y h => Lib.hid (h.less (by simp))
      replace hend := Lib.hid hend
      by_cases hbig : 200 < n
      · have hbz : (200 : Int) < (n : Int) := by omega
        have hfin := Lib.hid (hend.out _ _ (hP1.out.mono (Nat.le_succ i)))
        go_wp2_with fail
        go_roundw
        case rel => exact ⟨i + 1, by go_num, hlt, hfin.out⟩
        case measure => simp [intOf]; omega
      · have hbz : (n : Int) ≤ 200 := by omega
        have hIn : ∀ u, Kp (mm B [xb]) W1 u → Ints (mm B [xb]) u a n g := fun u ku => by
          refine Ints.kp (fun hp => ?_) ku
          obtain ⟨b2, o2, e, hb2, hc2⟩ := hg.out hp
          exact ⟨b2, o2, e, .inl (by rw [← hB.out]; exact hb2), Nat.lt_of_lt_of_le hb2 hba.out.size, fun j hj => ⟨(hba.out.cell (p := ⟨b2, o2 + j, none⟩) hb2).trans (hc2 j hj).1, (hc2 j hj).2⟩⟩
        replace hIn := Lib.hid hIn
        have xd := xb_.out.drew
        have kd : Kp (mm B [xb]) W1 W1.drew := (Kp.refl _ _).drew
        by_cases h0 : k0 = 0
        · subst h0
          have hmb := Lib.hid (made_both (hP1.out.bel ((Below.refl _ _).drew)) (by omega) hnw.out.1 k1 k2 wf4 wf6)
          go_upto_region 23 with fail
          refine wp_region_noPanic ?_
          refine Stg.wp_region_L [] (fun _ v => (v.cell? ⟨xb, 0, none⟩ = some (.int .i64 0) ∧ v.cell? ⟨xb, 1, none⟩ = some (.int .i64 k1) ∧ v.cell? ⟨xb, 2, none⟩ = some (.int .i64 k2) ∧ v.cell? ⟨xb, 3, none⟩ = some (.slice a n c)) ∧ True) (by kernel_rfl) (⟨⟨xd.c 0 _ rfl, xd.c 1 _ rfl, xd.c 2 _ rfl, xd.c 3 _ rfl⟩, trivial⟩) (fun hHeld => ?_)
          refine Stg.wpAnyL_start (n' := 13) (l' := #[false, false, false, false, false, false, false, false, false, false, false, false, false]) (by kernel_rfl) (by kernel_rfl) ?_
          refine Stg.wpAnyL_free (i := 0) (v := ?_) 0 rfl (by kernel_rfl) (by kernel_rfl) (by kernel_rfl) (by kernel_rfl) (by kernel_rfl) (fun _ _ _ h => h) (Or.inl ⟨by kernel_rfl, ?_⟩) (by assumption) ?_
          rotate_left
          · intro u _
            try simp only [List.getElem_toArray, List.getElem_cons_succ, List.getElem_cons_zero]
            go_simp
            try with_reducible rfl
          try simp only [Act.put, List.setIfInBounds_toArray, List.set_cons_zero, List.set_cons_succ]
          refine Stg.wpAnyL_free (i := 1) (v := ?_) 0 rfl (by kernel_rfl) (by kernel_rfl) (by kernel_rfl) (by kernel_rfl) (by kernel_rfl) (fun _ _ _ h => h) (Or.inl ⟨by kernel_rfl, ?_⟩) (by assumption) ?_
          rotate_left
          · intro u _
            try simp only [List.getElem_toArray, List.getElem_cons_succ, List.getElem_cons_zero]
            go_simp
            try with_reducible rfl
          try simp only [Act.put, List.setIfInBounds_toArray, List.set_cons_zero, List.set_cons_succ]
          refine Stg.wpAnyL_take (i := 2) (v := ?_) [5, 11, 12] 0 rfl (by kernel_rfl) (by kernel_rfl) (by kernel_rfl) (by kernel_rfl) (by kernel_rfl) (fun _ _ _ h => h) (Or.inl ⟨by kernel_rfl, ?_⟩) (by assumption) ?_
          rotate_left
          · intro u hSu
            obtain ⟨⟨z0, z1, z2, z3⟩, _⟩ := hSu
            skip
            try simp only [List.getElem_toArray, List.getElem_cons_succ, List.getElem_cons_zero]
            go_simp
            try with_reducible rfl
          try simp only [Act.put, List.setIfInBounds_toArray, List.set_cons_zero, List.set_cons_succ]
          refine Stg.wpAnyL_start (n' := 10) (l' := #[true, true, true, false, false, false, false, false, false, false, false, false, false]) (by kernel_rfl) (by kernel_rfl) ?_
          refine Stg.wpAnyL_free (i := 3) (v := ?_) 0 rfl (by kernel_rfl) (by kernel_rfl) (by kernel_rfl) (by kernel_rfl) (by kernel_rfl) (fun _ _ _ h => h) (Or.inl ⟨by kernel_rfl, ?_⟩) (by assumption) ?_
          rotate_left
          · intro u _
            try simp only [List.getElem_toArray, List.getElem_cons_succ, List.getElem_cons_zero]
            go_simp
            try with_reducible rfl
          try simp only [Act.put, List.setIfInBounds_toArray, List.set_cons_zero, List.set_cons_succ]
          refine Stg.wpAnyL_take (i := 4) (v := ?_) [5, 11, 12] 0 rfl (by kernel_rfl) (by kernel_rfl) (by kernel_rfl) (by kernel_rfl) (by kernel_rfl) (fun _ _ _ h => h) (Or.inl ⟨by kernel_rfl, ?_⟩) (by assumption) ?_
          rotate_left
          · intro u hSu
            obtain ⟨⟨z0, z1, z2, z3⟩, _⟩ := hSu
            skip
            try simp only [List.getElem_toArray, List.getElem_cons_succ, List.getElem_cons_zero]
            go_simp
            try with_reducible rfl
          try simp only [Act.put, List.setIfInBounds_toArray, List.set_cons_zero, List.set_cons_succ]
          refine Stg.wpAnyL_free (i := 6) (v := ?_) 0 rfl (by kernel_rfl) (by kernel_rfl) (by kernel_rfl) (by kernel_rfl) (by kernel_rfl) (fun _ _ _ h => h) (Or.inl ⟨by kernel_rfl, ?_⟩) (by assumption) ?_
          rotate_left
          · intro u _
            try simp only [List.getElem_toArray, List.getElem_cons_succ, List.getElem_cons_zero]
            go_simp
            try with_reducible rfl
          try simp only [Act.put, List.setIfInBounds_toArray, List.set_cons_zero, List.set_cons_succ]
          refine Stg.wpAnyL_start (n' := 7) (l' := #[true, true, true, true, true, false, true, false, false, false, false, false, false]) (by kernel_rfl) (by kernel_rfl) ?_
          refine Stg.wpAnyL_free (i := 7) (v := ?_) 0 rfl (by kernel_rfl) (by kernel_rfl) (by kernel_rfl) (by kernel_rfl) (by kernel_rfl) (fun _ _ _ h => h) (Or.inl ⟨by kernel_rfl, ?_⟩) (by assumption) ?_
          rotate_left
          · intro u _
            try simp only [List.getElem_toArray, List.getElem_cons_succ, List.getElem_cons_zero]
            go_simp
            try with_reducible rfl
          try simp only [Act.put, List.setIfInBounds_toArray, List.set_cons_zero, List.set_cons_succ]
          refine Stg.wpAnyL_take (i := 8) (v := ?_) [11, 12] 0 rfl (by kernel_rfl) (by kernel_rfl) (by kernel_rfl) (by kernel_rfl) (by kernel_rfl) (fun _ _ _ h => h) (Or.inl ⟨by kernel_rfl, ?_⟩) (by assumption) ?_
          rotate_left
          · intro u hSu
            obtain ⟨⟨z0, z1, z2, z3⟩, _⟩ := hSu
            skip
            try simp only [List.getElem_toArray, List.getElem_cons_succ, List.getElem_cons_zero]
            go_simp
            try with_reducible rfl
          try simp only [Act.put, List.setIfInBounds_toArray, List.set_cons_zero, List.set_cons_succ]
          refine Stg.wpAnyL_free (i := 9) (v := ?_) 0 rfl (by kernel_rfl) (by kernel_rfl) (by kernel_rfl) (by kernel_rfl) (by kernel_rfl) (fun _ _ _ h => h) (Or.inl ⟨by kernel_rfl, ?_⟩) (by assumption) ?_
          rotate_left
          · intro u _
            try simp only [List.getElem_toArray, List.getElem_cons_succ, List.getElem_cons_zero]
            go_simp
            try with_reducible rfl
          try simp only [Act.put, List.setIfInBounds_toArray, List.set_cons_zero, List.set_cons_succ]
          refine Stg.wpAnyL_start (n' := 4) (l' := #[true, true, true, true, true, false, true, true, true, true, false, false, false]) (by kernel_rfl) (by kernel_rfl) ?_
          refine Stg.wpAnyL_take (i := 10) (v := ?_) [11, 12] 0 rfl (by kernel_rfl) (by kernel_rfl) (by kernel_rfl) (by kernel_rfl) (by kernel_rfl) (fun _ _ _ h => h) (Or.inl ⟨by kernel_rfl, ?_⟩) (by assumption) ?_
          rotate_left
          · intro u hSu
            obtain ⟨⟨z0, z1, z2, z3⟩, _⟩ := hSu
            skip
            try simp only [List.getElem_toArray, List.getElem_cons_succ, List.getElem_cons_zero]
            go_simp
            try with_reducible rfl
          try simp only [Act.put, List.setIfInBounds_toArray, List.set_cons_zero, List.set_cons_succ]
          refine Stg.wpAnyL_one (i := 5) 0 rfl (by kernel_rfl) (by kernel_rfl) (fun K hK => ?_)
          try simp only [List.getElem_toArray, List.getElem_cons_succ, List.getElem_cons_zero]
          go_simp
          refine hmb.out.mono ?_
          rintro e u1 ⟨z, rfl, kk1, hcall⟩
          have xd1 := kk1.blk xd (.inr (by simp))
          replace hcall := Lib.hid hcall
          refine hK.out _ _ ?_ (fun hHeld1 => ?_)
          · exact ⟨⟨xd1.c 0 _ rfl, xd1.c 1 _ rfl, xd1.c 2 _ rfl, xd1.c 3 _ rfl⟩, trivial⟩
          clear hK K
          try simp only [Act.put, List.setIfInBounds_toArray, List.set_cons_zero, List.set_cons_succ]
          refine Stg.wpAnyL_one (i := 11) 0 rfl (by kernel_rfl) (by kernel_rfl) (fun K hK => ?_)
          try simp only [List.getElem_toArray, List.getElem_cons_succ, List.getElem_cons_zero]
          go_simp
          refine hcall.out.mono ?_
          rintro e u2 ⟨rfl, kk2, hP2⟩
          have xd2 := kk2.blk xd1 (.inr (by simp))
          refine hK.out _ _ ?_ (fun hHeld2 => ?_)
          · exact ⟨⟨xd2.c 0 _ rfl, xd2.c 1 _ rfl, xd2.c 2 _ rfl, xd2.c 3 _ rfl⟩, trivial⟩
          clear hK K
          try simp only [Act.put, List.setIfInBounds_toArray, List.set_cons_zero, List.set_cons_succ]
          refine Stg.wpAnyL_start (n' := 1) (l' := #[true, true, true, true, true, true, true, true, true, true, true, true, false]) (by kernel_rfl) (by kernel_rfl) ?_
          refine Stg.wpAnyL_free (i := 12) (v := ?_) 0 rfl (by kernel_rfl) (by kernel_rfl) (by kernel_rfl) (by kernel_rfl) (by kernel_rfl) (fun _ _ _ h => h) (Or.inl ⟨by kernel_rfl, ?_⟩) (by assumption) ?_
          rotate_left
          · intro u _
            try simp only [List.getElem_toArray, List.getElem_cons_succ, List.getElem_cons_zero]
            go_simp
            try with_reducible rfl
          try simp only [Act.put, List.setIfInBounds_toArray, List.set_cons_zero, List.set_cons_succ]
          refine Stg.wpAnyL_done (by kernel_rfl) ?_ _
          try simp only [List.getElem_toArray, List.getElem_cons_succ, List.getElem_cons_zero]
          try simp only [Act.put, List.setIfInBounds_toArray, List.set_cons_zero, List.set_cons_succ]
          refine NoPanic.normal ?_
          have hfin := Lib.hid (hend.out _ _ hP2)
          clear hHeld hHeld1 hHeld2 xd xd1 xd2 kd kk1 kk2 hcall hmb hP2 y0 y1 y2 y3
          go_wp2_with fail
          go_roundw
          case rel => exact ⟨i + 1, by go_num, hlt, hfin.out⟩
          case measure => simp [intOf]; omega
        · have h0b : (k0 == 0) = false := by simpa using h0
          by_cases h1 : k0 = 1
          · subst h1
            have hgb := Lib.hid (gone_both (hP1.out.bel ((Below.refl _ _).drew)) (by omega) a n c g (by omega) (hIn.out _ kd))
            replace h0 := Lib.hid h0
            go_upto_region 26 with fail
            refine wp_region_noPanic ?_
            refine Stg.wp_region_L [] (fun _ v => (v.cell? ⟨xb, 0, none⟩ = some (.int .i64 1) ∧ v.cell? ⟨xb, 1, none⟩ = some (.int .i64 k1) ∧ v.cell? ⟨xb, 2, none⟩ = some (.int .i64 k2) ∧ v.cell? ⟨xb, 3, none⟩ = some (.slice a n c)) ∧ True) (by kernel_rfl) (⟨⟨xd.c 0 _ rfl, xd.c 1 _ rfl, xd.c 2 _ rfl, xd.c 3 _ rfl⟩, trivial⟩) (fun hHeld => ?_)
            refine Stg.wpAnyL_start (n' := 9) (l' := #[false, false, false, false, false, false, false, false, false]) (by kernel_rfl) (by kernel_rfl) ?_
            refine Stg.wpAnyL_free (i := 0) (v := ?_) 0 rfl (by kernel_rfl) (by kernel_rfl) (by kernel_rfl) (by kernel_rfl) (by kernel_rfl) (fun _ _ _ h => h) (Or.inl ⟨by kernel_rfl, ?_⟩) (by assumption) ?_
            rotate_left
            · intro u _
              try simp only [List.getElem_toArray, List.getElem_cons_succ, List.getElem_cons_zero]
              go_simp
              try with_reducible rfl
            try simp only [Act.put, List.setIfInBounds_toArray, List.set_cons_zero, List.set_cons_succ]
            refine Stg.wpAnyL_free (i := 1) (v := ?_) 0 rfl (by kernel_rfl) (by kernel_rfl) (by kernel_rfl) (by kernel_rfl) (by kernel_rfl) (fun _ _ _ h => h) (Or.inl ⟨by kernel_rfl, ?_⟩) (by assumption) ?_
            rotate_left
            · intro u _
              try simp only [List.getElem_toArray, List.getElem_cons_succ, List.getElem_cons_zero]
              go_simp
              try with_reducible rfl
            try simp only [Act.put, List.setIfInBounds_toArray, List.set_cons_zero, List.set_cons_succ]
            refine Stg.wpAnyL_take (i := 2) (v := ?_) [3, 7, 8] 0 rfl (by kernel_rfl) (by kernel_rfl) (by kernel_rfl) (by kernel_rfl) (by kernel_rfl) (fun _ _ _ h => h) (Or.inl ⟨by kernel_rfl, ?_⟩) (by assumption) ?_
            rotate_left
            · intro u hSu
              obtain ⟨⟨z0, z1, z2, z3⟩, _⟩ := hSu
              skip
              try simp only [List.getElem_toArray, List.getElem_cons_succ, List.getElem_cons_zero]
              go_simp
              try with_reducible rfl
            try simp only [Act.put, List.setIfInBounds_toArray, List.set_cons_zero, List.set_cons_succ]
            refine Stg.wpAnyL_start (n' := 6) (l' := #[true, true, true, false, false, false, false, false, false]) (by kernel_rfl) (by kernel_rfl) ?_
            refine Stg.wpAnyL_free (i := 4) (v := ?_) 0 rfl (by kernel_rfl) (by kernel_rfl) (by kernel_rfl) (by kernel_rfl) (by kernel_rfl) (fun _ _ _ h => h) (Or.inl ⟨by kernel_rfl, ?_⟩) (by assumption) ?_
            rotate_left
            · intro u _
              try simp only [List.getElem_toArray, List.getElem_cons_succ, List.getElem_cons_zero]
              go_simp
              try with_reducible rfl
            try simp only [Act.put, List.setIfInBounds_toArray, List.set_cons_zero, List.set_cons_succ]
            refine Stg.wpAnyL_free (i := 5) (v := ?_) 0 rfl (by kernel_rfl) (by kernel_rfl) (by kernel_rfl) (by kernel_rfl) (by kernel_rfl) (fun _ _ _ h => h) (Or.inl ⟨by kernel_rfl, ?_⟩) (by assumption) ?_
            rotate_left
            · intro u _
              try simp only [List.getElem_toArray, List.getElem_cons_succ, List.getElem_cons_zero]
              go_simp
              try with_reducible rfl
            try simp only [Act.put, List.setIfInBounds_toArray, List.set_cons_zero, List.set_cons_succ]
            refine Stg.wpAnyL_take (i := 6) (v := ?_) [7, 8] 0 rfl (by kernel_rfl) (by kernel_rfl) (by kernel_rfl) (by kernel_rfl) (by kernel_rfl) (fun _ _ _ h => h) (Or.inl ⟨by kernel_rfl, ?_⟩) (by assumption) ?_
            rotate_left
            · intro u hSu
              obtain ⟨⟨z0, z1, z2, z3⟩, _⟩ := hSu
              skip
              try simp only [List.getElem_toArray, List.getElem_cons_succ, List.getElem_cons_zero]
              go_simp
              try with_reducible rfl
            try simp only [Act.put, List.setIfInBounds_toArray, List.set_cons_zero, List.set_cons_succ]
            refine Stg.wpAnyL_start (n' := 3) (l' := #[true, true, true, false, true, true, true, false, false]) (by kernel_rfl) (by kernel_rfl) ?_
            refine Stg.wpAnyL_one (i := 3) 0 rfl (by kernel_rfl) (by kernel_rfl) (fun K hK => ?_)
            try simp only [List.getElem_toArray, List.getElem_cons_succ, List.getElem_cons_zero]
            go_simp
            refine hgb.out.mono ?_
            rintro e u1 ⟨rfl, kk1, hcall⟩
            have xd1 := kk1.blk xd (.inr (by simp))
            replace hcall := Lib.hid hcall
            refine hK.out _ _ ?_ (fun hHeld1 => ?_)
            · exact ⟨⟨xd1.c 0 _ rfl, xd1.c 1 _ rfl, xd1.c 2 _ rfl, xd1.c 3 _ rfl⟩, trivial⟩
            clear hK K
            try simp only [Act.put, List.setIfInBounds_toArray, List.set_cons_zero, List.set_cons_succ]
            refine Stg.wpAnyL_one (i := 7) 0 rfl (by kernel_rfl) (by kernel_rfl) (fun K hK => ?_)
            try simp only [List.getElem_toArray, List.getElem_cons_succ, List.getElem_cons_zero]
            go_simp
            refine hcall.out.mono ?_
            rintro e u2 ⟨rfl, kk2, hP2⟩
            have xd2 := kk2.blk xd1 (.inr (by simp))
            refine hK.out _ _ ?_ (fun hHeld2 => ?_)
            · exact ⟨⟨xd2.c 0 _ rfl, xd2.c 1 _ rfl, xd2.c 2 _ rfl, xd2.c 3 _ rfl⟩, trivial⟩
            clear hK K
            try simp only [Act.put, List.setIfInBounds_toArray, List.set_cons_zero, List.set_cons_succ]
            refine Stg.wpAnyL_free (i := 8) (v := ?_) 0 rfl (by kernel_rfl) (by kernel_rfl) (by kernel_rfl) (by kernel_rfl) (by kernel_rfl) (fun _ _ _ h => h) (Or.inl ⟨by kernel_rfl, ?_⟩) (by assumption) ?_
            rotate_left
            · intro u _
              try simp only [List.getElem_toArray, List.getElem_cons_succ, List.getElem_cons_zero]
              go_simp
              try with_reducible rfl
            try simp only [Act.put, List.setIfInBounds_toArray, List.set_cons_zero, List.set_cons_succ]
            refine Stg.wpAnyL_done (by kernel_rfl) ?_ _
            try simp only [List.getElem_toArray, List.getElem_cons_succ, List.getElem_cons_zero]
            try simp only [Act.put, List.setIfInBounds_toArray, List.set_cons_zero, List.set_cons_succ]
            refine NoPanic.normal ?_
            have hfin := Lib.hid (hend.out _ _ (hP2.mono (Nat.le_succ i)))
            clear hHeld hHeld1 hHeld2 xd xd1 xd2 kd kk1 kk2 hcall hgb hP2 y0 y1 y2 y3
            go_wp2_with fail
            go_roundw
            case rel => exact ⟨i + 1, by go_num, hlt, hfin.out⟩
            case measure => simp [intOf]; omega
          · have h1b : (k0 == 1) = false := by simpa using h1
            replace h0 := Lib.hid h0
            replace h1 := Lib.hid h1
            have hb12 := (Below.refl W1.heap.size W1).alloc (Nat.le_refl _) (.cells #[.int .i64 0, .int .i64 0, .int .i64 0, .slice none 0 0, .slice none 0 0, .slice none 0 0, .slice none 0 0] 44)
            have sb_ := blk_new W1 [.int .i64 0, .int .i64 0, .int .i64 0, .slice none 0 0, .slice none 0 0, .slice none 0 0, .slice none 0 0] 44
            have hb12h := Lib.hid hb12
            replace sb_ := Lib.hid sb_
            have hW2 := Lib.hid (show (W1.alloc (.cells #[.int .i64 0, .int .i64 0, .int .i64 0, .slice none 0 0, .slice none 0 0, .slice none 0 0, .slice none 0 0] 44)).heap.size = W1.heap.size + 1 by simp)
            clear hb12 xd kd
            go_upto_region 15 with fail
            generalize W1.alloc (.cells #[.int .i64 0, .int .i64 0, .int .i64 0, .slice none 0 0, .slice none 0 0, .slice none 0 0, .slice none 0 0] 44) = W2 at hb12h sb_ hW2 ⊢
            obtain ⟨sb, hsb⟩ : ∃ sb, RowKit.Hid (W1.heap.size = sb) := ⟨_, Lib.hid rfl⟩
            rw [hsb.out] at sb_ hW2 ⊢
            have y3 := (xb_.out.bel hb12h.out).c 3 _ rfl
            clear y0 y1 y2
            go_wp2_with fail
            go_loopw [17, 84] (fun _ s84 wx => ∃ (j : Nat) (b1 : Option Addr) (k3 : Nat), s84 = .int .i64 (j : Nat) ∧ j ≤ n ∧ RowKit.Hid (Blk wx sb [.int .i64 0, .int .i64 0, .int .i64 0, .slice none 0 0, .slice b1 j k3, .slice none 0 0, .slice none 0 0]) ∧ RowKit.Hid (OwnL wx W2.heap.size (.slice b1 j k3) ((List.range j).map g)) ∧ RowKit.Hid (Below W1.heap.size W1 wx)) (fun _ s84 _ => n - (intOf s84).toNat)
            case atStart => exact ⟨0, none, 0, rfl, Nat.zero_le _, Lib.hid sb_.out, Lib.hid ⟨rfl, .inl ⟨rfl, rfl⟩⟩, Lib.hid hb12h.out⟩
            case round =>
              obtain ⟨j, b1, k3, rfl, hj, hS, hO, hB2⟩ := hrel
              have jj : (j : Int) ≤ (n : Int) := by omega
              have s0 := hS.out.c 0 _ rfl
              have s1 := hS.out.c 1 _ rfl
              have s2 := hS.out.c 2 _ rfl
              have s3 := hS.out.c 3 _ rfl
              have s4 := hS.out.c 4 _ rfl
              have s5 := hS.out.c 5 _ rfl
              have s6 := hS.out.c 6 _ rfl
              obtain ⟨wz, rfl⟩ : ∃ wz : World, wz = wr := ⟨_, rfl⟩
              by_cases hjl : j < n
              · have jj1 : (j : Int) < (n : Int) := by omega
                obtain ⟨b2, o2, rfl, hb2, hc2⟩ := hg.out (by omega)
                have hb3 : Below w.heap.size w wz := hba.out.trans (hB2.out.mono hba.out.size)
                have v0 := (hb3.cell (p := ⟨b2, o2 + j, none⟩) hb2).trans (hc2 j hjl).1
                obtain ⟨y, hy⟩ : ∃ y, g j = y := ⟨_, rfl⟩
                rw [hy] at v0
                have hl7 : ((List.range j).map g).length ≤ 1000000 := by simp; omega
                have hsbl := hS.out.l
                have hW2o := hW2.out
                have hsnoc : (List.range (j + 1)).map g = (List.range j).map g ++ [y] := by rw [List.range_succ, List.map_append]; simp [hy]
                have hO2 := Lib.hid (hO.out.bel ((Below.refl wz.heap.size wz).alloc (Nat.le_refl _) (.cells #[.int .i64 y, .int .i64 0, .int .i64 0, .int .i64 0, .int .i64 0, .int .i64 0, .int .i64 0] 38)))
                have hbk := Lib.hid (blk_new wz (leC y) 38)
                have hszA := Lib.hid (show W2.heap.size ≤ (wz.alloc (.cells #[.int .i64 y, .int .i64 0, .int .i64 0, .int .i64 0, .int .i64 0, .int .i64 0, .int .i64 0] 38)).heap.size by simp; omega)
                replace hl7 := Lib.hid hl7
                replace hsnoc := Lib.hid hsnoc
                clear hc2 hb3 hy hsbl s0 s1 s2 s3 s5 s6 hW2o
                go_upto_region 18 with fail
                -- STOP0
                go_upto_region 19 with (at_builtin; refine wpList_app7 rfl _ _ rfl W2.heap.size (.slice b1 j k3) ((List.range j).map g) (by rfl) hO2.out hszA.out (by rfl) y hbk.out hl7.out ?_; intro a5 n5 c5 w5 hown5 hn5 hgrow5 hor5; obtain rfl : n5 = j + 1 := (by simpa using hn5); have hst := Lib.hid (inner_step hS.out hO.out hB2.out hsb.out hW2.out hown5 hgrow5 hsnoc.out); have s5_ := hst.out.1.c 4 _ rfl; have f5_ := hst.out.1.f 4; clear hown5 hgrow5 hor5 hn5 s4)
                -- STOP4
                go_wp2_with fail
                go_roundw
                case rel => exact ⟨j + 1, a5, c5, by go_num, hjl, Lib.hid hst.out.2.1, Lib.hid hst.out.2.2.1, Lib.hid hst.out.2.2.2⟩
                case measure => simp [intOf]; omega
              · skip
                -- STOP1
                have jn : (n : Int) ≤ (j : Int) := by omega
                have hen : j = n := by omega
                obtain ⟨Y, hYx, hYs, hYb, hYn⟩ := grow_set (xb := xb) hO.out hsb.out hW2.out hS.out.l
                have hls : Lss (mm B Y) wz b1 j g := lss_of hO.out (fun i hi => by
                  obtain ⟨b2, o2, _, _, hc2⟩ := hg.out (by omega)
                  exact (hc2 i (by omega)).2) hYb
                have hPY := hP1.out.grow hB2.out hYn
                have hob := Lib.hid (over_both (hPY.bel ((Below.refl _ _).drew)) (by omega) hnw.out hov2.out b1 j k3 g k2 (by omega) wf6 (hls.kp (Kp.refl _ _).drew))
                have sd := hS.out.drew
                have xd := (xb_.out.bel hB2.out).drew
                replace hYx := Lib.hid hYx
                replace hYs := Lib.hid hYs
                unfold stV at hob
                clear hen hYb hYn hls hPY s0 s1 s2 s3 s4 s5 s6
                -- STOP2
                go_upto_region 20 with fail
                -- STOP3
                refine wp_region_noPanic ?_
                refine Stg.wp_region_L [] (fun _ v => ((v.cell? ⟨sb, 0, none⟩ = some (.int .i64 0) ∧ v.cell? ⟨sb, 1, none⟩ = some (.int .i64 0) ∧ v.cell? ⟨sb, 2, none⟩ = some (.int .i64 0) ∧ v.cell? ⟨sb, 3, none⟩ = some (.slice none 0 0) ∧ v.cell? ⟨sb, 4, none⟩ = some (.slice b1 j k3) ∧ v.cell? ⟨sb, 5, none⟩ = some (.slice none 0 0) ∧ v.cell? ⟨sb, 6, none⟩ = some (.slice none 0 0)) ∧ v.cell? ⟨xb, 2, none⟩ = some (.int .i64 k2)) ∧ True) (by kernel_rfl) (⟨⟨⟨sd.c 0 _ rfl, sd.c 1 _ rfl, sd.c 2 _ rfl, sd.c 3 _ rfl, sd.c 4 _ rfl, sd.c 5 _ rfl, sd.c 6 _ rfl⟩, xd.c 2 _ rfl⟩, trivial⟩) (fun hHeld => ?_)
                refine Stg.wpAnyL_start (n' := 12) (l' := #[false, false, false, false, false, false, false, false, false, false, false, false]) (by kernel_rfl) (by kernel_rfl) ?_
                refine Stg.wpAnyL_free (i := 0) (v := ?_) 0 rfl (by kernel_rfl) (by kernel_rfl) (by kernel_rfl) (by kernel_rfl) (by kernel_rfl) (fun _ _ _ h => h) (Or.inl ⟨by kernel_rfl, ?_⟩) (by assumption) ?_
                rotate_left
                · intro u _
                  try simp only [List.getElem_toArray, List.getElem_cons_succ, List.getElem_cons_zero]
                  go_simp
                  try with_reducible rfl
                try simp only [Act.put, List.setIfInBounds_toArray, List.set_cons_zero, List.set_cons_succ]
                refine Stg.wpAnyL_take (i := 1) (v := ?_) [4, 9, 10, 11] 0 rfl (by kernel_rfl) (by kernel_rfl) (by kernel_rfl) (by kernel_rfl) (by kernel_rfl) (fun _ _ _ h => h) (Or.inl ⟨by kernel_rfl, ?_⟩) (by assumption) ?_
                rotate_left
                · intro u hSu
                  obtain ⟨⟨⟨z0, z1, z2, z3, z4, z5, z6⟩, z7⟩, _⟩ := hSu
                  skip
                  try simp only [List.getElem_toArray, List.getElem_cons_succ, List.getElem_cons_zero]
                  go_simp
                  try with_reducible rfl
                try simp only [Act.put, List.setIfInBounds_toArray, List.set_cons_zero, List.set_cons_succ]
                refine Stg.wpAnyL_free (i := 2) (v := ?_) 0 rfl (by kernel_rfl) (by kernel_rfl) (by kernel_rfl) (by kernel_rfl) (by kernel_rfl) (fun _ _ _ h => h) (Or.inl ⟨by kernel_rfl, ?_⟩) (by assumption) ?_
                rotate_left
                · intro u _
                  try simp only [List.getElem_toArray, List.getElem_cons_succ, List.getElem_cons_zero]
                  go_simp
                  try with_reducible rfl
                try simp only [Act.put, List.setIfInBounds_toArray, List.set_cons_zero, List.set_cons_succ]
                refine Stg.wpAnyL_start (n' := 9) (l' := #[true, true, true, false, false, false, false, false, false, false, false, false]) (by kernel_rfl) (by kernel_rfl) ?_
                refine Stg.wpAnyL_take (i := 3) (v := ?_) [4, 9, 10, 11] 0 rfl (by kernel_rfl) (by kernel_rfl) (by kernel_rfl) (by kernel_rfl) (by kernel_rfl) (fun _ _ _ h => h) (Or.inl ⟨by kernel_rfl, ?_⟩) (by assumption) ?_
                rotate_left
                · intro u hSu
                  obtain ⟨⟨⟨z0, z1, z2, z3, z4, z5, z6⟩, z7⟩, _⟩ := hSu
                  skip
                  try simp only [List.getElem_toArray, List.getElem_cons_succ, List.getElem_cons_zero]
                  go_simp
                  try with_reducible rfl
                try simp only [Act.put, List.setIfInBounds_toArray, List.set_cons_zero, List.set_cons_succ]
                refine Stg.wpAnyL_free (i := 5) (v := ?_) 0 rfl (by kernel_rfl) (by kernel_rfl) (by kernel_rfl) (by kernel_rfl) (by kernel_rfl) (fun _ _ _ h => h) (Or.inl ⟨by kernel_rfl, ?_⟩) (by assumption) ?_
                rotate_left
                · intro u _
                  try simp only [List.getElem_toArray, List.getElem_cons_succ, List.getElem_cons_zero]
                  go_simp
                  try with_reducible rfl
                try simp only [Act.put, List.setIfInBounds_toArray, List.set_cons_zero, List.set_cons_succ]
                refine Stg.wpAnyL_take (i := 6) (v := ?_) [9, 10, 11] 0 rfl (by kernel_rfl) (by kernel_rfl) (by kernel_rfl) (by kernel_rfl) (by kernel_rfl) (fun _ _ _ h => h) (Or.inl ⟨by kernel_rfl, ?_⟩) (by assumption) ?_
                rotate_left
                · intro u hSu
                  obtain ⟨⟨⟨z0, z1, z2, z3, z4, z5, z6⟩, z7⟩, _⟩ := hSu
                  skip
                  try simp only [List.getElem_toArray, List.getElem_cons_succ, List.getElem_cons_zero]
                  go_simp
                  try with_reducible rfl
                try simp only [Act.put, List.setIfInBounds_toArray, List.set_cons_zero, List.set_cons_succ]
                refine Stg.wpAnyL_start (n' := 6) (l' := #[true, true, true, true, false, true, true, false, false, false, false, false]) (by kernel_rfl) (by kernel_rfl) ?_
                refine Stg.wpAnyL_free (i := 7) (v := ?_) 0 rfl (by kernel_rfl) (by kernel_rfl) (by kernel_rfl) (by kernel_rfl) (by kernel_rfl) (fun _ _ _ h => h) (Or.inl ⟨by kernel_rfl, ?_⟩) (by assumption) ?_
                rotate_left
                · intro u _
                  try simp only [List.getElem_toArray, List.getElem_cons_succ, List.getElem_cons_zero]
                  go_simp
                  try with_reducible rfl
                try simp only [Act.put, List.setIfInBounds_toArray, List.set_cons_zero, List.set_cons_succ]
                refine Stg.wpAnyL_take (i := 8) (v := ?_) [9, 10, 11] 0 rfl (by kernel_rfl) (by kernel_rfl) (by kernel_rfl) (by kernel_rfl) (by kernel_rfl) (fun _ _ _ h => h) (Or.inl ⟨by kernel_rfl, ?_⟩) (by assumption) ?_
                rotate_left
                · intro u hSu
                  obtain ⟨⟨⟨z0, z1, z2, z3, z4, z5, z6⟩, z7⟩, _⟩ := hSu
                  skip
                  try simp only [List.getElem_toArray, List.getElem_cons_succ, List.getElem_cons_zero]
                  go_simp
                  try with_reducible rfl
                try simp only [Act.put, List.setIfInBounds_toArray, List.set_cons_zero, List.set_cons_succ]
                refine Stg.wpAnyL_one (i := 4) 0 rfl (by kernel_rfl) (by kernel_rfl) (fun K hK => ?_)
                try simp only [List.getElem_toArray, List.getElem_cons_succ, List.getElem_cons_zero]
                go_simp
                refine hob.out.mono ?_
                rintro e u1 ⟨aa1, nn1, cc1, rfl, kk1, hcall⟩
                have xd1 := kk1.blk xd (.inr hYx.out)
                have sd1 := kk1.blk sd (.inr hYs.out)
                unfold stV at hcall
                replace hcall := Lib.hid hcall
                refine hK.out _ _ ?_ (fun hHeld1 => ?_)
                · exact ⟨⟨⟨sd1.c 0 _ rfl, sd1.c 1 _ rfl, sd1.c 2 _ rfl, sd1.c 3 _ rfl, sd1.c 4 _ rfl, sd1.c 5 _ rfl, sd1.c 6 _ rfl⟩, xd1.c 2 _ rfl⟩, trivial⟩
                clear hK K
                try simp only [Act.put, List.setIfInBounds_toArray, List.set_cons_zero, List.set_cons_succ]
                refine Stg.wpAnyL_start (n' := 3) (l' := #[true, true, true, true, true, true, true, true, true, false, false, false]) (by kernel_rfl) (by kernel_rfl) ?_
                refine Stg.wpAnyL_one (i := 9) 0 rfl (by kernel_rfl) (by kernel_rfl) (fun K hK => ?_)
                try simp only [List.getElem_toArray, List.getElem_cons_succ, List.getElem_cons_zero]
                go_simp
                refine hcall.out.mono ?_
                rintro e u2 ⟨aa2, cc2, rfl, kk2, hP2, hrow⟩
                have xd2 := kk2.blk xd1 (.inr hYx.out)
                have sd2 := kk2.blk sd1 (.inr hYs.out)
                replace hrow := Lib.hid hrow
                refine hK.out _ _ ?_ (fun hHeld2 => ?_)
                · exact ⟨⟨⟨sd2.c 0 _ rfl, sd2.c 1 _ rfl, sd2.c 2 _ rfl, sd2.c 3 _ rfl, sd2.c 4 _ rfl, sd2.c 5 _ rfl, sd2.c 6 _ rfl⟩, xd2.c 2 _ rfl⟩, trivial⟩
                clear hK K
                try simp only [Act.put, List.setIfInBounds_toArray, List.set_cons_zero, List.set_cons_succ]
                refine Stg.wpAnyL_one (i := 10) 0 rfl (by kernel_rfl) (by kernel_rfl) (fun K hK => ?_)
                try simp only [List.getElem_toArray, List.getElem_cons_succ, List.getElem_cons_zero]
                go_simp
                refine hrow.out.mono ?_
                rintro e u3 ⟨rfl, kb3⟩
                have xd3 := xd2.bel kb3
                have sd3 := sd2.bel kb3
                have hP3 := hP2.bel kb3
                refine hK.out _ _ ?_ (fun hHeld3 => ?_)
                · exact ⟨⟨⟨sd3.c 0 _ rfl, sd3.c 1 _ rfl, sd3.c 2 _ rfl, sd3.c 3 _ rfl, sd3.c 4 _ rfl, sd3.c 5 _ rfl, sd3.c 6 _ rfl⟩, xd3.c 2 _ rfl⟩, trivial⟩
                clear hK K
                try simp only [Act.put, List.setIfInBounds_toArray, List.set_cons_zero, List.set_cons_succ]
                refine Stg.wpAnyL_free (i := 11) (v := ?_) 0 rfl (by kernel_rfl) (by kernel_rfl) (by kernel_rfl) (by kernel_rfl) (by kernel_rfl) (fun _ _ _ h => h) (Or.inl ⟨by kernel_rfl, ?_⟩) (by assumption) ?_
                rotate_left
                · intro u _
                  try simp only [List.getElem_toArray, List.getElem_cons_succ, List.getElem_cons_zero]
                  go_simp
                  try with_reducible rfl
                try simp only [Act.put, List.setIfInBounds_toArray, List.set_cons_zero, List.set_cons_succ]
                refine Stg.wpAnyL_done (by kernel_rfl) ?_ _
                try simp only [List.getElem_toArray, List.getElem_cons_succ, List.getElem_cons_zero]
                try simp only [Act.put, List.setIfInBounds_toArray, List.set_cons_zero, List.set_cons_succ]
                refine NoPanic.normal ?_
                have hfin := Lib.hid (hend.out _ _ (hP3.mono (Nat.le_succ i)))
                clear hHeld hHeld1 hHeld2 hHeld3 sd sd1 sd2 sd3 xd xd1 xd2 xd3 kk1 kk2 kb3 hcall hob hP2 hP3 hrow
                go_wp2_with fail
                go_roundw
                case rel => exact ⟨i + 1, by go_num, hlt, hfin.out⟩
                case measure => simp [intOf]; omega
    · obtain rfl : i = N := by omega
      replace hbl := Lib.hid hbl
      clear hP0
      go_wp2_with fail
      refine (wakes21_c _).mono ?_
      rintro e w9 ⟨rfl, hb⟩
      have hF := Lib.hid (bNext hbl.out hb (Nat.le_refl _))
      clear hb hbl
      go_wp2_with fail
      go_ret
      exact ⟨rfl, hF.out⟩
end Go.Proofs.Ytifohibpcngakaa
