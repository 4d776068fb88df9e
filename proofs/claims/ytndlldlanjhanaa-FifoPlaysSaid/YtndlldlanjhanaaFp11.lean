/- Queues of packets with what they hold: the law. -/
import Derived.Test.YtndlldlanjhanaaFp10
namespace Go.Proofs.Ytndlldlanjhanaa
open Go.ChangeShapes Go.WideShapes Go.ChangeAt Go.RowKit Go.Shelf
set_option linter.unusedVariables false
set_option linter.unusedSimpArgs false
open BigFrame By Fq Bs Fp

namespace Stg
/-- What is kept may be said more narrowly. -/
theorem wpAnyL_narrow {P : Program} {ops : Array Oper} {Q : Exit → Act → World → Prop} {md : Region.Mode} {marks : List Nat} {S S' : Nat → World → Prop} (hS : ∀ n u, S' n u → S n u) :
    ∀ (fuel : Nat) (l : Array Bool) (a : Act) (w : World), wpAnyL P md ops Q marks S' fuel l a w → wpAnyL P md ops Q marks S fuel l a w
  | 0, _, _, _, h => h
  | fuel + 1, _, _, _, h => ⟨h.1, fun i hi => wpOp_mono (fun a' w' h' => ⟨hS _ _ h'.1, wpAnyL_narrow hS fuel _ a' w' h'.2⟩) (h.2 i hi)⟩
end Stg

set_option maxRecDepth 100000 in
set_option maxHeartbeats 8000000 in
theorem fplays_bad (w : World) (room : Int) (a : Option Addr) (n c : Nat) (f : Nat → ActX) (hA : ActAt w a n f) (hnc : n ≤ c) (hc : c ≤ 9223372036854775807) (hb : room < 1 ∨ 64 < room ∨ 300 < n ∨ ∃ j, j < n ∧ j ≤ 300 ∧ 3000 < (f j).m) :
    Calls Try.prog 3 #[.int .i64 room, .slice a n c] w fun e w' => e = .returned (.bool true) ∧ Below w.heap.size w w' := by
  have hnz : (n : Int) ≤ 9223372036854775807 := by omega
  replace hA := Lib.hid hA
  replace hb := Lib.hid hb
  clear hnc hc
  go_enter Try.func3, Try.ntmps3
  go_wp2_with fail
  go_loopw [4, 5] (fun _ s5 wr => ∃ (i : Nat), s5 = .int .i64 (i : Nat) ∧ i ≤ n ∧ i ≤ 301 ∧ wr = w ∧ RowKit.Hid (∀ j, j < i → (f j).m ≤ 3000)) (fun _ s5 _ => 302 - (intOf s5).toNat)
  case atStart => exact ⟨0, rfl, Nat.zero_le _, by omega, rfl, Lib.hid (fun j hj => by omega)⟩
  case round =>
    obtain ⟨i, rfl, hi, hi2, rfl, hls⟩ := hrel
    have ii : (i : Int) ≤ 301 := by omega
    have ii2 : (i : Int) ≤ (n : Int) := by omega
    by_cases hlt : i < n ∧ i ≤ 300
    · obtain ⟨g1, g2⟩ := hlt
      have z1 : (i : Int) < (n : Int) := by omega
      have z2 : (i : Int) ≤ 300 := by omega
      obtain ⟨b, off, rfl, hbl, hcl⟩ := hA.out.row (by omega)
      have x5 := (hcl i g1).2.2.2.2.2
      obtain ⟨mi, hmi⟩ : ∃ m, RowKit.Hid ((f i).m = m) := ⟨_, Lib.hid rfl⟩
      rw [hmi.out] at x5
      clear hcl
      by_cases hbig : 3000 < mi
      · have hbz : (3000 : Int) < (mi : Int) := by omega
        go_wp2_with fail
        refine (wakes24_c _).mono ?_
        rintro e w3 ⟨rfl, hb3⟩
        replace hb3 := Lib.hid hb3
        go_wp2_with fail
        exact bodyPost_ret (v := .bool true) (by simp [results, Try.results3, go_sem]) rfl ⟨rfl, hb3.out⟩
      · have hbz : (mi : Int) ≤ 3000 := by omega
        go_wp2_with fail
        go_roundw
        case rel =>
          refine ⟨i + 1, by go_num, g1, by omega, by first | rfl | trivial, Lib.hid (fun j hj => ?_)⟩
          by_cases e : j = i
          · subst e; rw [hmi.out]; omega
          · exact hls.out j (by omega)
        case measure => simp [intOf]; omega
    · by_cases h3 : 300 < n
      · have hz : i = 301 := by omega
        subst hz
        have z1 : (301 : Int) ≤ (n : Int) := by omega
        have z2 : (300 : Int) < (n : Int) := by omega
        clear ii ii2 hi hi2 hlt
        by_cases h301 : n = 301
        · subst h301
          go_wp2_with fail
          refine (wakes24_c _).mono ?_
          rintro e w3 ⟨rfl, hb3⟩
          replace hb3 := Lib.hid hb3
          go_wp2_with fail
          exact bodyPost_ret (v := .bool true) (by simp [results, Try.results3, go_sem]) rfl ⟨rfl, hb3.out⟩
        · have z3 : (301 : Int) < (n : Int) := by omega
          go_wp2_with fail
          refine (wakes24_c _).mono ?_
          rintro e w3 ⟨rfl, hb3⟩
          replace hb3 := Lib.hid hb3
          go_wp2_with fail
          exact bodyPost_ret (v := .bool true) (by simp [results, Try.results3, go_sem]) rfl ⟨rfl, hb3.out⟩
      · obtain rfl : i = n := by omega
        have hroom : room < 1 ∨ 64 < room := by
          rcases hb.out with q | q | q | ⟨j, h1, h2, q⟩
          · exact .inl q
          · exact .inr q
          · omega
          · have := hls.out j h1; omega
        have z0 : (i : Int) ≤ 300 := by omega
        have hq := Lib.hid (qnew_bad room wr hroom)
        have hr := Lib.hid (rq_new_bad room wr hroom)
        clear ii ii2 hlt hroom hi hi2
        go_wp2_with fail
        refine hq.out.mono ?_
        rintro e w2 ⟨rfl, rfl⟩
        go_wp2_with fail
        refine hr.out.mono ?_
        rintro e w3 ⟨rfl, rfl⟩
        go_wp2_with fail
        go_loopw [4, 10] (fun _ s10 wz => s10 = .int .i64 0 ∧ wz = w3) (fun _ _ _ => 0)
        case atStart => exact ⟨rfl, rfl⟩
        case round =>
          obtain ⟨rfl, rfl⟩ := hrel
          by_cases h00 : i = 0
          · subst h00
            go_wp2_with fail
            refine (wakes24_c _).mono ?_
            rintro e w4 ⟨rfl, hb4⟩
            replace hb4 := Lib.hid hb4
            go_wp2_with fail
            exact bodyPost_ret (v := .bool true) (by simp [results, Try.results3, go_sem]) rfl ⟨rfl, hb4.out⟩
          · have z9 : (0 : Int) < (i : Int) := by omega
            go_wp2_with fail
            refine (wakes24_c _).mono ?_
            rintro e w4 ⟨rfl, hb4⟩
            replace hb4 := Lib.hid hb4
            go_wp2_with fail
            exact bodyPost_ret (v := .bool true) (by simp [results, Try.results3, go_sem]) rfl ⟨rfl, hb4.out⟩

set_option maxRecDepth 100000 in
set_option maxHeartbeats 8000000 in
theorem fplays_ok (w : World) (room : Nat) (a : Option Addr) (n c : Nat) (f : Nat → ActX) (hA : ActAt w a n f) (hr1 : 1 ≤ room) (hr2 : room ≤ 64) (hn : n ≤ 300) (hm : ∀ j, j < n → (f j).m ≤ 3000) :
    Calls Try.prog 3 #[.int .i64 (room : Nat), .slice a n c] w fun e w' => e = .returned (.bool true) ∧ Below w.heap.size w w' := by
  have hnz : (n : Int) ≤ 300 := by omega
  replace hA := Lib.hid hA
  replace hm := Lib.hid hm
  have hq := Lib.hid (pq_new hr1 hr2 [] (w := w))
  have hr := Lib.hid (fun u ns => rq_new room u hr1 hr2 ns)
  go_enter Try.func3, Try.ntmps3
  go_wp2_with fail
  go_loopw [4, 5] (fun _ s5 wr => ∃ (i : Nat), s5 = .int .i64 (i : Nat) ∧ i ≤ n ∧ wr = w) (fun _ s5 _ => n - (intOf s5).toNat)
  case atStart => exact ⟨0, rfl, Nat.zero_le _, rfl⟩
  case round =>
    obtain ⟨i, rfl, hi, rfl⟩ := hrel
    by_cases hlt : i < n
    · have z1 : (i : Int) < (n : Int) := by omega
      have z2 : (i : Int) ≤ 300 := by omega
      obtain ⟨b, off, rfl, hbl, hcl⟩ := hA.out.row (by omega)
      have x5 := (hcl i hlt).2.2.2.2.2
      have hmi0 := hm.out i hlt
      obtain ⟨mi, hmi⟩ : ∃ m, RowKit.Hid ((f i).m = m) := ⟨_, Lib.hid rfl⟩
      rw [hmi.out] at x5 hmi0
      clear hcl
      have hbz : (mi : Int) ≤ 3000 := by omega
      go_wp2_with fail
      go_roundw
      case rel => exact ⟨i + 1, by go_num, hlt, by first | rfl | trivial⟩
      case measure => simp [intOf]; omega
    · obtain rfl : i = n := by omega
      obtain ⟨wS, rfl⟩ : ∃ wS : World, wS = wr := ⟨_, rfl⟩
      go_wp2_with fail
      refine hq.out.mono ?_
      rintro e w2 ⟨qb, rb, rfl, hP, hg1, hg2, hB2⟩
      replace hP := Lib.hid hP
      replace hB2 := Lib.hid hB2
      go_wp2_with fail
      refine (hr.out w2 [qb, rb]).mono ?_
      rintro e w3 ⟨rfl, hR, hB3⟩
      have hs2 := hB2.out.size
      have hlq := hP.out.lt
      have hT0 : RowKit.Hid (TwS wS qb rb w2.heap.size room 0 w3) := Lib.hid ⟨0, 0, none, 0, [], ⟨(hP.out.ns (ns2 := w2.heap.size :: blkO none) (fun q hq => by simp [blkO] at hq; omega)).bel hB3, hR, ⟨by omega, by omega, by simp [blkO], by simp [blkO]⟩, hB2.out.trans (hB3.mono hs2), ⟨hg1, hg2, hs2, fun b hb => by simp [blkO] at hb⟩⟩, Nat.le_refl _⟩
      have hB3' := Lib.hid (hB2.out.trans (hB3.mono hs2))
      clear hq hr hP hR hB3
      generalize w2.heap.size = rq at hT0 ⊢
      go_wp2_with fail
      go_loopw [4, 10] (fun _ s10 wz => ∃ (j : Nat), s10 = .int .i64 (j : Nat) ∧ j ≤ i ∧ RowKit.Hid (TwS wS qb rb rq room j wz)) (fun _ s10 _ => i - (intOf s10).toNat)
      case atStart => exact ⟨0, rfl, Nat.zero_le _, hT0⟩
      case round =>
        obtain ⟨j, rfl, hj, hT⟩ := hrel
        have jz : (j : Int) ≤ (i : Int) := by omega
        by_cases hjl : j < i
        · have jz1 : (j : Int) < (i : Int) := by omega
          obtain ⟨b, off, rfl, hbl, hcl⟩ := hA.out.row (by omega)
          obtain ⟨x0, x1, x2, x3, x4, x5⟩ := hcl j hjl
          clear hcl
          obtain ⟨pos1, dr1, la1, cap1, l1, T1, hd1⟩ := hT.out
          have hBw := T1.bel
          obtain ⟨xo, xk, xx, xt, xC, xa, xm, xc, xd, hfj⟩ : ∃ o k x t C a m c d, RowKit.Hid (f j = ⟨o, k, x, t, C, a, m, c, d⟩) := ⟨_, _, _, _, _, _, _, _, _, Lib.hid rfl⟩
          rw [hfj.out] at x0 x1 x2 x3 x4 x5
          simp only at x0 x1 x2 x3 x4 x5
          have hst : ∀ u, Below wr.heap.size wr u → Calls Try.prog 7 #[.pointer (some ⟨qb, 0, none⟩), .pointer (some ⟨rq, 0, none⟩), .agg #[.int .i64 xo, .int .i64 xk, .int .i64 xx, .int .i64 xt, .int .i64 xC, .slice xa xm xc]] u (StepP wS qb rb rq room (j + 1)) := fun u hu => by
            have hy := hA.out.by_ j hjl
            have hm2 := hm.out j hjl
            rw [hfj.out] at hy hm2
            refine (step_c wS u qb rb rq room pos1 dr1 la1 cap1 l1 (T1.below hu) (by omega) xo xk xx xt xC xa xm xc xd hy hm2).mono ?_
            rintro e u' ⟨rfl, pos2, dr2, la2, cap2, l2, T2, hd2⟩
            exact ⟨rfl, pos2, dr2, la2, cap2, l2, T2, by omega⟩
          replace x0 := (hBw.cell (p := ⟨b, off + j * 6, none⟩) hbl).trans x0
          replace x1 := (hBw.cell (p := ⟨b, off + j * 6 + 1, none⟩) hbl).trans x1
          replace x2 := (hBw.cell (p := ⟨b, off + j * 6 + 2, none⟩) hbl).trans x2
          replace x3 := (hBw.cell (p := ⟨b, off + j * 6 + 3, none⟩) hbl).trans x3
          replace x4 := (hBw.cell (p := ⟨b, off + j * 6 + 4, none⟩) hbl).trans x4
          replace x5 := (hBw.cell (p := ⟨b, off + j * 6 + 5, none⟩) hbl).trans x5
          replace hst := Lib.hid hst
          clear T1 hT hd1 hBw
          go_upto_region 15 with fail
          refine wp_region_noPanic ?_
          refine Stg.wp_region_L [6] (fun n u => (n = 0 → Below wr.heap.size wr u) ∧ True) (by kernel_rfl) (⟨fun _ => (Below.refl _ _).drew, trivial⟩) (fun hHeld => ?_)
          refine Stg.wpAnyL_start (n' := 34) (l' := #[false, false, false, false, false, false, false, false, false, false, false, false, false, false, false, false, false, false, false, false, false, false, false, false, false, false, false, false, false, false, false, false, false, false]) (by kernel_rfl) (by kernel_rfl) ?_
          refine Stg.wpAnyL_free (i := 0) (v := ?_) 0 rfl (by kernel_rfl) (by kernel_rfl) (by kernel_rfl) (by kernel_rfl) (by kernel_rfl) (fun _ _ _ h => h) (Or.inl ⟨by kernel_rfl, ?_⟩) (by assumption) ?_
          rotate_left
          · intro u _
            try simp only [List.getElem_toArray, List.getElem_cons_succ, List.getElem_cons_zero]
            go_simp
            try with_reducible rfl
          try simp only [Act.put, List.setIfInBounds_toArray, List.set_cons_zero, List.set_cons_succ]
          refine Stg.wpAnyL_free (i := 1) (v := ?_) 0 rfl (by kernel_rfl) (by kernel_rfl) (by kernel_rfl) (by kernel_rfl) (by kernel_rfl) (fun _ _ _ h => h) (Or.inl ⟨by kernel_rfl, ?_⟩) (by assumption) ?_
          rotate_left
          · intro u _
            try simp only [List.getElem_toArray, List.getElem_cons_succ, List.getElem_cons_zero]
            go_simp
            try with_reducible rfl
          try simp only [Act.put, List.setIfInBounds_toArray, List.set_cons_zero, List.set_cons_succ]
          refine Stg.wpAnyL_free (i := 2) (v := ?_) 0 rfl (by kernel_rfl) (by kernel_rfl) (by kernel_rfl) (by kernel_rfl) (by kernel_rfl) (fun _ _ _ h => h) (Or.inl ⟨by kernel_rfl, ?_⟩) (by assumption) ?_
          rotate_left
          · intro u _
            try simp only [List.getElem_toArray, List.getElem_cons_succ, List.getElem_cons_zero]
            go_simp
            try with_reducible rfl
          try simp only [Act.put, List.setIfInBounds_toArray, List.set_cons_zero, List.set_cons_succ]
          refine Stg.wpAnyL_start (n' := 31) (l' := #[true, true, true, false, false, false, false, false, false, false, false, false, false, false, false, false, false, false, false, false, false, false, false, false, false, false, false, false, false, false, false, false, false, false]) (by kernel_rfl) (by kernel_rfl) ?_
          refine Stg.wpAnyL_free (i := 3) (v := ?_) 0 rfl (by kernel_rfl) (by kernel_rfl) (by kernel_rfl) (by kernel_rfl) (by kernel_rfl) (fun _ _ _ h => h) (Or.inl ⟨by kernel_rfl, ?_⟩) (by assumption) ?_
          rotate_left
          · intro u _
            try simp only [List.getElem_toArray, List.getElem_cons_succ, List.getElem_cons_zero]
            go_simp
            try with_reducible rfl
          try simp only [Act.put, List.setIfInBounds_toArray, List.set_cons_zero, List.set_cons_succ]
          refine Stg.wpAnyL_free (i := 4) (v := ?_) 0 rfl (by kernel_rfl) (by kernel_rfl) (by kernel_rfl) (by kernel_rfl) (by kernel_rfl) (fun _ _ _ h => h) (Or.inl ⟨by kernel_rfl, ?_⟩) (by assumption) ?_
          rotate_left
          · intro u _
            try simp only [List.getElem_toArray, List.getElem_cons_succ, List.getElem_cons_zero]
            go_simp
            try with_reducible rfl
          try simp only [Act.put, List.setIfInBounds_toArray, List.set_cons_zero, List.set_cons_succ]
          refine Stg.wpAnyL_take (i := 5) (v := ?_) [6, 7, 8, 9, 10, 11, 12, 13, 14, 15, 16, 17, 18, 19, 20, 21, 22, 23, 24, 25, 26, 27, 28, 29, 30, 31, 32, 33] 0 rfl (by kernel_rfl) (by kernel_rfl) (by kernel_rfl) (by kernel_rfl) (by kernel_rfl) (fun _ _ _ h => h) (Or.inl ⟨by kernel_rfl, ?_⟩) (by assumption) ?_
          rotate_left
          · intro u hSu
            obtain ⟨sX, _⟩ := hSu
            have sB := sX rfl
            have y0 := cellB sB x0
            have y1 := cellB sB x1
            have y2 := cellB sB x2
            have y3 := cellB sB x3
            have y4 := cellB sB x4
            have y5 := cellB sB x5
            try simp only [List.getElem_toArray, List.getElem_cons_succ, List.getElem_cons_zero]
            go_simp
            try with_reducible rfl
          try simp only [Act.put, List.setIfInBounds_toArray, List.set_cons_zero, List.set_cons_succ]
          refine Stg.wpAnyL_start (n' := 28) (l' := #[true, true, true, true, true, true, false, false, false, false, false, false, false, false, false, false, false, false, false, false, false, false, false, false, false, false, false, false, false, false, false, false, false, false]) (by kernel_rfl) (by kernel_rfl) ?_
          refine Stg.wpAnyL_one (i := 6) 1 rfl (by kernel_rfl) (by kernel_rfl) (fun K hK => ?_)
          try simp only [List.getElem_toArray, List.getElem_cons_succ, List.getElem_cons_zero]
          go_simp
          refine (hst.out _ (hHeld.1 rfl)).mono ?_
          rintro e w5 ⟨rfl, pos2, dr2, la2, cap2, l2, T2, hd2⟩
          have hL := Lib.hid (qlen_c qb rb room pos2 l2.length (tot l2) dr2 w5 T2.p.q)
          have hY := Lib.hid (qbytes_c qb rb room pos2 l2.length (tot l2) dr2 w5 T2.p.q)
          have hD := Lib.hid (qdrops_c qb rb room pos2 l2.length (tot l2) dr2 w5 T2.p.q)
          have hRB := Lib.hid (rq_bytes w5 rq room dr2 la2 cap2 l2 _ T2.r)
          have c1 := T2.r.b.c 1 _ rfl
          have c2 := T2.r.b.c 2 _ rfl
          have hT5 := Lib.hid (show TwS wS qb rb rq room (j + 1) w5 from ⟨pos2, dr2, la2, cap2, l2, T2, hd2⟩)
          generalize l2.length = n2 at hL hY hD c1
          generalize tot l2 = B2 at hL hY hD hRB
          clear hst T2
          refine hK.out _ _ ?_ (fun hHeld1 => ?_)
          · exact ⟨fun h => absurd h (by decide), trivial⟩
          clear hK K
          try simp only [Act.put, List.setIfInBounds_toArray, List.set_cons_zero, List.set_cons_succ]
          refine Stg.wpAnyL_narrow (S' := fun n u => 1 ≤ n ∧ u = w5) (fun n u h => ⟨fun h0 => absurd h.1 (by omega), trivial⟩) _ _ _ _ ?_
          clear hHeld1
          have hHeld1 : (fun n u => 1 ≤ n ∧ u = w5) 1 w5 := ⟨Nat.le_refl _, rfl⟩
          refine Stg.wpAnyL_free (i := 7) (v := ?_) 1 rfl (by kernel_rfl) (by kernel_rfl) (by kernel_rfl) (by kernel_rfl) (by kernel_rfl) (fun _ _ _ h => h) (Or.inl ⟨by kernel_rfl, ?_⟩) (by assumption) ?_
          rotate_left
          · intro u _
            try simp only [List.getElem_toArray, List.getElem_cons_succ, List.getElem_cons_zero]
            go_simp
            try with_reducible rfl
          try simp only [Act.put, List.setIfInBounds_toArray, List.set_cons_zero, List.set_cons_succ]
          refine Stg.wpAnyL_free (i := 8) (v := ?_) 1 rfl (by kernel_rfl) (by kernel_rfl) (by kernel_rfl) (by kernel_rfl) (by kernel_rfl) (fun _ _ _ h => h) (Or.inl ⟨by kernel_rfl, ?_⟩) (by assumption) ?_
          rotate_left
          · intro u _
            try simp only [List.getElem_toArray, List.getElem_cons_succ, List.getElem_cons_zero]
            go_simp
            try with_reducible rfl
          try simp only [Act.put, List.setIfInBounds_toArray, List.set_cons_zero, List.set_cons_succ]
          refine Stg.wpAnyL_start (n' := 25) (l' := #[true, true, true, true, true, true, true, true, true, false, false, false, false, false, false, false, false, false, false, false, false, false, false, false, false, false, false, false, false, false, false, false, false, false]) (by kernel_rfl) (by kernel_rfl) ?_
          refine Stg.wpAnyL_free (i := 9) (v := ?_) 1 rfl (by kernel_rfl) (by kernel_rfl) (by kernel_rfl) (by kernel_rfl) (by kernel_rfl) (fun _ _ _ h => h) (Or.inl ⟨by kernel_rfl, ?_⟩) (by assumption) ?_
          rotate_left
          · intro u _
            try simp only [List.getElem_toArray, List.getElem_cons_succ, List.getElem_cons_zero]
            go_simp
            try with_reducible rfl
          try simp only [Act.put, List.setIfInBounds_toArray, List.set_cons_zero, List.set_cons_succ]
          refine Stg.wpAnyL_free (i := 11) (v := ?_) 1 rfl (by kernel_rfl) (by kernel_rfl) (by kernel_rfl) (by kernel_rfl) (by kernel_rfl) (fun _ _ _ h => h) (Or.inl ⟨by kernel_rfl, ?_⟩) (by assumption) ?_
          rotate_left
          · intro u _
            try simp only [List.getElem_toArray, List.getElem_cons_succ, List.getElem_cons_zero]
            go_simp
            try with_reducible rfl
          try simp only [Act.put, List.setIfInBounds_toArray, List.set_cons_zero, List.set_cons_succ]
          refine Stg.wpAnyL_free (i := 12) (v := ?_) 1 rfl (by kernel_rfl) (by kernel_rfl) (by kernel_rfl) (by kernel_rfl) (by kernel_rfl) (fun _ _ _ h => h) (Or.inl ⟨by kernel_rfl, ?_⟩) (by assumption) ?_
          rotate_left
          · intro u _
            try simp only [List.getElem_toArray, List.getElem_cons_succ, List.getElem_cons_zero]
            go_simp
            try with_reducible rfl
          try simp only [Act.put, List.setIfInBounds_toArray, List.set_cons_zero, List.set_cons_succ]
          refine Stg.wpAnyL_start (n' := 22) (l' := #[true, true, true, true, true, true, true, true, true, true, false, true, true, false, false, false, false, false, false, false, false, false, false, false, false, false, false, false, false, false, false, false, false, false]) (by kernel_rfl) (by kernel_rfl) ?_
          refine Stg.wpAnyL_free (i := 13) (v := ?_) 1 rfl (by kernel_rfl) (by kernel_rfl) (by kernel_rfl) (by kernel_rfl) (by kernel_rfl) (fun _ _ _ h => h) (Or.inl ⟨by kernel_rfl, ?_⟩) (by assumption) ?_
          rotate_left
          · intro u _
            try simp only [List.getElem_toArray, List.getElem_cons_succ, List.getElem_cons_zero]
            go_simp
            try with_reducible rfl
          try simp only [Act.put, List.setIfInBounds_toArray, List.set_cons_zero, List.set_cons_succ]
          refine Stg.wpAnyL_take (i := 14) (v := ?_) [15, 16, 17, 18, 19, 20, 21, 22, 23, 24, 25, 26, 27, 28, 29, 30, 31, 32, 33] 1 rfl (by kernel_rfl) (by kernel_rfl) (by kernel_rfl) (by kernel_rfl) (by kernel_rfl) (fun _ _ _ h => h) (Or.inl ⟨by kernel_rfl, ?_⟩) (by assumption) ?_
          rotate_left
          · intro u hSu
            obtain ⟨_, rfl⟩ := hSu
            try simp only [List.getElem_toArray, List.getElem_cons_succ, List.getElem_cons_zero]
            go_simp
            try with_reducible rfl
          try simp only [Act.put, List.setIfInBounds_toArray, List.set_cons_zero, List.set_cons_succ]
          refine Stg.wpAnyL_free (i := 15) (v := ?_) 1 rfl (by kernel_rfl) (by kernel_rfl) (by kernel_rfl) (by kernel_rfl) (by kernel_rfl) (fun _ _ _ h => h) (Or.inl ⟨by kernel_rfl, ?_⟩) (by assumption) ?_
          rotate_left
          · intro u _
            try simp only [List.getElem_toArray, List.getElem_cons_succ, List.getElem_cons_zero]
            go_simp
            try with_reducible rfl
          try simp only [Act.put, List.setIfInBounds_toArray, List.set_cons_zero, List.set_cons_succ]
          refine Stg.wpAnyL_start (n' := 19) (l' := #[true, true, true, true, true, true, true, true, true, true, false, true, true, true, true, true, false, false, false, false, false, false, false, false, false, false, false, false, false, false, false, false, false, false]) (by kernel_rfl) (by kernel_rfl) ?_
          refine Stg.wpAnyL_one (i := 10) 1 rfl (by kernel_rfl) (by kernel_rfl) (fun K hK => ?_)
          try simp only [List.getElem_toArray, List.getElem_cons_succ, List.getElem_cons_zero]
          go_simp
          refine (hL.out).mono ?_
          rintro e w6 ⟨rfl, rfl⟩
          refine hK.out _ _ ?_ (fun hHeld2 => ?_)
          · exact ⟨Nat.le_refl _, rfl⟩
          clear hK K
          try simp only [Act.put, List.setIfInBounds_toArray, List.set_cons_zero, List.set_cons_succ]
          refine Stg.wpAnyL_free (i := 16) (v := ?_) 1 rfl (by kernel_rfl) (by kernel_rfl) (by kernel_rfl) (by kernel_rfl) (by kernel_rfl) (fun _ _ _ h => h) (Or.inl ⟨by kernel_rfl, ?_⟩) (by assumption) ?_
          rotate_left
          · intro u _
            try simp only [List.getElem_toArray, List.getElem_cons_succ, List.getElem_cons_zero]
            go_simp
            try with_reducible rfl
          try simp only [Act.put, List.setIfInBounds_toArray, List.set_cons_zero, List.set_cons_succ]
          refine Stg.wpAnyL_free (i := 17) (v := ?_) 1 rfl (by kernel_rfl) (by kernel_rfl) (by kernel_rfl) (by kernel_rfl) (by kernel_rfl) (fun _ _ _ h => h) (Or.inl ⟨by kernel_rfl, ?_⟩) (by assumption) ?_
          rotate_left
          · intro u _
            try simp only [List.getElem_toArray, List.getElem_cons_succ, List.getElem_cons_zero]
            go_simp
            try with_reducible rfl
          try simp only [Act.put, List.setIfInBounds_toArray, List.set_cons_zero, List.set_cons_succ]
          refine Stg.wpAnyL_start (n' := 16) (l' := #[true, true, true, true, true, true, true, true, true, true, true, true, true, true, true, true, true, true, false, false, false, false, false, false, false, false, false, false, false, false, false, false, false, false]) (by kernel_rfl) (by kernel_rfl) ?_
          refine Stg.wpAnyL_free (i := 18) (v := ?_) 1 rfl (by kernel_rfl) (by kernel_rfl) (by kernel_rfl) (by kernel_rfl) (by kernel_rfl) (fun _ _ _ h => h) (Or.inl ⟨by kernel_rfl, ?_⟩) (by assumption) ?_
          rotate_left
          · intro u _
            try simp only [List.getElem_toArray, List.getElem_cons_succ, List.getElem_cons_zero]
            go_simp
            try with_reducible rfl
          try simp only [Act.put, List.setIfInBounds_toArray, List.set_cons_zero, List.set_cons_succ]
          refine Stg.wpAnyL_free (i := 19) (v := ?_) 1 rfl (by kernel_rfl) (by kernel_rfl) (by kernel_rfl) (by kernel_rfl) (by kernel_rfl) (fun _ _ _ h => h) (Or.inl ⟨by kernel_rfl, ?_⟩) (by assumption) ?_
          rotate_left
          · intro u _
            try simp only [List.getElem_toArray, List.getElem_cons_succ, List.getElem_cons_zero]
            go_simp
            try with_reducible rfl
          try simp only [Act.put, List.setIfInBounds_toArray, List.set_cons_zero, List.set_cons_succ]
          refine Stg.wpAnyL_free (i := 21) (v := ?_) 1 rfl (by kernel_rfl) (by kernel_rfl) (by kernel_rfl) (by kernel_rfl) (by kernel_rfl) (fun _ _ _ h => h) (Or.inl ⟨by kernel_rfl, ?_⟩) (by assumption) ?_
          rotate_left
          · intro u _
            try simp only [List.getElem_toArray, List.getElem_cons_succ, List.getElem_cons_zero]
            go_simp
            try with_reducible rfl
          try simp only [Act.put, List.setIfInBounds_toArray, List.set_cons_zero, List.set_cons_succ]
          refine Stg.wpAnyL_start (n' := 13) (l' := #[true, true, true, true, true, true, true, true, true, true, true, true, true, true, true, true, true, true, true, true, false, true, false, false, false, false, false, false, false, false, false, false, false, false]) (by kernel_rfl) (by kernel_rfl) ?_
          refine Stg.wpAnyL_one (i := 20) 1 rfl (by kernel_rfl) (by kernel_rfl) (fun K hK => ?_)
          try simp only [List.getElem_toArray, List.getElem_cons_succ, List.getElem_cons_zero]
          go_simp
          refine (hY.out).mono ?_
          rintro e w6 ⟨rfl, rfl⟩
          refine hK.out _ _ ?_ (fun hHeld3 => ?_)
          · exact ⟨Nat.le_refl _, rfl⟩
          clear hK K
          try simp only [Act.put, List.setIfInBounds_toArray, List.set_cons_zero, List.set_cons_succ]
          refine Stg.wpAnyL_one (i := 22) 1 rfl (by kernel_rfl) (by kernel_rfl) (fun K hK => ?_)
          try simp only [List.getElem_toArray, List.getElem_cons_succ, List.getElem_cons_zero]
          go_simp
          refine (hRB.out).mono ?_
          rintro e w6 ⟨rfl, rfl⟩
          refine hK.out _ _ ?_ (fun hHeld4 => ?_)
          · exact ⟨Nat.le_refl _, rfl⟩
          clear hK K
          try simp only [Act.put, List.setIfInBounds_toArray, List.set_cons_zero, List.set_cons_succ]
          refine Stg.wpAnyL_free (i := 23) (v := ?_) 1 rfl (by kernel_rfl) (by kernel_rfl) (by kernel_rfl) (by kernel_rfl) (by kernel_rfl) (fun _ _ _ h => h) (Or.inl ⟨by kernel_rfl, ?_⟩) (by assumption) ?_
          rotate_left
          · intro u _
            try simp only [List.getElem_toArray, List.getElem_cons_succ, List.getElem_cons_zero]
            go_simp
            try with_reducible rfl
          try simp only [Act.put, List.setIfInBounds_toArray, List.set_cons_zero, List.set_cons_succ]
          refine Stg.wpAnyL_start (n' := 10) (l' := #[true, true, true, true, true, true, true, true, true, true, true, true, true, true, true, true, true, true, true, true, true, true, true, true, false, false, false, false, false, false, false, false, false, false]) (by kernel_rfl) (by kernel_rfl) ?_
          refine Stg.wpAnyL_free (i := 24) (v := ?_) 1 rfl (by kernel_rfl) (by kernel_rfl) (by kernel_rfl) (by kernel_rfl) (by kernel_rfl) (fun _ _ _ h => h) (Or.inl ⟨by kernel_rfl, ?_⟩) (by assumption) ?_
          rotate_left
          · intro u _
            try simp only [List.getElem_toArray, List.getElem_cons_succ, List.getElem_cons_zero]
            go_simp
            try with_reducible rfl
          try simp only [Act.put, List.setIfInBounds_toArray, List.set_cons_zero, List.set_cons_succ]
          refine Stg.wpAnyL_free (i := 25) (v := ?_) 1 rfl (by kernel_rfl) (by kernel_rfl) (by kernel_rfl) (by kernel_rfl) (by kernel_rfl) (fun _ _ _ h => h) (Or.inl ⟨by kernel_rfl, ?_⟩) (by assumption) ?_
          rotate_left
          · intro u _
            try simp only [List.getElem_toArray, List.getElem_cons_succ, List.getElem_cons_zero]
            go_simp
            try with_reducible rfl
          try simp only [Act.put, List.setIfInBounds_toArray, List.set_cons_zero, List.set_cons_succ]
          refine Stg.wpAnyL_free (i := 26) (v := ?_) 1 rfl (by kernel_rfl) (by kernel_rfl) (by kernel_rfl) (by kernel_rfl) (by kernel_rfl) (fun _ _ _ h => h) (Or.inl ⟨by kernel_rfl, ?_⟩) (by assumption) ?_
          rotate_left
          · intro u _
            try simp only [List.getElem_toArray, List.getElem_cons_succ, List.getElem_cons_zero]
            go_simp
            try with_reducible rfl
          try simp only [Act.put, List.setIfInBounds_toArray, List.set_cons_zero, List.set_cons_succ]
          refine Stg.wpAnyL_start (n' := 7) (l' := #[true, true, true, true, true, true, true, true, true, true, true, true, true, true, true, true, true, true, true, true, true, true, true, true, true, true, true, false, false, false, false, false, false, false]) (by kernel_rfl) (by kernel_rfl) ?_
          refine Stg.wpAnyL_free (i := 28) (v := ?_) 1 rfl (by kernel_rfl) (by kernel_rfl) (by kernel_rfl) (by kernel_rfl) (by kernel_rfl) (fun _ _ _ h => h) (Or.inl ⟨by kernel_rfl, ?_⟩) (by assumption) ?_
          rotate_left
          · intro u _
            try simp only [List.getElem_toArray, List.getElem_cons_succ, List.getElem_cons_zero]
            go_simp
            try with_reducible rfl
          try simp only [Act.put, List.setIfInBounds_toArray, List.set_cons_zero, List.set_cons_succ]
          refine Stg.wpAnyL_free (i := 29) (v := ?_) 1 rfl (by kernel_rfl) (by kernel_rfl) (by kernel_rfl) (by kernel_rfl) (by kernel_rfl) (fun _ _ _ h => h) (Or.inl ⟨by kernel_rfl, ?_⟩) (by assumption) ?_
          rotate_left
          · intro u _
            try simp only [List.getElem_toArray, List.getElem_cons_succ, List.getElem_cons_zero]
            go_simp
            try with_reducible rfl
          try simp only [Act.put, List.setIfInBounds_toArray, List.set_cons_zero, List.set_cons_succ]
          refine Stg.wpAnyL_free (i := 30) (v := ?_) 1 rfl (by kernel_rfl) (by kernel_rfl) (by kernel_rfl) (by kernel_rfl) (by kernel_rfl) (fun _ _ _ h => h) (Or.inl ⟨by kernel_rfl, ?_⟩) (by assumption) ?_
          rotate_left
          · intro u _
            try simp only [List.getElem_toArray, List.getElem_cons_succ, List.getElem_cons_zero]
            go_simp
            try with_reducible rfl
          try simp only [Act.put, List.setIfInBounds_toArray, List.set_cons_zero, List.set_cons_succ]
          refine Stg.wpAnyL_start (n' := 4) (l' := #[true, true, true, true, true, true, true, true, true, true, true, true, true, true, true, true, true, true, true, true, true, true, true, true, true, true, true, false, true, true, true, false, false, false]) (by kernel_rfl) (by kernel_rfl) ?_
          refine Stg.wpAnyL_take (i := 31) (v := ?_) [32, 33] 1 rfl (by kernel_rfl) (by kernel_rfl) (by kernel_rfl) (by kernel_rfl) (by kernel_rfl) (fun _ _ _ h => h) (Or.inl ⟨by kernel_rfl, ?_⟩) (by assumption) ?_
          rotate_left
          · intro u hSu
            obtain ⟨_, rfl⟩ := hSu
            try simp only [List.getElem_toArray, List.getElem_cons_succ, List.getElem_cons_zero]
            go_simp
            try with_reducible rfl
          try simp only [Act.put, List.setIfInBounds_toArray, List.set_cons_zero, List.set_cons_succ]
          refine Stg.wpAnyL_one (i := 27) 1 rfl (by kernel_rfl) (by kernel_rfl) (fun K hK => ?_)
          try simp only [List.getElem_toArray, List.getElem_cons_succ, List.getElem_cons_zero]
          go_simp
          refine (hD.out).mono ?_
          rintro e w6 ⟨rfl, rfl⟩
          refine hK.out _ _ ?_ (fun hHeld5 => ?_)
          · exact ⟨Nat.le_refl _, rfl⟩
          clear hK K
          try simp only [Act.put, List.setIfInBounds_toArray, List.set_cons_zero, List.set_cons_succ]
          refine Stg.wpAnyL_free (i := 32) (v := ?_) 1 rfl (by kernel_rfl) (by kernel_rfl) (by kernel_rfl) (by kernel_rfl) (by kernel_rfl) (fun _ _ _ h => h) (Or.inl ⟨by kernel_rfl, ?_⟩) (by assumption) ?_
          rotate_left
          · intro u _
            try simp only [List.getElem_toArray, List.getElem_cons_succ, List.getElem_cons_zero]
            go_simp
            try with_reducible rfl
          try simp only [Act.put, List.setIfInBounds_toArray, List.set_cons_zero, List.set_cons_succ]
          refine Stg.wpAnyL_start (n' := 1) (l' := #[true, true, true, true, true, true, true, true, true, true, true, true, true, true, true, true, true, true, true, true, true, true, true, true, true, true, true, true, true, true, true, true, true, false]) (by kernel_rfl) (by kernel_rfl) ?_
          refine Stg.wpAnyL_free (i := 33) (v := ?_) 1 rfl (by kernel_rfl) (by kernel_rfl) (by kernel_rfl) (by kernel_rfl) (by kernel_rfl) (fun _ _ _ h => h) (Or.inl ⟨by kernel_rfl, ?_⟩) (by assumption) ?_
          rotate_left
          · intro u _
            try simp only [List.getElem_toArray, List.getElem_cons_succ, List.getElem_cons_zero]
            go_simp
            try with_reducible rfl
          try simp only [Act.put, List.setIfInBounds_toArray, List.set_cons_zero, List.set_cons_succ]
          refine Stg.wpAnyL_done (by kernel_rfl) ?_ _
          try simp only [List.getElem_toArray, List.getElem_cons_succ, List.getElem_cons_zero]
          try simp only [Act.put, List.setIfInBounds_toArray, List.set_cons_zero, List.set_cons_succ]
          refine NoPanic.normal ?_
          go_wp2_with fail
          go_roundw
          case rel => exact ⟨j + 1, by go_num, hjl, hT5⟩
          case measure => simp [intOf]; omega
        · obtain rfl : j = i := by omega
          obtain ⟨pos1, dr1, la1, cap1, l1, T1, hd1⟩ := hT.out
          have y1 := T1.r.b.c 1 _ rfl
          obtain ⟨n1, hn1⟩ : ∃ n, RowKit.Hid (l1.length = n) := ⟨_, Lib.hid rfl⟩
          have htd := told_ok wr qb rb room pos1 dr1 rq dr1 la1 cap1 l1 _ _ T1.p T1.r 0
          have hBw := Lib.hid T1.bel
          rw [hn1.out] at y1 htd
          replace htd := Lib.hid htd
          clear T1 hT hd1
          go_wp2_with fail
          refine htd.out.mono ?_
          rintro e w4 ⟨rfl, hb4⟩
          have hB4 := Lib.hid (hBw.out.trans (hb4.mono hBw.out.size))
          clear htd hb4 hBw y1
          go_wp2_with fail
          refine (wakes24_c _).mono ?_
          rintro e w5 ⟨rfl, hb5⟩
          have hB5 := Lib.hid (hB4.out.trans (hb5.mono hB4.out.size))
          clear hb5
          go_wp2_with fail
          exact bodyPost_ret (v := .bool true) (by simp [results, Try.results3, go_sem]) rfl ⟨rfl, hB5.out⟩

theorem fifoPlays_walk (w : World) (a0 : Int) (v1 : Value) (a1 : XT_LAct) (w0 : (Lit.int .i64 a0).wf = true) (w1 : Is_LAct w v1 a1) :
    Calls Try.prog 3 #[.int .i64 a0, v1] w fun e w' => e = .returned (.bool true) ∧ Below w.heap.size w w' := by
  obtain ⟨rfl, hnc, hc, hA⟩ := w1
  by_cases hb : a0 < 1 ∨ 64 < a0 ∨ 300 < a1.n ∨ ∃ j, j < a1.n ∧ j ≤ 300 ∧ 3000 < (a1.f j).m
  · exact fplays_bad w a0 a1.a a1.n a1.c a1.f hA hnc hc hb
  · have h1 : 1 ≤ a0 := by
      refine Classical.byContradiction fun q => hb (.inl (by omega))
    have h2 : a0 ≤ 64 := by
      refine Classical.byContradiction fun q => hb (.inr (.inl (by omega)))
    have h3 : a1.n ≤ 300 := by
      refine Classical.byContradiction fun q => hb (.inr (.inr (.inl (by omega))))
    have h4 : ∀ j, j < a1.n → (a1.f j).m ≤ 3000 := fun j hj => by
      refine Classical.byContradiction fun q => hb (.inr (.inr (.inr ⟨j, hj, by omega, by omega⟩)))
    obtain ⟨r, rfl⟩ : ∃ r : Nat, a0 = (r : Int) := ⟨a0.toNat, by omega⟩
    exact fplays_ok w r a1.a a1.n a1.c a1.f hA (by omega) (by omega) h3 h4
end Go.Proofs.Ytndlldlanjhanaa
