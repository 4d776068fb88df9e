/- The shaper: what may be sent of each flow. -/
import Derived.Test.YtkefkophlhcbiaaS2
namespace Go.Proofs.Ytkefkophlhcbiaa
open Go.ChangeShapes Go.WideShapes Go.ChangeAt Go.RowKit
set_option linter.unusedVariables false
set_option linter.unusedSimpArgs false
open BigFrame Pk Fa Sh
open Vr hiding cellB
open By (Byt)
open Fp (Pt PQ OutP HeadQ)
open Bs (cellB)

namespace Sh
/-- The sizes of the heads that have tokens. -/
def hd (I : Ids) (G : Gs) : Nat → Int := fun i => match G.Q i with
  | [] => 0
  | p :: _ => if 8 + (p.d.length : Int) ≤ G.tok (I.T i).toNat then 8 + (p.d.length : Int) else 0
def HeadsP (I : Ids) (G : Gs) (w : World) (e : Ending) (w' : World) : Prop := ∃ g, e = .returned (.slice (some ⟨g, 0, none⟩) I.N I.N) ∧ TagsAt w' (some ⟨g, 0, none⟩) g 0 I.N (hd I G) I.W ∧ w.heap.size ≤ g ∧ Below w.heap.size w w'
theorem SH.c3 {I : Ids} {G : Gs} {L : List Nat} {w : World} {tb ct : Nat} {pos kd : Nat → Nat} (h : SH I G L w tb ct pos kd) : w.cell? ⟨I.s, 0, none⟩ = some (.slice (some ⟨I.fb, 0, none⟩) I.N I.cf) ∧ w.cell? ⟨I.s, 1, none⟩ = some (.slice (some ⟨I.qr, 0, none⟩) I.N I.cq) ∧ w.cell? ⟨I.s, 2, none⟩ = some (.pointer (some ⟨I.f, 0, none⟩)) ∧ w.cell? ⟨I.s, 20, none⟩ = some (.int .i64 G.link) ∧ w.cell? ⟨I.s, 21, none⟩ = some (.int .i64 (G.came : Nat)) :=
  ⟨h.b.c 0 _ rfl, h.b.c 1 _ rfl, h.b.c 2 _ rfl, h.b.c 20 _ rfl, h.b.c 21 _ rfl⟩
theorem madeHeads (n j : Nat) (h : j < n * 2) : (madeCells (Value.agg #[.int .i64 0, .int .i64 0]).cells (n * 2)).toList[j]? = some (.int .i64 0) := madeTags n j h
theorem info_head : (Try.prog.info? 78).map (fun i => (i.zero, i.size, i.bytes)) = some (some (.agg #[.int .i64 0, .int .i64 0]), 2, 16) := by kernel_rfl
theorem mix_full {A B : Nat → Int} {n i : Nat} (h : i < n) : mix n A B i = A i := mix_lt A B h
end Sh

set_option maxRecDepth 100000 in
set_option maxHeartbeats 8000000 in
theorem heads_c {I : Ids} {G : Gs} {L : List Nat} {w : World} (bx : Nat) (h : SHP I G L w) (hbx : w.cell? ⟨bx, 0, none⟩ = some (.pointer (some ⟨I.s, 0, none⟩))) :
    Calls Try.prog 31 #[.pointer (some ⟨bx, 0, none⟩)] w (HeadsP I G w) := by
  obtain ⟨tb, ct, pos, kd, hS⟩ := h
  have hN1 := hS.n1.1
  have hN8 := hS.n1.2
  obtain ⟨c0, c1, c2, c20, c21⟩ := hS.c3
  obtain ⟨i0, hi0, hz0, hz1, hz2⟩ := info_parts info_head
  replace hS := Lib.hid hS
  obtain ⟨N, hN⟩ : ∃ N, RowKit.Hid (I.N = N) := ⟨_, Lib.hid rfl⟩
  rw [hN.out] at hN1 hN8 c0 c1
  have z1 : (1 : Int) ≤ (N : Int) := by omega
  have z2 : (N : Int) ≤ 8 := by omega
  go_enter Try.func31, Try.ntmps31
  go_upto_region 2 with (at_make; refine wpList_make_full _ rfl _ _ 76 rfl w.heap.size 78 i0 _ 2 Try.underlying76 hi0 hz0 hz1 .i64 .i64 _ _ N rfl rfl rfl rfl (by rw [hz2]; omega) (by unfold maxLen; omega) (Nat.le_refl _) ?_; intro w3 hown3 hgrow3)
  have hB3 : Below w.heap.size w w3 := (Below.refl w.heap.size w).grown hgrow3 (Nat.le_refl _) (fun k hk => by cases hk)
  have hT3 : TagsAt w3 (some ⟨w.heap.size, 0, none⟩) w.heap.size 0 N (mix 0 (hd I G) (fun _ => 0)) (mix 0 I.W (fun _ => 0)) := by
    rw [mix_zero, mix_zero]
    exact ⟨fun _ => rfl, fun _ => (hown3.lt w.heap.size rfl).2, fun i hi => by rw [Nat.zero_add]; exact (hown3.cellAt (i * 2) (by omega)).trans (madeTags N _ (by omega)), fun i hi => by rw [Nat.zero_add]; exact (hown3.cellAt (i * 2 + 1) (by omega)).trans (madeTags N _ (by omega))⟩
  have hZ3 : ∀ o, w3.frozen? ⟨w.heap.size, o, none⟩ = false := fun o => hown3.frozenAt o
  replace hT3 := Lib.hid hT3
  replace hZ3 := Lib.hid hZ3
  obtain ⟨g, hg⟩ : ∃ g, RowKit.Hid (w.heap.size = g) := ⟨_, Lib.hid rfl⟩
  have hgs : I.s < g ∧ bx < g := ⟨by rw [← hg.out]; exact hS.out.b.l, by rw [← hg.out]; exact World.block_lt_of_cell? _ _ hbx⟩
  rw [hg.out] at hT3 hZ3 hB3
  rw [hg.out]
  have hbx3 := (hB3.cell (p := ⟨bx, 0, none⟩) hgs.2).trans hbx
  have hx0 := (hB3.cell (p := ⟨I.s, 1, none⟩) hgs.1).trans c1
  have hbxI := Lib.hid hbx
  replace hB3 := Lib.hid hB3
  clear c0 c1 c2 c20 c21 hown3 hgrow3 hbx
  go_wp2_with fail
  clear hbx3 hx0
  go_loopw [3, 4, 5, 6, 18] (fun _ _ _ _ s18 wr => ∃ k : Nat, k ≤ N ∧ s18 = .int .i64 (k : Nat) ∧ RowKit.Hid (TagsAt wr (some ⟨g, 0, none⟩) g 0 N (mix k (hd I G) (fun _ => 0)) (mix k I.W (fun _ => 0))) ∧ RowKit.Hid (∀ o, wr.frozen? ⟨g, o, none⟩ = false) ∧ RowKit.Hid (Below g w wr)) (fun _ _ _ _ s18 _ => N - (intOf s18).toNat)
  case atStart => exact ⟨0, by omega, rfl, hT3, hZ3, hB3⟩
  case round =>
    clear hB3 hT3 hZ3
    obtain ⟨k, hk, rfl, hT, hZ, hB⟩ := hrel
    obtain ⟨W, rfl⟩ : ∃ W : World, W = wr := ⟨_, rfl⟩
    have iz : (k : Int) ≤ (N : Int) := by omega
    by_cases hlt : k < N
    · have iz1 : (k : Int) < (N : Int) := by omega
      have hkN : k < I.N := by rw [hN.out]; exact hlt
      have hSu : ∀ u, Below g w u → SH I G L u tb ct pos kd := fun u hu => hS.out.bel (by rw [hg.out]; exact hu)
      have hxu : ∀ u, Below g w u → u.cell? ⟨bx, 0, none⟩ = some (.pointer (some ⟨I.s, 0, none⟩)) := fun u hu => (hu.cell (p := ⟨bx, 0, none⟩) hgs.2).trans hbxI.out
      replace hSu := Lib.hid hSu
      replace hxu := Lib.hid hxu
      have hW := hSu.out W hB.out
      obtain ⟨e0, e1, _, _, _⟩ := hW.c3
      rw [hN.out] at e0 e1
      have eb := hxu.out W hB.out
      obtain ⟨fq0, fq1, fq2⟩ := hW.fl k hkN
      have eq := hW.qr k hkN
      have g1 := hT.out.c1 k hlt
      rw [Nat.zero_add] at g1
      have gf := hZ.out (k * 2 + 1)
      have hten := hW.ten k hkN
      obtain ⟨tn, htn⟩ : ∃ tn : Nat, I.T k = (tn : Int) := ⟨(I.T k).toNat, by omega⟩
      rw [htn] at fq0 hten
      obtain ⟨wk, hwk⟩ : ∃ y, RowKit.Hid (I.W k = y) := ⟨_, Lib.hid rfl⟩
      rw [hwk.out] at fq1
      have htnH := Lib.hid htn
      have ht17 : tn < 17 := by omega
      have hB1 := Lib.hid (hB.out.setCell (p := ⟨g, k * 2 + 1, none⟩) (Nat.le_refl _) (.int .i64 wk))
      have hT1 := hT.out.set_finish k hlt wk
      rw [Nat.zero_add] at hT1
      replace hT1 := Lib.hid hT1
      have hZ1 : RowKit.Hid (∀ o, (W.setCell ⟨g, k * 2 + 1, none⟩ (.int .i64 wk)).frozen? ⟨g, o, none⟩ = false) := Lib.hid (fun o => (World.frozen?_setCell _ _ _ _).trans (hZ.out o))
      have hgW : g < W.heap.size := by have := hT.out.hb (by omega); exact this
      replace hW := Lib.hid hW
      clear hT hZ htn
      have hnext : ∀ (u : World) (x : Int), hd I G k = x → TagsAt u (some ⟨g, 0, none⟩) g 0 N (fun i => if i = k then x else mix k (hd I G) (fun _ => 0) i) (fun i => if i = k then wk else mix k I.W (fun _ => 0) i) → TagsAt u (some ⟨g, 0, none⟩) g 0 N (mix (k + 1) (hd I G) (fun _ => 0)) (mix (k + 1) I.W (fun _ => 0)) := fun u x hx T => by
        rw [← mix_succ k (hd I G), ← mix_succ k I.W]
        unfold Fa.up
        rw [hx, hwk.out]
        exact T
      have hnext0 : ∀ (u : World), hd I G k = 0 → TagsAt u (some ⟨g, 0, none⟩) g 0 N (mix k (hd I G) (fun _ => 0)) (fun i => if i = k then wk else mix k I.W (fun _ => 0) i) → TagsAt u (some ⟨g, 0, none⟩) g 0 N (mix (k + 1) (hd I G) (fun _ => 0)) (mix (k + 1) I.W (fun _ => 0)) := fun u hx T => by
        refine hnext u 0 hx ?_
        have e : (fun i => if i = k then (0 : Int) else mix k (hd I G) (fun _ => 0) i) = mix k (hd I G) (fun _ => 0) := funext fun i => by
          split
          · rename_i q; rw [q, mix_at]
          · rfl
        rw [e]
        exact T
      replace hnext := Lib.hid hnext
      replace hnext0 := Lib.hid hnext0
      cases hq : G.Q k with
      | nil =>
        have hhd : RowKit.Hid (hd I G k = 0) := Lib.hid (by unfold hd; rw [hq])
        have hp := Lib.hid (qhead_none _ _ _ _ _ _ _ (by have := ((hSu.out _ hB1.out).pq k hkN).q; rw [hq] at this; exact this))
        clear hq
        go_wp2_with fail
        refine hp.out.mono ?_
        rintro e u ⟨rfl, hbu⟩
        have hgu : g < (W.setCell ⟨g, k * 2 + 1, none⟩ (.int .i64 wk)).heap.size := by simpa using hgW
        have hB2 := Lib.hid (hB1.out.trans (hbu.mono (Nat.le_of_lt hgu)))
        have hT2 := hT1.out.bel hbu
        have hZ2 : ∀ o, u.frozen? ⟨g, o, none⟩ = false := fun o => (hbu.frozen (p := ⟨g, o, none⟩) hgu).trans (hZ1.out o)
        have hgu2 : g < u.heap.size := Nat.lt_of_lt_of_le hgu hbu.size
        have hBa := (Below.refl u.heap.size u).alloc (Nat.le_refl _) (.cells #[.int .i64 0, .int .i64 0, .int .i64 0, .slice none 0 0] 38)
        have hT4 := Lib.hid (hnext0.out _ hhd.out (hT2.bel hBa))
        have hZ4 : RowKit.Hid (∀ o, (u.alloc (.cells #[.int .i64 0, .int .i64 0, .int .i64 0, .slice none 0 0] 38)).frozen? ⟨g, o, none⟩ = false) := Lib.hid (fun o => (hBa.frozen (p := ⟨g, o, none⟩) hgu2).trans (hZ2 o))
        have hB4 := Lib.hid (hB2.out.trans (hBa.mono (Nat.le_of_lt hgu2)))
        clear hbu hp hT2 hZ2 hBa e0 e1 eb fq0 fq1 fq2 eq g1 gf
        go_upto_region 7 with fail
        generalize (u.alloc (.cells #[.int .i64 0, .int .i64 0, .int .i64 0, .slice none 0 0] 38)) = U at hT4 hZ4 hB4 ⊢
        go_big_quiet (fail)
        have hdr := bDrew (Below.refl U.heap.size U) nq
        have hgU : g < U.heap.size := hT4.out.hb (by omega)
        have hT5 := Lib.hid (hT4.out.bel hdr)
        have hZ5 : RowKit.Hid (∀ o, (U.drewN nq).frozen? ⟨g, o, none⟩ = false) := Lib.hid (fun o => (hdr.frozen (p := ⟨g, o, none⟩) hgU).trans (hZ4.out o))
        have hB5 := Lib.hid (bDrew hB4.out nq)
        clear hdr
        go_wp2_with fail
        go_roundw
        case rel => exact ⟨k + 1, by omega, by go_num, hT5, hZ5, hB5⟩
        case measure => simp [intOf]; omega
      | cons p l =>
        have hp := (hSu.out _ hB1.out).pq k hkN
        rw [hq] at hp
        have hpl := hp.s p (List.mem_cons_self ..)
        replace hp := Lib.hid (pq_head_ok hp)
        obtain ⟨m, hm⟩ : ∃ m, RowKit.Hid (p.d.length = m) := ⟨_, Lib.hid rfl⟩
        rw [hm.out] at hpl
        have hhd : RowKit.Hid (hd I G k = if 8 + (m : Int) ≤ G.tok tn then 8 + (m : Int) else 0) := Lib.hid (by unfold hd; rw [hq]; simp only; rw [hm.out, htnH.out, Int.toNat_natCast])
        clear hq
        go_wp2_with fail
        refine hp.out.mono ?_
        rintro e u ⟨⟨v, rfl, a, c, rfl, hby, _⟩, hbu⟩
        rw [hm.out]
        have hgu : g < (W.setCell ⟨g, k * 2 + 1, none⟩ (.int .i64 wk)).heap.size := by simpa using hgW
        have hB2 := Lib.hid (hB1.out.trans (hbu.mono (Nat.le_of_lt hgu)))
        have hT2 := hT1.out.bel hbu
        have hZ2 : ∀ o, u.frozen? ⟨g, o, none⟩ = false := fun o => (hbu.frozen (p := ⟨g, o, none⟩) hgu).trans (hZ1.out o)
        have hgu2 : g < u.heap.size := Nat.lt_of_lt_of_le hgu hbu.size
        obtain ⟨px, hpx⟩ : ∃ y, p.x = y := ⟨_, rfl⟩
        obtain ⟨pt, hpt⟩ : ∃ y, p.t = y := ⟨_, rfl⟩
        obtain ⟨pC, hpC⟩ : ∃ y, p.C = y := ⟨_, rfl⟩
        rw [hpx, hpt, hpC]
        clear hpx hpt hpC
        have hBa := (Below.refl u.heap.size u).alloc (Nat.le_refl _) (.cells #[.int .i64 px, .int .i64 pt, .int .i64 pC, .slice a m c] 38)
        have bp := By.blkN_new u [.int .i64 px, .int .i64 pt, .int .i64 pC, .slice a m c] 38
        have hT4 := Lib.hid (hT2.bel hBa)
        have hZ4 : RowKit.Hid (∀ o, (u.alloc (.cells #[.int .i64 px, .int .i64 pt, .int .i64 pC, .slice a m c] 38)).frozen? ⟨g, o, none⟩ = false) := Lib.hid (fun o => (hBa.frozen (p := ⟨g, o, none⟩) hgu2).trans (hZ2 o))
        have hB4 := Lib.hid (hB2.out.trans (hBa.mono (Nat.le_of_lt hgu2)))
        clear hbu hp hT2 hZ2 hBa e0 e1 eb fq0 fq1 fq2 eq g1 gf hby
        go_upto_region 7 with fail
        generalize (u.alloc (.cells #[.int .i64 px, .int .i64 pt, .int .i64 pC, .slice a m c] 38)) = U at hT4 hZ4 hB4 bp ⊢
        generalize u.heap.size = pb at bp ⊢
        have hU := hSu.out U hB4.out
        have e0 := hU.c3.1
        rw [hN.out] at e0
        have eb := hxu.out U hB4.out
        have fq0 := (hU.fl k hkN).1
        rw [htnH.out] at fq0
        have k0 := hU.b.c (3 + tn) _ (shC_tok I G tn ht17)
        have b0 := bp.c 0 _ rfl
        have b1 := bp.c 1 _ rfl
        have b2 := bp.c 2 _ rfl
        have b3 := bp.c 3 _ rfl
        obtain ⟨tk, htk⟩ : ∃ y, RowKit.Hid (G.tok tn = y) := ⟨_, Lib.hid rfl⟩
        rw [htk.out] at k0 hhd
        have ht17i : (tn : Int) < 17 := by omega
        have hmI : (m : Int) ≤ 1492 := by omega
        replace hU := Lib.hid hU
        replace bp := Lib.hid bp
        clear hten
        refine wp_region_noPanic ?_
        refine Stg.wp_region_L [] (Bs.SB U) (by kernel_rfl) (fun _ => (Below.refl _ _).drew) (fun hHeld => ?_)
        refine Stg.wpAnyL_start (n' := 19) (l' := #[false, false, false, false, false, false, false, false, false, false, false, false, false, false, false, false, false, false, false]) (by kernel_rfl) (by kernel_rfl) ?_
        refine Stg.wpAnyL_free (i := 0) (v := ?_) 0 rfl (by kernel_rfl) (by kernel_rfl) (by kernel_rfl) (by kernel_rfl) (by kernel_rfl) (fun _ _ _ h => h) (Or.inl ⟨by kernel_rfl, ?_⟩) (by assumption) ?_
        rotate_left
        · intro u _
          try simp only [List.getElem_toArray, List.getElem_cons_succ, List.getElem_cons_zero]
          go_simp
          try with_reducible rfl
        try simp only [Act.put, List.setIfInBounds_toArray, List.set_cons_zero, List.set_cons_succ]
        refine Stg.wpAnyL_free (i := 1) (v := ?_) 0 rfl (by kernel_rfl) (by kernel_rfl) (by kernel_rfl) (by kernel_rfl) (by kernel_rfl) (fun _ _ _ h => h) (Or.inl ⟨by kernel_rfl, ?_⟩) (by assumption) ?_
        rotate_left
        · intro u _
          try simp only [List.getElem_toArray, List.getElem_cons_succ, List.getElem_cons_zero]
          go_simp
          try with_reducible rfl
        try simp only [Act.put, List.setIfInBounds_toArray, List.set_cons_zero, List.set_cons_succ]
        refine Stg.wpAnyL_take (i := 2) (v := ?_) [3, 17, 18] 0 rfl (by kernel_rfl) (by kernel_rfl) (by kernel_rfl) (by kernel_rfl) (by kernel_rfl) (fun _ _ _ h => h) (Or.inl ⟨by kernel_rfl, ?_⟩) (by assumption) ?_
        rotate_left
        · intro u hSu
          skip
          have sB := hSu rfl
          have y0 := cellB sB e0
          have y1 := cellB sB eb
          have y2 := cellB sB fq0
          have y3 := cellB sB k0
          have y4 := cellB sB b0
          have y5 := cellB sB b1
          have y6 := cellB sB b2
          have y7 := cellB sB b3
          try simp only [List.getElem_toArray, List.getElem_cons_succ, List.getElem_cons_zero]
          go_simp
          try with_reducible rfl
        try simp only [Act.put, List.setIfInBounds_toArray, List.set_cons_zero, List.set_cons_succ]
        refine Stg.wpAnyL_start (n' := 16) (l' := #[true, true, true, false, false, false, false, false, false, false, false, false, false, false, false, false, false, false, false]) (by kernel_rfl) (by kernel_rfl) ?_
        refine Stg.wpAnyL_take (i := 4) (v := ?_) [13, 14, 15, 16, 17, 18] 0 rfl (by kernel_rfl) (by kernel_rfl) (by kernel_rfl) (by kernel_rfl) (by kernel_rfl) (fun _ _ _ h => h) (Or.inl ⟨by kernel_rfl, ?_⟩) (by assumption) ?_
        rotate_left
        · intro u hSu
          skip
          have sB := hSu rfl
          have y0 := cellB sB e0
          have y1 := cellB sB eb
          have y2 := cellB sB fq0
          have y3 := cellB sB k0
          have y4 := cellB sB b0
          have y5 := cellB sB b1
          have y6 := cellB sB b2
          have y7 := cellB sB b3
          try simp only [List.getElem_toArray, List.getElem_cons_succ, List.getElem_cons_zero]
          go_simp
          try with_reducible rfl
        try simp only [Act.put, List.setIfInBounds_toArray, List.set_cons_zero, List.set_cons_succ]
        refine Stg.wpAnyL_take (i := 5) (v := ?_) [6, 7, 8, 10, 11, 12, 15, 16, 17, 18] 0 rfl (by kernel_rfl) (by kernel_rfl) (by kernel_rfl) (by kernel_rfl) (by kernel_rfl) (fun _ _ _ h => h) (Or.inl ⟨by kernel_rfl, ?_⟩) (by assumption) ?_
        rotate_left
        · intro u hSu
          skip
          have sB := hSu rfl
          have y0 := cellB sB e0
          have y1 := cellB sB eb
          have y2 := cellB sB fq0
          have y3 := cellB sB k0
          have y4 := cellB sB b0
          have y5 := cellB sB b1
          have y6 := cellB sB b2
          have y7 := cellB sB b3
          try simp only [List.getElem_toArray, List.getElem_cons_succ, List.getElem_cons_zero]
          go_simp
          try with_reducible rfl
        try simp only [Act.put, List.setIfInBounds_toArray, List.set_cons_zero, List.set_cons_succ]
        refine Stg.wpAnyL_free (i := 6) (v := ?_) 0 rfl (by kernel_rfl) (by kernel_rfl) (by kernel_rfl) (by kernel_rfl) (by kernel_rfl) (fun _ _ _ h => h) (Or.inl ⟨by kernel_rfl, ?_⟩) (by assumption) ?_
        rotate_left
        · intro u _
          try simp only [List.getElem_toArray, List.getElem_cons_succ, List.getElem_cons_zero]
          go_simp
          try with_reducible rfl
        try simp only [Act.put, List.setIfInBounds_toArray, List.set_cons_zero, List.set_cons_succ]
        refine Stg.wpAnyL_start (n' := 13) (l' := #[true, true, true, false, true, true, true, false, false, false, false, false, false, false, false, false, false, false, false]) (by kernel_rfl) (by kernel_rfl) ?_
        refine Stg.wpAnyL_free (i := 7) (v := ?_) 0 rfl (by kernel_rfl) (by kernel_rfl) (by kernel_rfl) (by kernel_rfl) (by kernel_rfl) (fun _ _ _ h => h) (Or.inl ⟨by kernel_rfl, ?_⟩) (by assumption) ?_
        rotate_left
        · intro u _
          try simp only [List.getElem_toArray, List.getElem_cons_succ, List.getElem_cons_zero]
          go_simp
          try with_reducible rfl
        try simp only [Act.put, List.setIfInBounds_toArray, List.set_cons_zero, List.set_cons_succ]
        refine Stg.wpAnyL_take (i := 8) (v := ?_) [10, 11, 12, 15, 16, 17, 18] 0 rfl (by kernel_rfl) (by kernel_rfl) (by kernel_rfl) (by kernel_rfl) (by kernel_rfl) (fun _ _ _ h => h) (Or.inl ⟨by kernel_rfl, ?_⟩) (by assumption) ?_
        rotate_left
        · intro u hSu
          skip
          have sB := hSu rfl
          have y0 := cellB sB e0
          have y1 := cellB sB eb
          have y2 := cellB sB fq0
          have y3 := cellB sB k0
          have y4 := cellB sB b0
          have y5 := cellB sB b1
          have y6 := cellB sB b2
          have y7 := cellB sB b3
          try simp only [List.getElem_toArray, List.getElem_cons_succ, List.getElem_cons_zero]
          go_simp
          try with_reducible rfl
        try simp only [Act.put, List.setIfInBounds_toArray, List.set_cons_zero, List.set_cons_succ]
        refine Stg.wpAnyL_free (i := 9) (v := ?_) 0 rfl (by kernel_rfl) (by kernel_rfl) (by kernel_rfl) (by kernel_rfl) (by kernel_rfl) (fun _ _ _ h => h) (Or.inl ⟨by kernel_rfl, ?_⟩) (by assumption) ?_
        rotate_left
        · intro u _
          try simp only [List.getElem_toArray, List.getElem_cons_succ, List.getElem_cons_zero]
          go_simp
          try with_reducible rfl
        try simp only [Act.put, List.setIfInBounds_toArray, List.set_cons_zero, List.set_cons_succ]
        refine Stg.wpAnyL_start (n' := 10) (l' := #[true, true, true, false, true, true, true, true, true, true, false, false, false, false, false, false, false, false, false]) (by kernel_rfl) (by kernel_rfl) ?_
        refine Stg.wpAnyL_free (i := 10) (v := ?_) 0 rfl (by kernel_rfl) (by kernel_rfl) (by kernel_rfl) (by kernel_rfl) (by kernel_rfl) (fun _ _ _ h => h) (Or.inl ⟨by kernel_rfl, ?_⟩) (by assumption) ?_
        rotate_left
        · intro u _
          try simp only [List.getElem_toArray, List.getElem_cons_succ, List.getElem_cons_zero]
          go_simp
          try with_reducible rfl
        try simp only [Act.put, List.setIfInBounds_toArray, List.set_cons_zero, List.set_cons_succ]
        refine Stg.wpAnyL_free (i := 11) (v := ?_) 0 rfl (by kernel_rfl) (by kernel_rfl) (by kernel_rfl) (by kernel_rfl) (by kernel_rfl) (fun _ _ _ h => h) (Or.inl ⟨by kernel_rfl, ?_⟩) (by assumption) ?_
        rotate_left
        · intro u _
          try simp only [List.getElem_toArray, List.getElem_cons_succ, List.getElem_cons_zero]
          go_simp
          try with_reducible rfl
        try simp only [Act.put, List.setIfInBounds_toArray, List.set_cons_zero, List.set_cons_succ]
        refine Stg.wpAnyL_take (i := 12) (v := ?_) [15, 16, 17, 18] 0 rfl (by kernel_rfl) (by kernel_rfl) (by kernel_rfl) (by kernel_rfl) (by kernel_rfl) (fun _ _ _ h => h) (Or.inl ⟨by kernel_rfl, ?_⟩) (by assumption) ?_
        rotate_left
        · intro u hSu
          skip
          have sB := hSu rfl
          have y0 := cellB sB e0
          have y1 := cellB sB eb
          have y2 := cellB sB fq0
          have y3 := cellB sB k0
          have y4 := cellB sB b0
          have y5 := cellB sB b1
          have y6 := cellB sB b2
          have y7 := cellB sB b3
          try simp only [List.getElem_toArray, List.getElem_cons_succ, List.getElem_cons_zero]
          go_simp
          try with_reducible rfl
        try simp only [Act.put, List.setIfInBounds_toArray, List.set_cons_zero, List.set_cons_succ]
        refine Stg.wpAnyL_start (n' := 7) (l' := #[true, true, true, false, true, true, true, true, true, true, true, true, true, false, false, false, false, false, false]) (by kernel_rfl) (by kernel_rfl) ?_
        refine Stg.wpAnyL_free (i := 13) (v := ?_) 0 rfl (by kernel_rfl) (by kernel_rfl) (by kernel_rfl) (by kernel_rfl) (by kernel_rfl) (fun _ _ _ h => h) (Or.inl ⟨by kernel_rfl, ?_⟩) (by assumption) ?_
        rotate_left
        · intro u _
          try simp only [List.getElem_toArray, List.getElem_cons_succ, List.getElem_cons_zero]
          go_simp
          try with_reducible rfl
        try simp only [Act.put, List.setIfInBounds_toArray, List.set_cons_zero, List.set_cons_succ]
        refine Stg.wpAnyL_free (i := 14) (v := ?_) 0 rfl (by kernel_rfl) (by kernel_rfl) (by kernel_rfl) (by kernel_rfl) (by kernel_rfl) (fun _ _ _ h => h) (Or.inl ⟨by kernel_rfl, ?_⟩) (by assumption) ?_
        rotate_left
        · intro u _
          try simp only [List.getElem_toArray, List.getElem_cons_succ, List.getElem_cons_zero]
          go_simp
          try with_reducible rfl
        try simp only [Act.put, List.setIfInBounds_toArray, List.set_cons_zero, List.set_cons_succ]
        refine Stg.wpAnyL_free (i := 15) (v := ?_) 0 rfl (by kernel_rfl) (by kernel_rfl) (by kernel_rfl) (by kernel_rfl) (by kernel_rfl) (fun _ _ _ h => h) (Or.inl ⟨by kernel_rfl, ?_⟩) (by assumption) ?_
        rotate_left
        · intro u _
          try simp only [List.getElem_toArray, List.getElem_cons_succ, List.getElem_cons_zero]
          go_simp
          try with_reducible rfl
        try simp only [Act.put, List.setIfInBounds_toArray, List.set_cons_zero, List.set_cons_succ]
        refine Stg.wpAnyL_start (n' := 4) (l' := #[true, true, true, false, true, true, true, true, true, true, true, true, true, true, true, true, false, false, false]) (by kernel_rfl) (by kernel_rfl) ?_
        refine Stg.wpAnyL_take (i := 16) (v := ?_) [17, 18] 0 rfl (by kernel_rfl) (by kernel_rfl) (by kernel_rfl) (by kernel_rfl) (by kernel_rfl) (fun _ _ _ h => h) (Or.inl ⟨by kernel_rfl, ?_⟩) (by assumption) ?_
        rotate_left
        · intro u hSu
          skip
          have sB := hSu rfl
          have y0 := cellB sB e0
          have y1 := cellB sB eb
          have y2 := cellB sB fq0
          have y3 := cellB sB k0
          have y4 := cellB sB b0
          have y5 := cellB sB b1
          have y6 := cellB sB b2
          have y7 := cellB sB b3
          try simp only [List.getElem_toArray, List.getElem_cons_succ, List.getElem_cons_zero]
          go_simp
          try with_reducible rfl
        try simp only [Act.put, List.setIfInBounds_toArray, List.set_cons_zero, List.set_cons_succ]
        refine Stg.wpAnyL_one (i := 3) 0 rfl (by kernel_rfl) (by kernel_rfl) (fun K hK => ?_)
        try simp only [List.getElem_toArray, List.getElem_cons_succ, List.getElem_cons_zero]
        go_simp
        refine (psize_c _ _ _ _ a m c (by omega)).mono ?_
        rintro e w5 ⟨rfl, hb1⟩
        refine hK.out _ _ ?_ (fun hHeld1 => ?_)
        · exact fun _ => bNext (hHeld rfl) hb1 (Nat.le_refl _)
        clear hK K
        try simp only [Act.put, List.setIfInBounds_toArray, List.set_cons_zero, List.set_cons_succ]
        refine Stg.wpAnyL_free (i := 17) (v := ?_) 0 rfl (by kernel_rfl) (by kernel_rfl) (by kernel_rfl) (by kernel_rfl) (by kernel_rfl) (fun _ _ _ h => h) (Or.inl ⟨by kernel_rfl, ?_⟩) (by assumption) ?_
        rotate_left
        · intro u _
          try simp only [List.getElem_toArray, List.getElem_cons_succ, List.getElem_cons_zero]
          go_simp
          try with_reducible rfl
        try simp only [Act.put, List.setIfInBounds_toArray, List.set_cons_zero, List.set_cons_succ]
        refine Stg.wpAnyL_start (n' := 1) (l' := #[true, true, true, true, true, true, true, true, true, true, true, true, true, true, true, true, true, true, false]) (by kernel_rfl) (by kernel_rfl) ?_
        refine Stg.wpAnyL_free (i := 18) (v := ?_) 0 rfl (by kernel_rfl) (by kernel_rfl) (by kernel_rfl) (by kernel_rfl) (by kernel_rfl) (fun _ _ _ h => h) (Or.inl ⟨by kernel_rfl, ?_⟩) (by assumption) ?_
        rotate_left
        · intro u _
          try simp only [List.getElem_toArray, List.getElem_cons_succ, List.getElem_cons_zero]
          go_simp
          try with_reducible rfl
        try simp only [Act.put, List.setIfInBounds_toArray, List.set_cons_zero, List.set_cons_succ]
        refine Stg.wpAnyL_done (by kernel_rfl) ?_ _
        try simp only [List.getElem_toArray, List.getElem_cons_succ, List.getElem_cons_zero]
        try simp only [Act.put, List.setIfInBounds_toArray, List.set_cons_zero, List.set_cons_succ]
        refine NoPanic.normal ?_
        have hb5 := hHeld1 rfl
        have hgU : g < U.heap.size := hT4.out.hb (by omega)
        have hg5 : g < w5.heap.size := Nat.lt_of_lt_of_le hgU hb5.size
        have hT5 := Lib.hid (hT4.out.bel hb5)
        have hZ5 : RowKit.Hid (∀ o, w5.frozen? ⟨g, o, none⟩ = false) := Lib.hid (fun o => (hb5.frozen (p := ⟨g, o, none⟩) hgU).trans (hZ4.out o))
        have hB5 := Lib.hid (hB4.out.trans (hb5.mono (Nat.le_of_lt hgU)))
        have bp5 := bp.out.bel hb5
        have b0 := bp5.c 0 _ rfl
        have b1 := bp5.c 1 _ rfl
        have b2 := bp5.c 2 _ rfl
        have b3 := bp5.c 3 _ rfl
        clear e0 eb k0 fq0 bp5 hT4 hZ4 hB4
        clear hHeld hb1 hb5
        by_cases hfit : 8 + (m : Int) ≤ tk
        · have hhd2 : RowKit.Hid (hd I G k = 8 + (m : Int)) := Lib.hid (by rw [hhd.out, if_pos hfit])
          have hsz := Lib.hid (psize_c w5 px pt pC a m c (by omega))
          go_wp2_with fail
          refine hsz.out.mono ?_
          rintro e w6 ⟨rfl, hb6⟩
          have hT6 := hT5.out.bel hb6
          have hZ6 : RowKit.Hid (∀ o, w6.frozen? ⟨g, o, none⟩ = false) := Lib.hid (fun o => (hb6.frozen (p := ⟨g, o, none⟩) hg5).trans (hZ5.out o))
          have hB6 := Lib.hid (hB5.out.trans (hb6.mono (Nat.le_of_lt hg5)))
          have g0 := hT6.c0 k hlt
          rw [Nat.zero_add] at g0
          have gf0 := hZ6.out (k * 2)
          have hT7 := hT6.set_start k hlt (8 + (m : Int))
          rw [Nat.zero_add] at hT7
          replace hT7 := Lib.hid (hnext.out _ _ hhd2.out hT7)
          have hZ7 : RowKit.Hid (∀ o, (w6.setCell ⟨g, k * 2, none⟩ (.int .i64 (8 + (m : Int)))).frozen? ⟨g, o, none⟩ = false) := Lib.hid (fun o => (World.frozen?_setCell _ _ _ _).trans (hZ6.out o))
          have hB7 := Lib.hid (hB6.out.setCell (p := ⟨g, k * 2, none⟩) (Nat.le_refl _) (.int .i64 (8 + (m : Int))))
          clear hb6 hsz hT6 b0 b1 b2 b3
          go_wp2_with fail
          go_roundw
          case rel => exact ⟨k + 1, by omega, by go_num, hT7, hZ7, hB7⟩
          case measure => simp [intOf]; omega
        · have hhd2 : RowKit.Hid (hd I G k = 0) := Lib.hid (by rw [hhd.out, if_neg hfit])
          have hT7 := Lib.hid (hnext0.out _ hhd2.out hT5.out)
          clear b0 b1 b2 b3
          go_wp2_with fail
          go_roundw
          case rel => exact ⟨k + 1, by omega, by go_num, hT7, hZ5, hB5⟩
          case measure => simp [intOf]; omega
    · obtain rfl : k = N := by omega
      have hF : RowKit.Hid (HeadsP I G w (.returned (.slice (some ⟨g, 0, none⟩) k k)) W) := Lib.hid ⟨g, by rw [hN.out], by
        rw [hN.out]
        refine ⟨hT.out.ha, hT.out.hb, fun i hi => ?_, fun i hi => ?_⟩
        · rw [hT.out.c0 i hi, mix_lt _ _ hi]
        · rw [hT.out.c1 i hi, mix_lt _ _ hi], by rw [hg.out]; exact Nat.le_refl _, by rw [hg.out]; exact hB.out⟩
      go_wp2_with fail
      exact bodyPost_ret (v := .slice (some ⟨g, 0, none⟩) k k) (by simp [results, Try.results31, go_sem]) rfl hF.out
end Go.Proofs.Ytkefkophlhcbiaa
