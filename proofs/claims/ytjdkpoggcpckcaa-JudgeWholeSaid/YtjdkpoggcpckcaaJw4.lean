/- The record judged as a whole: the program's answer. -/
import Derived.Test.YtjdkpoggcpckcaaJw3
namespace Go.Proofs.Ytjdkpoggcpckcaa
open Go.ChangeShapes Go.WideShapes Go.ChangeAt Go.RowKit Go.Maps
set_option linter.unusedVariables false
set_option linter.unusedSimpArgs false
open Pk BigFrame By Jw
open Bs (cellB IntRows)

namespace Jw
theorem blk_grown {w w' : World} {b q : Nat} {l : List Value} (h : Bs.Blk w b l) (hg : w.grownBy w' (some q)) (hne : b ≠ q) : Bs.Blk w' b l := by
  have e := hg.block b h.l (fun e => hne (by simpa using e))
  exact ⟨fun i x hx => (World.cell?_of_block e).trans (h.c i x hx), fun o => (World.frozen?_of_block e).trans (h.f o), Nat.lt_of_lt_of_le h.l hg.size⟩
theorem wp_updI_h {w : World} {o : Oper} {a : Act} {K : Act → World → Prop} {Q : Exit → Act → World → Prop} (m x v : Operand) (hop : o.op = Op.mapUpdate 45 m x v) {bm n : Nat} {T : Int → Int} (h : Ims w bm n T) (hn : n ≤ 1000) (hm : a.eval m = .map (some bm)) (k y : Int) (hx : a.eval x = .int .i64 k) (hv : a.eval v = .int .i64 y) (hk : (Lit.int .i64 k).wf = true) (hy : (Lit.int .i64 y).wf = true)
    (hK : ∀ w', Ims w' bm (n + 1) (upT T k y) → w.grownBy w' (some bm) → K (a.put o.dst undef) w') : RowKit.Hid (o.wp Try.prog a w K Q) := Lib.hid (wp_updI m x v hop h hn hm k y hx hv hk hy hK)
theorem wp_updB_h {w : World} {o : Oper} {a : Act} {K : Act → World → Prop} {Q : Exit → Act → World → Prop} (m x v : Operand) (hop : o.op = Op.mapUpdate 44 m x v) {bm n : Nat} {T : Int → Bool} (h : Bms w bm n T) (hn : n ≤ 1000) (hm : a.eval m = .map (some bm)) (k : Int) (y : Bool) (hx : a.eval x = .int .i64 k) (hv : a.eval v = .bool y) (hk : (Lit.int .i64 k).wf = true)
    (hK : ∀ w', Bms w' bm (n + 1) (upB T k y) → w.grownBy w' (some bm) → K (a.put o.dst undef) w') : RowKit.Hid (o.wp Try.prog a w K Q) := Lib.hid (wp_updB m x v hop h hn hm k y hx hv hk hK)
/-- Both maps, and what lay there. -/
structure MS (w wr : World) (sb lb i : Nat) (S : Nat → Nat → Int) : Prop where
  s : Bms wr sb i (seenT S i)
  l : Ims wr lb i (lastT S i)
  ge : w.heap.size ≤ sb ∧ w.heap.size ≤ lb
  ne : sb ≠ lb
  bel : Below w.heap.size w wr
theorem MS.below {w wr u : World} {sb lb i : Nat} {S : Nat → Nat → Int} (h : MS w wr sb lb i S) (k : Below wr.heap.size wr u) : MS w u sb lb i S :=
  ⟨h.s.blk (k.block _ h.s.lt), h.l.blk (k.block _ h.l.lt), h.ge, h.ne, h.bel.trans (k.mono h.bel.size)⟩
end Jw

set_option maxRecDepth 100000 in
set_option maxHeartbeats 8000000 in
theorem whole_c (w : World) (J : Jd) (ai af ao ab : Option Addr) (ci cf co cb : Nat) (fb fo ob oo : Nat) (A : Nat → Option Addr) (L C : Nat → Nat) (A2 : Nat → Option Addr) (L2 C2 : Nat → Nat) (h : JAt w J ai af ao ab fb fo ob oo A L C A2 L2 C2) (hS : ∀ q j, q < J.no → j < 6 → (Lit.int .i64 (J.S q j)).wf = true) :
    Calls Try.prog 7 #[.slice ai J.ni ci, .slice af J.N cf, .slice ao J.no co, .slice ab J.nb cb] w (BoolP J.whole w) := by
  have hk := h.k
  obtain ⟨ni, hni⟩ : ∃ n, RowKit.Hid (J.ni = n) := ⟨_, Lib.hid rfl⟩
  obtain ⟨no, hno⟩ : ∃ n, RowKit.Hid (J.no = n) := ⟨_, Lib.hid rfl⟩
  obtain ⟨nb, hnb⟩ : ∃ n, RowKit.Hid (J.nb = n) := ⟨_, Lib.hid rfl⟩
  obtain ⟨N, hN⟩ : ∃ n, RowKit.Hid (J.N = n) := ⟨_, Lib.hid rfl⟩
  rw [hni.out, hno.out, hnb.out, hN.out] at hk
  rw [hni.out, hno.out, hnb.out, hN.out]
  obtain ⟨q1, q2, q3, q4⟩ := hk
  have z1 : (ni : Int) ≤ 60 := by omega
  have z2 : (no : Int) ≤ 60 := by omega
  have z3 : (nb : Int) ≤ 60 := by omega
  replace hS := Lib.hid hS
  by_cases hlen : no = nb
  · subst hlen
    have hmm := @run_makeMap Try.prog
    have hM0 : RowKit.Hid (MS w ((w.alloc (.map #[] 0)).alloc (.map #[] 0)) w.heap.size (w.heap.size + 1) 0 J.S) := Lib.hid
      ⟨(bms_new w).blk (Below.heap_alloc _ _ _ (by simp)), by have := ims_new (w.alloc (.map #[] 0)); rwa [World.size_alloc] at this, ⟨Nat.le_refl _, by omega⟩, by omega, ((Below.refl _ w).alloc (Nat.le_refl _) _).alloc (by simp) _⟩
    replace h := Lib.hid h
    go_enter Try.func7, Try.ntmps7
    go_upto_region 5 with fail
    generalize ((w.alloc (.map #[] 0)).alloc (.map #[] 0)) = W0 at hM0 ⊢
    obtain ⟨sb, hsb⟩ : ∃ s, s = w.heap.size := ⟨_, rfl⟩
    obtain ⟨lb, hlb⟩ : ∃ s, s = w.heap.size + 1 := ⟨_, rfl⟩
    rw [← hlb, ← hsb] at hM0
    rw [← hlb, ← hsb]
    clear hsb hlb
    go_wp2_with fail
    go_loopw [8, 11, 12, 13, 14, 15, 16, 26] (fun _ _ _ _ _ _ _ s26 wr => ∃ (i : Nat), s26 = .int .i64 (i : Nat) ∧ i ≤ no ∧ RowKit.Hid (∀ j, j < i → J.ok j) ∧ RowKit.Hid (MS w wr sb lb i J.S)) (fun _ _ _ _ _ _ _ s26 _ => no - (intOf s26).toNat)
    case atStart => exact ⟨0, rfl, Nat.zero_le _, Lib.hid (fun j hj => by omega), hM0⟩
    case round =>
      obtain ⟨i, rfl, hi, hok, hM⟩ := hrel
      have iz : (i : Int) ≤ (no : Int) := by omega
      obtain ⟨W, rfl⟩ : ∃ W : World, W = wr := ⟨_, rfl⟩
      by_cases hlt : i < no
      · have iz1 : (i : Int) < (no : Int) := by omega
        have iz2 : (i : Int) + 1 ≤ 60 := by omega
        have hW := h.out.bel hM.out.bel
        obtain ⟨rfl, hobl⟩ := hW.o (by have := hno.out; omega)
        have o0 := hW.oc i 0 (by have := hno.out; omega) (by omega)
        have o1 := hW.oc i 1 (by have := hno.out; omega) (by omega)
        have o2 := hW.oc i 2 (by have := hno.out; omega) (by omega)
        have o3 := hW.oc i 3 (by have := hno.out; omega) (by omega)
        have o4 := hW.oc i 4 (by have := hno.out; omega) (by omega)
        have o5 := hW.oc i 5 (by have := hno.out; omega) (by omega)
        have f3 := hS.out i 3 (by have := hno.out; omega) (by omega)
        have f5 := hS.out i 5 (by have := hno.out; omega) (by omega)
        rw [Nat.add_zero] at o0
        replace hW := Lib.hid hW
        obtain ⟨x0, hx0⟩ : ∃ x, RowKit.Hid (J.S i 0 = x) := ⟨_, Lib.hid rfl⟩
        rw [hx0.out] at o0
        obtain ⟨x1, hx1⟩ : ∃ x, RowKit.Hid (J.S i 1 = x) := ⟨_, Lib.hid rfl⟩
        rw [hx1.out] at o1
        obtain ⟨x2, hx2⟩ : ∃ x, RowKit.Hid (J.S i 2 = x) := ⟨_, Lib.hid rfl⟩
        rw [hx2.out] at o2
        obtain ⟨x3, hx3⟩ : ∃ x, RowKit.Hid (J.S i 3 = x) := ⟨_, Lib.hid rfl⟩
        rw [hx3.out] at o3
        obtain ⟨x4, hx4⟩ : ∃ x, RowKit.Hid (J.S i 4 = x) := ⟨_, Lib.hid rfl⟩
        rw [hx4.out] at o4
        obtain ⟨x5, hx5⟩ : ∃ x, RowKit.Hid (J.S i 5 = x) := ⟨_, Lib.hid rfl⟩
        rw [hx5.out] at o5
        rw [hx3.out] at f3
        rw [hx5.out] at f5
        have hbx0 := By.blkN_new W [.int .i64 x0, .int .i64 x1, .int .i64 x2, .int .i64 x3, .int .i64 x4, .int .i64 x5] 34
        have hBx := (Below.refl W.heap.size W).alloc (Nat.le_refl _) (.cells #[.int .i64 x0, .int .i64 x1, .int .i64 x2, .int .i64 x3, .int .i64 x4, .int .i64 x5] 34)
        have hM8 := hM.out.below hBx
        have lk5 := hM8.s.look x5 f5
        have lk3 := hM8.l.look x3 f3
        obtain ⟨se, hse⟩ : ∃ x, RowKit.Hid (seenT J.S i x5 = x) := ⟨_, Lib.hid rfl⟩
        obtain ⟨la, hla⟩ : ∃ x, RowKit.Hid (lastT J.S i x3 = x) := ⟨_, Lib.hid rfl⟩
        rw [hse.out] at lk5
        rw [hla.out] at lk3
        have y2 := hbx0.c 2 _ rfl
        have y3 := hbx0.c 3 _ rfl
        have y4 := hbx0.c 4 _ rfl
        have y5 := hbx0.c 5 _ rfl
        have hxs := hM.out.ge
        have hxl : sb < W.heap.size ∧ lb < W.heap.size := ⟨hM.out.s.lt, hM.out.l.lt⟩
        have hbad : ∀ (u : World), Below (W.alloc (.cells #[.int .i64 x0, .int .i64 x1, .int .i64 x2, .int .i64 x3, .int .i64 x4, .int .i64 x5] 34)).heap.size (W.alloc (.cells #[.int .i64 x0, .int .i64 x1, .int .i64 x2, .int .i64 x3, .int .i64 x4, .int .i64 x5] 34)) u → ¬ J.ok i → BoolP J.whole w (.returned (.bool false)) u := fun u hb hn => ⟨.inr ⟨fun q => hn (q.2 i (by have := hno.out; omega)), rfl⟩, hM8.bel.trans (hb.mono hM8.bel.size)⟩
        replace hbad := Lib.hid hbad
        have hW8 := Lib.hid (hW.out.bel hBx)
        replace hM8 := Lib.hid hM8
        replace hbx0 := Lib.hid hbx0
        clear hBx
        go_upto_region 8 with fail
        clear o0 o1 o2 o3 o4 o5
        have hxW : W.heap.size < (W.alloc (.cells #[.int .i64 x0, .int .i64 x1, .int .i64 x2, .int .i64 x3, .int .i64 x4, .int .i64 x5] 34)).heap.size := hbx0.out.l
        generalize (W.alloc (.cells #[.int .i64 x0, .int .i64 x1, .int .i64 x2, .int .i64 x3, .int .i64 x4, .int .i64 x5] 34)) = V at hbx0 hM8 lk5 lk3 y2 y3 y4 y5 hbad hW8 hxW ⊢
        obtain ⟨xb, hxb⟩ : ∃ x, x = W.heap.size := ⟨_, rfl⟩
        rw [← hxb] at hbx0 y2 y3 y4 y5 hxW hxl
        rw [← hxb]
        clear hxb hW hM
        by_cases h1 : x5 < 1
        · have hF := Lib.hid (hbad.out _ (Below.refl _ _) (fun q => by have := q.1.1; have := hx5.out; omega))
          go_wp2_with fail
          exact bodyPost_ret (v := .bool false) (by simp [results, Try.results7, go_sem]) rfl hF.out
        · by_cases h2 : (ni : Int) < x5
          · have hF := Lib.hid (hbad.out _ (Below.refl _ _) (fun q => by have := q.1.2.1; have := hx5.out; have := hni.out; omega))
            go_wp2_with fail
            exact bodyPost_ret (v := .bool false) (by simp [results, Try.results7, go_sem]) rfl hF.out
          · have hci := Lib.hid (clash_iff J i hok.out (by rw [hx5.out]; omega))
            by_cases hse1 : se = true
            · subst hse1
              have hF := Lib.hid (hbad.out _ (Below.refl _ _) (fun q => by have := (hci.out.1 q.2).1; rw [hx5.out, hse.out] at this; cases this))
              go_wp2_with fail
              exact bodyPost_ret (v := .bool false) (by simp [results, Try.results7, go_sem]) rfl hF.out
            · obtain rfl : se = false := by simpa using hse1
              by_cases hla1 : x5 < la
              · have hF := Lib.hid (hbad.out _ (Below.refl _ _) (fun q => by have := (hci.out.1 q.2).2; rw [hx5.out, hx3.out, hla.out] at this; exact this hla1))
                go_wp2_with fail
                exact bodyPost_ret (v := .bool false) (by simp [results, Try.results7, go_sem]) rfl hF.out
              · have hnoclash := Lib.hid (hci.out.2 ⟨by rw [hx5.out]; exact hse.out, by rw [hx5.out, hx3.out, hla.out]; exact hla1⟩)
                obtain ⟨k, rfl⟩ : ∃ k : Nat, x5 = (k : Int) + 1 := ⟨(x5 - 1).toNat, by omega⟩
                have hkn : k < ni := by omega
                have kz : (k : Int) < (ni : Int) := by omega
                have kz2 : (k : Int) + 1 ≤ (ni : Int) := by omega
                obtain ⟨bi, oi, rfl, hbl, hcc⟩ := hW8.out.i.row (by have := hni.out; omega)
                have a0 := hcc k (by have := hni.out; omega)
                have hy := hW8.out.i.by_ k (by have := hni.out; omega)
                have hll := hW8.out.l.1 k (by have := hni.out; omega)
                have hJb : RowKit.Hid (J.b i = J.D k) := Lib.hid (by unfold Jd.b; rw [hx5.out]; congr 1)
                obtain ⟨dk, hdk⟩ : ∃ d, RowKit.Hid (J.D k = d) := ⟨_, Lib.hid rfl⟩
                obtain ⟨Ak, hAk⟩ : ∃ d, RowKit.Hid (A k = d) := ⟨_, Lib.hid rfl⟩
                obtain ⟨Lk, hLk⟩ : ∃ d, RowKit.Hid (L k = d) := ⟨_, Lib.hid rfl⟩
                obtain ⟨Ck, hCk⟩ : ∃ d, RowKit.Hid (C k = d) := ⟨_, Lib.hid rfl⟩
                rw [hdk.out, hAk.out, hLk.out, hCk.out] at hy
                rw [hAk.out, hLk.out, hCk.out] at a0
                rw [hLk.out] at hll
                have hp := Lib.hid (parseL_c Ak Lk Ck dk V hy)
                have hyH := Lib.hid hy
                have hlk : (Lk : Int) ≤ 60000 := by omega
                clear hcc hy
                go_wp2_with fail
                refine hp.out.mono ?_
                rintro e w5 ⟨(⟨hg, a1, m1, c1, rfl⟩ | ⟨hg, rfl⟩), hb5⟩
                · have hB6 := hb5.alloc hb5.size (.cells #[.int .i64 0, .int .i64 ((dk.getD 1 0 : Nat) : Int), .int .i64 ((dk.getD 2 0 : Nat) : Int), .slice a1 m1 c1] 29)
                  have bx := By.blkN_new w5 [.int .i64 0, .int .i64 ((dk.getD 1 0 : Nat) : Int), .int .i64 ((dk.getD 2 0 : Nat) : Int), .slice a1 m1 c1] 29
                  have hc2 : ((dk.getD 2 0 : Nat) : Int) ≤ 9223372036854775807 := by
                    have hlt := hyH.out.lt
                    by_cases hh : 2 < dk.length
                    · have := hlt (dk.getD 2 0) (by rw [List.getD_eq_getElem?_getD, List.getElem?_eq_getElem hh]; exact List.getElem_mem hh)
                      omega
                    · rw [List.getD_eq_getElem?_getD, List.getElem?_eq_none (by omega)]; simp
                  have ht : RowKit.Hid (J.t i = ((dk.getD 1 0 : Nat) : Int)) := Lib.hid (by unfold Jd.t; rw [hJb.out, hdk.out])
                  have hC : RowKit.Hid (J.C i = ((dk.getD 2 0 : Nat) : Int)) := Lib.hid (by unfold Jd.C; rw [hJb.out, hdk.out])
                  obtain ⟨t1, ht1⟩ : ∃ t : Int, RowKit.Hid (((dk.getD 1 0 : Nat) : Int) = t) := ⟨_, Lib.hid rfl⟩
                  obtain ⟨t2, ht2⟩ : ∃ t : Int, RowKit.Hid (((dk.getD 2 0 : Nat) : Int) = t) := ⟨_, Lib.hid rfl⟩
                  rw [ht1.out, ht2.out] at bx hB6
                  rw [ht1.out, ht2.out]
                  rw [ht1.out] at ht
                  rw [ht2.out] at hC hc2
                  replace hc2 := Lib.hid hc2
                  go_upto_region 12 with fail
                  clear a0 y2 y3 y4 y5 hp hb5 lk5 lk3
                  generalize (w5.alloc (.cells #[.int .i64 0, .int .i64 t1, .int .i64 t2, .slice a1 m1 c1] 29)) = U at bx hB6 ⊢
                  generalize w5.heap.size = pb at bx ⊢
                  have hWU := hW8.out.bel hB6
                  obtain ⟨bb, ob2, rfl, hbbl, hcb⟩ := hWU.b.row (by have := hno.out; have := hnb.out; omega)
                  have a2 := hcb i (by have := hnb.out; omega)
                  have hy2 := hWU.b.by_ i (by have := hnb.out; omega)
                  obtain ⟨ei, hei⟩ : ∃ d, RowKit.Hid (J.E i = d) := ⟨_, Lib.hid rfl⟩
                  obtain ⟨Ai2, hAi2⟩ : ∃ d, RowKit.Hid (A2 i = d) := ⟨_, Lib.hid rfl⟩
                  obtain ⟨Li2, hLi2⟩ : ∃ d, RowKit.Hid (L2 i = d) := ⟨_, Lib.hid rfl⟩
                  obtain ⟨Ci2, hCi2⟩ : ∃ d, RowKit.Hid (C2 i = d) := ⟨_, Lib.hid rfl⟩
                  rw [hei.out, hAi2.out, hLi2.out, hCi2.out] at hy2
                  rw [hAi2.out, hLi2.out, hCi2.out] at a2
                  have hy1 := hyH.out.bel hB6
                  have hiff := bsD_eq hy1.lt hy2.lt
                  have g1 := conv_bsD hy1
                  have g2 := conv_bsD hy2
                  have g1d := fun n => conv_bsD (hy1.bel (bDrew (Below.refl U.heap.size U) n))
                  have g2d := fun n => conv_bsD (hy2.bel (bDrew (Below.refl U.heap.size U) n))
                  have hlen1 : RowKit.Hid (((J.b i).length : Int) = (Lk : Int)) := Lib.hid (by rw [hJb.out, hdk.out, ← hy1.len])
                  generalize bsD dk = S1 at g1 g1d hiff
                  generalize bsD ei = S2 at g2 g2d hiff
                  clear hy1 hy2 hcb hWU
                  replace hiff := Lib.hid hiff
                  replace bx := Lib.hid bx
                  replace hB6 := Lib.hid hB6
                  by_cases hS12 : S1 = S2
                  · have hbe : RowKit.Hid (J.b i = J.E i) := Lib.hid (by rw [hJb.out, hdk.out, hei.out]; exact hiff.out.1 hS12)
                    subst hS12
                    go_big_quiet (fail)
                    have hB7 := bDrew hB6.out nq
                    have bx7 := bx.out.bel (bDrew (Below.refl U.heap.size U) nq)
                    clear a2 g1 g2 g1d g2d
                    generalize U.drewN nq = U7 at hB7 bx7 ⊢
                    have bs7 := hbx0.out.bel hB7
                    have hW7 := hW8.out.bel hB7
                    have hfl := flow_c J.T 0 t1 t2 (.slice a1 m1 c1) af J.N cf fb fo U7 (by have := hN.out; omega) (fun hn => (hW7.f hn).2) (fun hn => (hW7.f hn).1) (fun q hq => hW7.fc q hq) hc2.out
                    rw [hN.out] at hfl
                    obtain ⟨fi, hfi⟩ : ∃ f, RowKit.Hid (flowI J.T N t1 t2 = f) := ⟨_, Lib.hid rfl⟩
                    obtain ⟨fe, hfe⟩ : ∃ f, RowKit.Hid (flowE J.T N t1 t2 = f) := ⟨_, Lib.hid rfl⟩
                    rw [hfi.out, hfe.out] at hfl
                    have b0 := bx7.c 0 _ rfl
                    have b1 := bx7.c 1 _ rfl
                    have b2 := bx7.c 2 _ rfl
                    have b3 := bx7.c 3 _ rfl
                    replace hfl := Lib.hid hfl
                    replace bx7 := Lib.hid bx7
                    replace bs7 := Lib.hid bs7
                    replace hB7 := Lib.hid hB7
                    clear hW7
                    go_wp2_with fail
                    refine hfl.out.mono ?_
                    rintro e w9 ⟨rfl, hb9⟩
                    have hB9 := Lib.hid (hB7.out.trans (hb9.mono hB7.out.size))
                    have bs9 := bs7.out.bel hb9
                    have bp9 := bx7.out.bel hb9
                    have e1 := bp9.c 1 _ rfl
                    have y2 := bs9.c 2 _ rfl
                    have y3 := bs9.c 3 _ rfl
                    have y4 := bs9.c 4 _ rfl
                    have y5 := bs9.c 5 _ rfl
                    have hM9 := Lib.hid (hM8.out.below hB9.out)
                    replace bs9 := Lib.hid bs9
                    clear hb9 hfl b0 b1 b2 b3 bp9
                    by_cases hfe0 : fe = 0
                    · subst hfe0
                      by_cases hx2t : x2 = t1
                      · subst hx2t
                        by_cases hx3f : x3 = fi
                        · subst hx3f
                          by_cases hx4l : x4 = (Lk : Int)
                          · subst hx4l
                            have hho : RowKit.Hid (J.headOk i) := Lib.hid ⟨by rw [hx5.out]; omega, by rw [hx5.out, hni.out]; omega, by rw [hJb.out, hdk.out]; exact hg, by rw [ht.out, hC.out, hN.out]; exact hfe.out, hbe.out, by rw [hx2.out, ht.out], by rw [hx3.out, ht.out, hC.out, hN.out]; exact hfi.out.symm, by rw [hx4.out]; exact hlen1.out.symm⟩
                            go_upto_region 17 with fail
                            clear e1 y2 y3 y4 y5
                            refine wp_region_noPanic ?_
                            refine Stg.wp_region_L [] (fun _ u => Bs.Blk u xb [.int .i64 x0, .int .i64 x1, .int .i64 x2, .int .i64 x3, .int .i64 (Lk : Int), .int .i64 ((k : Int) + 1)]) (by kernel_rfl) (bs9.out.drew) (fun hHeld => ?_)
                            refine Stg.wpAnyL_start (n' := 10) (l' := #[false, false, false, false, false, false, false, false, false, false]) (by kernel_rfl) (by kernel_rfl) ?_
                            refine Stg.wpAnyL_free (i := 0) (v := ?_) 0 rfl (by kernel_rfl) (by kernel_rfl) (by kernel_rfl) (by kernel_rfl) (by kernel_rfl) (fun _ _ _ h => h) (Or.inl ⟨by kernel_rfl, ?_⟩) (by assumption) ?_
                            rotate_left
                            · intro u _
                              try simp only [List.getElem_toArray, List.getElem_cons_succ, List.getElem_cons_zero]
                              go_simp
                              try with_reducible rfl
                            try simp only [Act.put, List.setIfInBounds_toArray, List.set_cons_zero, List.set_cons_succ]
                            refine Stg.wpAnyL_free (i := 1) (v := ?_) 0 rfl (by kernel_rfl) (by kernel_rfl) (by kernel_rfl) (by kernel_rfl) (by kernel_rfl) (fun _ _ _ h => h) (Or.inl ⟨by kernel_rfl, ?_⟩) (by assumption) ?_
                            rotate_left
                            · intro u _
                              try simp only [List.getElem_toArray, List.getElem_cons_succ, List.getElem_cons_zero]
                              go_simp
                              try with_reducible rfl
                            try simp only [Act.put, List.setIfInBounds_toArray, List.set_cons_zero, List.set_cons_succ]
                            refine Stg.wpAnyL_take (i := 2) (v := ?_) [8, 9] 0 rfl (by kernel_rfl) (by kernel_rfl) (by kernel_rfl) (by kernel_rfl) (by kernel_rfl) (fun _ _ _ h => h) (Or.inl ⟨by kernel_rfl, ?_⟩) (by assumption) ?_
                            rotate_left
                            · intro u hSu
                              obtain ⟨sX, sY, sZ⟩ := hSu
                              have sX : Bs.Blk u xb [.int .i64 x0, .int .i64 x1, .int .i64 x2, .int .i64 x3, .int .i64 (Lk : Int), .int .i64 ((k : Int) + 1)] := ⟨sX, sY, sZ⟩
                              have y3 := sX.c 3 _ rfl
                              have y5 := sX.c 5 _ rfl
                              try simp only [List.getElem_toArray, List.getElem_cons_succ, List.getElem_cons_zero]
                              go_simp
                              try with_reducible rfl
                            try simp only [Act.put, List.setIfInBounds_toArray, List.set_cons_zero, List.set_cons_succ]
                            refine Stg.wpAnyL_start (n' := 7) (l' := #[true, true, true, false, false, false, false, false, false, false]) (by kernel_rfl) (by kernel_rfl) ?_
                            refine Stg.wpAnyL_free (i := 3) (v := ?_) 0 rfl (by kernel_rfl) (by kernel_rfl) (by kernel_rfl) (by kernel_rfl) (by kernel_rfl) (fun _ _ _ h => h) (Or.inl ⟨by kernel_rfl, ?_⟩) (by assumption) ?_
                            rotate_left
                            · intro u _
                              try simp only [List.getElem_toArray, List.getElem_cons_succ, List.getElem_cons_zero]
                              go_simp
                              try with_reducible rfl
                            try simp only [Act.put, List.setIfInBounds_toArray, List.set_cons_zero, List.set_cons_succ]
                            refine Stg.wpAnyL_free (i := 4) (v := ?_) 0 rfl (by kernel_rfl) (by kernel_rfl) (by kernel_rfl) (by kernel_rfl) (by kernel_rfl) (fun _ _ _ h => h) (Or.inl ⟨by kernel_rfl, ?_⟩) (by assumption) ?_
                            rotate_left
                            · intro u _
                              try simp only [List.getElem_toArray, List.getElem_cons_succ, List.getElem_cons_zero]
                              go_simp
                              try with_reducible rfl
                            try simp only [Act.put, List.setIfInBounds_toArray, List.set_cons_zero, List.set_cons_succ]
                            refine Stg.wpAnyL_take (i := 5) (v := ?_) [9] 0 rfl (by kernel_rfl) (by kernel_rfl) (by kernel_rfl) (by kernel_rfl) (by kernel_rfl) (fun _ _ _ h => h) (Or.inl ⟨by kernel_rfl, ?_⟩) (by assumption) ?_
                            rotate_left
                            · intro u hSu
                              obtain ⟨sX, sY, sZ⟩ := hSu
                              have sX : Bs.Blk u xb [.int .i64 x0, .int .i64 x1, .int .i64 x2, .int .i64 x3, .int .i64 (Lk : Int), .int .i64 ((k : Int) + 1)] := ⟨sX, sY, sZ⟩
                              have y3 := sX.c 3 _ rfl
                              have y5 := sX.c 5 _ rfl
                              try simp only [List.getElem_toArray, List.getElem_cons_succ, List.getElem_cons_zero]
                              go_simp
                              try with_reducible rfl
                            try simp only [Act.put, List.setIfInBounds_toArray, List.set_cons_zero, List.set_cons_succ]
                            refine Stg.wpAnyL_start (n' := 4) (l' := #[true, true, true, true, true, true, false, false, false, false]) (by kernel_rfl) (by kernel_rfl) ?_
                            refine Stg.wpAnyL_free (i := 6) (v := ?_) 0 rfl (by kernel_rfl) (by kernel_rfl) (by kernel_rfl) (by kernel_rfl) (by kernel_rfl) (fun _ _ _ h => h) (Or.inl ⟨by kernel_rfl, ?_⟩) (by assumption) ?_
                            rotate_left
                            · intro u _
                              try simp only [List.getElem_toArray, List.getElem_cons_succ, List.getElem_cons_zero]
                              go_simp
                              try with_reducible rfl
                            try simp only [Act.put, List.setIfInBounds_toArray, List.set_cons_zero, List.set_cons_succ]
                            refine Stg.wpAnyL_take (i := 7) (v := ?_) [9] 0 rfl (by kernel_rfl) (by kernel_rfl) (by kernel_rfl) (by kernel_rfl) (by kernel_rfl) (fun _ _ _ h => h) (Or.inl ⟨by kernel_rfl, ?_⟩) (by assumption) ?_
                            rotate_left
                            · intro u hSu
                              obtain ⟨sX, sY, sZ⟩ := hSu
                              have sX : Bs.Blk u xb [.int .i64 x0, .int .i64 x1, .int .i64 x2, .int .i64 x3, .int .i64 (Lk : Int), .int .i64 ((k : Int) + 1)] := ⟨sX, sY, sZ⟩
                              have y3 := sX.c 3 _ rfl
                              have y5 := sX.c 5 _ rfl
                              try simp only [List.getElem_toArray, List.getElem_cons_succ, List.getElem_cons_zero]
                              go_simp
                              try with_reducible rfl
                            try simp only [Act.put, List.setIfInBounds_toArray, List.set_cons_zero, List.set_cons_succ]
                            refine Stg.wpAnyL_one (i := 8) 0 rfl (by kernel_rfl) (by kernel_rfl) (fun K hK => ?_)
                            try simp only [List.getElem_toArray, List.getElem_cons_succ, List.getElem_cons_zero]
                            rw [if_pos (by kernel_rfl)]
                            simp only [Act.put, List.setIfInBounds_toArray, List.set_cons_zero, List.set_cons_succ]
                            have hMd := Lib.hid (hM9.out.below (Below.refl _ _).drew)
                            have hMs : Bms w9.drew sb i (seenT J.S i) := hMd.out.s
                            refine wp_updB (.tmp 107) (.tmp 109) (.const (.bool true)) rfl hMs (by omega) (by kernel_rfl) ((k : Int) + 1) true (by kernel_rfl) (by kernel_rfl) f5 ?_
                            intro u8 hs8 hg8
                            replace hs8 := Lib.hid hs8
                            replace hg8 := Lib.hid hg8
                            refine hK.out _ _ ?_ (fun hHeld1 => ?_)
                            · exact blk_grown (hHeld) hg8.out (by omega)
                            clear hK K
                            try simp only [Act.put, List.setIfInBounds_toArray, List.set_cons_zero, List.set_cons_succ]
                            refine Stg.wpAnyL_start (n' := 1) (l' := #[true, true, true, true, true, true, true, true, true, false]) (by kernel_rfl) (by kernel_rfl) ?_
                            refine Stg.wpAnyL_one (i := 9) 0 rfl (by kernel_rfl) (by kernel_rfl) (fun K hK => ?_)
                            try simp only [List.getElem_toArray, List.getElem_cons_succ, List.getElem_cons_zero]
                            rw [if_pos (by kernel_rfl)]
                            have hMl : Ims u8 lb i (lastT J.S i) := hMd.out.l.blk (hg8.out.block lb hMd.out.l.lt (by have := hMd.out.ne; simp; omega))
                            try simp only [Act.put, List.setIfInBounds_toArray, List.set_cons_zero, List.set_cons_succ]
                            refine wp_updI (.tmp 110) (.tmp 112) (.tmp 114) rfl hMl (by omega) (by kernel_rfl) x3 ((k : Int) + 1) (by kernel_rfl) (by kernel_rfl) f3 f5 ?_
                            intro u9 hl9 hg9
                            replace hl9 := Lib.hid hl9
                            replace hg9 := Lib.hid hg9
                            refine hK.out _ _ ?_ (fun hHeld2 => ?_)
                            · exact blk_grown (hHeld1) hg9.out (by omega)
                            clear hK K
                            try simp only [Act.put, List.setIfInBounds_toArray, List.set_cons_zero, List.set_cons_succ]
                            refine Stg.wpAnyL_done (by kernel_rfl) ?_ _
                            try simp only [List.getElem_toArray, List.getElem_cons_succ, List.getElem_cons_zero]
                            try simp only [Act.put, List.setIfInBounds_toArray, List.set_cons_zero, List.set_cons_succ]
                            refine NoPanic.normal ?_
                            skip
                            have hok1 := Lib.hid (show ∀ j, j < i + 1 → J.ok j from fun j hj => by
                              by_cases e : j = i
                              · subst e; exact ⟨hho.out, hnoclash.out⟩
                              · exact hok.out j (by omega))
                            have hMn : RowKit.Hid (MS w u9 sb lb (i + 1) J.S) := Lib.hid ⟨by
                                show Bms u9 sb (i + 1) (upB (seenT J.S i) (J.S i 5) true)
                                rw [hx5.out]
                                exact hs8.out.blk (hg9.out.block sb hs8.out.lt (by have := hMd.out.ne; simp; omega)), by
                                show Ims u9 lb (i + 1) (upT (lastT J.S i) (J.S i 3) (J.S i 5))
                                rw [hx3.out, hx5.out]
                                exact hl9.out, hMd.out.ge, hMd.out.ne, (hMd.out.bel.grown hg8.out hMd.out.bel.size (fun q e => by cases e; exact hMd.out.ge.1)).grown hg9.out (by have := hMd.out.bel.size; have := hg8.out.size; omega) (fun q e => by cases e; exact hMd.out.ge.2)⟩
                            go_wp2_with fail
                            go_roundw
                            case rel => exact ⟨i + 1, by go_num, hlt, hok1, hMn⟩
                            case measure => simp [intOf]; omega
                          · have hF := Lib.hid (hbad.out _ hB9.out (fun q => hx4l (by rw [← hx4.out, q.1.2.2.2.2.2.2.2]; exact hlen1.out)))
                            have hbb : (x4 == (Lk : Int)) = false := by simpa using hx4l
                            have hbc : (x4 != (Lk : Int)) = true := by simpa using hx4l
                            go_wp2_with fail
                            exact bodyPost_ret (v := .bool false) (by simp [results, Try.results7, go_sem]) rfl hF.out
                        · have hF := Lib.hid (hbad.out _ hB9.out (fun q => hx3f (by rw [← hx3.out, q.1.2.2.2.2.2.2.1, ht.out, hC.out, hN.out]; exact hfi.out)))
                          have hbb : (x3 == fi) = false := by simpa using hx3f
                          have hbc : (x3 != fi) = true := by simpa using hx3f
                          go_wp2_with fail
                          exact bodyPost_ret (v := .bool false) (by simp [results, Try.results7, go_sem]) rfl hF.out
                      · have hF := Lib.hid (hbad.out _ hB9.out (fun q => hx2t (by rw [← hx2.out, q.1.2.2.2.2.2.1, ht.out])))
                        have hbb : (x2 == t1) = false := by simpa using hx2t
                        have hbc : (x2 != t1) = true := by simpa using hx2t
                        go_wp2_with fail
                        exact bodyPost_ret (v := .bool false) (by simp [results, Try.results7, go_sem]) rfl hF.out
                    · have hF := Lib.hid (hbad.out _ hB9.out (fun q => hfe0 (by have := q.1.2.2.2.1; rw [ht.out, hC.out, hN.out, hfe.out] at this; exact this)))
                      have hfb : (fe == 0) = false := by simpa using hfe0
                      have hfc : (fe != 0) = true := by simpa using hfe0
                      go_wp2_with fail
                      exact bodyPost_ret (v := .bool false) (by simp [results, Try.results7, go_sem]) rfl hF.out
                  · have hno2 := Lib.hid (fun q : J.ok i => hS12 (hiff.out.2 (by have := q.1.2.2.2.2.1; rw [hJb.out, hdk.out, hei.out] at this; exact this)))
                    have hSn := ba_neK hS12
                    have hSb : (S1.toList == S2.toList) = false := by simpa using hSn
                    go_big_quiet (fail)
                    go_wp2_with fail
                    exact bodyPost_ret (v := .bool false) (by simp [results, Try.results7, go_sem]) rfl (hbad.out _ (bDrew hB6.out _) hno2.out)
                · have hno2 := Lib.hid (fun q : J.ok i => hg (by have := q.1.2.2.1; rw [hJb.out, hdk.out] at this; exact this))
                  have hB6 := Lib.hid (hb5.alloc hb5.size (.cells #[.int .i64 0, .int .i64 0, .int .i64 0, .slice none 0 0] 29))
                  clear hb5 hp
                  go_upto_region 12 with fail
                  go_big_quiet (fail)
                  go_wp2_with fail
                  exact bodyPost_ret (v := .bool false) (by simp [results, Try.results7, go_sem]) rfl (hbad.out _ (bDrew hB6.out _) hno2.out)
      · obtain rfl : i = no := by omega
        have hwh := Lib.hid (show J.whole from ⟨by rw [hno.out, hnb.out], fun j hj => hok.out j (by have := hno.out; omega)⟩)
        have hBf := Lib.hid hM.out.bel
        go_wp2_with fail
        exact bodyPost_ret (v := .bool true) (by simp [results, Try.results7, go_sem]) rfl ⟨.inl ⟨hwh.out, rfl⟩, hBf.out⟩
  · have hlz : ¬ (no : Int) = (nb : Int) := by omega
    have hnw := Lib.hid (show ¬ J.whole from fun q => hlen (by rw [← hno.out, ← hnb.out]; exact q.1))
    go_enter Try.func7, Try.ntmps7
    go_wp2_with fail
    go_ret
    exact ⟨.inr ⟨hnw.out, rfl⟩, Below.refl _ _⟩
end Go.Proofs.Ytjdkpoggcpckcaa
