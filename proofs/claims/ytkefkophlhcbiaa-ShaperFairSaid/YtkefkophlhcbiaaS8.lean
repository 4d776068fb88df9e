/- The shaper: New, the walk. -/
import Derived.Test.YtkefkophlhcbiaaS7
namespace Go.Proofs.Ytkefkophlhcbiaa
open Go.ChangeShapes Go.WideShapes Go.ChangeAt Go.RowKit
set_option linter.unusedVariables false
set_option linter.unusedSimpArgs false
open BigFrame Pk Sh Fa Fq
open Vr hiding cellB
open By (Byt RowG blkO)
open Fp (Pt PQ PqP)
open Bs (cellB IntRows)

namespace Sh
theorem info_flow : (Try.prog.info? 33).map (fun i => (i.zero, i.size, i.bytes)) = some (some (.agg #[.int .i64 0, .int .i64 0, .int .i64 0]), 3, 24) := by kernel_rfl
theorem info_qp : (Try.prog.info? 67).map (fun i => (i.zero, i.size, i.bytes)) = some (some (.pointer none), 1, 8) := by kernel_rfl
theorem info_int : (Try.prog.info? 3).map (fun i => (i.zero, i.size, i.bytes)) = some (some (.int .i64 0), 1, 8) := by kernel_rfl
theorem first_bad {P : Nat → Prop} : ∀ N, ¬ (∀ i, i < N → P i) → ∃ m, m < N ∧ ¬ P m ∧ ∀ i, i < m → P i
  | 0, h => absurd (fun i hi => absurd hi (by omega)) h
  | n + 1, h => by
    by_cases q : ∀ i, i < n → P i
    · exact ⟨n, by omega, fun z => h (fun i hi => by
        by_cases e : i = n
        · subst e; exact z
        · exact q i (by omega)), q⟩
    · obtain ⟨m, h1, h2, h3⟩ := first_bad n q
      exact ⟨m, by omega, h2, h3⟩
theorem totQ_nil : ∀ n, totQ (fun _ => []) n = 0
  | 0 => rfl
  | n + 1 => by unfold totQ; rw [totQ_nil n]; rfl
end Sh
set_option maxRecDepth 100000 in
set_option maxHeartbeats 16000000 in
theorem snew_c (w : World) (a : Option Addr) (b o N c : Nat) (X : Nat → Nat → Int) (h : IntRows w a b o N 3 X) (hwf : ∀ i j, i < N → j < 3 → (Lit.int .i64 (X i j)).wf = true) (hN : N ≤ 9223372036854775807) (L : List Nat) (hL : ∀ q, q ∈ L → q < w.heap.size) :
    Calls Try.prog 9 #[.slice a N c] w (NewS N X L w) := by
  by_cases h1 : (N : Int) < 1
  · have hF : RowKit.Hid (NewS N X L w (.returned (.tuple #[.pointer none, .int .i64 2])) w) := Lib.hid ⟨.inr ⟨fun q => by have := q.1; omega, 2, by decide, rfl⟩, Below.refl _ _⟩
    clear h hwf hL
    go_enter Try.func9, Try.ntmps9
    go_wp2_with fail
    exact bodyPost_ret (v := .tuple #[.pointer none, .int .i64 2]) (by simp [results, Try.results9, go_sem]) rfl hF.out
  by_cases h8 : (8 : Int) < (N : Int)
  · have hF : RowKit.Hid (NewS N X L w (.returned (.tuple #[.pointer none, .int .i64 2])) w) := Lib.hid ⟨.inr ⟨fun q => by have := q.2.1; omega, 2, by decide, rfl⟩, Below.refl _ _⟩
    clear h hwf hL
    go_enter Try.func9, Try.ntmps9
    go_wp2_with fail
    exact bodyPost_ret (v := .tuple #[.pointer none, .int .i64 2]) (by simp [results, Try.results9, go_sem]) rfl hF.out
  have z1 : (1 : Int) ≤ (N : Int) := by omega
  have z2 : (N : Int) ≤ 8 := by omega
  have hN0 : 0 < N := by omega
  obtain rfl := h.ha hN0
  obtain ⟨i0, hi0, hz0, hz1, hz2⟩ := info_parts info_flow
  obtain ⟨j0, hj0, hy0, hy1, hy2⟩ := info_parts info_qp
  obtain ⟨k0, hk0, hx0, hx1, hx2⟩ := info_parts info_int
  have hown0 : w.ownsRow w.heap.size 33 3 (.slice none 0 0) 0 [] := World.ownsRow_nil w _ _ _
  have hcells : 0 < N → ∃ ad, (some ⟨b, o, none⟩ : Option Addr) = some ad ∧ ∀ j u, (flX X N)[j]? = some u → w.cell? (ad.add j) = some u := fun _ => ⟨_, rfl, fun j u hu => by rw [Addr.add_lit]; exact flX_cell h.c j u hu⟩
  have hmx : 0 + N ≤ maxLen := by unfold maxLen; omega
  have hone : ∀ u ∈ flX X N, u.oneCell' = true := fun u hu => by obtain ⟨y, rfl⟩ := flX_mem hu; rfl
  have hH := Lib.hid h
  replace hwf := Lib.hid hwf
  replace hL := Lib.hid hL
  clear h
  go_enter Try.func9, Try.ntmps9
  go_upto_region 4 with (at_builtin; refine By.wpList_append_src rfl _ _ 22 (by rfl) w.heap.size 33 i0 _ 3 24 Try.underlying22 hi0 hz0 hz1 hz2 (by rfl) (by omega) _ _ _ (by rfl) hown0 _ N c _ (by rfl) (flX_len X N) hcells hone hmx (by omega) (Nat.le_refl _) ?_; intro v1 w3 hown1 hgrow1 hat1; rw [Nat.zero_add, List.nil_append] at hown1; have hfm := hown1.form hN0; obtain ⟨fb, cf, rfl, hfb, hfl⟩ := hfm)
  have hB3 : Below w.heap.size w w3 := (Below.refl w.heap.size w).grown hgrow1 (Nat.le_refl _) (fun q hq => by cases hq)
  have hfB : Bs.Blk w3 fb (flX X N) := ⟨fun i x hx => by
    have hi : i < (flX X N).length := (List.getElem?_eq_some_iff.1 hx).1
    rw [hown1.cellAt i (by rw [← hown1.1]; exact hi)]; exact hx, fun o => hown1.frozenAt o, hfl⟩
  clear hown0 hcells hown1 hgrow1 hat1 hone hmx
  have hBa := hB3.alloc hB3.size (.cells #[.slice (some ⟨fb, 0, none⟩) N cf, .slice none 0 0, .pointer none, .int .i64 0, .int .i64 0, .int .i64 0, .int .i64 0, .int .i64 0, .int .i64 0, .int .i64 0, .int .i64 0, .int .i64 0, .int .i64 0, .int .i64 0, .int .i64 0, .int .i64 0, .int .i64 0, .int .i64 0, .int .i64 0, .int .i64 0, .int .i64 0, .int .i64 0] 65)
  have hsb : Bs.Blk (w3.alloc (.cells #[.slice (some ⟨fb, 0, none⟩) N cf, .slice none 0 0, .pointer none, .int .i64 0, .int .i64 0, .int .i64 0, .int .i64 0, .int .i64 0, .int .i64 0, .int .i64 0, .int .i64 0, .int .i64 0, .int .i64 0, .int .i64 0, .int .i64 0, .int .i64 0, .int .i64 0, .int .i64 0, .int .i64 0, .int .i64 0, .int .i64 0, .int .i64 0] 65)) w3.heap.size (shN fb cf N (.slice none 0 0) (.pointer none)) := By.blkN_new w3 [.slice (some ⟨fb, 0, none⟩) N cf, .slice none 0 0, .pointer none, .int .i64 0, .int .i64 0, .int .i64 0, .int .i64 0, .int .i64 0, .int .i64 0, .int .i64 0, .int .i64 0, .int .i64 0, .int .i64 0, .int .i64 0, .int .i64 0, .int .i64 0, .int .i64 0, .int .i64 0, .int .i64 0, .int .i64 0, .int .i64 0, .int .i64 0] 65
  have hfB4 := hfB.bel ((Below.refl w3.heap.size w3).alloc (Nat.le_refl _) (.cells #[.slice (some ⟨fb, 0, none⟩) N cf, .slice none 0 0, .pointer none, .int .i64 0, .int .i64 0, .int .i64 0, .int .i64 0, .int .i64 0, .int .i64 0, .int .i64 0, .int .i64 0, .int .i64 0, .int .i64 0, .int .i64 0, .int .i64 0, .int .i64 0, .int .i64 0, .int .i64 0, .int .i64 0, .int .i64 0, .int .i64 0, .int .i64 0] 65))
  have hsw : w.heap.size ≤ w3.heap.size := hB3.size
  generalize (w3.alloc (.cells #[.slice (some ⟨fb, 0, none⟩) N cf, .slice none 0 0, .pointer none, .int .i64 0, .int .i64 0, .int .i64 0, .int .i64 0, .int .i64 0, .int .i64 0, .int .i64 0, .int .i64 0, .int .i64 0, .int .i64 0, .int .i64 0, .int .i64 0, .int .i64 0, .int .i64 0, .int .i64 0, .int .i64 0, .int .i64 0, .int .i64 0, .int .i64 0] 65)) = W1 at hBa hsb hfB4 ⊢
  obtain ⟨s, hs⟩ : ∃ s, w3.heap.size = s := ⟨_, rfl⟩
  have hfs : fb < s := by rw [← hs]; exact hfl
  rw [hs] at hsb hsw ⊢
  have hNw : RowKit.Hid (NwS w W1 X N s fb cf 0 0 0 (.slice none 0 0) (.slice none 0 0) (fun _ => 0) (fun _ => 0) (lab (fun _ => 2) s 1)) := Lib.hid
    ⟨hsb, hfB4, World.ownsRow_nil _ _ _ _, World.ownsRow_nil _ _ _ _, fun i hi => absurd hi (by omega), fun i hi => absurd hi (by omega), ⟨lab_eq _ _ _, lab_ne (by omega), fun q hq => (by cases hq), fun q hq => (by cases hq)⟩, fun i hi => absurd hi (by omega), ⟨hsw, hfb, fun i hi => absurd hi (by omega)⟩, hBa⟩
  clear hs hsb hfB4 hB3 hfB hBa hfs hfl
  go_wp2_with fail
  go_loopw [5, 7, 8, 9, 25] (fun s5 _ _ _ s25 wr => ∃ (k : Nat) (qa wa : Option Addr) (qc wc : Nat) (qb rb kd : Nat → Nat), k ≤ N ∧ s25 = .int .i64 (k : Nat) ∧ s5 = .slice wa k wc ∧ RowKit.Hid (NwS w wr X N s fb cf k k k (.slice qa k qc) (.slice wa k wc) qb rb kd)) (fun _ _ _ _ s25 _ => N - (intOf s25).toNat)
  case atStart => exact ⟨0, none, none, 0, 0, _, _, _, Nat.zero_le _, rfl, rfl, hNw⟩
  case round =>
    clear hNw
    obtain ⟨k, qa, wa, qc, wc, qb, rb, kd, hk, rfl, rfl, hNw⟩ := hrel
    obtain ⟨W, rfl⟩ : ∃ W : World, W = wr := ⟨_, rfl⟩
    have iz : (k : Int) ≤ (N : Int) := by omega
    by_cases hlt : k < N
    · have iz1 : (k : Int) < (N : Int) := by omega
      have hHW := hH.out.bel hNw.out.bel
      have x0 := hHW.c k 0 hlt (by omega)
      have x1 := hHW.c k 1 hlt (by omega)
      have x2 := hHW.c k 2 hlt (by omega)
      rw [Nat.add_zero] at x0
      obtain ⟨T, hT⟩ : ∃ y, RowKit.Hid (X k 0 = y) := ⟨_, Lib.hid rfl⟩
      obtain ⟨Wt, hWt⟩ : ∃ y, RowKit.Hid (X k 1 = y) := ⟨_, Lib.hid rfl⟩
      obtain ⟨R, hR⟩ : ∃ y, RowKit.Hid (X k 2 = y) := ⟨_, Lib.hid rfl⟩
      rw [hT.out] at x0
      rw [hWt.out] at x1
      rw [hR.out] at x2
      have hBc := (Below.refl W.heap.size W).alloc (Nat.le_refl _) (.cells #[.int .i64 T, .int .i64 Wt, .int .i64 R] 33)
      have bx := By.blkN_new W [.int .i64 T, .int .i64 Wt, .int .i64 R] 33
      have hN1 := Lib.hid (hNw.out.below hBc)
      have hsx := hNw.out.b.l
      have hqx : ∀ c, (Value.slice qa k qc).ownBlock = some c → c < W.heap.size := fun c hc => (hNw.out.q.lt c hc).2
      clear hHW hBc hNw
      go_upto_region 8 with fail
      clear x0 x1 x2
      generalize (W.alloc (.cells #[.int .i64 T, .int .i64 Wt, .int .i64 R] 33)) = U1 at bx hN1 ⊢
      obtain ⟨xb, hxb⟩ : ∃ y, W.heap.size = y := ⟨_, rfl⟩
      rw [hxb] at bx hsx hqx ⊢
      replace hqx := Lib.hid hqx
      clear hxb
      have b0 := bx.c 0 _ rfl
      have b1 := bx.c 1 _ rfl
      have b2 := bx.c 2 _ rfl
      by_cases hr : R < 1 ∨ 64 < R
      · have hq := qnew_bad R U1 hr
        have hF : RowKit.Hid (NewS N X L w (.returned (.tuple #[.pointer none, .int .i64 2])) U1) := Lib.hid ⟨.inr ⟨fun q => by have z := (q.2.2 k hlt).1; unfold flowOk at z; have := hR.out; omega, 2, by decide, rfl⟩, hN1.out.bel⟩
        clear hr
        go_wp2_with fail
        refine hq.mono ?_
        rintro e u ⟨rfl, rfl⟩
        go_wp2_with fail
        exact bodyPost_ret (v := .tuple #[.pointer none, .int .i64 2]) (by simp [results, Try.results9, go_sem]) rfl hF.out
      · obtain ⟨rm, rfl⟩ : ∃ rm : Nat, R = (rm : Int) := ⟨R.toNat, by omega⟩
        have hq := pq_new (room := rm) (w := U1) (by omega) (by omega) []
        have hrm : 1 ≤ rm ∧ rm ≤ 64 := by omega
        have hRn : RowKit.Hid ((X k 2).toNat = rm) := Lib.hid (by rw [hR.out]; omega)
        clear hr
        go_wp2_with fail
        refine hq.mono ?_
        rintro e u ⟨q, r, rfl, hpq, hq1, hr1, hbu⟩
        have bxu := bx.bel hbu
        have hN2 := Lib.hid (hN1.out.below hbu)
        have hqq := Lib.hid (fun hok : flowOk X k => hN1.out.queue hbu (by rw [hRn.out]; exact hpq) hq1 hr1 hok)
        have hult : U1.heap.size ≤ u.heap.size := hbu.size
        have hql := hpq.lt
        clear hq hpq hbu
        by_cases ht : T < 1 ∨ 16 < T
        · have hF : RowKit.Hid (NewS N X L w (.returned (.tuple #[.pointer none, .int .i64 2])) u) := Lib.hid ⟨.inr ⟨fun q => by have z := (q.2.2 k hlt).1; unfold flowOk at z; have := hT.out; omega, 2, by decide, rfl⟩, hN2.out.bel⟩
          clear b0 b1 b2
          have b0 := bxu.c 0 _ rfl
          by_cases ht1 : T < 1
          · clear ht
            go_wp2_with fail
            exact bodyPost_ret (v := .tuple #[.pointer none, .int .i64 2]) (by simp [results, Try.results9, go_sem]) rfl hF.out
          · have ht2 : 16 < T := by omega
            clear ht
            go_wp2_with fail
            exact bodyPost_ret (v := .tuple #[.pointer none, .int .i64 2]) (by simp [results, Try.results9, go_sem]) rfl hF.out
        · have ht1 : ¬ T < 1 := by omega
          have ht2 : ¬ 16 < T := by omega
          clear ht b0 b1 b2
          have b0 := bxu.c 0 _ rfl
          have hN3 := hqq.out (by unfold flowOk; have := hT.out; have := hR.out; omega)
          have s1 := hN3.b.c 1 _ rfl
          have fs1 := hN3.b.f 1
          have b1 := bxu.c 1 _ rfl
          have hBb := (Below.refl u.heap.size u).alloc (Nat.le_refl _) (.cells #[.pointer (some ⟨q, 0, none⟩)] 67)
          have hnb := By.blkN_new u [.pointer (some ⟨q, 0, none⟩)] 67
          have hN4 := hN3.below hBb
          have hown := hN4.q
          have hus := hN4.bel.size
          have hcel : 0 < 1 → ∃ ad, (some ⟨u.heap.size, 0, none⟩ : Option Addr) = some ad ∧ ∀ j x, ([.pointer (some ⟨q, 0, none⟩)] : List Value)[j]? = some x → (u.alloc (.cells #[.pointer (some ⟨q, 0, none⟩)] 67)).cell? (ad.add j) = some x := fun _ => ⟨_, rfl, fun j x hx => by rw [Addr.add_lit, Nat.zero_add]; exact hnb.c j x hx⟩
          have hbx4 := Lib.hid (bxu.bel hBb)
          have hN4h := Lib.hid hN4
          have hs4 := hN4.b.c 1 _ rfl
          have hfs4 := hN4.b.f 1
          have hqas : ∀ c, (Value.slice qa k qc).ownBlock = some c → c ≠ s := fun c hc e => by have := hN4.k1.2.2.1 c hc; have := hN4.k1.1; subst e; omega
          replace hqas := Lib.hid hqas
          clear hN3 hN4 hBb hqq hN1 hN2 bx
          go_upto_region 12 with (at_builtin; refine By.wpList_append_src rfl _ _ 62 (by rfl) w.heap.size 67 j0 _ 1 8 Try.underlying62 hj0 hy0 hy1 hy2 (by rfl) (by omega) _ _ _ (by rfl) hown _ 1 1 [.pointer (some ⟨q, 0, none⟩)] (by rfl) rfl hcel (by intro x hx; simp at hx; rcases hx with rfl; rfl) (by unfold maxLen; omega) (by omega) hus ?_; intro v5 w5 hown5 hgrow5 hor5; rw [← qC_succ_same] at hown5; have hfm := hown5.form (by omega); obtain ⟨g5, c5, rfl, _, _⟩ := hfm; have cs := (World.cell?_of_block (a := ⟨s, 1, none⟩) (hgrow5.block s (World.block_lt_of_cell? _ _ hs4) (fun e => hqas.out s e.symm rfl))).trans hs4; have fs := (World.frozen?_of_block (a := ⟨s, 1, none⟩) (hgrow5.block s (World.block_lt_of_cell? _ _ hs4) (fun e => hqas.out s e.symm rfl))).trans hfs4; clear hcel)
          have hN5 := Lib.hid (hN4h.out.row hown5 hgrow5 hor5)
          have hbx5 := Lib.hid (((By.KF.grown1 hgrow5).blk hbx4.out (fun z => by have := hqx.out xb (by simpa using z); omega)).other (q := s) (o := 1) (by omega) (.slice (some ⟨g5, 0, none⟩) (k + 1) c5))
          clear hown hown5 hgrow5 hor5 cs fs hs4 hfs4 s1 fs1 b0 b1 bxu hnb hus hbx4 hN4h
          generalize (w5.setCell ⟨s, 1, none⟩ (.slice (some ⟨g5, 0, none⟩) (k + 1) c5)) = U5 at hN5 hbx5 ⊢
          have b1 := hbx5.out.c 1 _ rfl
          have hBb := (Below.refl U5.heap.size U5).alloc (Nat.le_refl _) (.cells #[.int .i64 Wt] 3)
          have hnb := By.blkN_new U5 [.int .i64 Wt] 3
          have hN6 := Lib.hid (hN5.out.below hBb)
          have hown := hN6.out.wt
          have hus := hN6.out.bel.size
          have hcel : 0 < 1 → ∃ ad, (some ⟨U5.heap.size, 0, none⟩ : Option Addr) = some ad ∧ ∀ j x, ([.int .i64 Wt] : List Value)[j]? = some x → (U5.alloc (.cells #[.int .i64 Wt] 3)).cell? (ad.add j) = some x := fun _ => ⟨_, rfl, fun j x hx => by rw [Addr.add_lit, Nat.zero_add]; exact hnb.c j x hx⟩
          clear hBb hN5
          go_wp2_with (at_builtin; refine By.wpList_append_src rfl _ _ 66 (by rfl) w.heap.size 3 k0 _ 1 8 Try.underlying66 hk0 hx0 hx1 hx2 (by rfl) (by omega) _ _ _ (by rfl) hown _ 1 1 [.int .i64 Wt] (by rfl) rfl hcel (by intro x hx; simp at hx; rcases hx with rfl; rfl) (by unfold maxLen; omega) (by omega) hus ?_; intro v7 w7 hown7 hgrow7 hor7; rw [← hWt.out, ← iC_succ] at hown7; have hfm7 := hown7.form (by omega); obtain ⟨g7, c7, rfl, _, _⟩ := hfm7; have hN7 := Lib.hid (hN6.out.wts hown7 hgrow7 hor7); clear hcel hown hown7 hgrow7 hor7 hN6 hnb hus b1)
          go_roundw
          case rel => exact ⟨k + 1, _, _, _, _, _, _, _, by omega, by go_num, rfl, hN7⟩
          case measure => simp [intOf]; omega
    · obtain rfl : k = N := by omega
      have hwm := hNw.out.wt.form hN0
      obtain ⟨gw, cw, ew, _, hgwl⟩ := hwm
      have hqm := hNw.out.q.form hN0
      obtain ⟨gq, cq, eq, _, hgql⟩ := hqm
      injection ew with ew1 ew2 ew3
      injection eq with eq1 eq2 eq3
      subst ew1 ew3 eq1 eq3
      have hwc : ∀ i, i < k → W.cell? ⟨gw, 0 + i, none⟩ = some (.int .i64 (X i 1)) := fun i hi => by
        rw [Nat.zero_add, hNw.out.wt.cellAt i (by omega)]
        exact iC_at X k i hi
      have hsb2 := hNw.out.b.c 2 _ rfl
      have hsf2 := hNw.out.b.f 2
      have hsl := hNw.out.b.l
      have hsge := hNw.out.ge.1
      by_cases hgw : ∀ i, i < k → 1 ≤ X i 1 ∧ X i 1 ≤ 16
      · have hfn := fnew_ok W gw 0 k wc (fun i => X i 1) (by omega) (by omega) hgwl hwc hgw
        have hgH := Lib.hid hgw
        clear hwc hgw
        go_wp2_with fail
        refine hfn.mono ?_
        rintro e w9 ⟨f, lb, cl, tb, ct, rfl, hfd, hf, hlb, htb, hb9⟩
        have cs := (hb9.cell (p := ⟨s, 2, none⟩) hsl).trans hsb2
        have fs := (hb9.frozen (p := ⟨s, 2, none⟩) hsl).trans hsf2
        have hN9 := hNw.out.below hb9
        have k9 : By.KF [s] w9 (w9.setCell ⟨s, 2, none⟩ (.pointer (some ⟨f, 0, none⟩))) := (By.KF.refl _ _).set (.inl (by simp)) _
        have hF : RowKit.Hid (NewS k X L w (.returned (.tuple #[.pointer (some ⟨s, 0, none⟩), .int .i64 0])) (w9.setCell ⟨s, 2, none⟩ (.pointer (some ⟨f, 0, none⟩)))) := Lib.hid (by
          refine ⟨.inl ⟨⟨by omega, by omega, fun i hi => ⟨hN9.g i hi, hgH.out i hi⟩⟩, ⟨s, fb, cf, gq, qc, f, lb, cl, k, fun i => X i 0, fun i => X i 1, fun i => X i 2, qb, rb, sumW (fun i => X i 1) k⟩, rfl, ⟨tb, ct, fun _ => 0, fun c => if c < w.heap.size then 7 else if c = f then 4 else if c = lb then 5 else if c = tb then 6 else kd c, ?_⟩, rfl, rfl, rfl, rfl, rfl, fun q hq => ?_⟩, hN9.bel.setCell (p := ⟨s, 2, none⟩) hsge _⟩
          · have old : ∀ c, w.heap.size ≤ c → c < W.heap.size → (if c < w.heap.size then 7 else if c = f then 4 else if c = lb then 5 else if c = tb then 6 else kd c) = kd c := fun c h1 h2 => by
              rw [if_neg (by omega), if_neg (by omega), if_neg (by omega), if_neg (by omega)]
            have hk1 := hNw.out.k1
            have hge := hNw.out.ge
            have hsw := hNw.out.bel.size
            have hq3 := hk1.2.2.1 gq rfl
            have hqge := (hNw.out.q.lt gq rfl).1
            have ne9 : ∀ c, c < W.heap.size → kd c ≠ 1 → c ∉ [s] := fun c h1 h2 z => by simp at z; subst z; exact h2 hk1.1
            refine ⟨?_, fun i hi => ?_, fun i hi => ?_, fun i hi => ?_, fun q hq => ?_, ?_, ?_, ?_, fun i hi => ?_, fun i hi => ?_, fun i hi => ?_, ?_, fun i hi p hp => ?_, ?_⟩
            · exact hN9.b.set (i := 2) (by simp [shN, tokC]) _
            · have fB := k9.blk hN9.f (ne9 _ hNw.out.f.l (by omega))
              have e0 := fB.c _ _ (flX_at X k i 0 hi (by omega))
              have e1 := fB.c _ _ (flX_at X k i 1 hi (by omega))
              have e2 := fB.c _ _ (flX_at X k i 2 hi (by omega))
              exact ⟨e0, e1, e2⟩
            · have e0 := hN9.q.cellAt i (by have : i < k := hi; omega)
              have e1 : w9.cell? ⟨gq, i, none⟩ = some (.pointer (some ⟨qb i, 0, none⟩)) := e0.trans (qC_at qb k i hi)
              exact (World.cell?_of_block (k9.k gq (World.block_lt_of_cell? _ _ e1) (ne9 _ hgql (by omega)))).trans e1
            · have hl := (hNw.out.p i hi).lt
              have hkq := hNw.out.kq i hi
              have n1 : kd (qb i) ≠ 1 := by omega
              have n2 : kd (rb i) ≠ 1 := by omega
              exact PQ.nil_ns (PQ.kf_nil (hN9.p i hi) k9 (ne9 _ hl.1 n1) (ne9 _ hl.2 n2))
            · have := hL.out q hq
              exact ⟨by have := hb9.size; simp; omega, if_pos this⟩
            · exact (kf_fa k9).fd hfd (by simp; omega) (by simp; omega) (by simp; omega)
            · have := inv0 (N := k) (W := fun i => X i 1) (by omega) hgH.out
              exact this
            · refine ⟨(old _ hge.1 hsl).trans hk1.1, (old _ hge.2.1 hNw.out.f.l).trans hk1.2.1, (old _ hqge hgql).trans hq3, ?_, ?_, ?_⟩
              · have n1 : ¬ f < w.heap.size := by omega
                rw [if_neg n1, if_pos rfl]
              · have n1 : ¬ lb < w.heap.size := by omega
                rw [if_neg n1, if_neg (fun e => hfd.a1 e.symm), if_pos rfl]
              · have n1 : ¬ tb < w.heap.size := by omega
                rw [if_neg n1, if_neg (fun e => hfd.a2 e.symm), if_neg (fun e => hfd.a3 e.symm), if_pos rfl]
            · have hl := (hNw.out.p i hi).lt
              have hg2 := hge.2.2 i hi
              have hkq := hNw.out.kq i hi
              exact ⟨(old _ hg2.1 hl.1).trans hkq.1, (old _ hg2.2 hl.2).trans hkq.2⟩
            · have := hNw.out.g i hi
              unfold flowOk at this
              exact ⟨this.1, this.2.1⟩
            · exact ⟨Int.le_refl 0, by show (0 : Int) ≤ 1099511627776; omega⟩
            · exact ⟨by show (-1500 : Int) ≤ 0; omega, by show (0 : Int) ≤ 1048576; omega⟩
            · cases hp
            · refine ⟨?_, Nat.le_refl _, fun i hi => Nat.le_refl _, by show 0 ≤ 6000; omega⟩
              show 0 + totQ (fun _ => []) k ≤ 0
              rw [totQ_nil]
              omega
          · have hge := hNw.out.ge
            have hsw := hNw.out.bel.size
            rcases Ids.mem_ns.1 hq with e | e | e | ⟨i, hi, e | e⟩
            · rw [e]; exact hge.1
            · rw [e]; show w.heap.size ≤ f; omega
            · rw [e]; show w.heap.size ≤ lb; omega
            · rw [e]; exact (hge.2.2 i hi).1
            · rw [e]; exact (hge.2.2 i hi).2)
        clear hN9 k9 hfd hf hlb htb hb9 hfn hsb2 hsf2 hNw
        go_wp2_with fail
        exact bodyPost_ret (v := .tuple #[.pointer (some ⟨s, 0, none⟩), .int .i64 0]) (by simp [results, Try.results9, go_sem]) rfl hF.out
      · obtain ⟨m, hm, hmb, hmg⟩ := first_bad (P := fun i => 1 ≤ X i 1 ∧ X i 1 ≤ 16) k hgw
        have hfn := fnew_bad W gw 0 k wc (fun i => X i 1) (by omega) (by omega) hgwl hwc m hm hmg (by have z := hmb; show X m 1 < 1 ∨ 16 < X m 1; omega)
        have hno := Lib.hid (show ¬ newSOk k X from fun q => hgw (fun i hi => (q.2.2 i hi).2))
        clear hwc hgw hmb hmg
        go_wp2_with fail
        refine hfn.mono ?_
        rintro e w9 ⟨rfl, hb9⟩
        have cs := (hb9.cell (p := ⟨s, 2, none⟩) hsl).trans hsb2
        have fs := (hb9.frozen (p := ⟨s, 2, none⟩) hsl).trans hsf2
        have hF : RowKit.Hid (NewS k X L w (.returned (.tuple #[.pointer none, .int .i64 2])) (w9.setCell ⟨s, 2, none⟩ (.pointer none))) := Lib.hid
          ⟨.inr ⟨hno.out, 2, by decide, rfl⟩, ((hNw.out.below hb9).bel.setCell (p := ⟨s, 2, none⟩) hsge _)⟩
        clear hb9 hfn hsb2 hsf2 hNw
        go_wp2_with fail
        exact bodyPost_ret (v := .tuple #[.pointer none, .int .i64 2]) (by simp [results, Try.results9, go_sem]) rfl hF.out
end Go.Proofs.Ytkefkophlhcbiaa
