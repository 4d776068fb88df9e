/- Leases: what AgentInTime says. -/
import Derived.Test.YtldknmcnmhdgfaaG20
import Derived.Test.YtldknmcnmhdgfaaOpenInts
namespace Go.Proofs.Ytldknmcnmhdgfaa
open Go.ChangeShapes Go.WideShapes Go.ChangeAt Go.RowKit Go.Deep
set_option linter.unusedVariables false
set_option linter.unusedSimpArgs false
open BigFrame Bs Ag

namespace Ag
theorem adv_ex (a S M : Int) (h : 0 ≤ S ∧ S ≤ 1125899906842624) (hM : 0 < M) (h2 : M ≤ 1099511627776) : ∃ F : Int, (S ≤ F ∧ F < S + M) ∧ wrap64 (S + (wrap64 (a.tmod M + M)).tmod M) = F := by
  obtain ⟨F, ⟨h1, h3⟩, e⟩ := mod_ex a M hM h2
  rw [e]
  exact ⟨S + F, by omega, by unfold wrap64; omega⟩
def ToldR (m : Nat → Prop) (a : Nat) (ti sz se ov no : Int) (w : World) (e : Ending) (w' : World) : Prop :=
  ∃ k lf, e = .returned (.int .i64 k) ∧ LeR m a ti sz se ov no lf w' ∧ Kp m w w' ∧ 0 ≤ lf ∧ lf ≤ sz ∧ ((k = 0 ∧ no < ov) ∨ (k = 4 ∧ ov ≤ no))
def InT (m : Nat → Prop) (a : Nat) (ti sz se : Int) (w : World) (i : Nat) (no sum lf : Int) (wr : World) : Prop :=
  LeR m a ti sz se (se + 1000 * ti) no lf wr ∧ Kp m w wr ∧ se ≤ no ∧ no ≤ se + 2147483648 + (i : Int) * 268435456 ∧ 0 ≤ lf ∧ lf ≤ sz - sum ∧ 0 ≤ sum
end Ag
theorem toldR {m : Nat → Prop} {w : World} {a : Nat} {ti sz se : Int} (h : AgE m w a (as_ 2 ti 1 5 sz se se true) none 0) (n : Int) (hno : se ≤ n) (hse : 0 ≤ se ∧ se ≤ 1125899906842624) (hti : 1 ≤ ti ∧ ti ≤ 1073741824) (hz : 1 ≤ sz ∧ sz ≤ 1000000) :
    Calls Try.prog 9 #[.pointer (some ⟨a, 0, none⟩), .int .i64 1, .int .i64 1, .agg #[.int .i64 0, .int .i64 0, .int .i64 0, .int .i64 1, .int .i64 sz], .int .i64 n] w (ToldR m a ti sz se (se + 1000 * ti) n w) := by
  by_cases hy : se + 1000 * ti ≤ n
  · exact (toldL h n 1 sz hno hse hti (by omega) (by omega) hy).mono fun e w' ⟨p, c, he, h1, h2⟩ => ⟨4, 0, he, .inr ⟨p, c, h1, hy, rfl⟩, h2, by omega, by omega, .inr ⟨rfl, hy⟩⟩
  · exact (toldA h n 1 sz hno hse hti (by omega) (by omega) hy).mono fun e w' ⟨q, g, c, he, h1, h2⟩ => ⟨0, sz, he, .inl ⟨q, g, c, _, h1, rfl, rfl, rfl, by omega⟩, h2, by omega, by omega, .inl ⟨rfl, by omega⟩⟩

set_option maxRecDepth 100000 in
set_option maxHeartbeats 4000000 in
theorem agentInTime_great (w : World) (a0 a1 a2 a3 : Int) (p1 p2 : Option Addr) (N M c1 c2 : Nat) (hg : 60 < N ∨ M < N) : Calls Try.prog 4 #[.int .i64 a0, .int .i64 a1, .int .i64 a2, .int .i64 a3, .slice p1 N c1, .slice p2 M c2] w fun e w' => e = .returned (.bool true) ∧ Below w.heap.size w w' := by
  by_cases h1 : 60 < N
  · have h1i : (60 : Int) < (N : Int) := by omega
    clear hg
    go_enter Try.func4, Try.ntmps4
    go_wp2_with fail
    refine (wakes22_c _).mono ?_
    rintro e w1 ⟨rfl, hb⟩
    go_wp2_with fail
    go_ret
    exact ⟨rfl, hb⟩
  · have h1i : (N : Int) ≤ 60 := by omega
    have h2i : (M : Int) < (N : Int) := by omega
    clear hg
    go_enter Try.func4, Try.ntmps4
    go_wp2_with fail
    refine (wakes22_c _).mono ?_
    rintro e w1 ⟨rfl, hb⟩
    go_wp2_with fail
    go_ret
    exact ⟨rfl, hb⟩

set_option maxRecDepth 100000 in
set_option maxHeartbeats 40000000 in
theorem agentInTime_some (w : World) (a0 a1 a2 a3 : Int) (f g : Nat → Int) (p1 p2 : Option Addr) (N M c1 c2 : Nat) (hN : N ≤ 60) (hNM : N ≤ M) (hf : 0 < N → ∃ b off, p1 = some ⟨b, off, none⟩ ∧ b < w.heap.size ∧ ∀ i, i < N → w.cell? ⟨b, off + i, none⟩ = some (.int .i64 (f i))) (hg : 0 < M → ∃ b off, p2 = some ⟨b, off, none⟩ ∧ b < w.heap.size ∧ ∀ i, i < M → w.cell? ⟨b, off + i, none⟩ = some (.int .i64 (g i))) : Calls Try.prog 4 #[.int .i64 a0, .int .i64 a1, .int .i64 a2, .int .i64 a3, .slice p1 N c1, .slice p2 M c2] w fun e w' => e = .returned (.bool true) ∧ Below w.heap.size w w' := by
  have hNi : (N : Int) ≤ 60 := by omega
  have hNMi : (N : Int) ≤ (M : Int) := by omega
  obtain ⟨TI, ⟨T1, T2⟩, hT⟩ := mod1_ex a0 1048576 (by omega) (by omega)
  obtain ⟨SZ, ⟨Z1, Z2⟩, hZ⟩ := mod1_ex a1 1000000 (by omega) (by omega)
  obtain ⟨SE, ⟨S1, S2⟩, hS⟩ := mod_ex a2 1099511627776 (by omega) (by omega)
  obtain ⟨NO, ⟨N1, N2⟩, hO⟩ := adv_ex a3 SE 2147483648 (by omega) (by omega) (by omega)
  replace hT := Lib.hid hT
  replace hZ := Lib.hid hZ
  replace hS := Lib.hid hS
  replace hO := Lib.hid hO
  replace hf := Lib.hid hf
  replace hg := Lib.hid hg
  have hn := Lib.hid (newF (mm w.heap.size []) w 2 1 TI (mm_nil (Nat.le_refl _)) (by omega) (by omega) (by omega))
  go_enter Try.func4, Try.ntmps4
  go_upto_region 7 with fail
  rw [hT.out, hZ.out, hS.out, hO.out]
  clear hT hZ hS hO
  go_wp2_with fail
  refine hn.out.mono ?_
  rintro e w1 ⟨a, rfl, h1, ha, hb⟩
  have k1 := Lib.hid (Kp.of (m := mm w.heap.size []) hb)
  have hk := Lib.hid (askF h1 5 SZ SE (by omega) (by omega) (by omega) (by omega))
  replace ha := Lib.hid ha
  clear hn h1 hb
  go_wp2_with fail
  refine hk.out.mono ?_
  rintro e w2 ⟨rfl, h2, o2⟩
  have k2 := k1.out.trans o2.b
  have hb := (Below.refl w2.heap.size w2).alloc (Nat.le_refl _) (.cells #[.int .i8 4, .int .i64 0, .int .i64 1, .int .i64 5, .int .i64 0, .int .i64 0, .int .i64 2, .int .i64 1, .int .i64 0, .int .i64 SZ, .int .i64 0, .bool false, .slice none 0 0] 31)
  have cb := Lib.hid (blk_new w2 [.int .i8 4, .int .i64 0, .int .i64 1, .int .i64 5, .int .i64 0, .int .i64 0, .int .i64 2, .int .i64 1, .int .i64 0, .int .i64 SZ, .int .i64 0, .bool false, .slice none 0 0] 31)
  have h3 := Lib.hid (h2.bel hb)
  have k3 := Lib.hid (k2.trans (Kp.of hb))
  have lb := Lib.hid h2.b.l
  have lw := Lib.hid k2.size
  clear hk h2 o2 k1 k2 hb
  go_upto_region 11 with fail
  generalize w2.alloc (.cells #[.int .i8 4, .int .i64 0, .int .i64 1, .int .i64 5, .int .i64 0, .int .i64 0, .int .i64 2, .int .i64 1, .int .i64 0, .int .i64 SZ, .int .i64 0, .bool false, .slice none 0 0] 31) = W3 at cb h3 k3 ⊢
  generalize w2.heap.size = c at cb lb lw ⊢
  have hm3 : ∀ i, mm w.heap.size [c] i → i < W3.heap.size := mm_one (by have := lw.out; have := cb.out.l; omega) cb.out.l
  have h4 : AgE (mm w.heap.size [c]) W3 a (as_ 2 TI 1 5 SZ SE SE true) none 0 := h3.out.re (mm_not ha.out (by have := lb.out; simp; omega)) hm3
  have hga := Lib.hid (againF h4)
  clear h3 h4 hm3 lb
  go_wp2_with fail
  refine hga.out.mono ?_
  rintro e w4 ⟨rfl, h5, k5⟩
  have cb5 := k5.blk cb.out (.inr (by simp))
  have k6 := k3.out.trans (k5.sub (mm_sub (by simp)))
  have hb := (Below.refl w4.heap.size w4).alloc (Nat.le_refl _) (.cells #[.int .i8 4, .int .i64 0, .int .i64 1, .int .i64 5, .int .i64 0, .int .i64 0, .int .i64 2, .int .i64 1, .int .i64 0, .int .i64 SZ, .int .i64 0, .bool false, .slice none 0 0] 31)
  have db := Lib.hid (blk_new w4 [.int .i8 4, .int .i64 0, .int .i64 1, .int .i64 5, .int .i64 0, .int .i64 0, .int .i64 2, .int .i64 1, .int .i64 0, .int .i64 SZ, .int .i64 0, .bool false, .slice none 0 0] 31)
  have h6 := Lib.hid (h5.bel hb)
  have k7 := Lib.hid (k6.trans (Kp.of hb))
  have cb6 := Lib.hid (cb5.bel hb)
  clear hga h5 k5 cb cb5 k6 hb k3
  go_upto_region 12 with fail
  generalize w4.alloc (.cells #[.int .i8 4, .int .i64 0, .int .i64 1, .int .i64 5, .int .i64 0, .int .i64 0, .int .i64 2, .int .i64 1, .int .i64 0, .int .i64 SZ, .int .i64 0, .bool false, .slice none 0 0] 31) = W5 at db h6 k7 cb6 ⊢
  generalize w4.heap.size = dd at db ⊢
  have c0_ := cb6.out.c 0 _ rfl
  have d0_ := db.out.c 0 _ rfl
  have c1_ := cb6.out.c 1 _ rfl
  have d1_ := db.out.c 1 _ rfl
  have c2_ := cb6.out.c 2 _ rfl
  have d2_ := db.out.c 2 _ rfl
  have c3_ := cb6.out.c 3 _ rfl
  have d3_ := db.out.c 3 _ rfl
  have c4_ := cb6.out.c 4 _ rfl
  have d4_ := db.out.c 4 _ rfl
  have c5_ := cb6.out.c 5 _ rfl
  have d5_ := db.out.c 5 _ rfl
  have c6_ := cb6.out.c 6 _ rfl
  have d6_ := db.out.c 6 _ rfl
  have c7_ := cb6.out.c 7 _ rfl
  have d7_ := db.out.c 7 _ rfl
  have c8_ := cb6.out.c 8 _ rfl
  have d8_ := db.out.c 8 _ rfl
  have c9_ := cb6.out.c 9 _ rfl
  have d9_ := db.out.c 9 _ rfl
  have c10_ := cb6.out.c 10 _ rfl
  have d10_ := db.out.c 10 _ rfl
  have c11_ := cb6.out.c 11 _ rfl
  have d11_ := db.out.c 11 _ rfl
  have c12_ := cb6.out.c 12 _ rfl
  have d12_ := db.out.c 12 _ rfl
  have hcm : ∀ W, Calls Try.prog 13 #[.agg #[.int .i8 4, .int .i64 0, .int .i64 1, .int .i64 5, .int .i64 0, .int .i64 0, .int .i64 2, .int .i64 1, .int .i64 0, .int .i64 SZ, .int .i64 0, .bool false, .slice none 0 0], .agg #[.int .i8 4, .int .i64 0, .int .i64 1, .int .i64 5, .int .i64 0, .int .i64 0, .int .i64 2, .int .i64 1, .int .i64 0, .int .i64 SZ, .int .i64 0, .bool false, .slice none 0 0]] W fun e w' => e = .returned (.bool true) ∧ Below W.heap.size W w' := fun W => command_c (as_ 2 TI 1 5 SZ SE SE true) W
  replace hcm := Lib.hid hcm
  go_wp2_with fail
  refine (hcm.out _).mono ?_
  rintro e w6 ⟨rfl, hb⟩
  have cb7 := cb6.out.bel hb
  have h7 := h6.out.bel hb
  have k8 := Lib.hid (k7.out.trans (Kp.of hb))
  have hm7 : ∀ i, mm w.heap.size [] i → i < w6.heap.size := mm_nil (by have := k8.out.size; omega)
  have h8 : AgE (mm w.heap.size []) w6 a (as_ 2 TI 1 5 SZ SE SE true) none 0 := h7.re (mm_not ha.out (by simp)) hm7
  have ht := Lib.hid (toldR h8 NO N1 (by omega) (by omega) (by omega))
  clear c0_ d0_ c1_ d1_ c2_ d2_ c3_ d3_ c4_ d4_ c5_ d5_ c6_ d6_ c7_ d7_ c8_ d8_ c9_ d9_ c10_ d10_ c11_ d11_ c12_ d12_ hcm hb h7 hm7 h8 cb6 db k7 h6 lw
  have c2_ := cb7.c 2 _ rfl
  clear cb7
  go_wp2_with fail
  refine ht.out.mono ?_
  rintro e w7 ⟨k, lf, rfl, hL, k9, l1, l2, hc⟩
  have hIn : InT (mm w.heap.size []) a TI SZ SE w 0 NO 0 lf w7 := ⟨hL, k8.out.trans k9, N1, by simp; omega, l1, by omega, Int.le_refl _⟩
  replace hIn := Lib.hid hIn
  clear ht c2_ hL k9 k8 l1 l2 ha
  rcases hc with ⟨rfl, hlt⟩ | ⟨rfl, hlt⟩
  all_goals
    go_wp2_with fail
    go_loopw [13, 22, 23] (fun s13 s22 s23 wr => ∃ (i : Nat) (no sum lf : Int), s13 = .int .i64 no ∧ s22 = .int .i64 sum ∧ s23 = .int .i64 (i : Nat) ∧ i ≤ N ∧ InT (mm w.heap.size []) a TI SZ SE w i no sum lf wr) (fun _ _ s23 _ => N - (intOf s23).toNat)
    case atStart => exact ⟨0, NO, 0, lf, rfl, rfl, rfl, Nat.zero_le _, hIn.out⟩
    case round =>
      obtain ⟨i, no, sum, lf2, rfl, rfl, rfl, hi, hR⟩ := hrel
      obtain ⟨hL, hK, o1, o2, l1, l2, u1⟩ := hR
      have ii : (i : Int) ≤ (N : Int) := by omega
      by_cases hlti : i < N
      · have ii1 : (i : Int) < (N : Int) := by omega
        have ii2 : (i : Int) < (M : Int) := by omega
        obtain ⟨b1, f1, rfl, hb1, hc1⟩ := hf.out (by omega)
        obtain ⟨b2, f2, rfl, hb2, hc2⟩ := hg.out (by omega)
        have hbl : Below w.heap.size w wr := hK.bel (fun i hi => .inl hi) (Nat.le_refl _)
        have x0 := (hbl.cell (p := ⟨b2, f2 + i, none⟩) hb2).trans (hc2 i (by omega))
        have x1 := (hbl.cell (p := ⟨b1, f1 + i, none⟩) hb1).trans (hc1 i hlti)
        obtain ⟨tv, htv⟩ : ∃ tv, g i = tv := ⟨_, rfl⟩
        obtain ⟨sv, hsv⟩ : ∃ sv, f i = sv := ⟨_, rfl⟩
        rw [htv] at x0
        rw [hsv] at x1
        have hsz1 := hK.size
        have lb1 : b1 < wr.heap.size := by omega
        replace x1 := Lib.hid x1
        clear htv hsv hc1 hc2 hbl hIn
        obtain ⟨n2, ⟨q1, q2⟩, hn2⟩ := adv_ex tv no 268435456 (by omega) (by omega) (by omega)
        replace hn2 := Lib.hid hn2
        have o3 : n2 ≤ SE + 2147483648 + (((i + 1 : Nat) : Int)) * 268435456 := by omega
        have htk := Lib.hid (tokR hL n2 q1 (by omega))
        replace o3 := Lib.hid o3
        replace hK := Lib.hid hK
        clear hL o2
        go_upto_region 23 with fail
        rw [hn2.out]
        clear hn2 x0
        go_wp2_with fail
        refine htk.out.mono ?_
        rintro e u ⟨lf3, rfl, hL2, hK2, r1, r2, r3, r4⟩
        have hK3 := hK.out.trans hK2
        have hb3 : Below w.heap.size w u := hK3.bel (fun i hi => .inl hi) (Nat.le_refl _)
        have x1' := (hK2.bel (B := w.heap.size) (fun i hi => .inl hi) hK.out.size |>.cell (p := ⟨b1, f1 + i, none⟩) hb1).trans x1.out
        have hsp := Lib.hid (fun nn => spR hL2 nn (by omega))
        have t1 : (0 : Int) < SZ + 1 := by omega
        have t2 : ¬ (SZ + 1 = 0) := by omega
        obtain ⟨nn, hnn⟩ : ∃ nn, sv.tmod (SZ + 1) = nn := ⟨_, rfl⟩
        have nn1 : nn ≤ SZ := by have := Int.tmod_lt_of_pos sv t1; omega
        have nn2 : -SZ ≤ nn := by have := Int.lt_tmod_of_pos sv t1; omega
        replace hnn := Lib.hid hnn
        replace hK3 := Lib.hid hK3
        clear htk x1 hK hK2 hb3 hL2
        by_cases hov : SE + 1000 * TI ≤ n2
        · obtain rfl := r4 hov
          clear r3 r4
          have v1 : sum ≤ SZ := by omega
          go_upto_region 27 with fail
          rw [hnn.out]
          clear hnn x1'
          go_wp2_with fail
          refine (hsp.out nn).mono ?_
          rintro e u2 ⟨k, lf4, rfl, hL3, hK4, hcase⟩
          have hK5 := hK3.out.trans hK4
          clear hsp hK3 hK4
          rcases hcase with ⟨rfl, y1, y2, rfl⟩ | ⟨hk0, rfl⟩
          · obtain rfl : nn = 0 := by omega
            replace hL3 := Lib.hid hL3
            replace hK5 := Lib.hid hK5
            go_wp2_with fail
            go_roundw
            case rel => exact ⟨i + 1, n2, sum, 0 - 0, rfl, by first | rfl | simp, by go_num, hlti, hL3.out, hK5.out, by omega, o3.out, by omega, by omega, by omega⟩
            case measure => simp [intOf]; omega
          · have hk1 : (k == 0) = false := by simpa using hk0
            replace hL3 := Lib.hid hL3
            replace hK5 := Lib.hid hK5
            go_wp2_with fail
            go_roundw
            case rel => exact ⟨i + 1, n2, sum, 0, rfl, rfl, by go_num, hlti, hL3.out, hK5.out, by omega, o3.out, by omega, by omega, by omega⟩
            case measure => simp [intOf]; omega
        · obtain rfl := r3 (by omega)
          clear r3 r4
          have hov2 : n2 < SE + 1000 * TI := by omega
          clear hov
          go_upto_region 27 with fail
          rw [hnn.out]
          clear hnn x1'
          go_wp2_with fail
          refine (hsp.out nn).mono ?_
          rintro e u2 ⟨k, lf4, rfl, hL3, hK4, hcase⟩
          have hK5 := hK3.out.trans hK4
          clear hsp hK3 hK4
          rcases hcase with ⟨rfl, y1, y2, rfl⟩ | ⟨hk0, rfl⟩
          · replace hL3 := Lib.hid hL3
            replace hK5 := Lib.hid hK5
            by_cases hn0 : nn = 0
            · subst hn0
              go_wp2_with fail
              go_roundw
              case rel => exact ⟨i + 1, n2, sum, lf3 - 0, rfl, by first | rfl | simp, by go_num, hlti, hL3.out, hK5.out, by omega, o3.out, by omega, by omega, by omega⟩
              case measure => simp [intOf]; omega
            · have hn1 : 0 < nn := by omega
              go_wp2_with fail
              go_roundw
              case rel => exact ⟨i + 1, n2, sum + nn, lf3 - nn, rfl, rfl, by go_num, hlti, hL3.out, hK5.out, by omega, o3.out, by omega, by omega, by omega⟩
              case measure => simp [intOf]; omega
          · have hk1 : (k == 0) = false := by simpa using hk0
            replace hL3 := Lib.hid hL3
            replace hK5 := Lib.hid hK5
            go_wp2_with fail
            go_roundw
            case rel => exact ⟨i + 1, n2, sum, _, rfl, rfl, by go_num, hlti, hL3.out, hK5.out, by omega, o3.out, by omega, by omega, by omega⟩
            case measure => simp [intOf]; omega
      · obtain rfl : i = N := by omega
        have v1 : sum ≤ SZ := by omega
        have hbl : Below w.heap.size w wr := hK.bel (fun i hi => .inl hi) (Nat.le_refl _)
        replace hbl := Lib.hid hbl
        clear hL hK o1 o2 l1 l2 hIn
        go_wp2_with fail
        refine (wakes22_c _).mono ?_
        rintro e w9 ⟨rfl, hb⟩
        have hF := Lib.hid (bNext hbl.out hb (Nat.le_refl _))
        clear hb hbl
        go_wp2_with fail
        go_ret
        exact ⟨rfl, hF.out⟩

abbrev XT_Lint := Nat → Int
abbrev Is_Lint (w : World) (v : Value) (f : XT_Lint) : Prop := IsInts .i64 w v f
set_option maxRecDepth 100000 in
theorem open_Lint {H : Type} {enc : TypeId × Value → H} {w : World} {r : Reach} {b0 : Nat} {v : Value} {d : DataW H} {p : List MemPlace} (hv : Value.okWide Try.prog w r b0 29 v) (h : DataW.Trod enc Try.prog w 0 (fun _ => true) true 29 v d p) : ∃ f, Is_Lint w v f :=
  open_row Try.underlying29 Try.underlying3 (by kernel_rfl) hv h
set_option maxRecDepth 100000 in
theorem agentInTime_walk (w : World) (a0 a1 a2 a3 : Int) (v4 : Value) (a4 : XT_Lint) (v5 : Value) (a5 : XT_Lint) (w0 : (Lit.int .i64 a0).wf = true) (w1 : (Lit.int .i64 a1).wf = true) (w2 : (Lit.int .i64 a2).wf = true) (w3 : (Lit.int .i64 a3).wf = true) (w4 : Is_Lint w v4 a4) (w5 : Is_Lint w v5 a5) :
    Calls Try.prog 4 #[.int .i64 a0, .int .i64 a1, .int .i64 a2, .int .i64 a3, v4, v5] w fun e w' => e = .returned (.bool true) ∧ Below w.heap.size w w' := by
  obtain ⟨p1, N, c1, rfl, _, _, hf⟩ := w4
  obtain ⟨p2, M, c2, rfl, _, _, hg⟩ := w5
  by_cases h : N ≤ 60 ∧ N ≤ M
  · refine agentInTime_some w a0 a1 a2 a3 a4 a5 p1 p2 N M c1 c2 h.1 h.2 (fun hp => ?_) (fun hp => ?_)
    · obtain ⟨b, off, e, hb, hc⟩ := hf hp
      exact ⟨b, off, e, hb, fun i hi => (hc i hi).1⟩
    · obtain ⟨b, off, e, hb, hc⟩ := hg hp
      exact ⟨b, off, e, hb, fun i hi => (hc i hi).1⟩
  · exact agentInTime_great w a0 a1 a2 a3 p1 p2 N M c1 c2 (by omega)
end Go.Proofs.Ytldknmcnmhdgfaa
