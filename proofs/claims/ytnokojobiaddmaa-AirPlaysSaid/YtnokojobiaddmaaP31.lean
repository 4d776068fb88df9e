/- A step of the law: Deliver, Look. -/
import Derived.Test.YtnokojobiaddmaaP30
namespace Go.Proofs.Ytnokojobiaddmaa
open Go.ChangeShapes Go.WideShapes Go.ChangeAt Go.RowKit Go.Maps
set_option linter.unusedVariables false
set_option linter.unusedSimpArgs false
open BigFrame Bs By Am Ar

set_option maxRecDepth 100000 in
set_option maxHeartbeats 8000000 in
theorem step_deliver_ok {m : Nat} {w : World} {g rg bp br bm n : Nat} {lv rv cv : Value} {l q : List RM} {C : Int → Int → Bool} {ps : List (Int × Int)} {ms : List Mg} {c : Nat} (hT : Tw m w g rg bp br bm n lv rv cv l q C ps ms ms) (hG : Gd C ps ms n c) (hc : c ≤ 4000) (x : Mg) (ea : Option Addr) (en ec : Nat) (sa : Option Addr) (sn sc : Nat) (da : Option Addr) (dn dc : Nat) (kk : Nat) (hk : kk < ms.length) :
    Calls Try.prog 19 #[.pointer (some ⟨g, 0, none⟩), .pointer (some ⟨rg, 0, none⟩), .agg #[.int .i64 1, .int .i64 (kk : Nat), .int .i8 x.f.k, .int .i64 x.f.fr, .int .i64 x.f.to, .int .i64 x.f.te, .int .i64 x.f.ix, .int .i64 x.f.la, .int .i64 x.f.co, .bool x.f.ok, .slice ea en ec, .int .i64 x.f.si, .int .i64 x.f.st, .int .u8 x.f.su, .slice sa sn sc, .slice da dn dc]] w (StepP m g rg bp br c w) := by
  have hkl : kk < l.length := by have := hT.ta.1; omega
  have hkq : kk < q.length := by have := hT.tr.1; omega
  have hxm : ms.getD kk mg0 ∈ ms := by simp only [List.getD, List.getElem?_eq_getElem hk, Option.getD_some]; exact List.getElem_mem hk
  have hsm := hG.sm _ hxm
  have hwf := hG.wf _ hxm
  have hx1 := hT.ta.at hkl
  have hx2 := hT.tr.at hkq
  have hG3 := Lib.hid (hG.sub (List.eraseIdx_sublist ms kk))
  have hag := hG.ag _ _ hwf.1 hwf.2
  have hC1 := fun u (hu : Below w.heap.size w u) => air_deliver kk (hT.a.bel hu) _ hkl (hx1.bel hu) hsm (by have := hT.ta.1; have := hG.le; omega) (addr_wf hwf.1.1 hwf.1.2) (addr_wf hwf.2.1 hwf.2.2)
  obtain ⟨z, hz⟩ : ∃ z, ms.getD kk mg0 = z := ⟨_, rfl⟩
  rw [hz] at hag hC1 hsm hwf
  obtain ⟨B, hB⟩ : ∃ B, C z.f.fr z.f.to = B := ⟨_, rfl⟩
  have hBd : decide ((z.f.fr, z.f.to) ∈ ps) = B := hag.symm.trans hB
  unfold DelivP at hC1
  rw [hB] at hC1
  replace hBd := Lib.hid hBd
  replace hC1 := Lib.hid hC1
  replace hz := Lib.hid hz
  clear hag hB
  replace hsm := Lib.hid hsm
  replace hkl := Lib.hid hkl
  replace hkq := Lib.hid hkq
  clear hxm hk hwf hx1 hx2
  have hb0 : Below w.heap.size w (w.alloc (.cells #[.int .i64 1, .int .i64 (kk : Nat), .int .i8 x.f.k, .int .i64 x.f.fr, .int .i64 x.f.to, .int .i64 x.f.te, .int .i64 x.f.ix, .int .i64 x.f.la, .int .i64 x.f.co, .bool x.f.ok, .slice ea en ec, .int .i64 x.f.si, .int .i64 x.f.st, .int .u8 x.f.su, .slice sa sn sc, .slice da dn dc] 55)) := (Below.refl _ _).alloc (Nat.le_refl _) _
  have bx := HT.new w #[.int .i64 1, .int .i64 (kk : Nat), .int .i8 x.f.k, .int .i64 x.f.fr, .int .i64 x.f.to, .int .i64 x.f.te, .int .i64 x.f.ix, .int .i64 x.f.la, .int .i64 x.f.co, .bool x.f.ok, .slice ea en ec, .int .i64 x.f.si, .int .i64 x.f.st, .int .u8 x.f.su, .slice sa sn sc, .slice da dn dc] 55
  have hTd := (hT.bel hb0).bel (Below.refl _ _).drew
  have hT1 := hT.bel hb0
  have hBm := (hb0.mono hT.mle)
  have hll : l.length = ms.length := hT.ta.1
  have hql : q.length = ms.length := hT.tr.1
  have hle := hG.le
  have hmle := hT.mle
  replace hb0 := Lib.hid hb0
  replace bx := Lib.hid bx
  replace hTd := Lib.hid hTd
  replace hT1 := Lib.hid hT1
  replace hBm := Lib.hid hBm
  replace hG := Lib.hid hG
  replace hll := Lib.hid hll
  replace hql := Lib.hid hql
  replace hle := Lib.hid hle
  clear hT
  go_enter Try.func19, Try.ntmps19
  go_upto_region 1 with fail
  replace bx := bx.out
  replace hTd := hTd.out
  replace hT1 := hT1.out
  replace hBm := hBm.out
  replace hb0 := hb0.out
  generalize (w.alloc (.cells #[.int .i64 1, .int .i64 (kk : Nat), .int .i8 x.f.k, .int .i64 x.f.fr, .int .i64 x.f.to, .int .i64 x.f.te, .int .i64 x.f.ix, .int .i64 x.f.la, .int .i64 x.f.co, .bool x.f.ok, .slice ea en ec, .int .i64 x.f.si, .int .i64 x.f.st, .int .u8 x.f.su, .slice sa sn sc, .slice da dn dc] 55)) = W1 at bx hTd hT1 hBm hb0 ⊢
  generalize w.heap.size = xb at bx hmle ⊢
  have y0 := bx.c 0 _ rfl
  have y1 := bx.c 1 _ rfl
  have y2 := bx.c 2 _ rfl
  have y3 := bx.c 3 _ rfl
  have y4 := bx.c 4 _ rfl
  have y5 := bx.c 5 _ rfl
  have y6 := bx.c 6 _ rfl
  have y7 := bx.c 7 _ rfl
  have y8 := bx.c 8 _ rfl
  have y9 := bx.c 9 _ rfl
  have y10 := bx.c 10 _ rfl
  have y11 := bx.c 11 _ rfl
  have y12 := bx.c 12 _ rfl
  have y13 := bx.c 13 _ rfl
  have y14 := bx.c 14 _ rfl
  have y15 := bx.c 15 _ rfl
  replace bx := Lib.hid bx
  replace hTd := Lib.hid hTd
  replace hT1 := Lib.hid hT1
  replace hBm := Lib.hid hBm
  replace hb0 := Lib.hid hb0
  go_wp2_with fail
  refine (hC1.out _ hb0.out).mono ?_
  rintro e u1 ⟨lv1, r1, rfl, hA1, hM1, hK1⟩
  have hF1 := hK1.fx
  have hB1 := hT1.out.bprog hF1
  have hT2 := hT1.out.prog hF1 hA1 ((hT1.out.ta.tf (hF1.tf hT1.out.a.types hT1.out.a.own)).erase kk)
  have bx2 := hT1.out.bxp hF1 bx.out (by decide) (by decide)
  have hal := (Below.refl u1.heap.size u1).alloc (Nat.le_refl _) (.cells #[.int .i8 z.f.k, .int .i64 z.f.fr, .int .i64 z.f.to, .int .i64 z.f.te, .int .i64 z.f.ix, .int .i64 z.f.la, .int .i64 z.f.co, .bool z.f.ok, .slice r1.ea r1.en r1.ec, .int .i64 z.f.si, .int .i64 z.f.st, .int .u8 z.f.su, .slice r1.sa r1.sn r1.sc, .slice r1.da r1.dn r1.dc] 34)
  have b7 := HT.new u1 #[.int .i8 z.f.k, .int .i64 z.f.fr, .int .i64 z.f.to, .int .i64 z.f.te, .int .i64 z.f.ix, .int .i64 z.f.la, .int .i64 z.f.co, .bool z.f.ok, .slice r1.ea r1.en r1.ec, .int .i64 z.f.si, .int .i64 z.f.st, .int .u8 z.f.su, .slice r1.sa r1.sn r1.sc, .slice r1.da r1.dn r1.dc] 34
  have hrv : rv.ownBlock ≠ some u1.heap.size := fun e => by have := (hT2.r.ra.own.lt _ e).2; omega
  have hT3 := hT2.bel hal
  have bx3 := bx2.bel hal
  have hM3 := hM1.bel hal
  have hB3 := (hBm.out.trans hB1).trans (hal.mono hT2.mle)
  have hkq2 : kk < q.length := hkq.out
  have hx2 := hT3.tr.at hkq2
  rw [hz.out] at hx2
  clear y0 y1 y2 y3 y4 y5 y6 y7 y8 y9 y10 y11 y12 y13 y14 y15
  have y1 := bx3.c 1 _ rfl
  have hC2 := rdeliver kk hT3.r _ hkq2 hx2 hsm.out (by have := hql.out; have := hle.out; omega) (by have := hG.out.p1; omega)
  unfold RDelivP at hC2
  rw [hBd.out] at hC2
  replace hC2 := Lib.hid hC2
  replace b7 := Lib.hid b7
  replace hT3 := Lib.hid hT3
  replace bx3 := Lib.hid bx3
  replace hM3 := Lib.hid hM3
  replace hB3 := Lib.hid hB3
  replace hrv := Lib.hid hrv
  clear hal hM1 hT2 bx2 hx2 hB1 hkq2 hF1 hK1 hA1
  go_upto_region 6 with fail
  replace hC2 := hC2.out
  replace b7 := b7.out
  replace hT3 := hT3.out
  replace bx3 := bx3.out
  replace hM3 := hM3.out
  replace hB3 := hB3.out
  generalize (u1.alloc (.cells #[.int .i8 z.f.k, .int .i64 z.f.fr, .int .i64 z.f.to, .int .i64 z.f.te, .int .i64 z.f.ix, .int .i64 z.f.la, .int .i64 z.f.co, .bool z.f.ok, .slice r1.ea r1.en r1.ec, .int .i64 z.f.si, .int .i64 z.f.st, .int .u8 z.f.su, .slice r1.sa r1.sn r1.sc, .slice r1.da r1.dn r1.dc] 34)) = U1 at hC2 b7 hT3 bx3 hM3 hB3 y1 ⊢
  generalize u1.heap.size = zb at b7 hrv ⊢
  replace b7 := Lib.hid b7
  replace hT3 := Lib.hid hT3
  replace hM3 := Lib.hid hM3
  replace hB3 := Lib.hid hB3
  replace bx3 := Lib.hid bx3
  go_wp2_with fail
  refine hC2.mono ?_
  rintro e u2 ⟨rv2, r2, rfl, hR2, hM2, hF2⟩
  have hB2 := hT3.out.brefr hF2
  have hT4 := hT3.out.refr hF2 hR2 ((hT3.out.tr.tf (hF2.tf hT3.out.r.types hT3.out.r.ra.own)).erase kk)
  have b8 := hT3.out.bxr' hF2 b7.out (by decide) hrv.out
  have hM4 := hM3.out.tf (hF2.tf hT3.out.r.types hT3.out.r.ra.own)
  have hal2 := (Below.refl u2.heap.size u2).alloc (Nat.le_refl _) (.cells #[.int .i8 z.f.k, .int .i64 z.f.fr, .int .i64 z.f.to, .int .i64 z.f.te, .int .i64 z.f.ix, .int .i64 z.f.la, .int .i64 z.f.co, .bool z.f.ok, .slice r2.ea r2.en r2.ec, .int .i64 z.f.si, .int .i64 z.f.st, .int .u8 z.f.su, .slice r2.sa r2.sn r2.sc, .slice r2.da r2.dn r2.dc] 34)
  have b10 := HT.new u2 #[.int .i8 z.f.k, .int .i64 z.f.fr, .int .i64 z.f.to, .int .i64 z.f.te, .int .i64 z.f.ix, .int .i64 z.f.la, .int .i64 z.f.co, .bool z.f.ok, .slice r2.ea r2.en r2.ec, .int .i64 z.f.si, .int .i64 z.f.st, .int .u8 z.f.su, .slice r2.sa r2.sn r2.sc, .slice r2.da r2.dn r2.dc] 34
  have hT5 := hT4.bel hal2
  have b9 := b8.bel hal2
  have hM5 := hM4.bel hal2
  have hM6 := hM2.bel hal2
  have hB5 := (hB3.out.trans hB2).trans (hal2.mono hT4.mle)
  have hsame := sameM_c z r1 r2 _ hM5.is hM6.is
  replace hsame := Lib.hid hsame
  replace b9 := Lib.hid b9
  replace b10 := Lib.hid b10
  replace hT5 := Lib.hid hT5
  replace hB5 := Lib.hid hB5
  clear hal2 hM2 hT4 hB2 b8 hM4 hM5 hM6 y1 hC2 hF2 hR2
  go_upto_region 7 with fail
  replace hsame := hsame.out
  replace b9 := b9.out
  replace b10 := b10.out
  replace hT5 := hT5.out
  replace hB5 := hB5.out
  generalize (u2.alloc (.cells #[.int .i8 z.f.k, .int .i64 z.f.fr, .int .i64 z.f.to, .int .i64 z.f.te, .int .i64 z.f.ix, .int .i64 z.f.la, .int .i64 z.f.co, .bool z.f.ok, .slice r2.ea r2.en r2.ec, .int .i64 z.f.si, .int .i64 z.f.st, .int .u8 z.f.su, .slice r2.sa r2.sn r2.sc, .slice r2.da r2.dn r2.dc] 34)) = U2 at hsame b9 b10 hT5 hB5 ⊢
  generalize u2.heap.size = tb at b10 ⊢
  have p0 := b9.c 0 _ rfl
  have q0 := b10.c 0 _ rfl
  have p1 := b9.c 1 _ rfl
  have q1 := b10.c 1 _ rfl
  have p2 := b9.c 2 _ rfl
  have q2 := b10.c 2 _ rfl
  have p3 := b9.c 3 _ rfl
  have q3 := b10.c 3 _ rfl
  have p4 := b9.c 4 _ rfl
  have q4 := b10.c 4 _ rfl
  have p5 := b9.c 5 _ rfl
  have q5 := b10.c 5 _ rfl
  have p6 := b9.c 6 _ rfl
  have q6 := b10.c 6 _ rfl
  have p7 := b9.c 7 _ rfl
  have q7 := b10.c 7 _ rfl
  have p8 := b9.c 8 _ rfl
  have q8 := b10.c 8 _ rfl
  have p9 := b9.c 9 _ rfl
  have q9 := b10.c 9 _ rfl
  have p10 := b9.c 10 _ rfl
  have q10 := b10.c 10 _ rfl
  have p11 := b9.c 11 _ rfl
  have q11 := b10.c 11 _ rfl
  have p12 := b9.c 12 _ rfl
  have q12 := b10.c 12 _ rfl
  have p13 := b9.c 13 _ rfl
  have q13 := b10.c 13 _ rfl
  replace hT5 := Lib.hid hT5
  replace hB5 := Lib.hid hB5
  clear b9 b10
  go_wp2_with fail
  refine hsame.mono ?_
  rintro e u4 ⟨rfl, hb4⟩
  have hT6 := Lib.hid (hT5.out.bel hb4)
  have hB6 := Lib.hid (hB5.out.trans (hb4.mono hT5.out.mle))
  clear hb4 p0 q0 p1 q1 p2 q2 p3 q3 p4 q4 p5 q5 p6 q6 p7 q7 p8 q8 p9 q9 p10 q10 p11 q11 p12 q12 p13 q13
  go_wp2_with fail
  go_ret
  exact ⟨rfl, ⟨_, _, _, _, _, _, _, _, _, _, hT6.out, hG3.out⟩, hB6.out⟩

set_option maxRecDepth 100000 in
set_option maxHeartbeats 8000000 in
theorem step_look_ok {m : Nat} {w : World} {g rg bp br bm n : Nat} {lv rv cv : Value} {l q : List RM} {C : Int → Int → Bool} {ps : List (Int × Int)} {ms : List Mg} {c : Nat} (hT : Tw m w g rg bp br bm n lv rv cv l q C ps ms ms) (hG : Gd C ps ms n c) (hc : c ≤ 4000) (x : Mg) (ea : Option Addr) (en ec : Nat) (sa : Option Addr) (sn sc : Nat) (da : Option Addr) (dn dc : Nat) (kk : Nat) (hk : kk < ms.length) :
    Calls Try.prog 19 #[.pointer (some ⟨g, 0, none⟩), .pointer (some ⟨rg, 0, none⟩), .agg #[.int .i64 7, .int .i64 (kk : Nat), .int .i8 x.f.k, .int .i64 x.f.fr, .int .i64 x.f.to, .int .i64 x.f.te, .int .i64 x.f.ix, .int .i64 x.f.la, .int .i64 x.f.co, .bool x.f.ok, .slice ea en ec, .int .i64 x.f.si, .int .i64 x.f.st, .int .u8 x.f.su, .slice sa sn sc, .slice da dn dc]] w (StepP m g rg bp br c w) := by
  have hkl : kk < l.length := by have := hT.ta.1; omega
  have hkq : kk < q.length := by have := hT.tr.1; omega
  have hxm : ms.getD kk mg0 ∈ ms := by simp only [List.getD, List.getElem?_eq_getElem hk, Option.getD_some]; exact List.getElem_mem hk
  have hsm := hG.sm _ hxm
  have hwf := hG.wf _ hxm
  have hx1 := hT.ta.at hkl
  have hx2 := hT.tr.at hkq
  have hG3 := Lib.hid hG.up
  have hC1 := fun u (hu : Below w.heap.size w u) => alook_ok (hT.a.bel hu).ra kk _ hkl (hx1.bel hu) hsm (by have := hT.ta.1; have := hG.le; omega)
  obtain ⟨z, hz⟩ : ∃ z, ms.getD kk mg0 = z := ⟨_, rfl⟩
  rw [hz] at hC1 hsm hwf
  replace hC1 := Lib.hid hC1
  replace hz := Lib.hid hz
  replace hsm := Lib.hid hsm
  replace hkl := Lib.hid hkl
  replace hkq := Lib.hid hkq
  clear hxm hk hwf hx1 hx2
  have hb0 : Below w.heap.size w (w.alloc (.cells #[.int .i64 7, .int .i64 (kk : Nat), .int .i8 x.f.k, .int .i64 x.f.fr, .int .i64 x.f.to, .int .i64 x.f.te, .int .i64 x.f.ix, .int .i64 x.f.la, .int .i64 x.f.co, .bool x.f.ok, .slice ea en ec, .int .i64 x.f.si, .int .i64 x.f.st, .int .u8 x.f.su, .slice sa sn sc, .slice da dn dc] 55)) := (Below.refl _ _).alloc (Nat.le_refl _) _
  have bx := HT.new w #[.int .i64 7, .int .i64 (kk : Nat), .int .i8 x.f.k, .int .i64 x.f.fr, .int .i64 x.f.to, .int .i64 x.f.te, .int .i64 x.f.ix, .int .i64 x.f.la, .int .i64 x.f.co, .bool x.f.ok, .slice ea en ec, .int .i64 x.f.si, .int .i64 x.f.st, .int .u8 x.f.su, .slice sa sn sc, .slice da dn dc] 55
  have hTd := (hT.bel hb0).bel (Below.refl _ _).drew
  have hT1 := hT.bel hb0
  have hBm := (hb0.mono hT.mle)
  have hll : l.length = ms.length := hT.ta.1
  have hql : q.length = ms.length := hT.tr.1
  have hle := hG.le
  have hmle := hT.mle
  replace hb0 := Lib.hid hb0
  replace bx := Lib.hid bx
  replace hTd := Lib.hid hTd
  replace hT1 := Lib.hid hT1
  replace hBm := Lib.hid hBm
  replace hG := Lib.hid hG
  replace hll := Lib.hid hll
  replace hql := Lib.hid hql
  replace hle := Lib.hid hle
  clear hT
  go_enter Try.func19, Try.ntmps19
  go_upto_region 1 with fail
  replace bx := bx.out
  replace hTd := hTd.out
  replace hT1 := hT1.out
  replace hBm := hBm.out
  replace hb0 := hb0.out
  generalize (w.alloc (.cells #[.int .i64 7, .int .i64 (kk : Nat), .int .i8 x.f.k, .int .i64 x.f.fr, .int .i64 x.f.to, .int .i64 x.f.te, .int .i64 x.f.ix, .int .i64 x.f.la, .int .i64 x.f.co, .bool x.f.ok, .slice ea en ec, .int .i64 x.f.si, .int .i64 x.f.st, .int .u8 x.f.su, .slice sa sn sc, .slice da dn dc] 55)) = W1 at bx hTd hT1 hBm hb0 ⊢
  generalize w.heap.size = xb at bx hmle ⊢
  have y0 := bx.c 0 _ rfl
  have y1 := bx.c 1 _ rfl
  have y2 := bx.c 2 _ rfl
  have y3 := bx.c 3 _ rfl
  have y4 := bx.c 4 _ rfl
  have y5 := bx.c 5 _ rfl
  have y6 := bx.c 6 _ rfl
  have y7 := bx.c 7 _ rfl
  have y8 := bx.c 8 _ rfl
  have y9 := bx.c 9 _ rfl
  have y10 := bx.c 10 _ rfl
  have y11 := bx.c 11 _ rfl
  have y12 := bx.c 12 _ rfl
  have y13 := bx.c 13 _ rfl
  have y14 := bx.c 14 _ rfl
  have y15 := bx.c 15 _ rfl
  replace bx := Lib.hid bx
  replace hTd := Lib.hid hTd
  replace hT1 := Lib.hid hT1
  replace hBm := Lib.hid hBm
  replace hb0 := Lib.hid hb0
  go_wp2_with fail
  refine (hC1.out _ hb0.out).mono ?_
  rintro e u1 ⟨r1, rfl, hM1, hb1⟩
  have hB1 := hb1.mono hT1.out.mle
  have hT2 := hT1.out.bel hb1
  have bx2 := bx.out.bel hb1
  have hal := (Below.refl u1.heap.size u1).alloc (Nat.le_refl _) (.cells #[.int .i8 z.f.k, .int .i64 z.f.fr, .int .i64 z.f.to, .int .i64 z.f.te, .int .i64 z.f.ix, .int .i64 z.f.la, .int .i64 z.f.co, .bool z.f.ok, .slice r1.ea r1.en r1.ec, .int .i64 z.f.si, .int .i64 z.f.st, .int .u8 z.f.su, .slice r1.sa r1.sn r1.sc, .slice r1.da r1.dn r1.dc] 34)
  have b7 := HT.new u1 #[.int .i8 z.f.k, .int .i64 z.f.fr, .int .i64 z.f.to, .int .i64 z.f.te, .int .i64 z.f.ix, .int .i64 z.f.la, .int .i64 z.f.co, .bool z.f.ok, .slice r1.ea r1.en r1.ec, .int .i64 z.f.si, .int .i64 z.f.st, .int .u8 z.f.su, .slice r1.sa r1.sn r1.sc, .slice r1.da r1.dn r1.dc] 34
  have hrv : rv.ownBlock ≠ some u1.heap.size := fun e => by have := (hT2.r.ra.own.lt _ e).2; omega
  have hT3 := hT2.bel hal
  have bx3 := bx2.bel hal
  have hM3 := hM1.bel hal
  have hB3 := (hBm.out.trans hB1).trans (hal.mono hT2.mle)
  have hkq2 : kk < q.length := hkq.out
  have hx2 := hT3.tr.at hkq2
  rw [hz.out] at hx2
  clear y0 y1 y2 y3 y4 y5 y6 y7 y8 y9 y10 y11 y12 y13 y14 y15
  have y1 := bx3.c 1 _ rfl
  have hC2 := rlook_ok hT3.r.ra kk _ hkq2 hx2 hsm.out (by have := hql.out; have := hle.out; omega)
  replace hC2 := Lib.hid hC2
  replace b7 := Lib.hid b7
  replace hT3 := Lib.hid hT3
  replace bx3 := Lib.hid bx3
  replace hM3 := Lib.hid hM3
  replace hB3 := Lib.hid hB3
  replace hrv := Lib.hid hrv
  clear hal hM1 hT2 bx2 hx2 hB1 hkq2 hb1
  go_upto_region 20 with fail
  replace hC2 := hC2.out
  replace b7 := b7.out
  replace hT3 := hT3.out
  replace bx3 := bx3.out
  replace hM3 := hM3.out
  replace hB3 := hB3.out
  generalize (u1.alloc (.cells #[.int .i8 z.f.k, .int .i64 z.f.fr, .int .i64 z.f.to, .int .i64 z.f.te, .int .i64 z.f.ix, .int .i64 z.f.la, .int .i64 z.f.co, .bool z.f.ok, .slice r1.ea r1.en r1.ec, .int .i64 z.f.si, .int .i64 z.f.st, .int .u8 z.f.su, .slice r1.sa r1.sn r1.sc, .slice r1.da r1.dn r1.dc] 34)) = U1 at hC2 b7 hT3 bx3 hM3 hB3 y1 ⊢
  generalize u1.heap.size = zb at b7 hrv ⊢
  replace b7 := Lib.hid b7
  replace hT3 := Lib.hid hT3
  replace hM3 := Lib.hid hM3
  replace hB3 := Lib.hid hB3
  replace bx3 := Lib.hid bx3
  go_wp2_with fail
  refine hC2.mono ?_
  rintro e u2 ⟨r2, rfl, hM2, hb2⟩
  have hB2 := hb2.mono hT3.out.mle
  have hT4 := hT3.out.bel hb2
  have b8 := b7.out.bel hb2
  have hM4 := hM3.out.bel hb2
  have hal2 := (Below.refl u2.heap.size u2).alloc (Nat.le_refl _) (.cells #[.int .i8 z.f.k, .int .i64 z.f.fr, .int .i64 z.f.to, .int .i64 z.f.te, .int .i64 z.f.ix, .int .i64 z.f.la, .int .i64 z.f.co, .bool z.f.ok, .slice r2.ea r2.en r2.ec, .int .i64 z.f.si, .int .i64 z.f.st, .int .u8 z.f.su, .slice r2.sa r2.sn r2.sc, .slice r2.da r2.dn r2.dc] 34)
  have b10 := HT.new u2 #[.int .i8 z.f.k, .int .i64 z.f.fr, .int .i64 z.f.to, .int .i64 z.f.te, .int .i64 z.f.ix, .int .i64 z.f.la, .int .i64 z.f.co, .bool z.f.ok, .slice r2.ea r2.en r2.ec, .int .i64 z.f.si, .int .i64 z.f.st, .int .u8 z.f.su, .slice r2.sa r2.sn r2.sc, .slice r2.da r2.dn r2.dc] 34
  have hT5 := hT4.bel hal2
  have b9 := b8.bel hal2
  have hM5 := hM4.bel hal2
  have hM6 := hM2.bel hal2
  have hB5 := (hB3.out.trans hB2).trans (hal2.mono hT4.mle)
  have hsame := sameM_c z r1 r2 _ hM5.is hM6.is
  replace hsame := Lib.hid hsame
  replace b9 := Lib.hid b9
  replace b10 := Lib.hid b10
  replace hT5 := Lib.hid hT5
  replace hB5 := Lib.hid hB5
  clear hal2 hM2 hT4 hB2 b8 hM4 hM5 hM6 y1 hC2 hb2
  go_upto_region 21 with fail
  replace hsame := hsame.out
  replace b9 := b9.out
  replace b10 := b10.out
  replace hT5 := hT5.out
  replace hB5 := hB5.out
  generalize (u2.alloc (.cells #[.int .i8 z.f.k, .int .i64 z.f.fr, .int .i64 z.f.to, .int .i64 z.f.te, .int .i64 z.f.ix, .int .i64 z.f.la, .int .i64 z.f.co, .bool z.f.ok, .slice r2.ea r2.en r2.ec, .int .i64 z.f.si, .int .i64 z.f.st, .int .u8 z.f.su, .slice r2.sa r2.sn r2.sc, .slice r2.da r2.dn r2.dc] 34)) = U2 at hsame b9 b10 hT5 hB5 ⊢
  generalize u2.heap.size = tb at b10 ⊢
  have p0 := b9.c 0 _ rfl
  have q0 := b10.c 0 _ rfl
  have p1 := b9.c 1 _ rfl
  have q1 := b10.c 1 _ rfl
  have p2 := b9.c 2 _ rfl
  have q2 := b10.c 2 _ rfl
  have p3 := b9.c 3 _ rfl
  have q3 := b10.c 3 _ rfl
  have p4 := b9.c 4 _ rfl
  have q4 := b10.c 4 _ rfl
  have p5 := b9.c 5 _ rfl
  have q5 := b10.c 5 _ rfl
  have p6 := b9.c 6 _ rfl
  have q6 := b10.c 6 _ rfl
  have p7 := b9.c 7 _ rfl
  have q7 := b10.c 7 _ rfl
  have p8 := b9.c 8 _ rfl
  have q8 := b10.c 8 _ rfl
  have p9 := b9.c 9 _ rfl
  have q9 := b10.c 9 _ rfl
  have p10 := b9.c 10 _ rfl
  have q10 := b10.c 10 _ rfl
  have p11 := b9.c 11 _ rfl
  have q11 := b10.c 11 _ rfl
  have p12 := b9.c 12 _ rfl
  have q12 := b10.c 12 _ rfl
  have p13 := b9.c 13 _ rfl
  have q13 := b10.c 13 _ rfl
  replace hT5 := Lib.hid hT5
  replace hB5 := Lib.hid hB5
  clear b9 b10
  go_wp2_with fail
  refine hsame.mono ?_
  rintro e u4 ⟨rfl, hb4⟩
  have hT6 := Lib.hid (hT5.out.bel hb4)
  have hB6 := Lib.hid (hB5.out.trans (hb4.mono hT5.out.mle))
  clear hb4 p0 q0 p1 q1 p2 q2 p3 q3 p4 q4 p5 q5 p6 q6 p7 q7 p8 q8 p9 q9 p10 q10 p11 q11 p12 q12 p13 q13
  go_wp2_with fail
  go_ret
  exact ⟨rfl, ⟨_, _, _, _, _, _, _, _, _, _, hT6.out, hG3.out⟩, hB6.out⟩

set_option maxRecDepth 100000 in
set_option maxHeartbeats 8000000 in
theorem step_deliver_no {m : Nat} {w : World} {g rg bp br bm n : Nat} {lv rv cv : Value} {l q : List RM} {C : Int → Int → Bool} {ps : List (Int × Int)} {ms : List Mg} {c : Nat} (hT : Tw m w g rg bp br bm n lv rv cv l q C ps ms ms) (hG : Gd C ps ms n c) (hc : c ≤ 4000) (x : Mg) (ea : Option Addr) (en ec : Nat) (sa : Option Addr) (sn sc : Nat) (da : Option Addr) (dn dc : Nat) (kk : Int) (hk : kk < 0 ∨ (ms.length : Int) ≤ kk) :
    Calls Try.prog 19 #[.pointer (some ⟨g, 0, none⟩), .pointer (some ⟨rg, 0, none⟩), .agg #[.int .i64 1, .int .i64 kk, .int .i8 x.f.k, .int .i64 x.f.fr, .int .i64 x.f.to, .int .i64 x.f.te, .int .i64 x.f.ix, .int .i64 x.f.la, .int .i64 x.f.co, .bool x.f.ok, .slice ea en ec, .int .i64 x.f.si, .int .i64 x.f.st, .int .u8 x.f.su, .slice sa sn sc, .slice da dn dc]] w (StepP m g rg bp br c w) := by
  have hka : kk < 0 ∨ (l.length : Int) ≤ kk := by have := hT.ta.1; omega
  have hkb : kk < 0 ∨ (q.length : Int) ≤ kk := by have := hT.tr.1; omega
  have hG3 := Lib.hid hG.up
  have hs0 := fun u => sameM_c mg0 rm0 rm0 u (TM.zero u).is (TM.zero u).is
  simp only [mg0, fl0, rm0] at hs0
  replace hs0 := Lib.hid hs0
  replace hka := Lib.hid hka
  replace hkb := Lib.hid hkb
  clear hk
  have hb0 : Below w.heap.size w (w.alloc (.cells #[.int .i64 1, .int .i64 kk, .int .i8 x.f.k, .int .i64 x.f.fr, .int .i64 x.f.to, .int .i64 x.f.te, .int .i64 x.f.ix, .int .i64 x.f.la, .int .i64 x.f.co, .bool x.f.ok, .slice ea en ec, .int .i64 x.f.si, .int .i64 x.f.st, .int .u8 x.f.su, .slice sa sn sc, .slice da dn dc] 55)) := (Below.refl _ _).alloc (Nat.le_refl _) _
  have bx := HT.new w #[.int .i64 1, .int .i64 kk, .int .i8 x.f.k, .int .i64 x.f.fr, .int .i64 x.f.to, .int .i64 x.f.te, .int .i64 x.f.ix, .int .i64 x.f.la, .int .i64 x.f.co, .bool x.f.ok, .slice ea en ec, .int .i64 x.f.si, .int .i64 x.f.st, .int .u8 x.f.su, .slice sa sn sc, .slice da dn dc] 55
  have hTd := (hT.bel hb0).bel (Below.refl _ _).drew
  have hT1 := hT.bel hb0
  have hBm := (hb0.mono hT.mle)
  have hll : l.length = ms.length := hT.ta.1
  have hql : q.length = ms.length := hT.tr.1
  have hle := hG.le
  have hmle := hT.mle
  replace hb0 := Lib.hid hb0
  replace bx := Lib.hid bx
  replace hTd := Lib.hid hTd
  replace hT1 := Lib.hid hT1
  replace hBm := Lib.hid hBm
  replace hG := Lib.hid hG
  replace hll := Lib.hid hll
  replace hql := Lib.hid hql
  replace hle := Lib.hid hle
  clear hT
  go_enter Try.func19, Try.ntmps19
  go_upto_region 1 with fail
  replace bx := bx.out
  replace hTd := hTd.out
  replace hT1 := hT1.out
  replace hBm := hBm.out
  replace hb0 := hb0.out
  generalize (w.alloc (.cells #[.int .i64 1, .int .i64 kk, .int .i8 x.f.k, .int .i64 x.f.fr, .int .i64 x.f.to, .int .i64 x.f.te, .int .i64 x.f.ix, .int .i64 x.f.la, .int .i64 x.f.co, .bool x.f.ok, .slice ea en ec, .int .i64 x.f.si, .int .i64 x.f.st, .int .u8 x.f.su, .slice sa sn sc, .slice da dn dc] 55)) = W1 at bx hTd hT1 hBm hb0 ⊢
  generalize w.heap.size = xb at bx hmle ⊢
  have y0 := bx.c 0 _ rfl
  have y1 := bx.c 1 _ rfl
  have y2 := bx.c 2 _ rfl
  have y3 := bx.c 3 _ rfl
  have y4 := bx.c 4 _ rfl
  have y5 := bx.c 5 _ rfl
  have y6 := bx.c 6 _ rfl
  have y7 := bx.c 7 _ rfl
  have y8 := bx.c 8 _ rfl
  have y9 := bx.c 9 _ rfl
  have y10 := bx.c 10 _ rfl
  have y11 := bx.c 11 _ rfl
  have y12 := bx.c 12 _ rfl
  have y13 := bx.c 13 _ rfl
  have y14 := bx.c 14 _ rfl
  have y15 := bx.c 15 _ rfl
  replace bx := Lib.hid bx
  replace hTd := Lib.hid hTd
  replace hT1 := Lib.hid hT1
  replace hBm := Lib.hid hBm
  replace hb0 := Lib.hid hb0
  go_wp2_with fail
  refine (air_deliver_no hT1.out.a.ra kk hka.out).mono ?_
  rintro e u1 ⟨rfl, hb1⟩
  have hal := (Below.refl u1.heap.size u1).alloc (Nat.le_refl _) (.cells #[.int .i8 0, .int .i64 0, .int .i64 0, .int .i64 0, .int .i64 0, .int .i64 0, .int .i64 0, .bool false, .slice none 0 0, .int .i64 0, .int .i64 0, .int .u8 0, .slice none 0 0, .slice none 0 0] 34)
  have b7 := HT.new u1 #[.int .i8 0, .int .i64 0, .int .i64 0, .int .i64 0, .int .i64 0, .int .i64 0, .int .i64 0, .bool false, .slice none 0 0, .int .i64 0, .int .i64 0, .int .u8 0, .slice none 0 0, .slice none 0 0] 34
  have hba := bNext hb1 hal (Nat.le_refl _)
  have hT3 := hT1.out.bel hba
  have bx3 := bx.out.bel hba
  have hB3 := hBm.out.trans (hba.mono hT1.out.mle)
  clear y0 y1 y2 y3 y4 y5 y6 y7 y8 y9 y10 y11 y12 y13 y14 y15
  have y1 := bx3.c 1 _ rfl
  replace b7 := Lib.hid b7
  replace hT3 := Lib.hid hT3
  replace hB3 := Lib.hid hB3
  clear hal hb1 hba bx3
  go_upto_region 6 with fail
  replace b7 := b7.out
  replace hT3 := hT3.out
  replace hB3 := hB3.out
  generalize (u1.alloc (.cells #[.int .i8 0, .int .i64 0, .int .i64 0, .int .i64 0, .int .i64 0, .int .i64 0, .int .i64 0, .bool false, .slice none 0 0, .int .i64 0, .int .i64 0, .int .u8 0, .slice none 0 0, .slice none 0 0] 34)) = U1 at b7 hT3 hB3 y1 ⊢
  generalize u1.heap.size = zb at b7 ⊢
  replace b7 := Lib.hid b7
  replace hT3 := Lib.hid hT3
  replace hB3 := Lib.hid hB3
  go_wp2_with fail
  refine (rdeliver_no hT3.out.r.ra kk hkb.out).mono ?_
  rintro e u2 ⟨rfl, hb2⟩
  have hal2 := (Below.refl u2.heap.size u2).alloc (Nat.le_refl _) (.cells #[.int .i8 0, .int .i64 0, .int .i64 0, .int .i64 0, .int .i64 0, .int .i64 0, .int .i64 0, .bool false, .slice none 0 0, .int .i64 0, .int .i64 0, .int .u8 0, .slice none 0 0, .slice none 0 0] 34)
  have b10 := HT.new u2 #[.int .i8 0, .int .i64 0, .int .i64 0, .int .i64 0, .int .i64 0, .int .i64 0, .int .i64 0, .bool false, .slice none 0 0, .int .i64 0, .int .i64 0, .int .u8 0, .slice none 0 0, .slice none 0 0] 34
  have hba := bNext hb2 hal2 (Nat.le_refl _)
  have hT5 := hT3.out.bel hba
  have b9 := b7.out.bel hba
  have hB5 := hB3.out.trans (hba.mono hT3.out.mle)
  replace b9 := Lib.hid b9
  replace b10 := Lib.hid b10
  replace hT5 := Lib.hid hT5
  replace hB5 := Lib.hid hB5
  clear hal2 hb2 hba y1
  go_upto_region 7 with fail
  replace b9 := b9.out
  replace b10 := b10.out
  replace hT5 := hT5.out
  replace hB5 := hB5.out
  generalize (u2.alloc (.cells #[.int .i8 0, .int .i64 0, .int .i64 0, .int .i64 0, .int .i64 0, .int .i64 0, .int .i64 0, .bool false, .slice none 0 0, .int .i64 0, .int .i64 0, .int .u8 0, .slice none 0 0, .slice none 0 0] 34)) = U2 at b9 b10 hT5 hB5 ⊢
  generalize u2.heap.size = tb at b10 ⊢
  have p0 := b9.c 0 _ rfl
  have q0 := b10.c 0 _ rfl
  have p1 := b9.c 1 _ rfl
  have q1 := b10.c 1 _ rfl
  have p2 := b9.c 2 _ rfl
  have q2 := b10.c 2 _ rfl
  have p3 := b9.c 3 _ rfl
  have q3 := b10.c 3 _ rfl
  have p4 := b9.c 4 _ rfl
  have q4 := b10.c 4 _ rfl
  have p5 := b9.c 5 _ rfl
  have q5 := b10.c 5 _ rfl
  have p6 := b9.c 6 _ rfl
  have q6 := b10.c 6 _ rfl
  have p7 := b9.c 7 _ rfl
  have q7 := b10.c 7 _ rfl
  have p8 := b9.c 8 _ rfl
  have q8 := b10.c 8 _ rfl
  have p9 := b9.c 9 _ rfl
  have q9 := b10.c 9 _ rfl
  have p10 := b9.c 10 _ rfl
  have q10 := b10.c 10 _ rfl
  have p11 := b9.c 11 _ rfl
  have q11 := b10.c 11 _ rfl
  have p12 := b9.c 12 _ rfl
  have q12 := b10.c 12 _ rfl
  have p13 := b9.c 13 _ rfl
  have q13 := b10.c 13 _ rfl
  replace hT5 := Lib.hid hT5
  replace hB5 := Lib.hid hB5
  clear b9 b10
  go_wp2_with fail
  refine (hs0.out _).mono ?_
  rintro e u4 ⟨rfl, hb4⟩
  have hT6 := Lib.hid (hT5.out.bel hb4)
  have hB6 := Lib.hid (hB5.out.trans (hb4.mono hT5.out.mle))
  clear hb4 p0 q0 p1 q1 p2 q2 p3 q3 p4 q4 p5 q5 p6 q6 p7 q7 p8 q8 p9 q9 p10 q10 p11 q11 p12 q12 p13 q13
  go_wp2_with fail
  go_ret
  exact ⟨rfl, ⟨_, _, _, _, _, _, _, _, _, _, hT6.out, hG3.out⟩, hB6.out⟩

set_option maxRecDepth 100000 in
set_option maxHeartbeats 8000000 in
theorem step_look_no {m : Nat} {w : World} {g rg bp br bm n : Nat} {lv rv cv : Value} {l q : List RM} {C : Int → Int → Bool} {ps : List (Int × Int)} {ms : List Mg} {c : Nat} (hT : Tw m w g rg bp br bm n lv rv cv l q C ps ms ms) (hG : Gd C ps ms n c) (hc : c ≤ 4000) (x : Mg) (ea : Option Addr) (en ec : Nat) (sa : Option Addr) (sn sc : Nat) (da : Option Addr) (dn dc : Nat) (kk : Int) (hk : kk < 0 ∨ (ms.length : Int) ≤ kk) :
    Calls Try.prog 19 #[.pointer (some ⟨g, 0, none⟩), .pointer (some ⟨rg, 0, none⟩), .agg #[.int .i64 7, .int .i64 kk, .int .i8 x.f.k, .int .i64 x.f.fr, .int .i64 x.f.to, .int .i64 x.f.te, .int .i64 x.f.ix, .int .i64 x.f.la, .int .i64 x.f.co, .bool x.f.ok, .slice ea en ec, .int .i64 x.f.si, .int .i64 x.f.st, .int .u8 x.f.su, .slice sa sn sc, .slice da dn dc]] w (StepP m g rg bp br c w) := by
  have hka : kk < 0 ∨ (l.length : Int) ≤ kk := by have := hT.ta.1; omega
  have hkb : kk < 0 ∨ (q.length : Int) ≤ kk := by have := hT.tr.1; omega
  have hG3 := Lib.hid hG.up
  have hs0 := fun u => sameM_c mg0 rm0 rm0 u (TM.zero u).is (TM.zero u).is
  simp only [mg0, fl0, rm0] at hs0
  replace hs0 := Lib.hid hs0
  replace hka := Lib.hid hka
  replace hkb := Lib.hid hkb
  clear hk
  have hb0 : Below w.heap.size w (w.alloc (.cells #[.int .i64 7, .int .i64 kk, .int .i8 x.f.k, .int .i64 x.f.fr, .int .i64 x.f.to, .int .i64 x.f.te, .int .i64 x.f.ix, .int .i64 x.f.la, .int .i64 x.f.co, .bool x.f.ok, .slice ea en ec, .int .i64 x.f.si, .int .i64 x.f.st, .int .u8 x.f.su, .slice sa sn sc, .slice da dn dc] 55)) := (Below.refl _ _).alloc (Nat.le_refl _) _
  have bx := HT.new w #[.int .i64 7, .int .i64 kk, .int .i8 x.f.k, .int .i64 x.f.fr, .int .i64 x.f.to, .int .i64 x.f.te, .int .i64 x.f.ix, .int .i64 x.f.la, .int .i64 x.f.co, .bool x.f.ok, .slice ea en ec, .int .i64 x.f.si, .int .i64 x.f.st, .int .u8 x.f.su, .slice sa sn sc, .slice da dn dc] 55
  have hTd := (hT.bel hb0).bel (Below.refl _ _).drew
  have hT1 := hT.bel hb0
  have hBm := (hb0.mono hT.mle)
  have hll : l.length = ms.length := hT.ta.1
  have hql : q.length = ms.length := hT.tr.1
  have hle := hG.le
  have hmle := hT.mle
  replace hb0 := Lib.hid hb0
  replace bx := Lib.hid bx
  replace hTd := Lib.hid hTd
  replace hT1 := Lib.hid hT1
  replace hBm := Lib.hid hBm
  replace hG := Lib.hid hG
  replace hll := Lib.hid hll
  replace hql := Lib.hid hql
  replace hle := Lib.hid hle
  clear hT
  go_enter Try.func19, Try.ntmps19
  go_upto_region 1 with fail
  replace bx := bx.out
  replace hTd := hTd.out
  replace hT1 := hT1.out
  replace hBm := hBm.out
  replace hb0 := hb0.out
  generalize (w.alloc (.cells #[.int .i64 7, .int .i64 kk, .int .i8 x.f.k, .int .i64 x.f.fr, .int .i64 x.f.to, .int .i64 x.f.te, .int .i64 x.f.ix, .int .i64 x.f.la, .int .i64 x.f.co, .bool x.f.ok, .slice ea en ec, .int .i64 x.f.si, .int .i64 x.f.st, .int .u8 x.f.su, .slice sa sn sc, .slice da dn dc] 55)) = W1 at bx hTd hT1 hBm hb0 ⊢
  generalize w.heap.size = xb at bx hmle ⊢
  have y0 := bx.c 0 _ rfl
  have y1 := bx.c 1 _ rfl
  have y2 := bx.c 2 _ rfl
  have y3 := bx.c 3 _ rfl
  have y4 := bx.c 4 _ rfl
  have y5 := bx.c 5 _ rfl
  have y6 := bx.c 6 _ rfl
  have y7 := bx.c 7 _ rfl
  have y8 := bx.c 8 _ rfl
  have y9 := bx.c 9 _ rfl
  have y10 := bx.c 10 _ rfl
  have y11 := bx.c 11 _ rfl
  have y12 := bx.c 12 _ rfl
  have y13 := bx.c 13 _ rfl
  have y14 := bx.c 14 _ rfl
  have y15 := bx.c 15 _ rfl
  replace bx := Lib.hid bx
  replace hTd := Lib.hid hTd
  replace hT1 := Lib.hid hT1
  replace hBm := Lib.hid hBm
  replace hb0 := Lib.hid hb0
  go_wp2_with fail
  refine (alook_no hT1.out.a.ra kk hka.out).mono ?_
  rintro e u1 ⟨rfl, hb1⟩
  have hal := (Below.refl u1.heap.size u1).alloc (Nat.le_refl _) (.cells #[.int .i8 0, .int .i64 0, .int .i64 0, .int .i64 0, .int .i64 0, .int .i64 0, .int .i64 0, .bool false, .slice none 0 0, .int .i64 0, .int .i64 0, .int .u8 0, .slice none 0 0, .slice none 0 0] 34)
  have b7 := HT.new u1 #[.int .i8 0, .int .i64 0, .int .i64 0, .int .i64 0, .int .i64 0, .int .i64 0, .int .i64 0, .bool false, .slice none 0 0, .int .i64 0, .int .i64 0, .int .u8 0, .slice none 0 0, .slice none 0 0] 34
  have hba := bNext hb1 hal (Nat.le_refl _)
  have hT3 := hT1.out.bel hba
  have bx3 := bx.out.bel hba
  have hB3 := hBm.out.trans (hba.mono hT1.out.mle)
  clear y0 y1 y2 y3 y4 y5 y6 y7 y8 y9 y10 y11 y12 y13 y14 y15
  have y1 := bx3.c 1 _ rfl
  replace b7 := Lib.hid b7
  replace hT3 := Lib.hid hT3
  replace hB3 := Lib.hid hB3
  clear hal hb1 hba bx3
  go_upto_region 20 with fail
  replace b7 := b7.out
  replace hT3 := hT3.out
  replace hB3 := hB3.out
  generalize (u1.alloc (.cells #[.int .i8 0, .int .i64 0, .int .i64 0, .int .i64 0, .int .i64 0, .int .i64 0, .int .i64 0, .bool false, .slice none 0 0, .int .i64 0, .int .i64 0, .int .u8 0, .slice none 0 0, .slice none 0 0] 34)) = U1 at b7 hT3 hB3 y1 ⊢
  generalize u1.heap.size = zb at b7 ⊢
  replace b7 := Lib.hid b7
  replace hT3 := Lib.hid hT3
  replace hB3 := Lib.hid hB3
  go_wp2_with fail
  refine (rlook_no hT3.out.r.ra kk hkb.out).mono ?_
  rintro e u2 ⟨rfl, hb2⟩
  have hal2 := (Below.refl u2.heap.size u2).alloc (Nat.le_refl _) (.cells #[.int .i8 0, .int .i64 0, .int .i64 0, .int .i64 0, .int .i64 0, .int .i64 0, .int .i64 0, .bool false, .slice none 0 0, .int .i64 0, .int .i64 0, .int .u8 0, .slice none 0 0, .slice none 0 0] 34)
  have b10 := HT.new u2 #[.int .i8 0, .int .i64 0, .int .i64 0, .int .i64 0, .int .i64 0, .int .i64 0, .int .i64 0, .bool false, .slice none 0 0, .int .i64 0, .int .i64 0, .int .u8 0, .slice none 0 0, .slice none 0 0] 34
  have hba := bNext hb2 hal2 (Nat.le_refl _)
  have hT5 := hT3.out.bel hba
  have b9 := b7.out.bel hba
  have hB5 := hB3.out.trans (hba.mono hT3.out.mle)
  replace b9 := Lib.hid b9
  replace b10 := Lib.hid b10
  replace hT5 := Lib.hid hT5
  replace hB5 := Lib.hid hB5
  clear hal2 hb2 hba y1
  go_upto_region 21 with fail
  replace b9 := b9.out
  replace b10 := b10.out
  replace hT5 := hT5.out
  replace hB5 := hB5.out
  generalize (u2.alloc (.cells #[.int .i8 0, .int .i64 0, .int .i64 0, .int .i64 0, .int .i64 0, .int .i64 0, .int .i64 0, .bool false, .slice none 0 0, .int .i64 0, .int .i64 0, .int .u8 0, .slice none 0 0, .slice none 0 0] 34)) = U2 at b9 b10 hT5 hB5 ⊢
  generalize u2.heap.size = tb at b10 ⊢
  have p0 := b9.c 0 _ rfl
  have q0 := b10.c 0 _ rfl
  have p1 := b9.c 1 _ rfl
  have q1 := b10.c 1 _ rfl
  have p2 := b9.c 2 _ rfl
  have q2 := b10.c 2 _ rfl
  have p3 := b9.c 3 _ rfl
  have q3 := b10.c 3 _ rfl
  have p4 := b9.c 4 _ rfl
  have q4 := b10.c 4 _ rfl
  have p5 := b9.c 5 _ rfl
  have q5 := b10.c 5 _ rfl
  have p6 := b9.c 6 _ rfl
  have q6 := b10.c 6 _ rfl
  have p7 := b9.c 7 _ rfl
  have q7 := b10.c 7 _ rfl
  have p8 := b9.c 8 _ rfl
  have q8 := b10.c 8 _ rfl
  have p9 := b9.c 9 _ rfl
  have q9 := b10.c 9 _ rfl
  have p10 := b9.c 10 _ rfl
  have q10 := b10.c 10 _ rfl
  have p11 := b9.c 11 _ rfl
  have q11 := b10.c 11 _ rfl
  have p12 := b9.c 12 _ rfl
  have q12 := b10.c 12 _ rfl
  have p13 := b9.c 13 _ rfl
  have q13 := b10.c 13 _ rfl
  replace hT5 := Lib.hid hT5
  replace hB5 := Lib.hid hB5
  clear b9 b10
  go_wp2_with fail
  refine (hs0.out _).mono ?_
  rintro e u4 ⟨rfl, hb4⟩
  have hT6 := Lib.hid (hT5.out.bel hb4)
  have hB6 := Lib.hid (hB5.out.trans (hb4.mono hT5.out.mle))
  clear hb4 p0 q0 p1 q1 p2 q2 p3 q3 p4 q4 p5 q5 p6 q6 p7 q7 p8 q8 p9 q9 p10 q10 p11 q11 p12 q12 p13 q13
  go_wp2_with fail
  go_ret
  exact ⟨rfl, ⟨_, _, _, _, _, _, _, _, _, _, hT6.out, hG3.out⟩, hB6.out⟩

end Go.Proofs.Ytnokojobiaddmaa
