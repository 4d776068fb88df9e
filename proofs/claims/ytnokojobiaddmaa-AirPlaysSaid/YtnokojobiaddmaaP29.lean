/- A step of the law: Send. -/
import Derived.Test.YtnokojobiaddmaaP28
namespace Go.Proofs.Ytnokojobiaddmaa
open Go.ChangeShapes Go.WideShapes Go.ChangeAt Go.RowKit Go.Maps
set_option linter.unusedVariables false
set_option linter.unusedSimpArgs false
open BigFrame Bs By Am Ar

namespace Ar
theorem RF.of_ra {m : Nat} {w w' : World} {g base : Nat} {lv lv' cv : Value} {l l' : List RM} {ps : List (Int × Int)} (h : RF m w g base lv l cv ps) (k : Fx [g] lv lv' w w') (r : RA 52 cv w' g base lv' l') : RF m w' g base lv' l' cv ps :=
  ⟨r, own_fx h.k k (fun b hb => ⟨by simp; rintro rfl; exact own_ne_cell h.k h.ra.hg (by decide) hb, fun e => own_ne h.ra.own h.k pair_ne b e hb⟩), h.ge⟩
end Ar

set_option maxRecDepth 100000 in
set_option maxHeartbeats 8000000 in
theorem step_send_ok {m : Nat} {w : World} {g rg bp br bm n : Nat} {lv rv cv : Value} {l q : List RM} {C : Int → Int → Bool} {ps : List (Int × Int)} {ms : List Mg} {c : Nat} (hT : Tw m w g rg bp br bm n lv rv cv l q C ps ms ms) (hG : Gd C ps ms n c) (hc : c ≤ 4000) (x : Mg) (ea : Option Addr) (en ec : Nat) (sa : Option Addr) (sn sc : Nat) (da : Option Addr) (dn dc : Nat) (kk : Int) (hI : ∀ u, Below m w u → IsM u ⟨x.f, ea, en, ec, sa, sn, sc, da, dn, dc⟩ x) (hm : Sm x) (hf : 1 ≤ x.f.fr ∧ x.f.fr ≤ 255) (ht : 1 ≤ x.f.to ∧ x.f.to ≤ 255) (hn : ms.length < 1024) :
    Calls Try.prog 19 #[.pointer (some ⟨g, 0, none⟩), .pointer (some ⟨rg, 0, none⟩), .agg #[.int .i64 0, .int .i64 kk, .int .i8 x.f.k, .int .i64 x.f.fr, .int .i64 x.f.to, .int .i64 x.f.te, .int .i64 x.f.ix, .int .i64 x.f.la, .int .i64 x.f.co, .bool x.f.ok, .slice ea en ec, .int .i64 x.f.si, .int .i64 x.f.st, .int .u8 x.f.su, .slice sa sn sc, .slice da dn dc]] w (StepP m g rg bp br c w) := by

  have hG3 := Lib.hid (hG.snoc hm ⟨hf, ht⟩ hn)
  replace hI := Lib.hid hI
  replace hf := Lib.hid hf
  replace ht := Lib.hid ht
  replace hn := Lib.hid hn
  have hb0 : Below w.heap.size w (w.alloc (.cells #[.int .i64 0, .int .i64 kk, .int .i8 x.f.k, .int .i64 x.f.fr, .int .i64 x.f.to, .int .i64 x.f.te, .int .i64 x.f.ix, .int .i64 x.f.la, .int .i64 x.f.co, .bool x.f.ok, .slice ea en ec, .int .i64 x.f.si, .int .i64 x.f.st, .int .u8 x.f.su, .slice sa sn sc, .slice da dn dc] 55)) := (Below.refl _ _).alloc (Nat.le_refl _) _
  have bx := HT.new w #[.int .i64 0, .int .i64 kk, .int .i8 x.f.k, .int .i64 x.f.fr, .int .i64 x.f.to, .int .i64 x.f.te, .int .i64 x.f.ix, .int .i64 x.f.la, .int .i64 x.f.co, .bool x.f.ok, .slice ea en ec, .int .i64 x.f.si, .int .i64 x.f.st, .int .u8 x.f.su, .slice sa sn sc, .slice da dn dc] 55
  have hTd := (hT.bel hb0).bel (Below.refl _ _).drew
  have hT1 := hT.bel hb0
  have hBm := (hb0.mono hT.mle)
  have hll : l.length = ms.length := hT.ta.1
  have hql : q.length = ms.length := hT.tr.1
  have hle := hG.le
  have hmle := hT.mle
  replace hb0 := Lib.hid hb0
  replace bx := Lib.hid bx
  replace hTd := Lib.hid hTd
  replace hT1 := Lib.hid hT1
  replace hBm := Lib.hid hBm
  replace hG := Lib.hid hG
  replace hll := Lib.hid hll
  replace hql := Lib.hid hql
  replace hle := Lib.hid hle
  clear hT
  go_enter Try.func19, Try.ntmps19
  go_upto_region 1 with fail
  replace bx := bx.out
  replace hTd := hTd.out
  replace hT1 := hT1.out
  replace hBm := hBm.out
  generalize (w.alloc (.cells #[.int .i64 0, .int .i64 kk, .int .i8 x.f.k, .int .i64 x.f.fr, .int .i64 x.f.to, .int .i64 x.f.te, .int .i64 x.f.ix, .int .i64 x.f.la, .int .i64 x.f.co, .bool x.f.ok, .slice ea en ec, .int .i64 x.f.si, .int .i64 x.f.st, .int .u8 x.f.su, .slice sa sn sc, .slice da dn dc] 55)) = W1 at bx hTd hT1 hBm ⊢
  generalize w.heap.size = xb at bx hmle ⊢
  have y0 := bx.c 0 _ rfl
  have y1 := bx.c 1 _ rfl
  have y2 := bx.c 2 _ rfl
  have y3 := bx.c 3 _ rfl
  have y4 := bx.c 4 _ rfl
  have y5 := bx.c 5 _ rfl
  have y6 := bx.c 6 _ rfl
  have y7 := bx.c 7 _ rfl
  have y8 := bx.c 8 _ rfl
  have y9 := bx.c 9 _ rfl
  have y10 := bx.c 10 _ rfl
  have y11 := bx.c 11 _ rfl
  have y12 := bx.c 12 _ rfl
  have y13 := bx.c 13 _ rfl
  have y14 := bx.c 14 _ rfl
  have y15 := bx.c 15 _ rfl
  replace bx := Lib.hid bx
  replace hTd := Lib.hid hTd
  replace hT1 := Lib.hid hT1
  replace hBm := Lib.hid hBm
  go_upto_region 3 with fail
  clear y0 y1 y2 y3 y4 y5 y6 y7 y8 y9 y10 y11 y12 y13 y14 y15
  refine wp_region_noPanic ?_
  refine Stg.wp_region_L [] (fun _ u => HT u xb #[.int .i64 0, .int .i64 kk, .int .i8 x.f.k, .int .i64 x.f.fr, .int .i64 x.f.to, .int .i64 x.f.te, .int .i64 x.f.ix, .int .i64 x.f.la, .int .i64 x.f.co, .bool x.f.ok, .slice ea en ec, .int .i64 x.f.si, .int .i64 x.f.st, .int .u8 x.f.su, .slice sa sn sc, .slice da dn dc] 55) (by kernel_rfl) (bx.out.drew) (fun hHeld => ?_)
  refine Stg.wpAnyL_start (n' := 10) (l' := #[false, false, false, false, false, false, false, false, false, false]) (by kernel_rfl) (by kernel_rfl) ?_
  refine Stg.wpAnyL_free (i := 0) (v := ?_) 0 rfl (by kernel_rfl) (by kernel_rfl) (by kernel_rfl) (by kernel_rfl) (by kernel_rfl) (fun _ _ _ h => h) (Or.inl ⟨by kernel_rfl, ?_⟩) (by assumption) ?_
  rotate_left
  · intro u _
    try simp only [List.getElem_toArray, List.getElem_cons_succ, List.getElem_cons_zero]
    go_simp
    try with_reducible rfl
  try simp only [Act.put, List.setIfInBounds_toArray, List.set_cons_zero, List.set_cons_succ]
  refine Stg.wpAnyL_free (i := 1) (v := ?_) 0 rfl (by kernel_rfl) (by kernel_rfl) (by kernel_rfl) (by kernel_rfl) (by kernel_rfl) (fun _ _ _ h => h) (Or.inl ⟨by kernel_rfl, ?_⟩) (by assumption) ?_
  rotate_left
  · intro u _
    try simp only [List.getElem_toArray, List.getElem_cons_succ, List.getElem_cons_zero]
    go_simp
    try with_reducible rfl
  try simp only [Act.put, List.setIfInBounds_toArray, List.set_cons_zero, List.set_cons_succ]
  refine Stg.wpAnyL_take (i := 2) (v := ?_) [3, 7, 8, 9] 0 rfl (by kernel_rfl) (by kernel_rfl) (by kernel_rfl) (by kernel_rfl) (by kernel_rfl) (fun _ _ _ h => h) (Or.inl ⟨by kernel_rfl, ?_⟩) (by assumption) ?_
  rotate_left
  · intro u hSu
    skip
    have y0 := hSu.c 0 _ rfl
    have y1 := hSu.c 1 _ rfl
    have y2 := hSu.c 2 _ rfl
    have y3 := hSu.c 3 _ rfl
    have y4 := hSu.c 4 _ rfl
    have y5 := hSu.c 5 _ rfl
    have y6 := hSu.c 6 _ rfl
    have y7 := hSu.c 7 _ rfl
    have y8 := hSu.c 8 _ rfl
    have y9 := hSu.c 9 _ rfl
    have y10 := hSu.c 10 _ rfl
    have y11 := hSu.c 11 _ rfl
    have y12 := hSu.c 12 _ rfl
    have y13 := hSu.c 13 _ rfl
    have y14 := hSu.c 14 _ rfl
    have y15 := hSu.c 15 _ rfl
    try simp only [List.getElem_toArray, List.getElem_cons_succ, List.getElem_cons_zero]
    go_simp
    try with_reducible rfl
  try simp only [Act.put, List.setIfInBounds_toArray, List.set_cons_zero, List.set_cons_succ]
  refine Stg.wpAnyL_start (n' := 7) (l' := #[true, true, true, false, false, false, false, false, false, false]) (by kernel_rfl) (by kernel_rfl) ?_
  refine Stg.wpAnyL_free (i := 4) (v := ?_) 0 rfl (by kernel_rfl) (by kernel_rfl) (by kernel_rfl) (by kernel_rfl) (by kernel_rfl) (fun _ _ _ h => h) (Or.inl ⟨by kernel_rfl, ?_⟩) (by assumption) ?_
  rotate_left
  · intro u _
    try simp only [List.getElem_toArray, List.getElem_cons_succ, List.getElem_cons_zero]
    go_simp
    try with_reducible rfl
  try simp only [Act.put, List.setIfInBounds_toArray, List.set_cons_zero, List.set_cons_succ]
  refine Stg.wpAnyL_free (i := 5) (v := ?_) 0 rfl (by kernel_rfl) (by kernel_rfl) (by kernel_rfl) (by kernel_rfl) (by kernel_rfl) (fun _ _ _ h => h) (Or.inl ⟨by kernel_rfl, ?_⟩) (by assumption) ?_
  rotate_left
  · intro u _
    try simp only [List.getElem_toArray, List.getElem_cons_succ, List.getElem_cons_zero]
    go_simp
    try with_reducible rfl
  try simp only [Act.put, List.setIfInBounds_toArray, List.set_cons_zero, List.set_cons_succ]
  refine Stg.wpAnyL_take (i := 6) (v := ?_) [7, 8, 9] 0 rfl (by kernel_rfl) (by kernel_rfl) (by kernel_rfl) (by kernel_rfl) (by kernel_rfl) (fun _ _ _ h => h) (Or.inl ⟨by kernel_rfl, ?_⟩) (by assumption) ?_
  rotate_left
  · intro u hSu
    skip
    have y0 := hSu.c 0 _ rfl
    have y1 := hSu.c 1 _ rfl
    have y2 := hSu.c 2 _ rfl
    have y3 := hSu.c 3 _ rfl
    have y4 := hSu.c 4 _ rfl
    have y5 := hSu.c 5 _ rfl
    have y6 := hSu.c 6 _ rfl
    have y7 := hSu.c 7 _ rfl
    have y8 := hSu.c 8 _ rfl
    have y9 := hSu.c 9 _ rfl
    have y10 := hSu.c 10 _ rfl
    have y11 := hSu.c 11 _ rfl
    have y12 := hSu.c 12 _ rfl
    have y13 := hSu.c 13 _ rfl
    have y14 := hSu.c 14 _ rfl
    have y15 := hSu.c 15 _ rfl
    try simp only [List.getElem_toArray, List.getElem_cons_succ, List.getElem_cons_zero]
    go_simp
    try with_reducible rfl
  try simp only [Act.put, List.setIfInBounds_toArray, List.set_cons_zero, List.set_cons_succ]
  refine Stg.wpAnyL_start (n' := 4) (l' := #[true, true, true, false, true, true, true, false, false, false]) (by kernel_rfl) (by kernel_rfl) ?_
  refine Stg.wpAnyL_one (i := 3) 0 rfl (by kernel_rfl) (by kernel_rfl) (fun K hK => ?_)
  try simp only [List.getElem_toArray, List.getElem_cons_succ, List.getElem_cons_zero]
  go_simp
  have hId := hI.out _ hBm.out.drew
  refine (asend_ok hTd.out.a.ra x ea en ec sa sn sc da dn dc hId.e hId.s hId.d hm hf.out ht.out (by have := hn.out; have := hll.out; omega)).mono ?_
  rintro e u1 ⟨lv1, r1, rfl, hR1, hM1, hF1⟩
  have hF1' : Fx [g, bm] lv lv1 _ u1 := hF1.sub (by simp)
  have hB1 := hTd.out.bprog hF1'
  have hT2 := hTd.out.prog hF1' (hTd.out.a.of_ra hF1 hR1) ((hTd.out.ta.tf (hF1.tf (hTd.out.a.ra.types (by decide) (by decide)) hTd.out.a.own)).snoc hM1)
  refine hK.out _ _ ?_ (fun hHeld1 => ?_)
  · exact hTd.out.bxp hF1' hHeld (by decide) (by decide)
  clear hK K
  try simp only [Act.put, List.setIfInBounds_toArray, List.set_cons_zero, List.set_cons_succ]
  refine Stg.wpAnyL_one (i := 7) 0 rfl (by kernel_rfl) (by kernel_rfl) (fun K hK => ?_)
  try simp only [List.getElem_toArray, List.getElem_cons_succ, List.getElem_cons_zero]
  go_simp
  have hId2 := hI.out _ (hBm.out.drew.trans hB1)
  refine (rsend_ok hT2.r.ra x ea en ec sa sn sc da dn dc hId2.e hId2.s hId2.d hm hf.out ht.out (by have := hn.out; have := hql.out; omega)).mono ?_
  rintro e u2 ⟨rv2, r2, rfl, hR2, hM2, hF2⟩
  have hB2 := hT2.brefr hF2
  have hT3 := hT2.refr hF2 (hT2.r.of_ra hF2 hR2) ((hT2.tr.tf (hF2.tf hT2.r.types hT2.r.ra.own)).snoc hM2)
  refine hK.out _ _ ?_ (fun hHeld2 => ?_)
  · exact hT2.bxr hF2 hHeld1 (by decide) (by decide)
  clear hK K
  try simp only [Act.put, List.setIfInBounds_toArray, List.set_cons_zero, List.set_cons_succ]
  refine Stg.wpAnyL_free (i := 8) (v := ?_) 0 rfl (by kernel_rfl) (by kernel_rfl) (by kernel_rfl) (by kernel_rfl) (by kernel_rfl) (fun _ _ _ h => h) (Or.inl ⟨by kernel_rfl, ?_⟩) (by assumption) ?_
  rotate_left
  · intro u _
    try simp only [List.getElem_toArray, List.getElem_cons_succ, List.getElem_cons_zero]
    go_simp
    try with_reducible rfl
  try simp only [Act.put, List.setIfInBounds_toArray, List.set_cons_zero, List.set_cons_succ]
  refine Stg.wpAnyL_start (n' := 1) (l' := #[true, true, true, true, true, true, true, true, true, false]) (by kernel_rfl) (by kernel_rfl) ?_
  refine Stg.wpAnyL_free (i := 9) (v := ?_) 0 rfl (by kernel_rfl) (by kernel_rfl) (by kernel_rfl) (by kernel_rfl) (by kernel_rfl) (fun _ _ _ h => h) (Or.inl ⟨by kernel_rfl, ?_⟩) (by assumption) ?_
  rotate_left
  · intro u _
    try simp only [List.getElem_toArray, List.getElem_cons_succ, List.getElem_cons_zero]
    go_simp
    try with_reducible rfl
  try simp only [Act.put, List.setIfInBounds_toArray, List.set_cons_zero, List.set_cons_succ]
  refine Stg.wpAnyL_done (by kernel_rfl) ?_ _
  try simp only [List.getElem_toArray, List.getElem_cons_succ, List.getElem_cons_zero]
  try simp only [Act.put, List.setIfInBounds_toArray, List.set_cons_zero, List.set_cons_succ]
  refine NoPanic.normal ?_
  replace hT3 := Lib.hid hT3
  have hBf := Lib.hid (((hBm.out.drew).trans hB1).trans hB2)
  go_wp2_with fail
  go_ret
  exact ⟨rfl, ⟨_, _, _, _, _, _, _, _, _, _, hT3.out, hG3.out⟩, hBf.out⟩

set_option maxRecDepth 100000 in
set_option maxHeartbeats 8000000 in
theorem step_send_full {m : Nat} {w : World} {g rg bp br bm n : Nat} {lv rv cv : Value} {l q : List RM} {C : Int → Int → Bool} {ps : List (Int × Int)} {ms : List Mg} {c : Nat} (hT : Tw m w g rg bp br bm n lv rv cv l q C ps ms ms) (hG : Gd C ps ms n c) (hc : c ≤ 4000) (x : Mg) (ea : Option Addr) (en ec : Nat) (sa : Option Addr) (sn sc : Nat) (da : Option Addr) (dn dc : Nat) (kk : Int) (hf : 1 ≤ x.f.fr ∧ x.f.fr ≤ 255) (ht : 1 ≤ x.f.to ∧ x.f.to ≤ 255) (hn : ms.length = 1024) :
    Calls Try.prog 19 #[.pointer (some ⟨g, 0, none⟩), .pointer (some ⟨rg, 0, none⟩), .agg #[.int .i64 0, .int .i64 kk, .int .i8 x.f.k, .int .i64 x.f.fr, .int .i64 x.f.to, .int .i64 x.f.te, .int .i64 x.f.ix, .int .i64 x.f.la, .int .i64 x.f.co, .bool x.f.ok, .slice ea en ec, .int .i64 x.f.si, .int .i64 x.f.st, .int .u8 x.f.su, .slice sa sn sc, .slice da dn dc]] w (StepP m g rg bp br c w) := by

  have hG3 := Lib.hid hG.up
  replace hf := Lib.hid hf
  replace ht := Lib.hid ht
  replace hn := Lib.hid hn
  have hb0 : Below w.heap.size w (w.alloc (.cells #[.int .i64 0, .int .i64 kk, .int .i8 x.f.k, .int .i64 x.f.fr, .int .i64 x.f.to, .int .i64 x.f.te, .int .i64 x.f.ix, .int .i64 x.f.la, .int .i64 x.f.co, .bool x.f.ok, .slice ea en ec, .int .i64 x.f.si, .int .i64 x.f.st, .int .u8 x.f.su, .slice sa sn sc, .slice da dn dc] 55)) := (Below.refl _ _).alloc (Nat.le_refl _) _
  have bx := HT.new w #[.int .i64 0, .int .i64 kk, .int .i8 x.f.k, .int .i64 x.f.fr, .int .i64 x.f.to, .int .i64 x.f.te, .int .i64 x.f.ix, .int .i64 x.f.la, .int .i64 x.f.co, .bool x.f.ok, .slice ea en ec, .int .i64 x.f.si, .int .i64 x.f.st, .int .u8 x.f.su, .slice sa sn sc, .slice da dn dc] 55
  have hTd := (hT.bel hb0).bel (Below.refl _ _).drew
  have hT1 := hT.bel hb0
  have hBm := (hb0.mono hT.mle)
  have hll : l.length = ms.length := hT.ta.1
  have hql : q.length = ms.length := hT.tr.1
  have hle := hG.le
  have hmle := hT.mle
  replace hb0 := Lib.hid hb0
  replace bx := Lib.hid bx
  replace hTd := Lib.hid hTd
  replace hT1 := Lib.hid hT1
  replace hBm := Lib.hid hBm
  replace hG := Lib.hid hG
  replace hll := Lib.hid hll
  replace hql := Lib.hid hql
  replace hle := Lib.hid hle
  clear hT
  go_enter Try.func19, Try.ntmps19
  go_upto_region 1 with fail
  replace bx := bx.out
  replace hTd := hTd.out
  replace hT1 := hT1.out
  replace hBm := hBm.out
  generalize (w.alloc (.cells #[.int .i64 0, .int .i64 kk, .int .i8 x.f.k, .int .i64 x.f.fr, .int .i64 x.f.to, .int .i64 x.f.te, .int .i64 x.f.ix, .int .i64 x.f.la, .int .i64 x.f.co, .bool x.f.ok, .slice ea en ec, .int .i64 x.f.si, .int .i64 x.f.st, .int .u8 x.f.su, .slice sa sn sc, .slice da dn dc] 55)) = W1 at bx hTd hT1 hBm ⊢
  generalize w.heap.size = xb at bx hmle ⊢
  have y0 := bx.c 0 _ rfl
  have y1 := bx.c 1 _ rfl
  have y2 := bx.c 2 _ rfl
  have y3 := bx.c 3 _ rfl
  have y4 := bx.c 4 _ rfl
  have y5 := bx.c 5 _ rfl
  have y6 := bx.c 6 _ rfl
  have y7 := bx.c 7 _ rfl
  have y8 := bx.c 8 _ rfl
  have y9 := bx.c 9 _ rfl
  have y10 := bx.c 10 _ rfl
  have y11 := bx.c 11 _ rfl
  have y12 := bx.c 12 _ rfl
  have y13 := bx.c 13 _ rfl
  have y14 := bx.c 14 _ rfl
  have y15 := bx.c 15 _ rfl
  replace bx := Lib.hid bx
  replace hTd := Lib.hid hTd
  replace hT1 := Lib.hid hT1
  replace hBm := Lib.hid hBm
  go_upto_region 3 with fail
  clear y0 y1 y2 y3 y4 y5 y6 y7 y8 y9 y10 y11 y12 y13 y14 y15
  refine wp_region_noPanic ?_
  refine Stg.wp_region_L [] (fun _ u => HT u xb #[.int .i64 0, .int .i64 kk, .int .i8 x.f.k, .int .i64 x.f.fr, .int .i64 x.f.to, .int .i64 x.f.te, .int .i64 x.f.ix, .int .i64 x.f.la, .int .i64 x.f.co, .bool x.f.ok, .slice ea en ec, .int .i64 x.f.si, .int .i64 x.f.st, .int .u8 x.f.su, .slice sa sn sc, .slice da dn dc] 55) (by kernel_rfl) (bx.out.drew) (fun hHeld => ?_)
  refine Stg.wpAnyL_start (n' := 10) (l' := #[false, false, false, false, false, false, false, false, false, false]) (by kernel_rfl) (by kernel_rfl) ?_
  refine Stg.wpAnyL_free (i := 0) (v := ?_) 0 rfl (by kernel_rfl) (by kernel_rfl) (by kernel_rfl) (by kernel_rfl) (by kernel_rfl) (fun _ _ _ h => h) (Or.inl ⟨by kernel_rfl, ?_⟩) (by assumption) ?_
  rotate_left
  · intro u _
    try simp only [List.getElem_toArray, List.getElem_cons_succ, List.getElem_cons_zero]
    go_simp
    try with_reducible rfl
  try simp only [Act.put, List.setIfInBounds_toArray, List.set_cons_zero, List.set_cons_succ]
  refine Stg.wpAnyL_free (i := 1) (v := ?_) 0 rfl (by kernel_rfl) (by kernel_rfl) (by kernel_rfl) (by kernel_rfl) (by kernel_rfl) (fun _ _ _ h => h) (Or.inl ⟨by kernel_rfl, ?_⟩) (by assumption) ?_
  rotate_left
  · intro u _
    try simp only [List.getElem_toArray, List.getElem_cons_succ, List.getElem_cons_zero]
    go_simp
    try with_reducible rfl
  try simp only [Act.put, List.setIfInBounds_toArray, List.set_cons_zero, List.set_cons_succ]
  refine Stg.wpAnyL_take (i := 2) (v := ?_) [3, 7, 8, 9] 0 rfl (by kernel_rfl) (by kernel_rfl) (by kernel_rfl) (by kernel_rfl) (by kernel_rfl) (fun _ _ _ h => h) (Or.inl ⟨by kernel_rfl, ?_⟩) (by assumption) ?_
  rotate_left
  · intro u hSu
    skip
    have y0 := hSu.c 0 _ rfl
    have y1 := hSu.c 1 _ rfl
    have y2 := hSu.c 2 _ rfl
    have y3 := hSu.c 3 _ rfl
    have y4 := hSu.c 4 _ rfl
    have y5 := hSu.c 5 _ rfl
    have y6 := hSu.c 6 _ rfl
    have y7 := hSu.c 7 _ rfl
    have y8 := hSu.c 8 _ rfl
    have y9 := hSu.c 9 _ rfl
    have y10 := hSu.c 10 _ rfl
    have y11 := hSu.c 11 _ rfl
    have y12 := hSu.c 12 _ rfl
    have y13 := hSu.c 13 _ rfl
    have y14 := hSu.c 14 _ rfl
    have y15 := hSu.c 15 _ rfl
    try simp only [List.getElem_toArray, List.getElem_cons_succ, List.getElem_cons_zero]
    go_simp
    try with_reducible rfl
  try simp only [Act.put, List.setIfInBounds_toArray, List.set_cons_zero, List.set_cons_succ]
  refine Stg.wpAnyL_start (n' := 7) (l' := #[true, true, true, false, false, false, false, false, false, false]) (by kernel_rfl) (by kernel_rfl) ?_
  refine Stg.wpAnyL_free (i := 4) (v := ?_) 0 rfl (by kernel_rfl) (by kernel_rfl) (by kernel_rfl) (by kernel_rfl) (by kernel_rfl) (fun _ _ _ h => h) (Or.inl ⟨by kernel_rfl, ?_⟩) (by assumption) ?_
  rotate_left
  · intro u _
    try simp only [List.getElem_toArray, List.getElem_cons_succ, List.getElem_cons_zero]
    go_simp
    try with_reducible rfl
  try simp only [Act.put, List.setIfInBounds_toArray, List.set_cons_zero, List.set_cons_succ]
  refine Stg.wpAnyL_free (i := 5) (v := ?_) 0 rfl (by kernel_rfl) (by kernel_rfl) (by kernel_rfl) (by kernel_rfl) (by kernel_rfl) (fun _ _ _ h => h) (Or.inl ⟨by kernel_rfl, ?_⟩) (by assumption) ?_
  rotate_left
  · intro u _
    try simp only [List.getElem_toArray, List.getElem_cons_succ, List.getElem_cons_zero]
    go_simp
    try with_reducible rfl
  try simp only [Act.put, List.setIfInBounds_toArray, List.set_cons_zero, List.set_cons_succ]
  refine Stg.wpAnyL_take (i := 6) (v := ?_) [7, 8, 9] 0 rfl (by kernel_rfl) (by kernel_rfl) (by kernel_rfl) (by kernel_rfl) (by kernel_rfl) (fun _ _ _ h => h) (Or.inl ⟨by kernel_rfl, ?_⟩) (by assumption) ?_
  rotate_left
  · intro u hSu
    skip
    have y0 := hSu.c 0 _ rfl
    have y1 := hSu.c 1 _ rfl
    have y2 := hSu.c 2 _ rfl
    have y3 := hSu.c 3 _ rfl
    have y4 := hSu.c 4 _ rfl
    have y5 := hSu.c 5 _ rfl
    have y6 := hSu.c 6 _ rfl
    have y7 := hSu.c 7 _ rfl
    have y8 := hSu.c 8 _ rfl
    have y9 := hSu.c 9 _ rfl
    have y10 := hSu.c 10 _ rfl
    have y11 := hSu.c 11 _ rfl
    have y12 := hSu.c 12 _ rfl
    have y13 := hSu.c 13 _ rfl
    have y14 := hSu.c 14 _ rfl
    have y15 := hSu.c 15 _ rfl
    try simp only [List.getElem_toArray, List.getElem_cons_succ, List.getElem_cons_zero]
    go_simp
    try with_reducible rfl
  try simp only [Act.put, List.setIfInBounds_toArray, List.set_cons_zero, List.set_cons_succ]
  refine Stg.wpAnyL_start (n' := 4) (l' := #[true, true, true, false, true, true, true, false, false, false]) (by kernel_rfl) (by kernel_rfl) ?_
  refine Stg.wpAnyL_one (i := 3) 0 rfl (by kernel_rfl) (by kernel_rfl) (fun K hK => ?_)
  try simp only [List.getElem_toArray, List.getElem_cons_succ, List.getElem_cons_zero]
  go_simp
  refine (asend_full hTd.out.a.ra x ea en ec sa sn sc da dn dc hf.out ht.out (by rw [hll.out, hn.out])).mono ?_
  rintro e u1 ⟨rfl, hb1⟩
  have hB1 := hb1.mono hTd.out.mle
  have hT2 := hTd.out.bel hb1
  refine hK.out _ _ ?_ (fun hHeld1 => ?_)
  · exact HT.bel hHeld hb1
  clear hK K
  try simp only [Act.put, List.setIfInBounds_toArray, List.set_cons_zero, List.set_cons_succ]
  refine Stg.wpAnyL_one (i := 7) 0 rfl (by kernel_rfl) (by kernel_rfl) (fun K hK => ?_)
  try simp only [List.getElem_toArray, List.getElem_cons_succ, List.getElem_cons_zero]
  go_simp
  refine (rsend_full hT2.r.ra x ea en ec sa sn sc da dn dc hf.out ht.out (by rw [hql.out, hn.out])).mono ?_
  rintro e u2 ⟨rfl, hb2⟩
  have hB2 := hb2.mono hT2.mle
  have hT3 := hT2.bel hb2
  refine hK.out _ _ ?_ (fun hHeld2 => ?_)
  · exact HT.bel hHeld1 hb2
  clear hK K
  try simp only [Act.put, List.setIfInBounds_toArray, List.set_cons_zero, List.set_cons_succ]
  refine Stg.wpAnyL_free (i := 8) (v := ?_) 0 rfl (by kernel_rfl) (by kernel_rfl) (by kernel_rfl) (by kernel_rfl) (by kernel_rfl) (fun _ _ _ h => h) (Or.inl ⟨by kernel_rfl, ?_⟩) (by assumption) ?_
  rotate_left
  · intro u _
    try simp only [List.getElem_toArray, List.getElem_cons_succ, List.getElem_cons_zero]
    go_simp
    try with_reducible rfl
  try simp only [Act.put, List.setIfInBounds_toArray, List.set_cons_zero, List.set_cons_succ]
  refine Stg.wpAnyL_start (n' := 1) (l' := #[true, true, true, true, true, true, true, true, true, false]) (by kernel_rfl) (by kernel_rfl) ?_
  refine Stg.wpAnyL_free (i := 9) (v := ?_) 0 rfl (by kernel_rfl) (by kernel_rfl) (by kernel_rfl) (by kernel_rfl) (by kernel_rfl) (fun _ _ _ h => h) (Or.inl ⟨by kernel_rfl, ?_⟩) (by assumption) ?_
  rotate_left
  · intro u _
    try simp only [List.getElem_toArray, List.getElem_cons_succ, List.getElem_cons_zero]
    go_simp
    try with_reducible rfl
  try simp only [Act.put, List.setIfInBounds_toArray, List.set_cons_zero, List.set_cons_succ]
  refine Stg.wpAnyL_done (by kernel_rfl) ?_ _
  try simp only [List.getElem_toArray, List.getElem_cons_succ, List.getElem_cons_zero]
  try simp only [Act.put, List.setIfInBounds_toArray, List.set_cons_zero, List.set_cons_succ]
  refine NoPanic.normal ?_
  replace hT3 := Lib.hid hT3
  have hBf := Lib.hid (((hBm.out.drew).trans hB1).trans hB2)
  go_wp2_with fail
  go_ret
  exact ⟨rfl, ⟨_, _, _, _, _, _, _, _, _, _, hT3.out, hG3.out⟩, hBf.out⟩

set_option maxRecDepth 100000 in
set_option maxHeartbeats 8000000 in
theorem step_send_bad1 {m : Nat} {w : World} {g rg bp br bm n : Nat} {lv rv cv : Value} {l q : List RM} {C : Int → Int → Bool} {ps : List (Int × Int)} {ms : List Mg} {c : Nat} (hT : Tw m w g rg bp br bm n lv rv cv l q C ps ms ms) (hG : Gd C ps ms n c) (hc : c ≤ 4000) (x : Mg) (ea : Option Addr) (en ec : Nat) (sa : Option Addr) (sn sc : Nat) (da : Option Addr) (dn dc : Nat) (kk : Int) (hf : ¬ (1 ≤ x.f.fr ∧ x.f.fr ≤ 255)) :
    Calls Try.prog 19 #[.pointer (some ⟨g, 0, none⟩), .pointer (some ⟨rg, 0, none⟩), .agg #[.int .i64 0, .int .i64 kk, .int .i8 x.f.k, .int .i64 x.f.fr, .int .i64 x.f.to, .int .i64 x.f.te, .int .i64 x.f.ix, .int .i64 x.f.la, .int .i64 x.f.co, .bool x.f.ok, .slice ea en ec, .int .i64 x.f.si, .int .i64 x.f.st, .int .u8 x.f.su, .slice sa sn sc, .slice da dn dc]] w (StepP m g rg bp br c w) := by

  have hG3 := Lib.hid hG.up
  replace hf := Lib.hid hf
  have hb0 : Below w.heap.size w (w.alloc (.cells #[.int .i64 0, .int .i64 kk, .int .i8 x.f.k, .int .i64 x.f.fr, .int .i64 x.f.to, .int .i64 x.f.te, .int .i64 x.f.ix, .int .i64 x.f.la, .int .i64 x.f.co, .bool x.f.ok, .slice ea en ec, .int .i64 x.f.si, .int .i64 x.f.st, .int .u8 x.f.su, .slice sa sn sc, .slice da dn dc] 55)) := (Below.refl _ _).alloc (Nat.le_refl _) _
  have bx := HT.new w #[.int .i64 0, .int .i64 kk, .int .i8 x.f.k, .int .i64 x.f.fr, .int .i64 x.f.to, .int .i64 x.f.te, .int .i64 x.f.ix, .int .i64 x.f.la, .int .i64 x.f.co, .bool x.f.ok, .slice ea en ec, .int .i64 x.f.si, .int .i64 x.f.st, .int .u8 x.f.su, .slice sa sn sc, .slice da dn dc] 55
  have hTd := (hT.bel hb0).bel (Below.refl _ _).drew
  have hT1 := hT.bel hb0
  have hBm := (hb0.mono hT.mle)
  have hll : l.length = ms.length := hT.ta.1
  have hql : q.length = ms.length := hT.tr.1
  have hle := hG.le
  have hmle := hT.mle
  replace hb0 := Lib.hid hb0
  replace bx := Lib.hid bx
  replace hTd := Lib.hid hTd
  replace hT1 := Lib.hid hT1
  replace hBm := Lib.hid hBm
  replace hG := Lib.hid hG
  replace hll := Lib.hid hll
  replace hql := Lib.hid hql
  replace hle := Lib.hid hle
  clear hT
  go_enter Try.func19, Try.ntmps19
  go_upto_region 1 with fail
  replace bx := bx.out
  replace hTd := hTd.out
  replace hT1 := hT1.out
  replace hBm := hBm.out
  generalize (w.alloc (.cells #[.int .i64 0, .int .i64 kk, .int .i8 x.f.k, .int .i64 x.f.fr, .int .i64 x.f.to, .int .i64 x.f.te, .int .i64 x.f.ix, .int .i64 x.f.la, .int .i64 x.f.co, .bool x.f.ok, .slice ea en ec, .int .i64 x.f.si, .int .i64 x.f.st, .int .u8 x.f.su, .slice sa sn sc, .slice da dn dc] 55)) = W1 at bx hTd hT1 hBm ⊢
  generalize w.heap.size = xb at bx hmle ⊢
  have y0 := bx.c 0 _ rfl
  have y1 := bx.c 1 _ rfl
  have y2 := bx.c 2 _ rfl
  have y3 := bx.c 3 _ rfl
  have y4 := bx.c 4 _ rfl
  have y5 := bx.c 5 _ rfl
  have y6 := bx.c 6 _ rfl
  have y7 := bx.c 7 _ rfl
  have y8 := bx.c 8 _ rfl
  have y9 := bx.c 9 _ rfl
  have y10 := bx.c 10 _ rfl
  have y11 := bx.c 11 _ rfl
  have y12 := bx.c 12 _ rfl
  have y13 := bx.c 13 _ rfl
  have y14 := bx.c 14 _ rfl
  have y15 := bx.c 15 _ rfl
  replace bx := Lib.hid bx
  replace hTd := Lib.hid hTd
  replace hT1 := Lib.hid hT1
  replace hBm := Lib.hid hBm
  go_upto_region 3 with fail
  clear y0 y1 y2 y3 y4 y5 y6 y7 y8 y9 y10 y11 y12 y13 y14 y15
  refine wp_region_noPanic ?_
  refine Stg.wp_region_L [] (fun _ u => HT u xb #[.int .i64 0, .int .i64 kk, .int .i8 x.f.k, .int .i64 x.f.fr, .int .i64 x.f.to, .int .i64 x.f.te, .int .i64 x.f.ix, .int .i64 x.f.la, .int .i64 x.f.co, .bool x.f.ok, .slice ea en ec, .int .i64 x.f.si, .int .i64 x.f.st, .int .u8 x.f.su, .slice sa sn sc, .slice da dn dc] 55) (by kernel_rfl) (bx.out.drew) (fun hHeld => ?_)
  refine Stg.wpAnyL_start (n' := 10) (l' := #[false, false, false, false, false, false, false, false, false, false]) (by kernel_rfl) (by kernel_rfl) ?_
  refine Stg.wpAnyL_free (i := 0) (v := ?_) 0 rfl (by kernel_rfl) (by kernel_rfl) (by kernel_rfl) (by kernel_rfl) (by kernel_rfl) (fun _ _ _ h => h) (Or.inl ⟨by kernel_rfl, ?_⟩) (by assumption) ?_
  rotate_left
  · intro u _
    try simp only [List.getElem_toArray, List.getElem_cons_succ, List.getElem_cons_zero]
    go_simp
    try with_reducible rfl
  try simp only [Act.put, List.setIfInBounds_toArray, List.set_cons_zero, List.set_cons_succ]
  refine Stg.wpAnyL_free (i := 1) (v := ?_) 0 rfl (by kernel_rfl) (by kernel_rfl) (by kernel_rfl) (by kernel_rfl) (by kernel_rfl) (fun _ _ _ h => h) (Or.inl ⟨by kernel_rfl, ?_⟩) (by assumption) ?_
  rotate_left
  · intro u _
    try simp only [List.getElem_toArray, List.getElem_cons_succ, List.getElem_cons_zero]
    go_simp
    try with_reducible rfl
  try simp only [Act.put, List.setIfInBounds_toArray, List.set_cons_zero, List.set_cons_succ]
  refine Stg.wpAnyL_take (i := 2) (v := ?_) [3, 7, 8, 9] 0 rfl (by kernel_rfl) (by kernel_rfl) (by kernel_rfl) (by kernel_rfl) (by kernel_rfl) (fun _ _ _ h => h) (Or.inl ⟨by kernel_rfl, ?_⟩) (by assumption) ?_
  rotate_left
  · intro u hSu
    skip
    have y0 := hSu.c 0 _ rfl
    have y1 := hSu.c 1 _ rfl
    have y2 := hSu.c 2 _ rfl
    have y3 := hSu.c 3 _ rfl
    have y4 := hSu.c 4 _ rfl
    have y5 := hSu.c 5 _ rfl
    have y6 := hSu.c 6 _ rfl
    have y7 := hSu.c 7 _ rfl
    have y8 := hSu.c 8 _ rfl
    have y9 := hSu.c 9 _ rfl
    have y10 := hSu.c 10 _ rfl
    have y11 := hSu.c 11 _ rfl
    have y12 := hSu.c 12 _ rfl
    have y13 := hSu.c 13 _ rfl
    have y14 := hSu.c 14 _ rfl
    have y15 := hSu.c 15 _ rfl
    try simp only [List.getElem_toArray, List.getElem_cons_succ, List.getElem_cons_zero]
    go_simp
    try with_reducible rfl
  try simp only [Act.put, List.setIfInBounds_toArray, List.set_cons_zero, List.set_cons_succ]
  refine Stg.wpAnyL_start (n' := 7) (l' := #[true, true, true, false, false, false, false, false, false, false]) (by kernel_rfl) (by kernel_rfl) ?_
  refine Stg.wpAnyL_free (i := 4) (v := ?_) 0 rfl (by kernel_rfl) (by kernel_rfl) (by kernel_rfl) (by kernel_rfl) (by kernel_rfl) (fun _ _ _ h => h) (Or.inl ⟨by kernel_rfl, ?_⟩) (by assumption) ?_
  rotate_left
  · intro u _
    try simp only [List.getElem_toArray, List.getElem_cons_succ, List.getElem_cons_zero]
    go_simp
    try with_reducible rfl
  try simp only [Act.put, List.setIfInBounds_toArray, List.set_cons_zero, List.set_cons_succ]
  refine Stg.wpAnyL_free (i := 5) (v := ?_) 0 rfl (by kernel_rfl) (by kernel_rfl) (by kernel_rfl) (by kernel_rfl) (by kernel_rfl) (fun _ _ _ h => h) (Or.inl ⟨by kernel_rfl, ?_⟩) (by assumption) ?_
  rotate_left
  · intro u _
    try simp only [List.getElem_toArray, List.getElem_cons_succ, List.getElem_cons_zero]
    go_simp
    try with_reducible rfl
  try simp only [Act.put, List.setIfInBounds_toArray, List.set_cons_zero, List.set_cons_succ]
  refine Stg.wpAnyL_take (i := 6) (v := ?_) [7, 8, 9] 0 rfl (by kernel_rfl) (by kernel_rfl) (by kernel_rfl) (by kernel_rfl) (by kernel_rfl) (fun _ _ _ h => h) (Or.inl ⟨by kernel_rfl, ?_⟩) (by assumption) ?_
  rotate_left
  · intro u hSu
    skip
    have y0 := hSu.c 0 _ rfl
    have y1 := hSu.c 1 _ rfl
    have y2 := hSu.c 2 _ rfl
    have y3 := hSu.c 3 _ rfl
    have y4 := hSu.c 4 _ rfl
    have y5 := hSu.c 5 _ rfl
    have y6 := hSu.c 6 _ rfl
    have y7 := hSu.c 7 _ rfl
    have y8 := hSu.c 8 _ rfl
    have y9 := hSu.c 9 _ rfl
    have y10 := hSu.c 10 _ rfl
    have y11 := hSu.c 11 _ rfl
    have y12 := hSu.c 12 _ rfl
    have y13 := hSu.c 13 _ rfl
    have y14 := hSu.c 14 _ rfl
    have y15 := hSu.c 15 _ rfl
    try simp only [List.getElem_toArray, List.getElem_cons_succ, List.getElem_cons_zero]
    go_simp
    try with_reducible rfl
  try simp only [Act.put, List.setIfInBounds_toArray, List.set_cons_zero, List.set_cons_succ]
  refine Stg.wpAnyL_start (n' := 4) (l' := #[true, true, true, false, true, true, true, false, false, false]) (by kernel_rfl) (by kernel_rfl) ?_
  refine Stg.wpAnyL_one (i := 3) 0 rfl (by kernel_rfl) (by kernel_rfl) (fun K hK => ?_)
  try simp only [List.getElem_toArray, List.getElem_cons_succ, List.getElem_cons_zero]
  go_simp
  refine (asend_bad1 hTd.out.a.ra x ea en ec sa sn sc da dn dc hf.out).mono ?_
  rintro e u1 ⟨rfl, hb1⟩
  have hB1 := hb1.mono hTd.out.mle
  have hT2 := hTd.out.bel hb1
  refine hK.out _ _ ?_ (fun hHeld1 => ?_)
  · exact HT.bel hHeld hb1
  clear hK K
  try simp only [Act.put, List.setIfInBounds_toArray, List.set_cons_zero, List.set_cons_succ]
  refine Stg.wpAnyL_one (i := 7) 0 rfl (by kernel_rfl) (by kernel_rfl) (fun K hK => ?_)
  try simp only [List.getElem_toArray, List.getElem_cons_succ, List.getElem_cons_zero]
  go_simp
  refine (rsend_bad1 hT2.r.ra x ea en ec sa sn sc da dn dc hf.out).mono ?_
  rintro e u2 ⟨rfl, hb2⟩
  have hB2 := hb2.mono hT2.mle
  have hT3 := hT2.bel hb2
  refine hK.out _ _ ?_ (fun hHeld2 => ?_)
  · exact HT.bel hHeld1 hb2
  clear hK K
  try simp only [Act.put, List.setIfInBounds_toArray, List.set_cons_zero, List.set_cons_succ]
  refine Stg.wpAnyL_free (i := 8) (v := ?_) 0 rfl (by kernel_rfl) (by kernel_rfl) (by kernel_rfl) (by kernel_rfl) (by kernel_rfl) (fun _ _ _ h => h) (Or.inl ⟨by kernel_rfl, ?_⟩) (by assumption) ?_
  rotate_left
  · intro u _
    try simp only [List.getElem_toArray, List.getElem_cons_succ, List.getElem_cons_zero]
    go_simp
    try with_reducible rfl
  try simp only [Act.put, List.setIfInBounds_toArray, List.set_cons_zero, List.set_cons_succ]
  refine Stg.wpAnyL_start (n' := 1) (l' := #[true, true, true, true, true, true, true, true, true, false]) (by kernel_rfl) (by kernel_rfl) ?_
  refine Stg.wpAnyL_free (i := 9) (v := ?_) 0 rfl (by kernel_rfl) (by kernel_rfl) (by kernel_rfl) (by kernel_rfl) (by kernel_rfl) (fun _ _ _ h => h) (Or.inl ⟨by kernel_rfl, ?_⟩) (by assumption) ?_
  rotate_left
  · intro u _
    try simp only [List.getElem_toArray, List.getElem_cons_succ, List.getElem_cons_zero]
    go_simp
    try with_reducible rfl
  try simp only [Act.put, List.setIfInBounds_toArray, List.set_cons_zero, List.set_cons_succ]
  refine Stg.wpAnyL_done (by kernel_rfl) ?_ _
  try simp only [List.getElem_toArray, List.getElem_cons_succ, List.getElem_cons_zero]
  try simp only [Act.put, List.setIfInBounds_toArray, List.set_cons_zero, List.set_cons_succ]
  refine NoPanic.normal ?_
  replace hT3 := Lib.hid hT3
  have hBf := Lib.hid (((hBm.out.drew).trans hB1).trans hB2)
  go_wp2_with fail
  go_ret
  exact ⟨rfl, ⟨_, _, _, _, _, _, _, _, _, _, hT3.out, hG3.out⟩, hBf.out⟩

set_option maxRecDepth 100000 in
set_option maxHeartbeats 8000000 in
theorem step_send_bad2 {m : Nat} {w : World} {g rg bp br bm n : Nat} {lv rv cv : Value} {l q : List RM} {C : Int → Int → Bool} {ps : List (Int × Int)} {ms : List Mg} {c : Nat} (hT : Tw m w g rg bp br bm n lv rv cv l q C ps ms ms) (hG : Gd C ps ms n c) (hc : c ≤ 4000) (x : Mg) (ea : Option Addr) (en ec : Nat) (sa : Option Addr) (sn sc : Nat) (da : Option Addr) (dn dc : Nat) (kk : Int) (hf : 1 ≤ x.f.fr ∧ x.f.fr ≤ 255) (ht : ¬ (1 ≤ x.f.to ∧ x.f.to ≤ 255)) :
    Calls Try.prog 19 #[.pointer (some ⟨g, 0, none⟩), .pointer (some ⟨rg, 0, none⟩), .agg #[.int .i64 0, .int .i64 kk, .int .i8 x.f.k, .int .i64 x.f.fr, .int .i64 x.f.to, .int .i64 x.f.te, .int .i64 x.f.ix, .int .i64 x.f.la, .int .i64 x.f.co, .bool x.f.ok, .slice ea en ec, .int .i64 x.f.si, .int .i64 x.f.st, .int .u8 x.f.su, .slice sa sn sc, .slice da dn dc]] w (StepP m g rg bp br c w) := by

  have hG3 := Lib.hid hG.up
  replace hf := Lib.hid hf
  replace ht := Lib.hid ht
  have hb0 : Below w.heap.size w (w.alloc (.cells #[.int .i64 0, .int .i64 kk, .int .i8 x.f.k, .int .i64 x.f.fr, .int .i64 x.f.to, .int .i64 x.f.te, .int .i64 x.f.ix, .int .i64 x.f.la, .int .i64 x.f.co, .bool x.f.ok, .slice ea en ec, .int .i64 x.f.si, .int .i64 x.f.st, .int .u8 x.f.su, .slice sa sn sc, .slice da dn dc] 55)) := (Below.refl _ _).alloc (Nat.le_refl _) _
  have bx := HT.new w #[.int .i64 0, .int .i64 kk, .int .i8 x.f.k, .int .i64 x.f.fr, .int .i64 x.f.to, .int .i64 x.f.te, .int .i64 x.f.ix, .int .i64 x.f.la, .int .i64 x.f.co, .bool x.f.ok, .slice ea en ec, .int .i64 x.f.si, .int .i64 x.f.st, .int .u8 x.f.su, .slice sa sn sc, .slice da dn dc] 55
  have hTd := (hT.bel hb0).bel (Below.refl _ _).drew
  have hT1 := hT.bel hb0
  have hBm := (hb0.mono hT.mle)
  have hll : l.length = ms.length := hT.ta.1
  have hql : q.length = ms.length := hT.tr.1
  have hle := hG.le
  have hmle := hT.mle
  replace hb0 := Lib.hid hb0
  replace bx := Lib.hid bx
  replace hTd := Lib.hid hTd
  replace hT1 := Lib.hid hT1
  replace hBm := Lib.hid hBm
  replace hG := Lib.hid hG
  replace hll := Lib.hid hll
  replace hql := Lib.hid hql
  replace hle := Lib.hid hle
  clear hT
  go_enter Try.func19, Try.ntmps19
  go_upto_region 1 with fail
  replace bx := bx.out
  replace hTd := hTd.out
  replace hT1 := hT1.out
  replace hBm := hBm.out
  generalize (w.alloc (.cells #[.int .i64 0, .int .i64 kk, .int .i8 x.f.k, .int .i64 x.f.fr, .int .i64 x.f.to, .int .i64 x.f.te, .int .i64 x.f.ix, .int .i64 x.f.la, .int .i64 x.f.co, .bool x.f.ok, .slice ea en ec, .int .i64 x.f.si, .int .i64 x.f.st, .int .u8 x.f.su, .slice sa sn sc, .slice da dn dc] 55)) = W1 at bx hTd hT1 hBm ⊢
  generalize w.heap.size = xb at bx hmle ⊢
  have y0 := bx.c 0 _ rfl
  have y1 := bx.c 1 _ rfl
  have y2 := bx.c 2 _ rfl
  have y3 := bx.c 3 _ rfl
  have y4 := bx.c 4 _ rfl
  have y5 := bx.c 5 _ rfl
  have y6 := bx.c 6 _ rfl
  have y7 := bx.c 7 _ rfl
  have y8 := bx.c 8 _ rfl
  have y9 := bx.c 9 _ rfl
  have y10 := bx.c 10 _ rfl
  have y11 := bx.c 11 _ rfl
  have y12 := bx.c 12 _ rfl
  have y13 := bx.c 13 _ rfl
  have y14 := bx.c 14 _ rfl
  have y15 := bx.c 15 _ rfl
  replace bx := Lib.hid bx
  replace hTd := Lib.hid hTd
  replace hT1 := Lib.hid hT1
  replace hBm := Lib.hid hBm
  go_upto_region 3 with fail
  clear y0 y1 y2 y3 y4 y5 y6 y7 y8 y9 y10 y11 y12 y13 y14 y15
  refine wp_region_noPanic ?_
  refine Stg.wp_region_L [] (fun _ u => HT u xb #[.int .i64 0, .int .i64 kk, .int .i8 x.f.k, .int .i64 x.f.fr, .int .i64 x.f.to, .int .i64 x.f.te, .int .i64 x.f.ix, .int .i64 x.f.la, .int .i64 x.f.co, .bool x.f.ok, .slice ea en ec, .int .i64 x.f.si, .int .i64 x.f.st, .int .u8 x.f.su, .slice sa sn sc, .slice da dn dc] 55) (by kernel_rfl) (bx.out.drew) (fun hHeld => ?_)
  refine Stg.wpAnyL_start (n' := 10) (l' := #[false, false, false, false, false, false, false, false, false, false]) (by kernel_rfl) (by kernel_rfl) ?_
  refine Stg.wpAnyL_free (i := 0) (v := ?_) 0 rfl (by kernel_rfl) (by kernel_rfl) (by kernel_rfl) (by kernel_rfl) (by kernel_rfl) (fun _ _ _ h => h) (Or.inl ⟨by kernel_rfl, ?_⟩) (by assumption) ?_
  rotate_left
  · intro u _
    try simp only [List.getElem_toArray, List.getElem_cons_succ, List.getElem_cons_zero]
    go_simp
    try with_reducible rfl
  try simp only [Act.put, List.setIfInBounds_toArray, List.set_cons_zero, List.set_cons_succ]
  refine Stg.wpAnyL_free (i := 1) (v := ?_) 0 rfl (by kernel_rfl) (by kernel_rfl) (by kernel_rfl) (by kernel_rfl) (by kernel_rfl) (fun _ _ _ h => h) (Or.inl ⟨by kernel_rfl, ?_⟩) (by assumption) ?_
  rotate_left
  · intro u _
    try simp only [List.getElem_toArray, List.getElem_cons_succ, List.getElem_cons_zero]
    go_simp
    try with_reducible rfl
  try simp only [Act.put, List.setIfInBounds_toArray, List.set_cons_zero, List.set_cons_succ]
  refine Stg.wpAnyL_take (i := 2) (v := ?_) [3, 7, 8, 9] 0 rfl (by kernel_rfl) (by kernel_rfl) (by kernel_rfl) (by kernel_rfl) (by kernel_rfl) (fun _ _ _ h => h) (Or.inl ⟨by kernel_rfl, ?_⟩) (by assumption) ?_
  rotate_left
  · intro u hSu
    skip
    have y0 := hSu.c 0 _ rfl
    have y1 := hSu.c 1 _ rfl
    have y2 := hSu.c 2 _ rfl
    have y3 := hSu.c 3 _ rfl
    have y4 := hSu.c 4 _ rfl
    have y5 := hSu.c 5 _ rfl
    have y6 := hSu.c 6 _ rfl
    have y7 := hSu.c 7 _ rfl
    have y8 := hSu.c 8 _ rfl
    have y9 := hSu.c 9 _ rfl
    have y10 := hSu.c 10 _ rfl
    have y11 := hSu.c 11 _ rfl
    have y12 := hSu.c 12 _ rfl
    have y13 := hSu.c 13 _ rfl
    have y14 := hSu.c 14 _ rfl
    have y15 := hSu.c 15 _ rfl
    try simp only [List.getElem_toArray, List.getElem_cons_succ, List.getElem_cons_zero]
    go_simp
    try with_reducible rfl
  try simp only [Act.put, List.setIfInBounds_toArray, List.set_cons_zero, List.set_cons_succ]
  refine Stg.wpAnyL_start (n' := 7) (l' := #[true, true, true, false, false, false, false, false, false, false]) (by kernel_rfl) (by kernel_rfl) ?_
  refine Stg.wpAnyL_free (i := 4) (v := ?_) 0 rfl (by kernel_rfl) (by kernel_rfl) (by kernel_rfl) (by kernel_rfl) (by kernel_rfl) (fun _ _ _ h => h) (Or.inl ⟨by kernel_rfl, ?_⟩) (by assumption) ?_
  rotate_left
  · intro u _
    try simp only [List.getElem_toArray, List.getElem_cons_succ, List.getElem_cons_zero]
    go_simp
    try with_reducible rfl
  try simp only [Act.put, List.setIfInBounds_toArray, List.set_cons_zero, List.set_cons_succ]
  refine Stg.wpAnyL_free (i := 5) (v := ?_) 0 rfl (by kernel_rfl) (by kernel_rfl) (by kernel_rfl) (by kernel_rfl) (by kernel_rfl) (fun _ _ _ h => h) (Or.inl ⟨by kernel_rfl, ?_⟩) (by assumption) ?_
  rotate_left
  · intro u _
    try simp only [List.getElem_toArray, List.getElem_cons_succ, List.getElem_cons_zero]
    go_simp
    try with_reducible rfl
  try simp only [Act.put, List.setIfInBounds_toArray, List.set_cons_zero, List.set_cons_succ]
  refine Stg.wpAnyL_take (i := 6) (v := ?_) [7, 8, 9] 0 rfl (by kernel_rfl) (by kernel_rfl) (by kernel_rfl) (by kernel_rfl) (by kernel_rfl) (fun _ _ _ h => h) (Or.inl ⟨by kernel_rfl, ?_⟩) (by assumption) ?_
  rotate_left
  · intro u hSu
    skip
    have y0 := hSu.c 0 _ rfl
    have y1 := hSu.c 1 _ rfl
    have y2 := hSu.c 2 _ rfl
    have y3 := hSu.c 3 _ rfl
    have y4 := hSu.c 4 _ rfl
    have y5 := hSu.c 5 _ rfl
    have y6 := hSu.c 6 _ rfl
    have y7 := hSu.c 7 _ rfl
    have y8 := hSu.c 8 _ rfl
    have y9 := hSu.c 9 _ rfl
    have y10 := hSu.c 10 _ rfl
    have y11 := hSu.c 11 _ rfl
    have y12 := hSu.c 12 _ rfl
    have y13 := hSu.c 13 _ rfl
    have y14 := hSu.c 14 _ rfl
    have y15 := hSu.c 15 _ rfl
    try simp only [List.getElem_toArray, List.getElem_cons_succ, List.getElem_cons_zero]
    go_simp
    try with_reducible rfl
  try simp only [Act.put, List.setIfInBounds_toArray, List.set_cons_zero, List.set_cons_succ]
  refine Stg.wpAnyL_start (n' := 4) (l' := #[true, true, true, false, true, true, true, false, false, false]) (by kernel_rfl) (by kernel_rfl) ?_
  refine Stg.wpAnyL_one (i := 3) 0 rfl (by kernel_rfl) (by kernel_rfl) (fun K hK => ?_)
  try simp only [List.getElem_toArray, List.getElem_cons_succ, List.getElem_cons_zero]
  go_simp
  refine (asend_bad2 hTd.out.a.ra x ea en ec sa sn sc da dn dc hf.out ht.out).mono ?_
  rintro e u1 ⟨rfl, hb1⟩
  have hB1 := hb1.mono hTd.out.mle
  have hT2 := hTd.out.bel hb1
  refine hK.out _ _ ?_ (fun hHeld1 => ?_)
  · exact HT.bel hHeld hb1
  clear hK K
  try simp only [Act.put, List.setIfInBounds_toArray, List.set_cons_zero, List.set_cons_succ]
  refine Stg.wpAnyL_one (i := 7) 0 rfl (by kernel_rfl) (by kernel_rfl) (fun K hK => ?_)
  try simp only [List.getElem_toArray, List.getElem_cons_succ, List.getElem_cons_zero]
  go_simp
  refine (rsend_bad2 hT2.r.ra x ea en ec sa sn sc da dn dc hf.out ht.out).mono ?_
  rintro e u2 ⟨rfl, hb2⟩
  have hB2 := hb2.mono hT2.mle
  have hT3 := hT2.bel hb2
  refine hK.out _ _ ?_ (fun hHeld2 => ?_)
  · exact HT.bel hHeld1 hb2
  clear hK K
  try simp only [Act.put, List.setIfInBounds_toArray, List.set_cons_zero, List.set_cons_succ]
  refine Stg.wpAnyL_free (i := 8) (v := ?_) 0 rfl (by kernel_rfl) (by kernel_rfl) (by kernel_rfl) (by kernel_rfl) (by kernel_rfl) (fun _ _ _ h => h) (Or.inl ⟨by kernel_rfl, ?_⟩) (by assumption) ?_
  rotate_left
  · intro u _
    try simp only [List.getElem_toArray, List.getElem_cons_succ, List.getElem_cons_zero]
    go_simp
    try with_reducible rfl
  try simp only [Act.put, List.setIfInBounds_toArray, List.set_cons_zero, List.set_cons_succ]
  refine Stg.wpAnyL_start (n' := 1) (l' := #[true, true, true, true, true, true, true, true, true, false]) (by kernel_rfl) (by kernel_rfl) ?_
  refine Stg.wpAnyL_free (i := 9) (v := ?_) 0 rfl (by kernel_rfl) (by kernel_rfl) (by kernel_rfl) (by kernel_rfl) (by kernel_rfl) (fun _ _ _ h => h) (Or.inl ⟨by kernel_rfl, ?_⟩) (by assumption) ?_
  rotate_left
  · intro u _
    try simp only [List.getElem_toArray, List.getElem_cons_succ, List.getElem_cons_zero]
    go_simp
    try with_reducible rfl
  try simp only [Act.put, List.setIfInBounds_toArray, List.set_cons_zero, List.set_cons_succ]
  refine Stg.wpAnyL_done (by kernel_rfl) ?_ _
  try simp only [List.getElem_toArray, List.getElem_cons_succ, List.getElem_cons_zero]
  try simp only [Act.put, List.setIfInBounds_toArray, List.set_cons_zero, List.set_cons_succ]
  refine NoPanic.normal ?_
  replace hT3 := Lib.hid hT3
  have hBf := Lib.hid (((hBm.out.drew).trans hB1).trans hB2)
  go_wp2_with fail
  go_ret
  exact ⟨rfl, ⟨_, _, _, _, _, _, _, _, _, _, hT3.out, hG3.out⟩, hBf.out⟩

end Go.Proofs.Ytnokojobiaddmaa
