/- A step of the law: Lose, Double, Clear, ways. -/
import Derived.Test.YtnokojobiaddmaaP29
namespace Go.Proofs.Ytnokojobiaddmaa
open Go.ChangeShapes Go.WideShapes Go.ChangeAt Go.RowKit Go.Maps
set_option linter.unusedVariables false
set_option linter.unusedSimpArgs false
open BigFrame Bs By Am Ar

set_option maxRecDepth 100000 in
set_option maxHeartbeats 8000000 in
theorem step_lose_ok {m : Nat} {w : World} {g rg bp br bm n : Nat} {lv rv cv : Value} {l q : List RM} {C : Int → Int → Bool} {ps : List (Int × Int)} {ms : List Mg} {c : Nat} (hT : Tw m w g rg bp br bm n lv rv cv l q C ps ms ms) (hG : Gd C ps ms n c) (hc : c ≤ 4000) (x : Mg) (ea : Option Addr) (en ec : Nat) (sa : Option Addr) (sn sc : Nat) (da : Option Addr) (dn dc : Nat) (kk : Nat) (hk : kk < ms.length) :
    Calls Try.prog 19 #[.pointer (some ⟨g, 0, none⟩), .pointer (some ⟨rg, 0, none⟩), .agg #[.int .i64 2, .int .i64 (kk : Nat), .int .i8 x.f.k, .int .i64 x.f.fr, .int .i64 x.f.to, .int .i64 x.f.te, .int .i64 x.f.ix, .int .i64 x.f.la, .int .i64 x.f.co, .bool x.f.ok, .slice ea en ec, .int .i64 x.f.si, .int .i64 x.f.st, .int .u8 x.f.su, .slice sa sn sc, .slice da dn dc]] w (StepP m g rg bp br c w) := by
  have hkl : kk < l.length := by have := hT.ta.1; omega
  have hkq : kk < q.length := by have := hT.tr.1; omega
  have hxm : ms.getD kk mg0 ∈ ms := by simp only [List.getD, List.getElem?_eq_getElem hk, Option.getD_some]; exact List.getElem_mem hk
  have hsm := hG.sm _ hxm
  have hwf := hG.wf _ hxm
  have hG3 := Lib.hid (hG.sub (List.eraseIdx_sublist ms kk))
  replace hsm := Lib.hid hsm
  replace hwf := Lib.hid hwf
  replace hkl := Lib.hid hkl
  replace hkq := Lib.hid hkq
  clear hxm hk
  have hb0 : Below w.heap.size w (w.alloc (.cells #[.int .i64 2, .int .i64 (kk : Nat), .int .i8 x.f.k, .int .i64 x.f.fr, .int .i64 x.f.to, .int .i64 x.f.te, .int .i64 x.f.ix, .int .i64 x.f.la, .int .i64 x.f.co, .bool x.f.ok, .slice ea en ec, .int .i64 x.f.si, .int .i64 x.f.st, .int .u8 x.f.su, .slice sa sn sc, .slice da dn dc] 55)) := (Below.refl _ _).alloc (Nat.le_refl _) _
  have bx := HT.new w #[.int .i64 2, .int .i64 (kk : Nat), .int .i8 x.f.k, .int .i64 x.f.fr, .int .i64 x.f.to, .int .i64 x.f.te, .int .i64 x.f.ix, .int .i64 x.f.la, .int .i64 x.f.co, .bool x.f.ok, .slice ea en ec, .int .i64 x.f.si, .int .i64 x.f.st, .int .u8 x.f.su, .slice sa sn sc, .slice da dn dc] 55
  have hTd := (hT.bel hb0).bel (Below.refl _ _).drew
  have hT1 := hT.bel hb0
  have hBm := (hb0.mono hT.mle)
  have hll : l.length = ms.length := hT.ta.1
  have hql : q.length = ms.length := hT.tr.1
  have hle := hG.le
  have hmle := hT.mle
  replace hb0 := Lib.hid hb0
  replace bx := Lib.hid bx
  replace hTd := Lib.hid hTd
  replace hT1 := Lib.hid hT1
  replace hBm := Lib.hid hBm
  replace hG := Lib.hid hG
  replace hll := Lib.hid hll
  replace hql := Lib.hid hql
  replace hle := Lib.hid hle
  clear hT
  go_enter Try.func19, Try.ntmps19
  go_upto_region 1 with fail
  replace bx := bx.out
  replace hTd := hTd.out
  replace hT1 := hT1.out
  replace hBm := hBm.out
  generalize (w.alloc (.cells #[.int .i64 2, .int .i64 (kk : Nat), .int .i8 x.f.k, .int .i64 x.f.fr, .int .i64 x.f.to, .int .i64 x.f.te, .int .i64 x.f.ix, .int .i64 x.f.la, .int .i64 x.f.co, .bool x.f.ok, .slice ea en ec, .int .i64 x.f.si, .int .i64 x.f.st, .int .u8 x.f.su, .slice sa sn sc, .slice da dn dc] 55)) = W1 at bx hTd hT1 hBm ⊢
  generalize w.heap.size = xb at bx hmle ⊢
  have y0 := bx.c 0 _ rfl
  have y1 := bx.c 1 _ rfl
  have y2 := bx.c 2 _ rfl
  have y3 := bx.c 3 _ rfl
  have y4 := bx.c 4 _ rfl
  have y5 := bx.c 5 _ rfl
  have y6 := bx.c 6 _ rfl
  have y7 := bx.c 7 _ rfl
  have y8 := bx.c 8 _ rfl
  have y9 := bx.c 9 _ rfl
  have y10 := bx.c 10 _ rfl
  have y11 := bx.c 11 _ rfl
  have y12 := bx.c 12 _ rfl
  have y13 := bx.c 13 _ rfl
  have y14 := bx.c 14 _ rfl
  have y15 := bx.c 15 _ rfl
  replace bx := Lib.hid bx
  replace hTd := Lib.hid hTd
  replace hT1 := Lib.hid hT1
  replace hBm := Lib.hid hBm
  go_upto_region 9 with fail
  clear y0 y1 y2 y3 y4 y5 y6 y7 y8 y9 y10 y11 y12 y13 y14 y15
  refine wp_region_noPanic ?_
  refine Stg.wp_region_L [] (fun _ u => HT u xb #[.int .i64 2, .int .i64 (kk : Nat), .int .i8 x.f.k, .int .i64 x.f.fr, .int .i64 x.f.to, .int .i64 x.f.te, .int .i64 x.f.ix, .int .i64 x.f.la, .int .i64 x.f.co, .bool x.f.ok, .slice ea en ec, .int .i64 x.f.si, .int .i64 x.f.st, .int .u8 x.f.su, .slice sa sn sc, .slice da dn dc] 55) (by kernel_rfl) (bx.out.drew) (fun hHeld => ?_)
  refine Stg.wpAnyL_start (n' := 10) (l' := #[false, false, false, false, false, false, false, false, false, false]) (by kernel_rfl) (by kernel_rfl) ?_
  refine Stg.wpAnyL_free (i := 0) (v := ?_) 0 rfl (by kernel_rfl) (by kernel_rfl) (by kernel_rfl) (by kernel_rfl) (by kernel_rfl) (fun _ _ _ h => h) (Or.inl ⟨by kernel_rfl, ?_⟩) (by assumption) ?_
  rotate_left
  · intro u _
    try simp only [List.getElem_toArray, List.getElem_cons_succ, List.getElem_cons_zero]
    go_simp
    try with_reducible rfl
  try simp only [Act.put, List.setIfInBounds_toArray, List.set_cons_zero, List.set_cons_succ]
  refine Stg.wpAnyL_free (i := 1) (v := ?_) 0 rfl (by kernel_rfl) (by kernel_rfl) (by kernel_rfl) (by kernel_rfl) (by kernel_rfl) (fun _ _ _ h => h) (Or.inl ⟨by kernel_rfl, ?_⟩) (by assumption) ?_
  rotate_left
  · intro u _
    try simp only [List.getElem_toArray, List.getElem_cons_succ, List.getElem_cons_zero]
    go_simp
    try with_reducible rfl
  try simp only [Act.put, List.setIfInBounds_toArray, List.set_cons_zero, List.set_cons_succ]
  refine Stg.wpAnyL_take (i := 2) (v := ?_) [3, 7, 8, 9] 0 rfl (by kernel_rfl) (by kernel_rfl) (by kernel_rfl) (by kernel_rfl) (by kernel_rfl) (fun _ _ _ h => h) (Or.inl ⟨by kernel_rfl, ?_⟩) (by assumption) ?_
  rotate_left
  · intro u hSu
    skip
    have y0 := hSu.c 0 _ rfl
    have y1 := hSu.c 1 _ rfl
    have y2 := hSu.c 2 _ rfl
    have y3 := hSu.c 3 _ rfl
    have y4 := hSu.c 4 _ rfl
    have y5 := hSu.c 5 _ rfl
    have y6 := hSu.c 6 _ rfl
    have y7 := hSu.c 7 _ rfl
    have y8 := hSu.c 8 _ rfl
    have y9 := hSu.c 9 _ rfl
    have y10 := hSu.c 10 _ rfl
    have y11 := hSu.c 11 _ rfl
    have y12 := hSu.c 12 _ rfl
    have y13 := hSu.c 13 _ rfl
    have y14 := hSu.c 14 _ rfl
    have y15 := hSu.c 15 _ rfl
    try simp only [List.getElem_toArray, List.getElem_cons_succ, List.getElem_cons_zero]
    go_simp
    try with_reducible rfl
  try simp only [Act.put, List.setIfInBounds_toArray, List.set_cons_zero, List.set_cons_succ]
  refine Stg.wpAnyL_start (n' := 7) (l' := #[true, true, true, false, false, false, false, false, false, false]) (by kernel_rfl) (by kernel_rfl) ?_
  refine Stg.wpAnyL_free (i := 4) (v := ?_) 0 rfl (by kernel_rfl) (by kernel_rfl) (by kernel_rfl) (by kernel_rfl) (by kernel_rfl) (fun _ _ _ h => h) (Or.inl ⟨by kernel_rfl, ?_⟩) (by assumption) ?_
  rotate_left
  · intro u _
    try simp only [List.getElem_toArray, List.getElem_cons_succ, List.getElem_cons_zero]
    go_simp
    try with_reducible rfl
  try simp only [Act.put, List.setIfInBounds_toArray, List.set_cons_zero, List.set_cons_succ]
  refine Stg.wpAnyL_free (i := 5) (v := ?_) 0 rfl (by kernel_rfl) (by kernel_rfl) (by kernel_rfl) (by kernel_rfl) (by kernel_rfl) (fun _ _ _ h => h) (Or.inl ⟨by kernel_rfl, ?_⟩) (by assumption) ?_
  rotate_left
  · intro u _
    try simp only [List.getElem_toArray, List.getElem_cons_succ, List.getElem_cons_zero]
    go_simp
    try with_reducible rfl
  try simp only [Act.put, List.setIfInBounds_toArray, List.set_cons_zero, List.set_cons_succ]
  refine Stg.wpAnyL_take (i := 6) (v := ?_) [7, 8, 9] 0 rfl (by kernel_rfl) (by kernel_rfl) (by kernel_rfl) (by kernel_rfl) (by kernel_rfl) (fun _ _ _ h => h) (Or.inl ⟨by kernel_rfl, ?_⟩) (by assumption) ?_
  rotate_left
  · intro u hSu
    skip
    have y0 := hSu.c 0 _ rfl
    have y1 := hSu.c 1 _ rfl
    have y2 := hSu.c 2 _ rfl
    have y3 := hSu.c 3 _ rfl
    have y4 := hSu.c 4 _ rfl
    have y5 := hSu.c 5 _ rfl
    have y6 := hSu.c 6 _ rfl
    have y7 := hSu.c 7 _ rfl
    have y8 := hSu.c 8 _ rfl
    have y9 := hSu.c 9 _ rfl
    have y10 := hSu.c 10 _ rfl
    have y11 := hSu.c 11 _ rfl
    have y12 := hSu.c 12 _ rfl
    have y13 := hSu.c 13 _ rfl
    have y14 := hSu.c 14 _ rfl
    have y15 := hSu.c 15 _ rfl
    try simp only [List.getElem_toArray, List.getElem_cons_succ, List.getElem_cons_zero]
    go_simp
    try with_reducible rfl
  try simp only [Act.put, List.setIfInBounds_toArray, List.set_cons_zero, List.set_cons_succ]
  refine Stg.wpAnyL_start (n' := 4) (l' := #[true, true, true, false, true, true, true, false, false, false]) (by kernel_rfl) (by kernel_rfl) ?_
  refine Stg.wpAnyL_one (i := 3) 0 rfl (by kernel_rfl) (by kernel_rfl) (fun K hK => ?_)
  try simp only [List.getElem_toArray, List.getElem_cons_succ, List.getElem_cons_zero]
  go_simp
  refine (air_lose kk hTd.out.a _ hkl.out (hTd.out.ta.at hkl.out) hsm.out (by have := hll.out; have := hle.out; omega) (addr_wf hwf.out.1.1 hwf.out.1.2) (addr_wf hwf.out.2.1 hwf.out.2.2)).mono ?_
  rintro e u1 ⟨lv1, rfl, hA1, hK1⟩
  have hF1 := hK1.fx
  have hB1 := hTd.out.bprog hF1
  have hT2 := hTd.out.prog hF1 hA1 ((hTd.out.ta.tf (hF1.tf hTd.out.a.types hTd.out.a.own)).erase kk)
  refine hK.out _ _ ?_ (fun hHeld1 => ?_)
  · exact hTd.out.bxp hF1 hHeld (by decide) (by decide)
  clear hK K
  try simp only [Act.put, List.setIfInBounds_toArray, List.set_cons_zero, List.set_cons_succ]
  refine Stg.wpAnyL_one (i := 7) 0 rfl (by kernel_rfl) (by kernel_rfl) (fun K hK => ?_)
  try simp only [List.getElem_toArray, List.getElem_cons_succ, List.getElem_cons_zero]
  go_simp
  refine (rlose_ok hT2.r kk hkq.out (by have := hql.out; have := hle.out; omega)).mono ?_
  rintro e u2 ⟨rv2, rfl, hR2, hF2⟩
  have hB2 := hT2.brefr hF2
  have hT3 := hT2.refr hF2 hR2 ((hT2.tr.tf (hF2.tf hT2.r.types hT2.r.ra.own)).erase kk)
  refine hK.out _ _ ?_ (fun hHeld2 => ?_)
  · exact hT2.bxr hF2 hHeld1 (by decide) (by decide)
  clear hK K
  try simp only [Act.put, List.setIfInBounds_toArray, List.set_cons_zero, List.set_cons_succ]
  refine Stg.wpAnyL_free (i := 8) (v := ?_) 0 rfl (by kernel_rfl) (by kernel_rfl) (by kernel_rfl) (by kernel_rfl) (by kernel_rfl) (fun _ _ _ h => h) (Or.inl ⟨by kernel_rfl, ?_⟩) (by assumption) ?_
  rotate_left
  · intro u _
    try simp only [List.getElem_toArray, List.getElem_cons_succ, List.getElem_cons_zero]
    go_simp
    try with_reducible rfl
  try simp only [Act.put, List.setIfInBounds_toArray, List.set_cons_zero, List.set_cons_succ]
  refine Stg.wpAnyL_start (n' := 1) (l' := #[true, true, true, true, true, true, true, true, true, false]) (by kernel_rfl) (by kernel_rfl) ?_
  refine Stg.wpAnyL_free (i := 9) (v := ?_) 0 rfl (by kernel_rfl) (by kernel_rfl) (by kernel_rfl) (by kernel_rfl) (by kernel_rfl) (fun _ _ _ h => h) (Or.inl ⟨by kernel_rfl, ?_⟩) (by assumption) ?_
  rotate_left
  · intro u _
    try simp only [List.getElem_toArray, List.getElem_cons_succ, List.getElem_cons_zero]
    go_simp
    try with_reducible rfl
  try simp only [Act.put, List.setIfInBounds_toArray, List.set_cons_zero, List.set_cons_succ]
  refine Stg.wpAnyL_done (by kernel_rfl) ?_ _
  try simp only [List.getElem_toArray, List.getElem_cons_succ, List.getElem_cons_zero]
  try simp only [Act.put, List.setIfInBounds_toArray, List.set_cons_zero, List.set_cons_succ]
  refine NoPanic.normal ?_
  replace hT3 := Lib.hid hT3
  have hBf := Lib.hid (((hBm.out.drew).trans hB1).trans hB2)
  go_wp2_with fail
  go_ret
  exact ⟨rfl, ⟨_, _, _, _, _, _, _, _, _, _, hT3.out, hG3.out⟩, hBf.out⟩

set_option maxRecDepth 100000 in
set_option maxHeartbeats 8000000 in
theorem step_lose_no {m : Nat} {w : World} {g rg bp br bm n : Nat} {lv rv cv : Value} {l q : List RM} {C : Int → Int → Bool} {ps : List (Int × Int)} {ms : List Mg} {c : Nat} (hT : Tw m w g rg bp br bm n lv rv cv l q C ps ms ms) (hG : Gd C ps ms n c) (hc : c ≤ 4000) (x : Mg) (ea : Option Addr) (en ec : Nat) (sa : Option Addr) (sn sc : Nat) (da : Option Addr) (dn dc : Nat) (kk : Int) (hk : kk < 0 ∨ (ms.length : Int) ≤ kk) :
    Calls Try.prog 19 #[.pointer (some ⟨g, 0, none⟩), .pointer (some ⟨rg, 0, none⟩), .agg #[.int .i64 2, .int .i64 kk, .int .i8 x.f.k, .int .i64 x.f.fr, .int .i64 x.f.to, .int .i64 x.f.te, .int .i64 x.f.ix, .int .i64 x.f.la, .int .i64 x.f.co, .bool x.f.ok, .slice ea en ec, .int .i64 x.f.si, .int .i64 x.f.st, .int .u8 x.f.su, .slice sa sn sc, .slice da dn dc]] w (StepP m g rg bp br c w) := by
  have hka : kk < 0 ∨ (l.length : Int) ≤ kk := by have := hT.ta.1; omega
  have hkb : kk < 0 ∨ (q.length : Int) ≤ kk := by have := hT.tr.1; omega
  have hG3 := Lib.hid hG.up
  replace hka := Lib.hid hka
  replace hkb := Lib.hid hkb
  clear hk
  have hb0 : Below w.heap.size w (w.alloc (.cells #[.int .i64 2, .int .i64 kk, .int .i8 x.f.k, .int .i64 x.f.fr, .int .i64 x.f.to, .int .i64 x.f.te, .int .i64 x.f.ix, .int .i64 x.f.la, .int .i64 x.f.co, .bool x.f.ok, .slice ea en ec, .int .i64 x.f.si, .int .i64 x.f.st, .int .u8 x.f.su, .slice sa sn sc, .slice da dn dc] 55)) := (Below.refl _ _).alloc (Nat.le_refl _) _
  have bx := HT.new w #[.int .i64 2, .int .i64 kk, .int .i8 x.f.k, .int .i64 x.f.fr, .int .i64 x.f.to, .int .i64 x.f.te, .int .i64 x.f.ix, .int .i64 x.f.la, .int .i64 x.f.co, .bool x.f.ok, .slice ea en ec, .int .i64 x.f.si, .int .i64 x.f.st, .int .u8 x.f.su, .slice sa sn sc, .slice da dn dc] 55
  have hTd := (hT.bel hb0).bel (Below.refl _ _).drew
  have hT1 := hT.bel hb0
  have hBm := (hb0.mono hT.mle)
  have hll : l.length = ms.length := hT.ta.1
  have hql : q.length = ms.length := hT.tr.1
  have hle := hG.le
  have hmle := hT.mle
  replace hb0 := Lib.hid hb0
  replace bx := Lib.hid bx
  replace hTd := Lib.hid hTd
  replace hT1 := Lib.hid hT1
  replace hBm := Lib.hid hBm
  replace hG := Lib.hid hG
  replace hll := Lib.hid hll
  replace hql := Lib.hid hql
  replace hle := Lib.hid hle
  clear hT
  go_enter Try.func19, Try.ntmps19
  go_upto_region 1 with fail
  replace bx := bx.out
  replace hTd := hTd.out
  replace hT1 := hT1.out
  replace hBm := hBm.out
  generalize (w.alloc (.cells #[.int .i64 2, .int .i64 kk, .int .i8 x.f.k, .int .i64 x.f.fr, .int .i64 x.f.to, .int .i64 x.f.te, .int .i64 x.f.ix, .int .i64 x.f.la, .int .i64 x.f.co, .bool x.f.ok, .slice ea en ec, .int .i64 x.f.si, .int .i64 x.f.st, .int .u8 x.f.su, .slice sa sn sc, .slice da dn dc] 55)) = W1 at bx hTd hT1 hBm ⊢
  generalize w.heap.size = xb at bx hmle ⊢
  have y0 := bx.c 0 _ rfl
  have y1 := bx.c 1 _ rfl
  have y2 := bx.c 2 _ rfl
  have y3 := bx.c 3 _ rfl
  have y4 := bx.c 4 _ rfl
  have y5 := bx.c 5 _ rfl
  have y6 := bx.c 6 _ rfl
  have y7 := bx.c 7 _ rfl
  have y8 := bx.c 8 _ rfl
  have y9 := bx.c 9 _ rfl
  have y10 := bx.c 10 _ rfl
  have y11 := bx.c 11 _ rfl
  have y12 := bx.c 12 _ rfl
  have y13 := bx.c 13 _ rfl
  have y14 := bx.c 14 _ rfl
  have y15 := bx.c 15 _ rfl
  replace bx := Lib.hid bx
  replace hTd := Lib.hid hTd
  replace hT1 := Lib.hid hT1
  replace hBm := Lib.hid hBm
  go_upto_region 9 with fail
  clear y0 y1 y2 y3 y4 y5 y6 y7 y8 y9 y10 y11 y12 y13 y14 y15
  refine wp_region_noPanic ?_
  refine Stg.wp_region_L [] (fun _ u => HT u xb #[.int .i64 2, .int .i64 kk, .int .i8 x.f.k, .int .i64 x.f.fr, .int .i64 x.f.to, .int .i64 x.f.te, .int .i64 x.f.ix, .int .i64 x.f.la, .int .i64 x.f.co, .bool x.f.ok, .slice ea en ec, .int .i64 x.f.si, .int .i64 x.f.st, .int .u8 x.f.su, .slice sa sn sc, .slice da dn dc] 55) (by kernel_rfl) (bx.out.drew) (fun hHeld => ?_)
  refine Stg.wpAnyL_start (n' := 10) (l' := #[false, false, false, false, false, false, false, false, false, false]) (by kernel_rfl) (by kernel_rfl) ?_
  refine Stg.wpAnyL_free (i := 0) (v := ?_) 0 rfl (by kernel_rfl) (by kernel_rfl) (by kernel_rfl) (by kernel_rfl) (by kernel_rfl) (fun _ _ _ h => h) (Or.inl ⟨by kernel_rfl, ?_⟩) (by assumption) ?_
  rotate_left
  · intro u _
    try simp only [List.getElem_toArray, List.getElem_cons_succ, List.getElem_cons_zero]
    go_simp
    try with_reducible rfl
  try simp only [Act.put, List.setIfInBounds_toArray, List.set_cons_zero, List.set_cons_succ]
  refine Stg.wpAnyL_free (i := 1) (v := ?_) 0 rfl (by kernel_rfl) (by kernel_rfl) (by kernel_rfl) (by kernel_rfl) (by kernel_rfl) (fun _ _ _ h => h) (Or.inl ⟨by kernel_rfl, ?_⟩) (by assumption) ?_
  rotate_left
  · intro u _
    try simp only [List.getElem_toArray, List.getElem_cons_succ, List.getElem_cons_zero]
    go_simp
    try with_reducible rfl
  try simp only [Act.put, List.setIfInBounds_toArray, List.set_cons_zero, List.set_cons_succ]
  refine Stg.wpAnyL_take (i := 2) (v := ?_) [3, 7, 8, 9] 0 rfl (by kernel_rfl) (by kernel_rfl) (by kernel_rfl) (by kernel_rfl) (by kernel_rfl) (fun _ _ _ h => h) (Or.inl ⟨by kernel_rfl, ?_⟩) (by assumption) ?_
  rotate_left
  · intro u hSu
    skip
    have y0 := hSu.c 0 _ rfl
    have y1 := hSu.c 1 _ rfl
    have y2 := hSu.c 2 _ rfl
    have y3 := hSu.c 3 _ rfl
    have y4 := hSu.c 4 _ rfl
    have y5 := hSu.c 5 _ rfl
    have y6 := hSu.c 6 _ rfl
    have y7 := hSu.c 7 _ rfl
    have y8 := hSu.c 8 _ rfl
    have y9 := hSu.c 9 _ rfl
    have y10 := hSu.c 10 _ rfl
    have y11 := hSu.c 11 _ rfl
    have y12 := hSu.c 12 _ rfl
    have y13 := hSu.c 13 _ rfl
    have y14 := hSu.c 14 _ rfl
    have y15 := hSu.c 15 _ rfl
    try simp only [List.getElem_toArray, List.getElem_cons_succ, List.getElem_cons_zero]
    go_simp
    try with_reducible rfl
  try simp only [Act.put, List.setIfInBounds_toArray, List.set_cons_zero, List.set_cons_succ]
  refine Stg.wpAnyL_start (n' := 7) (l' := #[true, true, true, false, false, false, false, false, false, false]) (by kernel_rfl) (by kernel_rfl) ?_
  refine Stg.wpAnyL_free (i := 4) (v := ?_) 0 rfl (by kernel_rfl) (by kernel_rfl) (by kernel_rfl) (by kernel_rfl) (by kernel_rfl) (fun _ _ _ h => h) (Or.inl ⟨by kernel_rfl, ?_⟩) (by assumption) ?_
  rotate_left
  · intro u _
    try simp only [List.getElem_toArray, List.getElem_cons_succ, List.getElem_cons_zero]
    go_simp
    try with_reducible rfl
  try simp only [Act.put, List.setIfInBounds_toArray, List.set_cons_zero, List.set_cons_succ]
  refine Stg.wpAnyL_free (i := 5) (v := ?_) 0 rfl (by kernel_rfl) (by kernel_rfl) (by kernel_rfl) (by kernel_rfl) (by kernel_rfl) (fun _ _ _ h => h) (Or.inl ⟨by kernel_rfl, ?_⟩) (by assumption) ?_
  rotate_left
  · intro u _
    try simp only [List.getElem_toArray, List.getElem_cons_succ, List.getElem_cons_zero]
    go_simp
    try with_reducible rfl
  try simp only [Act.put, List.setIfInBounds_toArray, List.set_cons_zero, List.set_cons_succ]
  refine Stg.wpAnyL_take (i := 6) (v := ?_) [7, 8, 9] 0 rfl (by kernel_rfl) (by kernel_rfl) (by kernel_rfl) (by kernel_rfl) (by kernel_rfl) (fun _ _ _ h => h) (Or.inl ⟨by kernel_rfl, ?_⟩) (by assumption) ?_
  rotate_left
  · intro u hSu
    skip
    have y0 := hSu.c 0 _ rfl
    have y1 := hSu.c 1 _ rfl
    have y2 := hSu.c 2 _ rfl
    have y3 := hSu.c 3 _ rfl
    have y4 := hSu.c 4 _ rfl
    have y5 := hSu.c 5 _ rfl
    have y6 := hSu.c 6 _ rfl
    have y7 := hSu.c 7 _ rfl
    have y8 := hSu.c 8 _ rfl
    have y9 := hSu.c 9 _ rfl
    have y10 := hSu.c 10 _ rfl
    have y11 := hSu.c 11 _ rfl
    have y12 := hSu.c 12 _ rfl
    have y13 := hSu.c 13 _ rfl
    have y14 := hSu.c 14 _ rfl
    have y15 := hSu.c 15 _ rfl
    try simp only [List.getElem_toArray, List.getElem_cons_succ, List.getElem_cons_zero]
    go_simp
    try with_reducible rfl
  try simp only [Act.put, List.setIfInBounds_toArray, List.set_cons_zero, List.set_cons_succ]
  refine Stg.wpAnyL_start (n' := 4) (l' := #[true, true, true, false, true, true, true, false, false, false]) (by kernel_rfl) (by kernel_rfl) ?_
  refine Stg.wpAnyL_one (i := 3) 0 rfl (by kernel_rfl) (by kernel_rfl) (fun K hK => ?_)
  try simp only [List.getElem_toArray, List.getElem_cons_succ, List.getElem_cons_zero]
  go_simp
  refine (air_lose_no hTd.out.a.ra kk hka.out).mono ?_
  rintro e u1 ⟨rfl, hb1⟩
  have hB1 := hb1.mono hTd.out.mle
  have hT2 := hTd.out.bel hb1
  refine hK.out _ _ ?_ (fun hHeld1 => ?_)
  · exact HT.bel hHeld hb1
  clear hK K
  try simp only [Act.put, List.setIfInBounds_toArray, List.set_cons_zero, List.set_cons_succ]
  refine Stg.wpAnyL_one (i := 7) 0 rfl (by kernel_rfl) (by kernel_rfl) (fun K hK => ?_)
  try simp only [List.getElem_toArray, List.getElem_cons_succ, List.getElem_cons_zero]
  go_simp
  refine (rlose_no hT2.r kk hkb.out).mono ?_
  rintro e u2 ⟨rfl, rfl⟩
  have hB2 := Below.refl m u1
  have hT3 := hT2
  refine hK.out _ _ ?_ (fun hHeld2 => ?_)
  · exact hHeld1
  clear hK K
  try simp only [Act.put, List.setIfInBounds_toArray, List.set_cons_zero, List.set_cons_succ]
  refine Stg.wpAnyL_free (i := 8) (v := ?_) 0 rfl (by kernel_rfl) (by kernel_rfl) (by kernel_rfl) (by kernel_rfl) (by kernel_rfl) (fun _ _ _ h => h) (Or.inl ⟨by kernel_rfl, ?_⟩) (by assumption) ?_
  rotate_left
  · intro u _
    try simp only [List.getElem_toArray, List.getElem_cons_succ, List.getElem_cons_zero]
    go_simp
    try with_reducible rfl
  try simp only [Act.put, List.setIfInBounds_toArray, List.set_cons_zero, List.set_cons_succ]
  refine Stg.wpAnyL_start (n' := 1) (l' := #[true, true, true, true, true, true, true, true, true, false]) (by kernel_rfl) (by kernel_rfl) ?_
  refine Stg.wpAnyL_free (i := 9) (v := ?_) 0 rfl (by kernel_rfl) (by kernel_rfl) (by kernel_rfl) (by kernel_rfl) (by kernel_rfl) (fun _ _ _ h => h) (Or.inl ⟨by kernel_rfl, ?_⟩) (by assumption) ?_
  rotate_left
  · intro u _
    try simp only [List.getElem_toArray, List.getElem_cons_succ, List.getElem_cons_zero]
    go_simp
    try with_reducible rfl
  try simp only [Act.put, List.setIfInBounds_toArray, List.set_cons_zero, List.set_cons_succ]
  refine Stg.wpAnyL_done (by kernel_rfl) ?_ _
  try simp only [List.getElem_toArray, List.getElem_cons_succ, List.getElem_cons_zero]
  try simp only [Act.put, List.setIfInBounds_toArray, List.set_cons_zero, List.set_cons_succ]
  refine NoPanic.normal ?_
  replace hT3 := Lib.hid hT3
  have hBf := Lib.hid (((hBm.out.drew).trans hB1).trans hB2)
  go_wp2_with fail
  go_ret
  exact ⟨rfl, ⟨_, _, _, _, _, _, _, _, _, _, hT3.out, hG3.out⟩, hBf.out⟩

set_option maxRecDepth 100000 in
set_option maxHeartbeats 8000000 in
theorem step_double_ok {m : Nat} {w : World} {g rg bp br bm n : Nat} {lv rv cv : Value} {l q : List RM} {C : Int → Int → Bool} {ps : List (Int × Int)} {ms : List Mg} {c : Nat} (hT : Tw m w g rg bp br bm n lv rv cv l q C ps ms ms) (hG : Gd C ps ms n c) (hc : c ≤ 4000) (x : Mg) (ea : Option Addr) (en ec : Nat) (sa : Option Addr) (sn sc : Nat) (da : Option Addr) (dn dc : Nat) (kk : Nat) (hk : kk < ms.length) (hn : ms.length < 1024) :
    Calls Try.prog 19 #[.pointer (some ⟨g, 0, none⟩), .pointer (some ⟨rg, 0, none⟩), .agg #[.int .i64 3, .int .i64 (kk : Nat), .int .i8 x.f.k, .int .i64 x.f.fr, .int .i64 x.f.to, .int .i64 x.f.te, .int .i64 x.f.ix, .int .i64 x.f.la, .int .i64 x.f.co, .bool x.f.ok, .slice ea en ec, .int .i64 x.f.si, .int .i64 x.f.st, .int .u8 x.f.su, .slice sa sn sc, .slice da dn dc]] w (StepP m g rg bp br c w) := by
  have hkl : kk < l.length := by have := hT.ta.1; omega
  have hkq : kk < q.length := by have := hT.tr.1; omega
  have hxm : ms.getD kk mg0 ∈ ms := by simp only [List.getD, List.getElem?_eq_getElem hk, Option.getD_some]; exact List.getElem_mem hk
  have hsm := hG.sm _ hxm
  have hwf := hG.wf _ hxm
  have hG3 := Lib.hid (hG.snoc hsm hwf hn)
  replace hsm := Lib.hid hsm
  replace hn := Lib.hid hn
  replace hkl := Lib.hid hkl
  replace hkq := Lib.hid hkq
  clear hxm hk hwf
  have hb0 : Below w.heap.size w (w.alloc (.cells #[.int .i64 3, .int .i64 (kk : Nat), .int .i8 x.f.k, .int .i64 x.f.fr, .int .i64 x.f.to, .int .i64 x.f.te, .int .i64 x.f.ix, .int .i64 x.f.la, .int .i64 x.f.co, .bool x.f.ok, .slice ea en ec, .int .i64 x.f.si, .int .i64 x.f.st, .int .u8 x.f.su, .slice sa sn sc, .slice da dn dc] 55)) := (Below.refl _ _).alloc (Nat.le_refl _) _
  have bx := HT.new w #[.int .i64 3, .int .i64 (kk : Nat), .int .i8 x.f.k, .int .i64 x.f.fr, .int .i64 x.f.to, .int .i64 x.f.te, .int .i64 x.f.ix, .int .i64 x.f.la, .int .i64 x.f.co, .bool x.f.ok, .slice ea en ec, .int .i64 x.f.si, .int .i64 x.f.st, .int .u8 x.f.su, .slice sa sn sc, .slice da dn dc] 55
  have hTd := (hT.bel hb0).bel (Below.refl _ _).drew
  have hT1 := hT.bel hb0
  have hBm := (hb0.mono hT.mle)
  have hll : l.length = ms.length := hT.ta.1
  have hql : q.length = ms.length := hT.tr.1
  have hle := hG.le
  have hmle := hT.mle
  replace hb0 := Lib.hid hb0
  replace bx := Lib.hid bx
  replace hTd := Lib.hid hTd
  replace hT1 := Lib.hid hT1
  replace hBm := Lib.hid hBm
  replace hG := Lib.hid hG
  replace hll := Lib.hid hll
  replace hql := Lib.hid hql
  replace hle := Lib.hid hle
  clear hT
  go_enter Try.func19, Try.ntmps19
  go_upto_region 1 with fail
  replace bx := bx.out
  replace hTd := hTd.out
  replace hT1 := hT1.out
  replace hBm := hBm.out
  generalize (w.alloc (.cells #[.int .i64 3, .int .i64 (kk : Nat), .int .i8 x.f.k, .int .i64 x.f.fr, .int .i64 x.f.to, .int .i64 x.f.te, .int .i64 x.f.ix, .int .i64 x.f.la, .int .i64 x.f.co, .bool x.f.ok, .slice ea en ec, .int .i64 x.f.si, .int .i64 x.f.st, .int .u8 x.f.su, .slice sa sn sc, .slice da dn dc] 55)) = W1 at bx hTd hT1 hBm ⊢
  generalize w.heap.size = xb at bx hmle ⊢
  have y0 := bx.c 0 _ rfl
  have y1 := bx.c 1 _ rfl
  have y2 := bx.c 2 _ rfl
  have y3 := bx.c 3 _ rfl
  have y4 := bx.c 4 _ rfl
  have y5 := bx.c 5 _ rfl
  have y6 := bx.c 6 _ rfl
  have y7 := bx.c 7 _ rfl
  have y8 := bx.c 8 _ rfl
  have y9 := bx.c 9 _ rfl
  have y10 := bx.c 10 _ rfl
  have y11 := bx.c 11 _ rfl
  have y12 := bx.c 12 _ rfl
  have y13 := bx.c 13 _ rfl
  have y14 := bx.c 14 _ rfl
  have y15 := bx.c 15 _ rfl
  replace bx := Lib.hid bx
  replace hTd := Lib.hid hTd
  replace hT1 := Lib.hid hT1
  replace hBm := Lib.hid hBm
  go_upto_region 11 with fail
  clear y0 y1 y2 y3 y4 y5 y6 y7 y8 y9 y10 y11 y12 y13 y14 y15
  refine wp_region_noPanic ?_
  refine Stg.wp_region_L [] (fun _ u => HT u xb #[.int .i64 3, .int .i64 (kk : Nat), .int .i8 x.f.k, .int .i64 x.f.fr, .int .i64 x.f.to, .int .i64 x.f.te, .int .i64 x.f.ix, .int .i64 x.f.la, .int .i64 x.f.co, .bool x.f.ok, .slice ea en ec, .int .i64 x.f.si, .int .i64 x.f.st, .int .u8 x.f.su, .slice sa sn sc, .slice da dn dc] 55) (by kernel_rfl) (bx.out.drew) (fun hHeld => ?_)
  refine Stg.wpAnyL_start (n' := 10) (l' := #[false, false, false, false, false, false, false, false, false, false]) (by kernel_rfl) (by kernel_rfl) ?_
  refine Stg.wpAnyL_free (i := 0) (v := ?_) 0 rfl (by kernel_rfl) (by kernel_rfl) (by kernel_rfl) (by kernel_rfl) (by kernel_rfl) (fun _ _ _ h => h) (Or.inl ⟨by kernel_rfl, ?_⟩) (by assumption) ?_
  rotate_left
  · intro u _
    try simp only [List.getElem_toArray, List.getElem_cons_succ, List.getElem_cons_zero]
    go_simp
    try with_reducible rfl
  try simp only [Act.put, List.setIfInBounds_toArray, List.set_cons_zero, List.set_cons_succ]
  refine Stg.wpAnyL_free (i := 1) (v := ?_) 0 rfl (by kernel_rfl) (by kernel_rfl) (by kernel_rfl) (by kernel_rfl) (by kernel_rfl) (fun _ _ _ h => h) (Or.inl ⟨by kernel_rfl, ?_⟩) (by assumption) ?_
  rotate_left
  · intro u _
    try simp only [List.getElem_toArray, List.getElem_cons_succ, List.getElem_cons_zero]
    go_simp
    try with_reducible rfl
  try simp only [Act.put, List.setIfInBounds_toArray, List.set_cons_zero, List.set_cons_succ]
  refine Stg.wpAnyL_take (i := 2) (v := ?_) [3, 7, 8, 9] 0 rfl (by kernel_rfl) (by kernel_rfl) (by kernel_rfl) (by kernel_rfl) (by kernel_rfl) (fun _ _ _ h => h) (Or.inl ⟨by kernel_rfl, ?_⟩) (by assumption) ?_
  rotate_left
  · intro u hSu
    skip
    have y0 := hSu.c 0 _ rfl
    have y1 := hSu.c 1 _ rfl
    have y2 := hSu.c 2 _ rfl
    have y3 := hSu.c 3 _ rfl
    have y4 := hSu.c 4 _ rfl
    have y5 := hSu.c 5 _ rfl
    have y6 := hSu.c 6 _ rfl
    have y7 := hSu.c 7 _ rfl
    have y8 := hSu.c 8 _ rfl
    have y9 := hSu.c 9 _ rfl
    have y10 := hSu.c 10 _ rfl
    have y11 := hSu.c 11 _ rfl
    have y12 := hSu.c 12 _ rfl
    have y13 := hSu.c 13 _ rfl
    have y14 := hSu.c 14 _ rfl
    have y15 := hSu.c 15 _ rfl
    try simp only [List.getElem_toArray, List.getElem_cons_succ, List.getElem_cons_zero]
    go_simp
    try with_reducible rfl
  try simp only [Act.put, List.setIfInBounds_toArray, List.set_cons_zero, List.set_cons_succ]
  refine Stg.wpAnyL_start (n' := 7) (l' := #[true, true, true, false, false, false, false, false, false, false]) (by kernel_rfl) (by kernel_rfl) ?_
  refine Stg.wpAnyL_free (i := 4) (v := ?_) 0 rfl (by kernel_rfl) (by kernel_rfl) (by kernel_rfl) (by kernel_rfl) (by kernel_rfl) (fun _ _ _ h => h) (Or.inl ⟨by kernel_rfl, ?_⟩) (by assumption) ?_
  rotate_left
  · intro u _
    try simp only [List.getElem_toArray, List.getElem_cons_succ, List.getElem_cons_zero]
    go_simp
    try with_reducible rfl
  try simp only [Act.put, List.setIfInBounds_toArray, List.set_cons_zero, List.set_cons_succ]
  refine Stg.wpAnyL_free (i := 5) (v := ?_) 0 rfl (by kernel_rfl) (by kernel_rfl) (by kernel_rfl) (by kernel_rfl) (by kernel_rfl) (fun _ _ _ h => h) (Or.inl ⟨by kernel_rfl, ?_⟩) (by assumption) ?_
  rotate_left
  · intro u _
    try simp only [List.getElem_toArray, List.getElem_cons_succ, List.getElem_cons_zero]
    go_simp
    try with_reducible rfl
  try simp only [Act.put, List.setIfInBounds_toArray, List.set_cons_zero, List.set_cons_succ]
  refine Stg.wpAnyL_take (i := 6) (v := ?_) [7, 8, 9] 0 rfl (by kernel_rfl) (by kernel_rfl) (by kernel_rfl) (by kernel_rfl) (by kernel_rfl) (fun _ _ _ h => h) (Or.inl ⟨by kernel_rfl, ?_⟩) (by assumption) ?_
  rotate_left
  · intro u hSu
    skip
    have y0 := hSu.c 0 _ rfl
    have y1 := hSu.c 1 _ rfl
    have y2 := hSu.c 2 _ rfl
    have y3 := hSu.c 3 _ rfl
    have y4 := hSu.c 4 _ rfl
    have y5 := hSu.c 5 _ rfl
    have y6 := hSu.c 6 _ rfl
    have y7 := hSu.c 7 _ rfl
    have y8 := hSu.c 8 _ rfl
    have y9 := hSu.c 9 _ rfl
    have y10 := hSu.c 10 _ rfl
    have y11 := hSu.c 11 _ rfl
    have y12 := hSu.c 12 _ rfl
    have y13 := hSu.c 13 _ rfl
    have y14 := hSu.c 14 _ rfl
    have y15 := hSu.c 15 _ rfl
    try simp only [List.getElem_toArray, List.getElem_cons_succ, List.getElem_cons_zero]
    go_simp
    try with_reducible rfl
  try simp only [Act.put, List.setIfInBounds_toArray, List.set_cons_zero, List.set_cons_succ]
  refine Stg.wpAnyL_start (n' := 4) (l' := #[true, true, true, false, true, true, true, false, false, false]) (by kernel_rfl) (by kernel_rfl) ?_
  refine Stg.wpAnyL_one (i := 3) 0 rfl (by kernel_rfl) (by kernel_rfl) (fun K hK => ?_)
  try simp only [List.getElem_toArray, List.getElem_cons_succ, List.getElem_cons_zero]
  go_simp
  refine (adouble_ok hTd.out.a.ra kk _ hkl.out (hTd.out.ta.at hkl.out) hsm.out (by have := hn.out; have := hll.out; omega)).mono ?_
  rintro e u1 ⟨lv1, r1, rfl, hR1, hM1, hF1⟩
  have hF1' : Fx [g, bm] lv lv1 _ u1 := hF1.sub (by simp)
  have hB1 := hTd.out.bprog hF1'
  have hT2 := hTd.out.prog hF1' (hTd.out.a.of_ra hF1 hR1) ((hTd.out.ta.tf (hF1.tf (hTd.out.a.ra.types (by decide) (by decide)) hTd.out.a.own)).snoc hM1)
  refine hK.out _ _ ?_ (fun hHeld1 => ?_)
  · exact hTd.out.bxp hF1' hHeld (by decide) (by decide)
  clear hK K
  try simp only [Act.put, List.setIfInBounds_toArray, List.set_cons_zero, List.set_cons_succ]
  refine Stg.wpAnyL_one (i := 7) 0 rfl (by kernel_rfl) (by kernel_rfl) (fun K hK => ?_)
  try simp only [List.getElem_toArray, List.getElem_cons_succ, List.getElem_cons_zero]
  go_simp
  refine (rdouble_ok hT2.r.ra kk _ hkq.out (hT2.tr.at hkq.out) hsm.out (by have := hn.out; have := hql.out; omega)).mono ?_
  rintro e u2 ⟨rv2, r2, rfl, hR2, hM2, hF2⟩
  have hB2 := hT2.brefr hF2
  have hT3 := hT2.refr hF2 (hT2.r.of_ra hF2 hR2) ((hT2.tr.tf (hF2.tf hT2.r.types hT2.r.ra.own)).snoc hM2)
  refine hK.out _ _ ?_ (fun hHeld2 => ?_)
  · exact hT2.bxr hF2 hHeld1 (by decide) (by decide)
  clear hK K
  try simp only [Act.put, List.setIfInBounds_toArray, List.set_cons_zero, List.set_cons_succ]
  refine Stg.wpAnyL_free (i := 8) (v := ?_) 0 rfl (by kernel_rfl) (by kernel_rfl) (by kernel_rfl) (by kernel_rfl) (by kernel_rfl) (fun _ _ _ h => h) (Or.inl ⟨by kernel_rfl, ?_⟩) (by assumption) ?_
  rotate_left
  · intro u _
    try simp only [List.getElem_toArray, List.getElem_cons_succ, List.getElem_cons_zero]
    go_simp
    try with_reducible rfl
  try simp only [Act.put, List.setIfInBounds_toArray, List.set_cons_zero, List.set_cons_succ]
  refine Stg.wpAnyL_start (n' := 1) (l' := #[true, true, true, true, true, true, true, true, true, false]) (by kernel_rfl) (by kernel_rfl) ?_
  refine Stg.wpAnyL_free (i := 9) (v := ?_) 0 rfl (by kernel_rfl) (by kernel_rfl) (by kernel_rfl) (by kernel_rfl) (by kernel_rfl) (fun _ _ _ h => h) (Or.inl ⟨by kernel_rfl, ?_⟩) (by assumption) ?_
  rotate_left
  · intro u _
    try simp only [List.getElem_toArray, List.getElem_cons_succ, List.getElem_cons_zero]
    go_simp
    try with_reducible rfl
  try simp only [Act.put, List.setIfInBounds_toArray, List.set_cons_zero, List.set_cons_succ]
  refine Stg.wpAnyL_done (by kernel_rfl) ?_ _
  try simp only [List.getElem_toArray, List.getElem_cons_succ, List.getElem_cons_zero]
  try simp only [Act.put, List.setIfInBounds_toArray, List.set_cons_zero, List.set_cons_succ]
  refine NoPanic.normal ?_
  replace hT3 := Lib.hid hT3
  have hBf := Lib.hid (((hBm.out.drew).trans hB1).trans hB2)
  go_wp2_with fail
  go_ret
  exact ⟨rfl, ⟨_, _, _, _, _, _, _, _, _, _, hT3.out, hG3.out⟩, hBf.out⟩

set_option maxRecDepth 100000 in
set_option maxHeartbeats 8000000 in
theorem step_double_full {m : Nat} {w : World} {g rg bp br bm n : Nat} {lv rv cv : Value} {l q : List RM} {C : Int → Int → Bool} {ps : List (Int × Int)} {ms : List Mg} {c : Nat} (hT : Tw m w g rg bp br bm n lv rv cv l q C ps ms ms) (hG : Gd C ps ms n c) (hc : c ≤ 4000) (x : Mg) (ea : Option Addr) (en ec : Nat) (sa : Option Addr) (sn sc : Nat) (da : Option Addr) (dn dc : Nat) (kk : Nat) (hk : kk < ms.length) (hn : ms.length = 1024) :
    Calls Try.prog 19 #[.pointer (some ⟨g, 0, none⟩), .pointer (some ⟨rg, 0, none⟩), .agg #[.int .i64 3, .int .i64 (kk : Nat), .int .i8 x.f.k, .int .i64 x.f.fr, .int .i64 x.f.to, .int .i64 x.f.te, .int .i64 x.f.ix, .int .i64 x.f.la, .int .i64 x.f.co, .bool x.f.ok, .slice ea en ec, .int .i64 x.f.si, .int .i64 x.f.st, .int .u8 x.f.su, .slice sa sn sc, .slice da dn dc]] w (StepP m g rg bp br c w) := by
  have hkl : kk < l.length := by have := hT.ta.1; omega
  have hkq : kk < q.length := by have := hT.tr.1; omega
  have hxm : ms.getD kk mg0 ∈ ms := by simp only [List.getD, List.getElem?_eq_getElem hk, Option.getD_some]; exact List.getElem_mem hk
  have hsm := hG.sm _ hxm
  have hwf := hG.wf _ hxm
  have hG3 := Lib.hid hG.up
  replace hsm := Lib.hid hsm
  replace hn := Lib.hid hn
  replace hkl := Lib.hid hkl
  replace hkq := Lib.hid hkq
  clear hxm hk hwf
  have hb0 : Below w.heap.size w (w.alloc (.cells #[.int .i64 3, .int .i64 (kk : Nat), .int .i8 x.f.k, .int .i64 x.f.fr, .int .i64 x.f.to, .int .i64 x.f.te, .int .i64 x.f.ix, .int .i64 x.f.la, .int .i64 x.f.co, .bool x.f.ok, .slice ea en ec, .int .i64 x.f.si, .int .i64 x.f.st, .int .u8 x.f.su, .slice sa sn sc, .slice da dn dc] 55)) := (Below.refl _ _).alloc (Nat.le_refl _) _
  have bx := HT.new w #[.int .i64 3, .int .i64 (kk : Nat), .int .i8 x.f.k, .int .i64 x.f.fr, .int .i64 x.f.to, .int .i64 x.f.te, .int .i64 x.f.ix, .int .i64 x.f.la, .int .i64 x.f.co, .bool x.f.ok, .slice ea en ec, .int .i64 x.f.si, .int .i64 x.f.st, .int .u8 x.f.su, .slice sa sn sc, .slice da dn dc] 55
  have hTd := (hT.bel hb0).bel (Below.refl _ _).drew
  have hT1 := hT.bel hb0
  have hBm := (hb0.mono hT.mle)
  have hll : l.length = ms.length := hT.ta.1
  have hql : q.length = ms.length := hT.tr.1
  have hle := hG.le
  have hmle := hT.mle
  replace hb0 := Lib.hid hb0
  replace bx := Lib.hid bx
  replace hTd := Lib.hid hTd
  replace hT1 := Lib.hid hT1
  replace hBm := Lib.hid hBm
  replace hG := Lib.hid hG
  replace hll := Lib.hid hll
  replace hql := Lib.hid hql
  replace hle := Lib.hid hle
  clear hT
  go_enter Try.func19, Try.ntmps19
  go_upto_region 1 with fail
  replace bx := bx.out
  replace hTd := hTd.out
  replace hT1 := hT1.out
  replace hBm := hBm.out
  generalize (w.alloc (.cells #[.int .i64 3, .int .i64 (kk : Nat), .int .i8 x.f.k, .int .i64 x.f.fr, .int .i64 x.f.to, .int .i64 x.f.te, .int .i64 x.f.ix, .int .i64 x.f.la, .int .i64 x.f.co, .bool x.f.ok, .slice ea en ec, .int .i64 x.f.si, .int .i64 x.f.st, .int .u8 x.f.su, .slice sa sn sc, .slice da dn dc] 55)) = W1 at bx hTd hT1 hBm ⊢
  generalize w.heap.size = xb at bx hmle ⊢
  have y0 := bx.c 0 _ rfl
  have y1 := bx.c 1 _ rfl
  have y2 := bx.c 2 _ rfl
  have y3 := bx.c 3 _ rfl
  have y4 := bx.c 4 _ rfl
  have y5 := bx.c 5 _ rfl
  have y6 := bx.c 6 _ rfl
  have y7 := bx.c 7 _ rfl
  have y8 := bx.c 8 _ rfl
  have y9 := bx.c 9 _ rfl
  have y10 := bx.c 10 _ rfl
  have y11 := bx.c 11 _ rfl
  have y12 := bx.c 12 _ rfl
  have y13 := bx.c 13 _ rfl
  have y14 := bx.c 14 _ rfl
  have y15 := bx.c 15 _ rfl
  replace bx := Lib.hid bx
  replace hTd := Lib.hid hTd
  replace hT1 := Lib.hid hT1
  replace hBm := Lib.hid hBm
  go_upto_region 11 with fail
  clear y0 y1 y2 y3 y4 y5 y6 y7 y8 y9 y10 y11 y12 y13 y14 y15
  refine wp_region_noPanic ?_
  refine Stg.wp_region_L [] (fun _ u => HT u xb #[.int .i64 3, .int .i64 (kk : Nat), .int .i8 x.f.k, .int .i64 x.f.fr, .int .i64 x.f.to, .int .i64 x.f.te, .int .i64 x.f.ix, .int .i64 x.f.la, .int .i64 x.f.co, .bool x.f.ok, .slice ea en ec, .int .i64 x.f.si, .int .i64 x.f.st, .int .u8 x.f.su, .slice sa sn sc, .slice da dn dc] 55) (by kernel_rfl) (bx.out.drew) (fun hHeld => ?_)
  refine Stg.wpAnyL_start (n' := 10) (l' := #[false, false, false, false, false, false, false, false, false, false]) (by kernel_rfl) (by kernel_rfl) ?_
  refine Stg.wpAnyL_free (i := 0) (v := ?_) 0 rfl (by kernel_rfl) (by kernel_rfl) (by kernel_rfl) (by kernel_rfl) (by kernel_rfl) (fun _ _ _ h => h) (Or.inl ⟨by kernel_rfl, ?_⟩) (by assumption) ?_
  rotate_left
  · intro u _
    try simp only [List.getElem_toArray, List.getElem_cons_succ, List.getElem_cons_zero]
    go_simp
    try with_reducible rfl
  try simp only [Act.put, List.setIfInBounds_toArray, List.set_cons_zero, List.set_cons_succ]
  refine Stg.wpAnyL_free (i := 1) (v := ?_) 0 rfl (by kernel_rfl) (by kernel_rfl) (by kernel_rfl) (by kernel_rfl) (by kernel_rfl) (fun _ _ _ h => h) (Or.inl ⟨by kernel_rfl, ?_⟩) (by assumption) ?_
  rotate_left
  · intro u _
    try simp only [List.getElem_toArray, List.getElem_cons_succ, List.getElem_cons_zero]
    go_simp
    try with_reducible rfl
  try simp only [Act.put, List.setIfInBounds_toArray, List.set_cons_zero, List.set_cons_succ]
  refine Stg.wpAnyL_take (i := 2) (v := ?_) [3, 7, 8, 9] 0 rfl (by kernel_rfl) (by kernel_rfl) (by kernel_rfl) (by kernel_rfl) (by kernel_rfl) (fun _ _ _ h => h) (Or.inl ⟨by kernel_rfl, ?_⟩) (by assumption) ?_
  rotate_left
  · intro u hSu
    skip
    have y0 := hSu.c 0 _ rfl
    have y1 := hSu.c 1 _ rfl
    have y2 := hSu.c 2 _ rfl
    have y3 := hSu.c 3 _ rfl
    have y4 := hSu.c 4 _ rfl
    have y5 := hSu.c 5 _ rfl
    have y6 := hSu.c 6 _ rfl
    have y7 := hSu.c 7 _ rfl
    have y8 := hSu.c 8 _ rfl
    have y9 := hSu.c 9 _ rfl
    have y10 := hSu.c 10 _ rfl
    have y11 := hSu.c 11 _ rfl
    have y12 := hSu.c 12 _ rfl
    have y13 := hSu.c 13 _ rfl
    have y14 := hSu.c 14 _ rfl
    have y15 := hSu.c 15 _ rfl
    try simp only [List.getElem_toArray, List.getElem_cons_succ, List.getElem_cons_zero]
    go_simp
    try with_reducible rfl
  try simp only [Act.put, List.setIfInBounds_toArray, List.set_cons_zero, List.set_cons_succ]
  refine Stg.wpAnyL_start (n' := 7) (l' := #[true, true, true, false, false, false, false, false, false, false]) (by kernel_rfl) (by kernel_rfl) ?_
  refine Stg.wpAnyL_free (i := 4) (v := ?_) 0 rfl (by kernel_rfl) (by kernel_rfl) (by kernel_rfl) (by kernel_rfl) (by kernel_rfl) (fun _ _ _ h => h) (Or.inl ⟨by kernel_rfl, ?_⟩) (by assumption) ?_
  rotate_left
  · intro u _
    try simp only [List.getElem_toArray, List.getElem_cons_succ, List.getElem_cons_zero]
    go_simp
    try with_reducible rfl
  try simp only [Act.put, List.setIfInBounds_toArray, List.set_cons_zero, List.set_cons_succ]
  refine Stg.wpAnyL_free (i := 5) (v := ?_) 0 rfl (by kernel_rfl) (by kernel_rfl) (by kernel_rfl) (by kernel_rfl) (by kernel_rfl) (fun _ _ _ h => h) (Or.inl ⟨by kernel_rfl, ?_⟩) (by assumption) ?_
  rotate_left
  · intro u _
    try simp only [List.getElem_toArray, List.getElem_cons_succ, List.getElem_cons_zero]
    go_simp
    try with_reducible rfl
  try simp only [Act.put, List.setIfInBounds_toArray, List.set_cons_zero, List.set_cons_succ]
  refine Stg.wpAnyL_take (i := 6) (v := ?_) [7, 8, 9] 0 rfl (by kernel_rfl) (by kernel_rfl) (by kernel_rfl) (by kernel_rfl) (by kernel_rfl) (fun _ _ _ h => h) (Or.inl ⟨by kernel_rfl, ?_⟩) (by assumption) ?_
  rotate_left
  · intro u hSu
    skip
    have y0 := hSu.c 0 _ rfl
    have y1 := hSu.c 1 _ rfl
    have y2 := hSu.c 2 _ rfl
    have y3 := hSu.c 3 _ rfl
    have y4 := hSu.c 4 _ rfl
    have y5 := hSu.c 5 _ rfl
    have y6 := hSu.c 6 _ rfl
    have y7 := hSu.c 7 _ rfl
    have y8 := hSu.c 8 _ rfl
    have y9 := hSu.c 9 _ rfl
    have y10 := hSu.c 10 _ rfl
    have y11 := hSu.c 11 _ rfl
    have y12 := hSu.c 12 _ rfl
    have y13 := hSu.c 13 _ rfl
    have y14 := hSu.c 14 _ rfl
    have y15 := hSu.c 15 _ rfl
    try simp only [List.getElem_toArray, List.getElem_cons_succ, List.getElem_cons_zero]
    go_simp
    try with_reducible rfl
  try simp only [Act.put, List.setIfInBounds_toArray, List.set_cons_zero, List.set_cons_succ]
  refine Stg.wpAnyL_start (n' := 4) (l' := #[true, true, true, false, true, true, true, false, false, false]) (by kernel_rfl) (by kernel_rfl) ?_
  refine Stg.wpAnyL_one (i := 3) 0 rfl (by kernel_rfl) (by kernel_rfl) (fun K hK => ?_)
  try simp only [List.getElem_toArray, List.getElem_cons_succ, List.getElem_cons_zero]
  go_simp
  refine (adouble_full hTd.out.a.ra kk _ hkl.out (hTd.out.ta.at hkl.out) hsm.out (by have := hn.out; have := hll.out; omega)).mono ?_
  rintro e u1 ⟨rfl, hb1⟩
  have hB1 := hb1.mono hTd.out.mle
  have hT2 := hTd.out.bel hb1
  refine hK.out _ _ ?_ (fun hHeld1 => ?_)
  · exact HT.bel hHeld hb1
  clear hK K
  try simp only [Act.put, List.setIfInBounds_toArray, List.set_cons_zero, List.set_cons_succ]
  refine Stg.wpAnyL_one (i := 7) 0 rfl (by kernel_rfl) (by kernel_rfl) (fun K hK => ?_)
  try simp only [List.getElem_toArray, List.getElem_cons_succ, List.getElem_cons_zero]
  go_simp
  refine (rdouble_full hT2.r.ra kk _ hkq.out (hT2.tr.at hkq.out) hsm.out (by have := hn.out; have := hql.out; omega)).mono ?_
  rintro e u2 ⟨rfl, hb2⟩
  have hB2 := hb2.mono hT2.mle
  have hT3 := hT2.bel hb2
  refine hK.out _ _ ?_ (fun hHeld2 => ?_)
  · exact HT.bel hHeld1 hb2
  clear hK K
  try simp only [Act.put, List.setIfInBounds_toArray, List.set_cons_zero, List.set_cons_succ]
  refine Stg.wpAnyL_free (i := 8) (v := ?_) 0 rfl (by kernel_rfl) (by kernel_rfl) (by kernel_rfl) (by kernel_rfl) (by kernel_rfl) (fun _ _ _ h => h) (Or.inl ⟨by kernel_rfl, ?_⟩) (by assumption) ?_
  rotate_left
  · intro u _
    try simp only [List.getElem_toArray, List.getElem_cons_succ, List.getElem_cons_zero]
    go_simp
    try with_reducible rfl
  try simp only [Act.put, List.setIfInBounds_toArray, List.set_cons_zero, List.set_cons_succ]
  refine Stg.wpAnyL_start (n' := 1) (l' := #[true, true, true, true, true, true, true, true, true, false]) (by kernel_rfl) (by kernel_rfl) ?_
  refine Stg.wpAnyL_free (i := 9) (v := ?_) 0 rfl (by kernel_rfl) (by kernel_rfl) (by kernel_rfl) (by kernel_rfl) (by kernel_rfl) (fun _ _ _ h => h) (Or.inl ⟨by kernel_rfl, ?_⟩) (by assumption) ?_
  rotate_left
  · intro u _
    try simp only [List.getElem_toArray, List.getElem_cons_succ, List.getElem_cons_zero]
    go_simp
    try with_reducible rfl
  try simp only [Act.put, List.setIfInBounds_toArray, List.set_cons_zero, List.set_cons_succ]
  refine Stg.wpAnyL_done (by kernel_rfl) ?_ _
  try simp only [List.getElem_toArray, List.getElem_cons_succ, List.getElem_cons_zero]
  try simp only [Act.put, List.setIfInBounds_toArray, List.set_cons_zero, List.set_cons_succ]
  refine NoPanic.normal ?_
  replace hT3 := Lib.hid hT3
  have hBf := Lib.hid (((hBm.out.drew).trans hB1).trans hB2)
  go_wp2_with fail
  go_ret
  exact ⟨rfl, ⟨_, _, _, _, _, _, _, _, _, _, hT3.out, hG3.out⟩, hBf.out⟩

set_option maxRecDepth 100000 in
set_option maxHeartbeats 8000000 in
theorem step_double_no {m : Nat} {w : World} {g rg bp br bm n : Nat} {lv rv cv : Value} {l q : List RM} {C : Int → Int → Bool} {ps : List (Int × Int)} {ms : List Mg} {c : Nat} (hT : Tw m w g rg bp br bm n lv rv cv l q C ps ms ms) (hG : Gd C ps ms n c) (hc : c ≤ 4000) (x : Mg) (ea : Option Addr) (en ec : Nat) (sa : Option Addr) (sn sc : Nat) (da : Option Addr) (dn dc : Nat) (kk : Int) (hk : kk < 0 ∨ (ms.length : Int) ≤ kk) :
    Calls Try.prog 19 #[.pointer (some ⟨g, 0, none⟩), .pointer (some ⟨rg, 0, none⟩), .agg #[.int .i64 3, .int .i64 kk, .int .i8 x.f.k, .int .i64 x.f.fr, .int .i64 x.f.to, .int .i64 x.f.te, .int .i64 x.f.ix, .int .i64 x.f.la, .int .i64 x.f.co, .bool x.f.ok, .slice ea en ec, .int .i64 x.f.si, .int .i64 x.f.st, .int .u8 x.f.su, .slice sa sn sc, .slice da dn dc]] w (StepP m g rg bp br c w) := by
  have hka : kk < 0 ∨ (l.length : Int) ≤ kk := by have := hT.ta.1; omega
  have hkb : kk < 0 ∨ (q.length : Int) ≤ kk := by have := hT.tr.1; omega
  have hG3 := Lib.hid hG.up
  replace hka := Lib.hid hka
  replace hkb := Lib.hid hkb
  clear hk
  have hb0 : Below w.heap.size w (w.alloc (.cells #[.int .i64 3, .int .i64 kk, .int .i8 x.f.k, .int .i64 x.f.fr, .int .i64 x.f.to, .int .i64 x.f.te, .int .i64 x.f.ix, .int .i64 x.f.la, .int .i64 x.f.co, .bool x.f.ok, .slice ea en ec, .int .i64 x.f.si, .int .i64 x.f.st, .int .u8 x.f.su, .slice sa sn sc, .slice da dn dc] 55)) := (Below.refl _ _).alloc (Nat.le_refl _) _
  have bx := HT.new w #[.int .i64 3, .int .i64 kk, .int .i8 x.f.k, .int .i64 x.f.fr, .int .i64 x.f.to, .int .i64 x.f.te, .int .i64 x.f.ix, .int .i64 x.f.la, .int .i64 x.f.co, .bool x.f.ok, .slice ea en ec, .int .i64 x.f.si, .int .i64 x.f.st, .int .u8 x.f.su, .slice sa sn sc, .slice da dn dc] 55
  have hTd := (hT.bel hb0).bel (Below.refl _ _).drew
  have hT1 := hT.bel hb0
  have hBm := (hb0.mono hT.mle)
  have hll : l.length = ms.length := hT.ta.1
  have hql : q.length = ms.length := hT.tr.1
  have hle := hG.le
  have hmle := hT.mle
  replace hb0 := Lib.hid hb0
  replace bx := Lib.hid bx
  replace hTd := Lib.hid hTd
  replace hT1 := Lib.hid hT1
  replace hBm := Lib.hid hBm
  replace hG := Lib.hid hG
  replace hll := Lib.hid hll
  replace hql := Lib.hid hql
  replace hle := Lib.hid hle
  clear hT
  go_enter Try.func19, Try.ntmps19
  go_upto_region 1 with fail
  replace bx := bx.out
  replace hTd := hTd.out
  replace hT1 := hT1.out
  replace hBm := hBm.out
  generalize (w.alloc (.cells #[.int .i64 3, .int .i64 kk, .int .i8 x.f.k, .int .i64 x.f.fr, .int .i64 x.f.to, .int .i64 x.f.te, .int .i64 x.f.ix, .int .i64 x.f.la, .int .i64 x.f.co, .bool x.f.ok, .slice ea en ec, .int .i64 x.f.si, .int .i64 x.f.st, .int .u8 x.f.su, .slice sa sn sc, .slice da dn dc] 55)) = W1 at bx hTd hT1 hBm ⊢
  generalize w.heap.size = xb at bx hmle ⊢
  have y0 := bx.c 0 _ rfl
  have y1 := bx.c 1 _ rfl
  have y2 := bx.c 2 _ rfl
  have y3 := bx.c 3 _ rfl
  have y4 := bx.c 4 _ rfl
  have y5 := bx.c 5 _ rfl
  have y6 := bx.c 6 _ rfl
  have y7 := bx.c 7 _ rfl
  have y8 := bx.c 8 _ rfl
  have y9 := bx.c 9 _ rfl
  have y10 := bx.c 10 _ rfl
  have y11 := bx.c 11 _ rfl
  have y12 := bx.c 12 _ rfl
  have y13 := bx.c 13 _ rfl
  have y14 := bx.c 14 _ rfl
  have y15 := bx.c 15 _ rfl
  replace bx := Lib.hid bx
  replace hTd := Lib.hid hTd
  replace hT1 := Lib.hid hT1
  replace hBm := Lib.hid hBm
  go_upto_region 11 with fail
  clear y0 y1 y2 y3 y4 y5 y6 y7 y8 y9 y10 y11 y12 y13 y14 y15
  refine wp_region_noPanic ?_
  refine Stg.wp_region_L [] (fun _ u => HT u xb #[.int .i64 3, .int .i64 kk, .int .i8 x.f.k, .int .i64 x.f.fr, .int .i64 x.f.to, .int .i64 x.f.te, .int .i64 x.f.ix, .int .i64 x.f.la, .int .i64 x.f.co, .bool x.f.ok, .slice ea en ec, .int .i64 x.f.si, .int .i64 x.f.st, .int .u8 x.f.su, .slice sa sn sc, .slice da dn dc] 55) (by kernel_rfl) (bx.out.drew) (fun hHeld => ?_)
  refine Stg.wpAnyL_start (n' := 10) (l' := #[false, false, false, false, false, false, false, false, false, false]) (by kernel_rfl) (by kernel_rfl) ?_
  refine Stg.wpAnyL_free (i := 0) (v := ?_) 0 rfl (by kernel_rfl) (by kernel_rfl) (by kernel_rfl) (by kernel_rfl) (by kernel_rfl) (fun _ _ _ h => h) (Or.inl ⟨by kernel_rfl, ?_⟩) (by assumption) ?_
  rotate_left
  · intro u _
    try simp only [List.getElem_toArray, List.getElem_cons_succ, List.getElem_cons_zero]
    go_simp
    try with_reducible rfl
  try simp only [Act.put, List.setIfInBounds_toArray, List.set_cons_zero, List.set_cons_succ]
  refine Stg.wpAnyL_free (i := 1) (v := ?_) 0 rfl (by kernel_rfl) (by kernel_rfl) (by kernel_rfl) (by kernel_rfl) (by kernel_rfl) (fun _ _ _ h => h) (Or.inl ⟨by kernel_rfl, ?_⟩) (by assumption) ?_
  rotate_left
  · intro u _
    try simp only [List.getElem_toArray, List.getElem_cons_succ, List.getElem_cons_zero]
    go_simp
    try with_reducible rfl
  try simp only [Act.put, List.setIfInBounds_toArray, List.set_cons_zero, List.set_cons_succ]
  refine Stg.wpAnyL_take (i := 2) (v := ?_) [3, 7, 8, 9] 0 rfl (by kernel_rfl) (by kernel_rfl) (by kernel_rfl) (by kernel_rfl) (by kernel_rfl) (fun _ _ _ h => h) (Or.inl ⟨by kernel_rfl, ?_⟩) (by assumption) ?_
  rotate_left
  · intro u hSu
    skip
    have y0 := hSu.c 0 _ rfl
    have y1 := hSu.c 1 _ rfl
    have y2 := hSu.c 2 _ rfl
    have y3 := hSu.c 3 _ rfl
    have y4 := hSu.c 4 _ rfl
    have y5 := hSu.c 5 _ rfl
    have y6 := hSu.c 6 _ rfl
    have y7 := hSu.c 7 _ rfl
    have y8 := hSu.c 8 _ rfl
    have y9 := hSu.c 9 _ rfl
    have y10 := hSu.c 10 _ rfl
    have y11 := hSu.c 11 _ rfl
    have y12 := hSu.c 12 _ rfl
    have y13 := hSu.c 13 _ rfl
    have y14 := hSu.c 14 _ rfl
    have y15 := hSu.c 15 _ rfl
    try simp only [List.getElem_toArray, List.getElem_cons_succ, List.getElem_cons_zero]
    go_simp
    try with_reducible rfl
  try simp only [Act.put, List.setIfInBounds_toArray, List.set_cons_zero, List.set_cons_succ]
  refine Stg.wpAnyL_start (n' := 7) (l' := #[true, true, true, false, false, false, false, false, false, false]) (by kernel_rfl) (by kernel_rfl) ?_
  refine Stg.wpAnyL_free (i := 4) (v := ?_) 0 rfl (by kernel_rfl) (by kernel_rfl) (by kernel_rfl) (by kernel_rfl) (by kernel_rfl) (fun _ _ _ h => h) (Or.inl ⟨by kernel_rfl, ?_⟩) (by assumption) ?_
  rotate_left
  · intro u _
    try simp only [List.getElem_toArray, List.getElem_cons_succ, List.getElem_cons_zero]
    go_simp
    try with_reducible rfl
  try simp only [Act.put, List.setIfInBounds_toArray, List.set_cons_zero, List.set_cons_succ]
  refine Stg.wpAnyL_free (i := 5) (v := ?_) 0 rfl (by kernel_rfl) (by kernel_rfl) (by kernel_rfl) (by kernel_rfl) (by kernel_rfl) (fun _ _ _ h => h) (Or.inl ⟨by kernel_rfl, ?_⟩) (by assumption) ?_
  rotate_left
  · intro u _
    try simp only [List.getElem_toArray, List.getElem_cons_succ, List.getElem_cons_zero]
    go_simp
    try with_reducible rfl
  try simp only [Act.put, List.setIfInBounds_toArray, List.set_cons_zero, List.set_cons_succ]
  refine Stg.wpAnyL_take (i := 6) (v := ?_) [7, 8, 9] 0 rfl (by kernel_rfl) (by kernel_rfl) (by kernel_rfl) (by kernel_rfl) (by kernel_rfl) (fun _ _ _ h => h) (Or.inl ⟨by kernel_rfl, ?_⟩) (by assumption) ?_
  rotate_left
  · intro u hSu
    skip
    have y0 := hSu.c 0 _ rfl
    have y1 := hSu.c 1 _ rfl
    have y2 := hSu.c 2 _ rfl
    have y3 := hSu.c 3 _ rfl
    have y4 := hSu.c 4 _ rfl
    have y5 := hSu.c 5 _ rfl
    have y6 := hSu.c 6 _ rfl
    have y7 := hSu.c 7 _ rfl
    have y8 := hSu.c 8 _ rfl
    have y9 := hSu.c 9 _ rfl
    have y10 := hSu.c 10 _ rfl
    have y11 := hSu.c 11 _ rfl
    have y12 := hSu.c 12 _ rfl
    have y13 := hSu.c 13 _ rfl
    have y14 := hSu.c 14 _ rfl
    have y15 := hSu.c 15 _ rfl
    try simp only [List.getElem_toArray, List.getElem_cons_succ, List.getElem_cons_zero]
    go_simp
    try with_reducible rfl
  try simp only [Act.put, List.setIfInBounds_toArray, List.set_cons_zero, List.set_cons_succ]
  refine Stg.wpAnyL_start (n' := 4) (l' := #[true, true, true, false, true, true, true, false, false, false]) (by kernel_rfl) (by kernel_rfl) ?_
  refine Stg.wpAnyL_one (i := 3) 0 rfl (by kernel_rfl) (by kernel_rfl) (fun K hK => ?_)
  try simp only [List.getElem_toArray, List.getElem_cons_succ, List.getElem_cons_zero]
  go_simp
  refine (adouble_no hTd.out.a.ra kk hka.out).mono ?_
  rintro e u1 ⟨rfl, hb1⟩
  have hB1 := hb1.mono hTd.out.mle
  have hT2 := hTd.out.bel hb1
  refine hK.out _ _ ?_ (fun hHeld1 => ?_)
  · exact HT.bel hHeld hb1
  clear hK K
  try simp only [Act.put, List.setIfInBounds_toArray, List.set_cons_zero, List.set_cons_succ]
  refine Stg.wpAnyL_one (i := 7) 0 rfl (by kernel_rfl) (by kernel_rfl) (fun K hK => ?_)
  try simp only [List.getElem_toArray, List.getElem_cons_succ, List.getElem_cons_zero]
  go_simp
  refine (rdouble_no hT2.r.ra kk hkb.out).mono ?_
  rintro e u2 ⟨rfl, hb2⟩
  have hB2 := hb2.mono hT2.mle
  have hT3 := hT2.bel hb2
  refine hK.out _ _ ?_ (fun hHeld2 => ?_)
  · exact HT.bel hHeld1 hb2
  clear hK K
  try simp only [Act.put, List.setIfInBounds_toArray, List.set_cons_zero, List.set_cons_succ]
  refine Stg.wpAnyL_free (i := 8) (v := ?_) 0 rfl (by kernel_rfl) (by kernel_rfl) (by kernel_rfl) (by kernel_rfl) (by kernel_rfl) (fun _ _ _ h => h) (Or.inl ⟨by kernel_rfl, ?_⟩) (by assumption) ?_
  rotate_left
  · intro u _
    try simp only [List.getElem_toArray, List.getElem_cons_succ, List.getElem_cons_zero]
    go_simp
    try with_reducible rfl
  try simp only [Act.put, List.setIfInBounds_toArray, List.set_cons_zero, List.set_cons_succ]
  refine Stg.wpAnyL_start (n' := 1) (l' := #[true, true, true, true, true, true, true, true, true, false]) (by kernel_rfl) (by kernel_rfl) ?_
  refine Stg.wpAnyL_free (i := 9) (v := ?_) 0 rfl (by kernel_rfl) (by kernel_rfl) (by kernel_rfl) (by kernel_rfl) (by kernel_rfl) (fun _ _ _ h => h) (Or.inl ⟨by kernel_rfl, ?_⟩) (by assumption) ?_
  rotate_left
  · intro u _
    try simp only [List.getElem_toArray, List.getElem_cons_succ, List.getElem_cons_zero]
    go_simp
    try with_reducible rfl
  try simp only [Act.put, List.setIfInBounds_toArray, List.set_cons_zero, List.set_cons_succ]
  refine Stg.wpAnyL_done (by kernel_rfl) ?_ _
  try simp only [List.getElem_toArray, List.getElem_cons_succ, List.getElem_cons_zero]
  try simp only [Act.put, List.setIfInBounds_toArray, List.set_cons_zero, List.set_cons_succ]
  refine NoPanic.normal ?_
  replace hT3 := Lib.hid hT3
  have hBf := Lib.hid (((hBm.out.drew).trans hB1).trans hB2)
  go_wp2_with fail
  go_ret
  exact ⟨rfl, ⟨_, _, _, _, _, _, _, _, _, _, hT3.out, hG3.out⟩, hBf.out⟩

set_option maxRecDepth 100000 in
set_option maxHeartbeats 8000000 in
theorem step_clear {m : Nat} {w : World} {g rg bp br bm n : Nat} {lv rv cv : Value} {l q : List RM} {C : Int → Int → Bool} {ps : List (Int × Int)} {ms : List Mg} {c : Nat} (hT : Tw m w g rg bp br bm n lv rv cv l q C ps ms ms) (hG : Gd C ps ms n c) (hc : c ≤ 4000) (x : Mg) (ea : Option Addr) (en ec : Nat) (sa : Option Addr) (sn sc : Nat) (da : Option Addr) (dn dc : Nat) (kk : Int)  :
    Calls Try.prog 19 #[.pointer (some ⟨g, 0, none⟩), .pointer (some ⟨rg, 0, none⟩), .agg #[.int .i64 6, .int .i64 kk, .int .i8 x.f.k, .int .i64 x.f.fr, .int .i64 x.f.to, .int .i64 x.f.te, .int .i64 x.f.ix, .int .i64 x.f.la, .int .i64 x.f.co, .bool x.f.ok, .slice ea en ec, .int .i64 x.f.si, .int .i64 x.f.st, .int .u8 x.f.su, .slice sa sn sc, .slice da dn dc]] w (StepP m g rg bp br c w) := by
  have hlen : ((l.length : Int) - ((l.filter (kp kk)).length : Int)) = ((q.length : Int) - ((q.filter (kp kk)).length : Int)) := by
    rw [hT.ta.1, hT.tr.1, (hT.ta.filter kk).1, (hT.tr.filter kk).1]
  have hG3 := Lib.hid (hG.sub (List.filter_sublist (p := kpm kk) (l := ms)))
  obtain ⟨D, hD⟩ : ∃ D, ((l.length : Int) - ((l.filter (kp kk)).length : Int)) = D := ⟨_, rfl⟩
  have hD2 := hlen.symm.trans hD
  replace hD := Lib.hid hD
  replace hD2 := Lib.hid hD2
  clear hlen
  have hb0 : Below w.heap.size w (w.alloc (.cells #[.int .i64 6, .int .i64 kk, .int .i8 x.f.k, .int .i64 x.f.fr, .int .i64 x.f.to, .int .i64 x.f.te, .int .i64 x.f.ix, .int .i64 x.f.la, .int .i64 x.f.co, .bool x.f.ok, .slice ea en ec, .int .i64 x.f.si, .int .i64 x.f.st, .int .u8 x.f.su, .slice sa sn sc, .slice da dn dc] 55)) := (Below.refl _ _).alloc (Nat.le_refl _) _
  have bx := HT.new w #[.int .i64 6, .int .i64 kk, .int .i8 x.f.k, .int .i64 x.f.fr, .int .i64 x.f.to, .int .i64 x.f.te, .int .i64 x.f.ix, .int .i64 x.f.la, .int .i64 x.f.co, .bool x.f.ok, .slice ea en ec, .int .i64 x.f.si, .int .i64 x.f.st, .int .u8 x.f.su, .slice sa sn sc, .slice da dn dc] 55
  have hTd := (hT.bel hb0).bel (Below.refl _ _).drew
  have hT1 := hT.bel hb0
  have hBm := (hb0.mono hT.mle)
  have hll : l.length = ms.length := hT.ta.1
  have hql : q.length = ms.length := hT.tr.1
  have hle := hG.le
  have hmle := hT.mle
  replace hb0 := Lib.hid hb0
  replace bx := Lib.hid bx
  replace hTd := Lib.hid hTd
  replace hT1 := Lib.hid hT1
  replace hBm := Lib.hid hBm
  replace hG := Lib.hid hG
  replace hll := Lib.hid hll
  replace hql := Lib.hid hql
  replace hle := Lib.hid hle
  clear hT
  go_enter Try.func19, Try.ntmps19
  go_upto_region 1 with fail
  replace bx := bx.out
  replace hTd := hTd.out
  replace hT1 := hT1.out
  replace hBm := hBm.out
  generalize (w.alloc (.cells #[.int .i64 6, .int .i64 kk, .int .i8 x.f.k, .int .i64 x.f.fr, .int .i64 x.f.to, .int .i64 x.f.te, .int .i64 x.f.ix, .int .i64 x.f.la, .int .i64 x.f.co, .bool x.f.ok, .slice ea en ec, .int .i64 x.f.si, .int .i64 x.f.st, .int .u8 x.f.su, .slice sa sn sc, .slice da dn dc] 55)) = W1 at bx hTd hT1 hBm ⊢
  generalize w.heap.size = xb at bx hmle ⊢
  have y0 := bx.c 0 _ rfl
  have y1 := bx.c 1 _ rfl
  have y2 := bx.c 2 _ rfl
  have y3 := bx.c 3 _ rfl
  have y4 := bx.c 4 _ rfl
  have y5 := bx.c 5 _ rfl
  have y6 := bx.c 6 _ rfl
  have y7 := bx.c 7 _ rfl
  have y8 := bx.c 8 _ rfl
  have y9 := bx.c 9 _ rfl
  have y10 := bx.c 10 _ rfl
  have y11 := bx.c 11 _ rfl
  have y12 := bx.c 12 _ rfl
  have y13 := bx.c 13 _ rfl
  have y14 := bx.c 14 _ rfl
  have y15 := bx.c 15 _ rfl
  replace bx := Lib.hid bx
  replace hTd := Lib.hid hTd
  replace hT1 := Lib.hid hT1
  replace hBm := Lib.hid hBm
  go_upto_region 17 with fail
  clear y0 y1 y2 y3 y4 y5 y6 y7 y8 y9 y10 y11 y12 y13 y14 y15
  refine wp_region_noPanic ?_
  refine Stg.wp_region_L [] (fun _ u => HT u xb #[.int .i64 6, .int .i64 kk, .int .i8 x.f.k, .int .i64 x.f.fr, .int .i64 x.f.to, .int .i64 x.f.te, .int .i64 x.f.ix, .int .i64 x.f.la, .int .i64 x.f.co, .bool x.f.ok, .slice ea en ec, .int .i64 x.f.si, .int .i64 x.f.st, .int .u8 x.f.su, .slice sa sn sc, .slice da dn dc] 55) (by kernel_rfl) (bx.out.drew) (fun hHeld => ?_)
  refine Stg.wpAnyL_start (n' := 10) (l' := #[false, false, false, false, false, false, false, false, false, false]) (by kernel_rfl) (by kernel_rfl) ?_
  refine Stg.wpAnyL_free (i := 0) (v := ?_) 0 rfl (by kernel_rfl) (by kernel_rfl) (by kernel_rfl) (by kernel_rfl) (by kernel_rfl) (fun _ _ _ h => h) (Or.inl ⟨by kernel_rfl, ?_⟩) (by assumption) ?_
  rotate_left
  · intro u _
    try simp only [List.getElem_toArray, List.getElem_cons_succ, List.getElem_cons_zero]
    go_simp
    try with_reducible rfl
  try simp only [Act.put, List.setIfInBounds_toArray, List.set_cons_zero, List.set_cons_succ]
  refine Stg.wpAnyL_free (i := 1) (v := ?_) 0 rfl (by kernel_rfl) (by kernel_rfl) (by kernel_rfl) (by kernel_rfl) (by kernel_rfl) (fun _ _ _ h => h) (Or.inl ⟨by kernel_rfl, ?_⟩) (by assumption) ?_
  rotate_left
  · intro u _
    try simp only [List.getElem_toArray, List.getElem_cons_succ, List.getElem_cons_zero]
    go_simp
    try with_reducible rfl
  try simp only [Act.put, List.setIfInBounds_toArray, List.set_cons_zero, List.set_cons_succ]
  refine Stg.wpAnyL_take (i := 2) (v := ?_) [3, 7, 8, 9] 0 rfl (by kernel_rfl) (by kernel_rfl) (by kernel_rfl) (by kernel_rfl) (by kernel_rfl) (fun _ _ _ h => h) (Or.inl ⟨by kernel_rfl, ?_⟩) (by assumption) ?_
  rotate_left
  · intro u hSu
    skip
    have y0 := hSu.c 0 _ rfl
    have y1 := hSu.c 1 _ rfl
    have y2 := hSu.c 2 _ rfl
    have y3 := hSu.c 3 _ rfl
    have y4 := hSu.c 4 _ rfl
    have y5 := hSu.c 5 _ rfl
    have y6 := hSu.c 6 _ rfl
    have y7 := hSu.c 7 _ rfl
    have y8 := hSu.c 8 _ rfl
    have y9 := hSu.c 9 _ rfl
    have y10 := hSu.c 10 _ rfl
    have y11 := hSu.c 11 _ rfl
    have y12 := hSu.c 12 _ rfl
    have y13 := hSu.c 13 _ rfl
    have y14 := hSu.c 14 _ rfl
    have y15 := hSu.c 15 _ rfl
    try simp only [List.getElem_toArray, List.getElem_cons_succ, List.getElem_cons_zero]
    go_simp
    try with_reducible rfl
  try simp only [Act.put, List.setIfInBounds_toArray, List.set_cons_zero, List.set_cons_succ]
  refine Stg.wpAnyL_start (n' := 7) (l' := #[true, true, true, false, false, false, false, false, false, false]) (by kernel_rfl) (by kernel_rfl) ?_
  refine Stg.wpAnyL_free (i := 4) (v := ?_) 0 rfl (by kernel_rfl) (by kernel_rfl) (by kernel_rfl) (by kernel_rfl) (by kernel_rfl) (fun _ _ _ h => h) (Or.inl ⟨by kernel_rfl, ?_⟩) (by assumption) ?_
  rotate_left
  · intro u _
    try simp only [List.getElem_toArray, List.getElem_cons_succ, List.getElem_cons_zero]
    go_simp
    try with_reducible rfl
  try simp only [Act.put, List.setIfInBounds_toArray, List.set_cons_zero, List.set_cons_succ]
  refine Stg.wpAnyL_free (i := 5) (v := ?_) 0 rfl (by kernel_rfl) (by kernel_rfl) (by kernel_rfl) (by kernel_rfl) (by kernel_rfl) (fun _ _ _ h => h) (Or.inl ⟨by kernel_rfl, ?_⟩) (by assumption) ?_
  rotate_left
  · intro u _
    try simp only [List.getElem_toArray, List.getElem_cons_succ, List.getElem_cons_zero]
    go_simp
    try with_reducible rfl
  try simp only [Act.put, List.setIfInBounds_toArray, List.set_cons_zero, List.set_cons_succ]
  refine Stg.wpAnyL_take (i := 6) (v := ?_) [7, 8, 9] 0 rfl (by kernel_rfl) (by kernel_rfl) (by kernel_rfl) (by kernel_rfl) (by kernel_rfl) (fun _ _ _ h => h) (Or.inl ⟨by kernel_rfl, ?_⟩) (by assumption) ?_
  rotate_left
  · intro u hSu
    skip
    have y0 := hSu.c 0 _ rfl
    have y1 := hSu.c 1 _ rfl
    have y2 := hSu.c 2 _ rfl
    have y3 := hSu.c 3 _ rfl
    have y4 := hSu.c 4 _ rfl
    have y5 := hSu.c 5 _ rfl
    have y6 := hSu.c 6 _ rfl
    have y7 := hSu.c 7 _ rfl
    have y8 := hSu.c 8 _ rfl
    have y9 := hSu.c 9 _ rfl
    have y10 := hSu.c 10 _ rfl
    have y11 := hSu.c 11 _ rfl
    have y12 := hSu.c 12 _ rfl
    have y13 := hSu.c 13 _ rfl
    have y14 := hSu.c 14 _ rfl
    have y15 := hSu.c 15 _ rfl
    try simp only [List.getElem_toArray, List.getElem_cons_succ, List.getElem_cons_zero]
    go_simp
    try with_reducible rfl
  try simp only [Act.put, List.setIfInBounds_toArray, List.set_cons_zero, List.set_cons_succ]
  refine Stg.wpAnyL_start (n' := 4) (l' := #[true, true, true, false, true, true, true, false, false, false]) (by kernel_rfl) (by kernel_rfl) ?_
  refine Stg.wpAnyL_one (i := 3) 0 rfl (by kernel_rfl) (by kernel_rfl) (fun K hK => ?_)
  try simp only [List.getElem_toArray, List.getElem_cons_succ, List.getElem_cons_zero]
  go_simp
  have hcl := air_clear hTd.out.a kk (by have := hll.out; have := hle.out; omega)
  rw [hD.out] at hcl
  refine hcl.mono ?_
  rintro e u1 ⟨lv1, rfl, hA1, hK1⟩
  have hF1 := hK1.fx
  have hB1 := hTd.out.bprog hF1
  have hT2 := hTd.out.prog hF1 hA1 ((hTd.out.ta.tf (hF1.tf hTd.out.a.types hTd.out.a.own)).filter kk)
  clear hcl
  refine hK.out _ _ ?_ (fun hHeld1 => ?_)
  · exact hTd.out.bxp hF1 hHeld (by decide) (by decide)
  clear hK K
  try simp only [Act.put, List.setIfInBounds_toArray, List.set_cons_zero, List.set_cons_succ]
  refine Stg.wpAnyL_one (i := 7) 0 rfl (by kernel_rfl) (by kernel_rfl) (fun K hK => ?_)
  try simp only [List.getElem_toArray, List.getElem_cons_succ, List.getElem_cons_zero]
  go_simp
  have hcl := rclear hT2.r kk (by have := hql.out; have := hle.out; omega)
  rw [hD2.out] at hcl
  refine hcl.mono ?_
  rintro e u2 ⟨rv2, rfl, hR2, hF2⟩
  have hB2 := hT2.brefr hF2
  have hT3 := hT2.refr hF2 hR2 ((hT2.tr.tf (hF2.tf hT2.r.types hT2.r.ra.own)).filter kk)
  refine hK.out _ _ ?_ (fun hHeld2 => ?_)
  · exact hT2.bxr hF2 hHeld1 (by decide) (by decide)
  clear hK K
  try simp only [Act.put, List.setIfInBounds_toArray, List.set_cons_zero, List.set_cons_succ]
  refine Stg.wpAnyL_free (i := 8) (v := ?_) 0 rfl (by kernel_rfl) (by kernel_rfl) (by kernel_rfl) (by kernel_rfl) (by kernel_rfl) (fun _ _ _ h => h) (Or.inl ⟨by kernel_rfl, ?_⟩) (by assumption) ?_
  rotate_left
  · intro u _
    try simp only [List.getElem_toArray, List.getElem_cons_succ, List.getElem_cons_zero]
    go_simp
    try with_reducible rfl
  try simp only [Act.put, List.setIfInBounds_toArray, List.set_cons_zero, List.set_cons_succ]
  refine Stg.wpAnyL_start (n' := 1) (l' := #[true, true, true, true, true, true, true, true, true, false]) (by kernel_rfl) (by kernel_rfl) ?_
  refine Stg.wpAnyL_free (i := 9) (v := ?_) 0 rfl (by kernel_rfl) (by kernel_rfl) (by kernel_rfl) (by kernel_rfl) (by kernel_rfl) (fun _ _ _ h => h) (Or.inl ⟨by kernel_rfl, ?_⟩) (by assumption) ?_
  rotate_left
  · intro u _
    try simp only [List.getElem_toArray, List.getElem_cons_succ, List.getElem_cons_zero]
    go_simp
    try with_reducible rfl
  try simp only [Act.put, List.setIfInBounds_toArray, List.set_cons_zero, List.set_cons_succ]
  refine Stg.wpAnyL_done (by kernel_rfl) ?_ _
  try simp only [List.getElem_toArray, List.getElem_cons_succ, List.getElem_cons_zero]
  try simp only [Act.put, List.setIfInBounds_toArray, List.set_cons_zero, List.set_cons_succ]
  refine NoPanic.normal ?_
  replace hT3 := Lib.hid hT3
  have hBf := Lib.hid (((hBm.out.drew).trans hB1).trans hB2)
  go_wp2_with fail
  go_ret
  exact ⟨rfl, ⟨_, _, _, _, _, _, _, _, _, _, hT3.out, hG3.out⟩, hBf.out⟩

set_option maxRecDepth 100000 in
set_option maxHeartbeats 8000000 in
theorem step_cut_ok {m : Nat} {w : World} {g rg bp br bm n : Nat} {lv rv cv : Value} {l q : List RM} {C : Int → Int → Bool} {ps : List (Int × Int)} {ms : List Mg} {c : Nat} (hT : Tw m w g rg bp br bm n lv rv cv l q C ps ms ms) (hG : Gd C ps ms n c) (hc : c ≤ 4000) (x : Mg) (ea : Option Addr) (en ec : Nat) (sa : Option Addr) (sn sc : Nat) (da : Option Addr) (dn dc : Nat) (kk : Int) (hf : 1 ≤ x.f.fr ∧ x.f.fr ≤ 255) (ht : 1 ≤ x.f.to ∧ x.f.to ≤ 255) :
    Calls Try.prog 19 #[.pointer (some ⟨g, 0, none⟩), .pointer (some ⟨rg, 0, none⟩), .agg #[.int .i64 4, .int .i64 kk, .int .i8 x.f.k, .int .i64 x.f.fr, .int .i64 x.f.to, .int .i64 x.f.te, .int .i64 x.f.ix, .int .i64 x.f.la, .int .i64 x.f.co, .bool x.f.ok, .slice ea en ec, .int .i64 x.f.si, .int .i64 x.f.st, .int .u8 x.f.su, .slice sa sn sc, .slice da dn dc]] w (StepP m g rg bp br c w) := by
  have hG3 := Lib.hid (hG.cut x.f.fr x.f.to)
  have hn1 := hG.n1
  have hp1 := hG.p1
  replace hf := Lib.hid hf
  replace ht := Lib.hid ht
  have hb0 : Below w.heap.size w (w.alloc (.cells #[.int .i64 4, .int .i64 kk, .int .i8 x.f.k, .int .i64 x.f.fr, .int .i64 x.f.to, .int .i64 x.f.te, .int .i64 x.f.ix, .int .i64 x.f.la, .int .i64 x.f.co, .bool x.f.ok, .slice ea en ec, .int .i64 x.f.si, .int .i64 x.f.st, .int .u8 x.f.su, .slice sa sn sc, .slice da dn dc] 55)) := (Below.refl _ _).alloc (Nat.le_refl _) _
  have bx := HT.new w #[.int .i64 4, .int .i64 kk, .int .i8 x.f.k, .int .i64 x.f.fr, .int .i64 x.f.to, .int .i64 x.f.te, .int .i64 x.f.ix, .int .i64 x.f.la, .int .i64 x.f.co, .bool x.f.ok, .slice ea en ec, .int .i64 x.f.si, .int .i64 x.f.st, .int .u8 x.f.su, .slice sa sn sc, .slice da dn dc] 55
  have hTd := (hT.bel hb0).bel (Below.refl _ _).drew
  have hT1 := hT.bel hb0
  have hBm := (hb0.mono hT.mle)
  have hll : l.length = ms.length := hT.ta.1
  have hql : q.length = ms.length := hT.tr.1
  have hle := hG.le
  have hmle := hT.mle
  replace hb0 := Lib.hid hb0
  replace bx := Lib.hid bx
  replace hTd := Lib.hid hTd
  replace hT1 := Lib.hid hT1
  replace hBm := Lib.hid hBm
  replace hG := Lib.hid hG
  replace hll := Lib.hid hll
  replace hql := Lib.hid hql
  replace hle := Lib.hid hle
  clear hT
  go_enter Try.func19, Try.ntmps19
  go_upto_region 1 with fail
  replace bx := bx.out
  replace hTd := hTd.out
  replace hT1 := hT1.out
  replace hBm := hBm.out
  generalize (w.alloc (.cells #[.int .i64 4, .int .i64 kk, .int .i8 x.f.k, .int .i64 x.f.fr, .int .i64 x.f.to, .int .i64 x.f.te, .int .i64 x.f.ix, .int .i64 x.f.la, .int .i64 x.f.co, .bool x.f.ok, .slice ea en ec, .int .i64 x.f.si, .int .i64 x.f.st, .int .u8 x.f.su, .slice sa sn sc, .slice da dn dc] 55)) = W1 at bx hTd hT1 hBm ⊢
  generalize w.heap.size = xb at bx hmle ⊢
  have y0 := bx.c 0 _ rfl
  have y1 := bx.c 1 _ rfl
  have y2 := bx.c 2 _ rfl
  have y3 := bx.c 3 _ rfl
  have y4 := bx.c 4 _ rfl
  have y5 := bx.c 5 _ rfl
  have y6 := bx.c 6 _ rfl
  have y7 := bx.c 7 _ rfl
  have y8 := bx.c 8 _ rfl
  have y9 := bx.c 9 _ rfl
  have y10 := bx.c 10 _ rfl
  have y11 := bx.c 11 _ rfl
  have y12 := bx.c 12 _ rfl
  have y13 := bx.c 13 _ rfl
  have y14 := bx.c 14 _ rfl
  have y15 := bx.c 15 _ rfl
  replace bx := Lib.hid bx
  replace hTd := Lib.hid hTd
  replace hT1 := Lib.hid hT1
  replace hBm := Lib.hid hBm
  go_upto_region 13 with fail
  clear y0 y1 y2 y3 y4 y5 y6 y7 y8 y9 y10 y11 y12 y13 y14 y15
  refine wp_region_noPanic ?_
  refine Stg.wp_region_L [] (fun _ u => HT u xb #[.int .i64 4, .int .i64 kk, .int .i8 x.f.k, .int .i64 x.f.fr, .int .i64 x.f.to, .int .i64 x.f.te, .int .i64 x.f.ix, .int .i64 x.f.la, .int .i64 x.f.co, .bool x.f.ok, .slice ea en ec, .int .i64 x.f.si, .int .i64 x.f.st, .int .u8 x.f.su, .slice sa sn sc, .slice da dn dc] 55) (by kernel_rfl) (bx.out.drew) (fun hHeld => ?_)
  refine Stg.wpAnyL_start (n' := 18) (l' := #[false, false, false, false, false, false, false, false, false, false, false, false, false, false, false, false, false, false]) (by kernel_rfl) (by kernel_rfl) ?_
  refine Stg.wpAnyL_free (i := 0) (v := ?_) 0 rfl (by kernel_rfl) (by kernel_rfl) (by kernel_rfl) (by kernel_rfl) (by kernel_rfl) (fun _ _ _ h => h) (Or.inl ⟨by kernel_rfl, ?_⟩) (by assumption) ?_
  rotate_left
  · intro u _
    try simp only [List.getElem_toArray, List.getElem_cons_succ, List.getElem_cons_zero]
    go_simp
    try with_reducible rfl
  try simp only [Act.put, List.setIfInBounds_toArray, List.set_cons_zero, List.set_cons_succ]
  refine Stg.wpAnyL_free (i := 1) (v := ?_) 0 rfl (by kernel_rfl) (by kernel_rfl) (by kernel_rfl) (by kernel_rfl) (by kernel_rfl) (fun _ _ _ h => h) (Or.inl ⟨by kernel_rfl, ?_⟩) (by assumption) ?_
  rotate_left
  · intro u _
    try simp only [List.getElem_toArray, List.getElem_cons_succ, List.getElem_cons_zero]
    go_simp
    try with_reducible rfl
  try simp only [Act.put, List.setIfInBounds_toArray, List.set_cons_zero, List.set_cons_succ]
  refine Stg.wpAnyL_free (i := 2) (v := ?_) 0 rfl (by kernel_rfl) (by kernel_rfl) (by kernel_rfl) (by kernel_rfl) (by kernel_rfl) (fun _ _ _ h => h) (Or.inl ⟨by kernel_rfl, ?_⟩) (by assumption) ?_
  rotate_left
  · intro u _
    try simp only [List.getElem_toArray, List.getElem_cons_succ, List.getElem_cons_zero]
    go_simp
    try with_reducible rfl
  try simp only [Act.put, List.setIfInBounds_toArray, List.set_cons_zero, List.set_cons_succ]
  refine Stg.wpAnyL_start (n' := 15) (l' := #[true, true, true, false, false, false, false, false, false, false, false, false, false, false, false, false, false, false]) (by kernel_rfl) (by kernel_rfl) ?_
  refine Stg.wpAnyL_take (i := 3) (v := ?_) [7, 15, 16, 17] 0 rfl (by kernel_rfl) (by kernel_rfl) (by kernel_rfl) (by kernel_rfl) (by kernel_rfl) (fun _ _ _ h => h) (Or.inl ⟨by kernel_rfl, ?_⟩) (by assumption) ?_
  rotate_left
  · intro u hSu
    skip
    have y0 := hSu.c 0 _ rfl
    have y1 := hSu.c 1 _ rfl
    have y2 := hSu.c 2 _ rfl
    have y3 := hSu.c 3 _ rfl
    have y4 := hSu.c 4 _ rfl
    have y5 := hSu.c 5 _ rfl
    have y6 := hSu.c 6 _ rfl
    have y7 := hSu.c 7 _ rfl
    have y8 := hSu.c 8 _ rfl
    have y9 := hSu.c 9 _ rfl
    have y10 := hSu.c 10 _ rfl
    have y11 := hSu.c 11 _ rfl
    have y12 := hSu.c 12 _ rfl
    have y13 := hSu.c 13 _ rfl
    have y14 := hSu.c 14 _ rfl
    have y15 := hSu.c 15 _ rfl
    try simp only [List.getElem_toArray, List.getElem_cons_succ, List.getElem_cons_zero]
    go_simp
    try with_reducible rfl
  try simp only [Act.put, List.setIfInBounds_toArray, List.set_cons_zero, List.set_cons_succ]
  refine Stg.wpAnyL_free (i := 4) (v := ?_) 0 rfl (by kernel_rfl) (by kernel_rfl) (by kernel_rfl) (by kernel_rfl) (by kernel_rfl) (fun _ _ _ h => h) (Or.inl ⟨by kernel_rfl, ?_⟩) (by assumption) ?_
  rotate_left
  · intro u _
    try simp only [List.getElem_toArray, List.getElem_cons_succ, List.getElem_cons_zero]
    go_simp
    try with_reducible rfl
  try simp only [Act.put, List.setIfInBounds_toArray, List.set_cons_zero, List.set_cons_succ]
  refine Stg.wpAnyL_free (i := 5) (v := ?_) 0 rfl (by kernel_rfl) (by kernel_rfl) (by kernel_rfl) (by kernel_rfl) (by kernel_rfl) (fun _ _ _ h => h) (Or.inl ⟨by kernel_rfl, ?_⟩) (by assumption) ?_
  rotate_left
  · intro u _
    try simp only [List.getElem_toArray, List.getElem_cons_succ, List.getElem_cons_zero]
    go_simp
    try with_reducible rfl
  try simp only [Act.put, List.setIfInBounds_toArray, List.set_cons_zero, List.set_cons_succ]
  refine Stg.wpAnyL_start (n' := 12) (l' := #[true, true, true, true, true, true, false, false, false, false, false, false, false, false, false, false, false, false]) (by kernel_rfl) (by kernel_rfl) ?_
  refine Stg.wpAnyL_take (i := 6) (v := ?_) [7, 15, 16, 17] 0 rfl (by kernel_rfl) (by kernel_rfl) (by kernel_rfl) (by kernel_rfl) (by kernel_rfl) (fun _ _ _ h => h) (Or.inl ⟨by kernel_rfl, ?_⟩) (by assumption) ?_
  rotate_left
  · intro u hSu
    skip
    have y0 := hSu.c 0 _ rfl
    have y1 := hSu.c 1 _ rfl
    have y2 := hSu.c 2 _ rfl
    have y3 := hSu.c 3 _ rfl
    have y4 := hSu.c 4 _ rfl
    have y5 := hSu.c 5 _ rfl
    have y6 := hSu.c 6 _ rfl
    have y7 := hSu.c 7 _ rfl
    have y8 := hSu.c 8 _ rfl
    have y9 := hSu.c 9 _ rfl
    have y10 := hSu.c 10 _ rfl
    have y11 := hSu.c 11 _ rfl
    have y12 := hSu.c 12 _ rfl
    have y13 := hSu.c 13 _ rfl
    have y14 := hSu.c 14 _ rfl
    have y15 := hSu.c 15 _ rfl
    try simp only [List.getElem_toArray, List.getElem_cons_succ, List.getElem_cons_zero]
    go_simp
    try with_reducible rfl
  try simp only [Act.put, List.setIfInBounds_toArray, List.set_cons_zero, List.set_cons_succ]
  refine Stg.wpAnyL_free (i := 8) (v := ?_) 0 rfl (by kernel_rfl) (by kernel_rfl) (by kernel_rfl) (by kernel_rfl) (by kernel_rfl) (fun _ _ _ h => h) (Or.inl ⟨by kernel_rfl, ?_⟩) (by assumption) ?_
  rotate_left
  · intro u _
    try simp only [List.getElem_toArray, List.getElem_cons_succ, List.getElem_cons_zero]
    go_simp
    try with_reducible rfl
  try simp only [Act.put, List.setIfInBounds_toArray, List.set_cons_zero, List.set_cons_succ]
  refine Stg.wpAnyL_free (i := 9) (v := ?_) 0 rfl (by kernel_rfl) (by kernel_rfl) (by kernel_rfl) (by kernel_rfl) (by kernel_rfl) (fun _ _ _ h => h) (Or.inl ⟨by kernel_rfl, ?_⟩) (by assumption) ?_
  rotate_left
  · intro u _
    try simp only [List.getElem_toArray, List.getElem_cons_succ, List.getElem_cons_zero]
    go_simp
    try with_reducible rfl
  try simp only [Act.put, List.setIfInBounds_toArray, List.set_cons_zero, List.set_cons_succ]
  refine Stg.wpAnyL_start (n' := 9) (l' := #[true, true, true, true, true, true, true, false, true, true, false, false, false, false, false, false, false, false]) (by kernel_rfl) (by kernel_rfl) ?_
  refine Stg.wpAnyL_free (i := 10) (v := ?_) 0 rfl (by kernel_rfl) (by kernel_rfl) (by kernel_rfl) (by kernel_rfl) (by kernel_rfl) (fun _ _ _ h => h) (Or.inl ⟨by kernel_rfl, ?_⟩) (by assumption) ?_
  rotate_left
  · intro u _
    try simp only [List.getElem_toArray, List.getElem_cons_succ, List.getElem_cons_zero]
    go_simp
    try with_reducible rfl
  try simp only [Act.put, List.setIfInBounds_toArray, List.set_cons_zero, List.set_cons_succ]
  refine Stg.wpAnyL_take (i := 11) (v := ?_) [15, 16, 17] 0 rfl (by kernel_rfl) (by kernel_rfl) (by kernel_rfl) (by kernel_rfl) (by kernel_rfl) (fun _ _ _ h => h) (Or.inl ⟨by kernel_rfl, ?_⟩) (by assumption) ?_
  rotate_left
  · intro u hSu
    skip
    have y0 := hSu.c 0 _ rfl
    have y1 := hSu.c 1 _ rfl
    have y2 := hSu.c 2 _ rfl
    have y3 := hSu.c 3 _ rfl
    have y4 := hSu.c 4 _ rfl
    have y5 := hSu.c 5 _ rfl
    have y6 := hSu.c 6 _ rfl
    have y7 := hSu.c 7 _ rfl
    have y8 := hSu.c 8 _ rfl
    have y9 := hSu.c 9 _ rfl
    have y10 := hSu.c 10 _ rfl
    have y11 := hSu.c 11 _ rfl
    have y12 := hSu.c 12 _ rfl
    have y13 := hSu.c 13 _ rfl
    have y14 := hSu.c 14 _ rfl
    have y15 := hSu.c 15 _ rfl
    try simp only [List.getElem_toArray, List.getElem_cons_succ, List.getElem_cons_zero]
    go_simp
    try with_reducible rfl
  try simp only [Act.put, List.setIfInBounds_toArray, List.set_cons_zero, List.set_cons_succ]
  refine Stg.wpAnyL_free (i := 12) (v := ?_) 0 rfl (by kernel_rfl) (by kernel_rfl) (by kernel_rfl) (by kernel_rfl) (by kernel_rfl) (fun _ _ _ h => h) (Or.inl ⟨by kernel_rfl, ?_⟩) (by assumption) ?_
  rotate_left
  · intro u _
    try simp only [List.getElem_toArray, List.getElem_cons_succ, List.getElem_cons_zero]
    go_simp
    try with_reducible rfl
  try simp only [Act.put, List.setIfInBounds_toArray, List.set_cons_zero, List.set_cons_succ]
  refine Stg.wpAnyL_start (n' := 6) (l' := #[true, true, true, true, true, true, true, false, true, true, true, true, true, false, false, false, false, false]) (by kernel_rfl) (by kernel_rfl) ?_
  refine Stg.wpAnyL_free (i := 13) (v := ?_) 0 rfl (by kernel_rfl) (by kernel_rfl) (by kernel_rfl) (by kernel_rfl) (by kernel_rfl) (fun _ _ _ h => h) (Or.inl ⟨by kernel_rfl, ?_⟩) (by assumption) ?_
  rotate_left
  · intro u _
    try simp only [List.getElem_toArray, List.getElem_cons_succ, List.getElem_cons_zero]
    go_simp
    try with_reducible rfl
  try simp only [Act.put, List.setIfInBounds_toArray, List.set_cons_zero, List.set_cons_succ]
  refine Stg.wpAnyL_take (i := 14) (v := ?_) [15, 16, 17] 0 rfl (by kernel_rfl) (by kernel_rfl) (by kernel_rfl) (by kernel_rfl) (by kernel_rfl) (fun _ _ _ h => h) (Or.inl ⟨by kernel_rfl, ?_⟩) (by assumption) ?_
  rotate_left
  · intro u hSu
    skip
    have y0 := hSu.c 0 _ rfl
    have y1 := hSu.c 1 _ rfl
    have y2 := hSu.c 2 _ rfl
    have y3 := hSu.c 3 _ rfl
    have y4 := hSu.c 4 _ rfl
    have y5 := hSu.c 5 _ rfl
    have y6 := hSu.c 6 _ rfl
    have y7 := hSu.c 7 _ rfl
    have y8 := hSu.c 8 _ rfl
    have y9 := hSu.c 9 _ rfl
    have y10 := hSu.c 10 _ rfl
    have y11 := hSu.c 11 _ rfl
    have y12 := hSu.c 12 _ rfl
    have y13 := hSu.c 13 _ rfl
    have y14 := hSu.c 14 _ rfl
    have y15 := hSu.c 15 _ rfl
    try simp only [List.getElem_toArray, List.getElem_cons_succ, List.getElem_cons_zero]
    go_simp
    try with_reducible rfl
  try simp only [Act.put, List.setIfInBounds_toArray, List.set_cons_zero, List.set_cons_succ]
  refine Stg.wpAnyL_one (i := 7) 0 rfl (by kernel_rfl) (by kernel_rfl) (fun K hK => ?_)
  try simp only [List.getElem_toArray, List.getElem_cons_succ, List.getElem_cons_zero]
  go_simp
  refine (air_Cut x.f.fr x.f.to hTd.out.a hf.out ht.out (by omega)).mono ?_
  rintro e u1 ⟨rfl, hA1, hK1⟩
  have hF1 := hK1.fx
  have hB1 := hTd.out.bprog hF1
  have hT2 := hTd.out.prog hF1 hA1 (hTd.out.ta.tf (hF1.tf hTd.out.a.types hTd.out.a.own))
  refine hK.out _ _ ?_ (fun hHeld1 => ?_)
  · exact hTd.out.bxp hF1 hHeld (by decide) (by decide)
  clear hK K
  try simp only [Act.put, List.setIfInBounds_toArray, List.set_cons_zero, List.set_cons_succ]
  refine Stg.wpAnyL_start (n' := 3) (l' := #[true, true, true, true, true, true, true, true, true, true, true, true, true, true, true, false, false, false]) (by kernel_rfl) (by kernel_rfl) ?_
  refine Stg.wpAnyL_one (i := 15) 0 rfl (by kernel_rfl) (by kernel_rfl) (fun K hK => ?_)
  try simp only [List.getElem_toArray, List.getElem_cons_succ, List.getElem_cons_zero]
  go_simp
  refine (rcut_c hT2.r x.f.fr x.f.to hf.out ht.out (by omega)).mono ?_
  rintro e u2 ⟨cv2, rfl, hR2, hF2, hN2⟩
  have hB2 := hT2.brefc hF2
  have hT3 := hT2.refc hF2 hR2
  refine hK.out _ _ ?_ (fun hHeld2 => ?_)
  · exact hT2.bxc hF2 hHeld1 (by decide)
  clear hK K
  try simp only [Act.put, List.setIfInBounds_toArray, List.set_cons_zero, List.set_cons_succ]
  refine Stg.wpAnyL_free (i := 16) (v := ?_) 0 rfl (by kernel_rfl) (by kernel_rfl) (by kernel_rfl) (by kernel_rfl) (by kernel_rfl) (fun _ _ _ h => h) (Or.inl ⟨by kernel_rfl, ?_⟩) (by assumption) ?_
  rotate_left
  · intro u _
    try simp only [List.getElem_toArray, List.getElem_cons_succ, List.getElem_cons_zero]
    go_simp
    try with_reducible rfl
  try simp only [Act.put, List.setIfInBounds_toArray, List.set_cons_zero, List.set_cons_succ]
  refine Stg.wpAnyL_free (i := 17) (v := ?_) 0 rfl (by kernel_rfl) (by kernel_rfl) (by kernel_rfl) (by kernel_rfl) (by kernel_rfl) (fun _ _ _ h => h) (Or.inl ⟨by kernel_rfl, ?_⟩) (by assumption) ?_
  rotate_left
  · intro u _
    try simp only [List.getElem_toArray, List.getElem_cons_succ, List.getElem_cons_zero]
    go_simp
    try with_reducible rfl
  try simp only [Act.put, List.setIfInBounds_toArray, List.set_cons_zero, List.set_cons_succ]
  refine Stg.wpAnyL_done (by kernel_rfl) ?_ _
  try simp only [List.getElem_toArray, List.getElem_cons_succ, List.getElem_cons_zero]
  try simp only [Act.put, List.setIfInBounds_toArray, List.set_cons_zero, List.set_cons_succ]
  refine NoPanic.normal ?_
  replace hT3 := Lib.hid hT3
  have hBf := Lib.hid (((hBm.out.drew).trans hB1).trans hB2)
  go_wp2_with fail
  go_ret
  exact ⟨rfl, ⟨_, _, _, _, _, _, _, _, _, _, hT3.out, hG3.out⟩, hBf.out⟩

set_option maxRecDepth 100000 in
set_option maxHeartbeats 8000000 in
theorem step_cut_no {m : Nat} {w : World} {g rg bp br bm n : Nat} {lv rv cv : Value} {l q : List RM} {C : Int → Int → Bool} {ps : List (Int × Int)} {ms : List Mg} {c : Nat} (hT : Tw m w g rg bp br bm n lv rv cv l q C ps ms ms) (hG : Gd C ps ms n c) (hc : c ≤ 4000) (x : Mg) (ea : Option Addr) (en ec : Nat) (sa : Option Addr) (sn sc : Nat) (da : Option Addr) (dn dc : Nat) (kk : Int) (hf : ¬ ((1 ≤ x.f.fr ∧ x.f.fr ≤ 255) ∧ 1 ≤ x.f.to ∧ x.f.to ≤ 255)) :
    Calls Try.prog 19 #[.pointer (some ⟨g, 0, none⟩), .pointer (some ⟨rg, 0, none⟩), .agg #[.int .i64 4, .int .i64 kk, .int .i8 x.f.k, .int .i64 x.f.fr, .int .i64 x.f.to, .int .i64 x.f.te, .int .i64 x.f.ix, .int .i64 x.f.la, .int .i64 x.f.co, .bool x.f.ok, .slice ea en ec, .int .i64 x.f.si, .int .i64 x.f.st, .int .u8 x.f.su, .slice sa sn sc, .slice da dn dc]] w (StepP m g rg bp br c w) := by
  have hG3 := Lib.hid hG.up
  replace hf := Lib.hid hf
  have hb0 : Below w.heap.size w (w.alloc (.cells #[.int .i64 4, .int .i64 kk, .int .i8 x.f.k, .int .i64 x.f.fr, .int .i64 x.f.to, .int .i64 x.f.te, .int .i64 x.f.ix, .int .i64 x.f.la, .int .i64 x.f.co, .bool x.f.ok, .slice ea en ec, .int .i64 x.f.si, .int .i64 x.f.st, .int .u8 x.f.su, .slice sa sn sc, .slice da dn dc] 55)) := (Below.refl _ _).alloc (Nat.le_refl _) _
  have bx := HT.new w #[.int .i64 4, .int .i64 kk, .int .i8 x.f.k, .int .i64 x.f.fr, .int .i64 x.f.to, .int .i64 x.f.te, .int .i64 x.f.ix, .int .i64 x.f.la, .int .i64 x.f.co, .bool x.f.ok, .slice ea en ec, .int .i64 x.f.si, .int .i64 x.f.st, .int .u8 x.f.su, .slice sa sn sc, .slice da dn dc] 55
  have hTd := (hT.bel hb0).bel (Below.refl _ _).drew
  have hT1 := hT.bel hb0
  have hBm := (hb0.mono hT.mle)
  have hll : l.length = ms.length := hT.ta.1
  have hql : q.length = ms.length := hT.tr.1
  have hle := hG.le
  have hmle := hT.mle
  replace hb0 := Lib.hid hb0
  replace bx := Lib.hid bx
  replace hTd := Lib.hid hTd
  replace hT1 := Lib.hid hT1
  replace hBm := Lib.hid hBm
  replace hG := Lib.hid hG
  replace hll := Lib.hid hll
  replace hql := Lib.hid hql
  replace hle := Lib.hid hle
  clear hT
  go_enter Try.func19, Try.ntmps19
  go_upto_region 1 with fail
  replace bx := bx.out
  replace hTd := hTd.out
  replace hT1 := hT1.out
  replace hBm := hBm.out
  generalize (w.alloc (.cells #[.int .i64 4, .int .i64 kk, .int .i8 x.f.k, .int .i64 x.f.fr, .int .i64 x.f.to, .int .i64 x.f.te, .int .i64 x.f.ix, .int .i64 x.f.la, .int .i64 x.f.co, .bool x.f.ok, .slice ea en ec, .int .i64 x.f.si, .int .i64 x.f.st, .int .u8 x.f.su, .slice sa sn sc, .slice da dn dc] 55)) = W1 at bx hTd hT1 hBm ⊢
  generalize w.heap.size = xb at bx hmle ⊢
  have y0 := bx.c 0 _ rfl
  have y1 := bx.c 1 _ rfl
  have y2 := bx.c 2 _ rfl
  have y3 := bx.c 3 _ rfl
  have y4 := bx.c 4 _ rfl
  have y5 := bx.c 5 _ rfl
  have y6 := bx.c 6 _ rfl
  have y7 := bx.c 7 _ rfl
  have y8 := bx.c 8 _ rfl
  have y9 := bx.c 9 _ rfl
  have y10 := bx.c 10 _ rfl
  have y11 := bx.c 11 _ rfl
  have y12 := bx.c 12 _ rfl
  have y13 := bx.c 13 _ rfl
  have y14 := bx.c 14 _ rfl
  have y15 := bx.c 15 _ rfl
  replace bx := Lib.hid bx
  replace hTd := Lib.hid hTd
  replace hT1 := Lib.hid hT1
  replace hBm := Lib.hid hBm
  go_upto_region 13 with fail
  clear y0 y1 y2 y3 y4 y5 y6 y7 y8 y9 y10 y11 y12 y13 y14 y15
  refine wp_region_noPanic ?_
  refine Stg.wp_region_L [] (fun _ u => HT u xb #[.int .i64 4, .int .i64 kk, .int .i8 x.f.k, .int .i64 x.f.fr, .int .i64 x.f.to, .int .i64 x.f.te, .int .i64 x.f.ix, .int .i64 x.f.la, .int .i64 x.f.co, .bool x.f.ok, .slice ea en ec, .int .i64 x.f.si, .int .i64 x.f.st, .int .u8 x.f.su, .slice sa sn sc, .slice da dn dc] 55) (by kernel_rfl) (bx.out.drew) (fun hHeld => ?_)
  refine Stg.wpAnyL_start (n' := 18) (l' := #[false, false, false, false, false, false, false, false, false, false, false, false, false, false, false, false, false, false]) (by kernel_rfl) (by kernel_rfl) ?_
  refine Stg.wpAnyL_free (i := 0) (v := ?_) 0 rfl (by kernel_rfl) (by kernel_rfl) (by kernel_rfl) (by kernel_rfl) (by kernel_rfl) (fun _ _ _ h => h) (Or.inl ⟨by kernel_rfl, ?_⟩) (by assumption) ?_
  rotate_left
  · intro u _
    try simp only [List.getElem_toArray, List.getElem_cons_succ, List.getElem_cons_zero]
    go_simp
    try with_reducible rfl
  try simp only [Act.put, List.setIfInBounds_toArray, List.set_cons_zero, List.set_cons_succ]
  refine Stg.wpAnyL_free (i := 1) (v := ?_) 0 rfl (by kernel_rfl) (by kernel_rfl) (by kernel_rfl) (by kernel_rfl) (by kernel_rfl) (fun _ _ _ h => h) (Or.inl ⟨by kernel_rfl, ?_⟩) (by assumption) ?_
  rotate_left
  · intro u _
    try simp only [List.getElem_toArray, List.getElem_cons_succ, List.getElem_cons_zero]
    go_simp
    try with_reducible rfl
  try simp only [Act.put, List.setIfInBounds_toArray, List.set_cons_zero, List.set_cons_succ]
  refine Stg.wpAnyL_free (i := 2) (v := ?_) 0 rfl (by kernel_rfl) (by kernel_rfl) (by kernel_rfl) (by kernel_rfl) (by kernel_rfl) (fun _ _ _ h => h) (Or.inl ⟨by kernel_rfl, ?_⟩) (by assumption) ?_
  rotate_left
  · intro u _
    try simp only [List.getElem_toArray, List.getElem_cons_succ, List.getElem_cons_zero]
    go_simp
    try with_reducible rfl
  try simp only [Act.put, List.setIfInBounds_toArray, List.set_cons_zero, List.set_cons_succ]
  refine Stg.wpAnyL_start (n' := 15) (l' := #[true, true, true, false, false, false, false, false, false, false, false, false, false, false, false, false, false, false]) (by kernel_rfl) (by kernel_rfl) ?_
  refine Stg.wpAnyL_take (i := 3) (v := ?_) [7, 15, 16, 17] 0 rfl (by kernel_rfl) (by kernel_rfl) (by kernel_rfl) (by kernel_rfl) (by kernel_rfl) (fun _ _ _ h => h) (Or.inl ⟨by kernel_rfl, ?_⟩) (by assumption) ?_
  rotate_left
  · intro u hSu
    skip
    have y0 := hSu.c 0 _ rfl
    have y1 := hSu.c 1 _ rfl
    have y2 := hSu.c 2 _ rfl
    have y3 := hSu.c 3 _ rfl
    have y4 := hSu.c 4 _ rfl
    have y5 := hSu.c 5 _ rfl
    have y6 := hSu.c 6 _ rfl
    have y7 := hSu.c 7 _ rfl
    have y8 := hSu.c 8 _ rfl
    have y9 := hSu.c 9 _ rfl
    have y10 := hSu.c 10 _ rfl
    have y11 := hSu.c 11 _ rfl
    have y12 := hSu.c 12 _ rfl
    have y13 := hSu.c 13 _ rfl
    have y14 := hSu.c 14 _ rfl
    have y15 := hSu.c 15 _ rfl
    try simp only [List.getElem_toArray, List.getElem_cons_succ, List.getElem_cons_zero]
    go_simp
    try with_reducible rfl
  try simp only [Act.put, List.setIfInBounds_toArray, List.set_cons_zero, List.set_cons_succ]
  refine Stg.wpAnyL_free (i := 4) (v := ?_) 0 rfl (by kernel_rfl) (by kernel_rfl) (by kernel_rfl) (by kernel_rfl) (by kernel_rfl) (fun _ _ _ h => h) (Or.inl ⟨by kernel_rfl, ?_⟩) (by assumption) ?_
  rotate_left
  · intro u _
    try simp only [List.getElem_toArray, List.getElem_cons_succ, List.getElem_cons_zero]
    go_simp
    try with_reducible rfl
  try simp only [Act.put, List.setIfInBounds_toArray, List.set_cons_zero, List.set_cons_succ]
  refine Stg.wpAnyL_free (i := 5) (v := ?_) 0 rfl (by kernel_rfl) (by kernel_rfl) (by kernel_rfl) (by kernel_rfl) (by kernel_rfl) (fun _ _ _ h => h) (Or.inl ⟨by kernel_rfl, ?_⟩) (by assumption) ?_
  rotate_left
  · intro u _
    try simp only [List.getElem_toArray, List.getElem_cons_succ, List.getElem_cons_zero]
    go_simp
    try with_reducible rfl
  try simp only [Act.put, List.setIfInBounds_toArray, List.set_cons_zero, List.set_cons_succ]
  refine Stg.wpAnyL_start (n' := 12) (l' := #[true, true, true, true, true, true, false, false, false, false, false, false, false, false, false, false, false, false]) (by kernel_rfl) (by kernel_rfl) ?_
  refine Stg.wpAnyL_take (i := 6) (v := ?_) [7, 15, 16, 17] 0 rfl (by kernel_rfl) (by kernel_rfl) (by kernel_rfl) (by kernel_rfl) (by kernel_rfl) (fun _ _ _ h => h) (Or.inl ⟨by kernel_rfl, ?_⟩) (by assumption) ?_
  rotate_left
  · intro u hSu
    skip
    have y0 := hSu.c 0 _ rfl
    have y1 := hSu.c 1 _ rfl
    have y2 := hSu.c 2 _ rfl
    have y3 := hSu.c 3 _ rfl
    have y4 := hSu.c 4 _ rfl
    have y5 := hSu.c 5 _ rfl
    have y6 := hSu.c 6 _ rfl
    have y7 := hSu.c 7 _ rfl
    have y8 := hSu.c 8 _ rfl
    have y9 := hSu.c 9 _ rfl
    have y10 := hSu.c 10 _ rfl
    have y11 := hSu.c 11 _ rfl
    have y12 := hSu.c 12 _ rfl
    have y13 := hSu.c 13 _ rfl
    have y14 := hSu.c 14 _ rfl
    have y15 := hSu.c 15 _ rfl
    try simp only [List.getElem_toArray, List.getElem_cons_succ, List.getElem_cons_zero]
    go_simp
    try with_reducible rfl
  try simp only [Act.put, List.setIfInBounds_toArray, List.set_cons_zero, List.set_cons_succ]
  refine Stg.wpAnyL_free (i := 8) (v := ?_) 0 rfl (by kernel_rfl) (by kernel_rfl) (by kernel_rfl) (by kernel_rfl) (by kernel_rfl) (fun _ _ _ h => h) (Or.inl ⟨by kernel_rfl, ?_⟩) (by assumption) ?_
  rotate_left
  · intro u _
    try simp only [List.getElem_toArray, List.getElem_cons_succ, List.getElem_cons_zero]
    go_simp
    try with_reducible rfl
  try simp only [Act.put, List.setIfInBounds_toArray, List.set_cons_zero, List.set_cons_succ]
  refine Stg.wpAnyL_free (i := 9) (v := ?_) 0 rfl (by kernel_rfl) (by kernel_rfl) (by kernel_rfl) (by kernel_rfl) (by kernel_rfl) (fun _ _ _ h => h) (Or.inl ⟨by kernel_rfl, ?_⟩) (by assumption) ?_
  rotate_left
  · intro u _
    try simp only [List.getElem_toArray, List.getElem_cons_succ, List.getElem_cons_zero]
    go_simp
    try with_reducible rfl
  try simp only [Act.put, List.setIfInBounds_toArray, List.set_cons_zero, List.set_cons_succ]
  refine Stg.wpAnyL_start (n' := 9) (l' := #[true, true, true, true, true, true, true, false, true, true, false, false, false, false, false, false, false, false]) (by kernel_rfl) (by kernel_rfl) ?_
  refine Stg.wpAnyL_free (i := 10) (v := ?_) 0 rfl (by kernel_rfl) (by kernel_rfl) (by kernel_rfl) (by kernel_rfl) (by kernel_rfl) (fun _ _ _ h => h) (Or.inl ⟨by kernel_rfl, ?_⟩) (by assumption) ?_
  rotate_left
  · intro u _
    try simp only [List.getElem_toArray, List.getElem_cons_succ, List.getElem_cons_zero]
    go_simp
    try with_reducible rfl
  try simp only [Act.put, List.setIfInBounds_toArray, List.set_cons_zero, List.set_cons_succ]
  refine Stg.wpAnyL_take (i := 11) (v := ?_) [15, 16, 17] 0 rfl (by kernel_rfl) (by kernel_rfl) (by kernel_rfl) (by kernel_rfl) (by kernel_rfl) (fun _ _ _ h => h) (Or.inl ⟨by kernel_rfl, ?_⟩) (by assumption) ?_
  rotate_left
  · intro u hSu
    skip
    have y0 := hSu.c 0 _ rfl
    have y1 := hSu.c 1 _ rfl
    have y2 := hSu.c 2 _ rfl
    have y3 := hSu.c 3 _ rfl
    have y4 := hSu.c 4 _ rfl
    have y5 := hSu.c 5 _ rfl
    have y6 := hSu.c 6 _ rfl
    have y7 := hSu.c 7 _ rfl
    have y8 := hSu.c 8 _ rfl
    have y9 := hSu.c 9 _ rfl
    have y10 := hSu.c 10 _ rfl
    have y11 := hSu.c 11 _ rfl
    have y12 := hSu.c 12 _ rfl
    have y13 := hSu.c 13 _ rfl
    have y14 := hSu.c 14 _ rfl
    have y15 := hSu.c 15 _ rfl
    try simp only [List.getElem_toArray, List.getElem_cons_succ, List.getElem_cons_zero]
    go_simp
    try with_reducible rfl
  try simp only [Act.put, List.setIfInBounds_toArray, List.set_cons_zero, List.set_cons_succ]
  refine Stg.wpAnyL_free (i := 12) (v := ?_) 0 rfl (by kernel_rfl) (by kernel_rfl) (by kernel_rfl) (by kernel_rfl) (by kernel_rfl) (fun _ _ _ h => h) (Or.inl ⟨by kernel_rfl, ?_⟩) (by assumption) ?_
  rotate_left
  · intro u _
    try simp only [List.getElem_toArray, List.getElem_cons_succ, List.getElem_cons_zero]
    go_simp
    try with_reducible rfl
  try simp only [Act.put, List.setIfInBounds_toArray, List.set_cons_zero, List.set_cons_succ]
  refine Stg.wpAnyL_start (n' := 6) (l' := #[true, true, true, true, true, true, true, false, true, true, true, true, true, false, false, false, false, false]) (by kernel_rfl) (by kernel_rfl) ?_
  refine Stg.wpAnyL_free (i := 13) (v := ?_) 0 rfl (by kernel_rfl) (by kernel_rfl) (by kernel_rfl) (by kernel_rfl) (by kernel_rfl) (fun _ _ _ h => h) (Or.inl ⟨by kernel_rfl, ?_⟩) (by assumption) ?_
  rotate_left
  · intro u _
    try simp only [List.getElem_toArray, List.getElem_cons_succ, List.getElem_cons_zero]
    go_simp
    try with_reducible rfl
  try simp only [Act.put, List.setIfInBounds_toArray, List.set_cons_zero, List.set_cons_succ]
  refine Stg.wpAnyL_take (i := 14) (v := ?_) [15, 16, 17] 0 rfl (by kernel_rfl) (by kernel_rfl) (by kernel_rfl) (by kernel_rfl) (by kernel_rfl) (fun _ _ _ h => h) (Or.inl ⟨by kernel_rfl, ?_⟩) (by assumption) ?_
  rotate_left
  · intro u hSu
    skip
    have y0 := hSu.c 0 _ rfl
    have y1 := hSu.c 1 _ rfl
    have y2 := hSu.c 2 _ rfl
    have y3 := hSu.c 3 _ rfl
    have y4 := hSu.c 4 _ rfl
    have y5 := hSu.c 5 _ rfl
    have y6 := hSu.c 6 _ rfl
    have y7 := hSu.c 7 _ rfl
    have y8 := hSu.c 8 _ rfl
    have y9 := hSu.c 9 _ rfl
    have y10 := hSu.c 10 _ rfl
    have y11 := hSu.c 11 _ rfl
    have y12 := hSu.c 12 _ rfl
    have y13 := hSu.c 13 _ rfl
    have y14 := hSu.c 14 _ rfl
    have y15 := hSu.c 15 _ rfl
    try simp only [List.getElem_toArray, List.getElem_cons_succ, List.getElem_cons_zero]
    go_simp
    try with_reducible rfl
  try simp only [Act.put, List.setIfInBounds_toArray, List.set_cons_zero, List.set_cons_succ]
  refine Stg.wpAnyL_one (i := 7) 0 rfl (by kernel_rfl) (by kernel_rfl) (fun K hK => ?_)
  try simp only [List.getElem_toArray, List.getElem_cons_succ, List.getElem_cons_zero]
  go_simp
  refine (air_Cut_no x.f.fr x.f.to g _ hf.out).mono ?_
  rintro e u1 ⟨rfl, rfl⟩
  have hB1 := Below.refl m W1.drew
  have hT2 := hTd.out
  refine hK.out _ _ ?_ (fun hHeld1 => ?_)
  · exact hHeld
  clear hK K
  try simp only [Act.put, List.setIfInBounds_toArray, List.set_cons_zero, List.set_cons_succ]
  refine Stg.wpAnyL_start (n' := 3) (l' := #[true, true, true, true, true, true, true, true, true, true, true, true, true, true, true, false, false, false]) (by kernel_rfl) (by kernel_rfl) ?_
  refine Stg.wpAnyL_one (i := 15) 0 rfl (by kernel_rfl) (by kernel_rfl) (fun K hK => ?_)
  try simp only [List.getElem_toArray, List.getElem_cons_succ, List.getElem_cons_zero]
  go_simp
  refine (rcut_no hT2.r x.f.fr x.f.to hf.out).mono ?_
  rintro e u2 ⟨rfl, rfl⟩
  have hB2 := Below.refl m W1.drew
  have hT3 := hT2
  refine hK.out _ _ ?_ (fun hHeld2 => ?_)
  · exact hHeld1
  clear hK K
  try simp only [Act.put, List.setIfInBounds_toArray, List.set_cons_zero, List.set_cons_succ]
  refine Stg.wpAnyL_free (i := 16) (v := ?_) 0 rfl (by kernel_rfl) (by kernel_rfl) (by kernel_rfl) (by kernel_rfl) (by kernel_rfl) (fun _ _ _ h => h) (Or.inl ⟨by kernel_rfl, ?_⟩) (by assumption) ?_
  rotate_left
  · intro u _
    try simp only [List.getElem_toArray, List.getElem_cons_succ, List.getElem_cons_zero]
    go_simp
    try with_reducible rfl
  try simp only [Act.put, List.setIfInBounds_toArray, List.set_cons_zero, List.set_cons_succ]
  refine Stg.wpAnyL_free (i := 17) (v := ?_) 0 rfl (by kernel_rfl) (by kernel_rfl) (by kernel_rfl) (by kernel_rfl) (by kernel_rfl) (fun _ _ _ h => h) (Or.inl ⟨by kernel_rfl, ?_⟩) (by assumption) ?_
  rotate_left
  · intro u _
    try simp only [List.getElem_toArray, List.getElem_cons_succ, List.getElem_cons_zero]
    go_simp
    try with_reducible rfl
  try simp only [Act.put, List.setIfInBounds_toArray, List.set_cons_zero, List.set_cons_succ]
  refine Stg.wpAnyL_done (by kernel_rfl) ?_ _
  try simp only [List.getElem_toArray, List.getElem_cons_succ, List.getElem_cons_zero]
  try simp only [Act.put, List.setIfInBounds_toArray, List.set_cons_zero, List.set_cons_succ]
  refine NoPanic.normal ?_
  replace hT3 := Lib.hid hT3
  have hBf := Lib.hid (((hBm.out.drew).trans hB1).trans hB2)
  go_wp2_with fail
  go_ret
  exact ⟨rfl, ⟨_, _, _, _, _, _, _, _, _, _, hT3.out, hG3.out⟩, hBf.out⟩

set_option maxRecDepth 100000 in
set_option maxHeartbeats 8000000 in
theorem step_mend_ok {m : Nat} {w : World} {g rg bp br bm n : Nat} {lv rv cv : Value} {l q : List RM} {C : Int → Int → Bool} {ps : List (Int × Int)} {ms : List Mg} {c : Nat} (hT : Tw m w g rg bp br bm n lv rv cv l q C ps ms ms) (hG : Gd C ps ms n c) (hc : c ≤ 4000) (x : Mg) (ea : Option Addr) (en ec : Nat) (sa : Option Addr) (sn sc : Nat) (da : Option Addr) (dn dc : Nat) (kk : Int) (hf : 1 ≤ x.f.fr ∧ x.f.fr ≤ 255) (ht : 1 ≤ x.f.to ∧ x.f.to ≤ 255) :
    Calls Try.prog 19 #[.pointer (some ⟨g, 0, none⟩), .pointer (some ⟨rg, 0, none⟩), .agg #[.int .i64 5, .int .i64 kk, .int .i8 x.f.k, .int .i64 x.f.fr, .int .i64 x.f.to, .int .i64 x.f.te, .int .i64 x.f.ix, .int .i64 x.f.la, .int .i64 x.f.co, .bool x.f.ok, .slice ea en ec, .int .i64 x.f.si, .int .i64 x.f.st, .int .u8 x.f.su, .slice sa sn sc, .slice da dn dc]] w (StepP m g rg bp br c w) := by
  have hG3 := Lib.hid (hG.mend x.f.fr x.f.to)
  have hn1 := hG.n1
  have hp1 := hG.p1
  replace hf := Lib.hid hf
  replace ht := Lib.hid ht
  have hb0 : Below w.heap.size w (w.alloc (.cells #[.int .i64 5, .int .i64 kk, .int .i8 x.f.k, .int .i64 x.f.fr, .int .i64 x.f.to, .int .i64 x.f.te, .int .i64 x.f.ix, .int .i64 x.f.la, .int .i64 x.f.co, .bool x.f.ok, .slice ea en ec, .int .i64 x.f.si, .int .i64 x.f.st, .int .u8 x.f.su, .slice sa sn sc, .slice da dn dc] 55)) := (Below.refl _ _).alloc (Nat.le_refl _) _
  have bx := HT.new w #[.int .i64 5, .int .i64 kk, .int .i8 x.f.k, .int .i64 x.f.fr, .int .i64 x.f.to, .int .i64 x.f.te, .int .i64 x.f.ix, .int .i64 x.f.la, .int .i64 x.f.co, .bool x.f.ok, .slice ea en ec, .int .i64 x.f.si, .int .i64 x.f.st, .int .u8 x.f.su, .slice sa sn sc, .slice da dn dc] 55
  have hTd := (hT.bel hb0).bel (Below.refl _ _).drew
  have hT1 := hT.bel hb0
  have hBm := (hb0.mono hT.mle)
  have hll : l.length = ms.length := hT.ta.1
  have hql : q.length = ms.length := hT.tr.1
  have hle := hG.le
  have hmle := hT.mle
  replace hb0 := Lib.hid hb0
  replace bx := Lib.hid bx
  replace hTd := Lib.hid hTd
  replace hT1 := Lib.hid hT1
  replace hBm := Lib.hid hBm
  replace hG := Lib.hid hG
  replace hll := Lib.hid hll
  replace hql := Lib.hid hql
  replace hle := Lib.hid hle
  clear hT
  go_enter Try.func19, Try.ntmps19
  go_upto_region 1 with fail
  replace bx := bx.out
  replace hTd := hTd.out
  replace hT1 := hT1.out
  replace hBm := hBm.out
  generalize (w.alloc (.cells #[.int .i64 5, .int .i64 kk, .int .i8 x.f.k, .int .i64 x.f.fr, .int .i64 x.f.to, .int .i64 x.f.te, .int .i64 x.f.ix, .int .i64 x.f.la, .int .i64 x.f.co, .bool x.f.ok, .slice ea en ec, .int .i64 x.f.si, .int .i64 x.f.st, .int .u8 x.f.su, .slice sa sn sc, .slice da dn dc] 55)) = W1 at bx hTd hT1 hBm ⊢
  generalize w.heap.size = xb at bx hmle ⊢
  have y0 := bx.c 0 _ rfl
  have y1 := bx.c 1 _ rfl
  have y2 := bx.c 2 _ rfl
  have y3 := bx.c 3 _ rfl
  have y4 := bx.c 4 _ rfl
  have y5 := bx.c 5 _ rfl
  have y6 := bx.c 6 _ rfl
  have y7 := bx.c 7 _ rfl
  have y8 := bx.c 8 _ rfl
  have y9 := bx.c 9 _ rfl
  have y10 := bx.c 10 _ rfl
  have y11 := bx.c 11 _ rfl
  have y12 := bx.c 12 _ rfl
  have y13 := bx.c 13 _ rfl
  have y14 := bx.c 14 _ rfl
  have y15 := bx.c 15 _ rfl
  replace bx := Lib.hid bx
  replace hTd := Lib.hid hTd
  replace hT1 := Lib.hid hT1
  replace hBm := Lib.hid hBm
  go_upto_region 15 with fail
  clear y0 y1 y2 y3 y4 y5 y6 y7 y8 y9 y10 y11 y12 y13 y14 y15
  refine wp_region_noPanic ?_
  refine Stg.wp_region_L [] (fun _ u => HT u xb #[.int .i64 5, .int .i64 kk, .int .i8 x.f.k, .int .i64 x.f.fr, .int .i64 x.f.to, .int .i64 x.f.te, .int .i64 x.f.ix, .int .i64 x.f.la, .int .i64 x.f.co, .bool x.f.ok, .slice ea en ec, .int .i64 x.f.si, .int .i64 x.f.st, .int .u8 x.f.su, .slice sa sn sc, .slice da dn dc] 55) (by kernel_rfl) (bx.out.drew) (fun hHeld => ?_)
  refine Stg.wpAnyL_start (n' := 18) (l' := #[false, false, false, false, false, false, false, false, false, false, false, false, false, false, false, false, false, false]) (by kernel_rfl) (by kernel_rfl) ?_
  refine Stg.wpAnyL_free (i := 0) (v := ?_) 0 rfl (by kernel_rfl) (by kernel_rfl) (by kernel_rfl) (by kernel_rfl) (by kernel_rfl) (fun _ _ _ h => h) (Or.inl ⟨by kernel_rfl, ?_⟩) (by assumption) ?_
  rotate_left
  · intro u _
    try simp only [List.getElem_toArray, List.getElem_cons_succ, List.getElem_cons_zero]
    go_simp
    try with_reducible rfl
  try simp only [Act.put, List.setIfInBounds_toArray, List.set_cons_zero, List.set_cons_succ]
  refine Stg.wpAnyL_free (i := 1) (v := ?_) 0 rfl (by kernel_rfl) (by kernel_rfl) (by kernel_rfl) (by kernel_rfl) (by kernel_rfl) (fun _ _ _ h => h) (Or.inl ⟨by kernel_rfl, ?_⟩) (by assumption) ?_
  rotate_left
  · intro u _
    try simp only [List.getElem_toArray, List.getElem_cons_succ, List.getElem_cons_zero]
    go_simp
    try with_reducible rfl
  try simp only [Act.put, List.setIfInBounds_toArray, List.set_cons_zero, List.set_cons_succ]
  refine Stg.wpAnyL_free (i := 2) (v := ?_) 0 rfl (by kernel_rfl) (by kernel_rfl) (by kernel_rfl) (by kernel_rfl) (by kernel_rfl) (fun _ _ _ h => h) (Or.inl ⟨by kernel_rfl, ?_⟩) (by assumption) ?_
  rotate_left
  · intro u _
    try simp only [List.getElem_toArray, List.getElem_cons_succ, List.getElem_cons_zero]
    go_simp
    try with_reducible rfl
  try simp only [Act.put, List.setIfInBounds_toArray, List.set_cons_zero, List.set_cons_succ]
  refine Stg.wpAnyL_start (n' := 15) (l' := #[true, true, true, false, false, false, false, false, false, false, false, false, false, false, false, false, false, false]) (by kernel_rfl) (by kernel_rfl) ?_
  refine Stg.wpAnyL_take (i := 3) (v := ?_) [7, 15, 16, 17] 0 rfl (by kernel_rfl) (by kernel_rfl) (by kernel_rfl) (by kernel_rfl) (by kernel_rfl) (fun _ _ _ h => h) (Or.inl ⟨by kernel_rfl, ?_⟩) (by assumption) ?_
  rotate_left
  · intro u hSu
    skip
    have y0 := hSu.c 0 _ rfl
    have y1 := hSu.c 1 _ rfl
    have y2 := hSu.c 2 _ rfl
    have y3 := hSu.c 3 _ rfl
    have y4 := hSu.c 4 _ rfl
    have y5 := hSu.c 5 _ rfl
    have y6 := hSu.c 6 _ rfl
    have y7 := hSu.c 7 _ rfl
    have y8 := hSu.c 8 _ rfl
    have y9 := hSu.c 9 _ rfl
    have y10 := hSu.c 10 _ rfl
    have y11 := hSu.c 11 _ rfl
    have y12 := hSu.c 12 _ rfl
    have y13 := hSu.c 13 _ rfl
    have y14 := hSu.c 14 _ rfl
    have y15 := hSu.c 15 _ rfl
    try simp only [List.getElem_toArray, List.getElem_cons_succ, List.getElem_cons_zero]
    go_simp
    try with_reducible rfl
  try simp only [Act.put, List.setIfInBounds_toArray, List.set_cons_zero, List.set_cons_succ]
  refine Stg.wpAnyL_free (i := 4) (v := ?_) 0 rfl (by kernel_rfl) (by kernel_rfl) (by kernel_rfl) (by kernel_rfl) (by kernel_rfl) (fun _ _ _ h => h) (Or.inl ⟨by kernel_rfl, ?_⟩) (by assumption) ?_
  rotate_left
  · intro u _
    try simp only [List.getElem_toArray, List.getElem_cons_succ, List.getElem_cons_zero]
    go_simp
    try with_reducible rfl
  try simp only [Act.put, List.setIfInBounds_toArray, List.set_cons_zero, List.set_cons_succ]
  refine Stg.wpAnyL_free (i := 5) (v := ?_) 0 rfl (by kernel_rfl) (by kernel_rfl) (by kernel_rfl) (by kernel_rfl) (by kernel_rfl) (fun _ _ _ h => h) (Or.inl ⟨by kernel_rfl, ?_⟩) (by assumption) ?_
  rotate_left
  · intro u _
    try simp only [List.getElem_toArray, List.getElem_cons_succ, List.getElem_cons_zero]
    go_simp
    try with_reducible rfl
  try simp only [Act.put, List.setIfInBounds_toArray, List.set_cons_zero, List.set_cons_succ]
  refine Stg.wpAnyL_start (n' := 12) (l' := #[true, true, true, true, true, true, false, false, false, false, false, false, false, false, false, false, false, false]) (by kernel_rfl) (by kernel_rfl) ?_
  refine Stg.wpAnyL_take (i := 6) (v := ?_) [7, 15, 16, 17] 0 rfl (by kernel_rfl) (by kernel_rfl) (by kernel_rfl) (by kernel_rfl) (by kernel_rfl) (fun _ _ _ h => h) (Or.inl ⟨by kernel_rfl, ?_⟩) (by assumption) ?_
  rotate_left
  · intro u hSu
    skip
    have y0 := hSu.c 0 _ rfl
    have y1 := hSu.c 1 _ rfl
    have y2 := hSu.c 2 _ rfl
    have y3 := hSu.c 3 _ rfl
    have y4 := hSu.c 4 _ rfl
    have y5 := hSu.c 5 _ rfl
    have y6 := hSu.c 6 _ rfl
    have y7 := hSu.c 7 _ rfl
    have y8 := hSu.c 8 _ rfl
    have y9 := hSu.c 9 _ rfl
    have y10 := hSu.c 10 _ rfl
    have y11 := hSu.c 11 _ rfl
    have y12 := hSu.c 12 _ rfl
    have y13 := hSu.c 13 _ rfl
    have y14 := hSu.c 14 _ rfl
    have y15 := hSu.c 15 _ rfl
    try simp only [List.getElem_toArray, List.getElem_cons_succ, List.getElem_cons_zero]
    go_simp
    try with_reducible rfl
  try simp only [Act.put, List.setIfInBounds_toArray, List.set_cons_zero, List.set_cons_succ]
  refine Stg.wpAnyL_free (i := 8) (v := ?_) 0 rfl (by kernel_rfl) (by kernel_rfl) (by kernel_rfl) (by kernel_rfl) (by kernel_rfl) (fun _ _ _ h => h) (Or.inl ⟨by kernel_rfl, ?_⟩) (by assumption) ?_
  rotate_left
  · intro u _
    try simp only [List.getElem_toArray, List.getElem_cons_succ, List.getElem_cons_zero]
    go_simp
    try with_reducible rfl
  try simp only [Act.put, List.setIfInBounds_toArray, List.set_cons_zero, List.set_cons_succ]
  refine Stg.wpAnyL_free (i := 9) (v := ?_) 0 rfl (by kernel_rfl) (by kernel_rfl) (by kernel_rfl) (by kernel_rfl) (by kernel_rfl) (fun _ _ _ h => h) (Or.inl ⟨by kernel_rfl, ?_⟩) (by assumption) ?_
  rotate_left
  · intro u _
    try simp only [List.getElem_toArray, List.getElem_cons_succ, List.getElem_cons_zero]
    go_simp
    try with_reducible rfl
  try simp only [Act.put, List.setIfInBounds_toArray, List.set_cons_zero, List.set_cons_succ]
  refine Stg.wpAnyL_start (n' := 9) (l' := #[true, true, true, true, true, true, true, false, true, true, false, false, false, false, false, false, false, false]) (by kernel_rfl) (by kernel_rfl) ?_
  refine Stg.wpAnyL_free (i := 10) (v := ?_) 0 rfl (by kernel_rfl) (by kernel_rfl) (by kernel_rfl) (by kernel_rfl) (by kernel_rfl) (fun _ _ _ h => h) (Or.inl ⟨by kernel_rfl, ?_⟩) (by assumption) ?_
  rotate_left
  · intro u _
    try simp only [List.getElem_toArray, List.getElem_cons_succ, List.getElem_cons_zero]
    go_simp
    try with_reducible rfl
  try simp only [Act.put, List.setIfInBounds_toArray, List.set_cons_zero, List.set_cons_succ]
  refine Stg.wpAnyL_take (i := 11) (v := ?_) [15, 16, 17] 0 rfl (by kernel_rfl) (by kernel_rfl) (by kernel_rfl) (by kernel_rfl) (by kernel_rfl) (fun _ _ _ h => h) (Or.inl ⟨by kernel_rfl, ?_⟩) (by assumption) ?_
  rotate_left
  · intro u hSu
    skip
    have y0 := hSu.c 0 _ rfl
    have y1 := hSu.c 1 _ rfl
    have y2 := hSu.c 2 _ rfl
    have y3 := hSu.c 3 _ rfl
    have y4 := hSu.c 4 _ rfl
    have y5 := hSu.c 5 _ rfl
    have y6 := hSu.c 6 _ rfl
    have y7 := hSu.c 7 _ rfl
    have y8 := hSu.c 8 _ rfl
    have y9 := hSu.c 9 _ rfl
    have y10 := hSu.c 10 _ rfl
    have y11 := hSu.c 11 _ rfl
    have y12 := hSu.c 12 _ rfl
    have y13 := hSu.c 13 _ rfl
    have y14 := hSu.c 14 _ rfl
    have y15 := hSu.c 15 _ rfl
    try simp only [List.getElem_toArray, List.getElem_cons_succ, List.getElem_cons_zero]
    go_simp
    try with_reducible rfl
  try simp only [Act.put, List.setIfInBounds_toArray, List.set_cons_zero, List.set_cons_succ]
  refine Stg.wpAnyL_free (i := 12) (v := ?_) 0 rfl (by kernel_rfl) (by kernel_rfl) (by kernel_rfl) (by kernel_rfl) (by kernel_rfl) (fun _ _ _ h => h) (Or.inl ⟨by kernel_rfl, ?_⟩) (by assumption) ?_
  rotate_left
  · intro u _
    try simp only [List.getElem_toArray, List.getElem_cons_succ, List.getElem_cons_zero]
    go_simp
    try with_reducible rfl
  try simp only [Act.put, List.setIfInBounds_toArray, List.set_cons_zero, List.set_cons_succ]
  refine Stg.wpAnyL_start (n' := 6) (l' := #[true, true, true, true, true, true, true, false, true, true, true, true, true, false, false, false, false, false]) (by kernel_rfl) (by kernel_rfl) ?_
  refine Stg.wpAnyL_free (i := 13) (v := ?_) 0 rfl (by kernel_rfl) (by kernel_rfl) (by kernel_rfl) (by kernel_rfl) (by kernel_rfl) (fun _ _ _ h => h) (Or.inl ⟨by kernel_rfl, ?_⟩) (by assumption) ?_
  rotate_left
  · intro u _
    try simp only [List.getElem_toArray, List.getElem_cons_succ, List.getElem_cons_zero]
    go_simp
    try with_reducible rfl
  try simp only [Act.put, List.setIfInBounds_toArray, List.set_cons_zero, List.set_cons_succ]
  refine Stg.wpAnyL_take (i := 14) (v := ?_) [15, 16, 17] 0 rfl (by kernel_rfl) (by kernel_rfl) (by kernel_rfl) (by kernel_rfl) (by kernel_rfl) (fun _ _ _ h => h) (Or.inl ⟨by kernel_rfl, ?_⟩) (by assumption) ?_
  rotate_left
  · intro u hSu
    skip
    have y0 := hSu.c 0 _ rfl
    have y1 := hSu.c 1 _ rfl
    have y2 := hSu.c 2 _ rfl
    have y3 := hSu.c 3 _ rfl
    have y4 := hSu.c 4 _ rfl
    have y5 := hSu.c 5 _ rfl
    have y6 := hSu.c 6 _ rfl
    have y7 := hSu.c 7 _ rfl
    have y8 := hSu.c 8 _ rfl
    have y9 := hSu.c 9 _ rfl
    have y10 := hSu.c 10 _ rfl
    have y11 := hSu.c 11 _ rfl
    have y12 := hSu.c 12 _ rfl
    have y13 := hSu.c 13 _ rfl
    have y14 := hSu.c 14 _ rfl
    have y15 := hSu.c 15 _ rfl
    try simp only [List.getElem_toArray, List.getElem_cons_succ, List.getElem_cons_zero]
    go_simp
    try with_reducible rfl
  try simp only [Act.put, List.setIfInBounds_toArray, List.set_cons_zero, List.set_cons_succ]
  refine Stg.wpAnyL_one (i := 7) 0 rfl (by kernel_rfl) (by kernel_rfl) (fun K hK => ?_)
  try simp only [List.getElem_toArray, List.getElem_cons_succ, List.getElem_cons_zero]
  go_simp
  refine (air_Mend x.f.fr x.f.to hTd.out.a hf.out ht.out (by omega)).mono ?_
  rintro e u1 ⟨rfl, hA1, hK1⟩
  have hF1 := hK1.fx
  have hB1 := hTd.out.bprog hF1
  have hT2 := hTd.out.prog hF1 hA1 (hTd.out.ta.tf (hF1.tf hTd.out.a.types hTd.out.a.own))
  refine hK.out _ _ ?_ (fun hHeld1 => ?_)
  · exact hTd.out.bxp hF1 hHeld (by decide) (by decide)
  clear hK K
  try simp only [Act.put, List.setIfInBounds_toArray, List.set_cons_zero, List.set_cons_succ]
  refine Stg.wpAnyL_start (n' := 3) (l' := #[true, true, true, true, true, true, true, true, true, true, true, true, true, true, true, false, false, false]) (by kernel_rfl) (by kernel_rfl) ?_
  refine Stg.wpAnyL_one (i := 15) 0 rfl (by kernel_rfl) (by kernel_rfl) (fun K hK => ?_)
  try simp only [List.getElem_toArray, List.getElem_cons_succ, List.getElem_cons_zero]
  go_simp
  refine (rmend_c hT2.r x.f.fr x.f.to hf.out ht.out (by omega)).mono ?_
  rintro e u2 ⟨cv2, rfl, hR2, hF2, hN2⟩
  have hB2 := hT2.brefc hF2
  have hT3 := hT2.refc hF2 hR2
  refine hK.out _ _ ?_ (fun hHeld2 => ?_)
  · exact hT2.bxc hF2 hHeld1 (by decide)
  clear hK K
  try simp only [Act.put, List.setIfInBounds_toArray, List.set_cons_zero, List.set_cons_succ]
  refine Stg.wpAnyL_free (i := 16) (v := ?_) 0 rfl (by kernel_rfl) (by kernel_rfl) (by kernel_rfl) (by kernel_rfl) (by kernel_rfl) (fun _ _ _ h => h) (Or.inl ⟨by kernel_rfl, ?_⟩) (by assumption) ?_
  rotate_left
  · intro u _
    try simp only [List.getElem_toArray, List.getElem_cons_succ, List.getElem_cons_zero]
    go_simp
    try with_reducible rfl
  try simp only [Act.put, List.setIfInBounds_toArray, List.set_cons_zero, List.set_cons_succ]
  refine Stg.wpAnyL_free (i := 17) (v := ?_) 0 rfl (by kernel_rfl) (by kernel_rfl) (by kernel_rfl) (by kernel_rfl) (by kernel_rfl) (fun _ _ _ h => h) (Or.inl ⟨by kernel_rfl, ?_⟩) (by assumption) ?_
  rotate_left
  · intro u _
    try simp only [List.getElem_toArray, List.getElem_cons_succ, List.getElem_cons_zero]
    go_simp
    try with_reducible rfl
  try simp only [Act.put, List.setIfInBounds_toArray, List.set_cons_zero, List.set_cons_succ]
  refine Stg.wpAnyL_done (by kernel_rfl) ?_ _
  try simp only [List.getElem_toArray, List.getElem_cons_succ, List.getElem_cons_zero]
  try simp only [Act.put, List.setIfInBounds_toArray, List.set_cons_zero, List.set_cons_succ]
  refine NoPanic.normal ?_
  replace hT3 := Lib.hid hT3
  have hBf := Lib.hid (((hBm.out.drew).trans hB1).trans hB2)
  go_wp2_with fail
  go_ret
  exact ⟨rfl, ⟨_, _, _, _, _, _, _, _, _, _, hT3.out, hG3.out⟩, hBf.out⟩

set_option maxRecDepth 100000 in
set_option maxHeartbeats 8000000 in
theorem step_mend_no {m : Nat} {w : World} {g rg bp br bm n : Nat} {lv rv cv : Value} {l q : List RM} {C : Int → Int → Bool} {ps : List (Int × Int)} {ms : List Mg} {c : Nat} (hT : Tw m w g rg bp br bm n lv rv cv l q C ps ms ms) (hG : Gd C ps ms n c) (hc : c ≤ 4000) (x : Mg) (ea : Option Addr) (en ec : Nat) (sa : Option Addr) (sn sc : Nat) (da : Option Addr) (dn dc : Nat) (kk : Int) (hf : ¬ ((1 ≤ x.f.fr ∧ x.f.fr ≤ 255) ∧ 1 ≤ x.f.to ∧ x.f.to ≤ 255)) :
    Calls Try.prog 19 #[.pointer (some ⟨g, 0, none⟩), .pointer (some ⟨rg, 0, none⟩), .agg #[.int .i64 5, .int .i64 kk, .int .i8 x.f.k, .int .i64 x.f.fr, .int .i64 x.f.to, .int .i64 x.f.te, .int .i64 x.f.ix, .int .i64 x.f.la, .int .i64 x.f.co, .bool x.f.ok, .slice ea en ec, .int .i64 x.f.si, .int .i64 x.f.st, .int .u8 x.f.su, .slice sa sn sc, .slice da dn dc]] w (StepP m g rg bp br c w) := by
  have hG3 := Lib.hid hG.up
  replace hf := Lib.hid hf
  have hb0 : Below w.heap.size w (w.alloc (.cells #[.int .i64 5, .int .i64 kk, .int .i8 x.f.k, .int .i64 x.f.fr, .int .i64 x.f.to, .int .i64 x.f.te, .int .i64 x.f.ix, .int .i64 x.f.la, .int .i64 x.f.co, .bool x.f.ok, .slice ea en ec, .int .i64 x.f.si, .int .i64 x.f.st, .int .u8 x.f.su, .slice sa sn sc, .slice da dn dc] 55)) := (Below.refl _ _).alloc (Nat.le_refl _) _
  have bx := HT.new w #[.int .i64 5, .int .i64 kk, .int .i8 x.f.k, .int .i64 x.f.fr, .int .i64 x.f.to, .int .i64 x.f.te, .int .i64 x.f.ix, .int .i64 x.f.la, .int .i64 x.f.co, .bool x.f.ok, .slice ea en ec, .int .i64 x.f.si, .int .i64 x.f.st, .int .u8 x.f.su, .slice sa sn sc, .slice da dn dc] 55
  have hTd := (hT.bel hb0).bel (Below.refl _ _).drew
  have hT1 := hT.bel hb0
  have hBm := (hb0.mono hT.mle)
  have hll : l.length = ms.length := hT.ta.1
  have hql : q.length = ms.length := hT.tr.1
  have hle := hG.le
  have hmle := hT.mle
  replace hb0 := Lib.hid hb0
  replace bx := Lib.hid bx
  replace hTd := Lib.hid hTd
  replace hT1 := Lib.hid hT1
  replace hBm := Lib.hid hBm
  replace hG := Lib.hid hG
  replace hll := Lib.hid hll
  replace hql := Lib.hid hql
  replace hle := Lib.hid hle
  clear hT
  go_enter Try.func19, Try.ntmps19
  go_upto_region 1 with fail
  replace bx := bx.out
  replace hTd := hTd.out
  replace hT1 := hT1.out
  replace hBm := hBm.out
  generalize (w.alloc (.cells #[.int .i64 5, .int .i64 kk, .int .i8 x.f.k, .int .i64 x.f.fr, .int .i64 x.f.to, .int .i64 x.f.te, .int .i64 x.f.ix, .int .i64 x.f.la, .int .i64 x.f.co, .bool x.f.ok, .slice ea en ec, .int .i64 x.f.si, .int .i64 x.f.st, .int .u8 x.f.su, .slice sa sn sc, .slice da dn dc] 55)) = W1 at bx hTd hT1 hBm ⊢
  generalize w.heap.size = xb at bx hmle ⊢
  have y0 := bx.c 0 _ rfl
  have y1 := bx.c 1 _ rfl
  have y2 := bx.c 2 _ rfl
  have y3 := bx.c 3 _ rfl
  have y4 := bx.c 4 _ rfl
  have y5 := bx.c 5 _ rfl
  have y6 := bx.c 6 _ rfl
  have y7 := bx.c 7 _ rfl
  have y8 := bx.c 8 _ rfl
  have y9 := bx.c 9 _ rfl
  have y10 := bx.c 10 _ rfl
  have y11 := bx.c 11 _ rfl
  have y12 := bx.c 12 _ rfl
  have y13 := bx.c 13 _ rfl
  have y14 := bx.c 14 _ rfl
  have y15 := bx.c 15 _ rfl
  replace bx := Lib.hid bx
  replace hTd := Lib.hid hTd
  replace hT1 := Lib.hid hT1
  replace hBm := Lib.hid hBm
  go_upto_region 15 with fail
  clear y0 y1 y2 y3 y4 y5 y6 y7 y8 y9 y10 y11 y12 y13 y14 y15
  refine wp_region_noPanic ?_
  refine Stg.wp_region_L [] (fun _ u => HT u xb #[.int .i64 5, .int .i64 kk, .int .i8 x.f.k, .int .i64 x.f.fr, .int .i64 x.f.to, .int .i64 x.f.te, .int .i64 x.f.ix, .int .i64 x.f.la, .int .i64 x.f.co, .bool x.f.ok, .slice ea en ec, .int .i64 x.f.si, .int .i64 x.f.st, .int .u8 x.f.su, .slice sa sn sc, .slice da dn dc] 55) (by kernel_rfl) (bx.out.drew) (fun hHeld => ?_)
  refine Stg.wpAnyL_start (n' := 18) (l' := #[false, false, false, false, false, false, false, false, false, false, false, false, false, false, false, false, false, false]) (by kernel_rfl) (by kernel_rfl) ?_
  refine Stg.wpAnyL_free (i := 0) (v := ?_) 0 rfl (by kernel_rfl) (by kernel_rfl) (by kernel_rfl) (by kernel_rfl) (by kernel_rfl) (fun _ _ _ h => h) (Or.inl ⟨by kernel_rfl, ?_⟩) (by assumption) ?_
  rotate_left
  · intro u _
    try simp only [List.getElem_toArray, List.getElem_cons_succ, List.getElem_cons_zero]
    go_simp
    try with_reducible rfl
  try simp only [Act.put, List.setIfInBounds_toArray, List.set_cons_zero, List.set_cons_succ]
  refine Stg.wpAnyL_free (i := 1) (v := ?_) 0 rfl (by kernel_rfl) (by kernel_rfl) (by kernel_rfl) (by kernel_rfl) (by kernel_rfl) (fun _ _ _ h => h) (Or.inl ⟨by kernel_rfl, ?_⟩) (by assumption) ?_
  rotate_left
  · intro u _
    try simp only [List.getElem_toArray, List.getElem_cons_succ, List.getElem_cons_zero]
    go_simp
    try with_reducible rfl
  try simp only [Act.put, List.setIfInBounds_toArray, List.set_cons_zero, List.set_cons_succ]
  refine Stg.wpAnyL_free (i := 2) (v := ?_) 0 rfl (by kernel_rfl) (by kernel_rfl) (by kernel_rfl) (by kernel_rfl) (by kernel_rfl) (fun _ _ _ h => h) (Or.inl ⟨by kernel_rfl, ?_⟩) (by assumption) ?_
  rotate_left
  · intro u _
    try simp only [List.getElem_toArray, List.getElem_cons_succ, List.getElem_cons_zero]
    go_simp
    try with_reducible rfl
  try simp only [Act.put, List.setIfInBounds_toArray, List.set_cons_zero, List.set_cons_succ]
  refine Stg.wpAnyL_start (n' := 15) (l' := #[true, true, true, false, false, false, false, false, false, false, false, false, false, false, false, false, false, false]) (by kernel_rfl) (by kernel_rfl) ?_
  refine Stg.wpAnyL_take (i := 3) (v := ?_) [7, 15, 16, 17] 0 rfl (by kernel_rfl) (by kernel_rfl) (by kernel_rfl) (by kernel_rfl) (by kernel_rfl) (fun _ _ _ h => h) (Or.inl ⟨by kernel_rfl, ?_⟩) (by assumption) ?_
  rotate_left
  · intro u hSu
    skip
    have y0 := hSu.c 0 _ rfl
    have y1 := hSu.c 1 _ rfl
    have y2 := hSu.c 2 _ rfl
    have y3 := hSu.c 3 _ rfl
    have y4 := hSu.c 4 _ rfl
    have y5 := hSu.c 5 _ rfl
    have y6 := hSu.c 6 _ rfl
    have y7 := hSu.c 7 _ rfl
    have y8 := hSu.c 8 _ rfl
    have y9 := hSu.c 9 _ rfl
    have y10 := hSu.c 10 _ rfl
    have y11 := hSu.c 11 _ rfl
    have y12 := hSu.c 12 _ rfl
    have y13 := hSu.c 13 _ rfl
    have y14 := hSu.c 14 _ rfl
    have y15 := hSu.c 15 _ rfl
    try simp only [List.getElem_toArray, List.getElem_cons_succ, List.getElem_cons_zero]
    go_simp
    try with_reducible rfl
  try simp only [Act.put, List.setIfInBounds_toArray, List.set_cons_zero, List.set_cons_succ]
  refine Stg.wpAnyL_free (i := 4) (v := ?_) 0 rfl (by kernel_rfl) (by kernel_rfl) (by kernel_rfl) (by kernel_rfl) (by kernel_rfl) (fun _ _ _ h => h) (Or.inl ⟨by kernel_rfl, ?_⟩) (by assumption) ?_
  rotate_left
  · intro u _
    try simp only [List.getElem_toArray, List.getElem_cons_succ, List.getElem_cons_zero]
    go_simp
    try with_reducible rfl
  try simp only [Act.put, List.setIfInBounds_toArray, List.set_cons_zero, List.set_cons_succ]
  refine Stg.wpAnyL_free (i := 5) (v := ?_) 0 rfl (by kernel_rfl) (by kernel_rfl) (by kernel_rfl) (by kernel_rfl) (by kernel_rfl) (fun _ _ _ h => h) (Or.inl ⟨by kernel_rfl, ?_⟩) (by assumption) ?_
  rotate_left
  · intro u _
    try simp only [List.getElem_toArray, List.getElem_cons_succ, List.getElem_cons_zero]
    go_simp
    try with_reducible rfl
  try simp only [Act.put, List.setIfInBounds_toArray, List.set_cons_zero, List.set_cons_succ]
  refine Stg.wpAnyL_start (n' := 12) (l' := #[true, true, true, true, true, true, false, false, false, false, false, false, false, false, false, false, false, false]) (by kernel_rfl) (by kernel_rfl) ?_
  refine Stg.wpAnyL_take (i := 6) (v := ?_) [7, 15, 16, 17] 0 rfl (by kernel_rfl) (by kernel_rfl) (by kernel_rfl) (by kernel_rfl) (by kernel_rfl) (fun _ _ _ h => h) (Or.inl ⟨by kernel_rfl, ?_⟩) (by assumption) ?_
  rotate_left
  · intro u hSu
    skip
    have y0 := hSu.c 0 _ rfl
    have y1 := hSu.c 1 _ rfl
    have y2 := hSu.c 2 _ rfl
    have y3 := hSu.c 3 _ rfl
    have y4 := hSu.c 4 _ rfl
    have y5 := hSu.c 5 _ rfl
    have y6 := hSu.c 6 _ rfl
    have y7 := hSu.c 7 _ rfl
    have y8 := hSu.c 8 _ rfl
    have y9 := hSu.c 9 _ rfl
    have y10 := hSu.c 10 _ rfl
    have y11 := hSu.c 11 _ rfl
    have y12 := hSu.c 12 _ rfl
    have y13 := hSu.c 13 _ rfl
    have y14 := hSu.c 14 _ rfl
    have y15 := hSu.c 15 _ rfl
    try simp only [List.getElem_toArray, List.getElem_cons_succ, List.getElem_cons_zero]
    go_simp
    try with_reducible rfl
  try simp only [Act.put, List.setIfInBounds_toArray, List.set_cons_zero, List.set_cons_succ]
  refine Stg.wpAnyL_free (i := 8) (v := ?_) 0 rfl (by kernel_rfl) (by kernel_rfl) (by kernel_rfl) (by kernel_rfl) (by kernel_rfl) (fun _ _ _ h => h) (Or.inl ⟨by kernel_rfl, ?_⟩) (by assumption) ?_
  rotate_left
  · intro u _
    try simp only [List.getElem_toArray, List.getElem_cons_succ, List.getElem_cons_zero]
    go_simp
    try with_reducible rfl
  try simp only [Act.put, List.setIfInBounds_toArray, List.set_cons_zero, List.set_cons_succ]
  refine Stg.wpAnyL_free (i := 9) (v := ?_) 0 rfl (by kernel_rfl) (by kernel_rfl) (by kernel_rfl) (by kernel_rfl) (by kernel_rfl) (fun _ _ _ h => h) (Or.inl ⟨by kernel_rfl, ?_⟩) (by assumption) ?_
  rotate_left
  · intro u _
    try simp only [List.getElem_toArray, List.getElem_cons_succ, List.getElem_cons_zero]
    go_simp
    try with_reducible rfl
  try simp only [Act.put, List.setIfInBounds_toArray, List.set_cons_zero, List.set_cons_succ]
  refine Stg.wpAnyL_start (n' := 9) (l' := #[true, true, true, true, true, true, true, false, true, true, false, false, false, false, false, false, false, false]) (by kernel_rfl) (by kernel_rfl) ?_
  refine Stg.wpAnyL_free (i := 10) (v := ?_) 0 rfl (by kernel_rfl) (by kernel_rfl) (by kernel_rfl) (by kernel_rfl) (by kernel_rfl) (fun _ _ _ h => h) (Or.inl ⟨by kernel_rfl, ?_⟩) (by assumption) ?_
  rotate_left
  · intro u _
    try simp only [List.getElem_toArray, List.getElem_cons_succ, List.getElem_cons_zero]
    go_simp
    try with_reducible rfl
  try simp only [Act.put, List.setIfInBounds_toArray, List.set_cons_zero, List.set_cons_succ]
  refine Stg.wpAnyL_take (i := 11) (v := ?_) [15, 16, 17] 0 rfl (by kernel_rfl) (by kernel_rfl) (by kernel_rfl) (by kernel_rfl) (by kernel_rfl) (fun _ _ _ h => h) (Or.inl ⟨by kernel_rfl, ?_⟩) (by assumption) ?_
  rotate_left
  · intro u hSu
    skip
    have y0 := hSu.c 0 _ rfl
    have y1 := hSu.c 1 _ rfl
    have y2 := hSu.c 2 _ rfl
    have y3 := hSu.c 3 _ rfl
    have y4 := hSu.c 4 _ rfl
    have y5 := hSu.c 5 _ rfl
    have y6 := hSu.c 6 _ rfl
    have y7 := hSu.c 7 _ rfl
    have y8 := hSu.c 8 _ rfl
    have y9 := hSu.c 9 _ rfl
    have y10 := hSu.c 10 _ rfl
    have y11 := hSu.c 11 _ rfl
    have y12 := hSu.c 12 _ rfl
    have y13 := hSu.c 13 _ rfl
    have y14 := hSu.c 14 _ rfl
    have y15 := hSu.c 15 _ rfl
    try simp only [List.getElem_toArray, List.getElem_cons_succ, List.getElem_cons_zero]
    go_simp
    try with_reducible rfl
  try simp only [Act.put, List.setIfInBounds_toArray, List.set_cons_zero, List.set_cons_succ]
  refine Stg.wpAnyL_free (i := 12) (v := ?_) 0 rfl (by kernel_rfl) (by kernel_rfl) (by kernel_rfl) (by kernel_rfl) (by kernel_rfl) (fun _ _ _ h => h) (Or.inl ⟨by kernel_rfl, ?_⟩) (by assumption) ?_
  rotate_left
  · intro u _
    try simp only [List.getElem_toArray, List.getElem_cons_succ, List.getElem_cons_zero]
    go_simp
    try with_reducible rfl
  try simp only [Act.put, List.setIfInBounds_toArray, List.set_cons_zero, List.set_cons_succ]
  refine Stg.wpAnyL_start (n' := 6) (l' := #[true, true, true, true, true, true, true, false, true, true, true, true, true, false, false, false, false, false]) (by kernel_rfl) (by kernel_rfl) ?_
  refine Stg.wpAnyL_free (i := 13) (v := ?_) 0 rfl (by kernel_rfl) (by kernel_rfl) (by kernel_rfl) (by kernel_rfl) (by kernel_rfl) (fun _ _ _ h => h) (Or.inl ⟨by kernel_rfl, ?_⟩) (by assumption) ?_
  rotate_left
  · intro u _
    try simp only [List.getElem_toArray, List.getElem_cons_succ, List.getElem_cons_zero]
    go_simp
    try with_reducible rfl
  try simp only [Act.put, List.setIfInBounds_toArray, List.set_cons_zero, List.set_cons_succ]
  refine Stg.wpAnyL_take (i := 14) (v := ?_) [15, 16, 17] 0 rfl (by kernel_rfl) (by kernel_rfl) (by kernel_rfl) (by kernel_rfl) (by kernel_rfl) (fun _ _ _ h => h) (Or.inl ⟨by kernel_rfl, ?_⟩) (by assumption) ?_
  rotate_left
  · intro u hSu
    skip
    have y0 := hSu.c 0 _ rfl
    have y1 := hSu.c 1 _ rfl
    have y2 := hSu.c 2 _ rfl
    have y3 := hSu.c 3 _ rfl
    have y4 := hSu.c 4 _ rfl
    have y5 := hSu.c 5 _ rfl
    have y6 := hSu.c 6 _ rfl
    have y7 := hSu.c 7 _ rfl
    have y8 := hSu.c 8 _ rfl
    have y9 := hSu.c 9 _ rfl
    have y10 := hSu.c 10 _ rfl
    have y11 := hSu.c 11 _ rfl
    have y12 := hSu.c 12 _ rfl
    have y13 := hSu.c 13 _ rfl
    have y14 := hSu.c 14 _ rfl
    have y15 := hSu.c 15 _ rfl
    try simp only [List.getElem_toArray, List.getElem_cons_succ, List.getElem_cons_zero]
    go_simp
    try with_reducible rfl
  try simp only [Act.put, List.setIfInBounds_toArray, List.set_cons_zero, List.set_cons_succ]
  refine Stg.wpAnyL_one (i := 7) 0 rfl (by kernel_rfl) (by kernel_rfl) (fun K hK => ?_)
  try simp only [List.getElem_toArray, List.getElem_cons_succ, List.getElem_cons_zero]
  go_simp
  refine (air_Mend_no x.f.fr x.f.to g _ hf.out).mono ?_
  rintro e u1 ⟨rfl, rfl⟩
  have hB1 := Below.refl m W1.drew
  have hT2 := hTd.out
  refine hK.out _ _ ?_ (fun hHeld1 => ?_)
  · exact hHeld
  clear hK K
  try simp only [Act.put, List.setIfInBounds_toArray, List.set_cons_zero, List.set_cons_succ]
  refine Stg.wpAnyL_start (n' := 3) (l' := #[true, true, true, true, true, true, true, true, true, true, true, true, true, true, true, false, false, false]) (by kernel_rfl) (by kernel_rfl) ?_
  refine Stg.wpAnyL_one (i := 15) 0 rfl (by kernel_rfl) (by kernel_rfl) (fun K hK => ?_)
  try simp only [List.getElem_toArray, List.getElem_cons_succ, List.getElem_cons_zero]
  go_simp
  refine (rmend_no hT2.r x.f.fr x.f.to hf.out).mono ?_
  rintro e u2 ⟨rfl, rfl⟩
  have hB2 := Below.refl m W1.drew
  have hT3 := hT2
  refine hK.out _ _ ?_ (fun hHeld2 => ?_)
  · exact hHeld1
  clear hK K
  try simp only [Act.put, List.setIfInBounds_toArray, List.set_cons_zero, List.set_cons_succ]
  refine Stg.wpAnyL_free (i := 16) (v := ?_) 0 rfl (by kernel_rfl) (by kernel_rfl) (by kernel_rfl) (by kernel_rfl) (by kernel_rfl) (fun _ _ _ h => h) (Or.inl ⟨by kernel_rfl, ?_⟩) (by assumption) ?_
  rotate_left
  · intro u _
    try simp only [List.getElem_toArray, List.getElem_cons_succ, List.getElem_cons_zero]
    go_simp
    try with_reducible rfl
  try simp only [Act.put, List.setIfInBounds_toArray, List.set_cons_zero, List.set_cons_succ]
  refine Stg.wpAnyL_free (i := 17) (v := ?_) 0 rfl (by kernel_rfl) (by kernel_rfl) (by kernel_rfl) (by kernel_rfl) (by kernel_rfl) (fun _ _ _ h => h) (Or.inl ⟨by kernel_rfl, ?_⟩) (by assumption) ?_
  rotate_left
  · intro u _
    try simp only [List.getElem_toArray, List.getElem_cons_succ, List.getElem_cons_zero]
    go_simp
    try with_reducible rfl
  try simp only [Act.put, List.setIfInBounds_toArray, List.set_cons_zero, List.set_cons_succ]
  refine Stg.wpAnyL_done (by kernel_rfl) ?_ _
  try simp only [List.getElem_toArray, List.getElem_cons_succ, List.getElem_cons_zero]
  try simp only [Act.put, List.setIfInBounds_toArray, List.set_cons_zero, List.set_cons_succ]
  refine NoPanic.normal ?_
  replace hT3 := Lib.hid hT3
  have hBf := Lib.hid (((hBm.out.drew).trans hB1).trans hB2)
  go_wp2_with fail
  go_ret
  exact ⟨rfl, ⟨_, _, _, _, _, _, _, _, _, _, hT3.out, hG3.out⟩, hBf.out⟩

end Go.Proofs.Ytnokojobiaddmaa
