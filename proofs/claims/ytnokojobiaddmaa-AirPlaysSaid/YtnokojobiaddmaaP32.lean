/- A step of the law: All. -/
import Derived.Test.YtnokojobiaddmaaP31
import Derived.Test.YtnokojobiaddmaaP27
namespace Go.Proofs.Ytnokojobiaddmaa
open Go.ChangeShapes Go.WideShapes Go.ChangeAt Go.RowKit Go.Maps
set_option linter.unusedVariables false
set_option linter.unusedSimpArgs false
open BigFrame Bs By Am Ar

set_option maxRecDepth 100000 in
set_option maxHeartbeats 8000000 in
theorem step_all {m : Nat} {w : World} {g rg bp br bm n : Nat} {lv rv cv : Value} {l q : List RM} {C : Int → Int → Bool} {ps : List (Int × Int)} {ms : List Mg} {c : Nat} (hT : Tw m w g rg bp br bm n lv rv cv l q C ps ms ms) (hG : Gd C ps ms n c) (hc : c ≤ 4000) (x : Mg) (ea : Option Addr) (en ec : Nat) (sa : Option Addr) (sn sc : Nat) (da : Option Addr) (dn dc : Nat) (dd kk : Int) (hd : dd < 0 ∨ 7 < dd) :
    Calls Try.prog 19 #[.pointer (some ⟨g, 0, none⟩), .pointer (some ⟨rg, 0, none⟩), .agg #[.int .i64 dd, .int .i64 kk, .int .i8 x.f.k, .int .i64 x.f.fr, .int .i64 x.f.to, .int .i64 x.f.te, .int .i64 x.f.ix, .int .i64 x.f.la, .int .i64 x.f.co, .bool x.f.ok, .slice ea en ec, .int .i64 x.f.si, .int .i64 x.f.st, .int .u8 x.f.su, .slice sa sn sc, .slice da dn dc]] w (StepP m g rg bp br c w) := by
  have hG3 := Lib.hid hG.up
  have d0 : (dd == 0) = false := by simp; omega
  have d1 : (dd == 1) = false := by simp; omega
  have d2 : (dd == 2) = false := by simp; omega
  have d3 : (dd == 3) = false := by simp; omega
  have d4 : (dd == 4) = false := by simp; omega
  have d5 : (dd == 5) = false := by simp; omega
  have d6 : (dd == 6) = false := by simp; omega
  have d7 : (dd == 7) = false := by simp; omega
  obtain ⟨la, cap, hsh⟩ := own_shape hT.r.ra.own
  subst hsh
  have hb0 : Below w.heap.size w (w.alloc (.cells #[.int .i64 dd, .int .i64 kk, .int .i8 x.f.k, .int .i64 x.f.fr, .int .i64 x.f.to, .int .i64 x.f.te, .int .i64 x.f.ix, .int .i64 x.f.la, .int .i64 x.f.co, .bool x.f.ok, .slice ea en ec, .int .i64 x.f.si, .int .i64 x.f.st, .int .u8 x.f.su, .slice sa sn sc, .slice da dn dc] 55)) := (Below.refl _ _).alloc (Nat.le_refl _) _
  have bx := HT.new w #[.int .i64 dd, .int .i64 kk, .int .i8 x.f.k, .int .i64 x.f.fr, .int .i64 x.f.to, .int .i64 x.f.te, .int .i64 x.f.ix, .int .i64 x.f.la, .int .i64 x.f.co, .bool x.f.ok, .slice ea en ec, .int .i64 x.f.si, .int .i64 x.f.st, .int .u8 x.f.su, .slice sa sn sc, .slice da dn dc] 55
  have hTd := (hT.bel hb0).bel (Below.refl _ _).drew
  have hT1 := hT.bel hb0
  have hBm := (hb0.mono hT.mle)
  have hll : l.length = ms.length := hT.ta.1
  have hql : q.length = ms.length := hT.tr.1
  have hle := hG.le
  have hmle := hT.mle
  replace hb0 := Lib.hid hb0
  replace bx := Lib.hid bx
  replace hTd := Lib.hid hTd
  replace hT1 := Lib.hid hT1
  replace hBm := Lib.hid hBm
  replace hG := Lib.hid hG
  replace hll := Lib.hid hll
  replace hql := Lib.hid hql
  replace hle := Lib.hid hle
  clear hT
  go_enter Try.func19, Try.ntmps19
  go_upto_region 1 with fail
  replace bx := bx.out
  replace hTd := hTd.out
  replace hT1 := hT1.out
  replace hBm := hBm.out
  replace hb0 := hb0.out
  generalize (w.alloc (.cells #[.int .i64 dd, .int .i64 kk, .int .i8 x.f.k, .int .i64 x.f.fr, .int .i64 x.f.to, .int .i64 x.f.te, .int .i64 x.f.ix, .int .i64 x.f.la, .int .i64 x.f.co, .bool x.f.ok, .slice ea en ec, .int .i64 x.f.si, .int .i64 x.f.st, .int .u8 x.f.su, .slice sa sn sc, .slice da dn dc] 55)) = W1 at bx hTd hT1 hBm hb0 ⊢
  generalize w.heap.size = xb at bx hmle ⊢
  have y0 := bx.c 0 _ rfl
  have y1 := bx.c 1 _ rfl
  have y2 := bx.c 2 _ rfl
  have y3 := bx.c 3 _ rfl
  have y4 := bx.c 4 _ rfl
  have y5 := bx.c 5 _ rfl
  have y6 := bx.c 6 _ rfl
  have y7 := bx.c 7 _ rfl
  have y8 := bx.c 8 _ rfl
  have y9 := bx.c 9 _ rfl
  have y10 := bx.c 10 _ rfl
  have y11 := bx.c 11 _ rfl
  have y12 := bx.c 12 _ rfl
  have y13 := bx.c 13 _ rfl
  have y14 := bx.c 14 _ rfl
  have y15 := bx.c 15 _ rfl
  replace bx := Lib.hid bx
  replace hTd := Lib.hid hTd
  replace hT1 := Lib.hid hT1
  replace hBm := Lib.hid hBm
  replace hb0 := Lib.hid hb0
  have r0 := hT1.out.r.ra.c0
  obtain ⟨N, hN⟩ : ∃ N, q.length = N := ⟨_, rfl⟩
  have htold := told_ok hTd.out.a hTd.out.ta hG.out.sm hG.out.le la cap br q hTd.out.r.ra.own hTd.out.tr kk
  rw [hN] at r0 htold
  replace hN := Lib.hid hN
  replace htold := Lib.hid htold
  go_upto_region 22 with fail
  clear y0 y1 y2 y3 y4 y5 y6 y7 y8 y9 y10 y11 y12 y13 y14 y15
  refine wp_region_noPanic ?_
  refine Stg.wp_region_L [] (fun _ u => HT u xb #[.int .i64 dd, .int .i64 kk, .int .i8 x.f.k, .int .i64 x.f.fr, .int .i64 x.f.to, .int .i64 x.f.te, .int .i64 x.f.ix, .int .i64 x.f.la, .int .i64 x.f.co, .bool x.f.ok, .slice ea en ec, .int .i64 x.f.si, .int .i64 x.f.st, .int .u8 x.f.su, .slice sa sn sc, .slice da dn dc] 55 ∧ u.cell? ⟨rg, 0, none⟩ = some (.slice la N cap)) (by kernel_rfl) (⟨bx.out.drew, r0⟩) (fun hHeld => ?_)
  refine Stg.wpAnyL_start (n' := 9) (l' := #[false, false, false, false, false, false, false, false, false]) (by kernel_rfl) (by kernel_rfl) ?_
  refine Stg.wpAnyL_free (i := 0) (v := ?_) 0 rfl (by kernel_rfl) (by kernel_rfl) (by kernel_rfl) (by kernel_rfl) (by kernel_rfl) (fun _ _ _ h => h) (Or.inl ⟨by kernel_rfl, ?_⟩) (by assumption) ?_
  rotate_left
  · intro u _
    try simp only [List.getElem_toArray, List.getElem_cons_succ, List.getElem_cons_zero]
    go_simp
    try with_reducible rfl
  try simp only [Act.put, List.setIfInBounds_toArray, List.set_cons_zero, List.set_cons_succ]
  refine Stg.wpAnyL_free (i := 1) (v := ?_) 0 rfl (by kernel_rfl) (by kernel_rfl) (by kernel_rfl) (by kernel_rfl) (by kernel_rfl) (fun _ _ _ h => h) (Or.inl ⟨by kernel_rfl, ?_⟩) (by assumption) ?_
  rotate_left
  · intro u _
    try simp only [List.getElem_toArray, List.getElem_cons_succ, List.getElem_cons_zero]
    go_simp
    try with_reducible rfl
  try simp only [Act.put, List.setIfInBounds_toArray, List.set_cons_zero, List.set_cons_succ]
  refine Stg.wpAnyL_free (i := 2) (v := ?_) 0 rfl (by kernel_rfl) (by kernel_rfl) (by kernel_rfl) (by kernel_rfl) (by kernel_rfl) (fun _ _ _ h => h) (Or.inl ⟨by kernel_rfl, ?_⟩) (by assumption) ?_
  rotate_left
  · intro u _
    try simp only [List.getElem_toArray, List.getElem_cons_succ, List.getElem_cons_zero]
    go_simp
    try with_reducible rfl
  try simp only [Act.put, List.setIfInBounds_toArray, List.set_cons_zero, List.set_cons_succ]
  refine Stg.wpAnyL_start (n' := 6) (l' := #[true, true, true, false, false, false, false, false, false]) (by kernel_rfl) (by kernel_rfl) ?_
  refine Stg.wpAnyL_free (i := 3) (v := ?_) 0 rfl (by kernel_rfl) (by kernel_rfl) (by kernel_rfl) (by kernel_rfl) (by kernel_rfl) (fun _ _ _ h => h) (Or.inl ⟨by kernel_rfl, ?_⟩) (by assumption) ?_
  rotate_left
  · intro u _
    try simp only [List.getElem_toArray, List.getElem_cons_succ, List.getElem_cons_zero]
    go_simp
    try with_reducible rfl
  try simp only [Act.put, List.setIfInBounds_toArray, List.set_cons_zero, List.set_cons_succ]
  refine Stg.wpAnyL_take (i := 4) (v := ?_) [7, 8] 0 rfl (by kernel_rfl) (by kernel_rfl) (by kernel_rfl) (by kernel_rfl) (by kernel_rfl) (fun _ _ _ h => h) (Or.inl ⟨by kernel_rfl, ?_⟩) (by assumption) ?_
  rotate_left
  · intro u hSu
    skip
    have y0 := hSu.1.c 0 _ rfl
    have y1 := hSu.1.c 1 _ rfl
    have y2 := hSu.1.c 2 _ rfl
    have y3 := hSu.1.c 3 _ rfl
    have y4 := hSu.1.c 4 _ rfl
    have y5 := hSu.1.c 5 _ rfl
    have y6 := hSu.1.c 6 _ rfl
    have y7 := hSu.1.c 7 _ rfl
    have y8 := hSu.1.c 8 _ rfl
    have y9 := hSu.1.c 9 _ rfl
    have y10 := hSu.1.c 10 _ rfl
    have y11 := hSu.1.c 11 _ rfl
    have y12 := hSu.1.c 12 _ rfl
    have y13 := hSu.1.c 13 _ rfl
    have y14 := hSu.1.c 14 _ rfl
    have y15 := hSu.1.c 15 _ rfl
    have z0 := hSu.2
    try simp only [List.getElem_toArray, List.getElem_cons_succ, List.getElem_cons_zero]
    go_simp
    try with_reducible rfl
  try simp only [Act.put, List.setIfInBounds_toArray, List.set_cons_zero, List.set_cons_succ]
  refine Stg.wpAnyL_free (i := 5) (v := ?_) 0 rfl (by kernel_rfl) (by kernel_rfl) (by kernel_rfl) (by kernel_rfl) (by kernel_rfl) (fun _ _ _ h => h) (Or.inl ⟨by kernel_rfl, ?_⟩) (by assumption) ?_
  rotate_left
  · intro u _
    try simp only [List.getElem_toArray, List.getElem_cons_succ, List.getElem_cons_zero]
    go_simp
    try with_reducible rfl
  try simp only [Act.put, List.setIfInBounds_toArray, List.set_cons_zero, List.set_cons_succ]
  refine Stg.wpAnyL_start (n' := 3) (l' := #[true, true, true, true, true, true, false, false, false]) (by kernel_rfl) (by kernel_rfl) ?_
  refine Stg.wpAnyL_take (i := 6) (v := ?_) [7, 8] 0 rfl (by kernel_rfl) (by kernel_rfl) (by kernel_rfl) (by kernel_rfl) (by kernel_rfl) (fun _ _ _ h => h) (Or.inl ⟨by kernel_rfl, ?_⟩) (by assumption) ?_
  rotate_left
  · intro u hSu
    skip
    have y0 := hSu.1.c 0 _ rfl
    have y1 := hSu.1.c 1 _ rfl
    have y2 := hSu.1.c 2 _ rfl
    have y3 := hSu.1.c 3 _ rfl
    have y4 := hSu.1.c 4 _ rfl
    have y5 := hSu.1.c 5 _ rfl
    have y6 := hSu.1.c 6 _ rfl
    have y7 := hSu.1.c 7 _ rfl
    have y8 := hSu.1.c 8 _ rfl
    have y9 := hSu.1.c 9 _ rfl
    have y10 := hSu.1.c 10 _ rfl
    have y11 := hSu.1.c 11 _ rfl
    have y12 := hSu.1.c 12 _ rfl
    have y13 := hSu.1.c 13 _ rfl
    have y14 := hSu.1.c 14 _ rfl
    have y15 := hSu.1.c 15 _ rfl
    have z0 := hSu.2
    try simp only [List.getElem_toArray, List.getElem_cons_succ, List.getElem_cons_zero]
    go_simp
    try with_reducible rfl
  try simp only [Act.put, List.setIfInBounds_toArray, List.set_cons_zero, List.set_cons_succ]
  refine Stg.wpAnyL_one (i := 7) 0 rfl (by kernel_rfl) (by kernel_rfl) (fun K hK => ?_)
  try simp only [List.getElem_toArray, List.getElem_cons_succ, List.getElem_cons_zero]
  go_simp
  refine htold.out.mono ?_
  rintro e u1 ⟨rfl, hb1⟩
  have hT3 := hTd.out.bel hb1
  have hB2 := hb1.mono hTd.out.mle
  have hB1 := Below.refl m W1.drew
  refine hK.out _ _ ?_ (fun hHeld1 => ?_)
  · exact ⟨HT.bel hHeld.1 hb1, cellB hb1 hHeld.2⟩
  clear hK K
  try simp only [Act.put, List.setIfInBounds_toArray, List.set_cons_zero, List.set_cons_succ]
  refine Stg.wpAnyL_free (i := 8) (v := ?_) 0 rfl (by kernel_rfl) (by kernel_rfl) (by kernel_rfl) (by kernel_rfl) (by kernel_rfl) (fun _ _ _ h => h) (Or.inl ⟨by kernel_rfl, ?_⟩) (by assumption) ?_
  rotate_left
  · intro u _
    try simp only [List.getElem_toArray, List.getElem_cons_succ, List.getElem_cons_zero]
    go_simp
    try with_reducible rfl
  try simp only [Act.put, List.setIfInBounds_toArray, List.set_cons_zero, List.set_cons_succ]
  refine Stg.wpAnyL_done (by kernel_rfl) ?_ _
  try simp only [List.getElem_toArray, List.getElem_cons_succ, List.getElem_cons_zero]
  try simp only [Act.put, List.setIfInBounds_toArray, List.set_cons_zero, List.set_cons_succ]
  refine NoPanic.normal ?_
  replace hT3 := Lib.hid hT3
  have hBf := Lib.hid (((hBm.out.drew).trans hB1).trans hB2)
  go_wp2_with fail
  go_ret
  exact ⟨rfl, ⟨_, _, _, _, _, _, _, _, _, _, hT3.out, hG3.out⟩, hBf.out⟩

end Go.Proofs.Ytnokojobiaddmaa
