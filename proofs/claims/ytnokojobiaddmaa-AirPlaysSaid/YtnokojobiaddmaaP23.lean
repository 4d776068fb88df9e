/- The document: Deliver. -/
import Derived.Test.YtnokojobiaddmaaP22
namespace Go.Proofs.Ytnokojobiaddmaa
open Go.ChangeShapes Go.WideShapes Go.ChangeAt Go.RowKit Go.Maps
set_option linter.unusedVariables false
set_option linter.unusedSimpArgs false
open BigFrame Bs By Am Ar

namespace Ar
def RDelivP (m g base : Nat) (lv0 : Value) (l : List RM) (cv : Value) (ps : List (Int × Int)) (x : Mg) (w : World) (e : Ending) (w' : World) : Prop :=
  ∃ lv r, e = .returned (.tuple #[.agg #[.int .i8 x.f.k, .int .i64 x.f.fr, .int .i64 x.f.to, .int .i64 x.f.te, .int .i64 x.f.ix, .int .i64 x.f.la, .int .i64 x.f.co, .bool x.f.ok, .slice r.ea r.en r.ec, .int .i64 x.f.si, .int .i64 x.f.st, .int .u8 x.f.su, .slice r.sa r.sn r.sc, .slice r.da r.dn r.dc], .bool (!decide ((x.f.fr, x.f.to) ∈ ps)), .int .i64 0]) ∧ RF m w' g base lv l cv ps ∧ TM w' r x ∧ Fx [g] lv0 lv w w'
theorem RF.setRow {m : Nat} {w : World} {g base : Nat} {lv cv : Value} {l : List RM} {ps : List (Int × Int)} (h : RF m w g base lv l cv ps) {z : Nat} (h1 : g ≠ z) (h2 : lv.ownBlock ≠ some z) (h3 : cv.ownBlock ≠ some z) (cs : Array Value) : RF m (w.setRow z cs) g base lv l cv ps := by
  have hk : Fx [] (.slice (some ⟨z, 0, none⟩) 0 0) (.slice (some ⟨z, 0, none⟩) 0 0) w (w.setRow z cs) := ⟨setRow_below (Below.refl _ _) (Nat.zero_le _) cs, fun b hb _ h3 => setRow_blk w z b cs (fun e => h3 (by simp [Value.ownBlock, e])), fun b hb h3 => h3⟩
  exact ⟨h.ra.beside hk (by simp) (by simpa [Value.ownBlock] using Ne.symm h1) (fun b hb => ⟨by simp, by simp [Value.ownBlock]; rintro rfl; exact h2 hb⟩), own_fx h.k hk (fun b hb => ⟨by simp, by simp [Value.ownBlock]; rintro rfl; exact h3 hb⟩), h.ge⟩
theorem RF.types {m : Nat} {w : World} {g base : Nat} {lv cv : Value} {l : List RM} {ps : List (Int × Int)} (h : RF m w g base lv l cv ps) : ∀ b, b ∈ [g] → ∀ cs t, w.heap[b]? = some (.cells cs t (0, 0)) → t ≠ 5 ∧ t ≠ 69 := h.ra.types (by decide) (by decide)
end Ar

set_option maxRecDepth 100000 in
set_option maxHeartbeats 8000000 in
theorem rdeliver (k : Nat) {m : Nat} {w : World} {g base : Nat} {lv cv : Value} {l : List RM} {ps : List (Int × Int)} (h : RF m w g base lv l cv ps) (x : Mg) (hk : k < l.length) (hx : TM w (l.getD k rm0) x) (hm : Sm x) (hn : l.length ≤ 1024) (hp : ps.length ≤ 5000) :
    Calls Try.prog 28 #[.pointer (some ⟨g, 0, none⟩), .int .i64 (k : Nat)] w (RDelivP m g base lv (l.eraseIdx k) cv ps x w) := by
  have hb0 : Below w.heap.size w (w.alloc (.cells #[.int .i8 0, .int .i64 0, .int .i64 0, .int .i64 0, .int .i64 0, .int .i64 0, .int .i64 0, .bool false, .slice none 0 0, .int .i64 0, .int .i64 0, .int .u8 0, .slice none 0 0, .slice none 0 0] 34)) := (Below.refl _ _).alloc (Nat.le_refl _) _
  have rs := HT.new w #[.int .i8 0, .int .i64 0, .int .i64 0, .int .i64 0, .int .i64 0, .int .i64 0, .int .i64 0, .bool false, .slice none 0 0, .int .i64 0, .int .i64 0, .int .u8 0, .slice none 0 0, .slice none 0 0] 34
  have hlook := rlook_ok (h.bel hb0).ra k x hk (hx.bel hb0) hm hn
  have hg0 := h.ra.lt
  have hlv : lv.ownBlock ≠ some w.heap.size := fun e => by have := (h.ra.own.lt _ e).2; omega
  have hcv : cv.ownBlock ≠ some w.heap.size := fun e => by have := (h.k.lt _ e).2; omega
  replace h := Lib.hid h
  replace hk := Lib.hid hk
  replace hn := Lib.hid hn
  replace hp := Lib.hid hp
  replace rs := Lib.hid rs
  replace hlook := Lib.hid hlook
  replace hb0 := Lib.hid hb0
  clear hx hm
  go_enter Try.func28, Try.ntmps28
  go_upto_region 1 with fail
  replace rs := rs.out
  replace hlook := hlook.out
  replace hb0 := hb0.out
  generalize (w.alloc (.cells #[.int .i8 0, .int .i64 0, .int .i64 0, .int .i64 0, .int .i64 0, .int .i64 0, .int .i64 0, .bool false, .slice none 0 0, .int .i64 0, .int .i64 0, .int .u8 0, .slice none 0 0, .slice none 0 0] 34)) = W1 at rs hb0 hlook ⊢
  obtain ⟨zb, hzb⟩ : ∃ zb, w.heap.size = zb := ⟨_, rfl⟩
  rw [hzb] at rs hlv hcv ⊢
  replace hzb := Lib.hid hzb
  go_wp2_with fail
  refine hlook.mono ?_
  rintro e w2 ⟨r, rfl, hT, hb2⟩
  have rs2 := rs.bel hb2
  have hB := bNext hb0 hb2 (Nat.le_refl _)
  have z0 := rs2.c 0 _ rfl
  have z1 := rs2.c 1 _ rfl
  have z2 := rs2.c 2 _ rfl
  have z3 := rs2.c 3 _ rfl
  have z4 := rs2.c 4 _ rfl
  have z5 := rs2.c 5 _ rfl
  have z6 := rs2.c 6 _ rfl
  have z7 := rs2.c 7 _ rfl
  have z8 := rs2.c 8 _ rfl
  have z9 := rs2.c 9 _ rfl
  have z10 := rs2.c 10 _ rfl
  have z11 := rs2.c 11 _ rfl
  have z12 := rs2.c 12 _ rfl
  have z13 := rs2.c 13 _ rfl
  have qf := rs2.f
  clear rs hb0 hb2 hlook
  replace rs2 := Lib.hid rs2
  replace hT := Lib.hid hT
  go_upto_region 2 with fail
  obtain ⟨rs3, tf3, k3⟩ := put14 rs2.out (.int .i8 x.f.k) (.int .i64 x.f.fr) (.int .i64 x.f.to) (.int .i64 x.f.te) (.int .i64 x.f.ix) (.int .i64 x.f.la) (.int .i64 x.f.co) (.bool x.f.ok) (.slice r.ea r.en r.ec) (.int .i64 x.f.si) (.int .i64 x.f.st) (.int .u8 x.f.su) (.slice r.sa r.sn r.sc) (.slice r.da r.dn r.dc)
  have hB3 := k3 _ _ hB (Nat.le_of_eq hzb.out)
  have hT3 := hT.out.tf tf3
  clear rs2 hB z0 z1 z2 z3 z4 z5 z6 z7 z8 z9 z10 z11 z12 z13 qf tf3 k3 hT
  generalize ((((((((((((((w2.setCell ⟨zb, 0, none⟩ (.int .i8 x.f.k)).setCell ⟨zb, 1, none⟩ (.int .i64 x.f.fr)).setCell ⟨zb, 2, none⟩ (.int .i64 x.f.to)).setCell ⟨zb, 3, none⟩ (.int .i64 x.f.te)).setCell ⟨zb, 4, none⟩ (.int .i64 x.f.ix)).setCell ⟨zb, 5, none⟩ (.int .i64 x.f.la)).setCell ⟨zb, 6, none⟩ (.int .i64 x.f.co)).setCell ⟨zb, 7, none⟩ (.bool x.f.ok)).setCell ⟨zb, 8, none⟩ (.slice r.ea r.en r.ec)).setCell ⟨zb, 9, none⟩ (.int .i64 x.f.si)).setCell ⟨zb, 10, none⟩ (.int .i64 x.f.st)).setCell ⟨zb, 11, none⟩ (.int .u8 x.f.su)).setCell ⟨zb, 12, none⟩ (.slice r.sa r.sn r.sc)).setCell ⟨zb, 13, none⟩ (.slice r.da r.dn r.dc)) = W3 at rs3 hB3 hT3 ⊢
  have h3 := h.out.bel hB3
  have hd := rlose_ok h3 k hk.out hn.out
  replace h3 := Lib.hid h3
  replace hB3 := Lib.hid hB3
  replace hT3 := Lib.hid hT3
  replace rs3 := Lib.hid rs3
  go_wp2_with fail
  refine hd.mono ?_
  rintro e w4 ⟨lv4, rfl, h4, hk4⟩
  have hzg : zb ≠ g := fun e => by have := hzb.out; omega
  have rs4 : HB w4 zb #[.int .i8 x.f.k, .int .i64 x.f.fr, .int .i64 x.f.to, .int .i64 x.f.te, .int .i64 x.f.ix, .int .i64 x.f.la, .int .i64 x.f.co, .bool x.f.ok, .slice r.ea r.en r.ec, .int .i64 x.f.si, .int .i64 x.f.st, .int .u8 x.f.su, .slice r.sa r.sn r.sc, .slice r.da r.dn r.dc] := ⟨(hk4.blk zb rs3.out.lt (by simpa using hzg) hlv).trans rs3.out.h⟩
  have hT4 := hT3.out.tf (hk4.tf h3.out.types h3.out.ra.own)
  have hK4 := hk4.pre hB3.out
  have hlv4 : lv4.ownBlock ≠ some zb := hk4.row zb rs3.out.lt hlv
  clear hd hk4 rs3 hT3 h3 hB3
  replace rs4 := Lib.hid rs4
  replace h4 := Lib.hid h4
  replace hK4 := Lib.hid hK4
  replace hT4 := Lib.hid hT4
  go_upto_region 5 with fail
  have hzw : w.heap.size ≤ zb := Nat.le_of_eq hzb.out
  obtain ⟨l5, hl5⟩ : ∃ l5, l.eraseIdx k = l5 := ⟨_, rfl⟩
  rw [hl5] at h4 ⊢
  replace hl5 := Lib.hid hl5
  have hS0 : RF m w4.drew g base lv4 l5 cv ps ∧ HB w4.drew zb #[.int .i8 x.f.k, .int .i64 x.f.fr, .int .i64 x.f.to, .int .i64 x.f.te, .int .i64 x.f.ix, .int .i64 x.f.la, .int .i64 x.f.co, .bool x.f.ok, .slice r.ea r.en r.ec, .int .i64 x.f.si, .int .i64 x.f.st, .int .u8 x.f.su, .slice r.sa r.sn r.sc, .slice r.da r.dn r.dc] ∧ Fx [g] lv lv4 w w4.drew ∧ TM w4.drew r x := ⟨h4.out.bel (Below.refl w4.heap.size w4).drew, rs4.out.bel (Below.refl w4.heap.size w4).drew, hK4.out.drew, hT4.out.bel (Below.refl w4.heap.size w4).drew⟩
  clear rs4 h4 hK4 hT4
  refine wp_region_noPanic ?_
  refine Stg.wp_region_L [] (fun _ u => RF m u g base lv4 l5 cv ps ∧ HB u zb #[.int .i8 x.f.k, .int .i64 x.f.fr, .int .i64 x.f.to, .int .i64 x.f.te, .int .i64 x.f.ix, .int .i64 x.f.la, .int .i64 x.f.co, .bool x.f.ok, .slice r.ea r.en r.ec, .int .i64 x.f.si, .int .i64 x.f.st, .int .u8 x.f.su, .slice r.sa r.sn r.sc, .slice r.da r.dn r.dc] ∧ Fx [g] lv lv4 w u ∧ TM u r x) (by kernel_rfl) (hS0) (fun hHeld => ?_)
  refine Stg.wpAnyL_start (n' := 12) (l' := #[false, false, false, false, false, false, false, false, false, false, false, false]) (by kernel_rfl) (by kernel_rfl) ?_
  refine Stg.wpAnyL_take (i := 0) (v := ?_) [9, 10, 11] 0 rfl (by kernel_rfl) (by kernel_rfl) (by kernel_rfl) (by kernel_rfl) (by kernel_rfl) (fun _ _ _ h => h) (Or.inl ⟨by kernel_rfl, ?_⟩) (by assumption) ?_
  rotate_left
  · intro u hSu
    obtain ⟨hA1, hb1, hw1, hT1⟩ := hSu
    have y0 := hb1.c 0 _ rfl
    have y1 := hb1.c 1 _ rfl
    have y2 := hb1.c 2 _ rfl
    have y3 := hb1.c 3 _ rfl
    have y4 := hb1.c 4 _ rfl
    have y5 := hb1.c 5 _ rfl
    have y6 := hb1.c 6 _ rfl
    have y7 := hb1.c 7 _ rfl
    have y8 := hb1.c 8 _ rfl
    have y9 := hb1.c 9 _ rfl
    have y10 := hb1.c 10 _ rfl
    have y11 := hb1.c 11 _ rfl
    have y12 := hb1.c 12 _ rfl
    have y13 := hb1.c 13 _ rfl
    try simp only [List.getElem_toArray, List.getElem_cons_succ, List.getElem_cons_zero]
    go_simp
    try with_reducible rfl
  try simp only [Act.put, List.setIfInBounds_toArray, List.set_cons_zero, List.set_cons_succ]
  refine Stg.wpAnyL_free (i := 1) (v := ?_) 0 rfl (by kernel_rfl) (by kernel_rfl) (by kernel_rfl) (by kernel_rfl) (by kernel_rfl) (fun _ _ _ h => h) (Or.inl ⟨by kernel_rfl, ?_⟩) (by assumption) ?_
  rotate_left
  · intro u _
    try simp only [List.getElem_toArray, List.getElem_cons_succ, List.getElem_cons_zero]
    go_simp
    try with_reducible rfl
  try simp only [Act.put, List.setIfInBounds_toArray, List.set_cons_zero, List.set_cons_succ]
  refine Stg.wpAnyL_free (i := 2) (v := ?_) 0 rfl (by kernel_rfl) (by kernel_rfl) (by kernel_rfl) (by kernel_rfl) (by kernel_rfl) (fun _ _ _ h => h) (Or.inl ⟨by kernel_rfl, ?_⟩) (by assumption) ?_
  rotate_left
  · intro u _
    try simp only [List.getElem_toArray, List.getElem_cons_succ, List.getElem_cons_zero]
    go_simp
    try with_reducible rfl
  try simp only [Act.put, List.setIfInBounds_toArray, List.set_cons_zero, List.set_cons_succ]
  refine Stg.wpAnyL_start (n' := 9) (l' := #[true, true, true, false, false, false, false, false, false, false, false, false]) (by kernel_rfl) (by kernel_rfl) ?_
  refine Stg.wpAnyL_take (i := 3) (v := ?_) [6, 7, 8, 9, 10, 11] 0 rfl (by kernel_rfl) (by kernel_rfl) (by kernel_rfl) (by kernel_rfl) (by kernel_rfl) (fun _ _ _ h => h) (Or.inl ⟨by kernel_rfl, ?_⟩) (by assumption) ?_
  rotate_left
  · intro u hSu
    obtain ⟨hA1, hb1, hw1, hT1⟩ := hSu
    have y0 := hb1.c 0 _ rfl
    have y1 := hb1.c 1 _ rfl
    have y2 := hb1.c 2 _ rfl
    have y3 := hb1.c 3 _ rfl
    have y4 := hb1.c 4 _ rfl
    have y5 := hb1.c 5 _ rfl
    have y6 := hb1.c 6 _ rfl
    have y7 := hb1.c 7 _ rfl
    have y8 := hb1.c 8 _ rfl
    have y9 := hb1.c 9 _ rfl
    have y10 := hb1.c 10 _ rfl
    have y11 := hb1.c 11 _ rfl
    have y12 := hb1.c 12 _ rfl
    have y13 := hb1.c 13 _ rfl
    try simp only [List.getElem_toArray, List.getElem_cons_succ, List.getElem_cons_zero]
    go_simp
    try with_reducible rfl
  try simp only [Act.put, List.setIfInBounds_toArray, List.set_cons_zero, List.set_cons_succ]
  refine Stg.wpAnyL_free (i := 4) (v := ?_) 0 rfl (by kernel_rfl) (by kernel_rfl) (by kernel_rfl) (by kernel_rfl) (by kernel_rfl) (fun _ _ _ h => h) (Or.inl ⟨by kernel_rfl, ?_⟩) (by assumption) ?_
  rotate_left
  · intro u _
    try simp only [List.getElem_toArray, List.getElem_cons_succ, List.getElem_cons_zero]
    go_simp
    try with_reducible rfl
  try simp only [Act.put, List.setIfInBounds_toArray, List.set_cons_zero, List.set_cons_succ]
  refine Stg.wpAnyL_take (i := 5) (v := ?_) [6, 7, 8, 9, 10, 11] 0 rfl (by kernel_rfl) (by kernel_rfl) (by kernel_rfl) (by kernel_rfl) (by kernel_rfl) (fun _ _ _ h => h) (Or.inl ⟨by kernel_rfl, ?_⟩) (by assumption) ?_
  rotate_left
  · intro u hSu
    obtain ⟨hA1, hb1, hw1, hT1⟩ := hSu
    have y0 := hb1.c 0 _ rfl
    have y1 := hb1.c 1 _ rfl
    have y2 := hb1.c 2 _ rfl
    have y3 := hb1.c 3 _ rfl
    have y4 := hb1.c 4 _ rfl
    have y5 := hb1.c 5 _ rfl
    have y6 := hb1.c 6 _ rfl
    have y7 := hb1.c 7 _ rfl
    have y8 := hb1.c 8 _ rfl
    have y9 := hb1.c 9 _ rfl
    have y10 := hb1.c 10 _ rfl
    have y11 := hb1.c 11 _ rfl
    have y12 := hb1.c 12 _ rfl
    have y13 := hb1.c 13 _ rfl
    try simp only [List.getElem_toArray, List.getElem_cons_succ, List.getElem_cons_zero]
    go_simp
    try with_reducible rfl
  try simp only [Act.put, List.setIfInBounds_toArray, List.set_cons_zero, List.set_cons_succ]
  refine Stg.wpAnyL_start (n' := 6) (l' := #[true, true, true, true, true, true, false, false, false, false, false, false]) (by kernel_rfl) (by kernel_rfl) ?_
  refine Stg.wpAnyL_free (i := 6) (v := ?_) 0 rfl (by kernel_rfl) (by kernel_rfl) (by kernel_rfl) (by kernel_rfl) (by kernel_rfl) (fun _ _ _ h => h) (Or.inl ⟨by kernel_rfl, ?_⟩) (by assumption) ?_
  rotate_left
  · intro u _
    try simp only [List.getElem_toArray, List.getElem_cons_succ, List.getElem_cons_zero]
    go_simp
    try with_reducible rfl
  try simp only [Act.put, List.setIfInBounds_toArray, List.set_cons_zero, List.set_cons_succ]
  refine Stg.wpAnyL_one (i := 7) 0 rfl (by kernel_rfl) (by kernel_rfl) (fun K hK => ?_)
  try simp only [List.getElem_toArray, List.getElem_cons_succ, List.getElem_cons_zero]
  go_simp
  obtain ⟨hA2, hb2, hw2, hT2⟩ := hHeld
  refine (risCut_c hA2 x.f.fr x.f.to hp.out).mono ?_
  rintro e w5 ⟨rfl, hbc⟩
  refine hK.out _ _ ?_ (fun hHeld1 => ?_)
  · exact ⟨hA2.bel hbc, hb2.bel hbc, hw2.post hbc, hT2.bel hbc⟩
  clear hK K
  try simp only [Act.put, List.setIfInBounds_toArray, List.set_cons_zero, List.set_cons_succ]
  refine Stg.wpAnyL_free (i := 8) (v := ?_) 0 rfl (by kernel_rfl) (by kernel_rfl) (by kernel_rfl) (by kernel_rfl) (by kernel_rfl) (fun _ _ _ h => h) (Or.inl ⟨by kernel_rfl, ?_⟩) (by assumption) ?_
  rotate_left
  · intro u _
    try simp only [List.getElem_toArray, List.getElem_cons_succ, List.getElem_cons_zero]
    go_simp
    try with_reducible rfl
  try simp only [Act.put, List.setIfInBounds_toArray, List.set_cons_zero, List.set_cons_succ]
  refine Stg.wpAnyL_start (n' := 3) (l' := #[true, true, true, true, true, true, true, true, true, false, false, false]) (by kernel_rfl) (by kernel_rfl) ?_
  obtain ⟨hA2, hb2, hw2, hT2⟩ := hHeld1
  refine Stg.wpAnyL_row (i := 9) 0 rfl (by kernel_rfl) (by kernel_rfl) (by kernel_rfl) _ _ _ rfl zb #[.int .i8 x.f.k, .int .i64 x.f.fr, .int .i64 x.f.to, .int .i64 x.f.te, .int .i64 x.f.ix, .int .i64 x.f.la, .int .i64 x.f.co, .bool x.f.ok, .slice r.ea r.en r.ec, .int .i64 x.f.si, .int .i64 x.f.st, .int .u8 x.f.su, .slice r.sa r.sn r.sc, .slice r.da r.dn r.dc] (by kernel_rfl) (by kernel_rfl) _ _ hb2.h (by kernel_rfl) rfl (by simp [Value.oneCell']) ⟨hA2.setRow (Ne.symm hzg) hlv4 hcv _, setRow_hb hb2 _ rfl, hw2.setRow hzw _, hT2.tf (setRow_tf hb2 _)⟩ ?_
  try simp only [Act.put, List.setIfInBounds_toArray, List.set_cons_zero, List.set_cons_succ]
  have hS1 : RF m (w5.setRow zb #[.int .i8 x.f.k, .int .i64 x.f.fr, .int .i64 x.f.to, .int .i64 x.f.te, .int .i64 x.f.ix, .int .i64 x.f.la, .int .i64 x.f.co, .bool x.f.ok, .slice r.ea r.en r.ec, .int .i64 x.f.si, .int .i64 x.f.st, .int .u8 x.f.su, .slice r.sa r.sn r.sc, .slice r.da r.dn r.dc]) g base lv4 l5 cv ps ∧ HB (w5.setRow zb #[.int .i8 x.f.k, .int .i64 x.f.fr, .int .i64 x.f.to, .int .i64 x.f.te, .int .i64 x.f.ix, .int .i64 x.f.la, .int .i64 x.f.co, .bool x.f.ok, .slice r.ea r.en r.ec, .int .i64 x.f.si, .int .i64 x.f.st, .int .u8 x.f.su, .slice r.sa r.sn r.sc, .slice r.da r.dn r.dc]) zb #[.int .i8 x.f.k, .int .i64 x.f.fr, .int .i64 x.f.to, .int .i64 x.f.te, .int .i64 x.f.ix, .int .i64 x.f.la, .int .i64 x.f.co, .bool x.f.ok, .slice r.ea r.en r.ec, .int .i64 x.f.si, .int .i64 x.f.st, .int .u8 x.f.su, .slice r.sa r.sn r.sc, .slice r.da r.dn r.dc] ∧ Fx [g] lv lv4 w (w5.setRow zb #[.int .i8 x.f.k, .int .i64 x.f.fr, .int .i64 x.f.to, .int .i64 x.f.te, .int .i64 x.f.ix, .int .i64 x.f.la, .int .i64 x.f.co, .bool x.f.ok, .slice r.ea r.en r.ec, .int .i64 x.f.si, .int .i64 x.f.st, .int .u8 x.f.su, .slice r.sa r.sn r.sc, .slice r.da r.dn r.dc]) ∧ TM (w5.setRow zb #[.int .i8 x.f.k, .int .i64 x.f.fr, .int .i64 x.f.to, .int .i64 x.f.te, .int .i64 x.f.ix, .int .i64 x.f.la, .int .i64 x.f.co, .bool x.f.ok, .slice r.ea r.en r.ec, .int .i64 x.f.si, .int .i64 x.f.st, .int .u8 x.f.su, .slice r.sa r.sn r.sc, .slice r.da r.dn r.dc]) r x := ⟨hA2.setRow (Ne.symm hzg) hlv4 hcv _, setRow_hb hb2 _ rfl, hw2.setRow hzw _, hT2.tf (setRow_tf hb2 _)⟩
  clear hA2 hb2 hw2 hT2
  refine Stg.wpAnyL_free (i := 10) (v := ?_) 0 rfl (by kernel_rfl) (by kernel_rfl) (by kernel_rfl) (by kernel_rfl) (by kernel_rfl) (fun _ _ _ h => h) (Or.inl ⟨by kernel_rfl, ?_⟩) (by assumption) ?_
  rotate_left
  · intro u _
    try simp only [List.getElem_toArray, List.getElem_cons_succ, List.getElem_cons_zero]
    go_simp
    try with_reducible rfl
  try simp only [Act.put, List.setIfInBounds_toArray, List.set_cons_zero, List.set_cons_succ]
  refine Stg.wpAnyL_free (i := 11) (v := ?_) 0 rfl (by kernel_rfl) (by kernel_rfl) (by kernel_rfl) (by kernel_rfl) (by kernel_rfl) (fun _ _ _ h => h) (Or.inl ⟨by kernel_rfl, ?_⟩) (by assumption) ?_
  rotate_left
  · intro u _
    try simp only [List.getElem_toArray, List.getElem_cons_succ, List.getElem_cons_zero]
    go_simp
    try with_reducible rfl
  try simp only [Act.put, List.setIfInBounds_toArray, List.set_cons_zero, List.set_cons_succ]
  refine Stg.wpAnyL_done (by kernel_rfl) ?_ _
  try simp only [List.getElem_toArray, List.getElem_cons_succ, List.getElem_cons_zero]
  try simp only [Act.put, List.setIfInBounds_toArray, List.set_cons_zero, List.set_cons_succ]
  refine NoPanic.normal ?_
  obtain ⟨hA9, hb9, hw9, hT9⟩ := hS1
  generalize w5.setRow zb #[.int .i8 x.f.k, .int .i64 x.f.fr, .int .i64 x.f.to, .int .i64 x.f.te, .int .i64 x.f.ix, .int .i64 x.f.la, .int .i64 x.f.co, .bool x.f.ok, .slice r.ea r.en r.ec, .int .i64 x.f.si, .int .i64 x.f.st, .int .u8 x.f.su, .slice r.sa r.sn r.sc, .slice r.da r.dn r.dc] = W9 at hA9 hb9 hw9 hT9 ⊢
  have y0 := hb9.c 0 _ rfl
  have y1 := hb9.c 1 _ rfl
  have y2 := hb9.c 2 _ rfl
  have y3 := hb9.c 3 _ rfl
  have y4 := hb9.c 4 _ rfl
  have y5 := hb9.c 5 _ rfl
  have y6 := hb9.c 6 _ rfl
  have y7 := hb9.c 7 _ rfl
  have y8 := hb9.c 8 _ rfl
  have y9 := hb9.c 9 _ rfl
  have y10 := hb9.c 10 _ rfl
  have y11 := hb9.c 11 _ rfl
  have y12 := hb9.c 12 _ rfl
  have y13 := hb9.c 13 _ rfl
  go_wp2_with fail
  refine bodyPost_ret (v := .tuple #[.agg #[.int .i8 x.f.k, .int .i64 x.f.fr, .int .i64 x.f.to, .int .i64 x.f.te, .int .i64 x.f.ix, .int .i64 x.f.la, .int .i64 x.f.co, .bool x.f.ok, .slice r.ea r.en r.ec, .int .i64 x.f.si, .int .i64 x.f.st, .int .u8 x.f.su, .slice r.sa r.sn r.sc, .slice r.da r.dn r.dc], .bool (!decide ((x.f.fr, x.f.to) ∈ ps)), .int .i64 0]) (by simp [results, Try.results28, go_sem, y0, y1, y2, y3, y4, y5, y6, y7, y8, y9, y10, y11, y12, y13]) rfl ⟨_, _, rfl, by first | exact hA9 | (rw [hl5.out]; exact hA9), hT9, hw9⟩

set_option maxRecDepth 100000 in
set_option maxHeartbeats 4000000 in
theorem rdeliver_no {s2 : Value} {w : World} {g base : Nat} {lv : Value} {l : List RM} (h : RA 52 s2 w g base lv l) (k : Int) (hk : k < 0 ∨ (l.length : Int) ≤ k) :
    Calls Try.prog 28 #[.pointer (some ⟨g, 0, none⟩), .int .i64 k] w (DelivN w) := by
  have hb0 : Below w.heap.size w (w.alloc (.cells #[.int .i8 0, .int .i64 0, .int .i64 0, .int .i64 0, .int .i64 0, .int .i64 0, .int .i64 0, .bool false, .slice none 0 0, .int .i64 0, .int .i64 0, .int .u8 0, .slice none 0 0, .slice none 0 0] 34)) := (Below.refl _ _).alloc (Nat.le_refl _) _
  have rs := HT.new w #[.int .i8 0, .int .i64 0, .int .i64 0, .int .i64 0, .int .i64 0, .int .i64 0, .int .i64 0, .bool false, .slice none 0 0, .int .i64 0, .int .i64 0, .int .u8 0, .slice none 0 0, .slice none 0 0] 34
  have hlook := rlook_no (h.bel hb0) k hk
  clear h hk
  replace rs := Lib.hid rs
  replace hlook := Lib.hid hlook
  replace hb0 := Lib.hid hb0
  go_enter Try.func28, Try.ntmps28
  go_upto_region 1 with fail
  have rs := rs.out
  have hlook := hlook.out
  have hb0 := hb0.out
  generalize (w.alloc (.cells #[.int .i8 0, .int .i64 0, .int .i64 0, .int .i64 0, .int .i64 0, .int .i64 0, .int .i64 0, .bool false, .slice none 0 0, .int .i64 0, .int .i64 0, .int .u8 0, .slice none 0 0, .slice none 0 0] 34)) = W1 at rs hb0 hlook ⊢
  obtain ⟨zb, hzb⟩ : ∃ zb, w.heap.size = zb := ⟨_, rfl⟩
  rw [hzb] at rs ⊢
  replace hzb := Lib.hid hzb
  go_wp2_with fail
  refine hlook.mono ?_
  rintro e w2 ⟨rfl, hb2⟩
  have rs2 := rs.bel hb2
  have hB := bNext hb0 hb2 (Nat.le_refl _)
  have z0 := rs2.c 0 _ rfl
  have z1 := rs2.c 1 _ rfl
  have z2 := rs2.c 2 _ rfl
  have z3 := rs2.c 3 _ rfl
  have z4 := rs2.c 4 _ rfl
  have z5 := rs2.c 5 _ rfl
  have z6 := rs2.c 6 _ rfl
  have z7 := rs2.c 7 _ rfl
  have z8 := rs2.c 8 _ rfl
  have z9 := rs2.c 9 _ rfl
  have z10 := rs2.c 10 _ rfl
  have z11 := rs2.c 11 _ rfl
  have z12 := rs2.c 12 _ rfl
  have z13 := rs2.c 13 _ rfl
  have qf := rs2.f
  clear rs hb0 hb2 hlook
  replace rs2 := Lib.hid rs2
  go_upto_region 2 with fail
  obtain ⟨rs3, tf3, k3⟩ := put14 rs2.out (.int .i8 0) (.int .i64 0) (.int .i64 0) (.int .i64 0) (.int .i64 0) (.int .i64 0) (.int .i64 0) (.bool false) (.slice none 0 0) (.int .i64 0) (.int .i64 0) (.int .u8 0) (.slice none 0 0) (.slice none 0 0)
  have hB3 := k3 _ _ hB (Nat.le_of_eq hzb.out)
  clear rs2 hB z0 z1 z2 z3 z4 z5 z6 z7 z8 z9 z10 z11 z12 z13 qf tf3 k3
  generalize ((((((((((((((w2.setCell ⟨zb, 0, none⟩ (.int .i8 0)).setCell ⟨zb, 1, none⟩ (.int .i64 0)).setCell ⟨zb, 2, none⟩ (.int .i64 0)).setCell ⟨zb, 3, none⟩ (.int .i64 0)).setCell ⟨zb, 4, none⟩ (.int .i64 0)).setCell ⟨zb, 5, none⟩ (.int .i64 0)).setCell ⟨zb, 6, none⟩ (.int .i64 0)).setCell ⟨zb, 7, none⟩ (.bool false)).setCell ⟨zb, 8, none⟩ (.slice none 0 0)).setCell ⟨zb, 9, none⟩ (.int .i64 0)).setCell ⟨zb, 10, none⟩ (.int .i64 0)).setCell ⟨zb, 11, none⟩ (.int .u8 0)).setCell ⟨zb, 12, none⟩ (.slice none 0 0)).setCell ⟨zb, 13, none⟩ (.slice none 0 0)) = W3 at rs3 hB3 ⊢
  have z0 := rs3.c 0 _ rfl
  have z1 := rs3.c 1 _ rfl
  have z2 := rs3.c 2 _ rfl
  have z3 := rs3.c 3 _ rfl
  have z4 := rs3.c 4 _ rfl
  have z5 := rs3.c 5 _ rfl
  have z6 := rs3.c 6 _ rfl
  have z7 := rs3.c 7 _ rfl
  have z8 := rs3.c 8 _ rfl
  have z9 := rs3.c 9 _ rfl
  have z10 := rs3.c 10 _ rfl
  have z11 := rs3.c 11 _ rfl
  have z12 := rs3.c 12 _ rfl
  have z13 := rs3.c 13 _ rfl
  have qf := rs3.f
  obtain ⟨rs4, tf4, k4⟩ := put14 rs3 (.int .i8 0) (.int .i64 0) (.int .i64 0) (.int .i64 0) (.int .i64 0) (.int .i64 0) (.int .i64 0) (.bool false) (.slice none 0 0) (.int .i64 0) (.int .i64 0) (.int .u8 0) (.slice none 0 0) (.slice none 0 0)
  have hB4 := Lib.hid (k4 _ _ hB3 (Nat.le_of_eq hzb.out))
  have s0 := Lib.hid (rs4.c 0 _ rfl)
  have s1 := Lib.hid (rs4.c 1 _ rfl)
  have s2 := Lib.hid (rs4.c 2 _ rfl)
  have s3 := Lib.hid (rs4.c 3 _ rfl)
  have s4 := Lib.hid (rs4.c 4 _ rfl)
  have s5 := Lib.hid (rs4.c 5 _ rfl)
  have s6 := Lib.hid (rs4.c 6 _ rfl)
  have s7 := Lib.hid (rs4.c 7 _ rfl)
  have s8 := Lib.hid (rs4.c 8 _ rfl)
  have s9 := Lib.hid (rs4.c 9 _ rfl)
  have s10 := Lib.hid (rs4.c 10 _ rfl)
  have s11 := Lib.hid (rs4.c 11 _ rfl)
  have s12 := Lib.hid (rs4.c 12 _ rfl)
  have s13 := Lib.hid (rs4.c 13 _ rfl)
  clear rs3 rs4 hB3 tf4 k4
  go_wp2_with fail
  refine bodyPost_ret (v := .tuple #[.agg #[.int .i8 0, .int .i64 0, .int .i64 0, .int .i64 0, .int .i64 0, .int .i64 0, .int .i64 0, .bool false, .slice none 0 0, .int .i64 0, .int .i64 0, .int .u8 0, .slice none 0 0, .slice none 0 0], .bool false, .int .i64 4]) (by simp [results, Try.results28, go_sem, s0.out, s1.out, s2.out, s3.out, s4.out, s5.out, s6.out, s7.out, s8.out, s9.out, s10.out, s11.out, s12.out, s13.out]) rfl ⟨rfl, hB4.out⟩

end Go.Proofs.Ytnokojobiaddmaa
