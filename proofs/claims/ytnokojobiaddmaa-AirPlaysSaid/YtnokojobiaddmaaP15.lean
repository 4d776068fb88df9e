/- The air: Deliver, Lose. -/
import Derived.Test.YtnokojobiaddmaaP14
namespace Go.Proofs.Ytnokojobiaddmaa
open Go.ChangeShapes Go.WideShapes Go.ChangeAt Go.RowKit Go.Maps
set_option linter.unusedVariables false
set_option linter.unusedSimpArgs false
open BigFrame Bs By Am Ar

namespace Ar
def DelivP (lv0 : Value) (m g base : Nat) (l : List RM) (bm n : Nat) (C : Int → Int → Bool) (x : Mg) (w : World) (e : Ending) (w' : World) : Prop :=
  ∃ lv r, e = .returned (.tuple #[.agg #[.int .i8 x.f.k, .int .i64 x.f.fr, .int .i64 x.f.to, .int .i64 x.f.te, .int .i64 x.f.ix, .int .i64 x.f.la, .int .i64 x.f.co, .bool x.f.ok, .slice r.ea r.en r.ec, .int .i64 x.f.si, .int .i64 x.f.st, .int .u8 x.f.su, .slice r.sa r.sn r.sc, .slice r.da r.dn r.dc], .bool (!C x.f.fr x.f.to), .int .i64 0]) ∧ AirAt m w' g base lv l bm n C ∧ TM w' r x ∧ Kpt m g bm lv0 lv w w'
def DelivN (w : World) (e : Ending) (w' : World) : Prop := e = .returned (.tuple #[.agg #[.int .i8 0, .int .i64 0, .int .i64 0, .int .i64 0, .int .i64 0, .int .i64 0, .int .i64 0, .bool false, .slice none 0 0, .int .i64 0, .int .i64 0, .int .u8 0, .slice none 0 0, .slice none 0 0], .bool false, .int .i64 4]) ∧ Below w.heap.size w w'
theorem setRow_tf {u : World} {b : Nat} {cs : Array Value} (h : HB u b cs) (cs2 : Array Value) : Tf u (u.setRow b cs2) := by
  have key : ∀ t, 34 ≠ t → Ty t u (u.setRow b cs2) := fun t ht k ks hk => by
    refine (setRow_blk u b k cs2 (fun e => ?_)).trans hk
    subst e
    rw [h.h] at hk
    cases hk
    exact ht rfl
  exact ⟨key _ msg_ne_u8, key _ msg_ne_entry⟩
theorem set_tf {u : World} {b o : Nat} {cs : Array Value} {t : TypeId} (h : u.heap[b]? = some (.cells cs t (0, 0))) (h1 : t ≠ 5) (h2 : t ≠ 69) (v : Value) : Tf u (u.setCell ⟨b, o, none⟩ v) := ⟨Ty.set h h1 v, Ty.set h h2 v⟩
theorem grown_tf {w w' : World} {base n size : Nat} {v : Value} {xs : List Value} (hown : w.ownsRow base 34 size v n xs) (hg : w.grownBy w' v.ownBlock) : Tf w w' := ⟨Ty.grown hown hg msg_ne_u8, Ty.grown hown hg msg_ne_entry⟩
end Ar

set_option maxRecDepth 100000 in
set_option maxHeartbeats 8000000 in
theorem air_deliver (k : Nat) {m : Nat} {w : World} {g base : Nat} {lv : Value} {l : List RM} {bm n : Nat} {C : Int → Int → Bool} (h : AirAt m w g base lv l bm n C) (x : Mg) (hk : k < l.length) (hx : TM w (l.getD k rm0) x) (hm : Sm x) (hn : l.length ≤ 1024) (hf : (Lit.int .i64 x.f.fr).wf = true) (ht : (Lit.int .i64 x.f.to).wf = true) :
    Calls Try.prog 10 #[.pointer (some ⟨g, 0, none⟩), .int .i64 (k : Nat)] w (DelivP lv m g base (l.eraseIdx k) bm n C x w) := by
  have hb0 : Below w.heap.size w (w.alloc (.cells #[.int .i8 0, .int .i64 0, .int .i64 0, .int .i64 0, .int .i64 0, .int .i64 0, .int .i64 0, .bool false, .slice none 0 0, .int .i64 0, .int .i64 0, .int .u8 0, .slice none 0 0, .slice none 0 0] 34)) := (Below.refl _ _).alloc (Nat.le_refl _) _
  have rs := HT.new w #[.int .i8 0, .int .i64 0, .int .i64 0, .int .i64 0, .int .i64 0, .int .i64 0, .int .i64 0, .bool false, .slice none 0 0, .int .i64 0, .int .i64 0, .int .u8 0, .slice none 0 0, .slice none 0 0] 34
  have hlook := alook_ok (h.bel hb0).ra k x hk (hx.bel hb0) hm hn
  have hmw := h.below
  have hsz := hb0.size
  obtain ⟨q, cap, rfl, _⟩ := h.own.form (by omega)
  have hg0 := h.lt
  have hg1 := h.bmlt
  have hki : (k : Int) ≤ 1024 := by omega
  have hki0 : (0 : Int) ≤ (k : Int) := by omega
  replace h := Lib.hid h
  replace hk := Lib.hid hk
  replace hn := Lib.hid hn
  replace hf := Lib.hid hf
  replace ht := Lib.hid ht
  replace rs := Lib.hid rs
  replace hlook := Lib.hid hlook
  replace hb0 := Lib.hid hb0
  clear hx hm
  go_enter Try.func10, Try.ntmps10
  go_upto_region 1 with fail
  have rs := rs.out
  have hlook := hlook.out
  have hb0 := hb0.out
  generalize (w.alloc (.cells #[.int .i8 0, .int .i64 0, .int .i64 0, .int .i64 0, .int .i64 0, .int .i64 0, .int .i64 0, .bool false, .slice none 0 0, .int .i64 0, .int .i64 0, .int .u8 0, .slice none 0 0, .slice none 0 0] 34)) = W1 at rs hb0 hlook ⊢
  obtain ⟨zb, hzb⟩ : ∃ zb, w.heap.size = zb := ⟨_, rfl⟩
  rw [hzb] at rs ⊢
  replace hzb := Lib.hid hzb
  go_wp2_with fail
  refine hlook.mono ?_
  rintro e w2 ⟨r, rfl, hT, hb2⟩
  have rs2 := rs.bel hb2
  have hB := bNext hb0 hb2 (Nat.le_refl _)
  have z0 := rs2.c 0 _ rfl
  have z1 := rs2.c 1 _ rfl
  have z2 := rs2.c 2 _ rfl
  have z3 := rs2.c 3 _ rfl
  have z4 := rs2.c 4 _ rfl
  have z5 := rs2.c 5 _ rfl
  have z6 := rs2.c 6 _ rfl
  have z7 := rs2.c 7 _ rfl
  have z8 := rs2.c 8 _ rfl
  have z9 := rs2.c 9 _ rfl
  have z10 := rs2.c 10 _ rfl
  have z11 := rs2.c 11 _ rfl
  have z12 := rs2.c 12 _ rfl
  have z13 := rs2.c 13 _ rfl
  have qf := rs2.f
  clear rs hb0 hb2 hlook hsz
  replace rs2 := Lib.hid rs2
  replace hT := Lib.hid hT
  go_upto_region 2 with fail
  obtain ⟨rs3, tf3, k3⟩ := put14 rs2.out (.int .i8 x.f.k) (.int .i64 x.f.fr) (.int .i64 x.f.to) (.int .i64 x.f.te) (.int .i64 x.f.ix) (.int .i64 x.f.la) (.int .i64 x.f.co) (.bool x.f.ok) (.slice r.ea r.en r.ec) (.int .i64 x.f.si) (.int .i64 x.f.st) (.int .u8 x.f.su) (.slice r.sa r.sn r.sc) (.slice r.da r.dn r.dc)
  have hB3 := k3 _ _ hB (Nat.le_of_eq hzb.out)
  have hT3 := hT.out.tf tf3
  clear rs2 hB z0 z1 z2 z3 z4 z5 z6 z7 z8 z9 z10 z11 z12 z13 qf tf3 k3 hT
  generalize ((((((((((((((w2.setCell ⟨zb, 0, none⟩ (.int .i8 x.f.k)).setCell ⟨zb, 1, none⟩ (.int .i64 x.f.fr)).setCell ⟨zb, 2, none⟩ (.int .i64 x.f.to)).setCell ⟨zb, 3, none⟩ (.int .i64 x.f.te)).setCell ⟨zb, 4, none⟩ (.int .i64 x.f.ix)).setCell ⟨zb, 5, none⟩ (.int .i64 x.f.la)).setCell ⟨zb, 6, none⟩ (.int .i64 x.f.co)).setCell ⟨zb, 7, none⟩ (.bool x.f.ok)).setCell ⟨zb, 8, none⟩ (.slice r.ea r.en r.ec)).setCell ⟨zb, 9, none⟩ (.int .i64 x.f.si)).setCell ⟨zb, 10, none⟩ (.int .i64 x.f.st)).setCell ⟨zb, 11, none⟩ (.int .u8 x.f.su)).setCell ⟨zb, 12, none⟩ (.slice r.sa r.sn r.sc)).setCell ⟨zb, 13, none⟩ (.slice r.da r.dn r.dc)) = W3 at rs3 hB3 hT3 ⊢
  have h3 := h.out.bel hB3
  have c0 := h3.c0
  have hd := delete_one l q cap k W3 h3.own hk.out hn.out
  replace h3 := Lib.hid h3
  replace hB3 := Lib.hid hB3
  replace hT3 := Lib.hid hT3
  go_wp2_with fail
  refine hd.mono ?_
  rintro e w4 ⟨rfl, hown4, hg4⟩
  obtain ⟨⟨z0, z1⟩, h5, hb5⟩ := h3.out.del hk.out hg4 hown4
  have hzq : zb ≠ q := fun e => by have := (h.out.own.lt q rfl).2; have := hzb.out; omega
  have hzg : zb ≠ g := fun e => by have := hzb.out; omega
  have rs4 : HB w4 zb #[.int .i8 x.f.k, .int .i64 x.f.fr, .int .i64 x.f.to, .int .i64 x.f.te, .int .i64 x.f.ix, .int .i64 x.f.la, .int .i64 x.f.co, .bool x.f.ok, .slice r.ea r.en r.ec, .int .i64 x.f.si, .int .i64 x.f.st, .int .u8 x.f.su, .slice r.sa r.sn r.sc, .slice r.da r.dn r.dc] := ⟨(hg4.block zb rs3.lt (fun e => hzq (by simpa using e))).trans rs3.h⟩
  have rs5 := rs4.other (q := g) (o := 0) hzg (.slice (some ⟨q, 0, none⟩) (l.length - 1) cap)
  have hgg : w4.heap[g]? = some (.cells #[(.slice (some ⟨q, 0, none⟩) l.length cap), .map (some bm)] 59 (0, 0)) := (hg4.block g h3.out.lt (fun e => by have := (h3.out.own.lt q rfl).1; have := h3.out.h1; simp at e; omega)).trans h3.out.hg
  have hT5 := (hT3.out.tf (grown_tf h3.out.own hg4)).tf (set_tf (o := 0) hgg (by decide) (by decide) (.slice (some ⟨q, 0, none⟩) (l.length - 1) cap))
  have hBm : Kpt m g bm (.slice (some ⟨q, 0, none⟩) l.length cap) (.slice (some ⟨q, 0, none⟩) (l.length - 1) cap) w (w4.setCell ⟨g, 0, none⟩ (.slice (some ⟨q, 0, none⟩) (l.length - 1) cap)) := hb5.pre hB3.out hmw
  clear hd c0 rs3 rs4 hown4 hg4 hb5 hgg hT3
  replace rs5 := Lib.hid rs5
  replace h5 := Lib.hid h5
  replace hBm := Lib.hid hBm
  replace hT5 := Lib.hid hT5
  go_upto_region 5 with fail
  replace rs5 := rs5.out
  replace h5 := h5.out
  replace hBm := hBm.out
  replace hT5 := hT5.out
  clear z0 z1
  generalize (w4.setCell ⟨g, 0, none⟩ (.slice (some ⟨q, 0, none⟩) (l.length - 1) cap)) = W5 at rs5 h5 hBm hT5 ⊢
  have hzm : bm ≠ zb := fun e => by have := hzb.out; omega
  have hzq2 : (Value.slice (some ⟨q, 0, none⟩) (l.length - 1) cap).ownBlock ≠ some zb := fun e => hzq (by simpa [Value.ownBlock] using e.symm)
  have hmz : m ≤ zb := by have := hzb.out; omega
  have hzw : w.heap.size ≤ zb := Nat.le_of_eq hzb.out
  obtain ⟨l5, hl5⟩ : ∃ l5, l.eraseIdx k = l5 := ⟨_, rfl⟩
  rw [hl5] at h5 ⊢
  clear h3 hB3
  replace hl5 := Lib.hid hl5
  have hS0 : AirAt m W5.drew g base (.slice (some ⟨q, 0, none⟩) (l.length - 1) cap) l5 bm n C ∧ HB W5.drew zb #[.int .i8 x.f.k, .int .i64 x.f.fr, .int .i64 x.f.to, .int .i64 x.f.te, .int .i64 x.f.ix, .int .i64 x.f.la, .int .i64 x.f.co, .bool x.f.ok, .slice r.ea r.en r.ec, .int .i64 x.f.si, .int .i64 x.f.st, .int .u8 x.f.su, .slice r.sa r.sn r.sc, .slice r.da r.dn r.dc] ∧ Kpt m g bm (.slice (some ⟨q, 0, none⟩) l.length cap) (.slice (some ⟨q, 0, none⟩) (l.length - 1) cap) w W5.drew ∧ TM W5.drew r x := ⟨h5.bel (Below.refl W5.heap.size W5).drew, rs5.bel (Below.refl W5.heap.size W5).drew, hBm.drew, hT5.bel (Below.refl W5.heap.size W5).drew⟩
  clear rs5 h5 hBm hT5
  refine wp_region_noPanic ?_
  refine Stg.wp_region_L [] (fun _ u => AirAt m u g base (.slice (some ⟨q, 0, none⟩) (l.length - 1) cap) l5 bm n C ∧ HB u zb #[.int .i8 x.f.k, .int .i64 x.f.fr, .int .i64 x.f.to, .int .i64 x.f.te, .int .i64 x.f.ix, .int .i64 x.f.la, .int .i64 x.f.co, .bool x.f.ok, .slice r.ea r.en r.ec, .int .i64 x.f.si, .int .i64 x.f.st, .int .u8 x.f.su, .slice r.sa r.sn r.sc, .slice r.da r.dn r.dc] ∧ Kpt m g bm (.slice (some ⟨q, 0, none⟩) l.length cap) (.slice (some ⟨q, 0, none⟩) (l.length - 1) cap) w u ∧ TM u r x) (by kernel_rfl) (hS0) (fun hHeld => ?_)
  refine Stg.wpAnyL_start (n' := 15) (l' := #[false, false, false, false, false, false, false, false, false, false, false, false, false, false, false]) (by kernel_rfl) (by kernel_rfl) ?_
  refine Stg.wpAnyL_take (i := 0) (v := ?_) [12, 13, 14] 0 rfl (by kernel_rfl) (by kernel_rfl) (by kernel_rfl) (by kernel_rfl) (by kernel_rfl) (fun _ _ _ h => h) (Or.inl ⟨by kernel_rfl, ?_⟩) (by assumption) ?_
  rotate_left
  · intro u hSu
    obtain ⟨hA1, hb1, hw1, hT1⟩ := hSu
    have y0 := hb1.c 0 _ rfl
    have y1 := hb1.c 1 _ rfl
    have y2 := hb1.c 2 _ rfl
    have y3 := hb1.c 3 _ rfl
    have y4 := hb1.c 4 _ rfl
    have y5 := hb1.c 5 _ rfl
    have y6 := hb1.c 6 _ rfl
    have y7 := hb1.c 7 _ rfl
    have y8 := hb1.c 8 _ rfl
    have y9 := hb1.c 9 _ rfl
    have y10 := hb1.c 10 _ rfl
    have y11 := hb1.c 11 _ rfl
    have y12 := hb1.c 12 _ rfl
    have y13 := hb1.c 13 _ rfl
    have c1 := hA1.c1
    try simp only [List.getElem_toArray, List.getElem_cons_succ, List.getElem_cons_zero]
    go_simp
    try with_reducible rfl
  try simp only [Act.put, List.setIfInBounds_toArray, List.set_cons_zero, List.set_cons_succ]
  refine Stg.wpAnyL_free (i := 1) (v := ?_) 0 rfl (by kernel_rfl) (by kernel_rfl) (by kernel_rfl) (by kernel_rfl) (by kernel_rfl) (fun _ _ _ h => h) (Or.inl ⟨by kernel_rfl, ?_⟩) (by assumption) ?_
  rotate_left
  · intro u _
    try simp only [List.getElem_toArray, List.getElem_cons_succ, List.getElem_cons_zero]
    go_simp
    try with_reducible rfl
  try simp only [Act.put, List.setIfInBounds_toArray, List.set_cons_zero, List.set_cons_succ]
  refine Stg.wpAnyL_free (i := 2) (v := ?_) 0 rfl (by kernel_rfl) (by kernel_rfl) (by kernel_rfl) (by kernel_rfl) (by kernel_rfl) (fun _ _ _ h => h) (Or.inl ⟨by kernel_rfl, ?_⟩) (by assumption) ?_
  rotate_left
  · intro u _
    try simp only [List.getElem_toArray, List.getElem_cons_succ, List.getElem_cons_zero]
    go_simp
    try with_reducible rfl
  try simp only [Act.put, List.setIfInBounds_toArray, List.set_cons_zero, List.set_cons_succ]
  refine Stg.wpAnyL_start (n' := 12) (l' := #[true, true, true, false, false, false, false, false, false, false, false, false, false, false, false]) (by kernel_rfl) (by kernel_rfl) ?_
  refine Stg.wpAnyL_free (i := 3) (v := ?_) 0 rfl (by kernel_rfl) (by kernel_rfl) (by kernel_rfl) (by kernel_rfl) (by kernel_rfl) (fun _ _ _ h => h) (Or.inl ⟨by kernel_rfl, ?_⟩) (by assumption) ?_
  rotate_left
  · intro u _
    try simp only [List.getElem_toArray, List.getElem_cons_succ, List.getElem_cons_zero]
    go_simp
    try with_reducible rfl
  try simp only [Act.put, List.setIfInBounds_toArray, List.set_cons_zero, List.set_cons_succ]
  refine Stg.wpAnyL_take (i := 4) (v := ?_) [10, 11, 13, 14] 0 rfl (by kernel_rfl) (by kernel_rfl) (by kernel_rfl) (by kernel_rfl) (by kernel_rfl) (fun _ _ _ h => h) (Or.inl ⟨by kernel_rfl, ?_⟩) (by assumption) ?_
  rotate_left
  · intro u hSu
    obtain ⟨hA1, hb1, hw1, hT1⟩ := hSu
    have y0 := hb1.c 0 _ rfl
    have y1 := hb1.c 1 _ rfl
    have y2 := hb1.c 2 _ rfl
    have y3 := hb1.c 3 _ rfl
    have y4 := hb1.c 4 _ rfl
    have y5 := hb1.c 5 _ rfl
    have y6 := hb1.c 6 _ rfl
    have y7 := hb1.c 7 _ rfl
    have y8 := hb1.c 8 _ rfl
    have y9 := hb1.c 9 _ rfl
    have y10 := hb1.c 10 _ rfl
    have y11 := hb1.c 11 _ rfl
    have y12 := hb1.c 12 _ rfl
    have y13 := hb1.c 13 _ rfl
    have c1 := hA1.c1
    try simp only [List.getElem_toArray, List.getElem_cons_succ, List.getElem_cons_zero]
    go_simp
    try with_reducible rfl
  try simp only [Act.put, List.setIfInBounds_toArray, List.set_cons_zero, List.set_cons_succ]
  refine Stg.wpAnyL_free (i := 5) (v := ?_) 0 rfl (by kernel_rfl) (by kernel_rfl) (by kernel_rfl) (by kernel_rfl) (by kernel_rfl) (fun _ _ _ h => h) (Or.inl ⟨by kernel_rfl, ?_⟩) (by assumption) ?_
  rotate_left
  · intro u _
    try simp only [List.getElem_toArray, List.getElem_cons_succ, List.getElem_cons_zero]
    go_simp
    try with_reducible rfl
  try simp only [Act.put, List.setIfInBounds_toArray, List.set_cons_zero, List.set_cons_succ]
  refine Stg.wpAnyL_start (n' := 9) (l' := #[true, true, true, true, true, true, false, false, false, false, false, false, false, false, false]) (by kernel_rfl) (by kernel_rfl) ?_
  refine Stg.wpAnyL_take (i := 6) (v := ?_) [9, 10, 11, 12, 13, 14] 0 rfl (by kernel_rfl) (by kernel_rfl) (by kernel_rfl) (by kernel_rfl) (by kernel_rfl) (fun _ _ _ h => h) (Or.inl ⟨by kernel_rfl, ?_⟩) (by assumption) ?_
  rotate_left
  · intro u hSu
    obtain ⟨hA1, hb1, hw1, hT1⟩ := hSu
    have y0 := hb1.c 0 _ rfl
    have y1 := hb1.c 1 _ rfl
    have y2 := hb1.c 2 _ rfl
    have y3 := hb1.c 3 _ rfl
    have y4 := hb1.c 4 _ rfl
    have y5 := hb1.c 5 _ rfl
    have y6 := hb1.c 6 _ rfl
    have y7 := hb1.c 7 _ rfl
    have y8 := hb1.c 8 _ rfl
    have y9 := hb1.c 9 _ rfl
    have y10 := hb1.c 10 _ rfl
    have y11 := hb1.c 11 _ rfl
    have y12 := hb1.c 12 _ rfl
    have y13 := hb1.c 13 _ rfl
    have c1 := hA1.c1
    try simp only [List.getElem_toArray, List.getElem_cons_succ, List.getElem_cons_zero]
    go_simp
    try with_reducible rfl
  try simp only [Act.put, List.setIfInBounds_toArray, List.set_cons_zero, List.set_cons_succ]
  refine Stg.wpAnyL_free (i := 7) (v := ?_) 0 rfl (by kernel_rfl) (by kernel_rfl) (by kernel_rfl) (by kernel_rfl) (by kernel_rfl) (fun _ _ _ h => h) (Or.inl ⟨by kernel_rfl, ?_⟩) (by assumption) ?_
  rotate_left
  · intro u _
    try simp only [List.getElem_toArray, List.getElem_cons_succ, List.getElem_cons_zero]
    go_simp
    try with_reducible rfl
  try simp only [Act.put, List.setIfInBounds_toArray, List.set_cons_zero, List.set_cons_succ]
  refine Stg.wpAnyL_take (i := 8) (v := ?_) [9, 10, 11, 12, 13, 14] 0 rfl (by kernel_rfl) (by kernel_rfl) (by kernel_rfl) (by kernel_rfl) (by kernel_rfl) (fun _ _ _ h => h) (Or.inl ⟨by kernel_rfl, ?_⟩) (by assumption) ?_
  rotate_left
  · intro u hSu
    obtain ⟨hA1, hb1, hw1, hT1⟩ := hSu
    have y0 := hb1.c 0 _ rfl
    have y1 := hb1.c 1 _ rfl
    have y2 := hb1.c 2 _ rfl
    have y3 := hb1.c 3 _ rfl
    have y4 := hb1.c 4 _ rfl
    have y5 := hb1.c 5 _ rfl
    have y6 := hb1.c 6 _ rfl
    have y7 := hb1.c 7 _ rfl
    have y8 := hb1.c 8 _ rfl
    have y9 := hb1.c 9 _ rfl
    have y10 := hb1.c 10 _ rfl
    have y11 := hb1.c 11 _ rfl
    have y12 := hb1.c 12 _ rfl
    have y13 := hb1.c 13 _ rfl
    have c1 := hA1.c1
    try simp only [List.getElem_toArray, List.getElem_cons_succ, List.getElem_cons_zero]
    go_simp
    try with_reducible rfl
  try simp only [Act.put, List.setIfInBounds_toArray, List.set_cons_zero, List.set_cons_succ]
  refine Stg.wpAnyL_start (n' := 6) (l' := #[true, true, true, true, true, true, true, true, true, false, false, false, false, false, false]) (by kernel_rfl) (by kernel_rfl) ?_
  refine Stg.wpAnyL_free (i := 9) (v := ?_) 0 rfl (by kernel_rfl) (by kernel_rfl) (by kernel_rfl) (by kernel_rfl) (by kernel_rfl) (fun _ _ _ h => h) (Or.inl ⟨by kernel_rfl, ?_⟩) (by assumption) ?_
  rotate_left
  · intro u _
    try simp only [List.getElem_toArray, List.getElem_cons_succ, List.getElem_cons_zero]
    go_simp
    try with_reducible rfl
  try simp only [Act.put, List.setIfInBounds_toArray, List.set_cons_zero, List.set_cons_succ]
  refine Stg.wpAnyL_take (i := 10) (v := ?_) [11, 13, 14] 0 rfl (by kernel_rfl) (by kernel_rfl) (by kernel_rfl) (by kernel_rfl) (by kernel_rfl) (fun _ _ _ h => h) (Or.inl ⟨by kernel_rfl, ?_⟩) (by assumption) ?_
  rotate_left
  · intro u hSu
    obtain ⟨hA1, hb1, hw1, hT1⟩ := hSu
    have hlk := cuts_look hA1.mp x.f.fr x.f.to hf.out ht.out
    try simp only [List.getElem_toArray, List.getElem_cons_succ, List.getElem_cons_zero]
    go_simp
    try with_reducible rfl
  try simp only [Act.put, List.setIfInBounds_toArray, List.set_cons_zero, List.set_cons_succ]
  refine Stg.wpAnyL_free (i := 11) (v := ?_) 0 rfl (by kernel_rfl) (by kernel_rfl) (by kernel_rfl) (by kernel_rfl) (by kernel_rfl) (fun _ _ _ h => h) (Or.inl ⟨by kernel_rfl, ?_⟩) (by assumption) ?_
  rotate_left
  · intro u _
    try simp only [List.getElem_toArray, List.getElem_cons_succ, List.getElem_cons_zero]
    go_simp
    try with_reducible rfl
  try simp only [Act.put, List.setIfInBounds_toArray, List.set_cons_zero, List.set_cons_succ]
  refine Stg.wpAnyL_start (n' := 3) (l' := #[true, true, true, true, true, true, true, true, true, true, true, true, false, false, false]) (by kernel_rfl) (by kernel_rfl) ?_
  obtain ⟨hA2, hb2, hw2, hT2⟩ := hS0
  refine Stg.wpAnyL_row (i := 12) 0 rfl (by kernel_rfl) (by kernel_rfl) (by kernel_rfl) _ _ _ rfl zb #[.int .i8 x.f.k, .int .i64 x.f.fr, .int .i64 x.f.to, .int .i64 x.f.te, .int .i64 x.f.ix, .int .i64 x.f.la, .int .i64 x.f.co, .bool x.f.ok, .slice r.ea r.en r.ec, .int .i64 x.f.si, .int .i64 x.f.st, .int .u8 x.f.su, .slice r.sa r.sn r.sc, .slice r.da r.dn r.dc] (by kernel_rfl) (by kernel_rfl) _ _ hb2.h (by kernel_rfl) rfl (by simp [Value.oneCell']) ⟨hA2.setRow (Ne.symm hzg) hzm hzq2 _, setRow_hb hb2 _ rfl, hw2.setRow hzw hmz _, hT2.tf (setRow_tf hb2 _)⟩ ?_
  try simp only [Act.put, List.setIfInBounds_toArray, List.set_cons_zero, List.set_cons_succ]
  have hS1 : AirAt m (W5.drew.setRow zb #[.int .i8 x.f.k, .int .i64 x.f.fr, .int .i64 x.f.to, .int .i64 x.f.te, .int .i64 x.f.ix, .int .i64 x.f.la, .int .i64 x.f.co, .bool x.f.ok, .slice r.ea r.en r.ec, .int .i64 x.f.si, .int .i64 x.f.st, .int .u8 x.f.su, .slice r.sa r.sn r.sc, .slice r.da r.dn r.dc]) g base (.slice (some ⟨q, 0, none⟩) (l.length - 1) cap) l5 bm n C ∧ HB (W5.drew.setRow zb #[.int .i8 x.f.k, .int .i64 x.f.fr, .int .i64 x.f.to, .int .i64 x.f.te, .int .i64 x.f.ix, .int .i64 x.f.la, .int .i64 x.f.co, .bool x.f.ok, .slice r.ea r.en r.ec, .int .i64 x.f.si, .int .i64 x.f.st, .int .u8 x.f.su, .slice r.sa r.sn r.sc, .slice r.da r.dn r.dc]) zb #[.int .i8 x.f.k, .int .i64 x.f.fr, .int .i64 x.f.to, .int .i64 x.f.te, .int .i64 x.f.ix, .int .i64 x.f.la, .int .i64 x.f.co, .bool x.f.ok, .slice r.ea r.en r.ec, .int .i64 x.f.si, .int .i64 x.f.st, .int .u8 x.f.su, .slice r.sa r.sn r.sc, .slice r.da r.dn r.dc] ∧ Kpt m g bm (.slice (some ⟨q, 0, none⟩) l.length cap) (.slice (some ⟨q, 0, none⟩) (l.length - 1) cap) w (W5.drew.setRow zb #[.int .i8 x.f.k, .int .i64 x.f.fr, .int .i64 x.f.to, .int .i64 x.f.te, .int .i64 x.f.ix, .int .i64 x.f.la, .int .i64 x.f.co, .bool x.f.ok, .slice r.ea r.en r.ec, .int .i64 x.f.si, .int .i64 x.f.st, .int .u8 x.f.su, .slice r.sa r.sn r.sc, .slice r.da r.dn r.dc]) ∧ TM (W5.drew.setRow zb #[.int .i8 x.f.k, .int .i64 x.f.fr, .int .i64 x.f.to, .int .i64 x.f.te, .int .i64 x.f.ix, .int .i64 x.f.la, .int .i64 x.f.co, .bool x.f.ok, .slice r.ea r.en r.ec, .int .i64 x.f.si, .int .i64 x.f.st, .int .u8 x.f.su, .slice r.sa r.sn r.sc, .slice r.da r.dn r.dc]) r x := ⟨hA2.setRow (Ne.symm hzg) hzm hzq2 _, setRow_hb hb2 _ rfl, hw2.setRow hzw hmz _, hT2.tf (setRow_tf hb2 _)⟩
  clear hHeld hA2 hb2 hw2 hT2
  refine Stg.wpAnyL_free (i := 13) (v := ?_) 0 rfl (by kernel_rfl) (by kernel_rfl) (by kernel_rfl) (by kernel_rfl) (by kernel_rfl) (fun _ _ _ h => h) (Or.inl ⟨by kernel_rfl, ?_⟩) (by assumption) ?_
  rotate_left
  · intro u _
    try simp only [List.getElem_toArray, List.getElem_cons_succ, List.getElem_cons_zero]
    go_simp
    try with_reducible rfl
  try simp only [Act.put, List.setIfInBounds_toArray, List.set_cons_zero, List.set_cons_succ]
  refine Stg.wpAnyL_free (i := 14) (v := ?_) 0 rfl (by kernel_rfl) (by kernel_rfl) (by kernel_rfl) (by kernel_rfl) (by kernel_rfl) (fun _ _ _ h => h) (Or.inl ⟨by kernel_rfl, ?_⟩) (by assumption) ?_
  rotate_left
  · intro u _
    try simp only [List.getElem_toArray, List.getElem_cons_succ, List.getElem_cons_zero]
    go_simp
    try with_reducible rfl
  try simp only [Act.put, List.setIfInBounds_toArray, List.set_cons_zero, List.set_cons_succ]
  refine Stg.wpAnyL_done (by kernel_rfl) ?_ _
  try simp only [List.getElem_toArray, List.getElem_cons_succ, List.getElem_cons_zero]
  try simp only [Act.put, List.setIfInBounds_toArray, List.set_cons_zero, List.set_cons_succ]
  refine NoPanic.normal ?_
  obtain ⟨hA9, hb9, hw9, hT9⟩ := hS1
  generalize W5.drew.setRow zb #[.int .i8 x.f.k, .int .i64 x.f.fr, .int .i64 x.f.to, .int .i64 x.f.te, .int .i64 x.f.ix, .int .i64 x.f.la, .int .i64 x.f.co, .bool x.f.ok, .slice r.ea r.en r.ec, .int .i64 x.f.si, .int .i64 x.f.st, .int .u8 x.f.su, .slice r.sa r.sn r.sc, .slice r.da r.dn r.dc] = W9 at hA9 hb9 hw9 hT9 ⊢
  have y0 := hb9.c 0 _ rfl
  have y1 := hb9.c 1 _ rfl
  have y2 := hb9.c 2 _ rfl
  have y3 := hb9.c 3 _ rfl
  have y4 := hb9.c 4 _ rfl
  have y5 := hb9.c 5 _ rfl
  have y6 := hb9.c 6 _ rfl
  have y7 := hb9.c 7 _ rfl
  have y8 := hb9.c 8 _ rfl
  have y9 := hb9.c 9 _ rfl
  have y10 := hb9.c 10 _ rfl
  have y11 := hb9.c 11 _ rfl
  have y12 := hb9.c 12 _ rfl
  have y13 := hb9.c 13 _ rfl
  go_wp2_with fail
  refine bodyPost_ret (v := .tuple #[.agg #[.int .i8 x.f.k, .int .i64 x.f.fr, .int .i64 x.f.to, .int .i64 x.f.te, .int .i64 x.f.ix, .int .i64 x.f.la, .int .i64 x.f.co, .bool x.f.ok, .slice r.ea r.en r.ec, .int .i64 x.f.si, .int .i64 x.f.st, .int .u8 x.f.su, .slice r.sa r.sn r.sc, .slice r.da r.dn r.dc], .bool (!C x.f.fr x.f.to), .int .i64 0]) (by simp [results, Try.results10, go_sem, y0, y1, y2, y3, y4, y5, y6, y7, y8, y9, y10, y11, y12, y13]) rfl ⟨_, _, rfl, by first | exact hA9 | (rw [hl5.out]; exact hA9), hT9, hw9⟩

set_option maxRecDepth 100000 in
set_option maxHeartbeats 4000000 in
theorem air_deliver_no {s2 : Value} {w : World} {g base : Nat} {lv : Value} {l : List RM} (h : RA 59 s2 w g base lv l) (k : Int) (hk : k < 0 ∨ (l.length : Int) ≤ k) :
    Calls Try.prog 10 #[.pointer (some ⟨g, 0, none⟩), .int .i64 k] w (DelivN w) := by
  have hb0 : Below w.heap.size w (w.alloc (.cells #[.int .i8 0, .int .i64 0, .int .i64 0, .int .i64 0, .int .i64 0, .int .i64 0, .int .i64 0, .bool false, .slice none 0 0, .int .i64 0, .int .i64 0, .int .u8 0, .slice none 0 0, .slice none 0 0] 34)) := (Below.refl _ _).alloc (Nat.le_refl _) _
  have rs := HT.new w #[.int .i8 0, .int .i64 0, .int .i64 0, .int .i64 0, .int .i64 0, .int .i64 0, .int .i64 0, .bool false, .slice none 0 0, .int .i64 0, .int .i64 0, .int .u8 0, .slice none 0 0, .slice none 0 0] 34
  have hlook := alook_no (h.bel hb0) k hk
  clear h hk
  replace rs := Lib.hid rs
  replace hlook := Lib.hid hlook
  replace hb0 := Lib.hid hb0
  go_enter Try.func10, Try.ntmps10
  go_upto_region 1 with fail
  have rs := rs.out
  have hlook := hlook.out
  have hb0 := hb0.out
  generalize (w.alloc (.cells #[.int .i8 0, .int .i64 0, .int .i64 0, .int .i64 0, .int .i64 0, .int .i64 0, .int .i64 0, .bool false, .slice none 0 0, .int .i64 0, .int .i64 0, .int .u8 0, .slice none 0 0, .slice none 0 0] 34)) = W1 at rs hb0 hlook ⊢
  obtain ⟨zb, hzb⟩ : ∃ zb, w.heap.size = zb := ⟨_, rfl⟩
  rw [hzb] at rs ⊢
  replace hzb := Lib.hid hzb
  go_wp2_with fail
  refine hlook.mono ?_
  rintro e w2 ⟨rfl, hb2⟩
  have rs2 := rs.bel hb2
  have hB := bNext hb0 hb2 (Nat.le_refl _)
  have z0 := rs2.c 0 _ rfl
  have z1 := rs2.c 1 _ rfl
  have z2 := rs2.c 2 _ rfl
  have z3 := rs2.c 3 _ rfl
  have z4 := rs2.c 4 _ rfl
  have z5 := rs2.c 5 _ rfl
  have z6 := rs2.c 6 _ rfl
  have z7 := rs2.c 7 _ rfl
  have z8 := rs2.c 8 _ rfl
  have z9 := rs2.c 9 _ rfl
  have z10 := rs2.c 10 _ rfl
  have z11 := rs2.c 11 _ rfl
  have z12 := rs2.c 12 _ rfl
  have z13 := rs2.c 13 _ rfl
  have qf := rs2.f
  clear rs hb0 hb2 hlook
  replace rs2 := Lib.hid rs2
  go_upto_region 2 with fail
  obtain ⟨rs3, tf3, k3⟩ := put14 rs2.out (.int .i8 0) (.int .i64 0) (.int .i64 0) (.int .i64 0) (.int .i64 0) (.int .i64 0) (.int .i64 0) (.bool false) (.slice none 0 0) (.int .i64 0) (.int .i64 0) (.int .u8 0) (.slice none 0 0) (.slice none 0 0)
  have hB3 := k3 _ _ hB (Nat.le_of_eq hzb.out)
  clear rs2 hB z0 z1 z2 z3 z4 z5 z6 z7 z8 z9 z10 z11 z12 z13 qf tf3 k3
  generalize ((((((((((((((w2.setCell ⟨zb, 0, none⟩ (.int .i8 0)).setCell ⟨zb, 1, none⟩ (.int .i64 0)).setCell ⟨zb, 2, none⟩ (.int .i64 0)).setCell ⟨zb, 3, none⟩ (.int .i64 0)).setCell ⟨zb, 4, none⟩ (.int .i64 0)).setCell ⟨zb, 5, none⟩ (.int .i64 0)).setCell ⟨zb, 6, none⟩ (.int .i64 0)).setCell ⟨zb, 7, none⟩ (.bool false)).setCell ⟨zb, 8, none⟩ (.slice none 0 0)).setCell ⟨zb, 9, none⟩ (.int .i64 0)).setCell ⟨zb, 10, none⟩ (.int .i64 0)).setCell ⟨zb, 11, none⟩ (.int .u8 0)).setCell ⟨zb, 12, none⟩ (.slice none 0 0)).setCell ⟨zb, 13, none⟩ (.slice none 0 0)) = W3 at rs3 hB3 ⊢
  have z0 := rs3.c 0 _ rfl
  have z1 := rs3.c 1 _ rfl
  have z2 := rs3.c 2 _ rfl
  have z3 := rs3.c 3 _ rfl
  have z4 := rs3.c 4 _ rfl
  have z5 := rs3.c 5 _ rfl
  have z6 := rs3.c 6 _ rfl
  have z7 := rs3.c 7 _ rfl
  have z8 := rs3.c 8 _ rfl
  have z9 := rs3.c 9 _ rfl
  have z10 := rs3.c 10 _ rfl
  have z11 := rs3.c 11 _ rfl
  have z12 := rs3.c 12 _ rfl
  have z13 := rs3.c 13 _ rfl
  have qf := rs3.f
  obtain ⟨rs4, tf4, k4⟩ := put14 rs3 (.int .i8 0) (.int .i64 0) (.int .i64 0) (.int .i64 0) (.int .i64 0) (.int .i64 0) (.int .i64 0) (.bool false) (.slice none 0 0) (.int .i64 0) (.int .i64 0) (.int .u8 0) (.slice none 0 0) (.slice none 0 0)
  have hB4 := Lib.hid (k4 _ _ hB3 (Nat.le_of_eq hzb.out))
  have s0 := Lib.hid (rs4.c 0 _ rfl)
  have s1 := Lib.hid (rs4.c 1 _ rfl)
  have s2 := Lib.hid (rs4.c 2 _ rfl)
  have s3 := Lib.hid (rs4.c 3 _ rfl)
  have s4 := Lib.hid (rs4.c 4 _ rfl)
  have s5 := Lib.hid (rs4.c 5 _ rfl)
  have s6 := Lib.hid (rs4.c 6 _ rfl)
  have s7 := Lib.hid (rs4.c 7 _ rfl)
  have s8 := Lib.hid (rs4.c 8 _ rfl)
  have s9 := Lib.hid (rs4.c 9 _ rfl)
  have s10 := Lib.hid (rs4.c 10 _ rfl)
  have s11 := Lib.hid (rs4.c 11 _ rfl)
  have s12 := Lib.hid (rs4.c 12 _ rfl)
  have s13 := Lib.hid (rs4.c 13 _ rfl)
  clear rs3 rs4 hB3 tf4 k4
  go_wp2_with fail
  refine bodyPost_ret (v := .tuple #[.agg #[.int .i8 0, .int .i64 0, .int .i64 0, .int .i64 0, .int .i64 0, .int .i64 0, .int .i64 0, .bool false, .slice none 0 0, .int .i64 0, .int .i64 0, .int .u8 0, .slice none 0 0, .slice none 0 0], .bool false, .int .i64 4]) (by simp [results, Try.results10, go_sem, s0.out, s1.out, s2.out, s3.out, s4.out, s5.out, s6.out, s7.out, s8.out, s9.out, s10.out, s11.out, s12.out, s13.out]) rfl ⟨rfl, hB4.out⟩

namespace Ar
def LoseP (lv0 : Value) (m g base : Nat) (l : List RM) (bm n : Nat) (C : Int → Int → Bool) (w : World) (e : Ending) (w' : World) : Prop :=
  ∃ lv, e = .returned (.int .i64 0) ∧ AirAt m w' g base lv l bm n C ∧ Kpt m g bm lv0 lv w w'
theorem Kpt.post {m g bm : Nat} {lv lv' : Value} {w w' w2 : World} (k : Kpt m g bm lv lv' w w') (h : Below w'.heap.size w' w2) (hm : m ≤ w'.heap.size) : Kpt m g bm lv lv' w w2 :=
  ⟨k.bel.trans (h.mono hm), fun b hb h1 h2 h3 => (h.block b (Nat.lt_of_lt_of_le hb k.fx.size)).trans (k.blk b hb h1 h2 h3), k.row⟩
end Ar
set_option maxRecDepth 100000 in
set_option maxHeartbeats 4000000 in
theorem air_lose (k : Nat) {m : Nat} {w : World} {g base : Nat} {lv : Value} {l : List RM} {bm n : Nat} {C : Int → Int → Bool} (h : AirAt m w g base lv l bm n C) (x : Mg) (hk : k < l.length) (hx : TM w (l.getD k rm0) x) (hm : Sm x) (hn : l.length ≤ 1024) (hf : (Lit.int .i64 x.f.fr).wf = true) (ht : (Lit.int .i64 x.f.to).wf = true) :
    Calls Try.prog 16 #[.pointer (some ⟨g, 0, none⟩), .int .i64 (k : Nat)] w (LoseP lv m g base (l.eraseIdx k) bm n C w) := by
  have hd := Lib.hid (air_deliver k h x hk hx hm hn hf ht)
  clear h hx hm hf ht hk hn
  go_enter Try.func16, Try.ntmps16
  go_wp2_with fail
  refine hd.out.mono ?_
  rintro e w2 ⟨lv2, r, rfl, hA, hT, hK⟩
  have hal := (Below.refl w2.heap.size w2).alloc (Nat.le_refl _) (.cells #[.int .i8 x.f.k, .int .i64 x.f.fr, .int .i64 x.f.to, .int .i64 x.f.te, .int .i64 x.f.ix, .int .i64 x.f.la, .int .i64 x.f.co, .bool x.f.ok, .slice r.ea r.en r.ec, .int .i64 x.f.si, .int .i64 x.f.st, .int .u8 x.f.su, .slice r.sa r.sn r.sc, .slice r.da r.dn r.dc] 34)
  have hA2 := Lib.hid (hA.bel hal)
  have hK2 := Lib.hid (hK.post hal hA.below)
  clear hA hK hal hT hd
  go_wp2_with fail
  go_ret
  exact ⟨_, rfl, hA2.out, hK2.out⟩

set_option maxRecDepth 100000 in
set_option maxHeartbeats 4000000 in
theorem air_lose_no {s2 : Value} {w : World} {g base : Nat} {lv : Value} {l : List RM} (h : RA 59 s2 w g base lv l) (k : Int) (hk : k < 0 ∨ (l.length : Int) ≤ k) :
    Calls Try.prog 16 #[.pointer (some ⟨g, 0, none⟩), .int .i64 k] w (SendN 4 w) := by
  have hd := Lib.hid (air_deliver_no h k hk)
  clear h hk
  go_enter Try.func16, Try.ntmps16
  go_wp2_with fail
  refine hd.out.mono ?_
  rintro e w2 ⟨rfl, hb⟩
  have hal := Lib.hid (bNext hb ((Below.refl w2.heap.size w2).alloc (Nat.le_refl _) (.cells #[.int .i8 0, .int .i64 0, .int .i64 0, .int .i64 0, .int .i64 0, .int .i64 0, .int .i64 0, .bool false, .slice none 0 0, .int .i64 0, .int .i64 0, .int .u8 0, .slice none 0 0, .slice none 0 0] 34)) (Nat.le_refl _))
  clear hb hd
  go_wp2_with fail
  go_ret
  exact ⟨rfl, hal.out⟩

end Go.Proofs.Ytnokojobiaddmaa
