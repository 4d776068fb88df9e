/- The air: Deliver. -/
import Derived.Test.YtnokojobiaddmaaA7
namespace Go.Proofs.Ytnokojobiaddmaa
open Go.ChangeShapes Go.WideShapes Go.ChangeAt Go.RowKit Go.Maps
set_option linter.unusedVariables false
set_option linter.unusedSimpArgs false
open BigFrame Bs Ar

set_option maxRecDepth 100000 in
set_option maxHeartbeats 4000000 in
theorem air_deliver (k : Nat) {m : Nat} {w : World} {g base : Nat} {lv : Value} {l : List FM} {bm n : Nat} {C : Int → Int → Bool} (h : AirAt m w g base lv l bm n C) (x : FM) (hk : k < l.length) (hx : l.getD k fm0 = x) (hn : l.length ≤ 1024) (hf : (Lit.int .i64 x.fr).wf = true) (ht : (Lit.int .i64 x.to).wf = true) :
    Calls Try.prog 10 #[.pointer (some ⟨g, 0, none⟩), .int .i64 (k : Nat)] w (DelivP lv m g base (l.eraseIdx k) bm n C x w) := by
  have hb0 : Below w.heap.size w (w.alloc (.cells #[.int .i8 0, .int .i64 0, .int .i64 0, .int .i64 0, .int .i64 0, .int .i64 0, .int .i64 0, .bool false, .slice none 0 0, .int .i64 0, .int .i64 0, .int .u8 0, .slice none 0 0, .slice none 0 0] 34)) := (Below.refl _ _).alloc (Nat.le_refl _) _
  have rs : HB (w.alloc (.cells #[.int .i8 0, .int .i64 0, .int .i64 0, .int .i64 0, .int .i64 0, .int .i64 0, .int .i64 0, .bool false, .slice none 0 0, .int .i64 0, .int .i64 0, .int .u8 0, .slice none 0 0, .slice none 0 0] 34)) w.heap.size #[.int .i8 0, .int .i64 0, .int .i64 0, .int .i64 0, .int .i64 0, .int .i64 0, .int .i64 0, .bool false, .slice none 0 0, .int .i64 0, .int .i64 0, .int .u8 0, .slice none 0 0, .slice none 0 0] := HB.new w _
  have hlook := air_look k (h.bel hb0) x hk hx hn
  have hmw := h.below
  have hsz := hb0.size
  obtain ⟨q, cap, rfl, _⟩ := h.own.form (by omega)
  have hg0 := h.lt
  have hg1 := h.bmlt
  have hki : (k : Int) ≤ 1024 := by omega
  have hki0 : (0 : Int) ≤ (k : Int) := by omega
  replace h := Lib.hid h
  replace hx := Lib.hid hx
  replace hk := Lib.hid hk
  replace hn := Lib.hid hn
  replace hf := Lib.hid hf
  replace ht := Lib.hid ht
  go_enter Try.func10, Try.ntmps10
  go_upto_region 1 with fail
  replace rs : HB (w.alloc (.cells #[.int .i8 0, .int .i64 0, .int .i64 0, .int .i64 0, .int .i64 0, .int .i64 0, .int .i64 0, .bool false, .slice none 0 0, .int .i64 0, .int .i64 0, .int .u8 0, .slice none 0 0, .slice none 0 0] 34)) w.heap.size #[.int .i8 0, .int .i64 0, .int .i64 0, .int .i64 0, .int .i64 0, .int .i64 0, .int .i64 0, .bool false, .slice none 0 0, .int .i64 0, .int .i64 0, .int .u8 0, .slice none 0 0, .slice none 0 0] := rs
  generalize (w.alloc (.cells #[.int .i8 0, .int .i64 0, .int .i64 0, .int .i64 0, .int .i64 0, .int .i64 0, .int .i64 0, .bool false, .slice none 0 0, .int .i64 0, .int .i64 0, .int .u8 0, .slice none 0 0, .slice none 0 0] 34)) = W1 at rs hb0 hlook ⊢
  obtain ⟨zb, hzb⟩ : ∃ zb, w.heap.size = zb := ⟨_, rfl⟩
  rw [hzb] at rs ⊢
  replace hzb := Lib.hid hzb
  go_wp2_with fail
  refine hlook.mono ?_
  rintro e w2 ⟨rfl, hb2⟩
  have rs2 := rs.bel hb2
  have hB := bNext hb0 hb2 (Nat.le_refl _)
  have z0 := rs2.c 0 _ rfl
  have z1 := rs2.c 1 _ rfl
  have z2 := rs2.c 2 _ rfl
  have z3 := rs2.c 3 _ rfl
  have z4 := rs2.c 4 _ rfl
  have z5 := rs2.c 5 _ rfl
  have z6 := rs2.c 6 _ rfl
  have z7 := rs2.c 7 _ rfl
  have z8 := rs2.c 8 _ rfl
  have z9 := rs2.c 9 _ rfl
  have z10 := rs2.c 10 _ rfl
  have z11 := rs2.c 11 _ rfl
  have z12 := rs2.c 12 _ rfl
  have z13 := rs2.c 13 _ rfl
  have q0 := rs2.f 0
  have q1 := rs2.f 1
  have q2 := rs2.f 2
  have q3 := rs2.f 3
  have q4 := rs2.f 4
  have q5 := rs2.f 5
  have q6 := rs2.f 6
  have q7 := rs2.f 7
  have q8 := rs2.f 8
  have q9 := rs2.f 9
  have q10 := rs2.f 10
  have q11 := rs2.f 11
  have q12 := rs2.f 12
  have q13 := rs2.f 13
  clear rs hb0 hb2 hlook hsz
  replace rs2 := Lib.hid rs2
  go_upto_region 2 with fail
  have rs3 := rs2.out.put (.int .i8 x.k) (.int .i64 x.fr) (.int .i64 x.to) (.int .i64 x.te) (.int .i64 x.ix) (.int .i64 x.la) (.int .i64 x.co) (.bool x.ok) (.slice none 0 0) (.int .i64 x.si) (.int .i64 x.st) (.int .u8 x.su) (.slice none 0 0) (.slice none 0 0)
  have hB3 := below_put hB (Nat.le_of_eq hzb.out) (.int .i8 x.k) (.int .i64 x.fr) (.int .i64 x.to) (.int .i64 x.te) (.int .i64 x.ix) (.int .i64 x.la) (.int .i64 x.co) (.bool x.ok) (.slice none 0 0) (.int .i64 x.si) (.int .i64 x.st) (.int .u8 x.su) (.slice none 0 0) (.slice none 0 0)
  clear rs2 hB z0 z1 z2 z3 z4 z5 z6 z7 z8 z9 z10 z11 z12 z13 q0 q1 q2 q3 q4 q5 q6 q7 q8 q9 q10 q11 q12 q13
  generalize ((((((((((((((w2.setCell ⟨zb, 0, none⟩ (.int .i8 x.k)).setCell ⟨zb, 1, none⟩ (.int .i64 x.fr)).setCell ⟨zb, 2, none⟩ (.int .i64 x.to)).setCell ⟨zb, 3, none⟩ (.int .i64 x.te)).setCell ⟨zb, 4, none⟩ (.int .i64 x.ix)).setCell ⟨zb, 5, none⟩ (.int .i64 x.la)).setCell ⟨zb, 6, none⟩ (.int .i64 x.co)).setCell ⟨zb, 7, none⟩ (.bool x.ok)).setCell ⟨zb, 8, none⟩ (.slice none 0 0)).setCell ⟨zb, 9, none⟩ (.int .i64 x.si)).setCell ⟨zb, 10, none⟩ (.int .i64 x.st)).setCell ⟨zb, 11, none⟩ (.int .u8 x.su)).setCell ⟨zb, 12, none⟩ (.slice none 0 0)).setCell ⟨zb, 13, none⟩ (.slice none 0 0)) = W3 at rs3 hB3 ⊢
  have h3 := h.out.bel hB3
  have c0 := h3.c0
  have hd := delete_one l q cap k W3 h3.own hk.out hn.out
  replace h3 := Lib.hid h3
  replace hB3 := Lib.hid hB3
  go_wp2_with fail
  refine hd.mono ?_
  rintro e w4 ⟨rfl, hown4, hg4⟩
  obtain ⟨⟨z0, z1⟩, h5, hb5⟩ := h3.out.del hk.out hg4 hown4
  have hzq : zb ≠ q := fun e => by have := (h.out.own.lt q rfl).2; have := hzb.out; omega
  have hzg : zb ≠ g := fun e => by have := hzb.out; omega
  have rs4 : HB w4 zb #[.int .i8 x.k, .int .i64 x.fr, .int .i64 x.to, .int .i64 x.te, .int .i64 x.ix, .int .i64 x.la, .int .i64 x.co, .bool x.ok, .slice none 0 0, .int .i64 x.si, .int .i64 x.st, .int .u8 x.su, .slice none 0 0, .slice none 0 0] := ⟨(hg4.block zb rs3.lt (fun e => hzq (by simpa using e))).trans rs3.h⟩
  have rs5 := rs4.other (q := g) (o := 0) hzg (.slice (some ⟨q, 0, none⟩) (l.length - 1) cap)
  have hBm : Kpt m g bm (.slice (some ⟨q, 0, none⟩) l.length cap) (.slice (some ⟨q, 0, none⟩) (l.length - 1) cap) w (w4.setCell ⟨g, 0, none⟩ (.slice (some ⟨q, 0, none⟩) (l.length - 1) cap)) := hb5.pre hB3.out hmw
  clear hd c0 rs3 rs4 hown4 hg4 hb5
  replace rs5 := Lib.hid rs5
  replace h5 := Lib.hid h5
  replace hBm := Lib.hid hBm
  go_upto_region 5 with fail
  replace rs5 := rs5.out
  replace h5 := h5.out
  replace hBm := hBm.out
  clear z0 z1
  generalize (w4.setCell ⟨g, 0, none⟩ (.slice (some ⟨q, 0, none⟩) (l.length - 1) cap)) = W5 at rs5 h5 hBm ⊢
  have hzm : bm ≠ zb := fun e => by have := hzb.out; omega
  have hzq2 : (Value.slice (some ⟨q, 0, none⟩) (l.length - 1) cap).ownBlock ≠ some zb := fun e => hzq (by simpa [Value.ownBlock] using e.symm)
  have hmz : m ≤ zb := by have := hzb.out; omega
  have hzw : w.heap.size ≤ zb := Nat.le_of_eq hzb.out
  obtain ⟨l5, hl5⟩ : ∃ l5, l.eraseIdx k = l5 := ⟨_, rfl⟩
  rw [hl5] at h5 ⊢
  clear h3 hB3
  replace hl5 := Lib.hid hl5
  have hS0 : AirAt m W5.drew g base (.slice (some ⟨q, 0, none⟩) (l.length - 1) cap) l5 bm n C ∧ HB W5.drew zb #[.int .i8 x.k, .int .i64 x.fr, .int .i64 x.to, .int .i64 x.te, .int .i64 x.ix, .int .i64 x.la, .int .i64 x.co, .bool x.ok, .slice none 0 0, .int .i64 x.si, .int .i64 x.st, .int .u8 x.su, .slice none 0 0, .slice none 0 0] ∧ Kpt m g bm (.slice (some ⟨q, 0, none⟩) l.length cap) (.slice (some ⟨q, 0, none⟩) (l.length - 1) cap) w W5.drew := ⟨h5.bel (Below.refl W5.heap.size W5).drew, rs5.bel (Below.refl W5.heap.size W5).drew, hBm.drew⟩
  clear rs5 h5 hBm
  refine wp_region_noPanic ?_
  refine Stg.wp_region_L [] (fun _ u => AirAt m u g base (.slice (some ⟨q, 0, none⟩) (l.length - 1) cap) l5 bm n C ∧ HB u zb #[.int .i8 x.k, .int .i64 x.fr, .int .i64 x.to, .int .i64 x.te, .int .i64 x.ix, .int .i64 x.la, .int .i64 x.co, .bool x.ok, .slice none 0 0, .int .i64 x.si, .int .i64 x.st, .int .u8 x.su, .slice none 0 0, .slice none 0 0] ∧ Kpt m g bm (.slice (some ⟨q, 0, none⟩) l.length cap) (.slice (some ⟨q, 0, none⟩) (l.length - 1) cap) w u) (by kernel_rfl) (hS0) (fun hHeld => ?_)
  refine Stg.wpAnyL_start (n' := 15) (l' := #[false, false, false, false, false, false, false, false, false, false, false, false, false, false, false]) (by kernel_rfl) (by kernel_rfl) ?_
  refine Stg.wpAnyL_take (i := 0) (v := ?_) [12, 13, 14] 0 rfl (by kernel_rfl) (by kernel_rfl) (by kernel_rfl) (by kernel_rfl) (by kernel_rfl) (fun _ _ _ h => h) (Or.inl ⟨by kernel_rfl, ?_⟩) (by assumption) ?_
  rotate_left
  · intro u hSu
    obtain ⟨hA1, hb1, hw1⟩ := hSu
    have y0 := hb1.c 0 _ rfl
    have y1 := hb1.c 1 _ rfl
    have y2 := hb1.c 2 _ rfl
    have y3 := hb1.c 3 _ rfl
    have y4 := hb1.c 4 _ rfl
    have y5 := hb1.c 5 _ rfl
    have y6 := hb1.c 6 _ rfl
    have y7 := hb1.c 7 _ rfl
    have y8 := hb1.c 8 _ rfl
    have y9 := hb1.c 9 _ rfl
    have y10 := hb1.c 10 _ rfl
    have y11 := hb1.c 11 _ rfl
    have y12 := hb1.c 12 _ rfl
    have y13 := hb1.c 13 _ rfl
    have c1 := hA1.c1
    try simp only [List.getElem_toArray, List.getElem_cons_succ, List.getElem_cons_zero]
    go_simp
    try with_reducible rfl
  try simp only [Act.put, List.setIfInBounds_toArray, List.set_cons_zero, List.set_cons_succ]
  refine Stg.wpAnyL_free (i := 1) (v := ?_) 0 rfl (by kernel_rfl) (by kernel_rfl) (by kernel_rfl) (by kernel_rfl) (by kernel_rfl) (fun _ _ _ h => h) (Or.inl ⟨by kernel_rfl, ?_⟩) (by assumption) ?_
  rotate_left
  · intro u _
    try simp only [List.getElem_toArray, List.getElem_cons_succ, List.getElem_cons_zero]
    go_simp
    try with_reducible rfl
  try simp only [Act.put, List.setIfInBounds_toArray, List.set_cons_zero, List.set_cons_succ]
  refine Stg.wpAnyL_free (i := 2) (v := ?_) 0 rfl (by kernel_rfl) (by kernel_rfl) (by kernel_rfl) (by kernel_rfl) (by kernel_rfl) (fun _ _ _ h => h) (Or.inl ⟨by kernel_rfl, ?_⟩) (by assumption) ?_
  rotate_left
  · intro u _
    try simp only [List.getElem_toArray, List.getElem_cons_succ, List.getElem_cons_zero]
    go_simp
    try with_reducible rfl
  try simp only [Act.put, List.setIfInBounds_toArray, List.set_cons_zero, List.set_cons_succ]
  refine Stg.wpAnyL_start (n' := 12) (l' := #[true, true, true, false, false, false, false, false, false, false, false, false, false, false, false]) (by kernel_rfl) (by kernel_rfl) ?_
  refine Stg.wpAnyL_free (i := 3) (v := ?_) 0 rfl (by kernel_rfl) (by kernel_rfl) (by kernel_rfl) (by kernel_rfl) (by kernel_rfl) (fun _ _ _ h => h) (Or.inl ⟨by kernel_rfl, ?_⟩) (by assumption) ?_
  rotate_left
  · intro u _
    try simp only [List.getElem_toArray, List.getElem_cons_succ, List.getElem_cons_zero]
    go_simp
    try with_reducible rfl
  try simp only [Act.put, List.setIfInBounds_toArray, List.set_cons_zero, List.set_cons_succ]
  refine Stg.wpAnyL_take (i := 4) (v := ?_) [10, 11, 13, 14] 0 rfl (by kernel_rfl) (by kernel_rfl) (by kernel_rfl) (by kernel_rfl) (by kernel_rfl) (fun _ _ _ h => h) (Or.inl ⟨by kernel_rfl, ?_⟩) (by assumption) ?_
  rotate_left
  · intro u hSu
    obtain ⟨hA1, hb1, hw1⟩ := hSu
    have y0 := hb1.c 0 _ rfl
    have y1 := hb1.c 1 _ rfl
    have y2 := hb1.c 2 _ rfl
    have y3 := hb1.c 3 _ rfl
    have y4 := hb1.c 4 _ rfl
    have y5 := hb1.c 5 _ rfl
    have y6 := hb1.c 6 _ rfl
    have y7 := hb1.c 7 _ rfl
    have y8 := hb1.c 8 _ rfl
    have y9 := hb1.c 9 _ rfl
    have y10 := hb1.c 10 _ rfl
    have y11 := hb1.c 11 _ rfl
    have y12 := hb1.c 12 _ rfl
    have y13 := hb1.c 13 _ rfl
    have c1 := hA1.c1
    try simp only [List.getElem_toArray, List.getElem_cons_succ, List.getElem_cons_zero]
    go_simp
    try with_reducible rfl
  try simp only [Act.put, List.setIfInBounds_toArray, List.set_cons_zero, List.set_cons_succ]
  refine Stg.wpAnyL_free (i := 5) (v := ?_) 0 rfl (by kernel_rfl) (by kernel_rfl) (by kernel_rfl) (by kernel_rfl) (by kernel_rfl) (fun _ _ _ h => h) (Or.inl ⟨by kernel_rfl, ?_⟩) (by assumption) ?_
  rotate_left
  · intro u _
    try simp only [List.getElem_toArray, List.getElem_cons_succ, List.getElem_cons_zero]
    go_simp
    try with_reducible rfl
  try simp only [Act.put, List.setIfInBounds_toArray, List.set_cons_zero, List.set_cons_succ]
  refine Stg.wpAnyL_start (n' := 9) (l' := #[true, true, true, true, true, true, false, false, false, false, false, false, false, false, false]) (by kernel_rfl) (by kernel_rfl) ?_
  refine Stg.wpAnyL_take (i := 6) (v := ?_) [9, 10, 11, 12, 13, 14] 0 rfl (by kernel_rfl) (by kernel_rfl) (by kernel_rfl) (by kernel_rfl) (by kernel_rfl) (fun _ _ _ h => h) (Or.inl ⟨by kernel_rfl, ?_⟩) (by assumption) ?_
  rotate_left
  · intro u hSu
    obtain ⟨hA1, hb1, hw1⟩ := hSu
    have y0 := hb1.c 0 _ rfl
    have y1 := hb1.c 1 _ rfl
    have y2 := hb1.c 2 _ rfl
    have y3 := hb1.c 3 _ rfl
    have y4 := hb1.c 4 _ rfl
    have y5 := hb1.c 5 _ rfl
    have y6 := hb1.c 6 _ rfl
    have y7 := hb1.c 7 _ rfl
    have y8 := hb1.c 8 _ rfl
    have y9 := hb1.c 9 _ rfl
    have y10 := hb1.c 10 _ rfl
    have y11 := hb1.c 11 _ rfl
    have y12 := hb1.c 12 _ rfl
    have y13 := hb1.c 13 _ rfl
    have c1 := hA1.c1
    try simp only [List.getElem_toArray, List.getElem_cons_succ, List.getElem_cons_zero]
    go_simp
    try with_reducible rfl
  try simp only [Act.put, List.setIfInBounds_toArray, List.set_cons_zero, List.set_cons_succ]
  refine Stg.wpAnyL_free (i := 7) (v := ?_) 0 rfl (by kernel_rfl) (by kernel_rfl) (by kernel_rfl) (by kernel_rfl) (by kernel_rfl) (fun _ _ _ h => h) (Or.inl ⟨by kernel_rfl, ?_⟩) (by assumption) ?_
  rotate_left
  · intro u _
    try simp only [List.getElem_toArray, List.getElem_cons_succ, List.getElem_cons_zero]
    go_simp
    try with_reducible rfl
  try simp only [Act.put, List.setIfInBounds_toArray, List.set_cons_zero, List.set_cons_succ]
  refine Stg.wpAnyL_take (i := 8) (v := ?_) [9, 10, 11, 12, 13, 14] 0 rfl (by kernel_rfl) (by kernel_rfl) (by kernel_rfl) (by kernel_rfl) (by kernel_rfl) (fun _ _ _ h => h) (Or.inl ⟨by kernel_rfl, ?_⟩) (by assumption) ?_
  rotate_left
  · intro u hSu
    obtain ⟨hA1, hb1, hw1⟩ := hSu
    have y0 := hb1.c 0 _ rfl
    have y1 := hb1.c 1 _ rfl
    have y2 := hb1.c 2 _ rfl
    have y3 := hb1.c 3 _ rfl
    have y4 := hb1.c 4 _ rfl
    have y5 := hb1.c 5 _ rfl
    have y6 := hb1.c 6 _ rfl
    have y7 := hb1.c 7 _ rfl
    have y8 := hb1.c 8 _ rfl
    have y9 := hb1.c 9 _ rfl
    have y10 := hb1.c 10 _ rfl
    have y11 := hb1.c 11 _ rfl
    have y12 := hb1.c 12 _ rfl
    have y13 := hb1.c 13 _ rfl
    have c1 := hA1.c1
    try simp only [List.getElem_toArray, List.getElem_cons_succ, List.getElem_cons_zero]
    go_simp
    try with_reducible rfl
  try simp only [Act.put, List.setIfInBounds_toArray, List.set_cons_zero, List.set_cons_succ]
  refine Stg.wpAnyL_start (n' := 6) (l' := #[true, true, true, true, true, true, true, true, true, false, false, false, false, false, false]) (by kernel_rfl) (by kernel_rfl) ?_
  refine Stg.wpAnyL_free (i := 9) (v := ?_) 0 rfl (by kernel_rfl) (by kernel_rfl) (by kernel_rfl) (by kernel_rfl) (by kernel_rfl) (fun _ _ _ h => h) (Or.inl ⟨by kernel_rfl, ?_⟩) (by assumption) ?_
  rotate_left
  · intro u _
    try simp only [List.getElem_toArray, List.getElem_cons_succ, List.getElem_cons_zero]
    go_simp
    try with_reducible rfl
  try simp only [Act.put, List.setIfInBounds_toArray, List.set_cons_zero, List.set_cons_succ]
  refine Stg.wpAnyL_take (i := 10) (v := ?_) [11, 13, 14] 0 rfl (by kernel_rfl) (by kernel_rfl) (by kernel_rfl) (by kernel_rfl) (by kernel_rfl) (fun _ _ _ h => h) (Or.inl ⟨by kernel_rfl, ?_⟩) (by assumption) ?_
  rotate_left
  · intro u hSu
    obtain ⟨hA1, hb1, hw1⟩ := hSu
    have hlk := cuts_look hA1.mp x.fr x.to hf.out ht.out
    try simp only [List.getElem_toArray, List.getElem_cons_succ, List.getElem_cons_zero]
    go_simp
    try with_reducible rfl
  try simp only [Act.put, List.setIfInBounds_toArray, List.set_cons_zero, List.set_cons_succ]
  refine Stg.wpAnyL_free (i := 11) (v := ?_) 0 rfl (by kernel_rfl) (by kernel_rfl) (by kernel_rfl) (by kernel_rfl) (by kernel_rfl) (fun _ _ _ h => h) (Or.inl ⟨by kernel_rfl, ?_⟩) (by assumption) ?_
  rotate_left
  · intro u _
    try simp only [List.getElem_toArray, List.getElem_cons_succ, List.getElem_cons_zero]
    go_simp
    try with_reducible rfl
  try simp only [Act.put, List.setIfInBounds_toArray, List.set_cons_zero, List.set_cons_succ]
  refine Stg.wpAnyL_start (n' := 3) (l' := #[true, true, true, true, true, true, true, true, true, true, true, true, false, false, false]) (by kernel_rfl) (by kernel_rfl) ?_
  obtain ⟨hA2, hb2, hw2⟩ := hS0
  refine Stg.wpAnyL_row (i := 12) 0 rfl (by kernel_rfl) (by kernel_rfl) (by kernel_rfl) _ _ _ rfl zb #[.int .i8 x.k, .int .i64 x.fr, .int .i64 x.to, .int .i64 x.te, .int .i64 x.ix, .int .i64 x.la, .int .i64 x.co, .bool x.ok, .slice none 0 0, .int .i64 x.si, .int .i64 x.st, .int .u8 x.su, .slice none 0 0, .slice none 0 0] (by kernel_rfl) (by kernel_rfl) _ _ hb2.h (by kernel_rfl) rfl (by simp [Value.oneCell']) ⟨hA2.setRow (Ne.symm hzg) hzm hzq2 _, setRow_hb hb2 _ rfl, hw2.setRow hzw hmz _⟩ ?_
  try simp only [Act.put, List.setIfInBounds_toArray, List.set_cons_zero, List.set_cons_succ]
  have hS1 : AirAt m (W5.drew.setRow zb #[.int .i8 x.k, .int .i64 x.fr, .int .i64 x.to, .int .i64 x.te, .int .i64 x.ix, .int .i64 x.la, .int .i64 x.co, .bool x.ok, .slice none 0 0, .int .i64 x.si, .int .i64 x.st, .int .u8 x.su, .slice none 0 0, .slice none 0 0]) g base (.slice (some ⟨q, 0, none⟩) (l.length - 1) cap) l5 bm n C ∧ HB (W5.drew.setRow zb #[.int .i8 x.k, .int .i64 x.fr, .int .i64 x.to, .int .i64 x.te, .int .i64 x.ix, .int .i64 x.la, .int .i64 x.co, .bool x.ok, .slice none 0 0, .int .i64 x.si, .int .i64 x.st, .int .u8 x.su, .slice none 0 0, .slice none 0 0]) zb #[.int .i8 x.k, .int .i64 x.fr, .int .i64 x.to, .int .i64 x.te, .int .i64 x.ix, .int .i64 x.la, .int .i64 x.co, .bool x.ok, .slice none 0 0, .int .i64 x.si, .int .i64 x.st, .int .u8 x.su, .slice none 0 0, .slice none 0 0] ∧ Kpt m g bm (.slice (some ⟨q, 0, none⟩) l.length cap) (.slice (some ⟨q, 0, none⟩) (l.length - 1) cap) w (W5.drew.setRow zb #[.int .i8 x.k, .int .i64 x.fr, .int .i64 x.to, .int .i64 x.te, .int .i64 x.ix, .int .i64 x.la, .int .i64 x.co, .bool x.ok, .slice none 0 0, .int .i64 x.si, .int .i64 x.st, .int .u8 x.su, .slice none 0 0, .slice none 0 0]) := ⟨hA2.setRow (Ne.symm hzg) hzm hzq2 _, setRow_hb hb2 _ rfl, hw2.setRow hzw hmz _⟩
  clear hHeld hA2 hb2 hw2
  refine Stg.wpAnyL_free (i := 13) (v := ?_) 0 rfl (by kernel_rfl) (by kernel_rfl) (by kernel_rfl) (by kernel_rfl) (by kernel_rfl) (fun _ _ _ h => h) (Or.inl ⟨by kernel_rfl, ?_⟩) (by assumption) ?_
  rotate_left
  · intro u _
    try simp only [List.getElem_toArray, List.getElem_cons_succ, List.getElem_cons_zero]
    go_simp
    try with_reducible rfl
  try simp only [Act.put, List.setIfInBounds_toArray, List.set_cons_zero, List.set_cons_succ]
  refine Stg.wpAnyL_free (i := 14) (v := ?_) 0 rfl (by kernel_rfl) (by kernel_rfl) (by kernel_rfl) (by kernel_rfl) (by kernel_rfl) (fun _ _ _ h => h) (Or.inl ⟨by kernel_rfl, ?_⟩) (by assumption) ?_
  rotate_left
  · intro u _
    try simp only [List.getElem_toArray, List.getElem_cons_succ, List.getElem_cons_zero]
    go_simp
    try with_reducible rfl
  try simp only [Act.put, List.setIfInBounds_toArray, List.set_cons_zero, List.set_cons_succ]
  refine Stg.wpAnyL_done (by kernel_rfl) ?_ _
  try simp only [List.getElem_toArray, List.getElem_cons_succ, List.getElem_cons_zero]
  try simp only [Act.put, List.setIfInBounds_toArray, List.set_cons_zero, List.set_cons_succ]
  refine NoPanic.normal ?_
  obtain ⟨hA9, hb9, hw9⟩ := hS1
  generalize W5.drew.setRow zb #[.int .i8 x.k, .int .i64 x.fr, .int .i64 x.to, .int .i64 x.te, .int .i64 x.ix, .int .i64 x.la, .int .i64 x.co, .bool x.ok, .slice none 0 0, .int .i64 x.si, .int .i64 x.st, .int .u8 x.su, .slice none 0 0, .slice none 0 0] = W9 at hA9 hb9 hw9 ⊢
  have y0 := hb9.c 0 _ rfl
  have y1 := hb9.c 1 _ rfl
  have y2 := hb9.c 2 _ rfl
  have y3 := hb9.c 3 _ rfl
  have y4 := hb9.c 4 _ rfl
  have y5 := hb9.c 5 _ rfl
  have y6 := hb9.c 6 _ rfl
  have y7 := hb9.c 7 _ rfl
  have y8 := hb9.c 8 _ rfl
  have y9 := hb9.c 9 _ rfl
  have y10 := hb9.c 10 _ rfl
  have y11 := hb9.c 11 _ rfl
  have y12 := hb9.c 12 _ rfl
  have y13 := hb9.c 13 _ rfl
  go_wp2_with fail
  refine bodyPost_ret (v := .tuple #[.agg #[.int .i8 x.k, .int .i64 x.fr, .int .i64 x.to, .int .i64 x.te, .int .i64 x.ix, .int .i64 x.la, .int .i64 x.co, .bool x.ok, .slice none 0 0, .int .i64 x.si, .int .i64 x.st, .int .u8 x.su, .slice none 0 0, .slice none 0 0], .bool (!C x.fr x.to), .int .i64 0]) (by simp [results, Try.results10, go_sem, y0, y1, y2, y3, y4, y5, y6, y7, y8, y9, y10, y11, y12, y13]) rfl ⟨_, rfl, by first | exact hA9 | (rw [hl5.out]; exact hA9), hw9⟩
end Go.Proofs.Ytnokojobiaddmaa
