/- The reference's copy of a virtual time. -/
import Derived.Test.YtbbcongfaoopcaaV9
namespace Go.Proofs.Ytbbcongfaoopcaa
open Go.ChangeShapes Go.WideShapes Go.ChangeAt Go.RowKit
set_option linter.unusedVariables false
set_option linter.unusedSimpArgs false
open BigFrame Vr Pk Fq

namespace Vr
/-- A virtual time alone, in new memory. -/
def CopP (V : Int) (N : Nat) (S F : Nat → Int) (w : World) (e : Ending) (w' : World) : Prop :=
  ∃ (a' : Option Addr) (g c' : Nat), e = .returned (.agg #[.int .i64 V, .slice a' N c']) ∧ TagsAt w' a' g 0 N S F ∧ (0 < N → w.heap.size ≤ g ∧ ∀ o, w'.frozen? ⟨g, o, none⟩ = false) ∧ Below w.heap.size w w'
theorem Blk.grown {wr w1 : World} {o : Obj} {v : Value} {base size n b : Nat} {e : TypeId} {xs l : List Value} (h : Blk wr b l) (hown : wr.ownsRow base e size v n xs) (hg : (wr.alloc o).grownBy w1 v.ownBlock) (hb : b < base) (hs : wr.heap.size ≤ w1.heap.size) : Blk w1 b l := by
  have K := grow_keep2 hown hg b hb h.l
  exact ⟨fun i x hx => (K.1 i).trans (h.c i x hx), fun o => (K.2 o).trans (h.f o), Nat.lt_of_lt_of_le h.l hs⟩
theorem blk_two (u : World) (x y p q : Value) (t t' : TypeId) : Blk ((u.alloc (.cells #[x, y] t)).alloc (.cells #[p, q] t')) u.heap.size [x, y] :=
  (blk_new u x y t).bel ((Below.refl _ _).alloc (Nat.le_refl _) _)
end Vr

set_option maxRecDepth 100000 in
set_option maxHeartbeats 4000000 in
theorem rcopied_c (V : Int) (a : Option Addr) (b off N c : Nat) (S F : Nat → Int) (w : World) (T : TagsAt w a b off N S F) (hN : N ≤ 1000) :
    Calls Try.prog 52 #[.agg #[.int .i64 V, .slice a N c]] w (CopP V N S F w) := by
  obtain ⟨i0, hi0, hz0, hz1, hz2⟩ := info_parts info_tags
  have hB0 : Below w.heap.size w ((w.alloc (.cells #[.int .i64 V, .slice a N c] 50)).alloc (.cells #[.int .i64 0, .slice none 0 0] 50)) := ((Below.refl _ _).alloc (Nat.le_refl _) _).alloc (by simp) _
  have bx0 := blk_two w (.int .i64 V) (.slice a N c) (.int .i64 0) (.slice none 0 0) 50 50
  have rs0 := blk_new (w.alloc (.cells #[.int .i64 V, .slice a N c] 50)) (.int .i64 0) (.slice none 0 0) 50
  rw [World.size_alloc] at rs0
  replace T := Lib.hid T
  go_enter Try.func52, Try.ntmps52
  go_upto_region 2 with fail
  have hsz0 : ((w.alloc (.cells #[.int .i64 V, .slice a N c] 50)).alloc (.cells #[.int .i64 0, .slice none 0 0] 50)).heap.size = w.heap.size + 2 := by simp
  have hbb := (Below.refl ((w.alloc (.cells #[.int .i64 V, .slice a N c] 50)).alloc (.cells #[.int .i64 0, .slice none 0 0] 50)).heap.size ((w.alloc (.cells #[.int .i64 V, .slice a N c] 50)).alloc (.cells #[.int .i64 0, .slice none 0 0] 50))).alloc (Nat.le_refl _) (.cells #[.int .i64 V, .slice none 0 0] 50)
  have bx1 := bx0.bel hbb
  have rs1 := rs0.bel hbb
  have ob1 := blk_new ((w.alloc (.cells #[.int .i64 V, .slice a N c] 50)).alloc (.cells #[.int .i64 0, .slice none 0 0] 50)) (.int .i64 V) (.slice none 0 0) 50
  have hB1 := bNext hB0 hbb (Nat.le_refl _)
  rw [hsz0] at ob1
  clear bx0 rs0 hB0 hbb hsz0
  generalize (((w.alloc (.cells #[.int .i64 V, .slice a N c] 50)).alloc (.cells #[.int .i64 0, .slice none 0 0] 50)).alloc (.cells #[.int .i64 V, .slice none 0 0] 50)) = W1 at bx1 rs1 ob1 hB1 ⊢
  go_wp2_with fail
  go_loopw [4] (fun s4 wr => ∃ (kk : Nat) (lv : Value), kk ≤ N ∧ s4 = .int .i64 (kk : Nat) ∧ wr.ownsRow (w.heap.size + 3) 78 2 lv kk (tagV S F kk) ∧ (kk = 0 → lv = .slice none 0 0) ∧ Blk wr w.heap.size [.int .i64 V, .slice a N c] ∧ Blk wr (w.heap.size + 1) [.int .i64 0, .slice none 0 0] ∧ Blk wr (w.heap.size + 2) [.int .i64 V, lv] ∧ Below w.heap.size w wr) (fun s4 _ => N - (intOf s4).toNat)
  case atStart => exact ⟨0, .slice none 0 0, Nat.zero_le _, rfl, World.ownsRow_nil _ _ _ _, fun _ => rfl, bx1, rs1, ob1, hB1⟩
  case round =>
    obtain ⟨kk, lv, hkk, rfl, hown, hnil, bx, rs, ob, hB⟩ := hrel
    have p1 := bx.c 1 _ rfl
    have hlb := ob.l
    by_cases hlt : kk < N
    · have hltz : (kk : Int) < (N : Int) := by omega
      obtain rfl := T.out.ha (by omega)
      have x0 := (T.out.bel hB).c0 kk hlt
      have x1 := (T.out.bel hB).c1 kk hlt
      have q1 := ob.c 1 _ rfl
      replace bx := Lib.hid bx
      replace rs := Lib.hid rs
      replace ob := Lib.hid ob
      clear bx1 rs1 ob1 hB1
      replace hnil := Lib.hid hnil
      go_upto_region 5 with fail
      refine wp_region_noPanic ?_
      refine Stg.wp_region_L [8, 10] (Vr.SB wr) (by kernel_rfl) (fun _ => (Below.refl _ _).drew) (fun hHeld => ?_)
      refine Stg.wpAnyL_start (n' := 11) (l' := #[false, false, false, false, false, false, false, false, false, false, false]) (by kernel_rfl) (by kernel_rfl) ?_
      refine Stg.wpAnyL_take (i := 0) (v := ?_) [1, 8, 9, 10] 0 rfl (by kernel_rfl) (by kernel_rfl) (by kernel_rfl) (by kernel_rfl) (by kernel_rfl) (fun _ _ _ h => h) (Or.inl ⟨by kernel_rfl, ?_⟩) (by assumption) ?_
      rotate_left
      · intro u hSu
        skip
        try simp only [List.getElem_toArray, List.getElem_cons_succ, List.getElem_cons_zero]
        go_simp
        try with_reducible rfl
      try simp only [Act.put, List.setIfInBounds_toArray, List.set_cons_zero, List.set_cons_succ]
      refine Stg.wpAnyL_take (i := 1) (v := ?_) [8, 9, 10] 0 rfl (by kernel_rfl) (by kernel_rfl) (by kernel_rfl) (by kernel_rfl) (by kernel_rfl) (fun _ _ _ h => h) (Or.inl ⟨by kernel_rfl, ?_⟩) (by assumption) ?_
      rotate_left
      · intro u hSu
        skip
        have sB := hSu rfl
        have y0 := cellB sB p1
        have y1 := cellB sB x0
        have y2 := cellB sB x1
        have y3 := cellB sB q1
        try simp only [List.getElem_toArray, List.getElem_cons_succ, List.getElem_cons_zero]
        go_simp
        try with_reducible rfl
      try simp only [Act.put, List.setIfInBounds_toArray, List.set_cons_zero, List.set_cons_succ]
      refine Stg.wpAnyL_take (i := 2) (v := ?_) [3, 5, 6, 7, 8, 9, 10] 0 rfl (by kernel_rfl) (by kernel_rfl) (by kernel_rfl) (by kernel_rfl) (by kernel_rfl) (fun _ _ _ h => h) (Or.inl ⟨by kernel_rfl, ?_⟩) (by assumption) ?_
      rotate_left
      · intro u hSu
        skip
        try simp only [List.getElem_toArray, List.getElem_cons_succ, List.getElem_cons_zero]
        go_simp
        try with_reducible rfl
      try simp only [Act.put, List.setIfInBounds_toArray, List.set_cons_zero, List.set_cons_succ]
      refine Stg.wpAnyL_start (n' := 8) (l' := #[true, true, true, false, false, false, false, false, false, false, false]) (by kernel_rfl) (by kernel_rfl) ?_
      refine Stg.wpAnyL_take (i := 3) (v := ?_) [5, 6, 7, 8, 9, 10] 0 rfl (by kernel_rfl) (by kernel_rfl) (by kernel_rfl) (by kernel_rfl) (by kernel_rfl) (fun _ _ _ h => h) (Or.inl ⟨by kernel_rfl, ?_⟩) (by assumption) ?_
      rotate_left
      · intro u hSu
        skip
        have sB := hSu rfl
        have y0 := cellB sB p1
        have y1 := cellB sB x0
        have y2 := cellB sB x1
        have y3 := cellB sB q1
        try simp only [List.getElem_toArray, List.getElem_cons_succ, List.getElem_cons_zero]
        go_simp
        try with_reducible rfl
      try simp only [Act.put, List.setIfInBounds_toArray, List.set_cons_zero, List.set_cons_succ]
      refine Stg.wpAnyL_take (i := 4) (v := ?_) [5, 6, 7, 8, 9, 10] 0 rfl (by kernel_rfl) (by kernel_rfl) (by kernel_rfl) (by kernel_rfl) (by kernel_rfl) (fun _ _ _ h => h) (Or.inl ⟨by kernel_rfl, ?_⟩) (by assumption) ?_
      rotate_left
      · intro u hSu
        skip
        try simp only [List.getElem_toArray, List.getElem_cons_succ, List.getElem_cons_zero]
        go_simp
        try with_reducible rfl
      try simp only [Act.put, List.setIfInBounds_toArray, List.set_cons_zero, List.set_cons_succ]
      refine Stg.wpAnyL_take (i := 5) (v := ?_) [6, 7, 8, 9, 10] 0 rfl (by kernel_rfl) (by kernel_rfl) (by kernel_rfl) (by kernel_rfl) (by kernel_rfl) (fun _ _ _ h => h) (Or.inl ⟨by kernel_rfl, ?_⟩) (by assumption) ?_
      rotate_left
      · intro u hSu
        skip
        try simp only [List.getElem_toArray, List.getElem_cons_succ, List.getElem_cons_zero]
        go_simp
        try with_reducible rfl
      try simp only [Act.put, List.setIfInBounds_toArray, List.set_cons_zero, List.set_cons_succ]
      refine Stg.wpAnyL_start (n' := 5) (l' := #[true, true, true, true, true, true, false, false, false, false, false]) (by kernel_rfl) (by kernel_rfl) ?_
      refine Stg.wpAnyL_take (i := 6) (v := ?_) [7, 8, 9, 10] 0 rfl (by kernel_rfl) (by kernel_rfl) (by kernel_rfl) (by kernel_rfl) (by kernel_rfl) (fun _ _ _ h => h) (Or.inl ⟨by kernel_rfl, ?_⟩) (by assumption) ?_
      rotate_left
      · intro u hSu
        skip
        have sB := hSu rfl
        have y0 := cellB sB p1
        have y1 := cellB sB x0
        have y2 := cellB sB x1
        have y3 := cellB sB q1
        try simp only [List.getElem_toArray, List.getElem_cons_succ, List.getElem_cons_zero]
        go_simp
        try with_reducible rfl
      try simp only [Act.put, List.setIfInBounds_toArray, List.set_cons_zero, List.set_cons_succ]
      refine Stg.wpAnyL_one (i := 7) 0 rfl (by kernel_rfl) (by kernel_rfl) (fun K hK => ?_)
      try simp only [List.getElem_toArray, List.getElem_cons_succ, List.getElem_cons_zero]
      go_simp
      refine hK.out _ _ ?_ (fun hHeld1 => ?_)
      · exact fun _ => bNext (hHeld rfl) ((Below.refl _ _).alloc (Nat.le_refl _) _) (Nat.le_refl _)
      clear hK K
      try simp only [Act.put, List.setIfInBounds_toArray, List.set_cons_zero, List.set_cons_succ]
      refine Stg.wpAnyL_one (i := 8) 1 rfl (by kernel_rfl) (by kernel_rfl) (fun K hK => ?_)
      try simp only [List.getElem_toArray, List.getElem_cons_succ, List.getElem_cons_zero]
      rw [if_pos (by rfl)]
      refine wp_append_lies _ (.tmp 16) (.tmp 22) 48 rfl (w.heap.size + 3) 78 i0 _ 2 16 Try.underlying48 hi0 hz0 hz1 hz2 (by rfl) (by omega) _ _ _ (by rfl) (hown.drew.alloc _) ⟨wr.drew.heap.size, 0, none⟩ 1 1 [.int .i64 (S kk), .int .i64 (F kk)] (by rfl) (by rfl) (World.news_of_block (cs := #[.int .i64 (S kk), .int .i64 (F kk)]) (t := 78) (fr := (0, 0)) (heap_alloc_new wr.drew _)) (by intro u hu; simp at hu; rcases hu with rfl | rfl <;> rfl) (by omega) (by unfold maxLen; omega) (by omega) (by simp; omega) (wr.drew.heap.size + 1) (by simp) ?_
      intro g1 cap1 w3 hown1 hgrow1 hat1 hlt1
      refine hK.out _ _ ?_ (fun hHeld2 => ?_)
      · exact fun h => absurd h (by decide)
      clear hK K
      try simp only [Act.put, List.setIfInBounds_toArray, List.set_cons_zero, List.set_cons_succ]
      refine Stg.wpAnyL_start (n' := 2) (l' := #[true, true, true, true, true, true, true, true, true, false, false]) (by kernel_rfl) (by kernel_rfl) ?_
      refine Stg.wpAnyL_take (i := 9) (v := ?_) [10] 1 rfl (by kernel_rfl) (by kernel_rfl) (by kernel_rfl) (by kernel_rfl) (by kernel_rfl) (fun _ _ _ h => h) (Or.inl ⟨by kernel_rfl, ?_⟩) (by assumption) ?_
      rotate_left
      · intro u hSu
        skip
        try simp only [List.getElem_toArray, List.getElem_cons_succ, List.getElem_cons_zero]
        go_simp
        try with_reducible rfl
      try simp only [Act.put, List.setIfInBounds_toArray, List.set_cons_zero, List.set_cons_succ]
      refine Stg.wpAnyL_one (i := 10) 2 rfl (by kernel_rfl) (by kernel_rfl) (fun K hK => ?_)
      have K := grow_keep2 hown.drew hgrow1 (w.heap.size + 2) (by omega) (by simpa using hlb)
      have z0 := (K.1 1).trans (cellB (Below.refl _ _).drew q1)
      have z1 := (K.2 1).trans ((ob.out.bel (Below.refl _ _).drew).f 1)
      clear K
      try simp only [List.getElem_toArray, List.getElem_cons_succ, List.getElem_cons_zero]
      go_simp
      refine hK.out _ _ ?_ (fun hHeld3 => ?_)
      · exact fun h => absurd h (by decide)
      clear hK K
      try simp only [Act.put, List.setIfInBounds_toArray, List.set_cons_zero, List.set_cons_succ]
      refine Stg.wpAnyL_done (by kernel_rfl) ?_ _
      try simp only [List.getElem_toArray, List.getElem_cons_succ, List.getElem_cons_zero]
      try simp only [Act.put, List.setIfInBounds_toArray, List.set_cons_zero, List.set_cons_succ]
      refine NoPanic.normal ?_
      have hw0 : (wr.drew.alloc (.cells #[.int .i64 (S kk), .int .i64 (F kk)] 78)).heap.size ≤ w3.heap.size := hgrow1.size
      have hw1 : wr.heap.size ≤ w3.heap.size := by simp at hw0; omega
      have hb3 : Below w.heap.size w w3 := (bNext hB ((Below.refl _ _).drew.alloc (Nat.le_refl _) (.cells #[.int .i64 (S kk), .int .i64 (F kk)] 78)) (Nat.le_refl _)).grown hgrow1 (by simp; omega) (fun q hq => by have := (hown.lt q hq).1; omega)
      have hd := (Below.refl wr.heap.size wr).drew
      have bx3 := ((bx.out.bel hd).grown hown.drew hgrow1 (by omega) (by simpa using hw1)).other (q := w.heap.size + 2) (o := 1) (by omega) (.slice (some ⟨g1, 0, none⟩) (kk + 1) cap1)
      have rs3 := ((rs.out.bel hd).grown hown.drew hgrow1 (by omega) (by simpa using hw1)).other (q := w.heap.size + 2) (o := 1) (by omega) (.slice (some ⟨g1, 0, none⟩) (kk + 1) cap1)
      have ob3 := ((ob.out.bel hd).grown hown.drew hgrow1 (by omega) (by simpa using hw1)).set (i := 1) (by simp) (.slice (some ⟨g1, 0, none⟩) (kk + 1) cap1)
      go_wp2_with fail
      go_roundw
      case rel => exact ⟨kk + 1, _, by omega, by go_num, by rw [tagV_succ]; exact ownsRow_setCell_below hown1 (a := ⟨w.heap.size + 2, 1, none⟩) (by show w.heap.size + 2 < _; omega) _, fun h => absurd h (by omega), bx3, rs3, ob3, hb3.setCell (p := ⟨w.heap.size + 2, 1, none⟩) (by show _ ≤ w.heap.size + 2; omega) _⟩
      case measure => simp [intOf]; omega
    · have hltz : ¬ (kk : Int) < (N : Int) := by omega
      obtain rfl : kk = N := by omega
      have r0 := rs.c 0 _ rfl
      have r1 := rs.c 1 _ rfl
      have r2 := rs.f 0
      have r3 := rs.f 1
      have q0 := ob.c 0 _ rfl
      have q1 := ob.c 1 _ rfl
      clear bx1 rs1 ob1 hB1
      have hB9 := (hB.setCell (p := ⟨w.heap.size + 1, 0, none⟩) (by show _ ≤ w.heap.size + 1; omega) (.int .i64 V)).setCell (p := ⟨w.heap.size + 1, 1, none⟩) (by show _ ≤ w.heap.size + 1; omega) lv
      have hf9 : ∀ g o, wr.frozen? ⟨g, o, none⟩ = false → ((wr.setCell ⟨w.heap.size + 1, 0, none⟩ (.int .i64 V)).setCell ⟨w.heap.size + 1, 1, none⟩ lv).frozen? ⟨g, o, none⟩ = false := fun g o h => (World.frozen?_setCell _ _ _ _).trans ((World.frozen?_setCell _ _ _ _).trans h)
      replace hnil := Lib.hid hnil
      by_cases hk0 : kk = 0
      · subst hk0
        have hl := hnil.out rfl
        subst hl
        go_wp2_with fail
        refine bodyPost_ret (v := .agg #[.int .i64 V, .slice none 0 0]) (by simp [results, Try.results52, go_sem, r0, r1]) rfl ⟨none, 0, 0, rfl, ⟨fun h => absurd h (by omega), fun h => absurd h (by omega), fun i hi => absurd hi (by omega), fun i hi => absurd hi (by omega)⟩, fun h => absurd h (by omega), hB9⟩
      · obtain ⟨g, cg, rfl, hg1, hg2⟩ := hown.form (by omega)
        have T9 : TagsAt wr (some ⟨g, 0, none⟩) g 0 kk S F := ⟨fun _ => rfl, fun _ => hg2, fun i hi => by rw [Nat.zero_add]; exact (hown.cellAt (i * 2) (by omega)).trans (tagV_at S F kk i hi).1, fun i hi => by rw [Nat.zero_add]; exact (hown.cellAt (i * 2 + 1) (by omega)).trans (tagV_at S F kk i hi).2⟩
        have hfz := hown.frozenAt
        replace hfz := Lib.hid hfz
        go_wp2_with fail
        refine bodyPost_ret (v := .agg #[.int .i64 V, .slice (some ⟨g, 0, none⟩) kk cg]) (by simp [results, Try.results52, go_sem, r0, r1]) rfl ⟨_, g, cg, rfl, (T9.set_other (fun _ => by omega) _).set_other (fun _ => by omega) _, fun _ => ⟨by omega, fun o => hf9 g o (hfz.out o)⟩, hB9⟩
end Go.Proofs.Ytbbcongfaoopcaa
