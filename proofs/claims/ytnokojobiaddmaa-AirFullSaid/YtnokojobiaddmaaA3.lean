/- The air: New, Len, Send. -/
import Derived.Test.YtnokojobiaddmaaA2
namespace Go.Proofs.Ytnokojobiaddmaa
open Go.ChangeShapes Go.WideShapes Go.ChangeAt Go.RowKit Go.Maps
set_option linter.unusedVariables false
set_option linter.unusedSimpArgs false
open BigFrame Bs Ar

namespace Ar
def NewP (w : World) (e : Ending) (w' : World) : Prop := ∃ g bm base, e = .returned (.pointer (some ⟨g, 0, none⟩)) ∧ AirAt w.heap.size w' g base (.slice none 0 0) [] bm 0 (fun _ _ => false) ∧ Below w.heap.size w w'
def SendP (lv0 : Value) (m g base : Nat) (l : List FM) (bm n : Nat) (C : Int → Int → Bool) (w : World) (e : Ending) (w' : World) : Prop :=
  ∃ lv, e = .returned (.int .i64 0) ∧ AirAt m w' g base lv l bm n C ∧ Kpt m g bm lv0 lv w w'
end Ar

set_option maxRecDepth 100000 in
theorem air_new (w : World) : Calls Try.prog 8 #[] w (NewP w) := by
  have hmm := @run_makeMap Try.prog
  go_enter Try.func8, Try.ntmps8
  go_wp2_with fail
  have h0 : (w.alloc (.map #[] 0)).heap.size = w.heap.size + 1 := by simp
  have hb : Below w.heap.size w ((w.alloc (.map #[] 0)).alloc (.cells #[.slice none 0 0, .map (some w.heap.size)] 59)) := ((Below.refl _ _).alloc (Nat.le_refl _) _).alloc (by simp) _
  have hg : ((w.alloc (.map #[] 0)).alloc (.cells #[.slice none 0 0, .map (some w.heap.size)] 59)).heap[w.heap.size + 1]? = some (.cells #[.slice none 0 0, .map (some w.heap.size)] 59 (0, 0)) := by
    have := heap_alloc_new (w.alloc (.map #[] 0)) (.cells #[.slice none 0 0, .map (some w.heap.size)] 59)
    rw [h0] at this
    exact this
  go_ret
  refine ⟨w.heap.size + 1, w.heap.size, w.heap.size + 2, rfl, ⟨hg, World.ownsRow_nil _ _ _ _, ⟨.map [], (World.ownsMap_made w Try.prog _ _).alloc _, fun f t _ _ => rfl⟩, by omega, by omega, by omega, by omega, by omega, by simp⟩, hb⟩

theorem air_len {m : Nat} {w : World} {g base : Nat} {lv : Value} {l : List FM} {bm n : Nat} {C : Int → Int → Bool} (h : AirAt m w g base lv l bm n C) :
    Calls Try.prog 12 #[.pointer (some ⟨g, 0, none⟩)] w fun e w' => e = .returned (.int .i64 (l.length : Nat)) ∧ w = w' := by
  have hown := h.own
  have c0 := h.c0
  clear h
  rcases hown.2 with ⟨rfl, hn⟩ | ⟨q, cap, cur, rfl, _, _, _, _, _, _⟩
  · rw [hn]
    replace hn := Lib.hid hn
    clear hown
    go_enter Try.func12, Try.ntmps12
    go_wp2_with fail
    go_ret
    exact ⟨rfl, rfl⟩
  · clear hown
    go_enter Try.func12, Try.ntmps12
    go_wp2_with fail
    go_ret
    exact ⟨rfl, rfl⟩

set_option maxRecDepth 100000 in
set_option maxHeartbeats 4000000 in
theorem air_send_ok (x : FM) {m : Nat} {w : World} {g base : Nat} {lv : Value} {l : List FM} {bm n : Nat} {C : Int → Int → Bool} (h : AirAt m w g base lv l bm n C) (hf : 1 ≤ x.fr ∧ x.fr ≤ 255) (ht : 1 ≤ x.to ∧ x.to ≤ 255) (hn : l.length < 1024) :
    Calls Try.prog 9 #[.pointer (some ⟨g, 0, none⟩), .agg #[.int .i8 x.k, .int .i64 x.fr, .int .i64 x.to, .int .i64 x.te, .int .i64 x.ix, .int .i64 x.la, .int .i64 x.co, .bool x.ok, .slice none 0 0, .int .i64 x.si, .int .i64 x.st, .int .u8 x.su, .slice none 0 0, .slice none 0 0]] w (SendP lv m g base (l ++ [x]) bm n C w) := by
  obtain ⟨i0, hi0, hz0, hz1, hz2⟩ := info_parts info_msg
  have hb0 : Below w.heap.size w (w.alloc (.cells #[.int .i8 x.k, .int .i64 x.fr, .int .i64 x.to, .int .i64 x.te, .int .i64 x.ix, .int .i64 x.la, .int .i64 x.co, .bool x.ok, .slice none 0 0, .int .i64 x.si, .int .i64 x.st, .int .u8 x.su, .slice none 0 0, .slice none 0 0] 34)) := (Below.refl _ _).alloc (Nat.le_refl _) _
  have bx : Blk (w.alloc (.cells #[.int .i8 x.k, .int .i64 x.fr, .int .i64 x.to, .int .i64 x.te, .int .i64 x.ix, .int .i64 x.la, .int .i64 x.co, .bool x.ok, .slice none 0 0, .int .i64 x.si, .int .i64 x.st, .int .u8 x.su, .slice none 0 0, .slice none 0 0] 34)) w.heap.size [.int .i8 x.k, .int .i64 x.fr, .int .i64 x.to, .int .i64 x.te, .int .i64 x.ix, .int .i64 x.la, .int .i64 x.co, .bool x.ok, .slice none 0 0, .int .i64 x.si, .int .i64 x.st, .int .u8 x.su, .slice none 0 0, .slice none 0 0] := blk_new w [.int .i8 x.k, .int .i64 x.fr, .int .i64 x.to, .int .i64 x.te, .int .i64 x.ix, .int .i64 x.la, .int .i64 x.co, .bool x.ok, .slice none 0 0, .int .i64 x.si, .int .i64 x.st, .int .u8 x.su, .slice none 0 0, .slice none 0 0] 34
  have h2 := h.bel hb0
  have hmw := h.below
  have hbm : Below w.heap.size w (w.alloc (.cells #[.int .i8 x.k, .int .i64 x.fr, .int .i64 x.to, .int .i64 x.te, .int .i64 x.ix, .int .i64 x.la, .int .i64 x.co, .bool x.ok, .slice none 0 0, .int .i64 x.si, .int .i64 x.st, .int .u8 x.su, .slice none 0 0, .slice none 0 0] 34)) := hb0
  have af := fun W => address_yes x.fr W hf.1 hf.2
  have at' := fun W => address_yes x.to W ht.1 ht.2
  have cp := fun W => copied_flat x.k x.fr x.to x.te x.ix x.la x.co x.ok x.si x.st x.su W
  have hni : (l.length : Int) < 1024 := by omega
  clear h hb0
  obtain ⟨f1, f2⟩ := hf
  obtain ⟨t1, t2⟩ := ht
  have hcase : (lv = .slice none 0 0 ∧ l.length = 0) ∨ ∃ q cap, lv = .slice (some ⟨q, 0, none⟩) l.length cap := by
    rcases h2.own.2 with hh | ⟨q, cap, cur, hh, _⟩
    · exact .inl hh
    · exact .inr ⟨q, cap, hh⟩
  rcases hcase with ⟨rfl, hl0⟩ | ⟨q, cap, rfl⟩
  · replace hl0 := Lib.hid hl0
    go_enter Try.func9, Try.ntmps9
    go_upto_region 1 with fail
    replace bx : Blk (w.alloc (.cells #[.int .i8 x.k, .int .i64 x.fr, .int .i64 x.to, .int .i64 x.te, .int .i64 x.ix, .int .i64 x.la, .int .i64 x.co, .bool x.ok, .slice none 0 0, .int .i64 x.si, .int .i64 x.st, .int .u8 x.su, .slice none 0 0, .slice none 0 0] 34)) w.heap.size [.int .i8 x.k, .int .i64 x.fr, .int .i64 x.to, .int .i64 x.te, .int .i64 x.ix, .int .i64 x.la, .int .i64 x.co, .bool x.ok, .slice none 0 0, .int .i64 x.si, .int .i64 x.st, .int .u8 x.su, .slice none 0 0, .slice none 0 0] := bx
    generalize (w.alloc (.cells #[.int .i8 x.k, .int .i64 x.fr, .int .i64 x.to, .int .i64 x.te, .int .i64 x.ix, .int .i64 x.la, .int .i64 x.co, .bool x.ok, .slice none 0 0, .int .i64 x.si, .int .i64 x.st, .int .u8 x.su, .slice none 0 0, .slice none 0 0] 34)) = W1 at bx h2 hbm ⊢
    obtain ⟨xb, hxb⟩ : ∃ xb, w.heap.size = xb := ⟨_, rfl⟩
    rw [hxb] at bx ⊢
    replace hxb := Lib.hid hxb
    replace hbm := Lib.hid hbm
    replace hmw := Lib.hid hmw
    have y0 := bx.c 0 _ rfl
    have y1 := bx.c 1 _ rfl
    have y2 := bx.c 2 _ rfl
    have y3 := bx.c 3 _ rfl
    have y4 := bx.c 4 _ rfl
    have y5 := bx.c 5 _ rfl
    have y6 := bx.c 6 _ rfl
    have y7 := bx.c 7 _ rfl
    have y8 := bx.c 8 _ rfl
    have y9 := bx.c 9 _ rfl
    have y10 := bx.c 10 _ rfl
    have y11 := bx.c 11 _ rfl
    have y12 := bx.c 12 _ rfl
    have y13 := bx.c 13 _ rfl
    have c0 := h2.c0
    clear bx
    go_wp2_with fail
    refine (af _).mono ?_
    rintro e w' ⟨rfl, rfl⟩
    go_wp2_with fail
    refine (at' _).mono ?_
    rintro e w' ⟨rfl, rfl⟩
    clear af at'
    go_upto_region 7 with fail
    replace h2 := Lib.hid h2
    refine wp_region_noPanic ?_
    refine Stg.wp_region_L [8, 11] (Bs.SB W1) (by kernel_rfl) (fun _ => (Below.refl _ _).drew) (fun hHeld => ?_)
    refine Stg.wpAnyL_start (n' := 12) (l' := #[false, false, false, false, false, false, false, false, false, false, false, false]) (by kernel_rfl) (by kernel_rfl) ?_
    refine Stg.wpAnyL_free (i := 0) (v := ?_) 0 rfl (by kernel_rfl) (by kernel_rfl) (by kernel_rfl) (by kernel_rfl) (by kernel_rfl) (fun _ _ _ h => h) (Or.inl ⟨by kernel_rfl, ?_⟩) (by assumption) ?_
    rotate_left
    · intro u _
      try simp only [List.getElem_toArray, List.getElem_cons_succ, List.getElem_cons_zero]
      go_simp
      try with_reducible rfl
    try simp only [Act.put, List.setIfInBounds_toArray, List.set_cons_zero, List.set_cons_succ]
    refine Stg.wpAnyL_free (i := 1) (v := ?_) 0 rfl (by kernel_rfl) (by kernel_rfl) (by kernel_rfl) (by kernel_rfl) (by kernel_rfl) (fun _ _ _ h => h) (Or.inl ⟨by kernel_rfl, ?_⟩) (by assumption) ?_
    rotate_left
    · intro u _
      try simp only [List.getElem_toArray, List.getElem_cons_succ, List.getElem_cons_zero]
      go_simp
      try with_reducible rfl
    try simp only [Act.put, List.setIfInBounds_toArray, List.set_cons_zero, List.set_cons_succ]
    refine Stg.wpAnyL_free (i := 2) (v := ?_) 0 rfl (by kernel_rfl) (by kernel_rfl) (by kernel_rfl) (by kernel_rfl) (by kernel_rfl) (fun _ _ _ h => h) (Or.inl ⟨by kernel_rfl, ?_⟩) (by assumption) ?_
    rotate_left
    · intro u _
      try simp only [List.getElem_toArray, List.getElem_cons_succ, List.getElem_cons_zero]
      go_simp
      try with_reducible rfl
    try simp only [Act.put, List.setIfInBounds_toArray, List.set_cons_zero, List.set_cons_succ]
    refine Stg.wpAnyL_start (n' := 9) (l' := #[true, true, true, false, false, false, false, false, false, false, false, false]) (by kernel_rfl) (by kernel_rfl) ?_
    refine Stg.wpAnyL_free (i := 3) (v := ?_) 0 rfl (by kernel_rfl) (by kernel_rfl) (by kernel_rfl) (by kernel_rfl) (by kernel_rfl) (fun _ _ _ h => h) (Or.inl ⟨by kernel_rfl, ?_⟩) (by assumption) ?_
    rotate_left
    · intro u _
      try simp only [List.getElem_toArray, List.getElem_cons_succ, List.getElem_cons_zero]
      go_simp
      try with_reducible rfl
    try simp only [Act.put, List.setIfInBounds_toArray, List.set_cons_zero, List.set_cons_succ]
    refine Stg.wpAnyL_take (i := 4) (v := ?_) [8, 9, 10, 11] 0 rfl (by kernel_rfl) (by kernel_rfl) (by kernel_rfl) (by kernel_rfl) (by kernel_rfl) (fun _ _ _ h => h) (Or.inl ⟨by kernel_rfl, ?_⟩) (by assumption) ?_
    rotate_left
    · intro u hSu
      skip
      have sB := hSu rfl
      have y0 := cellB sB y0
      have y1 := cellB sB y1
      have y2 := cellB sB y2
      have y3 := cellB sB y3
      have y4 := cellB sB y4
      have y5 := cellB sB y5
      have y6 := cellB sB y6
      have y7 := cellB sB y7
      have y8 := cellB sB y8
      have y9 := cellB sB y9
      have y10 := cellB sB y10
      have y11 := cellB sB y11
      have y12 := cellB sB y12
      have y13 := cellB sB y13
      have y14 := cellB sB c0
      try simp only [List.getElem_toArray, List.getElem_cons_succ, List.getElem_cons_zero]
      go_simp
      try with_reducible rfl
    try simp only [Act.put, List.setIfInBounds_toArray, List.set_cons_zero, List.set_cons_succ]
    refine Stg.wpAnyL_take (i := 5) (v := ?_) [6, 7, 8, 9, 10, 11] 0 rfl (by kernel_rfl) (by kernel_rfl) (by kernel_rfl) (by kernel_rfl) (by kernel_rfl) (fun _ _ _ h => h) (Or.inl ⟨by kernel_rfl, ?_⟩) (by assumption) ?_
    rotate_left
    · intro u hSu
      skip
      have sB := hSu rfl
      have y0 := cellB sB y0
      have y1 := cellB sB y1
      have y2 := cellB sB y2
      have y3 := cellB sB y3
      have y4 := cellB sB y4
      have y5 := cellB sB y5
      have y6 := cellB sB y6
      have y7 := cellB sB y7
      have y8 := cellB sB y8
      have y9 := cellB sB y9
      have y10 := cellB sB y10
      have y11 := cellB sB y11
      have y12 := cellB sB y12
      have y13 := cellB sB y13
      have y14 := cellB sB c0
      try simp only [List.getElem_toArray, List.getElem_cons_succ, List.getElem_cons_zero]
      go_simp
      try with_reducible rfl
    try simp only [Act.put, List.setIfInBounds_toArray, List.set_cons_zero, List.set_cons_succ]
    refine Stg.wpAnyL_start (n' := 6) (l' := #[true, true, true, true, true, true, false, false, false, false, false, false]) (by kernel_rfl) (by kernel_rfl) ?_
    refine Stg.wpAnyL_one (i := 6) 0 rfl (by kernel_rfl) (by kernel_rfl) (fun K hK => ?_)
    try simp only [List.getElem_toArray, List.getElem_cons_succ, List.getElem_cons_zero]
    go_simp
    refine (cp _).mono ?_
    rintro e w3 ⟨rfl, hb1⟩
    have h3 := h2.out.bel (bNext (hHeld rfl) hb1 (Nat.le_refl _))
    refine hK.out _ _ ?_ (fun hHeld1 => ?_)
    · exact fun _ => bNext (hHeld rfl) hb1 (Nat.le_refl _)
    clear hK K
    try simp only [Act.put, List.setIfInBounds_toArray, List.set_cons_zero, List.set_cons_succ]
    refine Stg.wpAnyL_one (i := 7) 0 rfl (by kernel_rfl) (by kernel_rfl) (fun K hK => ?_)
    try simp only [List.getElem_toArray, List.getElem_cons_succ, List.getElem_cons_zero]
    go_simp
    refine hK.out _ _ ?_ (fun hHeld2 => ?_)
    · exact fun _ => bNext (hHeld1 rfl) ((Below.refl _ _).alloc (Nat.le_refl _) _) (Nat.le_refl _)
    clear hK K
    try simp only [Act.put, List.setIfInBounds_toArray, List.set_cons_zero, List.set_cons_succ]
    refine Stg.wpAnyL_one (i := 8) 1 rfl (by kernel_rfl) (by kernel_rfl) (fun K hK => ?_)
    try simp only [List.getElem_toArray, List.getElem_cons_succ, List.getElem_cons_zero]
    rw [if_pos (by rfl)]
    refine wp_append_lies _ (.tmp 30) (.tmp 33) 49 rfl base 34 i0 _ 14 160 Try.underlying49 hi0 hz0 hz1 hz2 (by rfl) (by omega) _ _ _ (by rfl) (h3.own.alloc _) ⟨w3.heap.size, 0, none⟩ 1 1 (cellsM x) (by rfl) (by rfl) (World.news_of_block (cs := #[.int .i8 x.k, .int .i64 x.fr, .int .i64 x.to, .int .i64 x.te, .int .i64 x.ix, .int .i64 x.la, .int .i64 x.co, .bool x.ok, .slice none 0 0, .int .i64 x.si, .int .i64 x.st, .int .u8 x.su, .slice none 0 0, .slice none 0 0]) (t := 34) (fr := (0, 0)) (heap_alloc_new w3 _)) (cellsM_one x) (by omega) (by unfold maxLen; omega) (by omega) (by have := h3.h6; simp; omega) (w3.heap.size + 1) (by simp) ?_
    intro g1 cap1 w5 hown1 hgrow1 hat1 hlt1
    refine hK.out _ _ ?_ (fun hHeld3 => ?_)
    · exact fun h => absurd h (by decide)
    clear hK K
    try simp only [Act.put, List.setIfInBounds_toArray, List.set_cons_zero, List.set_cons_succ]
    refine Stg.wpAnyL_start (n' := 3) (l' := #[true, true, true, true, true, true, true, true, true, false, false, false]) (by kernel_rfl) (by kernel_rfl) ?_
    refine Stg.wpAnyL_free (i := 9) (v := ?_) 1 rfl (by kernel_rfl) (by kernel_rfl) (by kernel_rfl) (by kernel_rfl) (by kernel_rfl) (fun _ _ _ h => h) (Or.inl ⟨by kernel_rfl, ?_⟩) (by assumption) ?_
    rotate_left
    · intro u _
      try simp only [List.getElem_toArray, List.getElem_cons_succ, List.getElem_cons_zero]
      go_simp
      try with_reducible rfl
    try simp only [Act.put, List.setIfInBounds_toArray, List.set_cons_zero, List.set_cons_succ]
    refine Stg.wpAnyL_free (i := 10) (v := ?_) 1 rfl (by kernel_rfl) (by kernel_rfl) (by kernel_rfl) (by kernel_rfl) (by kernel_rfl) (fun _ _ _ h => h) (Or.inl ⟨by kernel_rfl, ?_⟩) (by assumption) ?_
    rotate_left
    · intro u _
      try simp only [List.getElem_toArray, List.getElem_cons_succ, List.getElem_cons_zero]
      go_simp
      try with_reducible rfl
    try simp only [Act.put, List.setIfInBounds_toArray, List.set_cons_zero, List.set_cons_succ]
    refine Stg.wpAnyL_one (i := 11) 2 rfl (by kernel_rfl) (by kernel_rfl) (fun K hK => ?_)
    obtain ⟨z0, z1⟩ := h3.grown hgrow1
    try simp only [List.getElem_toArray, List.getElem_cons_succ, List.getElem_cons_zero]
    go_simp
    refine hK.out _ _ ?_ (fun hHeld4 => ?_)
    · exact fun h => absurd h (by decide)
    clear hK K
    try simp only [Act.put, List.setIfInBounds_toArray, List.set_cons_zero, List.set_cons_succ]
    refine Stg.wpAnyL_done (by kernel_rfl) ?_ _
    try simp only [List.getElem_toArray, List.getElem_cons_succ, List.getElem_cons_zero]
    try simp only [Act.put, List.setIfInBounds_toArray, List.set_cons_zero, List.set_cons_succ]
    refine NoPanic.normal ?_
    obtain ⟨r1, r2⟩ := AirAt.send rfl (hat1.imp id (fun q => by omega)) h3 hgrow1 hown1
    have hfin := r2.pre (bNext hbm.out (bNext (hHeld rfl) hb1 (Nat.le_refl _)) (Nat.le_refl _)) hmw.out
    go_wp2_with fail
    go_ret
    exact ⟨_, rfl, r1, hfin⟩
  ·
    go_enter Try.func9, Try.ntmps9
    go_upto_region 1 with fail
    replace bx : Blk (w.alloc (.cells #[.int .i8 x.k, .int .i64 x.fr, .int .i64 x.to, .int .i64 x.te, .int .i64 x.ix, .int .i64 x.la, .int .i64 x.co, .bool x.ok, .slice none 0 0, .int .i64 x.si, .int .i64 x.st, .int .u8 x.su, .slice none 0 0, .slice none 0 0] 34)) w.heap.size [.int .i8 x.k, .int .i64 x.fr, .int .i64 x.to, .int .i64 x.te, .int .i64 x.ix, .int .i64 x.la, .int .i64 x.co, .bool x.ok, .slice none 0 0, .int .i64 x.si, .int .i64 x.st, .int .u8 x.su, .slice none 0 0, .slice none 0 0] := bx
    generalize (w.alloc (.cells #[.int .i8 x.k, .int .i64 x.fr, .int .i64 x.to, .int .i64 x.te, .int .i64 x.ix, .int .i64 x.la, .int .i64 x.co, .bool x.ok, .slice none 0 0, .int .i64 x.si, .int .i64 x.st, .int .u8 x.su, .slice none 0 0, .slice none 0 0] 34)) = W1 at bx h2 hbm ⊢
    obtain ⟨xb, hxb⟩ : ∃ xb, w.heap.size = xb := ⟨_, rfl⟩
    rw [hxb] at bx ⊢
    replace hxb := Lib.hid hxb
    replace hbm := Lib.hid hbm
    replace hmw := Lib.hid hmw
    have y0 := bx.c 0 _ rfl
    have y1 := bx.c 1 _ rfl
    have y2 := bx.c 2 _ rfl
    have y3 := bx.c 3 _ rfl
    have y4 := bx.c 4 _ rfl
    have y5 := bx.c 5 _ rfl
    have y6 := bx.c 6 _ rfl
    have y7 := bx.c 7 _ rfl
    have y8 := bx.c 8 _ rfl
    have y9 := bx.c 9 _ rfl
    have y10 := bx.c 10 _ rfl
    have y11 := bx.c 11 _ rfl
    have y12 := bx.c 12 _ rfl
    have y13 := bx.c 13 _ rfl
    have c0 := h2.c0
    clear bx
    go_wp2_with fail
    refine (af _).mono ?_
    rintro e w' ⟨rfl, rfl⟩
    go_wp2_with fail
    refine (at' _).mono ?_
    rintro e w' ⟨rfl, rfl⟩
    clear af at'
    go_upto_region 7 with fail
    replace h2 := Lib.hid h2
    refine wp_region_noPanic ?_
    refine Stg.wp_region_L [8, 11] (Bs.SB W1) (by kernel_rfl) (fun _ => (Below.refl _ _).drew) (fun hHeld => ?_)
    refine Stg.wpAnyL_start (n' := 12) (l' := #[false, false, false, false, false, false, false, false, false, false, false, false]) (by kernel_rfl) (by kernel_rfl) ?_
    refine Stg.wpAnyL_free (i := 0) (v := ?_) 0 rfl (by kernel_rfl) (by kernel_rfl) (by kernel_rfl) (by kernel_rfl) (by kernel_rfl) (fun _ _ _ h => h) (Or.inl ⟨by kernel_rfl, ?_⟩) (by assumption) ?_
    rotate_left
    · intro u _
      try simp only [List.getElem_toArray, List.getElem_cons_succ, List.getElem_cons_zero]
      go_simp
      try with_reducible rfl
    try simp only [Act.put, List.setIfInBounds_toArray, List.set_cons_zero, List.set_cons_succ]
    refine Stg.wpAnyL_free (i := 1) (v := ?_) 0 rfl (by kernel_rfl) (by kernel_rfl) (by kernel_rfl) (by kernel_rfl) (by kernel_rfl) (fun _ _ _ h => h) (Or.inl ⟨by kernel_rfl, ?_⟩) (by assumption) ?_
    rotate_left
    · intro u _
      try simp only [List.getElem_toArray, List.getElem_cons_succ, List.getElem_cons_zero]
      go_simp
      try with_reducible rfl
    try simp only [Act.put, List.setIfInBounds_toArray, List.set_cons_zero, List.set_cons_succ]
    refine Stg.wpAnyL_free (i := 2) (v := ?_) 0 rfl (by kernel_rfl) (by kernel_rfl) (by kernel_rfl) (by kernel_rfl) (by kernel_rfl) (fun _ _ _ h => h) (Or.inl ⟨by kernel_rfl, ?_⟩) (by assumption) ?_
    rotate_left
    · intro u _
      try simp only [List.getElem_toArray, List.getElem_cons_succ, List.getElem_cons_zero]
      go_simp
      try with_reducible rfl
    try simp only [Act.put, List.setIfInBounds_toArray, List.set_cons_zero, List.set_cons_succ]
    refine Stg.wpAnyL_start (n' := 9) (l' := #[true, true, true, false, false, false, false, false, false, false, false, false]) (by kernel_rfl) (by kernel_rfl) ?_
    refine Stg.wpAnyL_free (i := 3) (v := ?_) 0 rfl (by kernel_rfl) (by kernel_rfl) (by kernel_rfl) (by kernel_rfl) (by kernel_rfl) (fun _ _ _ h => h) (Or.inl ⟨by kernel_rfl, ?_⟩) (by assumption) ?_
    rotate_left
    · intro u _
      try simp only [List.getElem_toArray, List.getElem_cons_succ, List.getElem_cons_zero]
      go_simp
      try with_reducible rfl
    try simp only [Act.put, List.setIfInBounds_toArray, List.set_cons_zero, List.set_cons_succ]
    refine Stg.wpAnyL_take (i := 4) (v := ?_) [8, 9, 10, 11] 0 rfl (by kernel_rfl) (by kernel_rfl) (by kernel_rfl) (by kernel_rfl) (by kernel_rfl) (fun _ _ _ h => h) (Or.inl ⟨by kernel_rfl, ?_⟩) (by assumption) ?_
    rotate_left
    · intro u hSu
      skip
      have sB := hSu rfl
      have y0 := cellB sB y0
      have y1 := cellB sB y1
      have y2 := cellB sB y2
      have y3 := cellB sB y3
      have y4 := cellB sB y4
      have y5 := cellB sB y5
      have y6 := cellB sB y6
      have y7 := cellB sB y7
      have y8 := cellB sB y8
      have y9 := cellB sB y9
      have y10 := cellB sB y10
      have y11 := cellB sB y11
      have y12 := cellB sB y12
      have y13 := cellB sB y13
      have y14 := cellB sB c0
      try simp only [List.getElem_toArray, List.getElem_cons_succ, List.getElem_cons_zero]
      go_simp
      try with_reducible rfl
    try simp only [Act.put, List.setIfInBounds_toArray, List.set_cons_zero, List.set_cons_succ]
    refine Stg.wpAnyL_take (i := 5) (v := ?_) [6, 7, 8, 9, 10, 11] 0 rfl (by kernel_rfl) (by kernel_rfl) (by kernel_rfl) (by kernel_rfl) (by kernel_rfl) (fun _ _ _ h => h) (Or.inl ⟨by kernel_rfl, ?_⟩) (by assumption) ?_
    rotate_left
    · intro u hSu
      skip
      have sB := hSu rfl
      have y0 := cellB sB y0
      have y1 := cellB sB y1
      have y2 := cellB sB y2
      have y3 := cellB sB y3
      have y4 := cellB sB y4
      have y5 := cellB sB y5
      have y6 := cellB sB y6
      have y7 := cellB sB y7
      have y8 := cellB sB y8
      have y9 := cellB sB y9
      have y10 := cellB sB y10
      have y11 := cellB sB y11
      have y12 := cellB sB y12
      have y13 := cellB sB y13
      have y14 := cellB sB c0
      try simp only [List.getElem_toArray, List.getElem_cons_succ, List.getElem_cons_zero]
      go_simp
      try with_reducible rfl
    try simp only [Act.put, List.setIfInBounds_toArray, List.set_cons_zero, List.set_cons_succ]
    refine Stg.wpAnyL_start (n' := 6) (l' := #[true, true, true, true, true, true, false, false, false, false, false, false]) (by kernel_rfl) (by kernel_rfl) ?_
    refine Stg.wpAnyL_one (i := 6) 0 rfl (by kernel_rfl) (by kernel_rfl) (fun K hK => ?_)
    try simp only [List.getElem_toArray, List.getElem_cons_succ, List.getElem_cons_zero]
    go_simp
    refine (cp _).mono ?_
    rintro e w3 ⟨rfl, hb1⟩
    have h3 := h2.out.bel (bNext (hHeld rfl) hb1 (Nat.le_refl _))
    refine hK.out _ _ ?_ (fun hHeld1 => ?_)
    · exact fun _ => bNext (hHeld rfl) hb1 (Nat.le_refl _)
    clear hK K
    try simp only [Act.put, List.setIfInBounds_toArray, List.set_cons_zero, List.set_cons_succ]
    refine Stg.wpAnyL_one (i := 7) 0 rfl (by kernel_rfl) (by kernel_rfl) (fun K hK => ?_)
    try simp only [List.getElem_toArray, List.getElem_cons_succ, List.getElem_cons_zero]
    go_simp
    refine hK.out _ _ ?_ (fun hHeld2 => ?_)
    · exact fun _ => bNext (hHeld1 rfl) ((Below.refl _ _).alloc (Nat.le_refl _) _) (Nat.le_refl _)
    clear hK K
    try simp only [Act.put, List.setIfInBounds_toArray, List.set_cons_zero, List.set_cons_succ]
    refine Stg.wpAnyL_one (i := 8) 1 rfl (by kernel_rfl) (by kernel_rfl) (fun K hK => ?_)
    try simp only [List.getElem_toArray, List.getElem_cons_succ, List.getElem_cons_zero]
    rw [if_pos (by rfl)]
    refine wp_append_lies _ (.tmp 30) (.tmp 33) 49 rfl base 34 i0 _ 14 160 Try.underlying49 hi0 hz0 hz1 hz2 (by rfl) (by omega) _ _ _ (by rfl) (h3.own.alloc _) ⟨w3.heap.size, 0, none⟩ 1 1 (cellsM x) (by rfl) (by rfl) (World.news_of_block (cs := #[.int .i8 x.k, .int .i64 x.fr, .int .i64 x.to, .int .i64 x.te, .int .i64 x.ix, .int .i64 x.la, .int .i64 x.co, .bool x.ok, .slice none 0 0, .int .i64 x.si, .int .i64 x.st, .int .u8 x.su, .slice none 0 0, .slice none 0 0]) (t := 34) (fr := (0, 0)) (heap_alloc_new w3 _)) (cellsM_one x) (by omega) (by unfold maxLen; omega) (by omega) (by have := h3.h6; simp; omega) (w3.heap.size + 1) (by simp) ?_
    intro g1 cap1 w5 hown1 hgrow1 hat1 hlt1
    refine hK.out _ _ ?_ (fun hHeld3 => ?_)
    · exact fun h => absurd h (by decide)
    clear hK K
    try simp only [Act.put, List.setIfInBounds_toArray, List.set_cons_zero, List.set_cons_succ]
    refine Stg.wpAnyL_start (n' := 3) (l' := #[true, true, true, true, true, true, true, true, true, false, false, false]) (by kernel_rfl) (by kernel_rfl) ?_
    refine Stg.wpAnyL_free (i := 9) (v := ?_) 1 rfl (by kernel_rfl) (by kernel_rfl) (by kernel_rfl) (by kernel_rfl) (by kernel_rfl) (fun _ _ _ h => h) (Or.inl ⟨by kernel_rfl, ?_⟩) (by assumption) ?_
    rotate_left
    · intro u _
      try simp only [List.getElem_toArray, List.getElem_cons_succ, List.getElem_cons_zero]
      go_simp
      try with_reducible rfl
    try simp only [Act.put, List.setIfInBounds_toArray, List.set_cons_zero, List.set_cons_succ]
    refine Stg.wpAnyL_free (i := 10) (v := ?_) 1 rfl (by kernel_rfl) (by kernel_rfl) (by kernel_rfl) (by kernel_rfl) (by kernel_rfl) (fun _ _ _ h => h) (Or.inl ⟨by kernel_rfl, ?_⟩) (by assumption) ?_
    rotate_left
    · intro u _
      try simp only [List.getElem_toArray, List.getElem_cons_succ, List.getElem_cons_zero]
      go_simp
      try with_reducible rfl
    try simp only [Act.put, List.setIfInBounds_toArray, List.set_cons_zero, List.set_cons_succ]
    refine Stg.wpAnyL_one (i := 11) 2 rfl (by kernel_rfl) (by kernel_rfl) (fun K hK => ?_)
    obtain ⟨z0, z1⟩ := h3.grown hgrow1
    try simp only [List.getElem_toArray, List.getElem_cons_succ, List.getElem_cons_zero]
    go_simp
    refine hK.out _ _ ?_ (fun hHeld4 => ?_)
    · exact fun h => absurd h (by decide)
    clear hK K
    try simp only [Act.put, List.setIfInBounds_toArray, List.set_cons_zero, List.set_cons_succ]
    refine Stg.wpAnyL_done (by kernel_rfl) ?_ _
    try simp only [List.getElem_toArray, List.getElem_cons_succ, List.getElem_cons_zero]
    try simp only [Act.put, List.setIfInBounds_toArray, List.set_cons_zero, List.set_cons_succ]
    refine NoPanic.normal ?_
    obtain ⟨r1, r2⟩ := AirAt.send rfl (hat1.imp id (fun q => by omega)) h3 hgrow1 hown1
    have hfin := r2.pre (bNext hbm.out (bNext (hHeld rfl) hb1 (Nat.le_refl _)) (Nat.le_refl _)) hmw.out
    go_wp2_with fail
    go_ret
    exact ⟨_, rfl, r1, hfin⟩

end Go.Proofs.Ytnokojobiaddmaa
