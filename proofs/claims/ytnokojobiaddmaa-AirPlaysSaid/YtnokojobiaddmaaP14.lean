/- The air and the document: Double. -/
import Derived.Test.YtnokojobiaddmaaP13
namespace Go.Proofs.Ytnokojobiaddmaa
open Go.ChangeShapes Go.WideShapes Go.ChangeAt Go.RowKit Go.Maps
set_option linter.unusedVariables false
set_option linter.unusedSimpArgs false
open BigFrame Bs By Am Ar

set_option maxRecDepth 100000 in
set_option maxHeartbeats 8000000 in
theorem adouble_ok {s2 : Value} {w : World} {g base : Nat} {lv : Value} {l : List RM} (h : RA 59 s2 w g base lv l) (k : Nat) (x : Mg) (hk : k < l.length) (hx : TM w (l.getD k rm0) x) (hm : Sm x) (hn : l.length < 1024) :
    Calls Try.prog 15 #[.pointer (some ⟨g, 0, none⟩), .int .i64 (k : Nat)] w (SendP 59 s2 g base lv l x w) := by
  obtain ⟨i0, hi0, hz0, hz1, hz2⟩ := info_parts info_msg
  have hlk := Lib.hid (alook_ok h k x hk hx hm (by omega))
  have hni : (l.length : Int) < 1024 := by omega
  have hcase := h.shape2
  replace hk := Lib.hid hk
  clear hx hm
  rcases hcase with ⟨rfl, hl0⟩ | ⟨q, cap, rfl⟩
  · have := hk.out
    omega
  ·
    replace h := Lib.hid h
    go_enter Try.func15, Try.ntmps15
    go_wp2_with fail
    refine hlk.out.mono ?_
    rintro e w1 ⟨r, rfl, hT, hb1⟩
    have hal := (Below.refl w1.heap.size w1).alloc (Nat.le_refl _) (.cells #[.int .i8 x.f.k, .int .i64 x.f.fr, .int .i64 x.f.to, .int .i64 x.f.te, .int .i64 x.f.ix, .int .i64 x.f.la, .int .i64 x.f.co, .bool x.f.ok, .slice r.ea r.en r.ec, .int .i64 x.f.si, .int .i64 x.f.st, .int .u8 x.f.su, .slice r.sa r.sn r.sc, .slice r.da r.dn r.dc] 34)
    have h3 := (h.out.bel hb1).bel hal
    have b3 := HT.new w1 #[.int .i8 x.f.k, .int .i64 x.f.fr, .int .i64 x.f.to, .int .i64 x.f.te, .int .i64 x.f.ix, .int .i64 x.f.la, .int .i64 x.f.co, .bool x.f.ok, .slice r.ea r.en r.ec, .int .i64 x.f.si, .int .i64 x.f.st, .int .u8 x.f.su, .slice r.sa r.sn r.sc, .slice r.da r.dn r.dc] 34
    have hT3 : TM (w1.alloc (.cells #[.int .i8 x.f.k, .int .i64 x.f.fr, .int .i64 x.f.to, .int .i64 x.f.te, .int .i64 x.f.ix, .int .i64 x.f.la, .int .i64 x.f.co, .bool x.f.ok, .slice r.ea r.en r.ec, .int .i64 x.f.si, .int .i64 x.f.st, .int .u8 x.f.su, .slice r.sa r.sn r.sc, .slice r.da r.dn r.dc] 34)) ⟨x.f, r.ea, r.en, r.ec, r.sa, r.sn, r.sc, r.da, r.dn, r.dc⟩ x := by obtain ⟨rf, _⟩ := r; obtain rfl : rf = x.f := hT.f; exact hT.bel hal
    have hbm := bNext hb1 hal (Nat.le_refl _)
    have c0 := h3.c0
    replace h3 := Lib.hid h3
    replace b3 := Lib.hid b3
    replace hT3 := Lib.hid hT3
    replace hbm := Lib.hid hbm
    clear hlk hT hb1 hal h
    go_upto_region 1 with fail
    have b3 := b3.out
    have h3 := h3.out
    have hT := hT3.out
    have hbm := hbm.out
    clear hT3
    generalize (w1.alloc (.cells #[.int .i8 x.f.k, .int .i64 x.f.fr, .int .i64 x.f.to, .int .i64 x.f.te, .int .i64 x.f.ix, .int .i64 x.f.la, .int .i64 x.f.co, .bool x.f.ok, .slice r.ea r.en r.ec, .int .i64 x.f.si, .int .i64 x.f.st, .int .u8 x.f.su, .slice r.sa r.sn r.sc, .slice r.da r.dn r.dc] 34)) = W3 at b3 h3 hT hbm c0 ⊢
    generalize w1.heap.size = xb at b3 ⊢
    replace h3 := Lib.hid h3
    replace hT := Lib.hid hT
    replace hbm := Lib.hid hbm
    have y0 := b3.c 0 _ rfl
    have y1 := b3.c 1 _ rfl
    have y2 := b3.c 2 _ rfl
    have y3 := b3.c 3 _ rfl
    have y4 := b3.c 4 _ rfl
    have y5 := b3.c 5 _ rfl
    have y6 := b3.c 6 _ rfl
    have y7 := b3.c 7 _ rfl
    have y8 := b3.c 8 _ rfl
    have y9 := b3.c 9 _ rfl
    have y10 := b3.c 10 _ rfl
    have y11 := b3.c 11 _ rfl
    have y12 := b3.c 12 _ rfl
    have y13 := b3.c 13 _ rfl
    clear b3
    go_upto_region 6 with fail
    refine wp_region_noPanic ?_
    refine Stg.wp_region_L [7, 10] (Bs.SB W3) (by kernel_rfl) (fun _ => (Below.refl _ _).drew) (fun hHeld => ?_)
    refine Stg.wpAnyL_start (n' := 11) (l' := #[false, false, false, false, false, false, false, false, false, false, false]) (by kernel_rfl) (by kernel_rfl) ?_
    refine Stg.wpAnyL_free (i := 0) (v := ?_) 0 rfl (by kernel_rfl) (by kernel_rfl) (by kernel_rfl) (by kernel_rfl) (by kernel_rfl) (fun _ _ _ h => h) (Or.inl ⟨by kernel_rfl, ?_⟩) (by assumption) ?_
    rotate_left
    · intro u _
      try simp only [List.getElem_toArray, List.getElem_cons_succ, List.getElem_cons_zero]
      go_simp
      try with_reducible rfl
    try simp only [Act.put, List.setIfInBounds_toArray, List.set_cons_zero, List.set_cons_succ]
    refine Stg.wpAnyL_free (i := 1) (v := ?_) 0 rfl (by kernel_rfl) (by kernel_rfl) (by kernel_rfl) (by kernel_rfl) (by kernel_rfl) (fun _ _ _ h => h) (Or.inl ⟨by kernel_rfl, ?_⟩) (by assumption) ?_
    rotate_left
    · intro u _
      try simp only [List.getElem_toArray, List.getElem_cons_succ, List.getElem_cons_zero]
      go_simp
      try with_reducible rfl
    try simp only [Act.put, List.setIfInBounds_toArray, List.set_cons_zero, List.set_cons_succ]
    refine Stg.wpAnyL_free (i := 2) (v := ?_) 0 rfl (by kernel_rfl) (by kernel_rfl) (by kernel_rfl) (by kernel_rfl) (by kernel_rfl) (fun _ _ _ h => h) (Or.inl ⟨by kernel_rfl, ?_⟩) (by assumption) ?_
    rotate_left
    · intro u _
      try simp only [List.getElem_toArray, List.getElem_cons_succ, List.getElem_cons_zero]
      go_simp
      try with_reducible rfl
    try simp only [Act.put, List.setIfInBounds_toArray, List.set_cons_zero, List.set_cons_succ]
    refine Stg.wpAnyL_start (n' := 8) (l' := #[true, true, true, false, false, false, false, false, false, false, false]) (by kernel_rfl) (by kernel_rfl) ?_
    refine Stg.wpAnyL_free (i := 3) (v := ?_) 0 rfl (by kernel_rfl) (by kernel_rfl) (by kernel_rfl) (by kernel_rfl) (by kernel_rfl) (fun _ _ _ h => h) (Or.inl ⟨by kernel_rfl, ?_⟩) (by assumption) ?_
    rotate_left
    · intro u _
      try simp only [List.getElem_toArray, List.getElem_cons_succ, List.getElem_cons_zero]
      go_simp
      try with_reducible rfl
    try simp only [Act.put, List.setIfInBounds_toArray, List.set_cons_zero, List.set_cons_succ]
    refine Stg.wpAnyL_take (i := 4) (v := ?_) [7, 8, 9, 10] 0 rfl (by kernel_rfl) (by kernel_rfl) (by kernel_rfl) (by kernel_rfl) (by kernel_rfl) (fun _ _ _ h => h) (Or.inl ⟨by kernel_rfl, ?_⟩) (by assumption) ?_
    rotate_left
    · intro u hSu
      skip
      have sB := hSu rfl
      have y0 := cellB sB y0
      have y1 := cellB sB y1
      have y2 := cellB sB y2
      have y3 := cellB sB y3
      have y4 := cellB sB y4
      have y5 := cellB sB y5
      have y6 := cellB sB y6
      have y7 := cellB sB y7
      have y8 := cellB sB y8
      have y9 := cellB sB y9
      have y10 := cellB sB y10
      have y11 := cellB sB y11
      have y12 := cellB sB y12
      have y13 := cellB sB y13
      have y14 := cellB sB c0
      try simp only [List.getElem_toArray, List.getElem_cons_succ, List.getElem_cons_zero]
      go_simp
      try with_reducible rfl
    try simp only [Act.put, List.setIfInBounds_toArray, List.set_cons_zero, List.set_cons_succ]
    refine Stg.wpAnyL_take (i := 5) (v := ?_) [6, 7, 8, 9, 10] 0 rfl (by kernel_rfl) (by kernel_rfl) (by kernel_rfl) (by kernel_rfl) (by kernel_rfl) (fun _ _ _ h => h) (Or.inl ⟨by kernel_rfl, ?_⟩) (by assumption) ?_
    rotate_left
    · intro u hSu
      skip
      have sB := hSu rfl
      have y0 := cellB sB y0
      have y1 := cellB sB y1
      have y2 := cellB sB y2
      have y3 := cellB sB y3
      have y4 := cellB sB y4
      have y5 := cellB sB y5
      have y6 := cellB sB y6
      have y7 := cellB sB y7
      have y8 := cellB sB y8
      have y9 := cellB sB y9
      have y10 := cellB sB y10
      have y11 := cellB sB y11
      have y12 := cellB sB y12
      have y13 := cellB sB y13
      have y14 := cellB sB c0
      try simp only [List.getElem_toArray, List.getElem_cons_succ, List.getElem_cons_zero]
      go_simp
      try with_reducible rfl
    try simp only [Act.put, List.setIfInBounds_toArray, List.set_cons_zero, List.set_cons_succ]
    refine Stg.wpAnyL_start (n' := 5) (l' := #[true, true, true, true, true, true, false, false, false, false, false]) (by kernel_rfl) (by kernel_rfl) ?_
    refine Stg.wpAnyL_one (i := 6) 0 rfl (by kernel_rfl) (by kernel_rfl) (fun K hK => ?_)
    try simp only [List.getElem_toArray, List.getElem_cons_succ, List.getElem_cons_zero]
    go_simp
    refine hK.out _ _ ?_ (fun hHeld1 => ?_)
    · exact fun _ => bNext (hHeld rfl) ((Below.refl _ _).alloc (Nat.le_refl _) _) (Nat.le_refl _)
    clear hK K
    try simp only [Act.put, List.setIfInBounds_toArray, List.set_cons_zero, List.set_cons_succ]
    refine Stg.wpAnyL_one (i := 7) 1 rfl (by kernel_rfl) (by kernel_rfl) (fun K hK => ?_)
    try simp only [List.getElem_toArray, List.getElem_cons_succ, List.getElem_cons_zero]
    rw [if_pos (by rfl)]
    refine wp_append_lies _ (.tmp 28) (.tmp 30) 49 rfl base 34 i0 _ 14 160 Try.underlying49 hi0 hz0 hz1 hz2 (by rfl) (by omega) _ _ _ (by kernel_rfl) (h3.out.own.drew.alloc _) ⟨W3.drew.heap.size, 0, none⟩ 1 1 (cellsM ⟨x.f, r.ea, r.en, r.ec, r.sa, r.sn, r.sc, r.da, r.dn, r.dc⟩) (by kernel_rfl) (by rfl) (World.news_of_block (cs := #[.int .i8 x.f.k, .int .i64 x.f.fr, .int .i64 x.f.to, .int .i64 x.f.te, .int .i64 x.f.ix, .int .i64 x.f.la, .int .i64 x.f.co, .bool x.f.ok, .slice r.ea r.en r.ec, .int .i64 x.f.si, .int .i64 x.f.st, .int .u8 x.f.su, .slice r.sa r.sn r.sc, .slice r.da r.dn r.dc]) (t := 34) (fr := (0, 0)) (heap_alloc_new W3.drew _)) (cellsM_one _) (by omega) (by unfold maxLen; omega) (by omega) (by have := h3.out.h6; simp; omega) (W3.drew.heap.size + 1) (by simp) ?_
    intro g1 cap1 w5 hown1 hgrow1 hat1 hlt1
    refine hK.out _ _ ?_ (fun hHeld2 => ?_)
    · exact fun h => absurd h (by decide)
    clear hK K
    try simp only [Act.put, List.setIfInBounds_toArray, List.set_cons_zero, List.set_cons_succ]
    refine Stg.wpAnyL_free (i := 8) (v := ?_) 1 rfl (by kernel_rfl) (by kernel_rfl) (by kernel_rfl) (by kernel_rfl) (by kernel_rfl) (fun _ _ _ h => h) (Or.inl ⟨by kernel_rfl, ?_⟩) (by assumption) ?_
    rotate_left
    · intro u _
      try simp only [List.getElem_toArray, List.getElem_cons_succ, List.getElem_cons_zero]
      go_simp
      try with_reducible rfl
    try simp only [Act.put, List.setIfInBounds_toArray, List.set_cons_zero, List.set_cons_succ]
    refine Stg.wpAnyL_start (n' := 2) (l' := #[true, true, true, true, true, true, true, true, true, false, false]) (by kernel_rfl) (by kernel_rfl) ?_
    refine Stg.wpAnyL_free (i := 9) (v := ?_) 1 rfl (by kernel_rfl) (by kernel_rfl) (by kernel_rfl) (by kernel_rfl) (by kernel_rfl) (fun _ _ _ h => h) (Or.inl ⟨by kernel_rfl, ?_⟩) (by assumption) ?_
    rotate_left
    · intro u _
      try simp only [List.getElem_toArray, List.getElem_cons_succ, List.getElem_cons_zero]
      go_simp
      try with_reducible rfl
    try simp only [Act.put, List.setIfInBounds_toArray, List.set_cons_zero, List.set_cons_succ]
    refine Stg.wpAnyL_one (i := 10) 2 rfl (by kernel_rfl) (by kernel_rfl) (fun K hK => ?_)
    obtain ⟨z0, z1⟩ := (h3.out.bel (Below.refl W3.heap.size W3).drew).grown hgrow1
    try simp only [List.getElem_toArray, List.getElem_cons_succ, List.getElem_cons_zero]
    go_simp
    refine hK.out _ _ ?_ (fun hHeld3 => ?_)
    · exact fun h => absurd h (by decide)
    clear hK K
    try simp only [Act.put, List.setIfInBounds_toArray, List.set_cons_zero, List.set_cons_succ]
    refine Stg.wpAnyL_done (by kernel_rfl) ?_ _
    try simp only [List.getElem_toArray, List.getElem_cons_succ, List.getElem_cons_zero]
    try simp only [Act.put, List.setIfInBounds_toArray, List.set_cons_zero, List.set_cons_succ]
    refine NoPanic.normal ?_
    have hd := h3.out.bel (Below.refl W3.heap.size W3).drew
    obtain ⟨r1, r2⟩ := RA.send rfl (hat1.imp id (fun q => by rw [q]; exact Nat.le_succ _)) hd hgrow1 hown1
    have tf := r2.tf (hd.types (by decide) (by decide)) hd.own
    have hTM2 := (hT.out.bel (Below.refl W3.heap.size W3).drew).tf tf
    have hfin := r2.pre hbm.out.drew
    go_wp2_with fail
    go_ret
    exact ⟨_, _, rfl, r1, hTM2, hfin⟩

set_option maxRecDepth 100000 in
set_option maxHeartbeats 8000000 in
theorem adouble_full {s2 : Value} {w : World} {g base : Nat} {lv : Value} {l : List RM} (h : RA 59 s2 w g base lv l) (k : Nat) (x : Mg) (hk : k < l.length) (hx : TM w (l.getD k rm0) x) (hm : Sm x) (hn : l.length = 1024) :
    Calls Try.prog 15 #[.pointer (some ⟨g, 0, none⟩), .int .i64 (k : Nat)] w (SendN 100 w) := by
  have hlk := Lib.hid (alook_ok h k x hk hx hm (by omega))
  have hni : (l.length : Int) ≤ 1024 := by omega
  have hcase := h.shape2
  replace hk := Lib.hid hk
  clear hx hm
  rcases hcase with ⟨rfl, hl0⟩ | ⟨q, cap, rfl⟩
  · have := hk.out
    omega
  ·
    replace h := Lib.hid h
    go_enter Try.func15, Try.ntmps15
    go_wp2_with fail
    refine hlk.out.mono ?_
    rintro e w1 ⟨r, rfl, hT, hb1⟩
    have hal := (Below.refl w1.heap.size w1).alloc (Nat.le_refl _) (.cells #[.int .i8 x.f.k, .int .i64 x.f.fr, .int .i64 x.f.to, .int .i64 x.f.te, .int .i64 x.f.ix, .int .i64 x.f.la, .int .i64 x.f.co, .bool x.f.ok, .slice r.ea r.en r.ec, .int .i64 x.f.si, .int .i64 x.f.st, .int .u8 x.f.su, .slice r.sa r.sn r.sc, .slice r.da r.dn r.dc] 34)
    have h3 := (h.out.bel hb1).bel hal
    have b3 := HT.new w1 #[.int .i8 x.f.k, .int .i64 x.f.fr, .int .i64 x.f.to, .int .i64 x.f.te, .int .i64 x.f.ix, .int .i64 x.f.la, .int .i64 x.f.co, .bool x.f.ok, .slice r.ea r.en r.ec, .int .i64 x.f.si, .int .i64 x.f.st, .int .u8 x.f.su, .slice r.sa r.sn r.sc, .slice r.da r.dn r.dc] 34
    have hT3 : TM (w1.alloc (.cells #[.int .i8 x.f.k, .int .i64 x.f.fr, .int .i64 x.f.to, .int .i64 x.f.te, .int .i64 x.f.ix, .int .i64 x.f.la, .int .i64 x.f.co, .bool x.f.ok, .slice r.ea r.en r.ec, .int .i64 x.f.si, .int .i64 x.f.st, .int .u8 x.f.su, .slice r.sa r.sn r.sc, .slice r.da r.dn r.dc] 34)) ⟨x.f, r.ea, r.en, r.ec, r.sa, r.sn, r.sc, r.da, r.dn, r.dc⟩ x := by obtain ⟨rf, _⟩ := r; obtain rfl : rf = x.f := hT.f; exact hT.bel hal
    have hbm := bNext hb1 hal (Nat.le_refl _)
    have c0 := h3.c0
    rw [hn] at c0
    replace hn := Lib.hid hn
    replace h3 := Lib.hid h3
    replace b3 := Lib.hid b3
    replace hT3 := Lib.hid hT3
    replace hbm := Lib.hid hbm
    clear hlk hT hb1 hal h
    go_upto_region 1 with fail
    have b3 := b3.out
    have h3 := h3.out
    have hT := hT3.out
    have hbm := hbm.out
    clear hT3
    generalize (w1.alloc (.cells #[.int .i8 x.f.k, .int .i64 x.f.fr, .int .i64 x.f.to, .int .i64 x.f.te, .int .i64 x.f.ix, .int .i64 x.f.la, .int .i64 x.f.co, .bool x.f.ok, .slice r.ea r.en r.ec, .int .i64 x.f.si, .int .i64 x.f.st, .int .u8 x.f.su, .slice r.sa r.sn r.sc, .slice r.da r.dn r.dc] 34)) = W3 at b3 h3 hT hbm c0 ⊢
    generalize w1.heap.size = xb at b3 ⊢
    replace h3 := Lib.hid h3
    replace hT := Lib.hid hT
    replace hbm := Lib.hid hbm
    have y0 := b3.c 0 _ rfl
    have y1 := b3.c 1 _ rfl
    have y2 := b3.c 2 _ rfl
    have y3 := b3.c 3 _ rfl
    have y4 := b3.c 4 _ rfl
    have y5 := b3.c 5 _ rfl
    have y6 := b3.c 6 _ rfl
    have y7 := b3.c 7 _ rfl
    have y8 := b3.c 8 _ rfl
    have y9 := b3.c 9 _ rfl
    have y10 := b3.c 10 _ rfl
    have y11 := b3.c 11 _ rfl
    have y12 := b3.c 12 _ rfl
    have y13 := b3.c 13 _ rfl
    clear b3
    go_wp2_with fail
    go_ret
    exact ⟨rfl, hbm.out⟩

set_option maxRecDepth 100000 in
set_option maxHeartbeats 4000000 in
theorem adouble_no {s2 : Value} {w : World} {g base : Nat} {lv : Value} {l : List RM} (h : RA 59 s2 w g base lv l) (k : Int) (hk : k < 0 ∨ (l.length : Int) ≤ k) :
    Calls Try.prog 15 #[.pointer (some ⟨g, 0, none⟩), .int .i64 k] w (SendN 4 w) := by
  have hlk := Lib.hid (alook_no h k hk)
  clear h hk
  go_enter Try.func15, Try.ntmps15
  go_wp2_with fail
  refine hlk.out.mono ?_
  rintro e w1 ⟨rfl, hb1⟩
  have hbm := Lib.hid (bNext hb1 ((Below.refl w1.heap.size w1).alloc (Nat.le_refl _) (.cells #[.int .i8 0, .int .i64 0, .int .i64 0, .int .i64 0, .int .i64 0, .int .i64 0, .int .i64 0, .bool false, .slice none 0 0, .int .i64 0, .int .i64 0, .int .u8 0, .slice none 0 0, .slice none 0 0] 34)) (Nat.le_refl _))
  clear hlk hb1
  go_wp2_with fail
  go_ret
  exact ⟨rfl, hbm.out⟩

set_option maxRecDepth 100000 in
set_option maxHeartbeats 8000000 in
theorem rdouble_ok {s2 : Value} {w : World} {g base : Nat} {lv : Value} {l : List RM} (h : RA 52 s2 w g base lv l) (k : Nat) (x : Mg) (hk : k < l.length) (hx : TM w (l.getD k rm0) x) (hm : Sm x) (hn : l.length < 1024) :
    Calls Try.prog 31 #[.pointer (some ⟨g, 0, none⟩), .int .i64 (k : Nat)] w (SendP 52 s2 g base lv l x w) := by
  obtain ⟨i0, hi0, hz0, hz1, hz2⟩ := info_parts info_msg
  have hlk := Lib.hid (rlook_ok h k x hk hx hm (by omega))
  have hni : (l.length : Int) < 1024 := by omega
  have hcase := h.shape2
  replace hk := Lib.hid hk
  clear hx hm
  rcases hcase with ⟨rfl, hl0⟩ | ⟨q, cap, rfl⟩
  · have := hk.out
    omega
  ·
    replace h := Lib.hid h
    go_enter Try.func31, Try.ntmps31
    go_wp2_with fail
    refine hlk.out.mono ?_
    rintro e w1 ⟨r, rfl, hT, hb1⟩
    have hal := (Below.refl w1.heap.size w1).alloc (Nat.le_refl _) (.cells #[.int .i8 x.f.k, .int .i64 x.f.fr, .int .i64 x.f.to, .int .i64 x.f.te, .int .i64 x.f.ix, .int .i64 x.f.la, .int .i64 x.f.co, .bool x.f.ok, .slice r.ea r.en r.ec, .int .i64 x.f.si, .int .i64 x.f.st, .int .u8 x.f.su, .slice r.sa r.sn r.sc, .slice r.da r.dn r.dc] 34)
    have h3 := (h.out.bel hb1).bel hal
    have b3 := HT.new w1 #[.int .i8 x.f.k, .int .i64 x.f.fr, .int .i64 x.f.to, .int .i64 x.f.te, .int .i64 x.f.ix, .int .i64 x.f.la, .int .i64 x.f.co, .bool x.f.ok, .slice r.ea r.en r.ec, .int .i64 x.f.si, .int .i64 x.f.st, .int .u8 x.f.su, .slice r.sa r.sn r.sc, .slice r.da r.dn r.dc] 34
    have hT3 : TM (w1.alloc (.cells #[.int .i8 x.f.k, .int .i64 x.f.fr, .int .i64 x.f.to, .int .i64 x.f.te, .int .i64 x.f.ix, .int .i64 x.f.la, .int .i64 x.f.co, .bool x.f.ok, .slice r.ea r.en r.ec, .int .i64 x.f.si, .int .i64 x.f.st, .int .u8 x.f.su, .slice r.sa r.sn r.sc, .slice r.da r.dn r.dc] 34)) ⟨x.f, r.ea, r.en, r.ec, r.sa, r.sn, r.sc, r.da, r.dn, r.dc⟩ x := by obtain ⟨rf, _⟩ := r; obtain rfl : rf = x.f := hT.f; exact hT.bel hal
    have hbm := bNext hb1 hal (Nat.le_refl _)
    have c0 := h3.c0
    replace h3 := Lib.hid h3
    replace b3 := Lib.hid b3
    replace hT3 := Lib.hid hT3
    replace hbm := Lib.hid hbm
    clear hlk hT hb1 hal h
    go_upto_region 1 with fail
    have b3 := b3.out
    have h3 := h3.out
    have hT := hT3.out
    have hbm := hbm.out
    clear hT3
    generalize (w1.alloc (.cells #[.int .i8 x.f.k, .int .i64 x.f.fr, .int .i64 x.f.to, .int .i64 x.f.te, .int .i64 x.f.ix, .int .i64 x.f.la, .int .i64 x.f.co, .bool x.f.ok, .slice r.ea r.en r.ec, .int .i64 x.f.si, .int .i64 x.f.st, .int .u8 x.f.su, .slice r.sa r.sn r.sc, .slice r.da r.dn r.dc] 34)) = W3 at b3 h3 hT hbm c0 ⊢
    generalize w1.heap.size = xb at b3 ⊢
    replace h3 := Lib.hid h3
    replace hT := Lib.hid hT
    replace hbm := Lib.hid hbm
    have y0 := b3.c 0 _ rfl
    have y1 := b3.c 1 _ rfl
    have y2 := b3.c 2 _ rfl
    have y3 := b3.c 3 _ rfl
    have y4 := b3.c 4 _ rfl
    have y5 := b3.c 5 _ rfl
    have y6 := b3.c 6 _ rfl
    have y7 := b3.c 7 _ rfl
    have y8 := b3.c 8 _ rfl
    have y9 := b3.c 9 _ rfl
    have y10 := b3.c 10 _ rfl
    have y11 := b3.c 11 _ rfl
    have y12 := b3.c 12 _ rfl
    have y13 := b3.c 13 _ rfl
    clear b3
    go_upto_region 6 with fail
    refine wp_region_noPanic ?_
    refine Stg.wp_region_L [7, 10] (Bs.SB W3) (by kernel_rfl) (fun _ => (Below.refl _ _).drew) (fun hHeld => ?_)
    refine Stg.wpAnyL_start (n' := 11) (l' := #[false, false, false, false, false, false, false, false, false, false, false]) (by kernel_rfl) (by kernel_rfl) ?_
    refine Stg.wpAnyL_free (i := 0) (v := ?_) 0 rfl (by kernel_rfl) (by kernel_rfl) (by kernel_rfl) (by kernel_rfl) (by kernel_rfl) (fun _ _ _ h => h) (Or.inl ⟨by kernel_rfl, ?_⟩) (by assumption) ?_
    rotate_left
    · intro u _
      try simp only [List.getElem_toArray, List.getElem_cons_succ, List.getElem_cons_zero]
      go_simp
      try with_reducible rfl
    try simp only [Act.put, List.setIfInBounds_toArray, List.set_cons_zero, List.set_cons_succ]
    refine Stg.wpAnyL_free (i := 1) (v := ?_) 0 rfl (by kernel_rfl) (by kernel_rfl) (by kernel_rfl) (by kernel_rfl) (by kernel_rfl) (fun _ _ _ h => h) (Or.inl ⟨by kernel_rfl, ?_⟩) (by assumption) ?_
    rotate_left
    · intro u _
      try simp only [List.getElem_toArray, List.getElem_cons_succ, List.getElem_cons_zero]
      go_simp
      try with_reducible rfl
    try simp only [Act.put, List.setIfInBounds_toArray, List.set_cons_zero, List.set_cons_succ]
    refine Stg.wpAnyL_free (i := 2) (v := ?_) 0 rfl (by kernel_rfl) (by kernel_rfl) (by kernel_rfl) (by kernel_rfl) (by kernel_rfl) (fun _ _ _ h => h) (Or.inl ⟨by kernel_rfl, ?_⟩) (by assumption) ?_
    rotate_left
    · intro u _
      try simp only [List.getElem_toArray, List.getElem_cons_succ, List.getElem_cons_zero]
      go_simp
      try with_reducible rfl
    try simp only [Act.put, List.setIfInBounds_toArray, List.set_cons_zero, List.set_cons_succ]
    refine Stg.wpAnyL_start (n' := 8) (l' := #[true, true, true, false, false, false, false, false, false, false, false]) (by kernel_rfl) (by kernel_rfl) ?_
    refine Stg.wpAnyL_free (i := 3) (v := ?_) 0 rfl (by kernel_rfl) (by kernel_rfl) (by kernel_rfl) (by kernel_rfl) (by kernel_rfl) (fun _ _ _ h => h) (Or.inl ⟨by kernel_rfl, ?_⟩) (by assumption) ?_
    rotate_left
    · intro u _
      try simp only [List.getElem_toArray, List.getElem_cons_succ, List.getElem_cons_zero]
      go_simp
      try with_reducible rfl
    try simp only [Act.put, List.setIfInBounds_toArray, List.set_cons_zero, List.set_cons_succ]
    refine Stg.wpAnyL_take (i := 4) (v := ?_) [7, 8, 9, 10] 0 rfl (by kernel_rfl) (by kernel_rfl) (by kernel_rfl) (by kernel_rfl) (by kernel_rfl) (fun _ _ _ h => h) (Or.inl ⟨by kernel_rfl, ?_⟩) (by assumption) ?_
    rotate_left
    · intro u hSu
      skip
      have sB := hSu rfl
      have y0 := cellB sB y0
      have y1 := cellB sB y1
      have y2 := cellB sB y2
      have y3 := cellB sB y3
      have y4 := cellB sB y4
      have y5 := cellB sB y5
      have y6 := cellB sB y6
      have y7 := cellB sB y7
      have y8 := cellB sB y8
      have y9 := cellB sB y9
      have y10 := cellB sB y10
      have y11 := cellB sB y11
      have y12 := cellB sB y12
      have y13 := cellB sB y13
      have y14 := cellB sB c0
      try simp only [List.getElem_toArray, List.getElem_cons_succ, List.getElem_cons_zero]
      go_simp
      try with_reducible rfl
    try simp only [Act.put, List.setIfInBounds_toArray, List.set_cons_zero, List.set_cons_succ]
    refine Stg.wpAnyL_take (i := 5) (v := ?_) [6, 7, 8, 9, 10] 0 rfl (by kernel_rfl) (by kernel_rfl) (by kernel_rfl) (by kernel_rfl) (by kernel_rfl) (fun _ _ _ h => h) (Or.inl ⟨by kernel_rfl, ?_⟩) (by assumption) ?_
    rotate_left
    · intro u hSu
      skip
      have sB := hSu rfl
      have y0 := cellB sB y0
      have y1 := cellB sB y1
      have y2 := cellB sB y2
      have y3 := cellB sB y3
      have y4 := cellB sB y4
      have y5 := cellB sB y5
      have y6 := cellB sB y6
      have y7 := cellB sB y7
      have y8 := cellB sB y8
      have y9 := cellB sB y9
      have y10 := cellB sB y10
      have y11 := cellB sB y11
      have y12 := cellB sB y12
      have y13 := cellB sB y13
      have y14 := cellB sB c0
      try simp only [List.getElem_toArray, List.getElem_cons_succ, List.getElem_cons_zero]
      go_simp
      try with_reducible rfl
    try simp only [Act.put, List.setIfInBounds_toArray, List.set_cons_zero, List.set_cons_succ]
    refine Stg.wpAnyL_start (n' := 5) (l' := #[true, true, true, true, true, true, false, false, false, false, false]) (by kernel_rfl) (by kernel_rfl) ?_
    refine Stg.wpAnyL_one (i := 6) 0 rfl (by kernel_rfl) (by kernel_rfl) (fun K hK => ?_)
    try simp only [List.getElem_toArray, List.getElem_cons_succ, List.getElem_cons_zero]
    go_simp
    refine hK.out _ _ ?_ (fun hHeld1 => ?_)
    · exact fun _ => bNext (hHeld rfl) ((Below.refl _ _).alloc (Nat.le_refl _) _) (Nat.le_refl _)
    clear hK K
    try simp only [Act.put, List.setIfInBounds_toArray, List.set_cons_zero, List.set_cons_succ]
    refine Stg.wpAnyL_one (i := 7) 1 rfl (by kernel_rfl) (by kernel_rfl) (fun K hK => ?_)
    try simp only [List.getElem_toArray, List.getElem_cons_succ, List.getElem_cons_zero]
    rw [if_pos (by rfl)]
    refine wp_append_lies _ (.tmp 26) (.tmp 28) 49 rfl base 34 i0 _ 14 160 Try.underlying49 hi0 hz0 hz1 hz2 (by rfl) (by omega) _ _ _ (by kernel_rfl) (h3.out.own.drew.alloc _) ⟨W3.drew.heap.size, 0, none⟩ 1 1 (cellsM ⟨x.f, r.ea, r.en, r.ec, r.sa, r.sn, r.sc, r.da, r.dn, r.dc⟩) (by kernel_rfl) (by rfl) (World.news_of_block (cs := #[.int .i8 x.f.k, .int .i64 x.f.fr, .int .i64 x.f.to, .int .i64 x.f.te, .int .i64 x.f.ix, .int .i64 x.f.la, .int .i64 x.f.co, .bool x.f.ok, .slice r.ea r.en r.ec, .int .i64 x.f.si, .int .i64 x.f.st, .int .u8 x.f.su, .slice r.sa r.sn r.sc, .slice r.da r.dn r.dc]) (t := 34) (fr := (0, 0)) (heap_alloc_new W3.drew _)) (cellsM_one _) (by omega) (by unfold maxLen; omega) (by omega) (by have := h3.out.h6; simp; omega) (W3.drew.heap.size + 1) (by simp) ?_
    intro g1 cap1 w5 hown1 hgrow1 hat1 hlt1
    refine hK.out _ _ ?_ (fun hHeld2 => ?_)
    · exact fun h => absurd h (by decide)
    clear hK K
    try simp only [Act.put, List.setIfInBounds_toArray, List.set_cons_zero, List.set_cons_succ]
    refine Stg.wpAnyL_free (i := 8) (v := ?_) 1 rfl (by kernel_rfl) (by kernel_rfl) (by kernel_rfl) (by kernel_rfl) (by kernel_rfl) (fun _ _ _ h => h) (Or.inl ⟨by kernel_rfl, ?_⟩) (by assumption) ?_
    rotate_left
    · intro u _
      try simp only [List.getElem_toArray, List.getElem_cons_succ, List.getElem_cons_zero]
      go_simp
      try with_reducible rfl
    try simp only [Act.put, List.setIfInBounds_toArray, List.set_cons_zero, List.set_cons_succ]
    refine Stg.wpAnyL_start (n' := 2) (l' := #[true, true, true, true, true, true, true, true, true, false, false]) (by kernel_rfl) (by kernel_rfl) ?_
    refine Stg.wpAnyL_free (i := 9) (v := ?_) 1 rfl (by kernel_rfl) (by kernel_rfl) (by kernel_rfl) (by kernel_rfl) (by kernel_rfl) (fun _ _ _ h => h) (Or.inl ⟨by kernel_rfl, ?_⟩) (by assumption) ?_
    rotate_left
    · intro u _
      try simp only [List.getElem_toArray, List.getElem_cons_succ, List.getElem_cons_zero]
      go_simp
      try with_reducible rfl
    try simp only [Act.put, List.setIfInBounds_toArray, List.set_cons_zero, List.set_cons_succ]
    refine Stg.wpAnyL_one (i := 10) 2 rfl (by kernel_rfl) (by kernel_rfl) (fun K hK => ?_)
    obtain ⟨z0, z1⟩ := (h3.out.bel (Below.refl W3.heap.size W3).drew).grown hgrow1
    try simp only [List.getElem_toArray, List.getElem_cons_succ, List.getElem_cons_zero]
    go_simp
    refine hK.out _ _ ?_ (fun hHeld3 => ?_)
    · exact fun h => absurd h (by decide)
    clear hK K
    try simp only [Act.put, List.setIfInBounds_toArray, List.set_cons_zero, List.set_cons_succ]
    refine Stg.wpAnyL_done (by kernel_rfl) ?_ _
    try simp only [List.getElem_toArray, List.getElem_cons_succ, List.getElem_cons_zero]
    try simp only [Act.put, List.setIfInBounds_toArray, List.set_cons_zero, List.set_cons_succ]
    refine NoPanic.normal ?_
    have hd := h3.out.bel (Below.refl W3.heap.size W3).drew
    obtain ⟨r1, r2⟩ := RA.send rfl (hat1.imp id (fun q => by rw [q]; exact Nat.le_succ _)) hd hgrow1 hown1
    have tf := r2.tf (hd.types (by decide) (by decide)) hd.own
    have hTM2 := (hT.out.bel (Below.refl W3.heap.size W3).drew).tf tf
    have hfin := r2.pre hbm.out.drew
    go_wp2_with fail
    go_ret
    exact ⟨_, _, rfl, r1, hTM2, hfin⟩

set_option maxRecDepth 100000 in
set_option maxHeartbeats 8000000 in
theorem rdouble_full {s2 : Value} {w : World} {g base : Nat} {lv : Value} {l : List RM} (h : RA 52 s2 w g base lv l) (k : Nat) (x : Mg) (hk : k < l.length) (hx : TM w (l.getD k rm0) x) (hm : Sm x) (hn : l.length = 1024) :
    Calls Try.prog 31 #[.pointer (some ⟨g, 0, none⟩), .int .i64 (k : Nat)] w (SendN 100 w) := by
  have hlk := Lib.hid (rlook_ok h k x hk hx hm (by omega))
  have hni : (l.length : Int) ≤ 1024 := by omega
  have hcase := h.shape2
  replace hk := Lib.hid hk
  clear hx hm
  rcases hcase with ⟨rfl, hl0⟩ | ⟨q, cap, rfl⟩
  · have := hk.out
    omega
  ·
    replace h := Lib.hid h
    go_enter Try.func31, Try.ntmps31
    go_wp2_with fail
    refine hlk.out.mono ?_
    rintro e w1 ⟨r, rfl, hT, hb1⟩
    have hal := (Below.refl w1.heap.size w1).alloc (Nat.le_refl _) (.cells #[.int .i8 x.f.k, .int .i64 x.f.fr, .int .i64 x.f.to, .int .i64 x.f.te, .int .i64 x.f.ix, .int .i64 x.f.la, .int .i64 x.f.co, .bool x.f.ok, .slice r.ea r.en r.ec, .int .i64 x.f.si, .int .i64 x.f.st, .int .u8 x.f.su, .slice r.sa r.sn r.sc, .slice r.da r.dn r.dc] 34)
    have h3 := (h.out.bel hb1).bel hal
    have b3 := HT.new w1 #[.int .i8 x.f.k, .int .i64 x.f.fr, .int .i64 x.f.to, .int .i64 x.f.te, .int .i64 x.f.ix, .int .i64 x.f.la, .int .i64 x.f.co, .bool x.f.ok, .slice r.ea r.en r.ec, .int .i64 x.f.si, .int .i64 x.f.st, .int .u8 x.f.su, .slice r.sa r.sn r.sc, .slice r.da r.dn r.dc] 34
    have hT3 : TM (w1.alloc (.cells #[.int .i8 x.f.k, .int .i64 x.f.fr, .int .i64 x.f.to, .int .i64 x.f.te, .int .i64 x.f.ix, .int .i64 x.f.la, .int .i64 x.f.co, .bool x.f.ok, .slice r.ea r.en r.ec, .int .i64 x.f.si, .int .i64 x.f.st, .int .u8 x.f.su, .slice r.sa r.sn r.sc, .slice r.da r.dn r.dc] 34)) ⟨x.f, r.ea, r.en, r.ec, r.sa, r.sn, r.sc, r.da, r.dn, r.dc⟩ x := by obtain ⟨rf, _⟩ := r; obtain rfl : rf = x.f := hT.f; exact hT.bel hal
    have hbm := bNext hb1 hal (Nat.le_refl _)
    have c0 := h3.c0
    rw [hn] at c0
    replace hn := Lib.hid hn
    replace h3 := Lib.hid h3
    replace b3 := Lib.hid b3
    replace hT3 := Lib.hid hT3
    replace hbm := Lib.hid hbm
    clear hlk hT hb1 hal h
    go_upto_region 1 with fail
    have b3 := b3.out
    have h3 := h3.out
    have hT := hT3.out
    have hbm := hbm.out
    clear hT3
    generalize (w1.alloc (.cells #[.int .i8 x.f.k, .int .i64 x.f.fr, .int .i64 x.f.to, .int .i64 x.f.te, .int .i64 x.f.ix, .int .i64 x.f.la, .int .i64 x.f.co, .bool x.f.ok, .slice r.ea r.en r.ec, .int .i64 x.f.si, .int .i64 x.f.st, .int .u8 x.f.su, .slice r.sa r.sn r.sc, .slice r.da r.dn r.dc] 34)) = W3 at b3 h3 hT hbm c0 ⊢
    generalize w1.heap.size = xb at b3 ⊢
    replace h3 := Lib.hid h3
    replace hT := Lib.hid hT
    replace hbm := Lib.hid hbm
    have y0 := b3.c 0 _ rfl
    have y1 := b3.c 1 _ rfl
    have y2 := b3.c 2 _ rfl
    have y3 := b3.c 3 _ rfl
    have y4 := b3.c 4 _ rfl
    have y5 := b3.c 5 _ rfl
    have y6 := b3.c 6 _ rfl
    have y7 := b3.c 7 _ rfl
    have y8 := b3.c 8 _ rfl
    have y9 := b3.c 9 _ rfl
    have y10 := b3.c 10 _ rfl
    have y11 := b3.c 11 _ rfl
    have y12 := b3.c 12 _ rfl
    have y13 := b3.c 13 _ rfl
    clear b3
    go_wp2_with fail
    go_ret
    exact ⟨rfl, hbm.out⟩

set_option maxRecDepth 100000 in
set_option maxHeartbeats 4000000 in
theorem rdouble_no {s2 : Value} {w : World} {g base : Nat} {lv : Value} {l : List RM} (h : RA 52 s2 w g base lv l) (k : Int) (hk : k < 0 ∨ (l.length : Int) ≤ k) :
    Calls Try.prog 31 #[.pointer (some ⟨g, 0, none⟩), .int .i64 k] w (SendN 4 w) := by
  have hlk := Lib.hid (rlook_no h k hk)
  clear h hk
  go_enter Try.func31, Try.ntmps31
  go_wp2_with fail
  refine hlk.out.mono ?_
  rintro e w1 ⟨rfl, hb1⟩
  have hbm := Lib.hid (bNext hb1 ((Below.refl w1.heap.size w1).alloc (Nat.le_refl _) (.cells #[.int .i8 0, .int .i64 0, .int .i64 0, .int .i64 0, .int .i64 0, .int .i64 0, .int .i64 0, .bool false, .slice none 0 0, .int .i64 0, .int .i64 0, .int .u8 0, .slice none 0 0, .slice none 0 0] 34)) (Nat.le_refl _))
  clear hlk hb1
  go_wp2_with fail
  go_ret
  exact ⟨rfl, hbm.out⟩

end Go.Proofs.Ytnokojobiaddmaa
