/- The air and the document: Send. -/
import Derived.Test.YtnokojobiaddmaaP12
namespace Go.Proofs.Ytnokojobiaddmaa
open Go.ChangeShapes Go.WideShapes Go.ChangeAt Go.RowKit Go.Maps
set_option linter.unusedVariables false
set_option linter.unusedSimpArgs false
open BigFrame Bs By Am Ar

theorem raddress_yes (n : Int) (w : World) (h1 : 1 ≤ n) (h2 : n ≤ 255) : Calls Try.prog 41 #[.int .i64 n] w fun e w' => e = .returned (.bool true) ∧ w = w' := by
  go_enter Try.func41, Try.ntmps41
  go_wp2_with fail
  go_ret
  exact ⟨rfl, rfl⟩

theorem raddress_no (n : Int) (w : World) (h : ¬ (1 ≤ n ∧ n ≤ 255)) : Calls Try.prog 41 #[.int .i64 n] w fun e w' => e = .returned (.bool false) ∧ w = w' := by
  by_cases h1 : 1 ≤ n
  · have h2 : ¬ n ≤ 255 := by omega
    clear h
    go_enter Try.func41, Try.ntmps41
    go_wp2_with fail
    go_ret
    exact ⟨rfl, rfl⟩
  · clear h
    go_enter Try.func41, Try.ntmps41
    go_wp2_with fail
    go_ret
    exact ⟨rfl, rfl⟩

namespace Ar
def SendP (st : TypeId) (s2 : Value) (g base : Nat) (lv : Value) (l : List RM) (x : Mg) (w : World) (e : Ending) (w' : World) : Prop :=
  ∃ lv' r, e = .returned (.int .i64 0) ∧ RA st s2 w' g base lv' (l ++ [r]) ∧ TM w' r x ∧ Fx [g] lv lv' w w'
def SendN (n : Int) (w : World) (e : Ending) (w' : World) : Prop := e = .returned (.int .i64 n) ∧ Below w.heap.size w w'
theorem RA.types {st : TypeId} {s2 : Value} {w : World} {g base : Nat} {lv : Value} {l : List RM} (h : RA st s2 w g base lv l) (h1 : st ≠ 5) (h2 : st ≠ 69) : ∀ b, b ∈ [g] → ∀ cs t, w.heap[b]? = some (.cells cs t (0, 0)) → t ≠ 5 ∧ t ≠ 69 := fun b hb cs t ht => by
  simp at hb
  subst hb
  rw [h.hg] at ht
  cases ht
  exact ⟨h1, h2⟩
theorem RA.shape {st : TypeId} {s2 : Value} {w : World} {g base : Nat} {lv : Value} {l : List RM} (h : RA st s2 w g base lv l) : ∃ a cap, lv = .slice a l.length cap := by
  rcases h.own.2 with ⟨e, e2⟩ | ⟨q, cap, cur, hh, _⟩
  · exact ⟨none, 0, by rw [e, e2]⟩
  · exact ⟨_, cap, hh⟩
theorem RA.shape2 {st : TypeId} {s2 : Value} {w : World} {g base : Nat} {lv : Value} {l : List RM} (h : RA st s2 w g base lv l) : (lv = .slice none 0 0 ∧ l.length = 0) ∨ ∃ q cap, lv = .slice (some ⟨q, 0, none⟩) l.length cap := by
  rcases h.own.2 with hh | ⟨q, cap, cur, hh, _⟩
  · exact .inl hh
  · exact .inr ⟨q, cap, hh⟩
end Ar

set_option maxRecDepth 100000 in
set_option maxHeartbeats 8000000 in
theorem asend_ok {s2 : Value} {w : World} {g base : Nat} {lv : Value} {l : List RM} (h : RA 59 s2 w g base lv l) (x : Mg) (ea : Option Addr) (en ec : Nat) (sa : Option Addr) (sn sc : Nat) (da : Option Addr) (dn dc : Nat) (he : LA w ea en ec x.es) (hs : Byt w sa sn sc x.sd) (hd : Byt w da dn dc x.dd) (hm : Sm x)
    (hf : 1 ≤ x.f.fr ∧ x.f.fr ≤ 255) (ht : 1 ≤ x.f.to ∧ x.f.to ≤ 255) (hn : l.length < 1024) :
    Calls Try.prog 9 #[.pointer (some ⟨g, 0, none⟩), .agg #[.int .i8 x.f.k, .int .i64 x.f.fr, .int .i64 x.f.to, .int .i64 x.f.te, .int .i64 x.f.ix, .int .i64 x.f.la, .int .i64 x.f.co, .bool x.f.ok, .slice ea en ec, .int .i64 x.f.si, .int .i64 x.f.st, .int .u8 x.f.su, .slice sa sn sc, .slice da dn dc]] w (SendP 59 s2 g base lv l x w) := by
  obtain ⟨i0, hi0, hz0, hz1, hz2⟩ := info_parts info_msg
  have hb0 : Below w.heap.size w (w.alloc (.cells #[.int .i8 x.f.k, .int .i64 x.f.fr, .int .i64 x.f.to, .int .i64 x.f.te, .int .i64 x.f.ix, .int .i64 x.f.la, .int .i64 x.f.co, .bool x.f.ok, .slice ea en ec, .int .i64 x.f.si, .int .i64 x.f.st, .int .u8 x.f.su, .slice sa sn sc, .slice da dn dc] 34)) := (Below.refl _ _).alloc (Nat.le_refl _) _
  have bx := HT.new w #[.int .i8 x.f.k, .int .i64 x.f.fr, .int .i64 x.f.to, .int .i64 x.f.te, .int .i64 x.f.ix, .int .i64 x.f.la, .int .i64 x.f.co, .bool x.f.ok, .slice ea en ec, .int .i64 x.f.si, .int .i64 x.f.st, .int .u8 x.f.su, .slice sa sn sc, .slice da dn dc] 34
  have h2 := h.bel hb0
  have he1 := he.bel hb0
  have hs1 := hs.bel hb0
  have hd1 := hd.bel hb0
  have cp : ∀ u, Below ((w.alloc (.cells #[.int .i8 x.f.k, .int .i64 x.f.fr, .int .i64 x.f.to, .int .i64 x.f.te, .int .i64 x.f.ix, .int .i64 x.f.la, .int .i64 x.f.co, .bool x.f.ok, .slice ea en ec, .int .i64 x.f.si, .int .i64 x.f.st, .int .u8 x.f.su, .slice sa sn sc, .slice da dn dc] 34))).heap.size (w.alloc (.cells #[.int .i8 x.f.k, .int .i64 x.f.fr, .int .i64 x.f.to, .int .i64 x.f.te, .int .i64 x.f.ix, .int .i64 x.f.la, .int .i64 x.f.co, .bool x.f.ok, .slice ea en ec, .int .i64 x.f.si, .int .i64 x.f.st, .int .u8 x.f.su, .slice sa sn sc, .slice da dn dc] 34)) u → Calls Try.prog 22 #[.agg #[.int .i8 x.f.k, .int .i64 x.f.fr, .int .i64 x.f.to, .int .i64 x.f.te, .int .i64 x.f.ix, .int .i64 x.f.la, .int .i64 x.f.co, .bool x.f.ok, .slice ea en ec, .int .i64 x.f.si, .int .i64 x.f.st, .int .u8 x.f.su, .slice sa sn sc, .slice da dn dc]] u (CpM u x) := fun u hu => copiedM_c x ea en ec sa sn sc da dn dc u (he1.bel hu) (hs1.bel hu) (hd1.bel hu) hm
  have af := fun W => address_yes x.f.fr W hf.1 hf.2
  have at' := fun W => address_yes x.f.to W ht.1 ht.2
  have hni : (l.length : Int) < 1024 := by omega
  have hcase := h.shape2
  obtain ⟨f1, f2⟩ := hf
  obtain ⟨t1, t2⟩ := ht
  clear h he hs hd he1 hs1 hd1
  replace cp := Lib.hid cp
  replace bx := Lib.hid bx
  replace h2 := Lib.hid h2
  have hbm := Lib.hid hb0
  clear hb0

  rcases hcase with ⟨rfl, hl0⟩ | ⟨q, cap, rfl⟩
  · replace hl0 := Lib.hid hl0
    go_enter Try.func9, Try.ntmps9
    go_upto_region 1 with fail
    have bx := bx.out
    have h2 := h2.out
    have hbm := hbm.out
    generalize (w.alloc (.cells #[.int .i8 x.f.k, .int .i64 x.f.fr, .int .i64 x.f.to, .int .i64 x.f.te, .int .i64 x.f.ix, .int .i64 x.f.la, .int .i64 x.f.co, .bool x.f.ok, .slice ea en ec, .int .i64 x.f.si, .int .i64 x.f.st, .int .u8 x.f.su, .slice sa sn sc, .slice da dn dc] 34)) = W1 at bx h2 hbm cp ⊢
    obtain ⟨xb, hxb⟩ : ∃ xb, w.heap.size = xb := ⟨_, rfl⟩
    rw [hxb] at bx ⊢
    replace hxb := Lib.hid hxb
    replace hbm := Lib.hid hbm
    have y0 := bx.c 0 _ rfl
    have y1 := bx.c 1 _ rfl
    have y2 := bx.c 2 _ rfl
    have y3 := bx.c 3 _ rfl
    have y4 := bx.c 4 _ rfl
    have y5 := bx.c 5 _ rfl
    have y6 := bx.c 6 _ rfl
    have y7 := bx.c 7 _ rfl
    have y8 := bx.c 8 _ rfl
    have y9 := bx.c 9 _ rfl
    have y10 := bx.c 10 _ rfl
    have y11 := bx.c 11 _ rfl
    have y12 := bx.c 12 _ rfl
    have y13 := bx.c 13 _ rfl
    have c0 := h2.c0
    clear bx
    replace h2 := Lib.hid h2
    go_wp2_with fail
    refine (af _).mono ?_
    rintro e w' ⟨rfl, rfl⟩
    go_wp2_with fail
    refine (at' _).mono ?_
    rintro e w' ⟨rfl, rfl⟩
    clear af at'
    go_upto_region 7 with fail
    refine wp_region_noPanic ?_
    refine Stg.wp_region_L [8, 11] (Bs.SB W1) (by kernel_rfl) (fun _ => (Below.refl _ _).drew) (fun hHeld => ?_)
    refine Stg.wpAnyL_start (n' := 12) (l' := #[false, false, false, false, false, false, false, false, false, false, false, false]) (by kernel_rfl) (by kernel_rfl) ?_
    refine Stg.wpAnyL_free (i := 0) (v := ?_) 0 rfl (by kernel_rfl) (by kernel_rfl) (by kernel_rfl) (by kernel_rfl) (by kernel_rfl) (fun _ _ _ h => h) (Or.inl ⟨by kernel_rfl, ?_⟩) (by assumption) ?_
    rotate_left
    · intro u _
      try simp only [List.getElem_toArray, List.getElem_cons_succ, List.getElem_cons_zero]
      go_simp
      try with_reducible rfl
    try simp only [Act.put, List.setIfInBounds_toArray, List.set_cons_zero, List.set_cons_succ]
    refine Stg.wpAnyL_free (i := 1) (v := ?_) 0 rfl (by kernel_rfl) (by kernel_rfl) (by kernel_rfl) (by kernel_rfl) (by kernel_rfl) (fun _ _ _ h => h) (Or.inl ⟨by kernel_rfl, ?_⟩) (by assumption) ?_
    rotate_left
    · intro u _
      try simp only [List.getElem_toArray, List.getElem_cons_succ, List.getElem_cons_zero]
      go_simp
      try with_reducible rfl
    try simp only [Act.put, List.setIfInBounds_toArray, List.set_cons_zero, List.set_cons_succ]
    refine Stg.wpAnyL_free (i := 2) (v := ?_) 0 rfl (by kernel_rfl) (by kernel_rfl) (by kernel_rfl) (by kernel_rfl) (by kernel_rfl) (fun _ _ _ h => h) (Or.inl ⟨by kernel_rfl, ?_⟩) (by assumption) ?_
    rotate_left
    · intro u _
      try simp only [List.getElem_toArray, List.getElem_cons_succ, List.getElem_cons_zero]
      go_simp
      try with_reducible rfl
    try simp only [Act.put, List.setIfInBounds_toArray, List.set_cons_zero, List.set_cons_succ]
    refine Stg.wpAnyL_start (n' := 9) (l' := #[true, true, true, false, false, false, false, false, false, false, false, false]) (by kernel_rfl) (by kernel_rfl) ?_
    refine Stg.wpAnyL_free (i := 3) (v := ?_) 0 rfl (by kernel_rfl) (by kernel_rfl) (by kernel_rfl) (by kernel_rfl) (by kernel_rfl) (fun _ _ _ h => h) (Or.inl ⟨by kernel_rfl, ?_⟩) (by assumption) ?_
    rotate_left
    · intro u _
      try simp only [List.getElem_toArray, List.getElem_cons_succ, List.getElem_cons_zero]
      go_simp
      try with_reducible rfl
    try simp only [Act.put, List.setIfInBounds_toArray, List.set_cons_zero, List.set_cons_succ]
    refine Stg.wpAnyL_take (i := 4) (v := ?_) [8, 9, 10, 11] 0 rfl (by kernel_rfl) (by kernel_rfl) (by kernel_rfl) (by kernel_rfl) (by kernel_rfl) (fun _ _ _ h => h) (Or.inl ⟨by kernel_rfl, ?_⟩) (by assumption) ?_
    rotate_left
    · intro u hSu
      skip
      have sB := hSu rfl
      have y0 := cellB sB y0
      have y1 := cellB sB y1
      have y2 := cellB sB y2
      have y3 := cellB sB y3
      have y4 := cellB sB y4
      have y5 := cellB sB y5
      have y6 := cellB sB y6
      have y7 := cellB sB y7
      have y8 := cellB sB y8
      have y9 := cellB sB y9
      have y10 := cellB sB y10
      have y11 := cellB sB y11
      have y12 := cellB sB y12
      have y13 := cellB sB y13
      have y14 := cellB sB c0
      try simp only [List.getElem_toArray, List.getElem_cons_succ, List.getElem_cons_zero]
      go_simp
      try with_reducible rfl
    try simp only [Act.put, List.setIfInBounds_toArray, List.set_cons_zero, List.set_cons_succ]
    refine Stg.wpAnyL_take (i := 5) (v := ?_) [6, 7, 8, 9, 10, 11] 0 rfl (by kernel_rfl) (by kernel_rfl) (by kernel_rfl) (by kernel_rfl) (by kernel_rfl) (fun _ _ _ h => h) (Or.inl ⟨by kernel_rfl, ?_⟩) (by assumption) ?_
    rotate_left
    · intro u hSu
      skip
      have sB := hSu rfl
      have y0 := cellB sB y0
      have y1 := cellB sB y1
      have y2 := cellB sB y2
      have y3 := cellB sB y3
      have y4 := cellB sB y4
      have y5 := cellB sB y5
      have y6 := cellB sB y6
      have y7 := cellB sB y7
      have y8 := cellB sB y8
      have y9 := cellB sB y9
      have y10 := cellB sB y10
      have y11 := cellB sB y11
      have y12 := cellB sB y12
      have y13 := cellB sB y13
      have y14 := cellB sB c0
      try simp only [List.getElem_toArray, List.getElem_cons_succ, List.getElem_cons_zero]
      go_simp
      try with_reducible rfl
    try simp only [Act.put, List.setIfInBounds_toArray, List.set_cons_zero, List.set_cons_succ]
    refine Stg.wpAnyL_start (n' := 6) (l' := #[true, true, true, true, true, true, false, false, false, false, false, false]) (by kernel_rfl) (by kernel_rfl) ?_
    refine Stg.wpAnyL_one (i := 6) 0 rfl (by kernel_rfl) (by kernel_rfl) (fun K hK => ?_)
    try simp only [List.getElem_toArray, List.getElem_cons_succ, List.getElem_cons_zero]
    go_simp
    refine (cp.out _ (hHeld rfl)).mono ?_
    rintro e w3 ⟨r, rfl, hT, hb1⟩
    have h3 := h2.out.bel (bNext (hHeld rfl) hb1 (Nat.le_refl _))
    refine hK.out _ _ ?_ (fun hHeld1 => ?_)
    · exact fun _ => bNext (hHeld rfl) hb1 (Nat.le_refl _)
    clear hK K
    try simp only [Act.put, List.setIfInBounds_toArray, List.set_cons_zero, List.set_cons_succ]
    refine Stg.wpAnyL_one (i := 7) 0 rfl (by kernel_rfl) (by kernel_rfl) (fun K hK => ?_)
    try simp only [List.getElem_toArray, List.getElem_cons_succ, List.getElem_cons_zero]
    go_simp
    refine hK.out _ _ ?_ (fun hHeld2 => ?_)
    · exact fun _ => bNext (hHeld1 rfl) ((Below.refl _ _).alloc (Nat.le_refl _) _) (Nat.le_refl _)
    clear hK K
    try simp only [Act.put, List.setIfInBounds_toArray, List.set_cons_zero, List.set_cons_succ]
    refine Stg.wpAnyL_one (i := 8) 1 rfl (by kernel_rfl) (by kernel_rfl) (fun K hK => ?_)
    try simp only [List.getElem_toArray, List.getElem_cons_succ, List.getElem_cons_zero]
    rw [if_pos (by rfl)]
    refine wp_append_lies _ (.tmp 30) (.tmp 33) 49 rfl base 34 i0 _ 14 160 Try.underlying49 hi0 hz0 hz1 hz2 (by rfl) (by omega) _ _ _ (by rfl) (h3.own.alloc _) ⟨w3.heap.size, 0, none⟩ 1 1 (cellsM ⟨x.f, r.ea, r.en, r.ec, r.sa, r.sn, r.sc, r.da, r.dn, r.dc⟩) (by rfl) (by rfl) (World.news_of_block (cs := #[.int .i8 x.f.k, .int .i64 x.f.fr, .int .i64 x.f.to, .int .i64 x.f.te, .int .i64 x.f.ix, .int .i64 x.f.la, .int .i64 x.f.co, .bool x.f.ok, .slice r.ea r.en r.ec, .int .i64 x.f.si, .int .i64 x.f.st, .int .u8 x.f.su, .slice r.sa r.sn r.sc, .slice r.da r.dn r.dc]) (t := 34) (fr := (0, 0)) (heap_alloc_new w3 _)) (cellsM_one _) (by omega) (by unfold maxLen; omega) (by omega) (by have := h3.h6; simp; omega) (w3.heap.size + 1) (by simp) ?_
    intro g1 cap1 w5 hown1 hgrow1 hat1 hlt1
    refine hK.out _ _ ?_ (fun hHeld3 => ?_)
    · exact fun h => absurd h (by decide)
    clear hK K
    try simp only [Act.put, List.setIfInBounds_toArray, List.set_cons_zero, List.set_cons_succ]
    refine Stg.wpAnyL_start (n' := 3) (l' := #[true, true, true, true, true, true, true, true, true, false, false, false]) (by kernel_rfl) (by kernel_rfl) ?_
    refine Stg.wpAnyL_free (i := 9) (v := ?_) 1 rfl (by kernel_rfl) (by kernel_rfl) (by kernel_rfl) (by kernel_rfl) (by kernel_rfl) (fun _ _ _ h => h) (Or.inl ⟨by kernel_rfl, ?_⟩) (by assumption) ?_
    rotate_left
    · intro u _
      try simp only [List.getElem_toArray, List.getElem_cons_succ, List.getElem_cons_zero]
      go_simp
      try with_reducible rfl
    try simp only [Act.put, List.setIfInBounds_toArray, List.set_cons_zero, List.set_cons_succ]
    refine Stg.wpAnyL_free (i := 10) (v := ?_) 1 rfl (by kernel_rfl) (by kernel_rfl) (by kernel_rfl) (by kernel_rfl) (by kernel_rfl) (fun _ _ _ h => h) (Or.inl ⟨by kernel_rfl, ?_⟩) (by assumption) ?_
    rotate_left
    · intro u _
      try simp only [List.getElem_toArray, List.getElem_cons_succ, List.getElem_cons_zero]
      go_simp
      try with_reducible rfl
    try simp only [Act.put, List.setIfInBounds_toArray, List.set_cons_zero, List.set_cons_succ]
    refine Stg.wpAnyL_one (i := 11) 2 rfl (by kernel_rfl) (by kernel_rfl) (fun K hK => ?_)
    obtain ⟨z0, z1⟩ := h3.grown hgrow1
    try simp only [List.getElem_toArray, List.getElem_cons_succ, List.getElem_cons_zero]
    go_simp
    refine hK.out _ _ ?_ (fun hHeld4 => ?_)
    · exact fun h => absurd h (by decide)
    clear hK K
    try simp only [Act.put, List.setIfInBounds_toArray, List.set_cons_zero, List.set_cons_succ]
    refine Stg.wpAnyL_done (by kernel_rfl) ?_ _
    try simp only [List.getElem_toArray, List.getElem_cons_succ, List.getElem_cons_zero]
    try simp only [Act.put, List.setIfInBounds_toArray, List.set_cons_zero, List.set_cons_succ]
    refine NoPanic.normal ?_
    obtain ⟨r1, r2⟩ := RA.send rfl (hat1.imp id (fun q => by omega)) h3 hgrow1 hown1
    have tf := r2.tf (h3.types (by decide) (by decide)) h3.own
    have hTM : TM w3 ⟨x.f, r.ea, r.en, r.ec, r.sa, r.sn, r.sc, r.da, r.dn, r.dc⟩ x := by obtain ⟨rf, _⟩ := r; obtain rfl : rf = x.f := hT.f; exact hT
    have hTM2 := hTM.tf tf
    have hfin := r2.pre (bNext hbm.out (bNext (hHeld rfl) hb1 (Nat.le_refl _)) (Nat.le_refl _))
    go_wp2_with fail
    go_ret
    exact ⟨_, _, rfl, r1, hTM2, hfin⟩
  ·
    go_enter Try.func9, Try.ntmps9
    go_upto_region 1 with fail
    have bx := bx.out
    have h2 := h2.out
    have hbm := hbm.out
    generalize (w.alloc (.cells #[.int .i8 x.f.k, .int .i64 x.f.fr, .int .i64 x.f.to, .int .i64 x.f.te, .int .i64 x.f.ix, .int .i64 x.f.la, .int .i64 x.f.co, .bool x.f.ok, .slice ea en ec, .int .i64 x.f.si, .int .i64 x.f.st, .int .u8 x.f.su, .slice sa sn sc, .slice da dn dc] 34)) = W1 at bx h2 hbm cp ⊢
    obtain ⟨xb, hxb⟩ : ∃ xb, w.heap.size = xb := ⟨_, rfl⟩
    rw [hxb] at bx ⊢
    replace hxb := Lib.hid hxb
    replace hbm := Lib.hid hbm
    have y0 := bx.c 0 _ rfl
    have y1 := bx.c 1 _ rfl
    have y2 := bx.c 2 _ rfl
    have y3 := bx.c 3 _ rfl
    have y4 := bx.c 4 _ rfl
    have y5 := bx.c 5 _ rfl
    have y6 := bx.c 6 _ rfl
    have y7 := bx.c 7 _ rfl
    have y8 := bx.c 8 _ rfl
    have y9 := bx.c 9 _ rfl
    have y10 := bx.c 10 _ rfl
    have y11 := bx.c 11 _ rfl
    have y12 := bx.c 12 _ rfl
    have y13 := bx.c 13 _ rfl
    have c0 := h2.c0
    clear bx
    replace h2 := Lib.hid h2
    go_wp2_with fail
    refine (af _).mono ?_
    rintro e w' ⟨rfl, rfl⟩
    go_wp2_with fail
    refine (at' _).mono ?_
    rintro e w' ⟨rfl, rfl⟩
    clear af at'
    go_upto_region 7 with fail
    refine wp_region_noPanic ?_
    refine Stg.wp_region_L [8, 11] (Bs.SB W1) (by kernel_rfl) (fun _ => (Below.refl _ _).drew) (fun hHeld => ?_)
    refine Stg.wpAnyL_start (n' := 12) (l' := #[false, false, false, false, false, false, false, false, false, false, false, false]) (by kernel_rfl) (by kernel_rfl) ?_
    refine Stg.wpAnyL_free (i := 0) (v := ?_) 0 rfl (by kernel_rfl) (by kernel_rfl) (by kernel_rfl) (by kernel_rfl) (by kernel_rfl) (fun _ _ _ h => h) (Or.inl ⟨by kernel_rfl, ?_⟩) (by assumption) ?_
    rotate_left
    · intro u _
      try simp only [List.getElem_toArray, List.getElem_cons_succ, List.getElem_cons_zero]
      go_simp
      try with_reducible rfl
    try simp only [Act.put, List.setIfInBounds_toArray, List.set_cons_zero, List.set_cons_succ]
    refine Stg.wpAnyL_free (i := 1) (v := ?_) 0 rfl (by kernel_rfl) (by kernel_rfl) (by kernel_rfl) (by kernel_rfl) (by kernel_rfl) (fun _ _ _ h => h) (Or.inl ⟨by kernel_rfl, ?_⟩) (by assumption) ?_
    rotate_left
    · intro u _
      try simp only [List.getElem_toArray, List.getElem_cons_succ, List.getElem_cons_zero]
      go_simp
      try with_reducible rfl
    try simp only [Act.put, List.setIfInBounds_toArray, List.set_cons_zero, List.set_cons_succ]
    refine Stg.wpAnyL_free (i := 2) (v := ?_) 0 rfl (by kernel_rfl) (by kernel_rfl) (by kernel_rfl) (by kernel_rfl) (by kernel_rfl) (fun _ _ _ h => h) (Or.inl ⟨by kernel_rfl, ?_⟩) (by assumption) ?_
    rotate_left
    · intro u _
      try simp only [List.getElem_toArray, List.getElem_cons_succ, List.getElem_cons_zero]
      go_simp
      try with_reducible rfl
    try simp only [Act.put, List.setIfInBounds_toArray, List.set_cons_zero, List.set_cons_succ]
    refine Stg.wpAnyL_start (n' := 9) (l' := #[true, true, true, false, false, false, false, false, false, false, false, false]) (by kernel_rfl) (by kernel_rfl) ?_
    refine Stg.wpAnyL_free (i := 3) (v := ?_) 0 rfl (by kernel_rfl) (by kernel_rfl) (by kernel_rfl) (by kernel_rfl) (by kernel_rfl) (fun _ _ _ h => h) (Or.inl ⟨by kernel_rfl, ?_⟩) (by assumption) ?_
    rotate_left
    · intro u _
      try simp only [List.getElem_toArray, List.getElem_cons_succ, List.getElem_cons_zero]
      go_simp
      try with_reducible rfl
    try simp only [Act.put, List.setIfInBounds_toArray, List.set_cons_zero, List.set_cons_succ]
    refine Stg.wpAnyL_take (i := 4) (v := ?_) [8, 9, 10, 11] 0 rfl (by kernel_rfl) (by kernel_rfl) (by kernel_rfl) (by kernel_rfl) (by kernel_rfl) (fun _ _ _ h => h) (Or.inl ⟨by kernel_rfl, ?_⟩) (by assumption) ?_
    rotate_left
    · intro u hSu
      skip
      have sB := hSu rfl
      have y0 := cellB sB y0
      have y1 := cellB sB y1
      have y2 := cellB sB y2
      have y3 := cellB sB y3
      have y4 := cellB sB y4
      have y5 := cellB sB y5
      have y6 := cellB sB y6
      have y7 := cellB sB y7
      have y8 := cellB sB y8
      have y9 := cellB sB y9
      have y10 := cellB sB y10
      have y11 := cellB sB y11
      have y12 := cellB sB y12
      have y13 := cellB sB y13
      have y14 := cellB sB c0
      try simp only [List.getElem_toArray, List.getElem_cons_succ, List.getElem_cons_zero]
      go_simp
      try with_reducible rfl
    try simp only [Act.put, List.setIfInBounds_toArray, List.set_cons_zero, List.set_cons_succ]
    refine Stg.wpAnyL_take (i := 5) (v := ?_) [6, 7, 8, 9, 10, 11] 0 rfl (by kernel_rfl) (by kernel_rfl) (by kernel_rfl) (by kernel_rfl) (by kernel_rfl) (fun _ _ _ h => h) (Or.inl ⟨by kernel_rfl, ?_⟩) (by assumption) ?_
    rotate_left
    · intro u hSu
      skip
      have sB := hSu rfl
      have y0 := cellB sB y0
      have y1 := cellB sB y1
      have y2 := cellB sB y2
      have y3 := cellB sB y3
      have y4 := cellB sB y4
      have y5 := cellB sB y5
      have y6 := cellB sB y6
      have y7 := cellB sB y7
      have y8 := cellB sB y8
      have y9 := cellB sB y9
      have y10 := cellB sB y10
      have y11 := cellB sB y11
      have y12 := cellB sB y12
      have y13 := cellB sB y13
      have y14 := cellB sB c0
      try simp only [List.getElem_toArray, List.getElem_cons_succ, List.getElem_cons_zero]
      go_simp
      try with_reducible rfl
    try simp only [Act.put, List.setIfInBounds_toArray, List.set_cons_zero, List.set_cons_succ]
    refine Stg.wpAnyL_start (n' := 6) (l' := #[true, true, true, true, true, true, false, false, false, false, false, false]) (by kernel_rfl) (by kernel_rfl) ?_
    refine Stg.wpAnyL_one (i := 6) 0 rfl (by kernel_rfl) (by kernel_rfl) (fun K hK => ?_)
    try simp only [List.getElem_toArray, List.getElem_cons_succ, List.getElem_cons_zero]
    go_simp
    refine (cp.out _ (hHeld rfl)).mono ?_
    rintro e w3 ⟨r, rfl, hT, hb1⟩
    have h3 := h2.out.bel (bNext (hHeld rfl) hb1 (Nat.le_refl _))
    refine hK.out _ _ ?_ (fun hHeld1 => ?_)
    · exact fun _ => bNext (hHeld rfl) hb1 (Nat.le_refl _)
    clear hK K
    try simp only [Act.put, List.setIfInBounds_toArray, List.set_cons_zero, List.set_cons_succ]
    refine Stg.wpAnyL_one (i := 7) 0 rfl (by kernel_rfl) (by kernel_rfl) (fun K hK => ?_)
    try simp only [List.getElem_toArray, List.getElem_cons_succ, List.getElem_cons_zero]
    go_simp
    refine hK.out _ _ ?_ (fun hHeld2 => ?_)
    · exact fun _ => bNext (hHeld1 rfl) ((Below.refl _ _).alloc (Nat.le_refl _) _) (Nat.le_refl _)
    clear hK K
    try simp only [Act.put, List.setIfInBounds_toArray, List.set_cons_zero, List.set_cons_succ]
    refine Stg.wpAnyL_one (i := 8) 1 rfl (by kernel_rfl) (by kernel_rfl) (fun K hK => ?_)
    try simp only [List.getElem_toArray, List.getElem_cons_succ, List.getElem_cons_zero]
    rw [if_pos (by rfl)]
    refine wp_append_lies _ (.tmp 30) (.tmp 33) 49 rfl base 34 i0 _ 14 160 Try.underlying49 hi0 hz0 hz1 hz2 (by rfl) (by omega) _ _ _ (by rfl) (h3.own.alloc _) ⟨w3.heap.size, 0, none⟩ 1 1 (cellsM ⟨x.f, r.ea, r.en, r.ec, r.sa, r.sn, r.sc, r.da, r.dn, r.dc⟩) (by rfl) (by rfl) (World.news_of_block (cs := #[.int .i8 x.f.k, .int .i64 x.f.fr, .int .i64 x.f.to, .int .i64 x.f.te, .int .i64 x.f.ix, .int .i64 x.f.la, .int .i64 x.f.co, .bool x.f.ok, .slice r.ea r.en r.ec, .int .i64 x.f.si, .int .i64 x.f.st, .int .u8 x.f.su, .slice r.sa r.sn r.sc, .slice r.da r.dn r.dc]) (t := 34) (fr := (0, 0)) (heap_alloc_new w3 _)) (cellsM_one _) (by omega) (by unfold maxLen; omega) (by omega) (by have := h3.h6; simp; omega) (w3.heap.size + 1) (by simp) ?_
    intro g1 cap1 w5 hown1 hgrow1 hat1 hlt1
    refine hK.out _ _ ?_ (fun hHeld3 => ?_)
    · exact fun h => absurd h (by decide)
    clear hK K
    try simp only [Act.put, List.setIfInBounds_toArray, List.set_cons_zero, List.set_cons_succ]
    refine Stg.wpAnyL_start (n' := 3) (l' := #[true, true, true, true, true, true, true, true, true, false, false, false]) (by kernel_rfl) (by kernel_rfl) ?_
    refine Stg.wpAnyL_free (i := 9) (v := ?_) 1 rfl (by kernel_rfl) (by kernel_rfl) (by kernel_rfl) (by kernel_rfl) (by kernel_rfl) (fun _ _ _ h => h) (Or.inl ⟨by kernel_rfl, ?_⟩) (by assumption) ?_
    rotate_left
    · intro u _
      try simp only [List.getElem_toArray, List.getElem_cons_succ, List.getElem_cons_zero]
      go_simp
      try with_reducible rfl
    try simp only [Act.put, List.setIfInBounds_toArray, List.set_cons_zero, List.set_cons_succ]
    refine Stg.wpAnyL_free (i := 10) (v := ?_) 1 rfl (by kernel_rfl) (by kernel_rfl) (by kernel_rfl) (by kernel_rfl) (by kernel_rfl) (fun _ _ _ h => h) (Or.inl ⟨by kernel_rfl, ?_⟩) (by assumption) ?_
    rotate_left
    · intro u _
      try simp only [List.getElem_toArray, List.getElem_cons_succ, List.getElem_cons_zero]
      go_simp
      try with_reducible rfl
    try simp only [Act.put, List.setIfInBounds_toArray, List.set_cons_zero, List.set_cons_succ]
    refine Stg.wpAnyL_one (i := 11) 2 rfl (by kernel_rfl) (by kernel_rfl) (fun K hK => ?_)
    obtain ⟨z0, z1⟩ := h3.grown hgrow1
    try simp only [List.getElem_toArray, List.getElem_cons_succ, List.getElem_cons_zero]
    go_simp
    refine hK.out _ _ ?_ (fun hHeld4 => ?_)
    · exact fun h => absurd h (by decide)
    clear hK K
    try simp only [Act.put, List.setIfInBounds_toArray, List.set_cons_zero, List.set_cons_succ]
    refine Stg.wpAnyL_done (by kernel_rfl) ?_ _
    try simp only [List.getElem_toArray, List.getElem_cons_succ, List.getElem_cons_zero]
    try simp only [Act.put, List.setIfInBounds_toArray, List.set_cons_zero, List.set_cons_succ]
    refine NoPanic.normal ?_
    obtain ⟨r1, r2⟩ := RA.send rfl (hat1.imp id (fun q => by omega)) h3 hgrow1 hown1
    have tf := r2.tf (h3.types (by decide) (by decide)) h3.own
    have hTM : TM w3 ⟨x.f, r.ea, r.en, r.ec, r.sa, r.sn, r.sc, r.da, r.dn, r.dc⟩ x := by obtain ⟨rf, _⟩ := r; obtain rfl : rf = x.f := hT.f; exact hT
    have hTM2 := hTM.tf tf
    have hfin := r2.pre (bNext hbm.out (bNext (hHeld rfl) hb1 (Nat.le_refl _)) (Nat.le_refl _))
    go_wp2_with fail
    go_ret
    exact ⟨_, _, rfl, r1, hTM2, hfin⟩

set_option maxRecDepth 100000 in
set_option maxHeartbeats 4000000 in
theorem asend_full {s2 : Value} {w : World} {g base : Nat} {lv : Value} {l : List RM} (h : RA 59 s2 w g base lv l) (x : Mg) (ea : Option Addr) (en ec : Nat) (sa : Option Addr) (sn sc : Nat) (da : Option Addr) (dn dc : Nat) (hf : 1 ≤ x.f.fr ∧ x.f.fr ≤ 255) (ht : 1 ≤ x.f.to ∧ x.f.to ≤ 255) (hn : l.length = 1024) :
    Calls Try.prog 9 #[.pointer (some ⟨g, 0, none⟩), .agg #[.int .i8 x.f.k, .int .i64 x.f.fr, .int .i64 x.f.to, .int .i64 x.f.te, .int .i64 x.f.ix, .int .i64 x.f.la, .int .i64 x.f.co, .bool x.f.ok, .slice ea en ec, .int .i64 x.f.si, .int .i64 x.f.st, .int .u8 x.f.su, .slice sa sn sc, .slice da dn dc]] w (SendN 100 w) := by
  have hb0 : Below w.heap.size w (w.alloc (.cells #[.int .i8 x.f.k, .int .i64 x.f.fr, .int .i64 x.f.to, .int .i64 x.f.te, .int .i64 x.f.ix, .int .i64 x.f.la, .int .i64 x.f.co, .bool x.f.ok, .slice ea en ec, .int .i64 x.f.si, .int .i64 x.f.st, .int .u8 x.f.su, .slice sa sn sc, .slice da dn dc] 34)) := (Below.refl _ _).alloc (Nat.le_refl _) _
  have bx := HT.new w #[.int .i8 x.f.k, .int .i64 x.f.fr, .int .i64 x.f.to, .int .i64 x.f.te, .int .i64 x.f.ix, .int .i64 x.f.la, .int .i64 x.f.co, .bool x.f.ok, .slice ea en ec, .int .i64 x.f.si, .int .i64 x.f.st, .int .u8 x.f.su, .slice sa sn sc, .slice da dn dc] 34
  have c0 := (h.bel hb0).c0
  have af := fun W => address_yes x.f.fr W hf.1 hf.2
  have at' := fun W => address_yes x.f.to W ht.1 ht.2
  obtain ⟨a, cap, rfl⟩ := h.shape
  clear h
  rw [hn] at c0
  obtain ⟨f1, f2⟩ := hf
  obtain ⟨t1, t2⟩ := ht
  replace bx := Lib.hid bx
  replace hn := Lib.hid hn
  have hbm := Lib.hid hb0
  clear hb0
  go_enter Try.func9, Try.ntmps9
  go_upto_region 1 with fail
  have bx := bx.out
  have hbm := hbm.out
  generalize (w.alloc (.cells #[.int .i8 x.f.k, .int .i64 x.f.fr, .int .i64 x.f.to, .int .i64 x.f.te, .int .i64 x.f.ix, .int .i64 x.f.la, .int .i64 x.f.co, .bool x.f.ok, .slice ea en ec, .int .i64 x.f.si, .int .i64 x.f.st, .int .u8 x.f.su, .slice sa sn sc, .slice da dn dc] 34)) = W1 at bx hbm c0 ⊢
  obtain ⟨xb, hxb⟩ : ∃ xb, w.heap.size = xb := ⟨_, rfl⟩
  rw [hxb] at bx ⊢
  replace hxb := Lib.hid hxb
  replace hbm := Lib.hid hbm
  have y1 := bx.c 1 _ rfl
  have y2 := bx.c 2 _ rfl
  clear bx
  go_wp2_with fail
  refine (af _).mono ?_
  rintro e w' ⟨rfl, rfl⟩
  go_wp2_with fail
  refine (at' _).mono ?_
  rintro e w' ⟨rfl, rfl⟩
  go_wp2_with fail
  go_ret
  exact ⟨rfl, hbm.out⟩

set_option maxRecDepth 100000 in
set_option maxHeartbeats 4000000 in
theorem asend_bad1 {s2 : Value} {w : World} {g base : Nat} {lv : Value} {l : List RM} (h : RA 59 s2 w g base lv l) (x : Mg) (ea : Option Addr) (en ec : Nat) (sa : Option Addr) (sn sc : Nat) (da : Option Addr) (dn dc : Nat) (hf : ¬ (1 ≤ x.f.fr ∧ x.f.fr ≤ 255)) :
    Calls Try.prog 9 #[.pointer (some ⟨g, 0, none⟩), .agg #[.int .i8 x.f.k, .int .i64 x.f.fr, .int .i64 x.f.to, .int .i64 x.f.te, .int .i64 x.f.ix, .int .i64 x.f.la, .int .i64 x.f.co, .bool x.f.ok, .slice ea en ec, .int .i64 x.f.si, .int .i64 x.f.st, .int .u8 x.f.su, .slice sa sn sc, .slice da dn dc]] w (SendN 2 w) := by
  have hb0 : Below w.heap.size w (w.alloc (.cells #[.int .i8 x.f.k, .int .i64 x.f.fr, .int .i64 x.f.to, .int .i64 x.f.te, .int .i64 x.f.ix, .int .i64 x.f.la, .int .i64 x.f.co, .bool x.f.ok, .slice ea en ec, .int .i64 x.f.si, .int .i64 x.f.st, .int .u8 x.f.su, .slice sa sn sc, .slice da dn dc] 34)) := (Below.refl _ _).alloc (Nat.le_refl _) _
  have bx := HT.new w #[.int .i8 x.f.k, .int .i64 x.f.fr, .int .i64 x.f.to, .int .i64 x.f.te, .int .i64 x.f.ix, .int .i64 x.f.la, .int .i64 x.f.co, .bool x.f.ok, .slice ea en ec, .int .i64 x.f.si, .int .i64 x.f.st, .int .u8 x.f.su, .slice sa sn sc, .slice da dn dc] 34
  have c0 := (h.bel hb0).c0
  have af := fun W => address_no x.f.fr W hf
  skip
  obtain ⟨a, cap, rfl⟩ := h.shape
  clear h
  skip
  clear hf
  skip
  replace bx := Lib.hid bx
  skip
  have hbm := Lib.hid hb0
  clear hb0
  go_enter Try.func9, Try.ntmps9
  go_upto_region 1 with fail
  have bx := bx.out
  have hbm := hbm.out
  generalize (w.alloc (.cells #[.int .i8 x.f.k, .int .i64 x.f.fr, .int .i64 x.f.to, .int .i64 x.f.te, .int .i64 x.f.ix, .int .i64 x.f.la, .int .i64 x.f.co, .bool x.f.ok, .slice ea en ec, .int .i64 x.f.si, .int .i64 x.f.st, .int .u8 x.f.su, .slice sa sn sc, .slice da dn dc] 34)) = W1 at bx hbm c0 ⊢
  obtain ⟨xb, hxb⟩ : ∃ xb, w.heap.size = xb := ⟨_, rfl⟩
  rw [hxb] at bx ⊢
  replace hxb := Lib.hid hxb
  replace hbm := Lib.hid hbm
  have y1 := bx.c 1 _ rfl
  have y2 := bx.c 2 _ rfl
  clear bx
  go_wp2_with fail
  refine (af _).mono ?_
  rintro e w' ⟨rfl, rfl⟩
  go_wp2_with fail
  go_ret
  exact ⟨rfl, hbm.out⟩

set_option maxRecDepth 100000 in
set_option maxHeartbeats 4000000 in
theorem asend_bad2 {s2 : Value} {w : World} {g base : Nat} {lv : Value} {l : List RM} (h : RA 59 s2 w g base lv l) (x : Mg) (ea : Option Addr) (en ec : Nat) (sa : Option Addr) (sn sc : Nat) (da : Option Addr) (dn dc : Nat) (hf : 1 ≤ x.f.fr ∧ x.f.fr ≤ 255) (ht : ¬ (1 ≤ x.f.to ∧ x.f.to ≤ 255)) :
    Calls Try.prog 9 #[.pointer (some ⟨g, 0, none⟩), .agg #[.int .i8 x.f.k, .int .i64 x.f.fr, .int .i64 x.f.to, .int .i64 x.f.te, .int .i64 x.f.ix, .int .i64 x.f.la, .int .i64 x.f.co, .bool x.f.ok, .slice ea en ec, .int .i64 x.f.si, .int .i64 x.f.st, .int .u8 x.f.su, .slice sa sn sc, .slice da dn dc]] w (SendN 2 w) := by
  have hb0 : Below w.heap.size w (w.alloc (.cells #[.int .i8 x.f.k, .int .i64 x.f.fr, .int .i64 x.f.to, .int .i64 x.f.te, .int .i64 x.f.ix, .int .i64 x.f.la, .int .i64 x.f.co, .bool x.f.ok, .slice ea en ec, .int .i64 x.f.si, .int .i64 x.f.st, .int .u8 x.f.su, .slice sa sn sc, .slice da dn dc] 34)) := (Below.refl _ _).alloc (Nat.le_refl _) _
  have bx := HT.new w #[.int .i8 x.f.k, .int .i64 x.f.fr, .int .i64 x.f.to, .int .i64 x.f.te, .int .i64 x.f.ix, .int .i64 x.f.la, .int .i64 x.f.co, .bool x.f.ok, .slice ea en ec, .int .i64 x.f.si, .int .i64 x.f.st, .int .u8 x.f.su, .slice sa sn sc, .slice da dn dc] 34
  have c0 := (h.bel hb0).c0
  have af := fun W => address_yes x.f.fr W hf.1 hf.2
  have at' := fun W => address_no x.f.to W ht
  obtain ⟨a, cap, rfl⟩ := h.shape
  clear h
  skip
  obtain ⟨f1, f2⟩ := hf
  clear ht
  replace bx := Lib.hid bx
  skip
  have hbm := Lib.hid hb0
  clear hb0
  go_enter Try.func9, Try.ntmps9
  go_upto_region 1 with fail
  have bx := bx.out
  have hbm := hbm.out
  generalize (w.alloc (.cells #[.int .i8 x.f.k, .int .i64 x.f.fr, .int .i64 x.f.to, .int .i64 x.f.te, .int .i64 x.f.ix, .int .i64 x.f.la, .int .i64 x.f.co, .bool x.f.ok, .slice ea en ec, .int .i64 x.f.si, .int .i64 x.f.st, .int .u8 x.f.su, .slice sa sn sc, .slice da dn dc] 34)) = W1 at bx hbm c0 ⊢
  obtain ⟨xb, hxb⟩ : ∃ xb, w.heap.size = xb := ⟨_, rfl⟩
  rw [hxb] at bx ⊢
  replace hxb := Lib.hid hxb
  replace hbm := Lib.hid hbm
  have y1 := bx.c 1 _ rfl
  have y2 := bx.c 2 _ rfl
  clear bx
  go_wp2_with fail
  refine (af _).mono ?_
  rintro e w' ⟨rfl, rfl⟩
  go_wp2_with fail
  refine (at' _).mono ?_
  rintro e w' ⟨rfl, rfl⟩
  go_wp2_with fail
  go_ret
  exact ⟨rfl, hbm.out⟩

set_option maxRecDepth 100000 in
set_option maxHeartbeats 8000000 in
theorem rsend_ok {s2 : Value} {w : World} {g base : Nat} {lv : Value} {l : List RM} (h : RA 52 s2 w g base lv l) (x : Mg) (ea : Option Addr) (en ec : Nat) (sa : Option Addr) (sn sc : Nat) (da : Option Addr) (dn dc : Nat) (he : LA w ea en ec x.es) (hs : Byt w sa sn sc x.sd) (hd : Byt w da dn dc x.dd) (hm : Sm x)
    (hf : 1 ≤ x.f.fr ∧ x.f.fr ≤ 255) (ht : 1 ≤ x.f.to ∧ x.f.to ≤ 255) (hn : l.length < 1024) :
    Calls Try.prog 27 #[.pointer (some ⟨g, 0, none⟩), .agg #[.int .i8 x.f.k, .int .i64 x.f.fr, .int .i64 x.f.to, .int .i64 x.f.te, .int .i64 x.f.ix, .int .i64 x.f.la, .int .i64 x.f.co, .bool x.f.ok, .slice ea en ec, .int .i64 x.f.si, .int .i64 x.f.st, .int .u8 x.f.su, .slice sa sn sc, .slice da dn dc]] w (SendP 52 s2 g base lv l x w) := by
  obtain ⟨i0, hi0, hz0, hz1, hz2⟩ := info_parts info_msg
  have hb0 : Below w.heap.size w (w.alloc (.cells #[.int .i8 x.f.k, .int .i64 x.f.fr, .int .i64 x.f.to, .int .i64 x.f.te, .int .i64 x.f.ix, .int .i64 x.f.la, .int .i64 x.f.co, .bool x.f.ok, .slice ea en ec, .int .i64 x.f.si, .int .i64 x.f.st, .int .u8 x.f.su, .slice sa sn sc, .slice da dn dc] 34)) := (Below.refl _ _).alloc (Nat.le_refl _) _
  have bx := HT.new w #[.int .i8 x.f.k, .int .i64 x.f.fr, .int .i64 x.f.to, .int .i64 x.f.te, .int .i64 x.f.ix, .int .i64 x.f.la, .int .i64 x.f.co, .bool x.f.ok, .slice ea en ec, .int .i64 x.f.si, .int .i64 x.f.st, .int .u8 x.f.su, .slice sa sn sc, .slice da dn dc] 34
  have h2 := h.bel hb0
  have he1 := he.bel hb0
  have hs1 := hs.bel hb0
  have hd1 := hd.bel hb0
  have cp : ∀ u, Below ((w.alloc (.cells #[.int .i8 x.f.k, .int .i64 x.f.fr, .int .i64 x.f.to, .int .i64 x.f.te, .int .i64 x.f.ix, .int .i64 x.f.la, .int .i64 x.f.co, .bool x.f.ok, .slice ea en ec, .int .i64 x.f.si, .int .i64 x.f.st, .int .u8 x.f.su, .slice sa sn sc, .slice da dn dc] 34))).heap.size (w.alloc (.cells #[.int .i8 x.f.k, .int .i64 x.f.fr, .int .i64 x.f.to, .int .i64 x.f.te, .int .i64 x.f.ix, .int .i64 x.f.la, .int .i64 x.f.co, .bool x.f.ok, .slice ea en ec, .int .i64 x.f.si, .int .i64 x.f.st, .int .u8 x.f.su, .slice sa sn sc, .slice da dn dc] 34)) u → Calls Try.prog 42 #[.agg #[.int .i8 x.f.k, .int .i64 x.f.fr, .int .i64 x.f.to, .int .i64 x.f.te, .int .i64 x.f.ix, .int .i64 x.f.la, .int .i64 x.f.co, .bool x.f.ok, .slice ea en ec, .int .i64 x.f.si, .int .i64 x.f.st, .int .u8 x.f.su, .slice sa sn sc, .slice da dn dc]] u (CpM u x) := fun u hu => rcopyM_c x ea en ec sa sn sc da dn dc u (he1.bel hu) (hs1.bel hu) (hd1.bel hu) hm
  have af := fun W => raddress_yes x.f.fr W hf.1 hf.2
  have at' := fun W => raddress_yes x.f.to W ht.1 ht.2
  have hni : (l.length : Int) < 1024 := by omega
  have hcase := h.shape2
  obtain ⟨f1, f2⟩ := hf
  obtain ⟨t1, t2⟩ := ht
  clear h he hs hd he1 hs1 hd1
  replace cp := Lib.hid cp
  replace bx := Lib.hid bx
  replace h2 := Lib.hid h2
  have hbm := Lib.hid hb0
  clear hb0

  rcases hcase with ⟨rfl, hl0⟩ | ⟨q, cap, rfl⟩
  · replace hl0 := Lib.hid hl0
    go_enter Try.func27, Try.ntmps27
    go_upto_region 1 with fail
    have bx := bx.out
    have h2 := h2.out
    have hbm := hbm.out
    generalize (w.alloc (.cells #[.int .i8 x.f.k, .int .i64 x.f.fr, .int .i64 x.f.to, .int .i64 x.f.te, .int .i64 x.f.ix, .int .i64 x.f.la, .int .i64 x.f.co, .bool x.f.ok, .slice ea en ec, .int .i64 x.f.si, .int .i64 x.f.st, .int .u8 x.f.su, .slice sa sn sc, .slice da dn dc] 34)) = W1 at bx h2 hbm cp ⊢
    obtain ⟨xb, hxb⟩ : ∃ xb, w.heap.size = xb := ⟨_, rfl⟩
    rw [hxb] at bx ⊢
    replace hxb := Lib.hid hxb
    replace hbm := Lib.hid hbm
    have y0 := bx.c 0 _ rfl
    have y1 := bx.c 1 _ rfl
    have y2 := bx.c 2 _ rfl
    have y3 := bx.c 3 _ rfl
    have y4 := bx.c 4 _ rfl
    have y5 := bx.c 5 _ rfl
    have y6 := bx.c 6 _ rfl
    have y7 := bx.c 7 _ rfl
    have y8 := bx.c 8 _ rfl
    have y9 := bx.c 9 _ rfl
    have y10 := bx.c 10 _ rfl
    have y11 := bx.c 11 _ rfl
    have y12 := bx.c 12 _ rfl
    have y13 := bx.c 13 _ rfl
    have c0 := h2.c0
    clear bx
    replace h2 := Lib.hid h2
    go_wp2_with fail
    refine (af _).mono ?_
    rintro e w' ⟨rfl, rfl⟩
    go_wp2_with fail
    refine (at' _).mono ?_
    rintro e w' ⟨rfl, rfl⟩
    clear af at'
    go_upto_region 5 with fail
    refine wp_region_noPanic ?_
    refine Stg.wp_region_L [8, 11] (Bs.SB W1) (by kernel_rfl) (fun _ => (Below.refl _ _).drew) (fun hHeld => ?_)
    refine Stg.wpAnyL_start (n' := 12) (l' := #[false, false, false, false, false, false, false, false, false, false, false, false]) (by kernel_rfl) (by kernel_rfl) ?_
    refine Stg.wpAnyL_free (i := 0) (v := ?_) 0 rfl (by kernel_rfl) (by kernel_rfl) (by kernel_rfl) (by kernel_rfl) (by kernel_rfl) (fun _ _ _ h => h) (Or.inl ⟨by kernel_rfl, ?_⟩) (by assumption) ?_
    rotate_left
    · intro u _
      try simp only [List.getElem_toArray, List.getElem_cons_succ, List.getElem_cons_zero]
      go_simp
      try with_reducible rfl
    try simp only [Act.put, List.setIfInBounds_toArray, List.set_cons_zero, List.set_cons_succ]
    refine Stg.wpAnyL_free (i := 1) (v := ?_) 0 rfl (by kernel_rfl) (by kernel_rfl) (by kernel_rfl) (by kernel_rfl) (by kernel_rfl) (fun _ _ _ h => h) (Or.inl ⟨by kernel_rfl, ?_⟩) (by assumption) ?_
    rotate_left
    · intro u _
      try simp only [List.getElem_toArray, List.getElem_cons_succ, List.getElem_cons_zero]
      go_simp
      try with_reducible rfl
    try simp only [Act.put, List.setIfInBounds_toArray, List.set_cons_zero, List.set_cons_succ]
    refine Stg.wpAnyL_free (i := 2) (v := ?_) 0 rfl (by kernel_rfl) (by kernel_rfl) (by kernel_rfl) (by kernel_rfl) (by kernel_rfl) (fun _ _ _ h => h) (Or.inl ⟨by kernel_rfl, ?_⟩) (by assumption) ?_
    rotate_left
    · intro u _
      try simp only [List.getElem_toArray, List.getElem_cons_succ, List.getElem_cons_zero]
      go_simp
      try with_reducible rfl
    try simp only [Act.put, List.setIfInBounds_toArray, List.set_cons_zero, List.set_cons_succ]
    refine Stg.wpAnyL_start (n' := 9) (l' := #[true, true, true, false, false, false, false, false, false, false, false, false]) (by kernel_rfl) (by kernel_rfl) ?_
    refine Stg.wpAnyL_free (i := 3) (v := ?_) 0 rfl (by kernel_rfl) (by kernel_rfl) (by kernel_rfl) (by kernel_rfl) (by kernel_rfl) (fun _ _ _ h => h) (Or.inl ⟨by kernel_rfl, ?_⟩) (by assumption) ?_
    rotate_left
    · intro u _
      try simp only [List.getElem_toArray, List.getElem_cons_succ, List.getElem_cons_zero]
      go_simp
      try with_reducible rfl
    try simp only [Act.put, List.setIfInBounds_toArray, List.set_cons_zero, List.set_cons_succ]
    refine Stg.wpAnyL_take (i := 4) (v := ?_) [8, 9, 10, 11] 0 rfl (by kernel_rfl) (by kernel_rfl) (by kernel_rfl) (by kernel_rfl) (by kernel_rfl) (fun _ _ _ h => h) (Or.inl ⟨by kernel_rfl, ?_⟩) (by assumption) ?_
    rotate_left
    · intro u hSu
      skip
      have sB := hSu rfl
      have y0 := cellB sB y0
      have y1 := cellB sB y1
      have y2 := cellB sB y2
      have y3 := cellB sB y3
      have y4 := cellB sB y4
      have y5 := cellB sB y5
      have y6 := cellB sB y6
      have y7 := cellB sB y7
      have y8 := cellB sB y8
      have y9 := cellB sB y9
      have y10 := cellB sB y10
      have y11 := cellB sB y11
      have y12 := cellB sB y12
      have y13 := cellB sB y13
      have y14 := cellB sB c0
      try simp only [List.getElem_toArray, List.getElem_cons_succ, List.getElem_cons_zero]
      go_simp
      try with_reducible rfl
    try simp only [Act.put, List.setIfInBounds_toArray, List.set_cons_zero, List.set_cons_succ]
    refine Stg.wpAnyL_take (i := 5) (v := ?_) [6, 7, 8, 9, 10, 11] 0 rfl (by kernel_rfl) (by kernel_rfl) (by kernel_rfl) (by kernel_rfl) (by kernel_rfl) (fun _ _ _ h => h) (Or.inl ⟨by kernel_rfl, ?_⟩) (by assumption) ?_
    rotate_left
    · intro u hSu
      skip
      have sB := hSu rfl
      have y0 := cellB sB y0
      have y1 := cellB sB y1
      have y2 := cellB sB y2
      have y3 := cellB sB y3
      have y4 := cellB sB y4
      have y5 := cellB sB y5
      have y6 := cellB sB y6
      have y7 := cellB sB y7
      have y8 := cellB sB y8
      have y9 := cellB sB y9
      have y10 := cellB sB y10
      have y11 := cellB sB y11
      have y12 := cellB sB y12
      have y13 := cellB sB y13
      have y14 := cellB sB c0
      try simp only [List.getElem_toArray, List.getElem_cons_succ, List.getElem_cons_zero]
      go_simp
      try with_reducible rfl
    try simp only [Act.put, List.setIfInBounds_toArray, List.set_cons_zero, List.set_cons_succ]
    refine Stg.wpAnyL_start (n' := 6) (l' := #[true, true, true, true, true, true, false, false, false, false, false, false]) (by kernel_rfl) (by kernel_rfl) ?_
    refine Stg.wpAnyL_one (i := 6) 0 rfl (by kernel_rfl) (by kernel_rfl) (fun K hK => ?_)
    try simp only [List.getElem_toArray, List.getElem_cons_succ, List.getElem_cons_zero]
    go_simp
    refine (cp.out _ (hHeld rfl)).mono ?_
    rintro e w3 ⟨r, rfl, hT, hb1⟩
    have h3 := h2.out.bel (bNext (hHeld rfl) hb1 (Nat.le_refl _))
    refine hK.out _ _ ?_ (fun hHeld1 => ?_)
    · exact fun _ => bNext (hHeld rfl) hb1 (Nat.le_refl _)
    clear hK K
    try simp only [Act.put, List.setIfInBounds_toArray, List.set_cons_zero, List.set_cons_succ]
    refine Stg.wpAnyL_one (i := 7) 0 rfl (by kernel_rfl) (by kernel_rfl) (fun K hK => ?_)
    try simp only [List.getElem_toArray, List.getElem_cons_succ, List.getElem_cons_zero]
    go_simp
    refine hK.out _ _ ?_ (fun hHeld2 => ?_)
    · exact fun _ => bNext (hHeld1 rfl) ((Below.refl _ _).alloc (Nat.le_refl _) _) (Nat.le_refl _)
    clear hK K
    try simp only [Act.put, List.setIfInBounds_toArray, List.set_cons_zero, List.set_cons_succ]
    refine Stg.wpAnyL_one (i := 8) 1 rfl (by kernel_rfl) (by kernel_rfl) (fun K hK => ?_)
    try simp only [List.getElem_toArray, List.getElem_cons_succ, List.getElem_cons_zero]
    rw [if_pos (by rfl)]
    refine wp_append_lies _ (.tmp 25) (.tmp 28) 49 rfl base 34 i0 _ 14 160 Try.underlying49 hi0 hz0 hz1 hz2 (by rfl) (by omega) _ _ _ (by rfl) (h3.own.alloc _) ⟨w3.heap.size, 0, none⟩ 1 1 (cellsM ⟨x.f, r.ea, r.en, r.ec, r.sa, r.sn, r.sc, r.da, r.dn, r.dc⟩) (by rfl) (by rfl) (World.news_of_block (cs := #[.int .i8 x.f.k, .int .i64 x.f.fr, .int .i64 x.f.to, .int .i64 x.f.te, .int .i64 x.f.ix, .int .i64 x.f.la, .int .i64 x.f.co, .bool x.f.ok, .slice r.ea r.en r.ec, .int .i64 x.f.si, .int .i64 x.f.st, .int .u8 x.f.su, .slice r.sa r.sn r.sc, .slice r.da r.dn r.dc]) (t := 34) (fr := (0, 0)) (heap_alloc_new w3 _)) (cellsM_one _) (by omega) (by unfold maxLen; omega) (by omega) (by have := h3.h6; simp; omega) (w3.heap.size + 1) (by simp) ?_
    intro g1 cap1 w5 hown1 hgrow1 hat1 hlt1
    refine hK.out _ _ ?_ (fun hHeld3 => ?_)
    · exact fun h => absurd h (by decide)
    clear hK K
    try simp only [Act.put, List.setIfInBounds_toArray, List.set_cons_zero, List.set_cons_succ]
    refine Stg.wpAnyL_start (n' := 3) (l' := #[true, true, true, true, true, true, true, true, true, false, false, false]) (by kernel_rfl) (by kernel_rfl) ?_
    refine Stg.wpAnyL_free (i := 9) (v := ?_) 1 rfl (by kernel_rfl) (by kernel_rfl) (by kernel_rfl) (by kernel_rfl) (by kernel_rfl) (fun _ _ _ h => h) (Or.inl ⟨by kernel_rfl, ?_⟩) (by assumption) ?_
    rotate_left
    · intro u _
      try simp only [List.getElem_toArray, List.getElem_cons_succ, List.getElem_cons_zero]
      go_simp
      try with_reducible rfl
    try simp only [Act.put, List.setIfInBounds_toArray, List.set_cons_zero, List.set_cons_succ]
    refine Stg.wpAnyL_free (i := 10) (v := ?_) 1 rfl (by kernel_rfl) (by kernel_rfl) (by kernel_rfl) (by kernel_rfl) (by kernel_rfl) (fun _ _ _ h => h) (Or.inl ⟨by kernel_rfl, ?_⟩) (by assumption) ?_
    rotate_left
    · intro u _
      try simp only [List.getElem_toArray, List.getElem_cons_succ, List.getElem_cons_zero]
      go_simp
      try with_reducible rfl
    try simp only [Act.put, List.setIfInBounds_toArray, List.set_cons_zero, List.set_cons_succ]
    refine Stg.wpAnyL_one (i := 11) 2 rfl (by kernel_rfl) (by kernel_rfl) (fun K hK => ?_)
    obtain ⟨z0, z1⟩ := h3.grown hgrow1
    try simp only [List.getElem_toArray, List.getElem_cons_succ, List.getElem_cons_zero]
    go_simp
    refine hK.out _ _ ?_ (fun hHeld4 => ?_)
    · exact fun h => absurd h (by decide)
    clear hK K
    try simp only [Act.put, List.setIfInBounds_toArray, List.set_cons_zero, List.set_cons_succ]
    refine Stg.wpAnyL_done (by kernel_rfl) ?_ _
    try simp only [List.getElem_toArray, List.getElem_cons_succ, List.getElem_cons_zero]
    try simp only [Act.put, List.setIfInBounds_toArray, List.set_cons_zero, List.set_cons_succ]
    refine NoPanic.normal ?_
    obtain ⟨r1, r2⟩ := RA.send rfl (hat1.imp id (fun q => by omega)) h3 hgrow1 hown1
    have tf := r2.tf (h3.types (by decide) (by decide)) h3.own
    have hTM : TM w3 ⟨x.f, r.ea, r.en, r.ec, r.sa, r.sn, r.sc, r.da, r.dn, r.dc⟩ x := by obtain ⟨rf, _⟩ := r; obtain rfl : rf = x.f := hT.f; exact hT
    have hTM2 := hTM.tf tf
    have hfin := r2.pre (bNext hbm.out (bNext (hHeld rfl) hb1 (Nat.le_refl _)) (Nat.le_refl _))
    go_wp2_with fail
    go_ret
    exact ⟨_, _, rfl, r1, hTM2, hfin⟩
  ·
    go_enter Try.func27, Try.ntmps27
    go_upto_region 1 with fail
    have bx := bx.out
    have h2 := h2.out
    have hbm := hbm.out
    generalize (w.alloc (.cells #[.int .i8 x.f.k, .int .i64 x.f.fr, .int .i64 x.f.to, .int .i64 x.f.te, .int .i64 x.f.ix, .int .i64 x.f.la, .int .i64 x.f.co, .bool x.f.ok, .slice ea en ec, .int .i64 x.f.si, .int .i64 x.f.st, .int .u8 x.f.su, .slice sa sn sc, .slice da dn dc] 34)) = W1 at bx h2 hbm cp ⊢
    obtain ⟨xb, hxb⟩ : ∃ xb, w.heap.size = xb := ⟨_, rfl⟩
    rw [hxb] at bx ⊢
    replace hxb := Lib.hid hxb
    replace hbm := Lib.hid hbm
    have y0 := bx.c 0 _ rfl
    have y1 := bx.c 1 _ rfl
    have y2 := bx.c 2 _ rfl
    have y3 := bx.c 3 _ rfl
    have y4 := bx.c 4 _ rfl
    have y5 := bx.c 5 _ rfl
    have y6 := bx.c 6 _ rfl
    have y7 := bx.c 7 _ rfl
    have y8 := bx.c 8 _ rfl
    have y9 := bx.c 9 _ rfl
    have y10 := bx.c 10 _ rfl
    have y11 := bx.c 11 _ rfl
    have y12 := bx.c 12 _ rfl
    have y13 := bx.c 13 _ rfl
    have c0 := h2.c0
    clear bx
    replace h2 := Lib.hid h2
    go_wp2_with fail
    refine (af _).mono ?_
    rintro e w' ⟨rfl, rfl⟩
    go_wp2_with fail
    refine (at' _).mono ?_
    rintro e w' ⟨rfl, rfl⟩
    clear af at'
    go_upto_region 5 with fail
    refine wp_region_noPanic ?_
    refine Stg.wp_region_L [8, 11] (Bs.SB W1) (by kernel_rfl) (fun _ => (Below.refl _ _).drew) (fun hHeld => ?_)
    refine Stg.wpAnyL_start (n' := 12) (l' := #[false, false, false, false, false, false, false, false, false, false, false, false]) (by kernel_rfl) (by kernel_rfl) ?_
    refine Stg.wpAnyL_free (i := 0) (v := ?_) 0 rfl (by kernel_rfl) (by kernel_rfl) (by kernel_rfl) (by kernel_rfl) (by kernel_rfl) (fun _ _ _ h => h) (Or.inl ⟨by kernel_rfl, ?_⟩) (by assumption) ?_
    rotate_left
    · intro u _
      try simp only [List.getElem_toArray, List.getElem_cons_succ, List.getElem_cons_zero]
      go_simp
      try with_reducible rfl
    try simp only [Act.put, List.setIfInBounds_toArray, List.set_cons_zero, List.set_cons_succ]
    refine Stg.wpAnyL_free (i := 1) (v := ?_) 0 rfl (by kernel_rfl) (by kernel_rfl) (by kernel_rfl) (by kernel_rfl) (by kernel_rfl) (fun _ _ _ h => h) (Or.inl ⟨by kernel_rfl, ?_⟩) (by assumption) ?_
    rotate_left
    · intro u _
      try simp only [List.getElem_toArray, List.getElem_cons_succ, List.getElem_cons_zero]
      go_simp
      try with_reducible rfl
    try simp only [Act.put, List.setIfInBounds_toArray, List.set_cons_zero, List.set_cons_succ]
    refine Stg.wpAnyL_free (i := 2) (v := ?_) 0 rfl (by kernel_rfl) (by kernel_rfl) (by kernel_rfl) (by kernel_rfl) (by kernel_rfl) (fun _ _ _ h => h) (Or.inl ⟨by kernel_rfl, ?_⟩) (by assumption) ?_
    rotate_left
    · intro u _
      try simp only [List.getElem_toArray, List.getElem_cons_succ, List.getElem_cons_zero]
      go_simp
      try with_reducible rfl
    try simp only [Act.put, List.setIfInBounds_toArray, List.set_cons_zero, List.set_cons_succ]
    refine Stg.wpAnyL_start (n' := 9) (l' := #[true, true, true, false, false, false, false, false, false, false, false, false]) (by kernel_rfl) (by kernel_rfl) ?_
    refine Stg.wpAnyL_free (i := 3) (v := ?_) 0 rfl (by kernel_rfl) (by kernel_rfl) (by kernel_rfl) (by kernel_rfl) (by kernel_rfl) (fun _ _ _ h => h) (Or.inl ⟨by kernel_rfl, ?_⟩) (by assumption) ?_
    rotate_left
    · intro u _
      try simp only [List.getElem_toArray, List.getElem_cons_succ, List.getElem_cons_zero]
      go_simp
      try with_reducible rfl
    try simp only [Act.put, List.setIfInBounds_toArray, List.set_cons_zero, List.set_cons_succ]
    refine Stg.wpAnyL_take (i := 4) (v := ?_) [8, 9, 10, 11] 0 rfl (by kernel_rfl) (by kernel_rfl) (by kernel_rfl) (by kernel_rfl) (by kernel_rfl) (fun _ _ _ h => h) (Or.inl ⟨by kernel_rfl, ?_⟩) (by assumption) ?_
    rotate_left
    · intro u hSu
      skip
      have sB := hSu rfl
      have y0 := cellB sB y0
      have y1 := cellB sB y1
      have y2 := cellB sB y2
      have y3 := cellB sB y3
      have y4 := cellB sB y4
      have y5 := cellB sB y5
      have y6 := cellB sB y6
      have y7 := cellB sB y7
      have y8 := cellB sB y8
      have y9 := cellB sB y9
      have y10 := cellB sB y10
      have y11 := cellB sB y11
      have y12 := cellB sB y12
      have y13 := cellB sB y13
      have y14 := cellB sB c0
      try simp only [List.getElem_toArray, List.getElem_cons_succ, List.getElem_cons_zero]
      go_simp
      try with_reducible rfl
    try simp only [Act.put, List.setIfInBounds_toArray, List.set_cons_zero, List.set_cons_succ]
    refine Stg.wpAnyL_take (i := 5) (v := ?_) [6, 7, 8, 9, 10, 11] 0 rfl (by kernel_rfl) (by kernel_rfl) (by kernel_rfl) (by kernel_rfl) (by kernel_rfl) (fun _ _ _ h => h) (Or.inl ⟨by kernel_rfl, ?_⟩) (by assumption) ?_
    rotate_left
    · intro u hSu
      skip
      have sB := hSu rfl
      have y0 := cellB sB y0
      have y1 := cellB sB y1
      have y2 := cellB sB y2
      have y3 := cellB sB y3
      have y4 := cellB sB y4
      have y5 := cellB sB y5
      have y6 := cellB sB y6
      have y7 := cellB sB y7
      have y8 := cellB sB y8
      have y9 := cellB sB y9
      have y10 := cellB sB y10
      have y11 := cellB sB y11
      have y12 := cellB sB y12
      have y13 := cellB sB y13
      have y14 := cellB sB c0
      try simp only [List.getElem_toArray, List.getElem_cons_succ, List.getElem_cons_zero]
      go_simp
      try with_reducible rfl
    try simp only [Act.put, List.setIfInBounds_toArray, List.set_cons_zero, List.set_cons_succ]
    refine Stg.wpAnyL_start (n' := 6) (l' := #[true, true, true, true, true, true, false, false, false, false, false, false]) (by kernel_rfl) (by kernel_rfl) ?_
    refine Stg.wpAnyL_one (i := 6) 0 rfl (by kernel_rfl) (by kernel_rfl) (fun K hK => ?_)
    try simp only [List.getElem_toArray, List.getElem_cons_succ, List.getElem_cons_zero]
    go_simp
    refine (cp.out _ (hHeld rfl)).mono ?_
    rintro e w3 ⟨r, rfl, hT, hb1⟩
    have h3 := h2.out.bel (bNext (hHeld rfl) hb1 (Nat.le_refl _))
    refine hK.out _ _ ?_ (fun hHeld1 => ?_)
    · exact fun _ => bNext (hHeld rfl) hb1 (Nat.le_refl _)
    clear hK K
    try simp only [Act.put, List.setIfInBounds_toArray, List.set_cons_zero, List.set_cons_succ]
    refine Stg.wpAnyL_one (i := 7) 0 rfl (by kernel_rfl) (by kernel_rfl) (fun K hK => ?_)
    try simp only [List.getElem_toArray, List.getElem_cons_succ, List.getElem_cons_zero]
    go_simp
    refine hK.out _ _ ?_ (fun hHeld2 => ?_)
    · exact fun _ => bNext (hHeld1 rfl) ((Below.refl _ _).alloc (Nat.le_refl _) _) (Nat.le_refl _)
    clear hK K
    try simp only [Act.put, List.setIfInBounds_toArray, List.set_cons_zero, List.set_cons_succ]
    refine Stg.wpAnyL_one (i := 8) 1 rfl (by kernel_rfl) (by kernel_rfl) (fun K hK => ?_)
    try simp only [List.getElem_toArray, List.getElem_cons_succ, List.getElem_cons_zero]
    rw [if_pos (by rfl)]
    refine wp_append_lies _ (.tmp 25) (.tmp 28) 49 rfl base 34 i0 _ 14 160 Try.underlying49 hi0 hz0 hz1 hz2 (by rfl) (by omega) _ _ _ (by rfl) (h3.own.alloc _) ⟨w3.heap.size, 0, none⟩ 1 1 (cellsM ⟨x.f, r.ea, r.en, r.ec, r.sa, r.sn, r.sc, r.da, r.dn, r.dc⟩) (by rfl) (by rfl) (World.news_of_block (cs := #[.int .i8 x.f.k, .int .i64 x.f.fr, .int .i64 x.f.to, .int .i64 x.f.te, .int .i64 x.f.ix, .int .i64 x.f.la, .int .i64 x.f.co, .bool x.f.ok, .slice r.ea r.en r.ec, .int .i64 x.f.si, .int .i64 x.f.st, .int .u8 x.f.su, .slice r.sa r.sn r.sc, .slice r.da r.dn r.dc]) (t := 34) (fr := (0, 0)) (heap_alloc_new w3 _)) (cellsM_one _) (by omega) (by unfold maxLen; omega) (by omega) (by have := h3.h6; simp; omega) (w3.heap.size + 1) (by simp) ?_
    intro g1 cap1 w5 hown1 hgrow1 hat1 hlt1
    refine hK.out _ _ ?_ (fun hHeld3 => ?_)
    · exact fun h => absurd h (by decide)
    clear hK K
    try simp only [Act.put, List.setIfInBounds_toArray, List.set_cons_zero, List.set_cons_succ]
    refine Stg.wpAnyL_start (n' := 3) (l' := #[true, true, true, true, true, true, true, true, true, false, false, false]) (by kernel_rfl) (by kernel_rfl) ?_
    refine Stg.wpAnyL_free (i := 9) (v := ?_) 1 rfl (by kernel_rfl) (by kernel_rfl) (by kernel_rfl) (by kernel_rfl) (by kernel_rfl) (fun _ _ _ h => h) (Or.inl ⟨by kernel_rfl, ?_⟩) (by assumption) ?_
    rotate_left
    · intro u _
      try simp only [List.getElem_toArray, List.getElem_cons_succ, List.getElem_cons_zero]
      go_simp
      try with_reducible rfl
    try simp only [Act.put, List.setIfInBounds_toArray, List.set_cons_zero, List.set_cons_succ]
    refine Stg.wpAnyL_free (i := 10) (v := ?_) 1 rfl (by kernel_rfl) (by kernel_rfl) (by kernel_rfl) (by kernel_rfl) (by kernel_rfl) (fun _ _ _ h => h) (Or.inl ⟨by kernel_rfl, ?_⟩) (by assumption) ?_
    rotate_left
    · intro u _
      try simp only [List.getElem_toArray, List.getElem_cons_succ, List.getElem_cons_zero]
      go_simp
      try with_reducible rfl
    try simp only [Act.put, List.setIfInBounds_toArray, List.set_cons_zero, List.set_cons_succ]
    refine Stg.wpAnyL_one (i := 11) 2 rfl (by kernel_rfl) (by kernel_rfl) (fun K hK => ?_)
    obtain ⟨z0, z1⟩ := h3.grown hgrow1
    try simp only [List.getElem_toArray, List.getElem_cons_succ, List.getElem_cons_zero]
    go_simp
    refine hK.out _ _ ?_ (fun hHeld4 => ?_)
    · exact fun h => absurd h (by decide)
    clear hK K
    try simp only [Act.put, List.setIfInBounds_toArray, List.set_cons_zero, List.set_cons_succ]
    refine Stg.wpAnyL_done (by kernel_rfl) ?_ _
    try simp only [List.getElem_toArray, List.getElem_cons_succ, List.getElem_cons_zero]
    try simp only [Act.put, List.setIfInBounds_toArray, List.set_cons_zero, List.set_cons_succ]
    refine NoPanic.normal ?_
    obtain ⟨r1, r2⟩ := RA.send rfl (hat1.imp id (fun q => by omega)) h3 hgrow1 hown1
    have tf := r2.tf (h3.types (by decide) (by decide)) h3.own
    have hTM : TM w3 ⟨x.f, r.ea, r.en, r.ec, r.sa, r.sn, r.sc, r.da, r.dn, r.dc⟩ x := by obtain ⟨rf, _⟩ := r; obtain rfl : rf = x.f := hT.f; exact hT
    have hTM2 := hTM.tf tf
    have hfin := r2.pre (bNext hbm.out (bNext (hHeld rfl) hb1 (Nat.le_refl _)) (Nat.le_refl _))
    go_wp2_with fail
    go_ret
    exact ⟨_, _, rfl, r1, hTM2, hfin⟩

set_option maxRecDepth 100000 in
set_option maxHeartbeats 4000000 in
theorem rsend_full {s2 : Value} {w : World} {g base : Nat} {lv : Value} {l : List RM} (h : RA 52 s2 w g base lv l) (x : Mg) (ea : Option Addr) (en ec : Nat) (sa : Option Addr) (sn sc : Nat) (da : Option Addr) (dn dc : Nat) (hf : 1 ≤ x.f.fr ∧ x.f.fr ≤ 255) (ht : 1 ≤ x.f.to ∧ x.f.to ≤ 255) (hn : l.length = 1024) :
    Calls Try.prog 27 #[.pointer (some ⟨g, 0, none⟩), .agg #[.int .i8 x.f.k, .int .i64 x.f.fr, .int .i64 x.f.to, .int .i64 x.f.te, .int .i64 x.f.ix, .int .i64 x.f.la, .int .i64 x.f.co, .bool x.f.ok, .slice ea en ec, .int .i64 x.f.si, .int .i64 x.f.st, .int .u8 x.f.su, .slice sa sn sc, .slice da dn dc]] w (SendN 100 w) := by
  have hb0 : Below w.heap.size w (w.alloc (.cells #[.int .i8 x.f.k, .int .i64 x.f.fr, .int .i64 x.f.to, .int .i64 x.f.te, .int .i64 x.f.ix, .int .i64 x.f.la, .int .i64 x.f.co, .bool x.f.ok, .slice ea en ec, .int .i64 x.f.si, .int .i64 x.f.st, .int .u8 x.f.su, .slice sa sn sc, .slice da dn dc] 34)) := (Below.refl _ _).alloc (Nat.le_refl _) _
  have bx := HT.new w #[.int .i8 x.f.k, .int .i64 x.f.fr, .int .i64 x.f.to, .int .i64 x.f.te, .int .i64 x.f.ix, .int .i64 x.f.la, .int .i64 x.f.co, .bool x.f.ok, .slice ea en ec, .int .i64 x.f.si, .int .i64 x.f.st, .int .u8 x.f.su, .slice sa sn sc, .slice da dn dc] 34
  have c0 := (h.bel hb0).c0
  have af := fun W => raddress_yes x.f.fr W hf.1 hf.2
  have at' := fun W => raddress_yes x.f.to W ht.1 ht.2
  obtain ⟨a, cap, rfl⟩ := h.shape
  clear h
  rw [hn] at c0
  obtain ⟨f1, f2⟩ := hf
  obtain ⟨t1, t2⟩ := ht
  replace bx := Lib.hid bx
  replace hn := Lib.hid hn
  have hbm := Lib.hid hb0
  clear hb0
  go_enter Try.func27, Try.ntmps27
  go_upto_region 1 with fail
  have bx := bx.out
  have hbm := hbm.out
  generalize (w.alloc (.cells #[.int .i8 x.f.k, .int .i64 x.f.fr, .int .i64 x.f.to, .int .i64 x.f.te, .int .i64 x.f.ix, .int .i64 x.f.la, .int .i64 x.f.co, .bool x.f.ok, .slice ea en ec, .int .i64 x.f.si, .int .i64 x.f.st, .int .u8 x.f.su, .slice sa sn sc, .slice da dn dc] 34)) = W1 at bx hbm c0 ⊢
  obtain ⟨xb, hxb⟩ : ∃ xb, w.heap.size = xb := ⟨_, rfl⟩
  rw [hxb] at bx ⊢
  replace hxb := Lib.hid hxb
  replace hbm := Lib.hid hbm
  have y1 := bx.c 1 _ rfl
  have y2 := bx.c 2 _ rfl
  clear bx
  go_wp2_with fail
  refine (af _).mono ?_
  rintro e w' ⟨rfl, rfl⟩
  go_wp2_with fail
  refine (at' _).mono ?_
  rintro e w' ⟨rfl, rfl⟩
  go_wp2_with fail
  go_ret
  exact ⟨rfl, hbm.out⟩

set_option maxRecDepth 100000 in
set_option maxHeartbeats 4000000 in
theorem rsend_bad1 {s2 : Value} {w : World} {g base : Nat} {lv : Value} {l : List RM} (h : RA 52 s2 w g base lv l) (x : Mg) (ea : Option Addr) (en ec : Nat) (sa : Option Addr) (sn sc : Nat) (da : Option Addr) (dn dc : Nat) (hf : ¬ (1 ≤ x.f.fr ∧ x.f.fr ≤ 255)) :
    Calls Try.prog 27 #[.pointer (some ⟨g, 0, none⟩), .agg #[.int .i8 x.f.k, .int .i64 x.f.fr, .int .i64 x.f.to, .int .i64 x.f.te, .int .i64 x.f.ix, .int .i64 x.f.la, .int .i64 x.f.co, .bool x.f.ok, .slice ea en ec, .int .i64 x.f.si, .int .i64 x.f.st, .int .u8 x.f.su, .slice sa sn sc, .slice da dn dc]] w (SendN 2 w) := by
  have hb0 : Below w.heap.size w (w.alloc (.cells #[.int .i8 x.f.k, .int .i64 x.f.fr, .int .i64 x.f.to, .int .i64 x.f.te, .int .i64 x.f.ix, .int .i64 x.f.la, .int .i64 x.f.co, .bool x.f.ok, .slice ea en ec, .int .i64 x.f.si, .int .i64 x.f.st, .int .u8 x.f.su, .slice sa sn sc, .slice da dn dc] 34)) := (Below.refl _ _).alloc (Nat.le_refl _) _
  have bx := HT.new w #[.int .i8 x.f.k, .int .i64 x.f.fr, .int .i64 x.f.to, .int .i64 x.f.te, .int .i64 x.f.ix, .int .i64 x.f.la, .int .i64 x.f.co, .bool x.f.ok, .slice ea en ec, .int .i64 x.f.si, .int .i64 x.f.st, .int .u8 x.f.su, .slice sa sn sc, .slice da dn dc] 34
  have c0 := (h.bel hb0).c0
  have af := fun W => raddress_no x.f.fr W hf
  skip
  obtain ⟨a, cap, rfl⟩ := h.shape
  clear h
  skip
  clear hf
  skip
  replace bx := Lib.hid bx
  skip
  have hbm := Lib.hid hb0
  clear hb0
  go_enter Try.func27, Try.ntmps27
  go_upto_region 1 with fail
  have bx := bx.out
  have hbm := hbm.out
  generalize (w.alloc (.cells #[.int .i8 x.f.k, .int .i64 x.f.fr, .int .i64 x.f.to, .int .i64 x.f.te, .int .i64 x.f.ix, .int .i64 x.f.la, .int .i64 x.f.co, .bool x.f.ok, .slice ea en ec, .int .i64 x.f.si, .int .i64 x.f.st, .int .u8 x.f.su, .slice sa sn sc, .slice da dn dc] 34)) = W1 at bx hbm c0 ⊢
  obtain ⟨xb, hxb⟩ : ∃ xb, w.heap.size = xb := ⟨_, rfl⟩
  rw [hxb] at bx ⊢
  replace hxb := Lib.hid hxb
  replace hbm := Lib.hid hbm
  have y1 := bx.c 1 _ rfl
  have y2 := bx.c 2 _ rfl
  clear bx
  go_wp2_with fail
  refine (af _).mono ?_
  rintro e w' ⟨rfl, rfl⟩
  go_wp2_with fail
  go_ret
  exact ⟨rfl, hbm.out⟩

set_option maxRecDepth 100000 in
set_option maxHeartbeats 4000000 in
theorem rsend_bad2 {s2 : Value} {w : World} {g base : Nat} {lv : Value} {l : List RM} (h : RA 52 s2 w g base lv l) (x : Mg) (ea : Option Addr) (en ec : Nat) (sa : Option Addr) (sn sc : Nat) (da : Option Addr) (dn dc : Nat) (hf : 1 ≤ x.f.fr ∧ x.f.fr ≤ 255) (ht : ¬ (1 ≤ x.f.to ∧ x.f.to ≤ 255)) :
    Calls Try.prog 27 #[.pointer (some ⟨g, 0, none⟩), .agg #[.int .i8 x.f.k, .int .i64 x.f.fr, .int .i64 x.f.to, .int .i64 x.f.te, .int .i64 x.f.ix, .int .i64 x.f.la, .int .i64 x.f.co, .bool x.f.ok, .slice ea en ec, .int .i64 x.f.si, .int .i64 x.f.st, .int .u8 x.f.su, .slice sa sn sc, .slice da dn dc]] w (SendN 2 w) := by
  have hb0 : Below w.heap.size w (w.alloc (.cells #[.int .i8 x.f.k, .int .i64 x.f.fr, .int .i64 x.f.to, .int .i64 x.f.te, .int .i64 x.f.ix, .int .i64 x.f.la, .int .i64 x.f.co, .bool x.f.ok, .slice ea en ec, .int .i64 x.f.si, .int .i64 x.f.st, .int .u8 x.f.su, .slice sa sn sc, .slice da dn dc] 34)) := (Below.refl _ _).alloc (Nat.le_refl _) _
  have bx := HT.new w #[.int .i8 x.f.k, .int .i64 x.f.fr, .int .i64 x.f.to, .int .i64 x.f.te, .int .i64 x.f.ix, .int .i64 x.f.la, .int .i64 x.f.co, .bool x.f.ok, .slice ea en ec, .int .i64 x.f.si, .int .i64 x.f.st, .int .u8 x.f.su, .slice sa sn sc, .slice da dn dc] 34
  have c0 := (h.bel hb0).c0
  have af := fun W => raddress_yes x.f.fr W hf.1 hf.2
  have at' := fun W => raddress_no x.f.to W ht
  obtain ⟨a, cap, rfl⟩ := h.shape
  clear h
  skip
  obtain ⟨f1, f2⟩ := hf
  clear ht
  replace bx := Lib.hid bx
  skip
  have hbm := Lib.hid hb0
  clear hb0
  go_enter Try.func27, Try.ntmps27
  go_upto_region 1 with fail
  have bx := bx.out
  have hbm := hbm.out
  generalize (w.alloc (.cells #[.int .i8 x.f.k, .int .i64 x.f.fr, .int .i64 x.f.to, .int .i64 x.f.te, .int .i64 x.f.ix, .int .i64 x.f.la, .int .i64 x.f.co, .bool x.f.ok, .slice ea en ec, .int .i64 x.f.si, .int .i64 x.f.st, .int .u8 x.f.su, .slice sa sn sc, .slice da dn dc] 34)) = W1 at bx hbm c0 ⊢
  obtain ⟨xb, hxb⟩ : ∃ xb, w.heap.size = xb := ⟨_, rfl⟩
  rw [hxb] at bx ⊢
  replace hxb := Lib.hid hxb
  replace hbm := Lib.hid hbm
  have y1 := bx.c 1 _ rfl
  have y2 := bx.c 2 _ rfl
  clear bx
  go_wp2_with fail
  refine (af _).mono ?_
  rintro e w' ⟨rfl, rfl⟩
  go_wp2_with fail
  refine (at' _).mono ?_
  rintro e w' ⟨rfl, rfl⟩
  go_wp2_with fail
  go_ret
  exact ⟨rfl, hbm.out⟩

end Go.Proofs.Ytnokojobiaddmaa
