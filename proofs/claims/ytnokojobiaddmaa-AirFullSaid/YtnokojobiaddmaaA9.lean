/- The air: ways are cut and mended; a message once more. -/
import Derived.Test.YtnokojobiaddmaaA8
namespace Go.Proofs.Ytnokojobiaddmaa
open Go.ChangeShapes Go.WideShapes Go.ChangeAt Go.RowKit Go.Maps
set_option linter.unusedVariables false
set_option linter.unusedSimpArgs false
open BigFrame Bs Ar

namespace Ar
def setC (C : Int → Int → Bool) (f t : Int) (b : Bool) (f' t' : Int) : Bool := if f' = f ∧ t' = t then b else C f' t'
theorem cuts_put {w w' : World} {bm n : Nat} {C : Int → Int → Bool} {D : DataW Unit} (f t : Int) (b : Bool) (hf : (Lit.int .i64 f).wf = true) (ht : (Lit.int .i64 t).wf = true)
    (h0 : w.ownsMap Try.prog 64 (plainElem Try.prog 4) bm n D) (h1 : ∀ f t, (Lit.int .i64 f).wf = true → (Lit.int .i64 t).wf = true → D.atKey (.string (keyBytes [.int .i64 f, .int .i64 t])) (.lit (.bool false)) = .lit (.bool (C f t)))
    (h2 : w'.ownsMap Try.prog 64 (plainElem Try.prog 4) bm (n + 1) (D.put (.string (keyBytes [.int .i64 f, .int .i64 t])) (.lit (.bool b)))) : Cuts w' bm (n + 1) (setC C f t b) := by
  refine ⟨_, h2, fun f' t' hf' ht' => ?_⟩
  unfold setC
  by_cases e : f' = f ∧ t' = t
  · obtain ⟨rfl, rfl⟩ := e
    rw [if_pos ⟨rfl, rfl⟩]
    exact atKey_put_same h0.isMap (way_keyed.key (way_key f' t' hf' ht')) _ _
  · rw [if_neg e]
    refine (atKey_put_other (fun q => e ?_) _ _).trans (h1 f' t' hf' ht')
    have k1 := way_key f' t' hf' ht'
    rw [q] at k1
    have := way_keyed.inj k1 (way_key f t hf ht)
    simp at this
    exact this
def SetP (m g base : Nat) (lv : Value) (l : List FM) (bm n : Nat) (C : Int → Int → Bool) (w : World) (e : Ending) (w' : World) : Prop :=
  e = .returned (.int .i64 0) ∧ AirAt m w' g base lv l bm n C ∧ Kpt m g bm lv lv w w'
theorem addr_wf {n : Int} (h1 : 1 ≤ n) (h2 : n ≤ 255) : (Lit.int .i64 n).wf = true := by
  simp [Lit.wf, IntKind.min, IntKind.max, IntKind.signed, IntKind.bits]; omega
end Ar

set_option maxRecDepth 100000 in
set_option maxHeartbeats 4000000 in
theorem air_set (f t : Int) (b : Bool) {m : Nat} {w : World} {g base : Nat} {lv : Value} {l : List FM} {bm n : Nat} {C : Int → Int → Bool} (h : AirAt m w g base lv l bm n C) (hf : 1 ≤ f ∧ f ≤ 255) (ht : 1 ≤ t ∧ t ≤ 255) (hn : n ≤ 1000) :
    Calls Try.prog 24 #[.pointer (some ⟨g, 0, none⟩), .int .i64 f, .int .i64 t, .bool b] w (SetP m g base lv l bm (n + 1) (setC C f t b) w) := by
  have af := fun W => address_yes f W hf.1 hf.2
  have at' := fun W => address_yes t W ht.1 ht.2
  have wf := addr_wf hf.1 hf.2
  have wt := addr_wf ht.1 ht.2
  obtain ⟨D, d1, d2⟩ := h.mp
  have c1 := h.c1
  have hk := way_key f t wf wt
  replace h := Lib.hid h
  replace d1 := Lib.hid d1
  replace d2 := Lib.hid d2
  have hpe : plainElem (H := Unit) Try.prog 4 (.bool b) = some (.lit (.bool b), []) := by simp [plainElem, Try.underlying4]
  replace hpe := Lib.hid hpe
  replace hk := Lib.hid hk
  replace wf := Lib.hid wf
  replace wt := Lib.hid wt
  obtain ⟨f1, f2⟩ := hf
  obtain ⟨t1, t2⟩ := ht
  go_enter Try.func24, Try.ntmps24
  go_wp2_with fail
  refine (af _).mono ?_
  rintro e w' ⟨rfl, rfl⟩
  go_wp2_with fail
  refine (at' _).mono ?_
  rintro e w' ⟨rfl, rfl⟩
  go_wp2_with (at_mapUpdate; refine wpList_mapUpdate_own _ rfl _ _ _ 57 rfl 64 4 way_keyed Try.underlying57 _ bm n D rfl d1.out (by unfold maxLen; omega) _ _ _ rfl rfl hk.out (.lit (.bool b)) [] hpe.out ?_; intro w1 hown1 hgrow1)
  go_ret
  have hh := h.out
  have hgb : some g ≠ some bm := fun e => hh.h3 (by simpa using e)
  refine ⟨rfl, ⟨(hgrow1.block g hh.lt hgb).trans hh.hg, hh.own.kept hgrow1 ?_, cuts_put f t b wf.out wt.out d1.out d2.out hown1, hh.h1, hh.h2, hh.h3, hh.h4, hh.h5, Nat.le_trans hh.h6 hgrow1.size⟩, ⟨(Below.refl m w).grown hgrow1 hh.below (fun k hk => by cases hk; exact hh.h5), fun b hb h1 h2 h3 => hgrow1.block b hb (fun e => h2 (by simpa using e)), fun b hb h3 => h3⟩⟩
  rcases hh.own.2 with ⟨e, _⟩ | ⟨q, cap, cur, e, e2, _⟩
  · subst e; exact .inl rfl
  · subst e
    refine .inr fun q2 => ?_
    have := hh.h2
    simp [Value.ownBlock] at q2
    omega

set_option maxRecDepth 100000 in
set_option maxHeartbeats 4000000 in
theorem air_set_no (f t : Int) (b : Bool) (g : Nat) (w : World) (h : ¬ ((1 ≤ f ∧ f ≤ 255) ∧ 1 ≤ t ∧ t ≤ 255)) :
    Calls Try.prog 24 #[.pointer (some ⟨g, 0, none⟩), .int .i64 f, .int .i64 t, .bool b] w fun e w' => e = .returned (.int .i64 2) ∧ w = w' := by
  by_cases hf : 1 ≤ f ∧ f ≤ 255
  · have ht : ¬ (1 ≤ t ∧ t ≤ 255) := fun q => h ⟨hf, q⟩
    have af := fun W => address_yes f W hf.1 hf.2
    have at' := fun W => address_no t W ht
    clear h hf ht
    go_enter Try.func24, Try.ntmps24
    go_wp2_with fail
    refine (af _).mono ?_
    rintro e w' ⟨rfl, rfl⟩
    go_wp2_with fail
    refine (at' _).mono ?_
    rintro e w' ⟨rfl, rfl⟩
    go_wp2_with fail
    go_ret
    exact ⟨rfl, rfl⟩
  · have af := fun W => address_no f W hf
    clear h hf
    go_enter Try.func24, Try.ntmps24
    go_wp2_with fail
    refine (af _).mono ?_
    rintro e w' ⟨rfl, rfl⟩
    go_wp2_with fail
    go_ret
    exact ⟨rfl, rfl⟩

set_option maxRecDepth 100000 in
set_option maxHeartbeats 4000000 in
theorem air_Cut (f t : Int) {m : Nat} {w : World} {g base : Nat} {lv : Value} {l : List FM} {bm n : Nat} {C : Int → Int → Bool} (h : AirAt m w g base lv l bm n C) (hf : 1 ≤ f ∧ f ≤ 255) (ht : 1 ≤ t ∧ t ≤ 255) (hn : n ≤ 1000) :
    Calls Try.prog 13 #[.pointer (some ⟨g, 0, none⟩), .int .i64 f, .int .i64 t] w (SetP m g base lv l bm (n + 1) (setC C f t true) w) := by
  have hs := air_set f t true h hf ht hn
  clear h hf ht
  go_enter Try.func13, Try.ntmps13
  go_wp2_with fail
  refine hs.mono ?_
  rintro e w' ⟨rfl, hA, hB⟩
  go_wp2_with fail
  go_ret
  exact ⟨rfl, hA, hB⟩

set_option maxRecDepth 100000 in
set_option maxHeartbeats 4000000 in
theorem air_Mend (f t : Int) {m : Nat} {w : World} {g base : Nat} {lv : Value} {l : List FM} {bm n : Nat} {C : Int → Int → Bool} (h : AirAt m w g base lv l bm n C) (hf : 1 ≤ f ∧ f ≤ 255) (ht : 1 ≤ t ∧ t ≤ 255) (hn : n ≤ 1000) :
    Calls Try.prog 14 #[.pointer (some ⟨g, 0, none⟩), .int .i64 f, .int .i64 t] w (SetP m g base lv l bm (n + 1) (setC C f t false) w) := by
  have hs := air_set f t false h hf ht hn
  clear h hf ht
  go_enter Try.func14, Try.ntmps14
  go_wp2_with fail
  refine hs.mono ?_
  rintro e w' ⟨rfl, hA, hB⟩
  go_wp2_with fail
  go_ret
  exact ⟨rfl, hA, hB⟩

set_option maxRecDepth 100000 in
set_option maxHeartbeats 4000000 in
theorem air_Cut_no (f t : Int) (g : Nat) (w : World) (h : ¬ ((1 ≤ f ∧ f ≤ 255) ∧ 1 ≤ t ∧ t ≤ 255)) :
    Calls Try.prog 13 #[.pointer (some ⟨g, 0, none⟩), .int .i64 f, .int .i64 t] w fun e w' => e = .returned (.int .i64 2) ∧ w = w' := by
  have hs := air_set_no f t true g w h
  clear h
  go_enter Try.func13, Try.ntmps13
  go_wp2_with fail
  refine hs.mono ?_
  rintro e w' ⟨rfl, rfl⟩
  go_wp2_with fail
  go_ret
  exact ⟨rfl, rfl⟩

set_option maxRecDepth 100000 in
set_option maxHeartbeats 4000000 in
theorem air_double (k : Nat) {m : Nat} {w : World} {g base : Nat} {lv : Value} {l : List FM} {bm n : Nat} {C : Int → Int → Bool} (h : AirAt m w g base lv l bm n C) (x : FM) (hk : k < l.length) (hx : l.getD k fm0 = x) (hn : l.length < 1024) :
    Calls Try.prog 15 #[.pointer (some ⟨g, 0, none⟩), .int .i64 (k : Nat)] w (SendP lv m g base (l ++ [x]) bm n C w) := by
  obtain ⟨i0, hi0, hz0, hz1, hz2⟩ := info_parts info_msg
  have hlook := air_look k h x hk hx (by omega)
  have hmw := h.below
  obtain ⟨q, cap, rfl, _⟩ := h.own.form (by omega)
  have hni : (l.length : Int) < 1024 := by omega
  replace h := Lib.hid h
  replace hx := Lib.hid hx
  go_enter Try.func15, Try.ntmps15
  go_wp2_with fail
  refine hlook.mono ?_
  rintro e w2 ⟨rfl, hb2⟩
  have hbb := (Below.refl w2.heap.size w2).alloc (Nat.le_refl _) (.cells #[.int .i8 x.k, .int .i64 x.fr, .int .i64 x.to, .int .i64 x.te, .int .i64 x.ix, .int .i64 x.la, .int .i64 x.co, .bool x.ok, .slice none 0 0, .int .i64 x.si, .int .i64 x.st, .int .u8 x.su, .slice none 0 0, .slice none 0 0] 34)
  have hB := bNext hb2 hbb (Nat.le_refl _)
  have rs : HB (w2.alloc (.cells #[.int .i8 x.k, .int .i64 x.fr, .int .i64 x.to, .int .i64 x.te, .int .i64 x.ix, .int .i64 x.la, .int .i64 x.co, .bool x.ok, .slice none 0 0, .int .i64 x.si, .int .i64 x.st, .int .u8 x.su, .slice none 0 0, .slice none 0 0] 34)) w2.heap.size #[.int .i8 x.k, .int .i64 x.fr, .int .i64 x.to, .int .i64 x.te, .int .i64 x.ix, .int .i64 x.la, .int .i64 x.co, .bool x.ok, .slice none 0 0, .int .i64 x.si, .int .i64 x.st, .int .u8 x.su, .slice none 0 0, .slice none 0 0] := HB.new w2 _
  have h3 := h.out.bel hB
  clear hlook hb2 hbb
  replace rs := Lib.hid rs
  replace h3 := Lib.hid h3
  replace hB := Lib.hid hB
  go_upto_region 2 with fail
  replace rs := rs.out
  replace h3 := h3.out
  replace hB := hB.out
  generalize (w2.alloc (.cells #[.int .i8 x.k, .int .i64 x.fr, .int .i64 x.to, .int .i64 x.te, .int .i64 x.ix, .int .i64 x.la, .int .i64 x.co, .bool x.ok, .slice none 0 0, .int .i64 x.si, .int .i64 x.st, .int .u8 x.su, .slice none 0 0, .slice none 0 0] 34)) = W3 at rs h3 hB ⊢
  generalize w2.heap.size = zb at rs ⊢
  have c0 := h3.c0
  have y0 := rs.c 0 _ rfl
  have y1 := rs.c 1 _ rfl
  have y2 := rs.c 2 _ rfl
  have y3 := rs.c 3 _ rfl
  have y4 := rs.c 4 _ rfl
  have y5 := rs.c 5 _ rfl
  have y6 := rs.c 6 _ rfl
  have y7 := rs.c 7 _ rfl
  have y8 := rs.c 8 _ rfl
  have y9 := rs.c 9 _ rfl
  have y10 := rs.c 10 _ rfl
  have y11 := rs.c 11 _ rfl
  have y12 := rs.c 12 _ rfl
  have y13 := rs.c 13 _ rfl
  clear rs
  replace h3 := Lib.hid h3
  have hB := Lib.hid hB
  go_wp2_with fail
  refine wp_region_noPanic ?_
  refine Stg.wp_region_L [7, 10] (Bs.SB W3) (by kernel_rfl) (fun _ => (Below.refl _ _).drew) (fun hHeld => ?_)
  refine Stg.wpAnyL_start (n' := 11) (l' := #[false, false, false, false, false, false, false, false, false, false, false]) (by kernel_rfl) (by kernel_rfl) ?_
  refine Stg.wpAnyL_free (i := 0) (v := ?_) 0 rfl (by kernel_rfl) (by kernel_rfl) (by kernel_rfl) (by kernel_rfl) (by kernel_rfl) (fun _ _ _ h => h) (Or.inl ⟨by kernel_rfl, ?_⟩) (by assumption) ?_
  rotate_left
  · intro u _
    try simp only [List.getElem_toArray, List.getElem_cons_succ, List.getElem_cons_zero]
    go_simp
    try with_reducible rfl
  try simp only [Act.put, List.setIfInBounds_toArray, List.set_cons_zero, List.set_cons_succ]
  refine Stg.wpAnyL_free (i := 1) (v := ?_) 0 rfl (by kernel_rfl) (by kernel_rfl) (by kernel_rfl) (by kernel_rfl) (by kernel_rfl) (fun _ _ _ h => h) (Or.inl ⟨by kernel_rfl, ?_⟩) (by assumption) ?_
  rotate_left
  · intro u _
    try simp only [List.getElem_toArray, List.getElem_cons_succ, List.getElem_cons_zero]
    go_simp
    try with_reducible rfl
  try simp only [Act.put, List.setIfInBounds_toArray, List.set_cons_zero, List.set_cons_succ]
  refine Stg.wpAnyL_free (i := 2) (v := ?_) 0 rfl (by kernel_rfl) (by kernel_rfl) (by kernel_rfl) (by kernel_rfl) (by kernel_rfl) (fun _ _ _ h => h) (Or.inl ⟨by kernel_rfl, ?_⟩) (by assumption) ?_
  rotate_left
  · intro u _
    try simp only [List.getElem_toArray, List.getElem_cons_succ, List.getElem_cons_zero]
    go_simp
    try with_reducible rfl
  try simp only [Act.put, List.setIfInBounds_toArray, List.set_cons_zero, List.set_cons_succ]
  refine Stg.wpAnyL_start (n' := 8) (l' := #[true, true, true, false, false, false, false, false, false, false, false]) (by kernel_rfl) (by kernel_rfl) ?_
  refine Stg.wpAnyL_free (i := 3) (v := ?_) 0 rfl (by kernel_rfl) (by kernel_rfl) (by kernel_rfl) (by kernel_rfl) (by kernel_rfl) (fun _ _ _ h => h) (Or.inl ⟨by kernel_rfl, ?_⟩) (by assumption) ?_
  rotate_left
  · intro u _
    try simp only [List.getElem_toArray, List.getElem_cons_succ, List.getElem_cons_zero]
    go_simp
    try with_reducible rfl
  try simp only [Act.put, List.setIfInBounds_toArray, List.set_cons_zero, List.set_cons_succ]
  refine Stg.wpAnyL_take (i := 4) (v := ?_) [7, 8, 9, 10] 0 rfl (by kernel_rfl) (by kernel_rfl) (by kernel_rfl) (by kernel_rfl) (by kernel_rfl) (fun _ _ _ h => h) (Or.inl ⟨by kernel_rfl, ?_⟩) (by assumption) ?_
  rotate_left
  · intro u hSu
    skip
    have sB := hSu rfl
    have y0 := cellB sB y0
    have y1 := cellB sB y1
    have y2 := cellB sB y2
    have y3 := cellB sB y3
    have y4 := cellB sB y4
    have y5 := cellB sB y5
    have y6 := cellB sB y6
    have y7 := cellB sB y7
    have y8 := cellB sB y8
    have y9 := cellB sB y9
    have y10 := cellB sB y10
    have y11 := cellB sB y11
    have y12 := cellB sB y12
    have y13 := cellB sB y13
    have y14 := cellB sB c0
    try simp only [List.getElem_toArray, List.getElem_cons_succ, List.getElem_cons_zero]
    go_simp
    try with_reducible rfl
  try simp only [Act.put, List.setIfInBounds_toArray, List.set_cons_zero, List.set_cons_succ]
  refine Stg.wpAnyL_take (i := 5) (v := ?_) [6, 7, 8, 9, 10] 0 rfl (by kernel_rfl) (by kernel_rfl) (by kernel_rfl) (by kernel_rfl) (by kernel_rfl) (fun _ _ _ h => h) (Or.inl ⟨by kernel_rfl, ?_⟩) (by assumption) ?_
  rotate_left
  · intro u hSu
    skip
    have sB := hSu rfl
    have y0 := cellB sB y0
    have y1 := cellB sB y1
    have y2 := cellB sB y2
    have y3 := cellB sB y3
    have y4 := cellB sB y4
    have y5 := cellB sB y5
    have y6 := cellB sB y6
    have y7 := cellB sB y7
    have y8 := cellB sB y8
    have y9 := cellB sB y9
    have y10 := cellB sB y10
    have y11 := cellB sB y11
    have y12 := cellB sB y12
    have y13 := cellB sB y13
    have y14 := cellB sB c0
    try simp only [List.getElem_toArray, List.getElem_cons_succ, List.getElem_cons_zero]
    go_simp
    try with_reducible rfl
  try simp only [Act.put, List.setIfInBounds_toArray, List.set_cons_zero, List.set_cons_succ]
  refine Stg.wpAnyL_start (n' := 5) (l' := #[true, true, true, true, true, true, false, false, false, false, false]) (by kernel_rfl) (by kernel_rfl) ?_
  refine Stg.wpAnyL_one (i := 6) 0 rfl (by kernel_rfl) (by kernel_rfl) (fun K hK => ?_)
  try simp only [List.getElem_toArray, List.getElem_cons_succ, List.getElem_cons_zero]
  go_simp
  refine hK.out _ _ ?_ (fun hHeld1 => ?_)
  · exact fun _ => bNext (hHeld rfl) ((Below.refl _ _).alloc (Nat.le_refl _) _) (Nat.le_refl _)
  clear hK K
  try simp only [Act.put, List.setIfInBounds_toArray, List.set_cons_zero, List.set_cons_succ]
  refine Stg.wpAnyL_one (i := 7) 1 rfl (by kernel_rfl) (by kernel_rfl) (fun K hK => ?_)
  try simp only [List.getElem_toArray, List.getElem_cons_succ, List.getElem_cons_zero]
  rw [if_pos (by kernel_rfl)]
  refine wp_append_lies _ (.tmp 28) (.tmp 30) 49 rfl base 34 i0 _ 14 160 Try.underlying49 hi0 hz0 hz1 hz2 (by rfl) (by omega) _ _ _ (by kernel_rfl) (h3.out.own.drew.alloc _) ⟨W3.drew.heap.size, 0, none⟩ 1 1 (cellsM x) (by kernel_rfl) (by rfl) (World.news_of_block (cs := #[.int .i8 x.k, .int .i64 x.fr, .int .i64 x.to, .int .i64 x.te, .int .i64 x.ix, .int .i64 x.la, .int .i64 x.co, .bool x.ok, .slice none 0 0, .int .i64 x.si, .int .i64 x.st, .int .u8 x.su, .slice none 0 0, .slice none 0 0]) (t := 34) (fr := (0, 0)) (heap_alloc_new W3.drew _)) (cellsM_one x) (by omega) (by unfold maxLen; omega) (by omega) (by have := h3.out.h6; simp; omega) (W3.drew.heap.size + 1) (by simp) ?_
  intro g1 cap1 w5 hown1 hgrow1 hat1 hlt1
  refine hK.out _ _ ?_ (fun hHeld2 => ?_)
  · exact fun h => absurd h (by decide)
  clear hK K
  try simp only [Act.put, List.setIfInBounds_toArray, List.set_cons_zero, List.set_cons_succ]
  refine Stg.wpAnyL_free (i := 8) (v := ?_) 1 rfl (by kernel_rfl) (by kernel_rfl) (by kernel_rfl) (by kernel_rfl) (by kernel_rfl) (fun _ _ _ h => h) (Or.inl ⟨by kernel_rfl, ?_⟩) (by assumption) ?_
  rotate_left
  · intro u _
    try simp only [List.getElem_toArray, List.getElem_cons_succ, List.getElem_cons_zero]
    go_simp
    try with_reducible rfl
  try simp only [Act.put, List.setIfInBounds_toArray, List.set_cons_zero, List.set_cons_succ]
  refine Stg.wpAnyL_start (n' := 2) (l' := #[true, true, true, true, true, true, true, true, true, false, false]) (by kernel_rfl) (by kernel_rfl) ?_
  refine Stg.wpAnyL_free (i := 9) (v := ?_) 1 rfl (by kernel_rfl) (by kernel_rfl) (by kernel_rfl) (by kernel_rfl) (by kernel_rfl) (fun _ _ _ h => h) (Or.inl ⟨by kernel_rfl, ?_⟩) (by assumption) ?_
  rotate_left
  · intro u _
    try simp only [List.getElem_toArray, List.getElem_cons_succ, List.getElem_cons_zero]
    go_simp
    try with_reducible rfl
  try simp only [Act.put, List.setIfInBounds_toArray, List.set_cons_zero, List.set_cons_succ]
  refine Stg.wpAnyL_one (i := 10) 2 rfl (by kernel_rfl) (by kernel_rfl) (fun K hK => ?_)
  obtain ⟨z0, z1⟩ := (h3.out.bel (Below.refl W3.heap.size W3).drew).grown hgrow1
  try simp only [List.getElem_toArray, List.getElem_cons_succ, List.getElem_cons_zero]
  go_simp
  refine hK.out _ _ ?_ (fun hHeld3 => ?_)
  · exact fun h => absurd h (by decide)
  clear hK K
  try simp only [Act.put, List.setIfInBounds_toArray, List.set_cons_zero, List.set_cons_succ]
  refine Stg.wpAnyL_done (by kernel_rfl) ?_ _
  try simp only [List.getElem_toArray, List.getElem_cons_succ, List.getElem_cons_zero]
  try simp only [Act.put, List.setIfInBounds_toArray, List.set_cons_zero, List.set_cons_succ]
  refine NoPanic.normal ?_
  have hd := h3.out.bel (Below.refl W3.heap.size W3).drew
  obtain ⟨r1, r2⟩ := AirAt.send rfl (hat1.imp id (fun q => by rw [q]; exact Nat.le_succ _)) hd hgrow1 hown1
  have hfin := r2.pre hB.out.drew hmw
  go_wp2_with fail
  go_ret
  exact ⟨_, rfl, r1, hfin⟩
end Go.Proofs.Ytnokojobiaddmaa
