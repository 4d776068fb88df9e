/- Leases: Close. -/
import Derived.Test.YtldknmcnmhdgfaaG10
namespace Go.Proofs.Ytldknmcnmhdgfaa
open Go.ChangeShapes Go.WideShapes Go.ChangeAt Go.RowKit
set_option linter.unusedVariables false
set_option linter.unusedSimpArgs false
open BigFrame Bs Ag

namespace Ag
/-- What Close's closure writes. -/
def CloP (ob : Nat) (A : St) (x : Ls) (v : Value) (w : World) (e : Ending) (w' : World) : Prop :=
  ∃ (wr : World) (r cr : Nat), e = .returned v ∧ Below w.heap.size w wr ∧ Blk wr r (repL A x true) ∧ w.heap.size ≤ r ∧ w' = wr.setCell ⟨ob, 0, none⟩ (.slice (some ⟨r, 0, none⟩) 1 cr)
structure CloH (w : World) (tb ob pb a q g : Nat) (t : Int) : Prop where
  t : Blk w tb [.int .i64 t]
  o : Blk w ob [.slice none 0 0]
  p : Blk w pb [.pointer (some ⟨a, 0, none⟩)]
  n1 : ob ≠ a
  n2 : ob ≠ q
  n3 : ob ≠ g
theorem CloH.bel {w w' : World} {tb ob pb a q g : Nat} {t : Int} (h : CloH w tb ob pb a q g t) (k : Below w.heap.size w w') : CloH w' tb ob pb a q g t := ⟨h.t.bel k, h.o.bel k, h.p.bel k, h.n1, h.n2, h.n3⟩
end Ag

set_option maxRecDepth 100000 in
set_option maxHeartbeats 4000000 in
theorem clo1_c {m : Nat → Prop} {w : World} {a : Nat} {A : St} {q g c : Nat} {x : Ls} (h : AgL m w a A q g c x) {tb ob pb : Nat} (hc : CloH w tb ob pb a q g x.ten) (hl : 0 ≤ x.left ∧ x.left ≤ x.size ∧ x.size ≤ 1000000) :
    Calls Try.prog 26 #[.pointer (some ⟨g, 0, none⟩), .pointer (some ⟨tb, 0, none⟩), .pointer (some ⟨ob, 0, none⟩), .pointer (some ⟨pb, 0, none⟩)] w (CloP ob A x (.bool true) w) := by
  have c2 := h.x.c 1 _ rfl
  have t0 := hc.t.c 0 _ rfl
  have hh := Lib.hid h
  have hhc := Lib.hid hc
  replace hl := Lib.hid hl
  clear h hc
  go_enter Try.func26, Try.ntmps26
  go_upto_region 1 with fail
  go_quiet (fail)
  have hd := bDrew (Below.refl w.heap.size w) nq
  have h2 := hh.out.bel hd
  have hc2 := hhc.out.bel hd
  have hdl := Lib.hid hd
  clear c2 t0 hh hhc
  generalize hV : w.drewN nq = V at h2 hc2 hd hdl ⊢
  clear hV
  have o0 := hc2.o.c 0 _ rfl
  have p0 := hc2.p.c 0 _ rfl
  have hlv : RowKit.Hid (w.heap.size ≤ V.heap.size) := Lib.hid hd.size
  have hrc : ∀ u, Below V.heap.size V u → Calls Try.prog 23 #[.pointer (some ⟨a, 0, none⟩), .pointer (some ⟨g, 0, none⟩), .bool true] u fun e w' => e = .returned (repV A x true) ∧ Below u.heap.size u w' := fun u hu => report_c (h2.bel hu) true hl.out
  replace hrc := Lib.hid hrc
  replace h2 := Lib.hid h2
  replace hc2 := Lib.hid hc2
  clear hd
  go_upto_region 3 with fail
  refine wp_region_noPanic ?_
  refine Stg.wp_region_L [5, 6] (Bs.SB V) (by kernel_rfl) (fun _ => (Below.refl _ _).drew) (fun hHeld => ?_)
  refine Stg.wpAnyL_start (n' := 7) (l' := #[false, false, false, false, false, false, false]) (by kernel_rfl) (by kernel_rfl) ?_
  refine Stg.wpAnyL_take (i := 0) (v := ?_) [5, 6] 0 rfl (by kernel_rfl) (by kernel_rfl) (by kernel_rfl) (by kernel_rfl) (by kernel_rfl) (fun _ _ _ h => h) (Or.inl ⟨by kernel_rfl, ?_⟩) (by assumption) ?_
  rotate_left
  · intro u hSu
    skip
    have sB := hSu rfl
    have y0 := cellB sB o0
    have y1 := cellB sB p0
    try simp only [List.getElem_toArray, List.getElem_cons_succ, List.getElem_cons_zero]
    go_simp
    try with_reducible rfl
  try simp only [Act.put, List.setIfInBounds_toArray, List.set_cons_zero, List.set_cons_succ]
  refine Stg.wpAnyL_take (i := 1) (v := ?_) [3, 4, 5, 6] 0 rfl (by kernel_rfl) (by kernel_rfl) (by kernel_rfl) (by kernel_rfl) (by kernel_rfl) (fun _ _ _ h => h) (Or.inl ⟨by kernel_rfl, ?_⟩) (by assumption) ?_
  rotate_left
  · intro u hSu
    skip
    have sB := hSu rfl
    have y0 := cellB sB o0
    have y1 := cellB sB p0
    try simp only [List.getElem_toArray, List.getElem_cons_succ, List.getElem_cons_zero]
    go_simp
    try with_reducible rfl
  try simp only [Act.put, List.setIfInBounds_toArray, List.set_cons_zero, List.set_cons_succ]
  refine Stg.wpAnyL_free (i := 2) (v := ?_) 0 rfl (by kernel_rfl) (by kernel_rfl) (by kernel_rfl) (by kernel_rfl) (by kernel_rfl) (fun _ _ _ h => h) (Or.inl ⟨by kernel_rfl, ?_⟩) (by assumption) ?_
  rotate_left
  · intro u _
    try simp only [List.getElem_toArray, List.getElem_cons_succ, List.getElem_cons_zero]
    go_simp
    try with_reducible rfl
  try simp only [Act.put, List.setIfInBounds_toArray, List.set_cons_zero, List.set_cons_succ]
  refine Stg.wpAnyL_start (n' := 4) (l' := #[true, true, true, false, false, false, false]) (by kernel_rfl) (by kernel_rfl) ?_
  refine Stg.wpAnyL_one (i := 3) 0 rfl (by kernel_rfl) (by kernel_rfl) (fun K hK => ?_)
  try simp only [List.getElem_toArray, List.getElem_cons_succ, List.getElem_cons_zero]
  go_simp
  refine (hrc.out _ (hHeld rfl)).mono ?_
  rintro e V2 ⟨rfl, hb1⟩
  unfold repV
  refine hK.out _ _ ?_ (fun hHeld1 => ?_)
  · exact fun _ => bNext (hHeld rfl) hb1 (Nat.le_refl _)
  clear hK K
  try simp only [Act.put, List.setIfInBounds_toArray, List.set_cons_zero, List.set_cons_succ]
  refine Stg.wpAnyL_one (i := 4) 0 rfl (by kernel_rfl) (by kernel_rfl) (fun K hK => ?_)
  try simp only [List.getElem_toArray, List.getElem_cons_succ, List.getElem_cons_zero]
  go_simp
  refine hK.out _ _ ?_ (fun hHeld2 => ?_)
  · exact fun _ => bNext (hHeld1 rfl) ((Below.refl _ _).alloc (Nat.le_refl _) _) (Nat.le_refl _)
  clear hK K
  try simp only [Act.put, List.setIfInBounds_toArray, List.set_cons_zero, List.set_cons_succ]
  refine Stg.wpAnyL_one (i := 5) 1 rfl (by kernel_rfl) (by kernel_rfl) (fun K hK => ?_)
  try simp only [List.getElem_toArray, List.getElem_cons_succ, List.getElem_cons_zero]
  rw [if_pos (by rfl)]
  refine wp_append_first (.tmp 13) (.tmp 17) 43 31 (.agg #[.int .i8 0, .int .i64 0, .int .i64 0, .int .i64 0, .int .i64 0, .int .i64 0, .int .i64 0, .int .i64 0, .int .i64 0, .int .i64 0, .int .i64 0, .bool false, .slice none 0 0]) 13 120 rfl Try.underlying43 info_cmd rfl (by omega) (by omega) (by rfl) (b := V2.heap.size) (c := 1) (by rfl) (vs := repL A x true) (by have := blk_new V2 (repL A x true) 31; exact this) rfl (rep_one _ _ _) ?_
  intro r cap w5 hq hq1 hc1 hc2' hb5
  refine hK.out _ _ ?_ (fun hHeld3 => ?_)
  · exact fun h => absurd h (by decide)
  clear hK K
  try simp only [Act.put, List.setIfInBounds_toArray, List.set_cons_zero, List.set_cons_succ]
  refine Stg.wpAnyL_start (n' := 1) (l' := #[true, true, true, true, true, true, false]) (by kernel_rfl) (by kernel_rfl) ?_
  refine Stg.wpAnyL_one (i := 6) 2 rfl (by kernel_rfl) (by kernel_rfl) (fun K hK => ?_)
  have hV2 := bNext ((Below.refl V.heap.size V).drew) hb1 (Nat.le_refl _)
  have hal := (Below.refl V2.heap.size V2).alloc (Nat.le_refl _) (.cells #[.int .i8 5, .int .i64 0, .int .i64 0, .int .i64 0, .int .i64 0, .int .i64 0, .int .i64 A.sh, .int .i64 A.ep, .int .i64 x.id, .int .i64 0, .int .i64 (x.size - x.left), .bool true, .slice none 0 0] 31)
  have hb6 := bNext hV2 (bNext hal hb5 (Nat.le_refl _)) (Nat.le_refl _)
  have hc5 := hc2.out.bel hb6
  have o5 := hc5.o.c 0 _ rfl
  have of5 := hc5.o.f 0
  have kk := Lib.hid (bNext hdl.out hb6 (Nat.le_refl _))
  have kr : RowKit.Hid (w.heap.size ≤ r) := Lib.hid (by have := hlv.out; have := hV2.size; simp at hq1; omega)
  replace hq := Lib.hid hq
  clear hV2 hal hb6 hc5 hc2 hb5 hb1 hq1 hc1 hc2' h2 hrc hdl hlv hl
  try simp only [List.getElem_toArray, List.getElem_cons_succ, List.getElem_cons_zero]
  go_simp
  refine hK.out _ _ ?_ (fun hHeld4 => ?_)
  · exact fun h => absurd h (by decide)
  clear hK K
  try simp only [Act.put, List.setIfInBounds_toArray, List.set_cons_zero, List.set_cons_succ]
  refine Stg.wpAnyL_done (by kernel_rfl) ?_ _
  try simp only [List.getElem_toArray, List.getElem_cons_succ, List.getElem_cons_zero]
  try simp only [Act.put, List.setIfInBounds_toArray, List.set_cons_zero, List.set_cons_succ]
  refine NoPanic.normal ?_
  go_wp2_with fail
  go_ret
  exact ⟨_, _, _, rfl, kk.out, hq.out, kr.out, rfl⟩

set_option maxRecDepth 100000 in
set_option maxHeartbeats 4000000 in
theorem idx_clo {m : Nat → Prop} {w : World} {a : Nat} {A : St} {q g c : Nat} {x : Ls} (h : AgL m w a A q g c x) {tb ob pb : Nat} (hc : CloH w tb ob pb a q g x.ten) (hl : 0 ≤ x.left ∧ x.left ≤ x.size ∧ x.size ≤ 1000000) :
    Calls Try.prog 28 #[.slice (some ⟨q, 0, none⟩) 1 c, .func (.func 26) #[] #[.pointer (some ⟨tb, 0, none⟩), .pointer (some ⟨ob, 0, none⟩), .pointer (some ⟨pb, 0, none⟩)]] w (CloP ob A x (.int .i64 0) w) := by
  have hd := Lib.hid (clo1_c h hc hl)
  have c0 := h.r.c 0 _ rfl
  clear h hc hl
  go_enter Try.func28, Try.ntmps28
  go_wp2_with fail
  go_loop [8] (fun s8 => s8 = .int .i64 0) (fun _ => 0)
  case atStart => rfl
  case round =>
    obtain rfl := hrel
    go_wp2_with fail
    refine hd.out.mono ?_
    rintro e w' ⟨wr, r, cr, rfl, hB, hr, hk, hw⟩
    clear hd c0
    replace hB := Lib.hid hB
    replace hr := Lib.hid hr
    replace hk := Lib.hid hk
    replace hw := Lib.hid hw
    go_wp2_with fail
    go_ret
    exact ⟨wr, r, cr, rfl, hB.out, hr.out, hk.out, hw.out⟩

namespace Ag
def ClwP (ob q c : Nat) (A : St) (x : Ls) (w : World) (e : Ending) (w' : World) : Prop :=
  ∃ (wr : World) (r cr : Nat) (v : Value), e = .returned (.slice (some ⟨q, 0, none⟩) 0 c) ∧ Below w.heap.size w wr ∧ Blk wr r (repL A x true) ∧ w.heap.size ≤ r ∧ w' = (wr.setCell ⟨ob, 0, none⟩ (.slice (some ⟨r, 0, none⟩) 1 cr)).setCell ⟨q, 0, none⟩ v
end Ag

set_option maxRecDepth 100000 in
set_option maxHeartbeats 4000000 in
theorem del_clo {m : Nat → Prop} {w : World} {a : Nat} {A : St} {q g c : Nat} {x : Ls} (h : AgL m w a A q g c x) {tb ob pb : Nat} (hc : CloH w tb ob pb a q g x.ten) (hl : 0 ≤ x.left ∧ x.left ≤ x.size ∧ x.size ≤ 1000000) :
    Calls Try.prog 24 #[.slice (some ⟨q, 0, none⟩) 1 c, .func (.func 26) #[] #[.pointer (some ⟨tb, 0, none⟩), .pointer (some ⟨ob, 0, none⟩), .pointer (some ⟨pb, 0, none⟩)]] w (ClwP ob q c A x w) := by
  have hd := Lib.hid (idx_clo h hc hl)
  have hr := Lib.hid h.r
  have n2 := Lib.hid hc.n2
  have k1 : (1 : Int) ≤ (c : Int) := by have := h.c1; omega
  have k2 := h.c2
  clear h hc hl
  go_enter Try.func24, Try.ntmps24
  go_wp2_with fail
  refine hd.out.mono ?_
  rintro e w' ⟨wr, r, cr, rfl, hB, hrr, hk, rfl⟩
  have hb := (hr.out.bel hB).other (Ne.symm n2.out) (.slice (some ⟨r, 0, none⟩) 1 cr) (o := 0)
  obtain ⟨U, hU⟩ : ∃ U, RowKit.Hid (U = wr.setCell ⟨ob, 0, none⟩ (.slice (some ⟨r, 0, none⟩) 1 cr)) := ⟨_, Lib.hid rfl⟩
  rw [← hU.out] at hb ⊢
  obtain ⟨v, hcl⟩ := run_clear_lease U q c hb (Nat.one_pos)
  clear hd hr hb n2
  replace hB := Lib.hid hB
  replace hrr := Lib.hid hrr
  replace hk := Lib.hid hk
  go_wp2_with fail
  go_loop [5, 6, 7] (fun s5 s6 s7 => s5 = .int .i64 0 ∧ s6 = .int .i64 1) (fun _ _ _ => 0)
  case atStart => exact ⟨rfl, rfl⟩
  case round =>
    obtain ⟨rfl, rfl⟩ := hrel
    go_wp2_with fail
    go_ret
    exact ⟨wr, r, cr, v, rfl, hB.out, hrr.out, hk.out, by rw [hU.out]⟩
end Go.Proofs.Ytldknmcnmhdgfaa
