/- A leader's desk: Over. -/
import Derived.Test.YtifohibpcngakaaD5
namespace Go.Proofs.Ytifohibpcngakaa
open Go.ChangeShapes Go.WideShapes Go.ChangeAt Go.RowKit Go.Maps
set_option linter.unusedVariables false
set_option linter.unusedSimpArgs false
open BigFrame Bs Gr
attribute [local go_sem] Bs.max_fold Bs.min_fold

namespace Gr
def stV (v : Value) : Value := .agg #[.int .i64 0, .int .i64 0, .int .i64 0, .slice none 0 0, v, .slice none 0 0, .slice none 0 0]
def OverP (m : Nat → Prop) (d bm n : Nat) (OV EL NO : Int) (T : Int → Option Int) (l : List Int) (w : World) (e : Ending) (w' : World) : Prop :=
  ∃ v, e = .returned v ∧ RowP w v l w' ∧ DK m w' d bm n OV EL NO T ∧ Kp m w w'
theorem RowP.pre {w0 w w' : World} {v : Value} {l : List Int} (h : RowP w v l w') (hs : w0.heap.size ≤ w.heap.size) : RowP w0 v l w' := by
  obtain ⟨a, c, rfl, h2⟩ := h
  exact ⟨a, c, rfl, fun hp => by
    obtain ⟨g, h3, h4, h5⟩ := h2 hp
    exact ⟨g, h3, Nat.le_trans hs h4, h5⟩⟩
end Gr

set_option maxRecDepth 100000 in
set_option maxHeartbeats 4000000 in
theorem over_nil (w : World) (v : Value) (k : Int) : Calls Try.prog 13 #[.pointer none, stV v, .int .i64 k] w fun e w' => e = .returned (.slice none 0 0) ∧ Below w.heap.size w w' := by
  have hB := Lib.hid (((Below.refl w.heap.size w).alloc (Nat.le_refl _) (.cells #[.pointer none] 26)).alloc (by simp) (.cells #[.int .i64 0, .int .i64 0, .int .i64 0, .slice none 0 0, v, .slice none 0 0, .slice none 0 0] 44))
  unfold stV
  go_enter Try.func13, Try.ntmps13
  go_wp2_with fail
  go_ret
  exact ⟨rfl, hB.out⟩

set_option maxRecDepth 100000 in
set_option maxHeartbeats 4000000 in
theorem over_ok {m : Nat → Prop} {w : World} {d bm n : Nat} {OV EL NO : Int} {T : Int → Option Int} (h : DK m w d bm n OV EL NO T) (a : Option Addr) (N c : Nat) (f : Nat → Int) (k : Int) (hN : N ≤ 1000) (hf : Lss m w a N f)
    (he : 0 ≤ EL ∧ EL ≤ 9223372036854775807) (hn : 0 ≤ NO ∧ NO ≤ 9223372036854775807) (hk : k ≤ 9223372036854775807) (hT : TOk EL (max NO k) T) :
    Calls Try.prog 13 #[.pointer (some ⟨d, 0, none⟩), stV (.slice a N c), .int .i64 k] w (OverP m d bm n OV EL (max NO k) T (srt (pk (isOv OV EL (max NO k) T) f N)) w) := by
  have hd1 := (Below.refl w.heap.size w).alloc (Nat.le_refl _) (.cells #[.pointer (some ⟨d, 0, none⟩)] 26)
  have hd := hd1.alloc (by simp) (.cells #[.int .i64 0, .int .i64 0, .int .i64 0, .slice none 0 0, .slice a N c, .slice none 0 0, .slice none 0 0] 44)
  have tb := (blk_new w [.pointer (some ⟨d, 0, none⟩)] 26).bel ((Below.refl _ _).alloc (Nat.le_refl _) (.cells #[.int .i64 0, .int .i64 0, .int .i64 0, .slice none 0 0, .slice a N c, .slice none 0 0, .slice none 0 0] 44))
  have sb := blk_new (w.alloc (.cells #[.pointer (some ⟨d, 0, none⟩)] 26)) [.int .i64 0, .int .i64 0, .int .i64 0, .slice none 0 0, .slice a N c, .slice none 0 0, .slice none 0 0] 44
  rw [World.size_alloc] at sb
  have h1 := h.bel hd
  have hf1 := hf.kp (Kp.of (m := m) hd)
  have ld := h.b.l
  have kk := Kp.of (m := m) hd
  have hmw := h.mw
  replace hd := Lib.hid hd
  replace hf1 := Lib.hid hf1
  replace h1 := Lib.hid h1
  replace ld := Lib.hid ld
  replace kk := Lib.hid kk
  replace hmw := Lib.hid hmw
  clear hd1 h hf
  unfold stV
  go_enter Try.func13, Try.ntmps13
  go_upto_region 1 with fail
  generalize ((w.alloc (.cells #[.pointer (some ⟨d, 0, none⟩)] 26)).alloc (.cells #[.int .i64 0, .int .i64 0, .int .i64 0, .slice none 0 0, .slice a N c, .slice none 0 0, .slice none 0 0] 44)) = W at tb sb h1 hf1 hd kk ⊢
  obtain ⟨wb, hwb⟩ : ∃ wb, RowKit.Hid (w.heap.size = wb) := ⟨_, Lib.hid rfl⟩
  rw [hwb.out] at tb sb ld hd hmw ⊢
  have p0 := tb.c 0 _ rfl
  have d2 := h1.out.b.c 2 _ rfl
  go_upto_region 3 with fail
  refine wp_region_noPanic ?_
  refine Stg.wp_region_L [9] (Bs.SB W) (by kernel_rfl) (fun _ => (Below.refl _ _).drew) (fun hHeld => ?_)
  refine Stg.wpAnyL_start (n' := 10) (l' := #[false, false, false, false, false, false, false, false, false, false]) (by kernel_rfl) (by kernel_rfl) ?_
  refine Stg.wpAnyL_take (i := 0) (v := ?_) [7, 8, 9] 0 rfl (by kernel_rfl) (by kernel_rfl) (by kernel_rfl) (by kernel_rfl) (by kernel_rfl) (fun _ _ _ h => h) (Or.inl ⟨by kernel_rfl, ?_⟩) (by assumption) ?_
  rotate_left
  · intro u hSu
    skip
    have sB := hSu rfl
    have y0 := cellB sB p0
    have y1 := cellB sB d2
    try simp only [List.getElem_toArray, List.getElem_cons_succ, List.getElem_cons_zero]
    go_simp
    try with_reducible rfl
  try simp only [Act.put, List.setIfInBounds_toArray, List.set_cons_zero, List.set_cons_succ]
  refine Stg.wpAnyL_take (i := 1) (v := ?_) [2, 3, 4, 6, 7, 8, 9] 0 rfl (by kernel_rfl) (by kernel_rfl) (by kernel_rfl) (by kernel_rfl) (by kernel_rfl) (fun _ _ _ h => h) (Or.inl ⟨by kernel_rfl, ?_⟩) (by assumption) ?_
  rotate_left
  · intro u hSu
    skip
    have sB := hSu rfl
    have y0 := cellB sB p0
    have y1 := cellB sB d2
    try simp only [List.getElem_toArray, List.getElem_cons_succ, List.getElem_cons_zero]
    go_simp
    try with_reducible rfl
  try simp only [Act.put, List.setIfInBounds_toArray, List.set_cons_zero, List.set_cons_succ]
  refine Stg.wpAnyL_free (i := 2) (v := ?_) 0 rfl (by kernel_rfl) (by kernel_rfl) (by kernel_rfl) (by kernel_rfl) (by kernel_rfl) (fun _ _ _ h => h) (Or.inl ⟨by kernel_rfl, ?_⟩) (by assumption) ?_
  rotate_left
  · intro u _
    try simp only [List.getElem_toArray, List.getElem_cons_succ, List.getElem_cons_zero]
    go_simp
    try with_reducible rfl
  try simp only [Act.put, List.setIfInBounds_toArray, List.set_cons_zero, List.set_cons_succ]
  refine Stg.wpAnyL_start (n' := 7) (l' := #[true, true, true, false, false, false, false, false, false, false]) (by kernel_rfl) (by kernel_rfl) ?_
  refine Stg.wpAnyL_free (i := 3) (v := ?_) 0 rfl (by kernel_rfl) (by kernel_rfl) (by kernel_rfl) (by kernel_rfl) (by kernel_rfl) (fun _ _ _ h => h) (Or.inl ⟨by kernel_rfl, ?_⟩) (by assumption) ?_
  rotate_left
  · intro u _
    try simp only [List.getElem_toArray, List.getElem_cons_succ, List.getElem_cons_zero]
    go_simp
    try with_reducible rfl
  try simp only [Act.put, List.setIfInBounds_toArray, List.set_cons_zero, List.set_cons_succ]
  refine Stg.wpAnyL_take (i := 4) (v := ?_) [6, 7, 8, 9] 0 rfl (by kernel_rfl) (by kernel_rfl) (by kernel_rfl) (by kernel_rfl) (by kernel_rfl) (fun _ _ _ h => h) (Or.inl ⟨by kernel_rfl, ?_⟩) (by assumption) ?_
  rotate_left
  · intro u hSu
    skip
    have sB := hSu rfl
    have y0 := cellB sB p0
    have y1 := cellB sB d2
    try simp only [List.getElem_toArray, List.getElem_cons_succ, List.getElem_cons_zero]
    go_simp
    try with_reducible rfl
  try simp only [Act.put, List.setIfInBounds_toArray, List.set_cons_zero, List.set_cons_succ]
  refine Stg.wpAnyL_free (i := 5) (v := ?_) 0 rfl (by kernel_rfl) (by kernel_rfl) (by kernel_rfl) (by kernel_rfl) (by kernel_rfl) (fun _ _ _ h => h) (Or.inl ⟨by kernel_rfl, ?_⟩) (by assumption) ?_
  rotate_left
  · intro u _
    try simp only [List.getElem_toArray, List.getElem_cons_succ, List.getElem_cons_zero]
    go_simp
    try with_reducible rfl
  try simp only [Act.put, List.setIfInBounds_toArray, List.set_cons_zero, List.set_cons_succ]
  refine Stg.wpAnyL_start (n' := 4) (l' := #[true, true, true, true, true, true, false, false, false, false]) (by kernel_rfl) (by kernel_rfl) ?_
  refine Stg.wpAnyL_free (i := 6) (v := ?_) 0 rfl (by kernel_rfl) (by kernel_rfl) (by kernel_rfl) (by kernel_rfl) (by kernel_rfl) (fun _ _ _ h => h) (Or.inl ⟨by kernel_rfl, ?_⟩) (by assumption) ?_
  rotate_left
  · intro u _
    try simp only [List.getElem_toArray, List.getElem_cons_succ, List.getElem_cons_zero]
    go_simp
    try with_reducible rfl
  try simp only [Act.put, List.setIfInBounds_toArray, List.set_cons_zero, List.set_cons_succ]
  refine Stg.wpAnyL_free (i := 7) (v := ?_) 0 rfl (by kernel_rfl) (by kernel_rfl) (by kernel_rfl) (by kernel_rfl) (by kernel_rfl) (fun _ _ _ h => h) (Or.inl ⟨by kernel_rfl, ?_⟩) (by assumption) ?_
  rotate_left
  · intro u _
    try simp only [List.getElem_toArray, List.getElem_cons_succ, List.getElem_cons_zero]
    go_simp
    try with_reducible rfl
  try simp only [Act.put, List.setIfInBounds_toArray, List.set_cons_zero, List.set_cons_succ]
  refine Stg.wpAnyL_free (i := 8) (v := ?_) 0 rfl (by kernel_rfl) (by kernel_rfl) (by kernel_rfl) (by kernel_rfl) (by kernel_rfl) (fun _ _ _ h => h) (Or.inl ⟨by kernel_rfl, ?_⟩) (by assumption) ?_
  rotate_left
  · intro u _
    try simp only [List.getElem_toArray, List.getElem_cons_succ, List.getElem_cons_zero]
    go_simp
    try with_reducible rfl
  try simp only [Act.put, List.setIfInBounds_toArray, List.set_cons_zero, List.set_cons_succ]
  refine Stg.wpAnyL_start (n' := 1) (l' := #[true, true, true, true, true, true, true, true, true, false]) (by kernel_rfl) (by kernel_rfl) ?_
  refine Stg.wpAnyL_one (i := 9) 1 rfl (by kernel_rfl) (by kernel_rfl) (fun K hK => ?_)
  have f2 := h1.out.b.f 2
  try simp only [List.getElem_toArray, List.getElem_cons_succ, List.getElem_cons_zero]
  go_simp
  refine hK.out _ _ ?_ (fun hHeld1 => ?_)
  · exact fun h => absurd h (by decide)
  clear hK K
  try simp only [Act.put, List.setIfInBounds_toArray, List.set_cons_zero, List.set_cons_succ]
  refine Stg.wpAnyL_done (by kernel_rfl) ?_ _
  try simp only [List.getElem_toArray, List.getElem_cons_succ, List.getElem_cons_zero]
  try simp only [Act.put, List.setIfInBounds_toArray, List.set_cons_zero, List.set_cons_succ]
  refine NoPanic.normal ?_
  have h2 := (h1.out.now (max NO k)).bel ((Below.refl _ _).drew)
  have hne : wb ≠ d := by have := ld.out; omega
  have hne2 : wb + 1 ≠ d := by have := ld.out; omega
  have tb2 := (tb.other hne (.int .i64 (max NO k)) (o := 2)).drew
  have sb2 := (sb.other hne2 (.int .i64 (max NO k)) (o := 2)).drew
  have k2 := (kk.out.setCell (p := ⟨d, 2, none⟩) h1.out.md (.int .i64 (max NO k))).drew
  have hf2 := hf1.out.kp ((Kp.refl m W).setCell (p := ⟨d, 2, none⟩) h1.out.md (.int .i64 (max NO k))).drew
  have hsW : w.heap.size ≤ (W.setCell ⟨d, 2, none⟩ (.int .i64 (max NO k))).drew.heap.size := by simpa using hd.out.size
  clear p0 d2 tb sb hne hne2 h1 kk hf1 f2
  generalize (W.setCell ⟨d, 2, none⟩ (.int .i64 (max NO k))).drew = U at h2 tb2 sb2 k2 hf2 hsW ⊢
  have s4 := sb2.c 4 _ rfl
  have hpk := Lib.hid (picked_c h2 (tb2.c 0 _ rfl) a N c f hN hf2 he (by omega) hT)
  replace h2 := Lib.hid h2
  replace k2 := Lib.hid k2
  replace hsW := Lib.hid hsW
  clear tb2 sb2 hf2 hd
  go_wp2_with fail
  refine hpk.out.mono ?_
  rintro e w2 ⟨v, rfl, hr, hb⟩
  have h3 := Lib.hid (h2.out.bel hb)
  have k3 := Lib.hid (k2.out.trans (Kp.of hb))
  have r3 := Lib.hid (hr.pre hsW.out)
  clear hpk hr hb h2 k2
  go_wp2_with fail
  go_ret
  exact ⟨_, rfl, r3.out, h3.out, k3.out⟩
end Go.Proofs.Ytifohibpcngakaa
