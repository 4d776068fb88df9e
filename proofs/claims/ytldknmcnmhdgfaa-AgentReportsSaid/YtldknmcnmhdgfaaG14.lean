/- Leases: Close. -/
import Derived.Test.YtldknmcnmhdgfaaG13
namespace Go.Proofs.Ytldknmcnmhdgfaa
open Go.ChangeShapes Go.WideShapes Go.ChangeAt Go.RowKit
set_option linter.unusedVariables false
set_option linter.unusedSimpArgs false
open BigFrame Bs Ag

namespace Ag
def CloseP (m : Nat → Prop) (a : Nat) (A : St) (x : Ls) (w : World) (e : Ending) (w' : World) : Prop := RepR m A x true w' e ∧ (∃ p c, AgE m w' a A p c) ∧ Kp m w w'
end Ag

set_option maxRecDepth 100000 in
set_option maxHeartbeats 4000000 in
theorem close_L {m : Nat → Prop} {w : World} {a : Nat} {A : St} {q g c : Nat} {x : Ls} (h : AgL m w a A q g c x) (n : Int) (hy : ¬ x.til ≤ max A.no n) (hl : 0 ≤ x.left ∧ x.left ≤ x.size ∧ x.size ≤ 1000000) :
    Calls Try.prog 16 #[.pointer (some ⟨a, 0, none⟩), .int .i64 x.ten, .int .i64 n] w (CloseP m a { A with no := max A.no n } x w) := by
  have b1 := (Below.refl w.heap.size w).alloc (Nat.le_refl _) (.cells #[.pointer (some ⟨a, 0, none⟩)] 25)
  have b2 := b1.alloc (by simp) (.cells #[.int .i64 x.ten] 3)
  have b3 := b2.alloc (by simp; omega) (.cells #[.slice none 0 0] 43)
  have p3 : Blk (((w.alloc (.cells #[.pointer (some ⟨a, 0, none⟩)] 25)).alloc (.cells #[.int .i64 x.ten] 3)).alloc (.cells #[.slice none 0 0] 43)) w.heap.size [.pointer (some ⟨a, 0, none⟩)] := by
    have q1 := blk_new w [.pointer (some ⟨a, 0, none⟩)] 25
    have q2 := q1.bel ((Below.refl _ _).alloc (Nat.le_refl _) (.cells #[.int .i64 x.ten] 3))
    exact q2.bel ((Below.refl _ _).alloc (Nat.le_refl _) _)
  have t3 : Blk (((w.alloc (.cells #[.pointer (some ⟨a, 0, none⟩)] 25)).alloc (.cells #[.int .i64 x.ten] 3)).alloc (.cells #[.slice none 0 0] 43)) (w.heap.size + 1) [.int .i64 x.ten] := by
    have q2 := blk_new (w.alloc (.cells #[.pointer (some ⟨a, 0, none⟩)] 25)) [.int .i64 x.ten] 3
    have q3 := q2.bel ((Below.refl _ _).alloc (Nat.le_refl _) (.cells #[.slice none 0 0] 43))
    rwa [World.size_alloc] at q3
  have o3 : Blk (((w.alloc (.cells #[.pointer (some ⟨a, 0, none⟩)] 25)).alloc (.cells #[.int .i64 x.ten] 3)).alloc (.cells #[.slice none 0 0] 43)) (w.heap.size + 2) [.slice none 0 0] := by
    have q3 := blk_new ((w.alloc (.cells #[.pointer (some ⟨a, 0, none⟩)] 25)).alloc (.cells #[.int .i64 x.ten] 3)) [.slice none 0 0] 43
    rwa [World.size_alloc, World.size_alloc] at q3
  have h3 := h.bel b3
  have hla := Lib.hid h.b.l
  have hmw := Lib.hid h.mw
  have hlq := Lib.hid h.r.l
  have hlg := Lib.hid h.x.l
  replace hy := Lib.hid hy
  replace hl := Lib.hid hl
  clear b1 b2 h
  replace p3 := Lib.hid p3
  replace t3 := Lib.hid t3
  replace o3 := Lib.hid o3
  replace b3 := Lib.hid b3
  replace h3 := Lib.hid h3
  go_enter Try.func16, Try.ntmps16
  go_upto_region 1 with fail
  generalize hW : ((w.alloc (.cells #[.pointer (some ⟨a, 0, none⟩)] 25)).alloc (.cells #[.int .i64 x.ten] 3)).alloc (.cells #[.slice none 0 0] 43) = W at p3 t3 o3 b3 h3 ⊢
  generalize hwb : w.heap.size = wb at p3 t3 o3 b3 hla hmw hlq hlg ⊢
  clear hW
  replace hwb := Lib.hid hwb
  have p0 := p3.out.c 0 _ rfl
  have hat := Lib.hid (at_keep h3.out n hy.out)
  go_wp2_with fail
  refine hat.out.mono ?_
  rintro e u ⟨rfl, h4, k4⟩
  have na : a ≠ wb + 2 ∧ q ≠ wb + 2 ∧ g ≠ wb + 2 := by have := hla.out; have := hlq.out; have := hlg.out; omega
  have na0 : a ≠ wb ∧ a ≠ wb + 1 := by have := hla.out; omega
  have p4 := k4.blk p3.out (Ne.symm na0.1)
  have t4 := k4.blk t3.out (Ne.symm na0.2)
  have o4 := k4.blk o3.out (Ne.symm na.1)
  have hB4 := (Kp.of (m := m) (hwb.out.symm ▸ b3.out)).trans k4.b
  have hus : wb + 2 < u.heap.size := o4.l
  have nq0 : RowKit.Hid (q ≠ wb) := Lib.hid (by have := hlq.out; omega)
  have hp4 := Lib.hid p4
  have p0 := p4.c 0 _ rfl
  have c19 := h4.b.c 19 _ rfl
  have hcl : CloH u (wb + 1) (wb + 2) wb a q g x.ten := ⟨t4, o4, p4, Ne.symm na.1, Ne.symm na.2.1, Ne.symm na.2.2⟩
  have hdl : ∀ u2, Below u.heap.size u u2 → Calls Try.prog 24 #[.slice (some ⟨q, 0, none⟩) 1 c, .func (.func 26) #[] #[.pointer (some ⟨wb + 1, 0, none⟩), .pointer (some ⟨wb + 2, 0, none⟩), .pointer (some ⟨wb, 0, none⟩)]] u2 (ClwP (wb + 2) q c { A with no := max A.no n } x u2) := fun u2 hu => del_clo (h4.bel hu) (hcl.bel hu) hl.out
  replace hdl := Lib.hid hdl
  replace h4 := Lib.hid h4
  replace o4 := Lib.hid o4
  replace hB4 := Lib.hid hB4
  replace na := Lib.hid na
  replace hus := Lib.hid hus
  clear hat p3 o3 t3 b3 h3 k4 na0 t4 hcl p4
  have p4 := hp4
  clear hp4
  go_upto_region 3 with fail
  refine wp_region_noPanic ?_
  refine Stg.wp_region_L [9] (fun n v => (n = 0 → v.cell? ⟨wb, 0, none⟩ = some (.pointer (some ⟨a, 0, none⟩)) ∧ v.cell? ⟨a, 19, none⟩ = some (.slice (some ⟨q, 0, none⟩) 1 c)) ∧ True) (by kernel_rfl) (⟨fun _ => ⟨by simpa using p0, by simpa using c19⟩, trivial⟩) (fun hHeld => ?_)
  refine Stg.wpAnyL_start (n' := 10) (l' := #[false, false, false, false, false, false, false, false, false, false]) (by kernel_rfl) (by kernel_rfl) ?_
  refine Stg.wpAnyL_take (i := 0) (v := ?_) [7, 8, 9] 0 rfl (by kernel_rfl) (by kernel_rfl) (by kernel_rfl) (by kernel_rfl) (by kernel_rfl) (fun _ _ _ h => h) (Or.inl ⟨by kernel_rfl, ?_⟩) (by assumption) ?_
  rotate_left
  · intro u hSu
    obtain ⟨hS0, _⟩ := hSu
    obtain ⟨y0, y1⟩ := hS0 rfl
    try simp only [List.getElem_toArray, List.getElem_cons_succ, List.getElem_cons_zero]
    go_simp
    try with_reducible rfl
  try simp only [Act.put, List.setIfInBounds_toArray, List.set_cons_zero, List.set_cons_succ]
  refine Stg.wpAnyL_take (i := 1) (v := ?_) [2, 3, 4, 6, 7, 8, 9] 0 rfl (by kernel_rfl) (by kernel_rfl) (by kernel_rfl) (by kernel_rfl) (by kernel_rfl) (fun _ _ _ h => h) (Or.inl ⟨by kernel_rfl, ?_⟩) (by assumption) ?_
  rotate_left
  · intro u hSu
    obtain ⟨hS0, _⟩ := hSu
    obtain ⟨y0, y1⟩ := hS0 rfl
    try simp only [List.getElem_toArray, List.getElem_cons_succ, List.getElem_cons_zero]
    go_simp
    try with_reducible rfl
  try simp only [Act.put, List.setIfInBounds_toArray, List.set_cons_zero, List.set_cons_succ]
  refine Stg.wpAnyL_free (i := 2) (v := ?_) 0 rfl (by kernel_rfl) (by kernel_rfl) (by kernel_rfl) (by kernel_rfl) (by kernel_rfl) (fun _ _ _ h => h) (Or.inl ⟨by kernel_rfl, ?_⟩) (by assumption) ?_
  rotate_left
  · intro u _
    try simp only [List.getElem_toArray, List.getElem_cons_succ, List.getElem_cons_zero]
    go_simp
    try with_reducible rfl
  try simp only [Act.put, List.setIfInBounds_toArray, List.set_cons_zero, List.set_cons_succ]
  refine Stg.wpAnyL_start (n' := 7) (l' := #[true, true, true, false, false, false, false, false, false, false]) (by kernel_rfl) (by kernel_rfl) ?_
  refine Stg.wpAnyL_free (i := 3) (v := ?_) 0 rfl (by kernel_rfl) (by kernel_rfl) (by kernel_rfl) (by kernel_rfl) (by kernel_rfl) (fun _ _ _ h => h) (Or.inl ⟨by kernel_rfl, ?_⟩) (by assumption) ?_
  rotate_left
  · intro u _
    try simp only [List.getElem_toArray, List.getElem_cons_succ, List.getElem_cons_zero]
    go_simp
    try with_reducible rfl
  try simp only [Act.put, List.setIfInBounds_toArray, List.set_cons_zero, List.set_cons_succ]
  refine Stg.wpAnyL_take (i := 4) (v := ?_) [6, 7, 8, 9] 0 rfl (by kernel_rfl) (by kernel_rfl) (by kernel_rfl) (by kernel_rfl) (by kernel_rfl) (fun _ _ _ h => h) (Or.inl ⟨by kernel_rfl, ?_⟩) (by assumption) ?_
  rotate_left
  · intro u hSu
    obtain ⟨hS0, _⟩ := hSu
    obtain ⟨y0, y1⟩ := hS0 rfl
    try simp only [List.getElem_toArray, List.getElem_cons_succ, List.getElem_cons_zero]
    go_simp
    try with_reducible rfl
  try simp only [Act.put, List.setIfInBounds_toArray, List.set_cons_zero, List.set_cons_succ]
  refine Stg.wpAnyL_free (i := 5) (v := ?_) 0 rfl (by kernel_rfl) (by kernel_rfl) (by kernel_rfl) (by kernel_rfl) (by kernel_rfl) (fun _ _ _ h => h) (Or.inl ⟨by kernel_rfl, ?_⟩) (by assumption) ?_
  rotate_left
  · intro u _
    try simp only [List.getElem_toArray, List.getElem_cons_succ, List.getElem_cons_zero]
    go_simp
    try with_reducible rfl
  try simp only [Act.put, List.setIfInBounds_toArray, List.set_cons_zero, List.set_cons_succ]
  refine Stg.wpAnyL_start (n' := 4) (l' := #[true, true, true, true, true, true, false, false, false, false]) (by kernel_rfl) (by kernel_rfl) ?_
  refine Stg.wpAnyL_one (i := 6) 0 rfl (by kernel_rfl) (by kernel_rfl) (fun K hK => ?_)
  try simp only [List.getElem_toArray, List.getElem_cons_succ, List.getElem_cons_zero]
  go_simp
  refine (hdl.out _ ((Below.refl _ _).drew)).mono ?_
  rintro e u2 ⟨wr, r, cr, v, rfl, hB5, hr, hk, rfl⟩
  have hbA := bNext ((Below.refl u.heap.size u).drew) hB5 (Nat.le_refl _)
  have h5 := h4.out.bel hbA
  have o5 := o4.out.bel hbA
  have p5 := p4.out.bel hbA
  have kB5 := hB4.out.trans (Kp.of hbA)
  have nr : wb + 2 ≠ r ∧ a ≠ r ∧ q ≠ r ∧ ¬ m r := by have := hus.out; have := h4.out.b.l; have := h4.out.r.l; simp at hk; exact ⟨by omega, by omega, by omega, fun hm => by have := h4.out.mw _ hm; omega⟩
  have b6 := (h5.b.other na.out.1 (.slice (some ⟨r, 0, none⟩) 1 cr) (o := 0)).other h5.aq v (o := 0)
  have o6 := (o5.set (i := 0) (by simp) (.slice (some ⟨r, 0, none⟩) 1 cr)).other (Ne.symm na.out.2.1) v (o := 0)
  have p6 := (p5.other (show wb ≠ wb + 2 by omega) (.slice (some ⟨r, 0, none⟩) 1 cr) (o := 0)).other (Ne.symm nq0.out) v (o := 0)
  have r6 := (hr.other (Ne.symm nr.1) (.slice (some ⟨r, 0, none⟩) 1 cr) (o := 0)).other (Ne.symm nr.2.2.1) v (o := 0)
  have k6 := (kB5.setCell (p := ⟨wb + 2, 0, none⟩) (fun hm => by have := hmw.out _ hm; simp at this; omega) (.slice (some ⟨r, 0, none⟩) 1 cr)).setCell (p := ⟨q, 0, none⟩) h5.mq v
  have f19 := b6.f 19
  have c19' := b6.c 19 _ rfl
  have p0' := p6.c 0 _ rfl
  have ma := h5.ma
  have mw6 := mwS (p := ⟨q, 0, none⟩) (v := v) (mwS (p := ⟨wb + 2, 0, none⟩) (v := .slice (some ⟨r, 0, none⟩) 1 cr) h5.mw)
  clear hbA h5 o5 p5 kB5 hB5 hr p6
  generalize hU : (wr.setCell ⟨wb + 2, 0, none⟩ (.slice (some ⟨r, 0, none⟩) 1 cr)).setCell ⟨q, 0, none⟩ v = U at b6 o6 r6 k6 f19 c19' p0' mw6 ⊢
  clear hU
  refine hK.out _ _ ?_ (fun hHeld1 => ?_)
  · exact ⟨fun _ => ⟨p0', c19'⟩, trivial⟩
  clear hK K
  try simp only [Act.put, List.setIfInBounds_toArray, List.set_cons_zero, List.set_cons_succ]
  refine Stg.wpAnyL_free (i := 7) (v := ?_) 0 rfl (by kernel_rfl) (by kernel_rfl) (by kernel_rfl) (by kernel_rfl) (by kernel_rfl) (fun _ _ _ h => h) (Or.inl ⟨by kernel_rfl, ?_⟩) (by assumption) ?_
  rotate_left
  · intro u _
    try simp only [List.getElem_toArray, List.getElem_cons_succ, List.getElem_cons_zero]
    go_simp
    try with_reducible rfl
  try simp only [Act.put, List.setIfInBounds_toArray, List.set_cons_zero, List.set_cons_succ]
  refine Stg.wpAnyL_free (i := 8) (v := ?_) 0 rfl (by kernel_rfl) (by kernel_rfl) (by kernel_rfl) (by kernel_rfl) (by kernel_rfl) (fun _ _ _ h => h) (Or.inl ⟨by kernel_rfl, ?_⟩) (by assumption) ?_
  rotate_left
  · intro u _
    try simp only [List.getElem_toArray, List.getElem_cons_succ, List.getElem_cons_zero]
    go_simp
    try with_reducible rfl
  try simp only [Act.put, List.setIfInBounds_toArray, List.set_cons_zero, List.set_cons_succ]
  refine Stg.wpAnyL_start (n' := 1) (l' := #[true, true, true, true, true, true, true, true, true, false]) (by kernel_rfl) (by kernel_rfl) ?_
  refine Stg.wpAnyL_one (i := 9) 1 rfl (by kernel_rfl) (by kernel_rfl) (fun K hK => ?_)
  skip
  try simp only [List.getElem_toArray, List.getElem_cons_succ, List.getElem_cons_zero]
  go_simp
  refine hK.out _ _ ?_ (fun hHeld2 => ?_)
  · exact ⟨fun h => absurd h (by decide), trivial⟩
  clear hK K
  try simp only [Act.put, List.setIfInBounds_toArray, List.set_cons_zero, List.set_cons_succ]
  refine Stg.wpAnyL_done (by kernel_rfl) ?_ _
  try simp only [List.getElem_toArray, List.getElem_cons_succ, List.getElem_cons_zero]
  try simp only [Act.put, List.setIfInBounds_toArray, List.set_cons_zero, List.set_cons_succ]
  refine NoPanic.normal ?_
  have g7 : AgE m (U.setCell ⟨a, 19, none⟩ (.slice (some ⟨q, 0, none⟩) 0 c)) a { A with no := max A.no n } (some ⟨q, 0, none⟩) c := ⟨b6.set (i := 19) (show 19 < 21 by omega) _, ma, mwS mw6, fun h => nomatch h⟩
  have o7 := o6.other (Ne.symm na.out.1) (.slice (some ⟨q, 0, none⟩) 0 c) (o := 19)
  have r7 := r6.other (Ne.symm nr.2.1) (.slice (some ⟨q, 0, none⟩) 0 c) (o := 19)
  have k7 := k6.setCell (p := ⟨a, 19, none⟩) ma (.slice (some ⟨q, 0, none⟩) 0 c)
  clear h4 o4 hB4 hdl b6 o6 r6 k6 f19 c19'
  generalize U.setCell ⟨a, 19, none⟩ (.slice (some ⟨q, 0, none⟩) 0 c) = V at g7 o7 r7 k7 ⊢
  have z0 := o7.c 0 _ rfl
  have f0 := o7.f 0
  have g8 := Lib.hid (g7.other (b := wb + 2) (o := 0) (v := .slice (some ⟨r, 0, none⟩) 1 cr) na.out.1)
  have q0 := Lib.hid ((o7.set (i := 0) (by simp) (.slice (some ⟨r, 0, none⟩) 1 cr)).c 0 _ rfl)
  have r8 := Lib.hid (r7.other (Ne.symm nr.1) (.slice (some ⟨r, 0, none⟩) 1 cr) (o := 0))
  have k8 := Lib.hid (k7.setCell (p := ⟨wb + 2, 0, none⟩) (fun hm => by have := hmw.out _ hm; simp at this; omega) (.slice (some ⟨r, 0, none⟩) 1 cr))
  have mr := Lib.hid nr.2.2.2
  clear g7 o7 r7 k7 nr
  go_wp2_with fail
  try rw [Exit.noGoto_ret]
  refine bodyPost_ret (v := .slice (some ⟨r, 0, none⟩) 1 cr) (by simp [results, Try.results16, go_sem, q0.out]) rfl ?_
  exact ⟨⟨r, cr, rfl, r8.out, mr.out⟩, ⟨_, _, g8.out⟩, k8.out⟩
end Go.Proofs.Ytldknmcnmhdgfaa
