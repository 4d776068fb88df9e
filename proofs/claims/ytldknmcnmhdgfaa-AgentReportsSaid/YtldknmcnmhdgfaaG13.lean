/- Leases: Close. -/
import Derived.Test.YtldknmcnmhdgfaaG12
namespace Go.Proofs.Ytldknmcnmhdgfaa
open Go.ChangeShapes Go.WideShapes Go.ChangeAt Go.RowKit
set_option linter.unusedVariables false
set_option linter.unusedSimpArgs false
open BigFrame Bs Ag

set_option maxRecDepth 100000 in
set_option maxHeartbeats 4000000 in
theorem close_E {m : Nat → Prop} {w : World} {a : Nat} {A : St} {p : Option Addr} {c : Nat} (h : AgE m w a A p c) (t n : Int) :
    Calls Try.prog 16 #[.pointer (some ⟨a, 0, none⟩), .int .i64 t, .int .i64 n] w (RepE m a { A with no := max A.no n } w) := by
  have b1 := (Below.refl w.heap.size w).alloc (Nat.le_refl _) (.cells #[.pointer (some ⟨a, 0, none⟩)] 25)
  have b2 := b1.alloc (by simp) (.cells #[.int .i64 t] 3)
  have b3 := b2.alloc (by simp; omega) (.cells #[.slice none 0 0] 43)
  have p3 : Blk (((w.alloc (.cells #[.pointer (some ⟨a, 0, none⟩)] 25)).alloc (.cells #[.int .i64 t] 3)).alloc (.cells #[.slice none 0 0] 43)) w.heap.size [.pointer (some ⟨a, 0, none⟩)] := by
    have q1 := blk_new w [.pointer (some ⟨a, 0, none⟩)] 25
    have q2 := q1.bel ((Below.refl _ _).alloc (Nat.le_refl _) (.cells #[.int .i64 t] 3))
    exact q2.bel ((Below.refl _ _).alloc (Nat.le_refl _) _)
  have t3 : Blk (((w.alloc (.cells #[.pointer (some ⟨a, 0, none⟩)] 25)).alloc (.cells #[.int .i64 t] 3)).alloc (.cells #[.slice none 0 0] 43)) (w.heap.size + 1) [.int .i64 t] := by
    have q2 := blk_new (w.alloc (.cells #[.pointer (some ⟨a, 0, none⟩)] 25)) [.int .i64 t] 3
    have q3 := q2.bel ((Below.refl _ _).alloc (Nat.le_refl _) (.cells #[.slice none 0 0] 43))
    rwa [World.size_alloc] at q3
  have o3 : Blk (((w.alloc (.cells #[.pointer (some ⟨a, 0, none⟩)] 25)).alloc (.cells #[.int .i64 t] 3)).alloc (.cells #[.slice none 0 0] 43)) (w.heap.size + 2) [.slice none 0 0] := by
    have q3 := blk_new ((w.alloc (.cells #[.pointer (some ⟨a, 0, none⟩)] 25)).alloc (.cells #[.int .i64 t] 3)) [.slice none 0 0] 43
    rwa [World.size_alloc, World.size_alloc] at q3
  have h3 := h.bel b3
  have hla := Lib.hid h.b.l
  have hmw := Lib.hid h.mw
  skip
  clear b1 b2 h
  replace p3 := Lib.hid p3
  replace t3 := Lib.hid t3
  replace o3 := Lib.hid o3
  replace b3 := Lib.hid b3
  replace h3 := Lib.hid h3
  go_enter Try.func16, Try.ntmps16
  go_upto_region 1 with fail
  generalize hW : ((w.alloc (.cells #[.pointer (some ⟨a, 0, none⟩)] 25)).alloc (.cells #[.int .i64 t] 3)).alloc (.cells #[.slice none 0 0] 43) = W at p3 t3 o3 b3 h3 ⊢
  generalize hwb : w.heap.size = wb at p3 t3 o3 b3 hla hmw ⊢
  clear hW
  replace hwb := Lib.hid hwb
  have p0 := p3.out.c 0 _ rfl
  have hat := Lib.hid (at_E h3.out n)
  go_wp2_with fail
  refine hat.out.mono ?_
  rintro e u ⟨rfl, h4, k4⟩
  have na : a ≠ wb + 2 := by have := hla.out; omega
  have na0 : a ≠ wb := by have := hla.out; omega
  have p4 := k4.blk p3.out (Ne.symm na0)
  have o4 := k4.blk o3.out (Ne.symm na)
  have hB4 := (Kp.of (m := m) (hwb.out.symm ▸ b3.out)).trans k4.b
  have p0 := p4.c 0 _ rfl
  have c19 := h4.b.c 19 _ rfl
  have o0 := o4.c 0 _ rfl
  replace h4 := Lib.hid h4
  replace o4 := Lib.hid o4
  replace hB4 := Lib.hid hB4
  have hdl : ∀ u fv, Calls Try.prog 24 #[.slice p 0 c, fv] u fun e w' => e = .returned (.slice p 0 c) ∧ w' = u := fun u fv => del_nil u p c fv
  replace hdl := Lib.hid hdl
  replace na := Lib.hid na
  clear hat p3 o3 t3 b3 h3 k4 na0 p4
  go_upto_region 3 with fail
  refine wp_region_noPanic ?_
  refine Stg.wp_region_L [9] (Bs.SB u) (by kernel_rfl) (fun _ => (Below.refl _ _).drew) (fun hHeld => ?_)
  refine Stg.wpAnyL_start (n' := 10) (l' := #[false, false, false, false, false, false, false, false, false, false]) (by kernel_rfl) (by kernel_rfl) ?_
  refine Stg.wpAnyL_take (i := 0) (v := ?_) [7, 8, 9] 0 rfl (by kernel_rfl) (by kernel_rfl) (by kernel_rfl) (by kernel_rfl) (by kernel_rfl) (fun _ _ _ h => h) (Or.inl ⟨by kernel_rfl, ?_⟩) (by assumption) ?_
  rotate_left
  · intro u hSu
    skip
    have sB := hSu rfl
    have y0 := cellB sB p0
    have y1 := cellB sB c19
    have y2 := cellB sB o0
    try simp only [List.getElem_toArray, List.getElem_cons_succ, List.getElem_cons_zero]
    go_simp
    try with_reducible rfl
  try simp only [Act.put, List.setIfInBounds_toArray, List.set_cons_zero, List.set_cons_succ]
  refine Stg.wpAnyL_take (i := 1) (v := ?_) [2, 3, 4, 6, 7, 8, 9] 0 rfl (by kernel_rfl) (by kernel_rfl) (by kernel_rfl) (by kernel_rfl) (by kernel_rfl) (fun _ _ _ h => h) (Or.inl ⟨by kernel_rfl, ?_⟩) (by assumption) ?_
  rotate_left
  · intro u hSu
    skip
    have sB := hSu rfl
    have y0 := cellB sB p0
    have y1 := cellB sB c19
    have y2 := cellB sB o0
    try simp only [List.getElem_toArray, List.getElem_cons_succ, List.getElem_cons_zero]
    go_simp
    try with_reducible rfl
  try simp only [Act.put, List.setIfInBounds_toArray, List.set_cons_zero, List.set_cons_succ]
  refine Stg.wpAnyL_free (i := 2) (v := ?_) 0 rfl (by kernel_rfl) (by kernel_rfl) (by kernel_rfl) (by kernel_rfl) (by kernel_rfl) (fun _ _ _ h => h) (Or.inl ⟨by kernel_rfl, ?_⟩) (by assumption) ?_
  rotate_left
  · intro u _
    try simp only [List.getElem_toArray, List.getElem_cons_succ, List.getElem_cons_zero]
    go_simp
    try with_reducible rfl
  try simp only [Act.put, List.setIfInBounds_toArray, List.set_cons_zero, List.set_cons_succ]
  refine Stg.wpAnyL_start (n' := 7) (l' := #[true, true, true, false, false, false, false, false, false, false]) (by kernel_rfl) (by kernel_rfl) ?_
  refine Stg.wpAnyL_free (i := 3) (v := ?_) 0 rfl (by kernel_rfl) (by kernel_rfl) (by kernel_rfl) (by kernel_rfl) (by kernel_rfl) (fun _ _ _ h => h) (Or.inl ⟨by kernel_rfl, ?_⟩) (by assumption) ?_
  rotate_left
  · intro u _
    try simp only [List.getElem_toArray, List.getElem_cons_succ, List.getElem_cons_zero]
    go_simp
    try with_reducible rfl
  try simp only [Act.put, List.setIfInBounds_toArray, List.set_cons_zero, List.set_cons_succ]
  refine Stg.wpAnyL_take (i := 4) (v := ?_) [6, 7, 8, 9] 0 rfl (by kernel_rfl) (by kernel_rfl) (by kernel_rfl) (by kernel_rfl) (by kernel_rfl) (fun _ _ _ h => h) (Or.inl ⟨by kernel_rfl, ?_⟩) (by assumption) ?_
  rotate_left
  · intro u hSu
    skip
    have sB := hSu rfl
    have y0 := cellB sB p0
    have y1 := cellB sB c19
    have y2 := cellB sB o0
    try simp only [List.getElem_toArray, List.getElem_cons_succ, List.getElem_cons_zero]
    go_simp
    try with_reducible rfl
  try simp only [Act.put, List.setIfInBounds_toArray, List.set_cons_zero, List.set_cons_succ]
  refine Stg.wpAnyL_free (i := 5) (v := ?_) 0 rfl (by kernel_rfl) (by kernel_rfl) (by kernel_rfl) (by kernel_rfl) (by kernel_rfl) (fun _ _ _ h => h) (Or.inl ⟨by kernel_rfl, ?_⟩) (by assumption) ?_
  rotate_left
  · intro u _
    try simp only [List.getElem_toArray, List.getElem_cons_succ, List.getElem_cons_zero]
    go_simp
    try with_reducible rfl
  try simp only [Act.put, List.setIfInBounds_toArray, List.set_cons_zero, List.set_cons_succ]
  refine Stg.wpAnyL_start (n' := 4) (l' := #[true, true, true, true, true, true, false, false, false, false]) (by kernel_rfl) (by kernel_rfl) ?_
  refine Stg.wpAnyL_one (i := 6) 0 rfl (by kernel_rfl) (by kernel_rfl) (fun K hK => ?_)
  try simp only [List.getElem_toArray, List.getElem_cons_succ, List.getElem_cons_zero]
  go_simp
  refine (hdl.out _ _).mono ?_
  rintro e u2 ⟨rfl, rfl⟩
  have hb1 := Below.refl u.drew.heap.size u.drew
  refine hK.out _ _ ?_ (fun hHeld1 => ?_)
  · exact fun _ => bNext (hHeld rfl) hb1 (Nat.le_refl _)
  clear hK K
  try simp only [Act.put, List.setIfInBounds_toArray, List.set_cons_zero, List.set_cons_succ]
  refine Stg.wpAnyL_free (i := 7) (v := ?_) 0 rfl (by kernel_rfl) (by kernel_rfl) (by kernel_rfl) (by kernel_rfl) (by kernel_rfl) (fun _ _ _ h => h) (Or.inl ⟨by kernel_rfl, ?_⟩) (by assumption) ?_
  rotate_left
  · intro u _
    try simp only [List.getElem_toArray, List.getElem_cons_succ, List.getElem_cons_zero]
    go_simp
    try with_reducible rfl
  try simp only [Act.put, List.setIfInBounds_toArray, List.set_cons_zero, List.set_cons_succ]
  refine Stg.wpAnyL_free (i := 8) (v := ?_) 0 rfl (by kernel_rfl) (by kernel_rfl) (by kernel_rfl) (by kernel_rfl) (by kernel_rfl) (fun _ _ _ h => h) (Or.inl ⟨by kernel_rfl, ?_⟩) (by assumption) ?_
  rotate_left
  · intro u _
    try simp only [List.getElem_toArray, List.getElem_cons_succ, List.getElem_cons_zero]
    go_simp
    try with_reducible rfl
  try simp only [Act.put, List.setIfInBounds_toArray, List.set_cons_zero, List.set_cons_succ]
  refine Stg.wpAnyL_start (n' := 1) (l' := #[true, true, true, true, true, true, true, true, true, false]) (by kernel_rfl) (by kernel_rfl) ?_
  refine Stg.wpAnyL_one (i := 9) 1 rfl (by kernel_rfl) (by kernel_rfl) (fun K hK => ?_)
  have f19 := h4.out.b.f 19
  try simp only [List.getElem_toArray, List.getElem_cons_succ, List.getElem_cons_zero]
  go_simp
  refine hK.out _ _ ?_ (fun hHeld2 => ?_)
  · exact fun h => absurd h (by decide)
  clear hK K
  try simp only [Act.put, List.setIfInBounds_toArray, List.set_cons_zero, List.set_cons_succ]
  refine Stg.wpAnyL_done (by kernel_rfl) ?_ _
  try simp only [List.getElem_toArray, List.getElem_cons_succ, List.getElem_cons_zero]
  try simp only [Act.put, List.setIfInBounds_toArray, List.set_cons_zero, List.set_cons_succ]
  refine NoPanic.normal ?_
  have g5 : AgE m ((u.setCell ⟨a, 19, none⟩ (.slice p 0 c)).drew) a { A with no := max A.no n } p c := (h4.out.set (A' := { A with no := max A.no n }) (o := 19) (v := .slice p 0 c) (by omega) rfl).bel (Below.refl _ _).drew
  have o5 : Blk ((u.setCell ⟨a, 19, none⟩ (.slice p 0 c)).drew) (wb + 2) [.slice none 0 0] := (o4.out.other (Ne.symm na.out) _).drew
  have k5 := (hB4.out.setCell (p := ⟨a, 19, none⟩) h4.out.ma (.slice p 0 c)).drew
  clear h4 o4 hB4 hdl
  generalize (u.setCell ⟨a, 19, none⟩ (.slice p 0 c)).drew = V at g5 o5 k5 ⊢
  have r0 := o5.c 0 _ rfl
  have f0 := o5.f 0
  have g6 := Lib.hid (g5.other (b := wb + 2) (o := 0) (v := .slice none 0 0) na.out)
  have q0 := Lib.hid ((o5.set (i := 0) (by simp) (.slice none 0 0)).c 0 _ rfl)
  have k6 := Lib.hid (k5.setCell (p := ⟨wb + 2, 0, none⟩) (fun hm => by have := hmw.out _ hm; simp at this; omega) (.slice none 0 0))
  clear g5 o5 k5
  go_wp2_with fail
  try rw [Exit.noGoto_ret]
  refine bodyPost_ret (v := .slice none 0 0) (by simp [results, Try.results16, go_sem, q0.out]) rfl ?_
  exact ⟨_, _, rfl, g6.out, k6.out⟩

end Go.Proofs.Ytldknmcnmhdgfaa
