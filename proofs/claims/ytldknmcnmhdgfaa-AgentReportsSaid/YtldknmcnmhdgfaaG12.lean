/- Leases: Close. -/
import Derived.Test.YtldknmcnmhdgfaaG11
namespace Go.Proofs.Ytldknmcnmhdgfaa
open Go.ChangeShapes Go.WideShapes Go.ChangeAt Go.RowKit
set_option linter.unusedVariables false
set_option linter.unusedSimpArgs false
open BigFrame Bs Ag

section
attribute [local go_sem] max_fold min_fold
set_option maxRecDepth 100000 in
set_option maxHeartbeats 4000000 in
theorem at_keep {m : Nat → Prop} {w : World} {a : Nat} {A : St} {q g c : Nat} {x : Ls} (h : AgL m w a A q g c x) (n : Int) (hy : ¬ x.til ≤ max A.no n) :
    Calls Try.prog 19 #[.pointer (some ⟨a, 0, none⟩), .int .i64 n] w fun e w' => e = .returned (.bool true) ∧ AgL m w' a { A with no := max A.no n } q g c x ∧ Only a m w w' := by
  have c0 := h.b.c 20 _ rfl
  have f0 := h.b.f 20
  have h2 : AgL m (w.setCell ⟨a, 20, none⟩ (.int .i64 (max A.no n))) a { A with no := max A.no n } q g c x := h.set (by omega) rfl
  have k2 := Only.set w h.ma 20 (.int .i64 (max A.no n))
  have hm := h.ma
  replace h2 := Lib.hid h2
  replace k2 := Lib.hid k2
  replace hy := Lib.hid hy
  clear h
  go_enter Try.func19, Try.ntmps19
  go_upto_region 4 with fail
  replace h2 := h2.out
  replace k2 := k2.out
  clear c0 f0
  generalize w.setCell ⟨a, 20, none⟩ (.int .i64 (max A.no n)) = u at h2 k2 ⊢
  have c0 := h2.b.c 19 _ rfl
  have hd := del_dead_no h2 hy.out
  replace h2 := Lib.hid h2
  replace k2 := Lib.hid k2
  replace hd := Lib.hid hd
  go_wp2_with fail
  refine hd.out.mono ?_
  rintro e w' ⟨rfl, hB⟩
  have h3 := h2.out.bel hB
  have k3 := Only.bel (a := a) hB h2.out.mw
  have f1 := h3.b.f 19
  have h4 : AgL m (w'.setCell ⟨a, 19, none⟩ (.slice (some ⟨q, 0, none⟩) 1 c)) a { A with no := max A.no n } q g c x := h3.set (by omega) rfl
  have k4 := (k2.out.trans k3).trans (Only.set w' hm 19 (.slice (some ⟨q, 0, none⟩) 1 c))
  have c1 := h3.b.c 19 _ rfl
  clear hd h2 k2 h3 hB k3 c0
  replace h4 := Lib.hid h4
  replace k4 := Lib.hid k4
  go_wp2_with fail
  go_ret
  exact ⟨rfl, h4.out, k4.out⟩

end

set_option maxRecDepth 100000 in
set_option maxHeartbeats 4000000 in
theorem close_nil (w : World) (t n : Int) : Calls Try.prog 16 #[.pointer none, .int .i64 t, .int .i64 n] w fun e w' => e = .returned (.slice none 0 0) ∧ Below w.heap.size w w' := by
  have b1 := (Below.refl w.heap.size w).alloc (Nat.le_refl _) (.cells #[.pointer none] 25)
  have b2 := b1.alloc (by simp) (.cells #[.int .i64 t] 3)
  have b3 := b2.alloc (by simp; omega) (.cells #[.slice none 0 0] 43)
  have p3 : Blk (((w.alloc (.cells #[.pointer none] 25)).alloc (.cells #[.int .i64 t] 3)).alloc (.cells #[.slice none 0 0] 43)) w.heap.size [.pointer none] := by
    have q1 := blk_new w [.pointer none] 25
    have q2 := q1.bel ((Below.refl _ _).alloc (Nat.le_refl _) (.cells #[.int .i64 t] 3))
    exact q2.bel ((Below.refl _ _).alloc (Nat.le_refl _) _)
  have t3 : Blk (((w.alloc (.cells #[.pointer none] 25)).alloc (.cells #[.int .i64 t] 3)).alloc (.cells #[.slice none 0 0] 43)) (w.heap.size + 1) [.int .i64 t] := by
    have q2 := blk_new (w.alloc (.cells #[.pointer none] 25)) [.int .i64 t] 3
    have q3 := q2.bel ((Below.refl _ _).alloc (Nat.le_refl _) (.cells #[.slice none 0 0] 43))
    rwa [World.size_alloc] at q3
  have o3 : Blk (((w.alloc (.cells #[.pointer none] 25)).alloc (.cells #[.int .i64 t] 3)).alloc (.cells #[.slice none 0 0] 43)) (w.heap.size + 2) [.slice none 0 0] := by
    have q3 := blk_new ((w.alloc (.cells #[.pointer none] 25)).alloc (.cells #[.int .i64 t] 3)) [.slice none 0 0] 43
    rwa [World.size_alloc, World.size_alloc] at q3
  have hat := Lib.hid (at_nil (((w.alloc (.cells #[.pointer none] 25)).alloc (.cells #[.int .i64 t] 3)).alloc (.cells #[.slice none 0 0] 43)) n)
  clear t3 b1 b2
  replace p3 := Lib.hid p3
  replace o3 := Lib.hid o3
  replace b3 := Lib.hid b3
  go_enter Try.func16, Try.ntmps16
  go_upto_region 1 with fail
  generalize hW : ((w.alloc (.cells #[.pointer none] 25)).alloc (.cells #[.int .i64 t] 3)).alloc (.cells #[.slice none 0 0] 43) = W at p3 o3 b3 hat ⊢
  generalize hwb : w.heap.size = wb at p3 o3 b3 ⊢
  have p0 := p3.out.c 0 _ rfl
  have o0 := o3.out.c 0 _ rfl
  have f0 := o3.out.f 0
  have o1 := Lib.hid ((o3.out.set (i := 0) (by simp) (.slice none 0 0)).c 0 _ rfl)
  have hB := Lib.hid (b3.out.setCell (p := ⟨wb + 2, 0, none⟩) (by simp) (.slice none 0 0))
  clear p3 o3 b3 hW
  replace hwb := Lib.hid hwb
  go_wp2_with fail
  refine hat.out.mono ?_
  rintro e w' ⟨rfl, rfl⟩
  clear hat
  go_wp2_with fail
  try rw [Exit.noGoto_ret]
  refine bodyPost_ret (v := .slice none 0 0) (by simp [results, Try.results16, go_sem, o1.out]) rfl ?_
  exact ⟨rfl, by rw [hwb.out]; exact hB.out⟩

end Go.Proofs.Ytldknmcnmhdgfaa
