/- Leases: what is told is taken; or comes too late. -/
import Derived.Test.YtldknmcnmhdgfaaG7
namespace Go.Proofs.Ytldknmcnmhdgfaa
open Go.ChangeShapes Go.WideShapes Go.ChangeAt Go.RowKit
set_option linter.unusedVariables false
set_option linter.unusedSimpArgs false
open BigFrame Bs Ag

namespace Ag
def told1 (A : St) (n : Int) : St := { A with no := max A.no n, un := false }
def TellP (m : Nat → Prop) (a : Nat) (A : St) (x : Ls) (w : World) (e : Ending) (w' : World) : Prop := ∃ q g c, e = .returned (.int .i64 0) ∧ AgL m w' a A q g c x ∧ Kp m w w'
theorem one_ptr (g : Nat) : ∀ u ∈ [Value.pointer (some ⟨g, 0, none⟩)], u.oneCell' = true := by intro u hu; simp at hu; subst hu; rfl
end Ag
attribute [local go_sem] max_fold

set_option maxRecDepth 100000 in
set_option maxHeartbeats 40000000 in
theorem told_late {m : Nat → Prop} {w : World} {a : Nat} {A : St} (h : AgE m w a A none 0) (hu : A.un = true) (n r b l z : Int) (hse : 0 ≤ A.se ∧ A.se ≤ 1125899906842624) (hti : 1 ≤ A.ti ∧ A.ti ≤ 1073741824) (hl : 1 ≤ l) (hz : 1 ≤ z ∧ z ≤ A.cz) (hy : A.se + 1000 * A.ti ≤ max A.no n) :
    Calls Try.prog 9 #[.pointer (some ⟨a, 0, none⟩), .int .i64 A.ep, .int .i64 A.nu, ansV 0 r b l z, .int .i64 n] w (TokP m a (told1 A n) w 4) := by
  unfold ansV
  obtain ⟨e1, e2⟩ := hse
  obtain ⟨i1, i2⟩ := hti
  obtain ⟨z1, z2⟩ := hz
  have hal := (Below.refl w.heap.size w).alloc (Nat.le_refl _) (.cells #[.int .i64 0, .int .i64 r, .int .i64 b, .int .i64 l, .int .i64 z] 24)
  have ab0 := Lib.hid (blk_new w [.int .i64 0, .int .i64 r, .int .i64 b, .int .i64 l, .int .i64 z] 24)
  have h0 := Lib.hid (h.bel hal)
  have hB0 := Lib.hid (Kp.of (m := m) hal)
  have ha : RowKit.Hid (a ≠ w.heap.size) := Lib.hid (by have := h.b.l; omega)
  have hcn : ∀ u fv, Calls Try.prog 20 #[.slice none 0 0, fv] u fun e w' => e = .returned (.bool false) ∧ w' = u := fun u fv => cont_nil u none 0 fv
  replace hcn := Lib.hid hcn
  clear h hal
  go_enter Try.func9, Try.ntmps9
  go_upto_region 1 with fail
  generalize w.alloc (.cells #[.int .i64 0, .int .i64 r, .int .i64 b, .int .i64 l, .int .i64 z] 24) = W at ab0 h0 hB0 ⊢
  generalize hwb : w.heap.size = wb at ab0 ha ⊢
  clear hwb
  have hat := Lib.hid (at_E h0.out n)
  go_wp2_with fail
  refine hat.out.mono ?_
  rintro e u ⟨rfl, g1, k1⟩
  have ab1 := Lib.hid (k1.blk ab0.out ha.out.symm)
  have hB1 := Lib.hid (hB0.out.trans k1.b)
  clear hat ab0 h0 hB0 k1
  have c2 := g1.b.c 2 _ rfl
  have c3 := g1.b.c 3 _ rfl
  have c4 := g1.b.c 4 _ rfl
  rw [hu] at c4
  have f4 := g1.b.f 4
  have g2 : AgE m (u.setCell ⟨a, 4, none⟩ (.bool false)) a (told1 A n) none 0 := g1.set (A' := told1 A n) (o := 4) (v := .bool false) (by omega) rfl
  have ab2 := Lib.hid (ab1.out.other ha.out.symm (o := 4) (.bool false))
  have hB2 := Lib.hid (hB1.out.setCell (p := ⟨a, 4, none⟩) g1.ma (.bool false))
  replace hu := Lib.hid hu
  replace g2 := Lib.hid g2
  clear g1 ab1 hB1
  go_upto_region 6 with fail
  clear c2 c3 c4 f4
  generalize u.setCell ⟨a, 4, none⟩ (.bool false) = V at g2 ab2 hB2 ⊢
  have c1 := g2.out.b.c 1 _ rfl
  have c8 := g2.out.b.c 8 _ rfl
  have c14 := g2.out.b.c 14 _ rfl
  have c18 := g2.out.b.c 18 _ rfl
  have c19 := g2.out.b.c 19 _ rfl
  have c20 := g2.out.b.c 20 _ rfl
  have z0 := ab2.out.c 0 _ rfl
  have z3 := ab2.out.c 3 _ rfl
  have z4 := ab2.out.c 4 _ rfl
  rw [show (told1 A n).ti = A.ti from rfl] at c1
  rw [show (told1 A n).cz = A.cz from rfl] at c14
  rw [show (told1 A n).se = A.se from rfl] at c18
  rw [show (told1 A n).no = max A.no n from rfl] at c20
  go_quiet (fail)
  go_wp2_with fail
  refine (hcn.out _ _).mono ?_
  rintro e u2 ⟨rfl, rfl⟩
  clear hcn
  have hd := bDrew (Below.refl V.heap.size V) nq
  have g3 := Lib.hid (g2.out.bel hd)
  have ab3 := Lib.hid (ab2.out.bel hd)
  have hB3 := Lib.hid (hB2.out.trans (Kp.of hd))
  clear c1 c8 c14 c18 c19 c20 z0 z3 z4 hd
  generalize V.drewN nq = V2 at g3 ab3 hB3 ⊢
  have c1 := g3.out.b.c 1 _ rfl
  have c8 := g3.out.b.c 8 _ rfl
  have c14 := g3.out.b.c 14 _ rfl
  have c18 := g3.out.b.c 18 _ rfl
  have c19 := g3.out.b.c 19 _ rfl
  have c20 := g3.out.b.c 20 _ rfl
  have z0 := ab3.out.c 0 _ rfl
  have z3 := ab3.out.c 3 _ rfl
  have z4 := ab3.out.c 4 _ rfl
  rw [show (told1 A n).ti = A.ti from rfl] at c1
  rw [show (told1 A n).cz = A.cz from rfl] at c14
  rw [show (told1 A n).se = A.se from rfl] at c18
  rw [show (told1 A n).no = max A.no n from rfl] at c20
  clear g2 ab2 hB2
  go_wp2_with fail
  go_quiet (fail)
  have hd := bDrew (Below.refl V2.heap.size V2) nq
  have g4 := Lib.hid (g3.out.bel hd)
  have ab4 := Lib.hid (ab3.out.bel hd)
  have hB4 := Lib.hid (hB3.out.trans (Kp.of hd))
  clear c1 c8 c14 c18 c19 c20 z0 z3 z4 hd
  generalize V2.drewN nq = V3 at g4 ab4 hB4 ⊢
  have c1 := g4.out.b.c 1 _ rfl
  have c8 := g4.out.b.c 8 _ rfl
  have c14 := g4.out.b.c 14 _ rfl
  have c18 := g4.out.b.c 18 _ rfl
  have c19 := g4.out.b.c 19 _ rfl
  have c20 := g4.out.b.c 20 _ rfl
  have z0 := ab4.out.c 0 _ rfl
  have z3 := ab4.out.c 3 _ rfl
  have z4 := ab4.out.c 4 _ rfl
  rw [show (told1 A n).ti = A.ti from rfl] at c1
  rw [show (told1 A n).cz = A.cz from rfl] at c14
  rw [show (told1 A n).se = A.se from rfl] at c18
  rw [show (told1 A n).no = max A.no n from rfl] at c20
  clear g3 ab3 hB3
  go_wp2_with fail
  go_ret
  exact ⟨_, _, rfl, g4.out, hB4.out⟩

set_option maxRecDepth 100000 in
set_option maxHeartbeats 40000000 in
theorem told_ok {m : Nat → Prop} {w : World} {a : Nat} {A : St} (h : AgE m w a A none 0) (hu : A.un = true) (n r b l z : Int) (hse : 0 ≤ A.se ∧ A.se ≤ 1125899906842624) (hti : 1 ≤ A.ti ∧ A.ti ≤ 1073741824) (hl : 1 ≤ l) (hz : 1 ≤ z ∧ z ≤ A.cz) (hy : ¬ A.se + 1000 * A.ti ≤ max A.no n) :
    Calls Try.prog 9 #[.pointer (some ⟨a, 0, none⟩), .int .i64 A.ep, .int .i64 A.nu, ansV 0 r b l z, .int .i64 n] w (TellP m a (told1 A n) { id := l, ten := A.ct, left := z, til := A.se + 1000 * A.ti, size := z, told := 0 } w) := by
  unfold ansV
  obtain ⟨e1, e2⟩ := hse
  obtain ⟨i1, i2⟩ := hti
  obtain ⟨z1, z2⟩ := hz
  have hal := (Below.refl w.heap.size w).alloc (Nat.le_refl _) (.cells #[.int .i64 0, .int .i64 r, .int .i64 b, .int .i64 l, .int .i64 z] 24)
  have ab0 := Lib.hid (blk_new w [.int .i64 0, .int .i64 r, .int .i64 b, .int .i64 l, .int .i64 z] 24)
  have h0 := Lib.hid (h.bel hal)
  have hB0 := Lib.hid (Kp.of (m := m) hal)
  have ha : RowKit.Hid (a ≠ w.heap.size) := Lib.hid (by have := h.b.l; omega)
  have hcn : ∀ u fv, Calls Try.prog 20 #[.slice none 0 0, fv] u fun e w' => e = .returned (.bool false) ∧ w' = u := fun u fv => cont_nil u none 0 fv
  replace hcn := Lib.hid hcn
  clear h hal
  go_enter Try.func9, Try.ntmps9
  go_upto_region 1 with fail
  generalize w.alloc (.cells #[.int .i64 0, .int .i64 r, .int .i64 b, .int .i64 l, .int .i64 z] 24) = W at ab0 h0 hB0 ⊢
  generalize hwb : w.heap.size = wb at ab0 ha ⊢
  clear hwb
  have hat := Lib.hid (at_E h0.out n)
  go_wp2_with fail
  refine hat.out.mono ?_
  rintro e u ⟨rfl, g1, k1⟩
  have ab1 := Lib.hid (k1.blk ab0.out ha.out.symm)
  have hB1 := Lib.hid (hB0.out.trans k1.b)
  clear hat ab0 h0 hB0 k1
  have c2 := g1.b.c 2 _ rfl
  have c3 := g1.b.c 3 _ rfl
  have c4 := g1.b.c 4 _ rfl
  rw [hu] at c4
  have f4 := g1.b.f 4
  have g2 : AgE m (u.setCell ⟨a, 4, none⟩ (.bool false)) a (told1 A n) none 0 := g1.set (A' := told1 A n) (o := 4) (v := .bool false) (by omega) rfl
  have ab2 := Lib.hid (ab1.out.other ha.out.symm (o := 4) (.bool false))
  have hB2 := Lib.hid (hB1.out.setCell (p := ⟨a, 4, none⟩) g1.ma (.bool false))
  replace hu := Lib.hid hu
  replace g2 := Lib.hid g2
  clear g1 ab1 hB1
  go_upto_region 6 with fail
  clear c2 c3 c4 f4
  generalize u.setCell ⟨a, 4, none⟩ (.bool false) = V at g2 ab2 hB2 ⊢
  have c1 := g2.out.b.c 1 _ rfl
  have c8 := g2.out.b.c 8 _ rfl
  have c14 := g2.out.b.c 14 _ rfl
  have c18 := g2.out.b.c 18 _ rfl
  have c19 := g2.out.b.c 19 _ rfl
  have c20 := g2.out.b.c 20 _ rfl
  have z0 := ab2.out.c 0 _ rfl
  have z3 := ab2.out.c 3 _ rfl
  have z4 := ab2.out.c 4 _ rfl
  rw [show (told1 A n).ti = A.ti from rfl] at c1
  rw [show (told1 A n).cz = A.cz from rfl] at c14
  rw [show (told1 A n).se = A.se from rfl] at c18
  rw [show (told1 A n).no = max A.no n from rfl] at c20
  go_quiet (fail)
  go_wp2_with fail
  refine (hcn.out _ _).mono ?_
  rintro e u2 ⟨rfl, rfl⟩
  clear hcn
  have hd := bDrew (Below.refl V.heap.size V) nq
  have g3 := Lib.hid (g2.out.bel hd)
  have ab3 := Lib.hid (ab2.out.bel hd)
  have hB3 := Lib.hid (hB2.out.trans (Kp.of hd))
  clear c1 c8 c14 c18 c19 c20 z0 z3 z4 hd
  generalize V.drewN nq = V2 at g3 ab3 hB3 ⊢
  have c1 := g3.out.b.c 1 _ rfl
  have c8 := g3.out.b.c 8 _ rfl
  have c14 := g3.out.b.c 14 _ rfl
  have c18 := g3.out.b.c 18 _ rfl
  have c19 := g3.out.b.c 19 _ rfl
  have c20 := g3.out.b.c 20 _ rfl
  have z0 := ab3.out.c 0 _ rfl
  have z3 := ab3.out.c 3 _ rfl
  have z4 := ab3.out.c 4 _ rfl
  rw [show (told1 A n).ti = A.ti from rfl] at c1
  rw [show (told1 A n).cz = A.cz from rfl] at c14
  rw [show (told1 A n).se = A.se from rfl] at c18
  rw [show (told1 A n).no = max A.no n from rfl] at c20
  clear g2 ab2 hB2
  go_wp2_with fail
  go_quiet (fail)
  have hd := bDrew (Below.refl V2.heap.size V2) nq
  have g4 := Lib.hid (g3.out.bel hd)
  have ab4 := Lib.hid (ab3.out.bel hd)
  have hB4 := Lib.hid (hB3.out.trans (Kp.of hd))
  clear c1 c8 c14 c18 c19 c20 z0 z3 z4 hd
  generalize V2.drewN nq = V3 at g4 ab4 hB4 ⊢
  have c1 := g4.out.b.c 1 _ rfl
  have c8 := g4.out.b.c 8 _ rfl
  have c14 := g4.out.b.c 14 _ rfl
  have c18 := g4.out.b.c 18 _ rfl
  have c19 := g4.out.b.c 19 _ rfl
  have c20 := g4.out.b.c 20 _ rfl
  have z0 := ab4.out.c 0 _ rfl
  have z3 := ab4.out.c 3 _ rfl
  have z4 := ab4.out.c 4 _ rfl
  rw [show (told1 A n).ti = A.ti from rfl] at c1
  rw [show (told1 A n).cz = A.cz from rfl] at c14
  rw [show (told1 A n).se = A.se from rfl] at c18
  rw [show (told1 A n).no = max A.no n from rfl] at c20
  clear g3 ab3 hB3
  rw [show (told1 A n).ct = A.ct from rfl] at c8
  go_upto_region 16 with fail
  refine wp_region_noPanic ?_
  refine Stg.wp_region_L [21, 24] (Bs.SB V3) (by kernel_rfl) (fun _ => (Below.refl _ _).drew) (fun hHeld => ?_)
  refine Stg.wpAnyL_start (n' := 25) (l' := #[false, false, false, false, false, false, false, false, false, false, false, false, false, false, false, false, false, false, false, false, false, false, false, false, false]) (by kernel_rfl) (by kernel_rfl) ?_
  refine Stg.wpAnyL_free (i := 0) (v := ?_) 0 rfl (by kernel_rfl) (by kernel_rfl) (by kernel_rfl) (by kernel_rfl) (by kernel_rfl) (fun _ _ _ h => h) (Or.inl ⟨by kernel_rfl, ?_⟩) (by assumption) ?_
  rotate_left
  · intro u _
    try simp only [List.getElem_toArray, List.getElem_cons_succ, List.getElem_cons_zero]
    go_simp
    try with_reducible rfl
  try simp only [Act.put, List.setIfInBounds_toArray, List.set_cons_zero, List.set_cons_succ]
  refine Stg.wpAnyL_free (i := 1) (v := ?_) 0 rfl (by kernel_rfl) (by kernel_rfl) (by kernel_rfl) (by kernel_rfl) (by kernel_rfl) (fun _ _ _ h => h) (Or.inl ⟨by kernel_rfl, ?_⟩) (by assumption) ?_
  rotate_left
  · intro u _
    try simp only [List.getElem_toArray, List.getElem_cons_succ, List.getElem_cons_zero]
    go_simp
    try with_reducible rfl
  try simp only [Act.put, List.setIfInBounds_toArray, List.set_cons_zero, List.set_cons_succ]
  refine Stg.wpAnyL_free (i := 2) (v := ?_) 0 rfl (by kernel_rfl) (by kernel_rfl) (by kernel_rfl) (by kernel_rfl) (by kernel_rfl) (fun _ _ _ h => h) (Or.inl ⟨by kernel_rfl, ?_⟩) (by assumption) ?_
  rotate_left
  · intro u _
    try simp only [List.getElem_toArray, List.getElem_cons_succ, List.getElem_cons_zero]
    go_simp
    try with_reducible rfl
  try simp only [Act.put, List.setIfInBounds_toArray, List.set_cons_zero, List.set_cons_succ]
  refine Stg.wpAnyL_start (n' := 22) (l' := #[true, true, true, false, false, false, false, false, false, false, false, false, false, false, false, false, false, false, false, false, false, false, false, false, false]) (by kernel_rfl) (by kernel_rfl) ?_
  refine Stg.wpAnyL_free (i := 3) (v := ?_) 0 rfl (by kernel_rfl) (by kernel_rfl) (by kernel_rfl) (by kernel_rfl) (by kernel_rfl) (fun _ _ _ h => h) (Or.inl ⟨by kernel_rfl, ?_⟩) (by assumption) ?_
  rotate_left
  · intro u _
    try simp only [List.getElem_toArray, List.getElem_cons_succ, List.getElem_cons_zero]
    go_simp
    try with_reducible rfl
  try simp only [Act.put, List.setIfInBounds_toArray, List.set_cons_zero, List.set_cons_succ]
  refine Stg.wpAnyL_take (i := 4) (v := ?_) [21, 22, 23, 24] 0 rfl (by kernel_rfl) (by kernel_rfl) (by kernel_rfl) (by kernel_rfl) (by kernel_rfl) (fun _ _ _ h => h) (Or.inl ⟨by kernel_rfl, ?_⟩) (by assumption) ?_
  rotate_left
  · intro u hSu
    skip
    have sB := hSu rfl
    have y0 := cellB sB c8
    have y1 := cellB sB c19
    have y2 := cellB sB z3
    have y3 := cellB sB z4
    try simp only [List.getElem_toArray, List.getElem_cons_succ, List.getElem_cons_zero]
    go_simp
    try with_reducible rfl
  try simp only [Act.put, List.setIfInBounds_toArray, List.set_cons_zero, List.set_cons_succ]
  refine Stg.wpAnyL_free (i := 5) (v := ?_) 0 rfl (by kernel_rfl) (by kernel_rfl) (by kernel_rfl) (by kernel_rfl) (by kernel_rfl) (fun _ _ _ h => h) (Or.inl ⟨by kernel_rfl, ?_⟩) (by assumption) ?_
  rotate_left
  · intro u _
    try simp only [List.getElem_toArray, List.getElem_cons_succ, List.getElem_cons_zero]
    go_simp
    try with_reducible rfl
  try simp only [Act.put, List.setIfInBounds_toArray, List.set_cons_zero, List.set_cons_succ]
  refine Stg.wpAnyL_start (n' := 19) (l' := #[true, true, true, true, true, true, false, false, false, false, false, false, false, false, false, false, false, false, false, false, false, false, false, false, false]) (by kernel_rfl) (by kernel_rfl) ?_
  refine Stg.wpAnyL_take (i := 6) (v := ?_) [15, 18, 19, 20, 21, 22, 23, 24] 0 rfl (by kernel_rfl) (by kernel_rfl) (by kernel_rfl) (by kernel_rfl) (by kernel_rfl) (fun _ _ _ h => h) (Or.inl ⟨by kernel_rfl, ?_⟩) (by assumption) ?_
  rotate_left
  · intro u hSu
    skip
    have sB := hSu rfl
    have y0 := cellB sB c8
    have y1 := cellB sB c19
    have y2 := cellB sB z3
    have y3 := cellB sB z4
    try simp only [List.getElem_toArray, List.getElem_cons_succ, List.getElem_cons_zero]
    go_simp
    try with_reducible rfl
  try simp only [Act.put, List.setIfInBounds_toArray, List.set_cons_zero, List.set_cons_succ]
  refine Stg.wpAnyL_free (i := 7) (v := ?_) 0 rfl (by kernel_rfl) (by kernel_rfl) (by kernel_rfl) (by kernel_rfl) (by kernel_rfl) (fun _ _ _ h => h) (Or.inl ⟨by kernel_rfl, ?_⟩) (by assumption) ?_
  rotate_left
  · intro u _
    try simp only [List.getElem_toArray, List.getElem_cons_succ, List.getElem_cons_zero]
    go_simp
    try with_reducible rfl
  try simp only [Act.put, List.setIfInBounds_toArray, List.set_cons_zero, List.set_cons_succ]
  refine Stg.wpAnyL_free (i := 8) (v := ?_) 0 rfl (by kernel_rfl) (by kernel_rfl) (by kernel_rfl) (by kernel_rfl) (by kernel_rfl) (fun _ _ _ h => h) (Or.inl ⟨by kernel_rfl, ?_⟩) (by assumption) ?_
  rotate_left
  · intro u _
    try simp only [List.getElem_toArray, List.getElem_cons_succ, List.getElem_cons_zero]
    go_simp
    try with_reducible rfl
  try simp only [Act.put, List.setIfInBounds_toArray, List.set_cons_zero, List.set_cons_succ]
  refine Stg.wpAnyL_start (n' := 16) (l' := #[true, true, true, true, true, true, true, true, true, false, false, false, false, false, false, false, false, false, false, false, false, false, false, false, false]) (by kernel_rfl) (by kernel_rfl) ?_
  refine Stg.wpAnyL_free (i := 9) (v := ?_) 0 rfl (by kernel_rfl) (by kernel_rfl) (by kernel_rfl) (by kernel_rfl) (by kernel_rfl) (fun _ _ _ h => h) (Or.inl ⟨by kernel_rfl, ?_⟩) (by assumption) ?_
  rotate_left
  · intro u _
    try simp only [List.getElem_toArray, List.getElem_cons_succ, List.getElem_cons_zero]
    go_simp
    try with_reducible rfl
  try simp only [Act.put, List.setIfInBounds_toArray, List.set_cons_zero, List.set_cons_succ]
  refine Stg.wpAnyL_free (i := 10) (v := ?_) 0 rfl (by kernel_rfl) (by kernel_rfl) (by kernel_rfl) (by kernel_rfl) (by kernel_rfl) (fun _ _ _ h => h) (Or.inl ⟨by kernel_rfl, ?_⟩) (by assumption) ?_
  rotate_left
  · intro u _
    try simp only [List.getElem_toArray, List.getElem_cons_succ, List.getElem_cons_zero]
    go_simp
    try with_reducible rfl
  try simp only [Act.put, List.setIfInBounds_toArray, List.set_cons_zero, List.set_cons_succ]
  refine Stg.wpAnyL_take (i := 11) (v := ?_) [15, 18, 19, 20, 21, 22, 23, 24] 0 rfl (by kernel_rfl) (by kernel_rfl) (by kernel_rfl) (by kernel_rfl) (by kernel_rfl) (fun _ _ _ h => h) (Or.inl ⟨by kernel_rfl, ?_⟩) (by assumption) ?_
  rotate_left
  · intro u hSu
    skip
    have sB := hSu rfl
    have y0 := cellB sB c8
    have y1 := cellB sB c19
    have y2 := cellB sB z3
    have y3 := cellB sB z4
    try simp only [List.getElem_toArray, List.getElem_cons_succ, List.getElem_cons_zero]
    go_simp
    try with_reducible rfl
  try simp only [Act.put, List.setIfInBounds_toArray, List.set_cons_zero, List.set_cons_succ]
  refine Stg.wpAnyL_start (n' := 13) (l' := #[true, true, true, true, true, true, true, true, true, true, true, true, false, false, false, false, false, false, false, false, false, false, false, false, false]) (by kernel_rfl) (by kernel_rfl) ?_
  refine Stg.wpAnyL_free (i := 12) (v := ?_) 0 rfl (by kernel_rfl) (by kernel_rfl) (by kernel_rfl) (by kernel_rfl) (by kernel_rfl) (fun _ _ _ h => h) (Or.inl ⟨by kernel_rfl, ?_⟩) (by assumption) ?_
  rotate_left
  · intro u _
    try simp only [List.getElem_toArray, List.getElem_cons_succ, List.getElem_cons_zero]
    go_simp
    try with_reducible rfl
  try simp only [Act.put, List.setIfInBounds_toArray, List.set_cons_zero, List.set_cons_succ]
  refine Stg.wpAnyL_take (i := 13) (v := ?_) [15, 18, 19, 20, 21, 22, 23, 24] 0 rfl (by kernel_rfl) (by kernel_rfl) (by kernel_rfl) (by kernel_rfl) (by kernel_rfl) (fun _ _ _ h => h) (Or.inl ⟨by kernel_rfl, ?_⟩) (by assumption) ?_
  rotate_left
  · intro u hSu
    skip
    have sB := hSu rfl
    have y0 := cellB sB c8
    have y1 := cellB sB c19
    have y2 := cellB sB z3
    have y3 := cellB sB z4
    try simp only [List.getElem_toArray, List.getElem_cons_succ, List.getElem_cons_zero]
    go_simp
    try with_reducible rfl
  try simp only [Act.put, List.setIfInBounds_toArray, List.set_cons_zero, List.set_cons_succ]
  refine Stg.wpAnyL_free (i := 14) (v := ?_) 0 rfl (by kernel_rfl) (by kernel_rfl) (by kernel_rfl) (by kernel_rfl) (by kernel_rfl) (fun _ _ _ h => h) (Or.inl ⟨by kernel_rfl, ?_⟩) (by assumption) ?_
  rotate_left
  · intro u _
    try simp only [List.getElem_toArray, List.getElem_cons_succ, List.getElem_cons_zero]
    go_simp
    try with_reducible rfl
  try simp only [Act.put, List.setIfInBounds_toArray, List.set_cons_zero, List.set_cons_succ]
  refine Stg.wpAnyL_start (n' := 10) (l' := #[true, true, true, true, true, true, true, true, true, true, true, true, true, true, true, false, false, false, false, false, false, false, false, false, false]) (by kernel_rfl) (by kernel_rfl) ?_
  refine Stg.wpAnyL_free (i := 15) (v := ?_) 0 rfl (by kernel_rfl) (by kernel_rfl) (by kernel_rfl) (by kernel_rfl) (by kernel_rfl) (fun _ _ _ h => h) (Or.inl ⟨by kernel_rfl, ?_⟩) (by assumption) ?_
  rotate_left
  · intro u _
    try simp only [List.getElem_toArray, List.getElem_cons_succ, List.getElem_cons_zero]
    go_simp
    try with_reducible rfl
  try simp only [Act.put, List.setIfInBounds_toArray, List.set_cons_zero, List.set_cons_succ]
  refine Stg.wpAnyL_free (i := 16) (v := ?_) 0 rfl (by kernel_rfl) (by kernel_rfl) (by kernel_rfl) (by kernel_rfl) (by kernel_rfl) (fun _ _ _ h => h) (Or.inl ⟨by kernel_rfl, ?_⟩) (by assumption) ?_
  rotate_left
  · intro u _
    try simp only [List.getElem_toArray, List.getElem_cons_succ, List.getElem_cons_zero]
    go_simp
    try with_reducible rfl
  try simp only [Act.put, List.setIfInBounds_toArray, List.set_cons_zero, List.set_cons_succ]
  refine Stg.wpAnyL_take (i := 17) (v := ?_) [18, 19, 20, 21, 22, 23, 24] 0 rfl (by kernel_rfl) (by kernel_rfl) (by kernel_rfl) (by kernel_rfl) (by kernel_rfl) (fun _ _ _ h => h) (Or.inl ⟨by kernel_rfl, ?_⟩) (by assumption) ?_
  rotate_left
  · intro u hSu
    skip
    have sB := hSu rfl
    have y0 := cellB sB c8
    have y1 := cellB sB c19
    have y2 := cellB sB z3
    have y3 := cellB sB z4
    try simp only [List.getElem_toArray, List.getElem_cons_succ, List.getElem_cons_zero]
    go_simp
    try with_reducible rfl
  try simp only [Act.put, List.setIfInBounds_toArray, List.set_cons_zero, List.set_cons_succ]
  refine Stg.wpAnyL_start (n' := 7) (l' := #[true, true, true, true, true, true, true, true, true, true, true, true, true, true, true, true, true, true, false, false, false, false, false, false, false]) (by kernel_rfl) (by kernel_rfl) ?_
  refine Stg.wpAnyL_free (i := 18) (v := ?_) 0 rfl (by kernel_rfl) (by kernel_rfl) (by kernel_rfl) (by kernel_rfl) (by kernel_rfl) (fun _ _ _ h => h) (Or.inl ⟨by kernel_rfl, ?_⟩) (by assumption) ?_
  rotate_left
  · intro u _
    try simp only [List.getElem_toArray, List.getElem_cons_succ, List.getElem_cons_zero]
    go_simp
    try with_reducible rfl
  try simp only [Act.put, List.setIfInBounds_toArray, List.set_cons_zero, List.set_cons_succ]
  refine Stg.wpAnyL_one (i := 19) 0 rfl (by kernel_rfl) (by kernel_rfl) (fun K hK => ?_)
  try simp only [List.getElem_toArray, List.getElem_cons_succ, List.getElem_cons_zero]
  go_simp
  refine hK.out _ _ ?_ (fun hHeld1 => ?_)
  · exact fun _ => bNext (hHeld rfl) ((Below.refl _ _).alloc (Nat.le_refl _) _) (Nat.le_refl _)
  clear hK K
  try simp only [Act.put, List.setIfInBounds_toArray, List.set_cons_zero, List.set_cons_succ]
  refine Stg.wpAnyL_one (i := 20) 0 rfl (by kernel_rfl) (by kernel_rfl) (fun K hK => ?_)
  try simp only [List.getElem_toArray, List.getElem_cons_succ, List.getElem_cons_zero]
  go_simp
  refine hK.out _ _ ?_ (fun hHeld2 => ?_)
  · exact fun _ => bNext (hHeld1 rfl) ((Below.refl _ _).alloc (Nat.le_refl _) _) (Nat.le_refl _)
  clear hK K
  try simp only [Act.put, List.setIfInBounds_toArray, List.set_cons_zero, List.set_cons_succ]
  refine Stg.wpAnyL_start (n' := 4) (l' := #[true, true, true, true, true, true, true, true, true, true, true, true, true, true, true, true, true, true, true, true, true, false, false, false, false]) (by kernel_rfl) (by kernel_rfl) ?_
  refine Stg.wpAnyL_one (i := 21) 1 rfl (by kernel_rfl) (by kernel_rfl) (fun K hK => ?_)
  try simp only [List.getElem_toArray, List.getElem_cons_succ, List.getElem_cons_zero]
  rw [if_pos (by rfl)]
  refine wp_append_first (.tmp 97) (.tmp 113) 55 60 (.pointer none) 1 8 rfl Try.underlying55 info_lease rfl (by omega) (by omega) (by rfl) (b := V3.heap.size + 1) (c := 1) (by rfl) (vs := [.pointer (some ⟨V3.heap.size, 0, none⟩)]) (by have := (blk_new (V3.alloc (.cells #[.int .i64 l, .int .i64 A.ct, .int .i64 z, .int .i64 (A.se + 1000 * A.ti), .int .i64 z, .int .i64 0] 64)) [.pointer (some ⟨V3.heap.size, 0, none⟩)] 60).drew; simpa using this) rfl (one_ptr _) ?_
  intro q cap w5 hq hq1 hc1 hc2 hb5
  refine hK.out _ _ ?_ (fun hHeld3 => ?_)
  · exact fun h => absurd h (by decide)
  clear hK K
  try simp only [Act.put, List.setIfInBounds_toArray, List.set_cons_zero, List.set_cons_succ]
  refine Stg.wpAnyL_free (i := 22) (v := ?_) 1 rfl (by kernel_rfl) (by kernel_rfl) (by kernel_rfl) (by kernel_rfl) (by kernel_rfl) (fun _ _ _ h => h) (Or.inl ⟨by kernel_rfl, ?_⟩) (by assumption) ?_
  rotate_left
  · intro u _
    try simp only [List.getElem_toArray, List.getElem_cons_succ, List.getElem_cons_zero]
    go_simp
    try with_reducible rfl
  try simp only [Act.put, List.setIfInBounds_toArray, List.set_cons_zero, List.set_cons_succ]
  refine Stg.wpAnyL_free (i := 23) (v := ?_) 1 rfl (by kernel_rfl) (by kernel_rfl) (by kernel_rfl) (by kernel_rfl) (by kernel_rfl) (fun _ _ _ h => h) (Or.inl ⟨by kernel_rfl, ?_⟩) (by assumption) ?_
  rotate_left
  · intro u _
    try simp only [List.getElem_toArray, List.getElem_cons_succ, List.getElem_cons_zero]
    go_simp
    try with_reducible rfl
  try simp only [Act.put, List.setIfInBounds_toArray, List.set_cons_zero, List.set_cons_succ]
  refine Stg.wpAnyL_start (n' := 1) (l' := #[true, true, true, true, true, true, true, true, true, true, true, true, true, true, true, true, true, true, true, true, true, true, true, true, false]) (by kernel_rfl) (by kernel_rfl) ?_
  refine Stg.wpAnyL_one (i := 24) 2 rfl (by kernel_rfl) (by kernel_rfl) (fun K hK => ?_)
  have hA1 := (Below.refl V3.heap.size V3).alloc (Nat.le_refl _) (.cells #[.int .i64 l, .int .i64 A.ct, .int .i64 z, .int .i64 (A.se + 1000 * A.ti), .int .i64 z, .int .i64 0] 64)
  have hA := (hA1.alloc (by simp) (.cells #[.pointer (some ⟨V3.heap.size, 0, none⟩)] 60)).drew
  have hA2 := ((Below.refl (V3.alloc (.cells #[.int .i64 l, .int .i64 A.ct, .int .i64 z, .int .i64 (A.se + 1000 * A.ti), .int .i64 z, .int .i64 0] 64)).heap.size _).alloc (Nat.le_refl _) (.cells #[.pointer (some ⟨V3.heap.size, 0, none⟩)] 60)).drew
  have hL := hA.size
  have hB5 := hA.trans (hb5.mono hL)
  have hL2 : V3.heap.size + 2 ≤ q := by have := hq1; simp at this; omega
  have g5 := g4.out.bel hB5
  have lb5 := ((blk_new V3 [.int .i64 l, .int .i64 A.ct, .int .i64 z, .int .i64 (A.se + 1000 * A.ti), .int .i64 z, .int .i64 0] 64).bel hA2).bel hb5
  have k5 := hB4.out.trans (Kp.of hB5)
  have c19' := g5.b.c 19 _ rfl
  have f19' := g5.b.f 19
  have la := g4.out.b.l
  have mw3 := g4.out.mw
  have fin : AgL m (w5.setCell ⟨a, 19, none⟩ (.slice (some ⟨q, 0, none⟩) 1 cap)) a (told1 A n) q V3.heap.size cap { id := l, ten := A.ct, left := z, til := A.se + 1000 * A.ti, size := z, told := 0 } :=
    ⟨g5.b.set (i := 19) (show 19 < 21 by omega) _, hq.other (by omega) _, lb5.other (by omega) _, g5.ma, (fun hm => by have := mw3 _ hm; omega), (fun hm => by have := mw3 _ hm; omega), mwS g5.mw, by omega, by omega, by omega, hc1, hc2⟩
  have kfin := k5.setCell (p := ⟨a, 19, none⟩) g5.ma (.slice (some ⟨q, 0, none⟩) 1 cap)
  replace fin := Lib.hid fin
  replace kfin := Lib.hid kfin
  clear hA1 hA hA2 hL hB5 hL2 g5 lb5 k5 la mw3 hq hq1 hc1 hc2 hb5 g4 hB4 ab4 c1 c8 c14 c18 c19 c20 z0 z3 z4
  try simp only [List.getElem_toArray, List.getElem_cons_succ, List.getElem_cons_zero]
  go_simp
  refine hK.out _ _ ?_ (fun hHeld4 => ?_)
  · exact fun h => absurd h (by decide)
  clear hK K
  try simp only [Act.put, List.setIfInBounds_toArray, List.set_cons_zero, List.set_cons_succ]
  refine Stg.wpAnyL_done (by kernel_rfl) ?_ _
  try simp only [List.getElem_toArray, List.getElem_cons_succ, List.getElem_cons_zero]
  try simp only [Act.put, List.setIfInBounds_toArray, List.set_cons_zero, List.set_cons_succ]
  refine NoPanic.normal ?_
  go_wp2_with fail
  go_ret
  exact ⟨_, _, _, rfl, fin.out, kfin.out⟩
end Go.Proofs.Ytldknmcnmhdgfaa
