/- What VirtualPicks says: the walk. -/
import Derived.Test.YthahlfabcjnkhaaV15
namespace Go.Proofs.Ythahlfabcjnkhaa
open Go.ChangeShapes Go.WideShapes Go.ChangeAt Go.RowKit
set_option linter.unusedVariables false
set_option linter.unusedSimpArgs false
open BigFrame Vr Pk Fq

namespace Vr
theorem pickR_N (V : Int) (N : Nat) (S F : Nat → Int) (n : Nat) (R : Nat → Bool) : (pickR V N S F n R).N ≤ N := by
  unfold pickR
  split
  · exact Nat.le_refl _
  · exact Nat.zero_le _
def PickQ (V : Int) (N : Nat) (S F : Nat → Int) (k : Int) (ok : Bool) (w : World) (e : Ending) (w' : World) : Prop :=
  ∃ (a' : Option Addr) (g c' : Nat), e = .returned (.tuple #[.agg #[.int .i64 V, .slice a' N c'], .int .i64 k, .bool ok]) ∧ TagsAt w' a' g 0 N S F ∧ (0 < N → w.heap.size ≤ g) ∧ Below w.heap.size w w'
end Vr

set_option maxRecDepth 100000 in
set_option maxHeartbeats 4000000 in
theorem vpicks_h (w : World) (V size : Int) (a ar : Option Addr) (b off N c rb ro n cr : Nat) (S F : Nat → Int) (R : Nat → Bool) (T : TagsAt w a b off N S F) (BR : BoolsAt w ar rb ro n R) :
    Calls Try.prog 12 #[.agg #[.int .i64 V, .slice a N c], .slice ar n cr, .int .i64 size] w fun e w' => e = .returned (.bool true) ∧ Below w.heap.size w w' := by
  have bv0 := blk_new w (.int .i64 V) (.slice a N c) 43
  have hB0 : Below w.heap.size w (w.alloc (.cells #[.int .i64 V, .slice a N c] 43)) := (Below.refl _ _).alloc (Nat.le_refl _) _
  have hgr := great25_c V a N c (w.alloc (.cells #[.int .i64 V, .slice a N c] 43))
  by_cases hg : 50 < N
  · rw [decide_eq_true (by omega)] at hgr
    go_enter Try.func12, Try.ntmps12
    go_wp2_with fail
    refine hgr.mono ?_
    rintro e w1 ⟨rfl, hb1⟩
    have hB1 := bNext hB0 hb1 (by simp)
    clear bv0 hB0 hgr hb1
    go_wp2_with fail
    refine (wakes25_c _).mono ?_
    rintro e w2 ⟨rfl, hb2⟩
    go_wp2_with fail
    go_ret
    exact ⟨rfl, bNext hB1 hb2 (Nat.le_refl _)⟩
  rw [decide_eq_false (by omega)] at hgr
  by_cases hn : (60 : Int) < (n : Int)
  · go_enter Try.func12, Try.ntmps12
    go_wp2_with fail
    refine hgr.mono ?_
    rintro e w1 ⟨rfl, hb1⟩
    have hB1 := bNext hB0 hb1 (by simp)
    clear bv0 hB0 hgr hb1
    go_wp2_with fail
    refine (wakes25_c _).mono ?_
    rintro e w2 ⟨rfl, hb2⟩
    go_wp2_with fail
    go_ret
    exact ⟨rfl, bNext hB1 hb2 (Nat.le_refl _)⟩
  have hN1 := pickR_N V N S F n R
  have hN2 := serveR_N V N S F size
  have c1 := fun W (hW : Below w.heap.size w W) => vpick_c V a ar b off N c rb ro n cr S F R W (T.bel hW) (by omega) (BR.bel hW)
  have c2 := fun W (hW : Below w.heap.size w W) => rpick_c V a ar b off N c rb ro n cr S F R W (T.bel hW) (by omega) (BR.bel hW)
  have c3 := fun W (hW : Below w.heap.size w W) => vserve_c V size N a b off c S F W (T.bel hW) (by omega)
  have c4 := fun W (hW : Below w.heap.size w W) => rserve_c V size N a b off c S F W (T.bel hW) (by omega)
  generalize pickR V N S F n R = R1 at c1 c2 hN1
  generalize serveR V N S F size = R2 at c3 c4 hN2
  have hR1 : R1.N ≤ 1000 := by omega
  have hR2 : R2.N ≤ 1000 := by omega
  obtain ⟨V1, N1, S1, F1, K1, O1⟩ := R1
  obtain ⟨V2, N2, S2, F2, X2⟩ := R2
  replace c1 : Hid (∀ W, Below w.heap.size w W → Calls Try.prog 31 #[.agg #[.int .i64 V, .slice a N c], .slice ar n cr] W (PickQ V1 N1 S1 F1 K1 O1 W)) := Lib.hid c1
  replace c2 : Hid (∀ W, Below w.heap.size w W → Calls Try.prog 45 #[.agg #[.int .i64 V, .slice a N c], .slice ar n cr] W (PickQ V1 N1 S1 F1 K1 O1 W)) := Lib.hid c2
  replace c3 : Hid (∀ W, Below w.heap.size w W → Calls Try.prog 46 #[.agg #[.int .i64 V, .slice a N c], .int .i64 size] W (VirP V2 N2 S2 F2 X2 W)) := Lib.hid c3
  replace c4 : Hid (∀ W, Below w.heap.size w W → Calls Try.prog 47 #[.agg #[.int .i64 V, .slice a N c], .int .i64 size] W (VirP V2 N2 S2 F2 X2 W)) := Lib.hid c4
  clear hN1 hN2 hg
  replace hR1 : N1 ≤ 1000 := hR1
  replace hR2 : N2 ≤ 1000 := hR2
  replace T := Lib.hid T
  replace BR := Lib.hid BR
  go_enter Try.func12, Try.ntmps12
  go_wp2_with fail
  refine hgr.mono ?_
  rintro e w1 ⟨rfl, hb1⟩
  have hB1 := bNext hB0 hb1 (by simp)
  have bv1 := bv0.bel hb1
  clear bv0 hB0 hgr hb1
  have p0 := bv1.c 0 _ rfl
  have p1 := bv1.c 1 _ rfl
  go_wp2_with fail
  refine (c1.out w1 hB1).mono ?_
  rintro e x1 ⟨a1, g1, k1, rfl, T1, _, hb1⟩
  replace bv1 := bv1.bel hb1
  replace hB1 := bNext hB1 hb1 (Nat.le_refl _)
  have hd1 := (Below.refl x1.heap.size x1).alloc (Nat.le_refl _) (.cells #[.int .i64 V1, .slice a1 N1 k1] 43)
  replace bv1 := bv1.bel hd1
  replace hB1 := bNext hB1 hd1 (Nat.le_refl _)
  replace T1 := T1.bel hd1
  have bk1 := blk_new x1 (.int .i64 V1) (.slice a1 N1 k1) 43
  clear p0 p1 hb1 hd1 c1
  go_upto_region 4 with fail
  generalize x1.alloc (.cells #[.int .i64 V1, .slice a1 N1 k1] 43) = U1 at bv1 hB1 bk1 T1 ⊢
  generalize x1.heap.size = y1 at bk1 ⊢
  have p0 := bv1.c 0 _ rfl
  have p1 := bv1.c 1 _ rfl
  go_wp2_with fail
  refine (c2.out U1 hB1).mono ?_
  rintro e x2 ⟨a2, g2, k2, rfl, T2, _, hb2⟩
  replace bv1 := bv1.bel hb2
  replace hB1 := bNext hB1 hb2 (Nat.le_refl _)
  replace bk1 := bk1.bel hb2
  replace T1 := T1.bel hb2
  have hd2 := (Below.refl x2.heap.size x2).alloc (Nat.le_refl _) (.cells #[.int .i64 V1, .slice a2 N1 k2] 43)
  replace bv1 := bv1.bel hd2
  replace hB1 := bNext hB1 hd2 (Nat.le_refl _)
  replace T2 := T2.bel hd2
  have bk2 := blk_new x2 (.int .i64 V1) (.slice a2 N1 k2) 43
  replace bk1 := bk1.bel hd2
  replace T1 := T1.bel hd2
  clear p0 p1 hb2 hd2 c2
  go_upto_region 5 with fail
  generalize x2.alloc (.cells #[.int .i64 V1, .slice a2 N1 k2] 43) = U2 at bv1 hB1 bk1 T1 bk2 T2 ⊢
  generalize x2.heap.size = y2 at bk2 ⊢
  have p0 := bv1.c 0 _ rfl
  have p1 := bv1.c 1 _ rfl
  go_wp2_with fail
  refine (c3.out U2 hB1).mono ?_
  rintro e x3 ⟨a3, g3, k3, rfl, T3, _, hb3⟩
  replace bv1 := bv1.bel hb3
  replace hB1 := bNext hB1 hb3 (Nat.le_refl _)
  replace bk1 := bk1.bel hb3
  replace T1 := T1.bel hb3
  replace bk2 := bk2.bel hb3
  replace T2 := T2.bel hb3
  have hd3 := (Below.refl x3.heap.size x3).alloc (Nat.le_refl _) (.cells #[.int .i64 V2, .slice a3 N2 k3] 43)
  replace bv1 := bv1.bel hd3
  replace hB1 := bNext hB1 hd3 (Nat.le_refl _)
  replace T3 := T3.bel hd3
  have bk3 := blk_new x3 (.int .i64 V2) (.slice a3 N2 k3) 43
  replace bk1 := bk1.bel hd3
  replace T1 := T1.bel hd3
  replace bk2 := bk2.bel hd3
  replace T2 := T2.bel hd3
  clear p0 p1 hb3 hd3 c3
  go_upto_region 6 with fail
  generalize x3.alloc (.cells #[.int .i64 V2, .slice a3 N2 k3] 43) = U3 at bv1 hB1 bk1 T1 bk2 T2 bk3 T3 ⊢
  generalize x3.heap.size = y3 at bk3 ⊢
  have p0 := bv1.c 0 _ rfl
  have p1 := bv1.c 1 _ rfl
  go_wp2_with fail
  refine (c4.out U3 hB1).mono ?_
  rintro e x4 ⟨a4, g4, k4, rfl, T4, _, hb4⟩
  replace bv1 := bv1.bel hb4
  replace hB1 := bNext hB1 hb4 (Nat.le_refl _)
  replace bk1 := bk1.bel hb4
  replace T1 := T1.bel hb4
  replace bk2 := bk2.bel hb4
  replace T2 := T2.bel hb4
  replace bk3 := bk3.bel hb4
  replace T3 := T3.bel hb4
  have hd4 := (Below.refl x4.heap.size x4).alloc (Nat.le_refl _) (.cells #[.int .i64 V2, .slice a4 N2 k4] 43)
  replace bv1 := bv1.bel hd4
  replace hB1 := bNext hB1 hd4 (Nat.le_refl _)
  replace T4 := T4.bel hd4
  have bk4 := blk_new x4 (.int .i64 V2) (.slice a4 N2 k4) 43
  replace bk1 := bk1.bel hd4
  replace T1 := T1.bel hd4
  replace bk2 := bk2.bel hd4
  replace T2 := T2.bel hd4
  replace bk3 := bk3.bel hd4
  replace T3 := T3.bel hd4
  clear p0 p1 hb4 hd4 c4
  go_upto_region 7 with fail
  generalize x4.alloc (.cells #[.int .i64 V2, .slice a4 N2 k4] 43) = U4 at bv1 hB1 bk1 T1 bk2 T2 bk3 T3 bk4 T4 ⊢
  generalize x4.heap.size = y4 at bk4 ⊢
  have q0 := bk1.c 0 _ rfl
  have q1 := bk1.c 1 _ rfl
  have q2 := bk2.c 0 _ rfl
  have q3 := bk2.c 1 _ rfl
  go_wp2_with fail
  refine (rsame25_c V1 a1 a2 g1 0 g2 0 N1 k1 k2 S1 F1 U4 T1 T2 hR1).mono ?_
  rintro e z1 ⟨rfl, hz1⟩
  replace bk3 := bk3.bel hz1
  replace bk4 := bk4.bel hz1
  replace T3 := T3.bel hz1
  replace T4 := T4.bel hz1
  replace hB1 := bNext hB1 hz1 (Nat.le_refl _)
  clear q0 q1 q2 q3 hz1 bk1 bk2 T1 T2 bv1
  have q0 := bk3.c 0 _ rfl
  have q1 := bk3.c 1 _ rfl
  have q2 := bk4.c 0 _ rfl
  have q3 := bk4.c 1 _ rfl
  go_wp2_with fail
  refine (rsame25_c V2 a3 a4 g3 0 g4 0 N2 k3 k4 S2 F2 z1 T3 T4 hR2).mono ?_
  rintro e z2 ⟨rfl, hz2⟩
  replace hB1 := bNext hB1 hz2 (Nat.le_refl _)
  clear q0 q1 q2 q3 hz2 bk3 bk4 T3 T4
  go_wp2_with fail
  refine (wakes25_c _).mono ?_
  rintro e z3 ⟨rfl, hz3⟩
  go_wp2_with fail
  go_ret
  exact ⟨rfl, bNext hB1 hz3 (Nat.le_refl _)⟩

theorem virtualPicks_walk (w : World) (v0 : Value) (a0 : XT_Virtual) (v1 : Value) (a1 : XT_Lbool) (a2 : Int) (w0 : Is_Virtual w v0 a0) (w1 : Is_Lbool w v1 a1) (w2 : (Lit.int .i64 a2).wf = true) :
    Calls Try.prog 12 #[v0, v1, .int .i64 a2] w fun e w' => e = .returned (.bool true) ∧ Below w.heap.size w w' := by
  obtain ⟨rfl, _, _, _, T, _⟩ := w0
  obtain ⟨rfl, _, _, BR⟩ := w1
  exact vpicks_h w a0.V a2 a0.a a1.a a0.b a0.off a0.n a0.cap a1.b a1.off a1.n a1.cap a0.S a0.F a1.R T BR
end Go.Proofs.Ythahlfabcjnkhaa
