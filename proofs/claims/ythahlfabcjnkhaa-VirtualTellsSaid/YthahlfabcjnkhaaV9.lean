/- Virtual time: two flows of one weight. -/
import Derived.Test.YthahlfabcjnkhaaV8
namespace Go.Proofs.Ythahlfabcjnkhaa
open Go.ChangeShapes Go.WideShapes Go.ChangeAt Go.RowKit
set_option linter.unusedVariables false
set_option linter.unusedSimpArgs false
open BigFrame Vr Pk Fq

namespace Vr
theorem blk_new (u : World) (x y : Value) (t : TypeId) : Blk (u.alloc (.cells #[x, y] t)) u.heap.size [x, y] := ⟨fun i z hz => by
    rcases i with _ | _ | i
    · simp at hz; subst hz; go_simp
    · simp at hz; subst hz; go_simp
    · simp at hz, fun o => by go_simp, by simp⟩
theorem cost_two : costI 100 1 2 = 144144000 := by unfold costI; rw [if_neg (by omega)]; rfl
def z2 : Nat → Int := fun _ => 0
def s2 : Nat → Int := fun _ => 0
def f1 : Nat → Int := fun i => if i = 0 then 144144000 else 0
def f2 : Nat → Int := fun i => if i ≤ 1 then 144144000 else 0
theorem tag_one : tagR 0 2 z2 z2 0 144144000 (max (z2 (0 : Int).toNat) 0) = ⟨0, 2, z2, f1, 0⟩ := by
  unfold tagR
  rw [if_pos ⟨⟨by omega, by omega, by omega, fun i hi => by unfold z2; omega⟩, by omega, by omega, by omega, by unfold z2; simp⟩]
  congr 1
  · funext i; unfold z2; simp
theorem tag_two : tagR 0 2 z2 f1 1 144144000 (max (f1 (1 : Int).toNat) 0) = ⟨0, 2, z2, f2, 0⟩ := by
  unfold tagR
  rw [if_pos ⟨⟨by omega, by omega, by omega, fun i hi => by unfold z2 f1; split <;> omega⟩, by omega, by omega, by omega, by unfold f1; simp⟩]
  congr 1
  · funext i; unfold z2 f1; simp
  · funext i; unfold f1 f2
    simp
    by_cases h : i = 1
    · subst h; simp
    · by_cases h0 : i = 0
      · subst h0; simp
      · rw [if_neg h, if_neg h0, if_neg (by omega)]
theorem pick_two : pickR 0 2 z2 f2 2 (fun _ => true) = ⟨0, 2, z2, f2, 0, true⟩ := by
  have h1 : leastK z2 (fun _ => true) 2 = 0 := by simp [leastK, z2]
  unfold pickR
  rw [if_pos ⟨⟨by omega, by omega, by omega, fun i hi => by unfold z2 f2; rw [if_pos (by omega)]; omega⟩, rfl, by rw [h1]; omega⟩, h1]
  congr 1
theorem ok_two : VOk 0 2 z2 f2 := ⟨by omega, by omega, by omega, fun i hi => by unfold z2 f2; rw [if_pos (by omega)]; omega⟩
end Vr

set_option maxRecDepth 100000 in
set_option maxHeartbeats 4000000 in
theorem wakes25_c (w : World) :
    Calls Try.prog 29 #[] w fun e w' => e = .returned (.bool true) ∧ Below w.heap.size w w' := by
  have c1 : ∀ W (a : Option Addr) (b off c : Nat), TagsAt W a b off 2 z2 z2 → Calls Try.prog 39 #[.agg #[.int .i64 0, .slice a 2 c], .int .i64 0, .int .i64 100, .int .i64 1, .int .i64 2] W (VirP 0 2 z2 f1 0 W) := fun W a b off c T => by
    have q := vwake_c 0 0 100 1 2 2 a b off c z2 z2 W T (by omega)
    rw [cost_two, tag_one] at q
    exact q
  have c2 : ∀ W (a : Option Addr) (b off c : Nat), TagsAt W a b off 2 z2 f1 → Calls Try.prog 39 #[.agg #[.int .i64 0, .slice a 2 c], .int .i64 1, .int .i64 100, .int .i64 1, .int .i64 2] W (VirP 0 2 z2 f2 0 W) := fun W a b off c T => by
    have q := vwake_c 0 1 100 1 2 2 a b off c z2 f1 W T (by omega)
    rw [cost_two, tag_two] at q
    exact q
  have c3 : ∀ W (a ar : Option Addr) (b off c rb ro cr : Nat), TagsAt W a b off 2 z2 f2 → BoolsAt W ar rb ro 2 (fun _ => true) → Calls Try.prog 31 #[.agg #[.int .i64 0, .slice a 2 c], .slice ar 2 cr] W (PickP ⟨0, 2, z2, f2, 0, true⟩ W) := fun W a ar b off c rb ro cr T BR => by
    have q := vpick_c 0 a ar b off 2 c rb ro 2 cr z2 f2 (fun _ => true) W T (by omega) BR
    rw [pick_two] at q
    exact q
  have c4 := fun W => vcost_c 100 1 2 W
  rw [cost_two] at c4
  replace c1 := Lib.hid c1
  replace c2 := Lib.hid c2
  replace c3 := Lib.hid c3
  replace c4 := Lib.hid c4
  go_enter Try.func29, Try.ntmps29
  go_wp2_with fail
  refine (vnew_ok 2 w (by omega) (by omega)).mono ?_
  rintro e w1 ⟨a1, g1, k1, rfl, T1, hg1, hb1⟩
  obtain rfl := T1.ha (by omega)
  have hq1 := hg1 (by omega)
  go_wp2_with fail
  have T1' := T1.bel ((Below.refl w1.heap.size w1).alloc (Nat.le_refl _) (.cells #[.int .i64 0, .slice (some ⟨g1, 0, none⟩) 2 k1] 43))
  have bv1 := blk_new w1 (.int .i64 0) (.slice (some ⟨g1, 0, none⟩) 2 k1) 43
  have hB1 := hb1.alloc hb1.size (.cells #[.int .i64 0, .slice (some ⟨g1, 0, none⟩) 2 k1] 43)
  have hs1 := hb1.size
  refine (c1.out _ _ g1 0 k1 T1').mono ?_
  rintro e w2 ⟨a2, g2, k2, rfl, T2, hg2, hb2⟩
  obtain rfl := T2.ha (by omega)
  replace hg2 := hg2 (by omega)
  obtain ⟨vb, hvb⟩ : ∃ vb, w1.heap.size = vb := ⟨_, rfl⟩
  rw [World.size_alloc] at hg2
  rw [hvb] at bv1 hg2 hs1 ⊢
  have bv2 := bv1.bel hb2
  have hB2 := bNext hB1 hb2 (Nat.le_refl _)
  clear bv1 T1' hB1 T1 hg1 hb1 c1 hq1
  have p0 := bv2.c 0 _ rfl
  have p1 := bv2.c 1 _ rfl
  have p2 := bv2.f 0
  have p3 := bv2.f 1
  clear hb2 hvb
  go_wp2_with fail
  have bv3 := (bv2.set (i := 0) (by simp) (.int .i64 0)).set (i := 1) (by simp) (.slice (some ⟨g2, 0, none⟩) 2 k2)
  have T3 := (T2.set_other (q := vb) (o := 0) (fun _ => by omega) (.int .i64 0)).set_other (q := vb) (o := 1) (fun _ => by omega) (.slice (some ⟨g2, 0, none⟩) 2 k2)
  have hB3 := (hB2.setCell (p := ⟨vb, 0, none⟩) hs1 (.int .i64 0)).setCell (p := ⟨vb, 1, none⟩) hs1 (.slice (some ⟨g2, 0, none⟩) 2 k2)
  clear p0 p1 p2 p3 bv2 T2 hB2
  generalize (w2.setCell ⟨vb, 0, none⟩ (.int .i64 0)).setCell ⟨vb, 1, none⟩ (.slice (some ⟨g2, 0, none⟩) 2 k2) = W3 at bv3 T3 hB3 ⊢
  refine (c2.out _ _ g2 0 k2 T3).mono ?_
  rintro e w4 ⟨a4, g4, k4, rfl, T4, hg4, hb4⟩
  obtain rfl := T4.ha (by omega)
  have hB4 := bNext hB3 hb4 (Nat.le_refl _)
  have hs4 := hB4.size
  clear bv3 T3 hB3 hb4 c2 hg4 hg2 hs1
  go_upto_region 8 with fail
  have bv4 := blk_new w4 (.int .i64 0) (.slice (some ⟨g4, 0, none⟩) 2 k4) 43
  have T4' := T4.bel ((Below.refl w4.heap.size w4).alloc (Nat.le_refl _) (.cells #[.int .i64 0, .slice (some ⟨g4, 0, none⟩) 2 k4] 43))
  have hB4' := hB4.alloc hs4 (.cells #[.int .i64 0, .slice (some ⟨g4, 0, none⟩) 2 k4] 43)
  clear T4 hB4
  generalize w4.alloc (.cells #[.int .i64 0, .slice (some ⟨g4, 0, none⟩) 2 k4] 43) = W4 at bv4 T4' hB4' ⊢
  generalize w4.heap.size = wb at bv4 hs4 ⊢
  have p0 := bv4.c 0 _ rfl
  have p1 := bv4.c 1 _ rfl
  go_wp2_with fail
  have hbb := (Below.refl W4.heap.size W4).alloc (Nat.le_refl _) (.cells #[.bool true, .bool true] 4)
  have BR : BoolsAt (W4.alloc (.cells #[.bool true, .bool true] 4)) (some ⟨W4.heap.size, 0, none⟩) W4.heap.size 0 2 (fun _ => true) := ⟨fun _ => rfl, fun _ => by simp, fun i hi => by
    have : i = 0 ∨ i = 1 := by omega
    rcases this with rfl | rfl <;> go_simp⟩
  have hB5 := bNext hB4' hbb (Nat.le_refl _)
  have T5 := T4'.bel hbb
  have bv5 := bv4.bel hbb
  clear p0 p1 bv4 T4' hB4' hbb
  refine (c3.out _ _ _ g4 0 k4 _ 0 2 T5 BR).mono ?_
  rintro e w6 ⟨a6, g6, k6, rfl, T6, hg6, hb6⟩
  obtain rfl := T6.ha (by show 0 < 2; omega)
  replace hg6 := hg6 (by show 0 < 2; omega)
  have bv6 := bv5.bel hb6
  have hB6 := bNext hB5 hb6 (Nat.le_refl _)
  have hgl := bv5.l
  clear BR T5 bv5 hB5 c3 hb6
  have p0 := bv6.c 0 _ rfl
  have p1 := bv6.c 1 _ rfl
  have p2 := bv6.f 0
  have p3 := bv6.f 1
  have bv7 := (bv6.set (i := 0) (by simp) (.int .i64 0)).set (i := 1) (by simp) (.slice (some ⟨g6, 0, none⟩) 2 k6)
  have T7 : TagsAt ((w6.setCell ⟨wb, 0, none⟩ (.int .i64 0)).setCell ⟨wb, 1, none⟩ (.slice (some ⟨g6, 0, none⟩) 2 k6)) (some ⟨g6, 0, none⟩) g6 0 2 z2 f2 := (T6.set_other (q := wb) (o := 0) (fun _ => by omega) (.int .i64 0)).set_other (q := wb) (o := 1) (fun _ => by omega) (.slice (some ⟨g6, 0, none⟩) 2 k6)
  have hB7 := (hB6.setCell (p := ⟨wb, 0, none⟩) hs4 (.int .i64 0)).setCell (p := ⟨wb, 1, none⟩) hs4 (.slice (some ⟨g6, 0, none⟩) 2 k6)
  clear bv6 T6 hB6 hg6 hgl
  go_upto_region 9 with fail
  clear p0 p1 p2 p3
  generalize (w6.setCell ⟨wb, 0, none⟩ (.int .i64 0)).setCell ⟨wb, 1, none⟩ (.slice (some ⟨g6, 0, none⟩) 2 k6) = W7 at bv7 T7 hB7 ⊢
  have p0 := bv7.c 0 _ rfl
  have p1 := bv7.c 1 _ rfl
  go_wp2_with fail
  refine (c4.out _).mono ?_
  rintro e w8 ⟨rfl, rfl⟩
  go_wp2_with fail
  refine (vcheck_ok 0 _ g6 0 2 k6 z2 f2 _ T7 ok_two).mono ?_
  rintro e w9 ⟨rfl, hb9⟩
  go_wp2_with fail
  go_ret
  exact ⟨rfl, bNext hB7 hb9 (Nat.le_refl _)⟩
end Go.Proofs.Ythahlfabcjnkhaa
