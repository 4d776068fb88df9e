/- The walk of FifoSame. -/
import Derived.Test.YthahlfabcjnkhaaQ13
import Derived.Test.YthahlfabcjnkhaaPkOpen
namespace Go.Proofs.Ythahlfabcjnkhaa
open Go.ChangeShapes Go.WideShapes Go.ChangeAt Go.RowKit
set_option linter.unusedVariables false
set_option linter.unusedSimpArgs false
open Pk BigFrame Fq

namespace Fq
/-- What the last statement of FifoSame leans on. -/
def S24 (w : World) (x1 t1 C1 : Int) (l1 : Value) (x2 t2 C2 : Int) (l2 : Value) (u : World) : Prop :=
  u.cell? ⟨w.heap.size, 0, none⟩ = some (.int .i64 x1) ∧ u.cell? ⟨w.heap.size, 1, none⟩ = some (.int .i64 t1) ∧ u.cell? ⟨w.heap.size, 2, none⟩ = some (.int .i64 C1) ∧ u.cell? ⟨w.heap.size, 3, none⟩ = some l1 ∧
  u.cell? ⟨w.heap.size + 1, 0, none⟩ = some (.int .i64 x2) ∧ u.cell? ⟨w.heap.size + 1, 1, none⟩ = some (.int .i64 t2) ∧ u.cell? ⟨w.heap.size + 1, 2, none⟩ = some (.int .i64 C2) ∧ u.cell? ⟨w.heap.size + 1, 3, none⟩ = some l2 ∧ Below w.heap.size w u
theorem S24.below {w : World} {x1 t1 C1 : Int} {l1 : Value} {x2 t2 C2 : Int} {l2 : Value} {u u' : World} (h : S24 w x1 t1 C1 l1 x2 t2 C2 l2 u) (k : Below u.heap.size u u') : S24 w x1 t1 C1 l1 x2 t2 C2 l2 u' := by
  obtain ⟨h0, h1, h2, h3, g0, g1, g2, g3, hb⟩ := h
  have p : w.heap.size < u.heap.size := World.block_lt_of_cell? _ _ h0
  have q : w.heap.size + 1 < u.heap.size := World.block_lt_of_cell? _ _ g0
  exact ⟨(k.cell (p := ⟨_, 0, none⟩) p).trans h0, (k.cell (p := ⟨_, 1, none⟩) p).trans h1, (k.cell (p := ⟨_, 2, none⟩) p).trans h2, (k.cell (p := ⟨_, 3, none⟩) p).trans h3, (k.cell (p := ⟨_, 0, none⟩) q).trans g0, (k.cell (p := ⟨_, 1, none⟩) q).trans g1, (k.cell (p := ⟨_, 2, none⟩) q).trans g2, (k.cell (p := ⟨_, 3, none⟩) q).trans g3, bNext hb k (Nat.le_refl _)⟩
theorem S24.bel {w : World} {x1 t1 C1 : Int} {l1 : Value} {x2 t2 C2 : Int} {l2 : Value} {u : World} (h : S24 w x1 t1 C1 l1 x2 t2 C2 l2 u) : Below w.heap.size w u := h.2.2.2.2.2.2.2.2
theorem sameB_refl (x t C : Int) (n : Nat) (f : Nat → Nat) : sameB x t C n f x t C n f = true := by
  unfold sameB eqL
  rw [if_pos ⟨rfl, rfl, rfl⟩]
  exact decide_eq_true ⟨rfl, fun _ _ => rfl⟩
end Fq

set_option maxRecDepth 100000 in
set_option maxHeartbeats 8000000 in
theorem fsame_h (w : World) (x1 t1 C1 : Int) (a1 : Option Addr) (n1 c1 : Nat) (f1 : Nat → Nat) (x2 t2 C2 : Int) (a2 : Option Addr) (n2 c2 : Nat) (f2 : Nat → Nat) (h1 : LoadAt w a1 n1 c1 f1) (h2 : LoadAt w a2 n2 c2 f2) :
    Calls Try.prog 19 #[.agg #[.int .i64 x1, .int .i64 t1, .int .i64 C1, .slice a1 n1 c1], .agg #[.int .i64 x2, .int .i64 t2, .int .i64 C2, .slice a2 n2 c2]] w fun e w' => e = .returned (.bool true) ∧ Below w.heap.size w w' := by
  obtain ⟨E, hE⟩ : ∃ E, sameB x1 t1 C1 n1 f1 x2 t2 C2 n2 f2 = E := ⟨_, rfl⟩
  have cAB := fun u (hu : Below w.heap.size w u) => same24_c x1 t1 C1 a1 n1 c1 f1 x2 t2 C2 a2 n2 c2 f2 u (h1.below hu) (h2.below hu)
  have rAB := fun u (hu : Below w.heap.size w u) => rsame24_c x1 t1 C1 a1 n1 c1 f1 x2 t2 C2 a2 n2 c2 f2 u (h1.below hu) (h2.below hu)
  have cAA := fun u (hu : Below w.heap.size w u) => same24_c x1 t1 C1 a1 n1 c1 f1 x1 t1 C1 a1 n1 c1 f1 u (h1.below hu) (h1.below hu)
  rw [hE] at cAB rAB
  rw [sameB_refl] at cAA
  replace cAB := Lib.hid cAB
  replace rAB := Lib.hid rAB
  replace cAA := Lib.hid cAA
  clear h1 h2 hE
  have hB0 : Below w.heap.size w ((w.alloc (.cells #[.int .i64 x1, .int .i64 t1, .int .i64 C1, .slice a1 n1 c1] 25)).alloc (.cells #[.int .i64 x2, .int .i64 t2, .int .i64 C2, .slice a2 n2 c2] 25)) := ((Below.refl _ _).alloc (Nat.le_refl _) _).alloc (by simp) _
  have hS0 : S24 w x1 t1 C1 (.slice a1 n1 c1) x2 t2 C2 (.slice a2 n2 c2) ((w.alloc (.cells #[.int .i64 x1, .int .i64 t1, .int .i64 C1, .slice a1 n1 c1] 25)).alloc (.cells #[.int .i64 x2, .int .i64 t2, .int .i64 C2, .slice a2 n2 c2] 25)) := ⟨by go_simp, by go_simp, by go_simp, by go_simp, by go_simp, by go_simp, by go_simp, by go_simp, hB0⟩
  replace hS0 := Lib.hid hS0
  clear hB0
  go_enter Try.func19, Try.ntmps19
  go_wp2_with fail
  refine (npop_c _).mono ?_
  rintro e w2 ⟨rfl, hb2⟩
  have hS2 := Lib.hid ((hS0.out.below hb2).below ((Below.refl w2.heap.size w2).alloc (Nat.le_refl _) (.cells #[.int .i64 0, .int .i64 0, .int .i64 0, .slice none 0 0] 25)))
  clear hS0 hb2
  go_wp2_with fail
  refine (nhead_c _).mono ?_
  rintro e w3 ⟨rfl, hb3⟩
  have hS3 := (hS2.out.below hb3).below ((Below.refl w3.heap.size w3).alloc (Nat.le_refl _) (.cells #[.int .i64 0, .int .i64 0, .int .i64 0, .slice none 0 0] 25))
  clear hS2 hb3
  go_upto_region 4 with fail
  generalize w3.alloc (.cells #[.int .i64 0, .int .i64 0, .int .i64 0, .slice none 0 0] 25) = W at hS3 ⊢
  refine wp_region_noPanic ?_
  refine wp_region_held_drew (S := fun u => S24 w x1 t1 C1 (.slice a1 n1 c1) x2 t2 C2 (.slice a2 n2 c2) u) (by kernel_rfl) (hS3.below (Below.refl _ _).drew) (fun hHeld => ?_)
  refine wpAnyH_start2 (n' := 45) (l' := #[false, false, false, false, false, false, false, false, false, false, false, false, false, false, false, false, false, false, false, false, false, false, false, false, false, false, false, false, false, false, false, false, false, false, false, false, false, false, false, false, false, false, false, false, false]) (by kernel_rfl) (by kernel_rfl) ?_
  refine wpAnyH_take (i := 0) (v := ?_) rfl (by kernel_rfl) (by kernel_rfl) (by kernel_rfl) (fun _ _ _ h => h) (Or.inl ⟨by kernel_rfl, ?_⟩) (by assumption) ?_
  rotate_left
  · intro u hSu
    obtain ⟨s0, s1, s2, s3, r0, r1, r2, r3, hbw⟩ := hSu
    try simp only [List.getElem_toArray, List.getElem_cons_succ, List.getElem_cons_zero]
    go_simp
    try with_reducible rfl
  try simp only [Act.put, List.setIfInBounds_toArray, List.set_cons_zero, List.set_cons_succ]
  refine wpAnyH_take (i := 1) (v := ?_) rfl (by kernel_rfl) (by kernel_rfl) (by kernel_rfl) (fun _ _ _ h => h) (Or.inl ⟨by kernel_rfl, ?_⟩) (by assumption) ?_
  rotate_left
  · intro u hSu
    obtain ⟨s0, s1, s2, s3, r0, r1, r2, r3, hbw⟩ := hSu
    try simp only [List.getElem_toArray, List.getElem_cons_succ, List.getElem_cons_zero]
    go_simp
    try with_reducible rfl
  try simp only [Act.put, List.setIfInBounds_toArray, List.set_cons_zero, List.set_cons_succ]
  refine wpAnyH_take (i := 3) (v := ?_) rfl (by kernel_rfl) (by kernel_rfl) (by kernel_rfl) (fun _ _ _ h => h) (Or.inl ⟨by kernel_rfl, ?_⟩) (by assumption) ?_
  rotate_left
  · intro u hSu
    obtain ⟨s0, s1, s2, s3, r0, r1, r2, r3, hbw⟩ := hSu
    try simp only [List.getElem_toArray, List.getElem_cons_succ, List.getElem_cons_zero]
    go_simp
    try with_reducible rfl
  try simp only [Act.put, List.setIfInBounds_toArray, List.set_cons_zero, List.set_cons_succ]
  refine wpAnyH_start2 (n' := 42) (l' := #[true, true, false, true, false, false, false, false, false, false, false, false, false, false, false, false, false, false, false, false, false, false, false, false, false, false, false, false, false, false, false, false, false, false, false, false, false, false, false, false, false, false, false, false, false]) (by kernel_rfl) (by kernel_rfl) ?_
  refine wpAnyH_take (i := 4) (v := ?_) rfl (by kernel_rfl) (by kernel_rfl) (by kernel_rfl) (fun _ _ _ h => h) (Or.inl ⟨by kernel_rfl, ?_⟩) (by assumption) ?_
  rotate_left
  · intro u hSu
    obtain ⟨s0, s1, s2, s3, r0, r1, r2, r3, hbw⟩ := hSu
    try simp only [List.getElem_toArray, List.getElem_cons_succ, List.getElem_cons_zero]
    go_simp
    try with_reducible rfl
  try simp only [Act.put, List.setIfInBounds_toArray, List.set_cons_zero, List.set_cons_succ]
  refine wpAnyH_ready (rs := [2]) (by kernel_rfl) (by simp) ?_
  refine AllReadyH.cons rfl (fun K hK => ?_) AllReadyH.nil
  try simp only [List.getElem_toArray, List.getElem_cons_succ, List.getElem_cons_zero]
  go_simp
  refine (cAB.out _ (S24.bel hHeld)).mono ?_
  rintro e u1 ⟨rfl, hb1⟩
  try go_wp2_with fail
  refine hK.out _ _ ?_ (fun hHeld1 => ?_)
  · exact S24.below hHeld hb1
  clear hK K
  try simp only [Act.put, List.setIfInBounds_toArray, List.set_cons_zero, List.set_cons_succ]
  refine wpAnyH_ready (rs := [5]) (by kernel_rfl) (by simp) ?_
  refine AllReadyH.cons rfl (fun K hK => ?_) AllReadyH.nil
  try simp only [List.getElem_toArray, List.getElem_cons_succ, List.getElem_cons_zero]
  go_simp
  refine (rAB.out _ (S24.bel hHeld1)).mono ?_
  rintro e u2 ⟨rfl, hb2⟩
  try go_wp2_with fail
  refine hK.out _ _ ?_ (fun hHeld2 => ?_)
  · exact S24.below hHeld1 hb2
  clear hK K
  try simp only [Act.put, List.setIfInBounds_toArray, List.set_cons_zero, List.set_cons_succ]
  refine wpAnyH_start2 (n' := 39) (l' := #[true, true, true, true, true, true, false, false, false, false, false, false, false, false, false, false, false, false, false, false, false, false, false, false, false, false, false, false, false, false, false, false, false, false, false, false, false, false, false, false, false, false, false, false, false]) (by kernel_rfl) (by kernel_rfl) ?_
  refine wpAnyH_take (i := 6) (v := ?_) rfl (by kernel_rfl) (by kernel_rfl) (by kernel_rfl) (fun _ _ _ h => h) (Or.inl ⟨by kernel_rfl, ?_⟩) (by assumption) ?_
  rotate_left
  · intro u hSu
    obtain ⟨s0, s1, s2, s3, r0, r1, r2, r3, hbw⟩ := hSu
    try simp only [List.getElem_toArray, List.getElem_cons_succ, List.getElem_cons_zero]
    go_simp
    try with_reducible rfl
  try simp only [Act.put, List.setIfInBounds_toArray, List.set_cons_zero, List.set_cons_succ]
  refine wpAnyH_take (i := 7) (v := ?_) rfl (by kernel_rfl) (by kernel_rfl) (by kernel_rfl) (fun _ _ _ h => h) (Or.inl ⟨by kernel_rfl, ?_⟩) (by assumption) ?_
  rotate_left
  · intro u hSu
    obtain ⟨s0, s1, s2, s3, r0, r1, r2, r3, hbw⟩ := hSu
    try simp only [List.getElem_toArray, List.getElem_cons_succ, List.getElem_cons_zero]
    go_simp
    try with_reducible rfl
  try simp only [Act.put, List.setIfInBounds_toArray, List.set_cons_zero, List.set_cons_succ]
  refine wpAnyH_take (i := 8) (v := ?_) rfl (by kernel_rfl) (by kernel_rfl) (by kernel_rfl) (fun _ _ _ h => h) (Or.inl ⟨by kernel_rfl, ?_⟩) (by assumption) ?_
  rotate_left
  · intro u hSu
    obtain ⟨s0, s1, s2, s3, r0, r1, r2, r3, hbw⟩ := hSu
    try simp only [List.getElem_toArray, List.getElem_cons_succ, List.getElem_cons_zero]
    go_simp
    try with_reducible rfl
  try simp only [Act.put, List.setIfInBounds_toArray, List.set_cons_zero, List.set_cons_succ]
  refine wpAnyH_start2 (n' := 36) (l' := #[true, true, true, true, true, true, true, true, true, false, false, false, false, false, false, false, false, false, false, false, false, false, false, false, false, false, false, false, false, false, false, false, false, false, false, false, false, false, false, false, false, false, false, false, false]) (by kernel_rfl) (by kernel_rfl) ?_
  refine wpAnyH_take (i := 9) (v := ?_) rfl (by kernel_rfl) (by kernel_rfl) (by kernel_rfl) (fun _ _ _ h => h) (Or.inl ⟨by kernel_rfl, ?_⟩) (by assumption) ?_
  rotate_left
  · intro u hSu
    obtain ⟨s0, s1, s2, s3, r0, r1, r2, r3, hbw⟩ := hSu
    try simp only [List.getElem_toArray, List.getElem_cons_succ, List.getElem_cons_zero]
    go_simp
    try with_reducible rfl
  try simp only [Act.put, List.setIfInBounds_toArray, List.set_cons_zero, List.set_cons_succ]
  refine wpAnyH_ready (rs := [10]) (by kernel_rfl) (by simp) ?_
  refine AllReadyH.cons rfl (fun K hK => ?_) AllReadyH.nil
  try simp only [List.getElem_toArray, List.getElem_cons_succ, List.getElem_cons_zero]
  go_simp
  refine (cAA.out _ (S24.bel hHeld2)).mono ?_
  rintro e u3 ⟨rfl, hb3⟩
  try go_wp2_with fail
  refine hK.out _ _ ?_ (fun hHeld3 => ?_)
  · exact S24.below hHeld2 hb3
  clear hK K
  try simp only [Act.put, List.setIfInBounds_toArray, List.set_cons_zero, List.set_cons_succ]
  refine wpAnyH_take (i := 11) (v := ?_) rfl (by kernel_rfl) (by kernel_rfl) (by kernel_rfl) (fun _ _ _ h => h) (Or.inl ⟨by kernel_rfl, ?_⟩) (by assumption) ?_
  rotate_left
  · intro u hSu
    obtain ⟨s0, s1, s2, s3, r0, r1, r2, r3, hbw⟩ := hSu
    try simp only [List.getElem_toArray, List.getElem_cons_succ, List.getElem_cons_zero]
    go_simp
    try with_reducible rfl
  try simp only [Act.put, List.setIfInBounds_toArray, List.set_cons_zero, List.set_cons_succ]
  refine wpAnyH_start2 (n' := 33) (l' := #[true, true, true, true, true, true, true, true, true, true, true, true, false, false, false, false, false, false, false, false, false, false, false, false, false, false, false, false, false, false, false, false, false, false, false, false, false, false, false, false, false, false, false, false, false]) (by kernel_rfl) (by kernel_rfl) ?_
  refine wpAnyH_take (i := 12) (v := ?_) rfl (by kernel_rfl) (by kernel_rfl) (by kernel_rfl) (fun _ _ _ h => h) (Or.inl ⟨by kernel_rfl, ?_⟩) (by assumption) ?_
  rotate_left
  · intro u hSu
    obtain ⟨s0, s1, s2, s3, r0, r1, r2, r3, hbw⟩ := hSu
    try simp only [List.getElem_toArray, List.getElem_cons_succ, List.getElem_cons_zero]
    go_simp
    try with_reducible rfl
  try simp only [Act.put, List.setIfInBounds_toArray, List.set_cons_zero, List.set_cons_succ]
  refine wpAnyH_take (i := 13) (v := ?_) rfl (by kernel_rfl) (by kernel_rfl) (by kernel_rfl) (fun _ _ _ h => h) (Or.inl ⟨by kernel_rfl, ?_⟩) (by assumption) ?_
  rotate_left
  · intro u hSu
    obtain ⟨s0, s1, s2, s3, r0, r1, r2, r3, hbw⟩ := hSu
    try simp only [List.getElem_toArray, List.getElem_cons_succ, List.getElem_cons_zero]
    go_simp
    try with_reducible rfl
  try simp only [Act.put, List.setIfInBounds_toArray, List.set_cons_zero, List.set_cons_succ]
  refine wpAnyH_take (i := 14) (v := ?_) rfl (by kernel_rfl) (by kernel_rfl) (by kernel_rfl) (fun _ _ _ h => h) (Or.inl ⟨by kernel_rfl, ?_⟩) (by assumption) ?_
  rotate_left
  · intro u hSu
    obtain ⟨s0, s1, s2, s3, r0, r1, r2, r3, hbw⟩ := hSu
    try simp only [List.getElem_toArray, List.getElem_cons_succ, List.getElem_cons_zero]
    go_simp
    try with_reducible rfl
  try simp only [Act.put, List.setIfInBounds_toArray, List.set_cons_zero, List.set_cons_succ]
  refine wpAnyH_start2 (n' := 30) (l' := #[true, true, true, true, true, true, true, true, true, true, true, true, true, true, true, false, false, false, false, false, false, false, false, false, false, false, false, false, false, false, false, false, false, false, false, false, false, false, false, false, false, false, false, false, false]) (by kernel_rfl) (by kernel_rfl) ?_
  refine wpAnyH_ready (rs := [15]) (by kernel_rfl) (by simp) ?_
  refine AllReadyH.cons rfl (fun K hK => ?_) AllReadyH.nil
  try simp only [List.getElem_toArray, List.getElem_cons_succ, List.getElem_cons_zero]
  go_simp
  refine (npush_c _ _ _ _ _ _ _).mono ?_
  rintro e u4 ⟨rfl, hb4⟩
  try go_wp2_with fail
  refine hK.out _ _ ?_ (fun hHeld4 => ?_)
  · exact S24.below hHeld3 hb4
  clear hK K
  try simp only [Act.put, List.setIfInBounds_toArray, List.set_cons_zero, List.set_cons_succ]
  refine wpAnyH_take (i := 16) (v := ?_) rfl (by kernel_rfl) (by kernel_rfl) (by kernel_rfl) (fun _ _ _ h => h) (Or.inl ⟨by kernel_rfl, ?_⟩) (by assumption) ?_
  rotate_left
  · intro u hSu
    obtain ⟨s0, s1, s2, s3, r0, r1, r2, r3, hbw⟩ := hSu
    try simp only [List.getElem_toArray, List.getElem_cons_succ, List.getElem_cons_zero]
    go_simp
    try with_reducible rfl
  try simp only [Act.put, List.setIfInBounds_toArray, List.set_cons_zero, List.set_cons_succ]
  refine wpAnyH_take (i := 17) (v := ?_) rfl (by kernel_rfl) (by kernel_rfl) (by kernel_rfl) (fun _ _ _ h => h) (Or.inl ⟨by kernel_rfl, ?_⟩) (by assumption) ?_
  rotate_left
  · intro u hSu
    obtain ⟨s0, s1, s2, s3, r0, r1, r2, r3, hbw⟩ := hSu
    try simp only [List.getElem_toArray, List.getElem_cons_succ, List.getElem_cons_zero]
    go_simp
    try with_reducible rfl
  try simp only [Act.put, List.setIfInBounds_toArray, List.set_cons_zero, List.set_cons_succ]
  refine wpAnyH_start2 (n' := 27) (l' := #[true, true, true, true, true, true, true, true, true, true, true, true, true, true, true, true, true, true, false, false, false, false, false, false, false, false, false, false, false, false, false, false, false, false, false, false, false, false, false, false, false, false, false, false, false]) (by kernel_rfl) (by kernel_rfl) ?_
  refine wpAnyH_take (i := 18) (v := ?_) rfl (by kernel_rfl) (by kernel_rfl) (by kernel_rfl) (fun _ _ _ h => h) (Or.inl ⟨by kernel_rfl, ?_⟩) (by assumption) ?_
  rotate_left
  · intro u hSu
    obtain ⟨s0, s1, s2, s3, r0, r1, r2, r3, hbw⟩ := hSu
    try simp only [List.getElem_toArray, List.getElem_cons_succ, List.getElem_cons_zero]
    go_simp
    try with_reducible rfl
  try simp only [Act.put, List.setIfInBounds_toArray, List.set_cons_zero, List.set_cons_succ]
  refine wpAnyH_take (i := 19) (v := ?_) rfl (by kernel_rfl) (by kernel_rfl) (by kernel_rfl) (fun _ _ _ h => h) (Or.inl ⟨by kernel_rfl, ?_⟩) (by assumption) ?_
  rotate_left
  · intro u hSu
    obtain ⟨s0, s1, s2, s3, r0, r1, r2, r3, hbw⟩ := hSu
    try simp only [List.getElem_toArray, List.getElem_cons_succ, List.getElem_cons_zero]
    go_simp
    try with_reducible rfl
  try simp only [Act.put, List.setIfInBounds_toArray, List.set_cons_zero, List.set_cons_succ]
  refine wpAnyH_take (i := 20) (v := ?_) rfl (by kernel_rfl) (by kernel_rfl) (by kernel_rfl) (fun _ _ _ h => h) (Or.inl ⟨by kernel_rfl, ?_⟩) (by assumption) ?_
  rotate_left
  · intro u hSu
    obtain ⟨s0, s1, s2, s3, r0, r1, r2, r3, hbw⟩ := hSu
    try simp only [List.getElem_toArray, List.getElem_cons_succ, List.getElem_cons_zero]
    go_simp
    try with_reducible rfl
  try simp only [Act.put, List.setIfInBounds_toArray, List.set_cons_zero, List.set_cons_succ]
  refine wpAnyH_start2 (n' := 24) (l' := #[true, true, true, true, true, true, true, true, true, true, true, true, true, true, true, true, true, true, true, true, true, false, false, false, false, false, false, false, false, false, false, false, false, false, false, false, false, false, false, false, false, false, false, false, false]) (by kernel_rfl) (by kernel_rfl) ?_
  refine wpAnyH_take (i := 21) (v := ?_) rfl (by kernel_rfl) (by kernel_rfl) (by kernel_rfl) (fun _ _ _ h => h) (Or.inl ⟨by kernel_rfl, ?_⟩) (by assumption) ?_
  rotate_left
  · intro u hSu
    obtain ⟨s0, s1, s2, s3, r0, r1, r2, r3, hbw⟩ := hSu
    try simp only [List.getElem_toArray, List.getElem_cons_succ, List.getElem_cons_zero]
    go_simp
    try with_reducible rfl
  try simp only [Act.put, List.setIfInBounds_toArray, List.set_cons_zero, List.set_cons_succ]
  refine wpAnyH_take (i := 22) (v := ?_) rfl (by kernel_rfl) (by kernel_rfl) (by kernel_rfl) (fun _ _ _ h => h) (Or.inl ⟨by kernel_rfl, ?_⟩) (by assumption) ?_
  rotate_left
  · intro u hSu
    obtain ⟨s0, s1, s2, s3, r0, r1, r2, r3, hbw⟩ := hSu
    try simp only [List.getElem_toArray, List.getElem_cons_succ, List.getElem_cons_zero]
    go_simp
    try with_reducible rfl
  try simp only [Act.put, List.setIfInBounds_toArray, List.set_cons_zero, List.set_cons_succ]
  refine wpAnyH_take (i := 23) (v := ?_) rfl (by kernel_rfl) (by kernel_rfl) (by kernel_rfl) (fun _ _ _ h => h) (Or.inl ⟨by kernel_rfl, ?_⟩) (by assumption) ?_
  rotate_left
  · intro u hSu
    obtain ⟨s0, s1, s2, s3, r0, r1, r2, r3, hbw⟩ := hSu
    try simp only [List.getElem_toArray, List.getElem_cons_succ, List.getElem_cons_zero]
    go_simp
    try with_reducible rfl
  try simp only [Act.put, List.setIfInBounds_toArray, List.set_cons_zero, List.set_cons_succ]
  refine wpAnyH_start2 (n' := 21) (l' := #[true, true, true, true, true, true, true, true, true, true, true, true, true, true, true, true, true, true, true, true, true, true, true, true, false, false, false, false, false, false, false, false, false, false, false, false, false, false, false, false, false, false, false, false, false]) (by kernel_rfl) (by kernel_rfl) ?_
  refine wpAnyH_take (i := 24) (v := ?_) rfl (by kernel_rfl) (by kernel_rfl) (by kernel_rfl) (fun _ _ _ h => h) (Or.inl ⟨by kernel_rfl, ?_⟩) (by assumption) ?_
  rotate_left
  · intro u hSu
    obtain ⟨s0, s1, s2, s3, r0, r1, r2, r3, hbw⟩ := hSu
    try simp only [List.getElem_toArray, List.getElem_cons_succ, List.getElem_cons_zero]
    go_simp
    try with_reducible rfl
  try simp only [Act.put, List.setIfInBounds_toArray, List.set_cons_zero, List.set_cons_succ]
  refine wpAnyH_take (i := 25) (v := ?_) rfl (by kernel_rfl) (by kernel_rfl) (by kernel_rfl) (fun _ _ _ h => h) (Or.inl ⟨by kernel_rfl, ?_⟩) (by assumption) ?_
  rotate_left
  · intro u hSu
    obtain ⟨s0, s1, s2, s3, r0, r1, r2, r3, hbw⟩ := hSu
    try simp only [List.getElem_toArray, List.getElem_cons_succ, List.getElem_cons_zero]
    go_simp
    try with_reducible rfl
  try simp only [Act.put, List.setIfInBounds_toArray, List.set_cons_zero, List.set_cons_succ]
  refine wpAnyH_take (i := 26) (v := ?_) rfl (by kernel_rfl) (by kernel_rfl) (by kernel_rfl) (fun _ _ _ h => h) (Or.inl ⟨by kernel_rfl, ?_⟩) (by assumption) ?_
  rotate_left
  · intro u hSu
    obtain ⟨s0, s1, s2, s3, r0, r1, r2, r3, hbw⟩ := hSu
    try simp only [List.getElem_toArray, List.getElem_cons_succ, List.getElem_cons_zero]
    go_simp
    try with_reducible rfl
  try simp only [Act.put, List.setIfInBounds_toArray, List.set_cons_zero, List.set_cons_succ]
  refine wpAnyH_start2 (n' := 18) (l' := #[true, true, true, true, true, true, true, true, true, true, true, true, true, true, true, true, true, true, true, true, true, true, true, true, true, true, true, false, false, false, false, false, false, false, false, false, false, false, false, false, false, false, false, false, false]) (by kernel_rfl) (by kernel_rfl) ?_
  refine wpAnyH_take (i := 27) (v := ?_) rfl (by kernel_rfl) (by kernel_rfl) (by kernel_rfl) (fun _ _ _ h => h) (Or.inl ⟨by kernel_rfl, ?_⟩) (by assumption) ?_
  rotate_left
  · intro u hSu
    obtain ⟨s0, s1, s2, s3, r0, r1, r2, r3, hbw⟩ := hSu
    try simp only [List.getElem_toArray, List.getElem_cons_succ, List.getElem_cons_zero]
    go_simp
    try with_reducible rfl
  try simp only [Act.put, List.setIfInBounds_toArray, List.set_cons_zero, List.set_cons_succ]
  refine wpAnyH_take (i := 29) (v := ?_) rfl (by kernel_rfl) (by kernel_rfl) (by kernel_rfl) (fun _ _ _ h => h) (Or.inl ⟨by kernel_rfl, ?_⟩) (by assumption) ?_
  rotate_left
  · intro u hSu
    obtain ⟨s0, s1, s2, s3, r0, r1, r2, r3, hbw⟩ := hSu
    try simp only [List.getElem_toArray, List.getElem_cons_succ, List.getElem_cons_zero]
    go_simp
    try with_reducible rfl
  try simp only [Act.put, List.setIfInBounds_toArray, List.set_cons_zero, List.set_cons_succ]
  refine wpAnyH_take (i := 32) (v := ?_) rfl (by kernel_rfl) (by kernel_rfl) (by kernel_rfl) (fun _ _ _ h => h) (Or.inl ⟨by kernel_rfl, ?_⟩) (by assumption) ?_
  rotate_left
  · intro u hSu
    obtain ⟨s0, s1, s2, s3, r0, r1, r2, r3, hbw⟩ := hSu
    try simp only [List.getElem_toArray, List.getElem_cons_succ, List.getElem_cons_zero]
    go_simp
    try with_reducible rfl
  try simp only [Act.put, List.setIfInBounds_toArray, List.set_cons_zero, List.set_cons_succ]
  refine wpAnyH_start2 (n' := 15) (l' := #[true, true, true, true, true, true, true, true, true, true, true, true, true, true, true, true, true, true, true, true, true, true, true, true, true, true, true, true, false, true, false, false, true, false, false, false, false, false, false, false, false, false, false, false, false]) (by kernel_rfl) (by kernel_rfl) ?_
  refine wpAnyH_ready (rs := [28]) (by kernel_rfl) (by simp) ?_
  refine AllReadyH.cons rfl (fun K hK => ?_) AllReadyH.nil
  try simp only [List.getElem_toArray, List.getElem_cons_succ, List.getElem_cons_zero]
  go_simp
  refine (nlen_c _).mono ?_
  rintro e u5 ⟨rfl, rfl⟩
  try go_wp2_with fail
  refine hK.out _ _ ?_ (fun hHeld5 => ?_)
  · exact hHeld4
  clear hK K
  try simp only [Act.put, List.setIfInBounds_toArray, List.set_cons_zero, List.set_cons_succ]
  refine wpAnyH_ready (rs := [30]) (by kernel_rfl) (by simp) ?_
  refine AllReadyH.cons rfl (fun K hK => ?_) AllReadyH.nil
  try simp only [List.getElem_toArray, List.getElem_cons_succ, List.getElem_cons_zero]
  go_simp
  refine (nbytes_c _).mono ?_
  rintro e u6 ⟨rfl, rfl⟩
  try go_wp2_with fail
  refine hK.out _ _ ?_ (fun hHeld6 => ?_)
  · exact hHeld5
  clear hK K
  try simp only [Act.put, List.setIfInBounds_toArray, List.set_cons_zero, List.set_cons_succ]
  refine wpAnyH_take (i := 31) (v := ?_) rfl (by kernel_rfl) (by kernel_rfl) (by kernel_rfl) (fun _ _ _ h => h) (Or.inl ⟨by kernel_rfl, ?_⟩) (by assumption) ?_
  rotate_left
  · intro u hSu
    obtain ⟨s0, s1, s2, s3, r0, r1, r2, r3, hbw⟩ := hSu
    try simp only [List.getElem_toArray, List.getElem_cons_succ, List.getElem_cons_zero]
    go_simp
    try with_reducible rfl
  try simp only [Act.put, List.setIfInBounds_toArray, List.set_cons_zero, List.set_cons_succ]
  refine wpAnyH_start2 (n' := 12) (l' := #[true, true, true, true, true, true, true, true, true, true, true, true, true, true, true, true, true, true, true, true, true, true, true, true, true, true, true, true, true, true, true, true, true, false, false, false, false, false, false, false, false, false, false, false, false]) (by kernel_rfl) (by kernel_rfl) ?_
  refine wpAnyH_ready (rs := [33]) (by kernel_rfl) (by simp) ?_
  refine AllReadyH.cons rfl (fun K hK => ?_) AllReadyH.nil
  try simp only [List.getElem_toArray, List.getElem_cons_succ, List.getElem_cons_zero]
  go_simp
  refine (ndrops_c _).mono ?_
  rintro e u7 ⟨rfl, rfl⟩
  try go_wp2_with fail
  refine hK.out _ _ ?_ (fun hHeld7 => ?_)
  · exact hHeld6
  clear hK K
  try simp only [Act.put, List.setIfInBounds_toArray, List.set_cons_zero, List.set_cons_succ]
  refine wpAnyH_take (i := 34) (v := ?_) rfl (by kernel_rfl) (by kernel_rfl) (by kernel_rfl) (fun _ _ _ h => h) (Or.inl ⟨by kernel_rfl, ?_⟩) (by assumption) ?_
  rotate_left
  · intro u hSu
    obtain ⟨s0, s1, s2, s3, r0, r1, r2, r3, hbw⟩ := hSu
    try simp only [List.getElem_toArray, List.getElem_cons_succ, List.getElem_cons_zero]
    go_simp
    try with_reducible rfl
  try simp only [Act.put, List.setIfInBounds_toArray, List.set_cons_zero, List.set_cons_succ]
  refine wpAnyH_take (i := 35) (v := ?_) rfl (by kernel_rfl) (by kernel_rfl) (by kernel_rfl) (fun _ _ _ h => h) (Or.inl ⟨by kernel_rfl, ?_⟩) (by assumption) ?_
  rotate_left
  · intro u hSu
    obtain ⟨s0, s1, s2, s3, r0, r1, r2, r3, hbw⟩ := hSu
    try simp only [List.getElem_toArray, List.getElem_cons_succ, List.getElem_cons_zero]
    go_simp
    try with_reducible rfl
  try simp only [Act.put, List.setIfInBounds_toArray, List.set_cons_zero, List.set_cons_succ]
  refine wpAnyH_start2 (n' := 9) (l' := #[true, true, true, true, true, true, true, true, true, true, true, true, true, true, true, true, true, true, true, true, true, true, true, true, true, true, true, true, true, true, true, true, true, true, true, true, false, false, false, false, false, false, false, false, false]) (by kernel_rfl) (by kernel_rfl) ?_
  refine wpAnyH_take (i := 36) (v := ?_) rfl (by kernel_rfl) (by kernel_rfl) (by kernel_rfl) (fun _ _ _ h => h) (Or.inl ⟨by kernel_rfl, ?_⟩) (by assumption) ?_
  rotate_left
  · intro u hSu
    obtain ⟨s0, s1, s2, s3, r0, r1, r2, r3, hbw⟩ := hSu
    try simp only [List.getElem_toArray, List.getElem_cons_succ, List.getElem_cons_zero]
    go_simp
    try with_reducible rfl
  try simp only [Act.put, List.setIfInBounds_toArray, List.set_cons_zero, List.set_cons_succ]
  refine wpAnyH_take (i := 37) (v := ?_) rfl (by kernel_rfl) (by kernel_rfl) (by kernel_rfl) (fun _ _ _ h => h) (Or.inl ⟨by kernel_rfl, ?_⟩) (by assumption) ?_
  rotate_left
  · intro u hSu
    obtain ⟨s0, s1, s2, s3, r0, r1, r2, r3, hbw⟩ := hSu
    try simp only [List.getElem_toArray, List.getElem_cons_succ, List.getElem_cons_zero]
    go_simp
    try with_reducible rfl
  try simp only [Act.put, List.setIfInBounds_toArray, List.set_cons_zero, List.set_cons_succ]
  refine wpAnyH_take (i := 38) (v := ?_) rfl (by kernel_rfl) (by kernel_rfl) (by kernel_rfl) (fun _ _ _ h => h) (Or.inl ⟨by kernel_rfl, ?_⟩) (by assumption) ?_
  rotate_left
  · intro u hSu
    obtain ⟨s0, s1, s2, s3, r0, r1, r2, r3, hbw⟩ := hSu
    try simp only [List.getElem_toArray, List.getElem_cons_succ, List.getElem_cons_zero]
    go_simp
    try with_reducible rfl
  try simp only [Act.put, List.setIfInBounds_toArray, List.set_cons_zero, List.set_cons_succ]
  refine wpAnyH_start2 (n' := 6) (l' := #[true, true, true, true, true, true, true, true, true, true, true, true, true, true, true, true, true, true, true, true, true, true, true, true, true, true, true, true, true, true, true, true, true, true, true, true, true, true, true, false, false, false, false, false, false]) (by kernel_rfl) (by kernel_rfl) ?_
  refine wpAnyH_ready (rs := [39]) (by kernel_rfl) (by simp) ?_
  refine AllReadyH.cons rfl (fun K hK => ?_) AllReadyH.nil
  try simp only [List.getElem_toArray, List.getElem_cons_succ, List.getElem_cons_zero]
  go_simp
  refine (told_none _).mono ?_
  rintro e u8 ⟨rfl, hb8⟩
  try go_wp2_with fail
  refine hK.out _ _ ?_ (fun hHeld8 => ?_)
  · exact S24.below hHeld7 hb8
  clear hK K
  try simp only [Act.put, List.setIfInBounds_toArray, List.set_cons_zero, List.set_cons_succ]
  refine wpAnyH_take (i := 40) (v := ?_) rfl (by kernel_rfl) (by kernel_rfl) (by kernel_rfl) (fun _ _ _ h => h) (Or.inl ⟨by kernel_rfl, ?_⟩) (by assumption) ?_
  rotate_left
  · intro u hSu
    obtain ⟨s0, s1, s2, s3, r0, r1, r2, r3, hbw⟩ := hSu
    try simp only [List.getElem_toArray, List.getElem_cons_succ, List.getElem_cons_zero]
    go_simp
    try with_reducible rfl
  try simp only [Act.put, List.setIfInBounds_toArray, List.set_cons_zero, List.set_cons_succ]
  refine wpAnyH_take (i := 41) (v := ?_) rfl (by kernel_rfl) (by kernel_rfl) (by kernel_rfl) (fun _ _ _ h => h) (Or.inl ⟨by kernel_rfl, ?_⟩) (by assumption) ?_
  rotate_left
  · intro u hSu
    obtain ⟨s0, s1, s2, s3, r0, r1, r2, r3, hbw⟩ := hSu
    try simp only [List.getElem_toArray, List.getElem_cons_succ, List.getElem_cons_zero]
    go_simp
    try with_reducible rfl
  try simp only [Act.put, List.setIfInBounds_toArray, List.set_cons_zero, List.set_cons_succ]
  refine wpAnyH_start2 (n' := 3) (l' := #[true, true, true, true, true, true, true, true, true, true, true, true, true, true, true, true, true, true, true, true, true, true, true, true, true, true, true, true, true, true, true, true, true, true, true, true, true, true, true, true, true, true, false, false, false]) (by kernel_rfl) (by kernel_rfl) ?_
  refine wpAnyH_ready (rs := [42]) (by kernel_rfl) (by simp) ?_
  refine AllReadyH.cons rfl (fun K hK => ?_) AllReadyH.nil
  try simp only [List.getElem_toArray, List.getElem_cons_succ, List.getElem_cons_zero]
  go_simp
  refine (wakes24_c _).mono ?_
  rintro e u9 ⟨rfl, hb9⟩
  try go_wp2_with fail
  refine hK.out _ _ ?_ (fun hHeld9 => ?_)
  · exact S24.below hHeld8 hb9
  clear hK K
  try simp only [Act.put, List.setIfInBounds_toArray, List.set_cons_zero, List.set_cons_succ]
  refine wpAnyH_take (i := 43) (v := ?_) rfl (by kernel_rfl) (by kernel_rfl) (by kernel_rfl) (fun _ _ _ h => h) (Or.inl ⟨by kernel_rfl, ?_⟩) (by assumption) ?_
  rotate_left
  · intro u hSu
    obtain ⟨s0, s1, s2, s3, r0, r1, r2, r3, hbw⟩ := hSu
    try simp only [List.getElem_toArray, List.getElem_cons_succ, List.getElem_cons_zero]
    go_simp
    try with_reducible rfl
  try simp only [Act.put, List.setIfInBounds_toArray, List.set_cons_zero, List.set_cons_succ]
  refine wpAnyH_take (i := 44) (v := ?_) rfl (by kernel_rfl) (by kernel_rfl) (by kernel_rfl) (fun _ _ _ h => h) (Or.inl ⟨by kernel_rfl, ?_⟩) (by assumption) ?_
  rotate_left
  · intro u hSu
    obtain ⟨s0, s1, s2, s3, r0, r1, r2, r3, hbw⟩ := hSu
    try simp only [List.getElem_toArray, List.getElem_cons_succ, List.getElem_cons_zero]
    go_simp
    try with_reducible rfl
  try simp only [Act.put, List.setIfInBounds_toArray, List.set_cons_zero, List.set_cons_succ]
  refine wpAnyH_done (by kernel_rfl) ?_ _
  try simp only [List.getElem_toArray, List.getElem_cons_succ, List.getElem_cons_zero]
  try simp only [Act.put, List.setIfInBounds_toArray, List.set_cons_zero, List.set_cons_succ]
  refine NoPanic.normal ?_
  go_wp2_with fail
  go_ret
  exact ⟨rfl, S24.bel (by assumption)⟩

theorem fifoSame_walk (w : World) (v0 : Value) (a0 : XT_Packet) (v1 : Value) (a1 : XT_Packet) (w0 : Is_Packet w v0 a0) (w1 : Is_Packet w v1 a1) :
    Calls Try.prog 19 #[v0, v1] w fun e w' => e = .returned (.bool true) ∧ Below w.heap.size w w' := by
  obtain ⟨rfl, _, _, _, p1, p2, p3⟩ := w0
  obtain ⟨rfl, _, _, _, q1, q2, q3⟩ := w1
  exact fsame_h w a0.num a0.t a0.C a0.a a0.n a0.cap a0.f a1.num a1.t a1.C a1.a a1.n a1.cap a1.f ⟨p1, p2, p3⟩ ⟨q1, q2, q3⟩
end Go.Proofs.Ythahlfabcjnkhaa
