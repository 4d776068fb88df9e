/- Virtual time: Pick. -/
import Derived.Test.YtkefkophlhcbiaaV6
import Derived.Test.YtkefkophlhcbiaaStage
namespace Go.Proofs.Ytkefkophlhcbiaa
open Go.ChangeShapes Go.WideShapes Go.ChangeAt Go.RowKit
set_option linter.unusedVariables false
set_option linter.unusedSimpArgs false
open BigFrame Vr Pk Fq

namespace Vr
/-- As long as nothing is stored, all that stood is as it was. -/
def SB (W : World) (n : Nat) (u : World) : Prop := n = 0 → Below W.heap.size W u
/-- A picked flow. -/
structure PR where
  V : Int
  N : Nat
  S : Nat → Int
  F : Nat → Int
  k : Int
  ok : Bool
def PickP (r : PR) (w : World) (e : Ending) (w' : World) : Prop :=
  ∃ (a' : Option Addr) (g c' : Nat), e = .returned (.tuple #[.agg #[.int .i64 r.V, .slice a' r.N c'], .int .i64 r.k, .bool r.ok]) ∧ TagsAt w' a' g 0 r.N r.S r.F ∧ (0 < r.N → w.heap.size ≤ g) ∧ Below w.heap.size w w'
theorem pickP_no {w : World} {e : Ending} {w' : World} (S F : Nat → Int) (h : e = .returned (.tuple #[.agg #[.int .i64 0, .slice none 0 0], .int .i64 0, .bool false]) ∧ Below w.heap.size w w') : PickP ⟨0, 0, S, F, 0, false⟩ w e w' :=
  ⟨none, 0, 0, h.1, ⟨fun h => absurd h (Nat.lt_irrefl _), fun h => absurd h (Nat.lt_irrefl _), fun i hi => absurd hi (Nat.not_lt_zero _), fun i hi => absurd hi (Nat.not_lt_zero _)⟩, fun h => absurd h (Nat.lt_irrefl _), h.2⟩
end Vr
attribute [local go_sem] max_fold25

set_option maxRecDepth 100000 in
set_option maxHeartbeats 4000000 in
theorem vpick_ok (V : Int) (a ar : Option Addr) (b off N c rb ro cr k : Nat) (S F : Nat → Int) (R : Nat → Bool) (w : World) (T : TagsAt w a b off N S F) (hv : VOk V N S F) (BR : BoolsAt w ar rb ro N R) (hk0 : leastK S R N = (k : Int)) (hk : k < N) :
    Calls Try.prog 49 #[.agg #[.int .i64 V, .slice a N c], .slice ar N cr] w (PickP ⟨max V (S k), N, S, F, leastK F (fun i => R i && decide (S i ≤ max V (S k))) N, true⟩ w) := by
  obtain rfl := T.ha (by omega)
  have hN8 := hv.2.2.1
  have hB0 : Below w.heap.size w (((w.alloc (.cells #[.int .i64 V, .slice (some ⟨b, off, none⟩) N c] 96)).alloc (.cells #[.slice ar N cr] 112)).alloc (.cells #[.int .i64 0, .slice none 0 0] 96)) := (((Below.refl _ _).alloc (Nat.le_refl _) _).alloc (by simp) _).alloc (by simp <;> omega) _
  have bx0 : Blk (((w.alloc (.cells #[.int .i64 V, .slice (some ⟨b, off, none⟩) N c] 96)).alloc (.cells #[.slice ar N cr] 112)).alloc (.cells #[.int .i64 0, .slice none 0 0] 96)) w.heap.size [.int .i64 V, .slice (some ⟨b, off, none⟩) N c] := ⟨fun i x hx => by
    rcases i with _ | _ | i
    · simp at hx; subst hx; go_simp
    · simp at hx; subst hx; go_simp
    · simp at hx, fun o => by go_simp, by simp <;> omega⟩
  have rx0 : Blk (((w.alloc (.cells #[.int .i64 V, .slice (some ⟨b, off, none⟩) N c] 96)).alloc (.cells #[.slice ar N cr] 112)).alloc (.cells #[.int .i64 0, .slice none 0 0] 96)) (w.heap.size + 1) [.slice ar N cr] := ⟨fun i x hx => by
    rcases i with _ | i
    · simp at hx; subst hx; go_simp
    · simp at hx, fun o => by go_simp, by simp <;> omega⟩
  have rs0 : Blk (((w.alloc (.cells #[.int .i64 V, .slice (some ⟨b, off, none⟩) N c] 96)).alloc (.cells #[.slice ar N cr] 112)).alloc (.cells #[.int .i64 0, .slice none 0 0] 96)) (w.heap.size + 2) [.int .i64 0, .slice none 0 0] := ⟨fun i x hx => by
    rcases i with _ | _ | i
    · simp at hx; subst hx; go_simp
    · simp at hx; subst hx; go_simp
    · simp at hx, fun o => by go_simp, by simp <;> omega⟩
  have hck := vcheck_ok V _ b off N c S F _ (T.bel hB0) hv
  have hkN : (k : Int) < (N : Int) := by omega
  have hkd : decide ((k : Int) < 0) = false := by simp
  obtain ⟨V', hV'⟩ : ∃ V', max V (S k) = V' := ⟨_, rfl⟩
  clear hv
  replace T := Lib.hid T
  replace BR := Lib.hid BR
  replace hV' := Lib.hid hV'
  replace hk0 := Lib.hid hk0
  rw [hV'.out]
  go_enter Try.func49, Try.ntmps49
  go_wp2_with fail
  refine hck.mono ?_
  rintro e w1 ⟨rfl, hb1⟩
  have bx1 := bx0.bel hb1
  have rx1 := rx0.bel hb1
  have rs1 := rs0.bel hb1
  have hB1 := bNext hB0 hb1 (by simp)
  clear bx0 rx0 rs0 hb1 hck hB0
  have p0 := bx1.c 0 _ rfl
  have p1 := bx1.c 1 _ rfl
  have p2 := rx1.c 0 _ rfl
  have hl1 := vleast_c 62 63 (fun _ _ => by rfl) (fun _ _ => by rfl) #[.pointer (some ⟨w.heap.size + 1, 0, none⟩)] S R _ b off N c w.heap.size S F w1 (T.out.bel hB1) (by omega) p1 (fun W i hi hW => vofs_c _ _ W) (fun W i hi hW => vmay3_c ar rb ro N cr i (w.heap.size + 1) R W hi (by omega) ((BR.out.bel hB1).bel hW) (cellB hW p2))
  rw [hk0.out] at hl1
  go_wp2_with fail
  refine hl1.mono ?_
  rintro e w2 ⟨rfl, hb2⟩
  have bx2 := bx1.bel hb2
  have rx2 := rx1.bel hb2
  have rs2 := rs1.bel hb2
  have hB2 := bNext hB1 hb2 (Nat.le_refl _)
  clear bx1 rx1 rs1 p0 p1 p2 hl1 hB1 hb2
  go_upto_region 7 with fail
  have p0 := bx2.c 0 _ rfl
  have p1 := bx2.c 1 _ rfl
  have p2 := (T.out.bel hB2).c0 k hk
  replace bx2 := Lib.hid bx2
  refine wp_region_noPanic ?_
  refine Stg.wp_region_L [13, 15] (Vr.SB w2) (by kernel_rfl) (fun _ => (Below.refl _ _).drew) (fun hHeld => ?_)
  refine Stg.wpAnyL_start (n' := 16) (l' := #[false, false, false, false, false, false, false, false, false, false, false, false, false, false, false, false]) (by kernel_rfl) (by kernel_rfl) ?_
  refine Stg.wpAnyL_take (i := 0) (v := ?_) [1, 8, 12, 13, 14, 15] 0 rfl (by kernel_rfl) (by kernel_rfl) (by kernel_rfl) (by kernel_rfl) (by kernel_rfl) (fun _ _ _ h => h) (Or.inl ⟨by kernel_rfl, ?_⟩) (by assumption) ?_
  rotate_left
  · intro u hSu
    skip
    try simp only [List.getElem_toArray, List.getElem_cons_succ, List.getElem_cons_zero]
    go_simp
    try with_reducible rfl
  try simp only [Act.put, List.setIfInBounds_toArray, List.set_cons_zero, List.set_cons_succ]
  refine Stg.wpAnyL_take (i := 1) (v := ?_) [8, 12, 13, 14, 15] 0 rfl (by kernel_rfl) (by kernel_rfl) (by kernel_rfl) (by kernel_rfl) (by kernel_rfl) (fun _ _ _ h => h) (Or.inl ⟨by kernel_rfl, ?_⟩) (by assumption) ?_
  rotate_left
  · intro u hSu
    skip
    have sB := hSu rfl
    have y0 := cellB sB p0
    have y1 := cellB sB p1
    have y2 := cellB sB p2
    try simp only [List.getElem_toArray, List.getElem_cons_succ, List.getElem_cons_zero]
    go_simp
    try with_reducible rfl
  try simp only [Act.put, List.setIfInBounds_toArray, List.set_cons_zero, List.set_cons_succ]
  refine Stg.wpAnyL_take (i := 2) (v := ?_) [3, 5, 6, 7, 8, 12, 13, 14, 15] 0 rfl (by kernel_rfl) (by kernel_rfl) (by kernel_rfl) (by kernel_rfl) (by kernel_rfl) (fun _ _ _ h => h) (Or.inl ⟨by kernel_rfl, ?_⟩) (by assumption) ?_
  rotate_left
  · intro u hSu
    skip
    try simp only [List.getElem_toArray, List.getElem_cons_succ, List.getElem_cons_zero]
    go_simp
    try with_reducible rfl
  try simp only [Act.put, List.setIfInBounds_toArray, List.set_cons_zero, List.set_cons_succ]
  refine Stg.wpAnyL_start (n' := 13) (l' := #[true, true, true, false, false, false, false, false, false, false, false, false, false, false, false, false]) (by kernel_rfl) (by kernel_rfl) ?_
  refine Stg.wpAnyL_take (i := 3) (v := ?_) [5, 6, 7, 8, 12, 13, 14, 15] 0 rfl (by kernel_rfl) (by kernel_rfl) (by kernel_rfl) (by kernel_rfl) (by kernel_rfl) (fun _ _ _ h => h) (Or.inl ⟨by kernel_rfl, ?_⟩) (by assumption) ?_
  rotate_left
  · intro u hSu
    skip
    have sB := hSu rfl
    have y0 := cellB sB p0
    have y1 := cellB sB p1
    have y2 := cellB sB p2
    try simp only [List.getElem_toArray, List.getElem_cons_succ, List.getElem_cons_zero]
    go_simp
    try with_reducible rfl
  try simp only [Act.put, List.setIfInBounds_toArray, List.set_cons_zero, List.set_cons_succ]
  refine Stg.wpAnyL_take (i := 4) (v := ?_) [5, 6, 7, 8, 12, 13, 14, 15] 0 rfl (by kernel_rfl) (by kernel_rfl) (by kernel_rfl) (by kernel_rfl) (by kernel_rfl) (fun _ _ _ h => h) (Or.inl ⟨by kernel_rfl, ?_⟩) (by assumption) ?_
  rotate_left
  · intro u hSu
    skip
    try simp only [List.getElem_toArray, List.getElem_cons_succ, List.getElem_cons_zero]
    go_simp
    try with_reducible rfl
  try simp only [Act.put, List.setIfInBounds_toArray, List.set_cons_zero, List.set_cons_succ]
  refine Stg.wpAnyL_take (i := 5) (v := ?_) [6, 7, 8, 12, 13, 14, 15] 0 rfl (by kernel_rfl) (by kernel_rfl) (by kernel_rfl) (by kernel_rfl) (by kernel_rfl) (fun _ _ _ h => h) (Or.inl ⟨by kernel_rfl, ?_⟩) (by assumption) ?_
  rotate_left
  · intro u hSu
    skip
    try simp only [List.getElem_toArray, List.getElem_cons_succ, List.getElem_cons_zero]
    go_simp
    try with_reducible rfl
  try simp only [Act.put, List.setIfInBounds_toArray, List.set_cons_zero, List.set_cons_succ]
  refine Stg.wpAnyL_start (n' := 10) (l' := #[true, true, true, true, true, true, false, false, false, false, false, false, false, false, false, false]) (by kernel_rfl) (by kernel_rfl) ?_
  refine Stg.wpAnyL_take (i := 6) (v := ?_) [7, 8, 12, 13, 14, 15] 0 rfl (by kernel_rfl) (by kernel_rfl) (by kernel_rfl) (by kernel_rfl) (by kernel_rfl) (fun _ _ _ h => h) (Or.inl ⟨by kernel_rfl, ?_⟩) (by assumption) ?_
  rotate_left
  · intro u hSu
    skip
    try simp only [List.getElem_toArray, List.getElem_cons_succ, List.getElem_cons_zero]
    go_simp
    try with_reducible rfl
  try simp only [Act.put, List.setIfInBounds_toArray, List.set_cons_zero, List.set_cons_succ]
  refine Stg.wpAnyL_take (i := 7) (v := ?_) [8, 12, 13, 14, 15] 0 rfl (by kernel_rfl) (by kernel_rfl) (by kernel_rfl) (by kernel_rfl) (by kernel_rfl) (fun _ _ _ h => h) (Or.inl ⟨by kernel_rfl, ?_⟩) (by assumption) ?_
  rotate_left
  · intro u hSu
    skip
    have sB := hSu rfl
    have y0 := cellB sB p0
    have y1 := cellB sB p1
    have y2 := cellB sB p2
    try simp only [List.getElem_toArray, List.getElem_cons_succ, List.getElem_cons_zero]
    go_simp
    try with_reducible rfl
  try simp only [Act.put, List.setIfInBounds_toArray, List.set_cons_zero, List.set_cons_succ]
  refine Stg.wpAnyL_take (i := 8) (v := ?_) [12, 13, 14, 15] 0 rfl (by kernel_rfl) (by kernel_rfl) (by kernel_rfl) (by kernel_rfl) (by kernel_rfl) (fun _ _ _ h => h) (Or.inl ⟨by kernel_rfl, ?_⟩) (by assumption) ?_
  rotate_left
  · intro u hSu
    skip
    try simp only [List.getElem_toArray, List.getElem_cons_succ, List.getElem_cons_zero]
    go_simp
    try with_reducible rfl
  try simp only [Act.put, List.setIfInBounds_toArray, List.set_cons_zero, List.set_cons_succ]
  refine Stg.wpAnyL_start (n' := 7) (l' := #[true, true, true, true, true, true, true, true, true, false, false, false, false, false, false, false]) (by kernel_rfl) (by kernel_rfl) ?_
  refine Stg.wpAnyL_take (i := 9) (v := ?_) [10, 11, 12, 13, 14, 15] 0 rfl (by kernel_rfl) (by kernel_rfl) (by kernel_rfl) (by kernel_rfl) (by kernel_rfl) (fun _ _ _ h => h) (Or.inl ⟨by kernel_rfl, ?_⟩) (by assumption) ?_
  rotate_left
  · intro u hSu
    skip
    try simp only [List.getElem_toArray, List.getElem_cons_succ, List.getElem_cons_zero]
    go_simp
    try with_reducible rfl
  try simp only [Act.put, List.setIfInBounds_toArray, List.set_cons_zero, List.set_cons_succ]
  refine Stg.wpAnyL_take (i := 10) (v := ?_) [11, 12, 13, 14, 15] 0 rfl (by kernel_rfl) (by kernel_rfl) (by kernel_rfl) (by kernel_rfl) (by kernel_rfl) (fun _ _ _ h => h) (Or.inl ⟨by kernel_rfl, ?_⟩) (by assumption) ?_
  rotate_left
  · intro u hSu
    skip
    have sB := hSu rfl
    have y0 := cellB sB p0
    have y1 := cellB sB p1
    have y2 := cellB sB p2
    try simp only [List.getElem_toArray, List.getElem_cons_succ, List.getElem_cons_zero]
    go_simp
    try with_reducible rfl
  try simp only [Act.put, List.setIfInBounds_toArray, List.set_cons_zero, List.set_cons_succ]
  refine Stg.wpAnyL_take (i := 12) (v := ?_) [13, 14, 15] 0 rfl (by kernel_rfl) (by kernel_rfl) (by kernel_rfl) (by kernel_rfl) (by kernel_rfl) (fun _ _ _ h => h) (Or.inl ⟨by kernel_rfl, ?_⟩) (by assumption) ?_
  rotate_left
  · intro u hSu
    skip
    try simp only [List.getElem_toArray, List.getElem_cons_succ, List.getElem_cons_zero]
    go_simp
    try with_reducible rfl
  try simp only [Act.put, List.setIfInBounds_toArray, List.set_cons_zero, List.set_cons_succ]
  refine Stg.wpAnyL_start (n' := 4) (l' := #[true, true, true, true, true, true, true, true, true, true, true, false, true, false, false, false]) (by kernel_rfl) (by kernel_rfl) ?_
  refine Stg.wpAnyL_one (i := 11) 0 rfl (by kernel_rfl) (by kernel_rfl) (fun K hK => ?_)
  try simp only [List.getElem_toArray, List.getElem_cons_succ, List.getElem_cons_zero]
  go_simp
  refine (vclone_c _ b off N c S F _ ((T.out.bel hB2).bel (hHeld rfl)) (by omega)).mono ?_
  rintro e u1 ⟨a', g', c', rfl, T2, hg, hb1⟩
  refine hK.out _ _ ?_ (fun hHeld1 => ?_)
  · exact fun _ => bNext (hHeld rfl) hb1 (Nat.le_refl _)
  clear hK K
  try simp only [Act.put, List.setIfInBounds_toArray, List.set_cons_zero, List.set_cons_succ]
  refine Stg.wpAnyL_one (i := 13) 1 rfl (by kernel_rfl) (by kernel_rfl) (fun K hK => ?_)
  have z0 := (bx2.out.bel (hHeld1 rfl)).c 0 _ rfl
  have z1 := (bx2.out.bel (hHeld1 rfl)).c 1 _ rfl
  have z2 := (bx2.out.bel (hHeld1 rfl)).f 0
  have z3 := (bx2.out.bel (hHeld1 rfl)).f 1
  try simp only [List.getElem_toArray, List.getElem_cons_succ, List.getElem_cons_zero]
  go_simp
  refine hK.out _ _ ?_ (fun hHeld2 => ?_)
  · exact fun h => absurd h (by decide)
  clear hK K
  try simp only [Act.put, List.setIfInBounds_toArray, List.set_cons_zero, List.set_cons_succ]
  refine Stg.wpAnyL_take (i := 14) (v := ?_) [15] 1 rfl (by kernel_rfl) (by kernel_rfl) (by kernel_rfl) (by kernel_rfl) (by kernel_rfl) (fun _ _ _ h => h) (Or.inl ⟨by kernel_rfl, ?_⟩) (by assumption) ?_
  rotate_left
  · intro u hSu
    skip
    try simp only [List.getElem_toArray, List.getElem_cons_succ, List.getElem_cons_zero]
    go_simp
    try with_reducible rfl
  try simp only [Act.put, List.setIfInBounds_toArray, List.set_cons_zero, List.set_cons_succ]
  refine Stg.wpAnyL_start (n' := 1) (l' := #[true, true, true, true, true, true, true, true, true, true, true, true, true, true, true, false]) (by kernel_rfl) (by kernel_rfl) ?_
  refine Stg.wpAnyL_one (i := 15) 2 rfl (by kernel_rfl) (by kernel_rfl) (fun K hK => ?_)
  try simp only [List.getElem_toArray, List.getElem_cons_succ, List.getElem_cons_zero]
  go_simp
  refine hK.out _ _ ?_ (fun hHeld3 => ?_)
  · exact fun h => absurd h (by decide)
  clear hK K
  try simp only [Act.put, List.setIfInBounds_toArray, List.set_cons_zero, List.set_cons_succ]
  refine Stg.wpAnyL_done (by kernel_rfl) ?_ _
  try simp only [List.getElem_toArray, List.getElem_cons_succ, List.getElem_cons_zero]
  try simp only [Act.put, List.setIfInBounds_toArray, List.set_cons_zero, List.set_cons_succ]
  refine NoPanic.normal ?_
  obtain rfl := T2.ha (by omega)
  replace hg := (hg (by omega)).1
  have hw2 : w2.heap.size ≤ g' := by simpa using hg
  have hx2 := bx2.out.l
  have hr2 := rx2.l
  have hs2 := rs2.l
  have bx3 := ((bx2.out.bel (hHeld1 rfl)).set (i := 0) (by simp) (.int .i64 (max V (S k)))).set (i := 1) (by simp) (.slice (some ⟨g', 0, none⟩) N c')
  have rx3 := ((rx2.bel (hHeld1 rfl)).other (q := w.heap.size) (o := 0) (by omega) (.int .i64 (max V (S k)))).other (q := w.heap.size) (o := 1) (by omega) (.slice (some ⟨g', 0, none⟩) N c')
  have rs3 := ((rs2.bel (hHeld1 rfl)).other (q := w.heap.size) (o := 0) (by omega) (.int .i64 (max V (S k)))).other (q := w.heap.size) (o := 1) (by omega) (.slice (some ⟨g', 0, none⟩) N c')
  have T3 := (T2.set_other (q := w.heap.size) (o := 0) (fun _ => by omega) (.int .i64 (max V (S k)))).set_other (q := w.heap.size) (o := 1) (fun _ => by omega) (.slice (some ⟨g', 0, none⟩) N c')
  have hB3 := ((bNext hB2 (hHeld1 rfl) (Nat.le_refl _)).setCell (p := ⟨w.heap.size, 0, none⟩) (Nat.le_refl _) (.int .i64 (max V (S k)))).setCell (p := ⟨w.heap.size, 1, none⟩) (Nat.le_refl _) (.slice (some ⟨g', 0, none⟩) N c')
  clear T2 z0 z1 z2 z3 p0 p1 p2 hHeld hHeld1 hHeld2 hHeld3 hb1 bx2 rx2 rs2
  rw [hV'.out] at bx3 rx3 rs3 T3 hB3 ⊢
  replace T3 := Lib.hid T3
  go_upto_region 8 with fail
  generalize (u1.setCell ⟨w.heap.size, 0, none⟩ (.int .i64 V')).setCell ⟨w.heap.size, 1, none⟩ (.slice (some ⟨g', 0, none⟩) N c') = W3 at bx3 rx3 rs3 T3 hB3 ⊢
  have p0 := bx3.c 0 _ rfl
  have p1 := bx3.c 1 _ rfl
  have p2 := rx3.c 0 _ rfl
  have hl3 := fun U (hU : Below W3.heap.size W3 U) => vleast_c 65 66 (fun _ _ => by rfl) (fun _ _ => by rfl) #[.pointer (some ⟨w.heap.size + 1, 0, none⟩), .pointer (some ⟨w.heap.size, 0, none⟩)] F (fun i => R i && decide (S i ≤ V')) _ g' 0 N c' w.heap.size S F U (T3.out.bel hU) (by omega) (cellB hU p1) (fun W i hi hW => voff_c _ _ W) (fun W i hi hW => vmay5_c V' ar _ rb ro N cr i (w.heap.size + 1) w.heap.size g' 0 c' R S F W hi (by omega) (((BR.out.bel hB3).bel hU).bel hW) (cellB hW (cellB hU p2)) ((T3.out.bel hU).bel hW) (cellB hW (cellB hU p0)) (cellB hW (cellB hU p1)))
  replace bx3 := Lib.hid bx3
  replace rs3 := Lib.hid rs3
  refine wp_region_noPanic ?_
  refine Stg.wp_region_L [4] (Vr.SB W3) (by kernel_rfl) (fun _ => (Below.refl _ _).drew) (fun hKeld => ?_)
  refine Stg.wpAnyL_start (n' := 7) (l' := #[false, false, false, false, false, false, false]) (by kernel_rfl) (by kernel_rfl) ?_
  refine Stg.wpAnyL_take (i := 0) (v := ?_) [4, 5, 6] 0 rfl (by kernel_rfl) (by kernel_rfl) (by kernel_rfl) (by kernel_rfl) (by kernel_rfl) (fun _ _ _ h => h) (Or.inl ⟨by kernel_rfl, ?_⟩) (by assumption) ?_
  rotate_left
  · intro u hSu
    skip
    have sB := hSu rfl
    have y0 := cellB sB p0
    have y1 := cellB sB p1
    try simp only [List.getElem_toArray, List.getElem_cons_succ, List.getElem_cons_zero]
    go_simp
    try with_reducible rfl
  try simp only [Act.put, List.setIfInBounds_toArray, List.set_cons_zero, List.set_cons_succ]
  refine Stg.wpAnyL_take (i := 1) (v := ?_) [3, 4, 5, 6] 0 rfl (by kernel_rfl) (by kernel_rfl) (by kernel_rfl) (by kernel_rfl) (by kernel_rfl) (fun _ _ _ h => h) (Or.inl ⟨by kernel_rfl, ?_⟩) (by assumption) ?_
  rotate_left
  · intro u hSu
    skip
    try simp only [List.getElem_toArray, List.getElem_cons_succ, List.getElem_cons_zero]
    go_simp
    try with_reducible rfl
  try simp only [Act.put, List.setIfInBounds_toArray, List.set_cons_zero, List.set_cons_succ]
  refine Stg.wpAnyL_take (i := 2) (v := ?_) [3, 4, 5, 6] 0 rfl (by kernel_rfl) (by kernel_rfl) (by kernel_rfl) (by kernel_rfl) (by kernel_rfl) (fun _ _ _ h => h) (Or.inl ⟨by kernel_rfl, ?_⟩) (by assumption) ?_
  rotate_left
  · intro u hSu
    skip
    try simp only [List.getElem_toArray, List.getElem_cons_succ, List.getElem_cons_zero]
    go_simp
    try with_reducible rfl
  try simp only [Act.put, List.setIfInBounds_toArray, List.set_cons_zero, List.set_cons_succ]
  refine Stg.wpAnyL_start (n' := 4) (l' := #[true, true, true, false, false, false, false]) (by kernel_rfl) (by kernel_rfl) ?_
  refine Stg.wpAnyL_one (i := 3) 0 rfl (by kernel_rfl) (by kernel_rfl) (fun K hK => ?_)
  try simp only [List.getElem_toArray, List.getElem_cons_succ, List.getElem_cons_zero]
  go_simp
  refine (hl3 _ (hKeld rfl)).mono ?_
  rintro e v1 ⟨rfl, hb1⟩
  refine hK.out _ _ ?_ (fun hKeld1 => ?_)
  · exact fun _ => bNext (hKeld rfl) hb1 (Nat.le_refl _)
  clear hK K
  try simp only [Act.put, List.setIfInBounds_toArray, List.set_cons_zero, List.set_cons_succ]
  refine Stg.wpAnyL_one (i := 4) 1 rfl (by kernel_rfl) (by kernel_rfl) (fun K hK => ?_)
  have z0 := (rs3.out.bel (hKeld1 rfl)).c 0 _ rfl
  have z1 := (rs3.out.bel (hKeld1 rfl)).c 1 _ rfl
  have z2 := (rs3.out.bel (hKeld1 rfl)).f 0
  have z3 := (rs3.out.bel (hKeld1 rfl)).f 1
  try simp only [List.getElem_toArray, List.getElem_cons_succ, List.getElem_cons_zero]
  go_simp
  refine hK.out _ _ ?_ (fun hKeld2 => ?_)
  · exact fun h => absurd h (by decide)
  clear hK K
  try simp only [Act.put, List.setIfInBounds_toArray, List.set_cons_zero, List.set_cons_succ]
  refine Stg.wpAnyL_take (i := 5) (v := ?_) [6] 1 rfl (by kernel_rfl) (by kernel_rfl) (by kernel_rfl) (by kernel_rfl) (by kernel_rfl) (fun _ _ _ h => h) (Or.inl ⟨by kernel_rfl, ?_⟩) (by assumption) ?_
  rotate_left
  · intro u hSu
    skip
    try simp only [List.getElem_toArray, List.getElem_cons_succ, List.getElem_cons_zero]
    go_simp
    try with_reducible rfl
  try simp only [Act.put, List.setIfInBounds_toArray, List.set_cons_zero, List.set_cons_succ]
  refine Stg.wpAnyL_start (n' := 1) (l' := #[true, true, true, true, true, true, false]) (by kernel_rfl) (by kernel_rfl) ?_
  refine Stg.wpAnyL_take (i := 6) (v := ?_) [] 1 rfl (by kernel_rfl) (by kernel_rfl) (by kernel_rfl) (by kernel_rfl) (by kernel_rfl) (fun _ _ _ h => h) (Or.inl ⟨by kernel_rfl, ?_⟩) (by assumption) ?_
  rotate_left
  · intro u hSu
    skip
    try simp only [List.getElem_toArray, List.getElem_cons_succ, List.getElem_cons_zero]
    go_simp
    try with_reducible rfl
  try simp only [Act.put, List.setIfInBounds_toArray, List.set_cons_zero, List.set_cons_succ]
  refine Stg.wpAnyL_done (by kernel_rfl) ?_ _
  try simp only [List.getElem_toArray, List.getElem_cons_succ, List.getElem_cons_zero]
  try simp only [Act.put, List.setIfInBounds_toArray, List.set_cons_zero, List.set_cons_succ]
  refine NoPanic.normal ?_
  go_wp2_with fail
  refine bodyPost_ret (v := .tuple #[.agg #[.int .i64 V', .slice (some ⟨g', 0, none⟩) N c'], .int .i64 (leastK F (fun i => R i && decide (S i ≤ V')) N), .bool true]) (by simp [results, Try.results49, go_sem, z0, z1]) rfl ⟨_, g', _, rfl, ?_, fun h0 => ?_, ?_⟩
  · exact ((T3.out.bel (hKeld1 rfl)).set_other (fun h0 => by omega) _).set_other (fun h0 => by omega) _
  · have := hB2.size; show _ ≤ g'; omega
  · exact ((bNext hB3 (hKeld1 rfl) (Nat.le_refl _)).setCell (p := ⟨w.heap.size + 2, 0, none⟩) (by show _ ≤ w.heap.size + 2; omega) _).setCell (p := ⟨w.heap.size + 2, 1, none⟩) (by show _ ≤ w.heap.size + 2; omega) _
end Go.Proofs.Ytkefkophlhcbiaa
