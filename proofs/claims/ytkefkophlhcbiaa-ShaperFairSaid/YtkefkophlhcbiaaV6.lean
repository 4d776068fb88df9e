/- Virtual time: Wake and Next. -/
import Derived.Test.YtkefkophlhcbiaaV5
namespace Go.Proofs.Ytkefkophlhcbiaa
open Go.ChangeShapes Go.WideShapes Go.ChangeAt Go.RowKit
set_option linter.unusedVariables false
set_option linter.unusedSimpArgs false
open BigFrame Vr Pk Fq

namespace Vr
theorem max_fold25 (a b : Int) : (if a < b then b else a) = max a b := by omega
theorem costI_no {size weight all : Int} (h : size < 1 ∨ 1500 < size ∨ weight < 1 ∨ 16 < weight ∨ all < weight ∨ 128 < all) : costI size weight all = 0 := by unfold costI; rw [if_pos h]
theorem costI_ok {size weight all : Int} (h1 : 1 ≤ size) (h2 : size ≤ 1500) (h3 : 1 ≤ weight) (h4 : weight ≤ 16) (h5 : weight ≤ all) (h6 : all ≤ 128) : costI size weight all = size * all * (720720 / weight) := by unfold costI; rw [if_neg (by omega)]
theorem costI_bd (size weight all : Int) : costI size weight all = 0 ∨ (1 ≤ costI size weight all ∧ costI size weight all ≤ 138378240000) := by
  by_cases h : size < 1 ∨ 1500 < size ∨ weight < 1 ∨ 16 < weight ∨ all < weight ∨ 128 < all
  · exact .inl (costI_no h)
  · right
    rw [costI_ok (by omega) (by omega) (by omega) (by omega) (by omega) (by omega)]
    have q1 : 720720 / weight ≤ 720720 := Int.ediv_le_self _ (by omega)
    have q0 : 1 ≤ 720720 / weight := (Int.le_ediv_iff_mul_le (by omega)).2 (by omega)
    have m0 : 1 ≤ size * all := by have := Int.mul_le_mul (show 1 ≤ size by omega) (show 1 ≤ all by omega) (by omega) (by omega); omega
    have m1 : size * all ≤ 192000 := Int.le_trans (Int.mul_le_mul (show size ≤ 1500 by omega) (show all ≤ 128 by omega) (by omega) (by omega)) (by omega)
    constructor
    · have := Int.mul_le_mul m0 q0 (by omega) (by omega); omega
    · have := Int.mul_le_mul m1 q1 (by omega) (by omega); omega
end Vr
attribute [local go_sem] max_fold25

set_option maxRecDepth 100000 in
set_option maxHeartbeats 4000000 in
theorem vcost_c (size weight all : Int) (w : World) :
    Calls Try.prog 68 #[.int .i64 size, .int .i64 weight, .int .i64 all] w fun e w' => e = .returned (.int .i64 (costI size weight all)) ∧ w' = w := by
  by_cases h : size < 1 ∨ 1500 < size ∨ weight < 1 ∨ 16 < weight ∨ all < weight ∨ 128 < all
  · rw [costI_no h]; exact vcost_no size weight all w h
  · rw [costI_ok (by omega) (by omega) (by omega) (by omega) (by omega) (by omega)]
    exact vcost_ok size weight all w (by omega) (by omega) (by omega) (by omega) (by omega) (by omega)

set_option maxRecDepth 100000 in
set_option maxHeartbeats 4000000 in
theorem vofw_c (s f V : Int) (vx : Nat) (w : World) (hv : w.cell? ⟨vx, 0, none⟩ = some (.int .i64 V)) :
    Calls Try.prog 70 #[.agg #[.int .i64 s, .int .i64 f], .pointer (some ⟨vx, 0, none⟩)] w fun e w' => e = .returned (.int .i64 (max f V)) ∧ Below w.heap.size w w' := by
  have hl := World.block_lt_of_cell? _ _ hv
  replace hl : vx < w.heap.size := hl
  have hne : w.heap.size ≠ vx := by omega
  go_enter Try.func70, Try.ntmps70
  go_wp2_with fail
  exact bodyPost_ret (v := .int .i64 (max f V)) (by simp [results, Try.results70, go_sem]) rfl ⟨rfl, (Below.refl _ _).alloc (Nat.le_refl _) _⟩

namespace Vr
/-- What a call of Wake or Next leans on. -/
def VSt (w : World) (V : Int) (a : Option Addr) (N c : Nat) (u : World) : Prop :=
  Below w.heap.size w u ∧ u.cell? ⟨w.heap.size, 0, none⟩ = some (.int .i64 V) ∧ u.cell? ⟨w.heap.size, 1, none⟩ = some (.slice a N c) ∧ (∃ x y, Blk u (w.heap.size + 1) [x, y]) ∧ w.heap.size + 1 < u.heap.size
theorem VSt.bel {w : World} {V : Int} {a : Option Addr} {N c : Nat} {u u' : World} (h : VSt w V a N c u) (k : Below u.heap.size u u') : VSt w V a N c u' :=
  ⟨bNext h.1 k (Nat.le_refl _), cellB k h.2.1, cellB k h.2.2.1, (h.2.2.2.1.elim fun x q => q.elim fun y q => ⟨x, y, q.bel k⟩), Nat.lt_of_lt_of_le h.2.2.2.2 k.size⟩
theorem VSt.store {w : World} {V : Int} {a : Option Addr} {N c : Nat} {u : World} (h : VSt w V a N c u) (x y : Value) : VSt w V a N c ((u.setCell ⟨w.heap.size + 1, 0, none⟩ x).setCell ⟨w.heap.size + 1, 1, none⟩ y) := by
  obtain ⟨h1, h2, h3, ⟨p, q, h4⟩, h5⟩ := h
  refine ⟨(h1.setCell (p := ⟨w.heap.size + 1, 0, none⟩) (by show _ ≤ w.heap.size + 1; omega) _).setCell (p := ⟨w.heap.size + 1, 1, none⟩) (by show _ ≤ w.heap.size + 1; omega) _, ?_, ?_, ⟨x, y, (h4.set (i := 0) (by simp) x).set (i := 1) (by simp) y⟩, by simpa using h5⟩
  · exact (World.cell?_setCell_other _ _ _ _ (by simp <;> omega)).trans ((World.cell?_setCell_other _ _ _ _ (by simp <;> omega)).trans h2)
  · exact (World.cell?_setCell_other _ _ _ _ (by simp <;> omega)).trans ((World.cell?_setCell_other _ _ _ _ (by simp <;> omega)).trans h3)
theorem VSt.res {w : World} {V : Int} {a : Option Addr} {N c : Nat} {u : World} (h : VSt w V a N c u) : ∃ x y, u.cell? ⟨w.heap.size + 1, 0, none⟩ = some x ∧ u.cell? ⟨w.heap.size + 1, 1, none⟩ = some y ∧ u.frozen? ⟨w.heap.size + 1, 0, none⟩ = false ∧ u.frozen? ⟨w.heap.size + 1, 1, none⟩ = false := by
  obtain ⟨h1, h2, h3, ⟨p, q, h4⟩, h5⟩ := h
  exact ⟨p, q, h4.c 0 _ rfl, h4.c 1 _ rfl, h4.f 0, h4.f 1⟩
end Vr

set_option maxRecDepth 100000 in
set_option maxHeartbeats 4000000 in
theorem vwake_c (V k size weight all : Int) (N : Nat) (a : Option Addr) (b off c : Nat) (S F : Nat → Int) (w : World) (T : TagsAt w a b off N S F) (hN : N ≤ 1000) :
    Calls Try.prog 59 #[.agg #[.int .i64 V, .slice a N c], .int .i64 k, .int .i64 size, .int .i64 weight, .int .i64 all] w (VirX (tagR V N S F k (costI size weight all) (max (F k.toNat) V)) w) := by
  obtain ⟨st, hst⟩ : ∃ st, (max (F k.toNat) V) = st := ⟨_, rfl⟩
  obtain ⟨cc, hcc⟩ : ∃ cc, costI size weight all = cc := ⟨_, rfl⟩
  have hbd := costI_bd size weight all
  have hcost := fun W => vcost_c size weight all W
  have hB0 : Below w.heap.size w ((w.alloc (.cells #[.int .i64 V, .slice a N c] 96)).alloc (.cells #[.int .i64 0, .slice none 0 0] 96)) := ((Below.refl _ _).alloc (Nat.le_refl _) _).alloc (by simp) _
  have bx0 : Blk ((w.alloc (.cells #[.int .i64 V, .slice a N c] 96)).alloc (.cells #[.int .i64 0, .slice none 0 0] 96)) w.heap.size [.int .i64 V, .slice a N c] := ⟨fun i x hx => by
    rcases i with _ | _ | i
    · simp at hx; subst hx; go_simp
    · simp at hx; subst hx; go_simp
    · simp at hx, fun o => by go_simp, by simp <;> omega⟩
  have rs0 : Blk ((w.alloc (.cells #[.int .i64 V, .slice a N c] 96)).alloc (.cells #[.int .i64 0, .slice none 0 0] 96)) (w.heap.size + 1) [.int .i64 0, .slice none 0 0] := ⟨fun i x hx => by
    rcases i with _ | _ | i
    · simp at hx; subst hx; go_simp
    · simp at hx; subst hx; go_simp
    · simp at hx, fun o => by go_simp, by simp <;> omega⟩
  have htag : ∀ U, VSt w V a N c U → Calls Try.prog 67 #[.agg #[.int .i64 V, .slice a N c], .int .i64 k, .int .i64 cc, .func (.func 70) #[] #[.pointer (some ⟨w.heap.size, 0, none⟩)]] U (VirX (tagR V N S F k cc st) U) := by
    intro U hU
    obtain ⟨hUB, hU0, hU1, _, _⟩ := hU
    refine vtagx_c 70 (fun _ _ => by rfl) #[.pointer (some ⟨w.heap.size, 0, none⟩)] V k N cc st a b off c S F U (T.bel hUB) hN (by rw [← hcc]; exact hbd) (fun h1 h2 h3 => ?_) (fun W j hj hjN hW => ?_)
    · have := h1.2.2.2 k.toNat (by omega)
      rw [← hst]; omega
    · subst hj
      rw [Int.toNat_natCast] at hst
      rw [← hst]
      exact vofw_c (S j) (F j) V w.heap.size W ((hW.cell (p := ⟨w.heap.size, 0, none⟩) (World.block_lt_of_cell? _ _ hU0)).trans hU0)
  rw [hcc] at hcost
  rw [hcc, hst]
  generalize tagR V N S F k cc st = R at htag ⊢
  have hS0 : VSt w V a N c ((w.alloc (.cells #[.int .i64 V, .slice a N c] 96)).alloc (.cells #[.int .i64 0, .slice none 0 0] 96)) := ⟨hB0, bx0.c 0 _ rfl, bx0.c 1 _ rfl, ⟨_, _, rs0⟩, by simp⟩
  clear T hst hcc hbd bx0 rs0 hB0
  go_enter Try.func59, Try.ntmps59
  go_upto_region 1 with fail
  generalize (w.alloc (.cells #[.int .i64 V, .slice a N c] 96)).alloc (.cells #[.int .i64 0, .slice none 0 0] 96) = W0 at hS0 ⊢
  refine wp_region_noPanic ?_
  refine wp_region_held_drew (S := fun u => VSt w V a N c u) (by kernel_rfl) (hS0.bel (Below.refl _ _).drew) (fun hHeld => ?_)
  refine wpAnyH_start2 (n' := 12) (l' := #[false, false, false, false, false, false, false, false, false, false, false, false]) (by kernel_rfl) (by kernel_rfl) ?_
  refine wpAnyH_take (i := 0) (v := ?_) rfl (by kernel_rfl) (by kernel_rfl) (by kernel_rfl) (fun _ _ _ h => h) (Or.inl ⟨by kernel_rfl, ?_⟩) (by assumption) ?_
  rotate_left
  · intro u hSu
    obtain ⟨sB, s0, s1, _, _⟩ := hSu
    try simp only [List.getElem_toArray, List.getElem_cons_succ, List.getElem_cons_zero]
    go_simp
    try with_reducible rfl
  try simp only [Act.put, List.setIfInBounds_toArray, List.set_cons_zero, List.set_cons_succ]
  refine wpAnyH_take (i := 1) (v := ?_) rfl (by kernel_rfl) (by kernel_rfl) (by kernel_rfl) (fun _ _ _ h => h) (Or.inl ⟨by kernel_rfl, ?_⟩) (by assumption) ?_
  rotate_left
  · intro u hSu
    obtain ⟨sB, s0, s1, _, _⟩ := hSu
    try simp only [List.getElem_toArray, List.getElem_cons_succ, List.getElem_cons_zero]
    go_simp
    try with_reducible rfl
  try simp only [Act.put, List.setIfInBounds_toArray, List.set_cons_zero, List.set_cons_succ]
  refine wpAnyH_take (i := 2) (v := ?_) rfl (by kernel_rfl) (by kernel_rfl) (by kernel_rfl) (fun _ _ _ h => h) (Or.inl ⟨by kernel_rfl, ?_⟩) (by assumption) ?_
  rotate_left
  · intro u hSu
    obtain ⟨sB, s0, s1, _, _⟩ := hSu
    try simp only [List.getElem_toArray, List.getElem_cons_succ, List.getElem_cons_zero]
    go_simp
    try with_reducible rfl
  try simp only [Act.put, List.setIfInBounds_toArray, List.set_cons_zero, List.set_cons_succ]
  refine wpAnyH_start2 (n' := 9) (l' := #[true, true, true, false, false, false, false, false, false, false, false, false]) (by kernel_rfl) (by kernel_rfl) ?_
  refine wpAnyH_take (i := 3) (v := ?_) rfl (by kernel_rfl) (by kernel_rfl) (by kernel_rfl) (fun _ _ _ h => h) (Or.inl ⟨by kernel_rfl, ?_⟩) (by assumption) ?_
  rotate_left
  · intro u hSu
    obtain ⟨sB, s0, s1, _, _⟩ := hSu
    try simp only [List.getElem_toArray, List.getElem_cons_succ, List.getElem_cons_zero]
    go_simp
    try with_reducible rfl
  try simp only [Act.put, List.setIfInBounds_toArray, List.set_cons_zero, List.set_cons_succ]
  refine wpAnyH_take (i := 4) (v := ?_) rfl (by kernel_rfl) (by kernel_rfl) (by kernel_rfl) (fun _ _ _ h => h) (Or.inl ⟨by kernel_rfl, ?_⟩) (by assumption) ?_
  rotate_left
  · intro u hSu
    obtain ⟨sB, s0, s1, _, _⟩ := hSu
    try simp only [List.getElem_toArray, List.getElem_cons_succ, List.getElem_cons_zero]
    go_simp
    try with_reducible rfl
  try simp only [Act.put, List.setIfInBounds_toArray, List.set_cons_zero, List.set_cons_succ]
  refine wpAnyH_take (i := 6) (v := ?_) rfl (by kernel_rfl) (by kernel_rfl) (by kernel_rfl) (fun _ _ _ h => h) (Or.inl ⟨by kernel_rfl, ?_⟩) (by assumption) ?_
  rotate_left
  · intro u hSu
    obtain ⟨sB, s0, s1, _, _⟩ := hSu
    try simp only [List.getElem_toArray, List.getElem_cons_succ, List.getElem_cons_zero]
    go_simp
    try with_reducible rfl
  try simp only [Act.put, List.setIfInBounds_toArray, List.set_cons_zero, List.set_cons_succ]
  refine wpAnyH_start2 (n' := 6) (l' := #[true, true, true, true, true, false, true, false, false, false, false, false]) (by kernel_rfl) (by kernel_rfl) ?_
  refine wpAnyH_ready (rs := [5]) (by kernel_rfl) (by simp) ?_
  refine AllReadyH.cons rfl (fun K hK => ?_) AllReadyH.nil
  try simp only [List.getElem_toArray, List.getElem_cons_succ, List.getElem_cons_zero]
  go_simp
  refine (hcost _).mono ?_
  rintro e u1 ⟨rfl, rfl⟩
  refine hK.out _ _ ?_ (fun hHeld1 => ?_)
  · exact hHeld
  clear hK K
  try simp only [Act.put, List.setIfInBounds_toArray, List.set_cons_zero, List.set_cons_succ]
  refine wpAnyH_ready (rs := [7]) (by kernel_rfl) (by simp) ?_
  refine AllReadyH.cons rfl (fun K hK => ?_) AllReadyH.nil
  try simp only [List.getElem_toArray, List.getElem_cons_succ, List.getElem_cons_zero]
  go_simp
  refine (htag _ hHeld1).mono ?_
  rintro e u2 ⟨a', g', c', rfl, T2, hg, hb2⟩
  refine hK.out _ _ ?_ (fun hHeld2 => ?_)
  · exact hHeld1.bel hb2
  clear hK K
  try simp only [Act.put, List.setIfInBounds_toArray, List.set_cons_zero, List.set_cons_succ]
  refine wpAnyH_take (i := 8) (v := ?_) rfl (by kernel_rfl) (by kernel_rfl) (by kernel_rfl) (fun _ _ _ h => h) (Or.inl ⟨by kernel_rfl, ?_⟩) (by assumption) ?_
  rotate_left
  · intro u hSu
    obtain ⟨sB, s0, s1, _, _⟩ := hSu
    try simp only [List.getElem_toArray, List.getElem_cons_succ, List.getElem_cons_zero]
    go_simp
    try with_reducible rfl
  try simp only [Act.put, List.setIfInBounds_toArray, List.set_cons_zero, List.set_cons_succ]
  refine wpAnyH_start2 (n' := 3) (l' := #[true, true, true, true, true, true, true, true, true, false, false, false]) (by kernel_rfl) (by kernel_rfl) ?_
  refine wpAnyH_take (i := 9) (v := ?_) rfl (by kernel_rfl) (by kernel_rfl) (by kernel_rfl) (fun _ _ _ h => h) (Or.inl ⟨by kernel_rfl, ?_⟩) (by assumption) ?_
  rotate_left
  · intro u hSu
    obtain ⟨sB, s0, s1, _, _⟩ := hSu
    try simp only [List.getElem_toArray, List.getElem_cons_succ, List.getElem_cons_zero]
    go_simp
    try with_reducible rfl
  try simp only [Act.put, List.setIfInBounds_toArray, List.set_cons_zero, List.set_cons_succ]
  refine wpAnyH_ready (rs := [10]) (by kernel_rfl) (by simp) ?_
  refine AllReadyH.cons rfl (fun K hK => ?_) AllReadyH.nil
  obtain ⟨y0, y1, r0, r1, r2, r3⟩ := hHeld2.res
  try simp only [List.getElem_toArray, List.getElem_cons_succ, List.getElem_cons_zero]
  go_simp
  refine hK.out _ _ ?_ (fun hHeld3 => ?_)
  · exact ((hHeld2).store _ _)
  clear hK K
  try simp only [Act.put, List.setIfInBounds_toArray, List.set_cons_zero, List.set_cons_succ]
  refine wpAnyH_take (i := 11) (v := ?_) rfl (by kernel_rfl) (by kernel_rfl) (by kernel_rfl) (fun _ _ _ h => h) (Or.inl ⟨by kernel_rfl, ?_⟩) (by assumption) ?_
  rotate_left
  · intro u hSu
    obtain ⟨sB, s0, s1, _, _⟩ := hSu
    try simp only [List.getElem_toArray, List.getElem_cons_succ, List.getElem_cons_zero]
    go_simp
    try with_reducible rfl
  try simp only [Act.put, List.setIfInBounds_toArray, List.set_cons_zero, List.set_cons_succ]
  refine wpAnyH_done (by kernel_rfl) ?_ _
  try simp only [List.getElem_toArray, List.getElem_cons_succ, List.getElem_cons_zero]
  try simp only [Act.put, List.setIfInBounds_toArray, List.set_cons_zero, List.set_cons_succ]
  refine NoPanic.normal ?_
  have hz := hHeld1.2.2.2.2
  go_wp2_with fail
  refine bodyPost_ret (v := .tuple #[.agg #[.int .i64 R.V, .slice a' R.N c'], .int .i64 R.x]) (by simp [results, Try.results59, go_sem, r0, r1]) rfl ⟨_, g', _, rfl, ?_, fun h0 => ?_, hHeld3.1⟩
  · exact (T2.set_other (fun h0 => by have := hg h0; omega) _).set_other (fun h0 => by have := hg h0; omega) _
  · have := hg h0; omega

set_option maxRecDepth 100000 in
set_option maxHeartbeats 4000000 in
theorem vnext_c (V k size weight all : Int) (N : Nat) (a : Option Addr) (b off c : Nat) (S F : Nat → Int) (w : World) (T : TagsAt w a b off N S F) (hN : N ≤ 1000) :
    Calls Try.prog 58 #[.agg #[.int .i64 V, .slice a N c], .int .i64 k, .int .i64 size, .int .i64 weight, .int .i64 all] w (VirX (tagR V N S F k (costI size weight all) (F k.toNat)) w) := by
  obtain ⟨st, hst⟩ : ∃ st, (F k.toNat) = st := ⟨_, rfl⟩
  obtain ⟨cc, hcc⟩ : ∃ cc, costI size weight all = cc := ⟨_, rfl⟩
  have hbd := costI_bd size weight all
  have hcost := fun W => vcost_c size weight all W
  have hB0 : Below w.heap.size w ((w.alloc (.cells #[.int .i64 V, .slice a N c] 96)).alloc (.cells #[.int .i64 0, .slice none 0 0] 96)) := ((Below.refl _ _).alloc (Nat.le_refl _) _).alloc (by simp) _
  have bx0 : Blk ((w.alloc (.cells #[.int .i64 V, .slice a N c] 96)).alloc (.cells #[.int .i64 0, .slice none 0 0] 96)) w.heap.size [.int .i64 V, .slice a N c] := ⟨fun i x hx => by
    rcases i with _ | _ | i
    · simp at hx; subst hx; go_simp
    · simp at hx; subst hx; go_simp
    · simp at hx, fun o => by go_simp, by simp <;> omega⟩
  have rs0 : Blk ((w.alloc (.cells #[.int .i64 V, .slice a N c] 96)).alloc (.cells #[.int .i64 0, .slice none 0 0] 96)) (w.heap.size + 1) [.int .i64 0, .slice none 0 0] := ⟨fun i x hx => by
    rcases i with _ | _ | i
    · simp at hx; subst hx; go_simp
    · simp at hx; subst hx; go_simp
    · simp at hx, fun o => by go_simp, by simp <;> omega⟩
  have htag : ∀ U, VSt w V a N c U → Calls Try.prog 67 #[.agg #[.int .i64 V, .slice a N c], .int .i64 k, .int .i64 cc, .func (.func 69) #[] #[]] U (VirX (tagR V N S F k cc st) U) := by
    intro U hU
    obtain ⟨hUB, hU0, hU1, _, _⟩ := hU
    refine vtagx_c 69 (fun _ _ => by rfl) #[] V k N cc st a b off c S F U (T.bel hUB) hN (by rw [← hcc]; exact hbd) (fun h1 h2 h3 => ?_) (fun W j hj hjN hW => ?_)
    · have := h1.2.2.2 k.toNat (by omega)
      rw [← hst]; omega
    · subst hj
      rw [Int.toNat_natCast] at hst
      rw [← hst]
      exact vofn_c (S j) (F j) W
  rw [hcc] at hcost
  rw [hcc, hst]
  generalize tagR V N S F k cc st = R at htag ⊢
  have hS0 : VSt w V a N c ((w.alloc (.cells #[.int .i64 V, .slice a N c] 96)).alloc (.cells #[.int .i64 0, .slice none 0 0] 96)) := ⟨hB0, bx0.c 0 _ rfl, bx0.c 1 _ rfl, ⟨_, _, rs0⟩, by simp⟩
  clear T hst hcc hbd bx0 rs0 hB0
  go_enter Try.func58, Try.ntmps58
  go_upto_region 1 with fail
  generalize (w.alloc (.cells #[.int .i64 V, .slice a N c] 96)).alloc (.cells #[.int .i64 0, .slice none 0 0] 96) = W0 at hS0 ⊢
  refine wp_region_noPanic ?_
  refine wp_region_held_drew (S := fun u => VSt w V a N c u) (by kernel_rfl) (hS0.bel (Below.refl _ _).drew) (fun hHeld => ?_)
  refine wpAnyH_start2 (n' := 11) (l' := #[false, false, false, false, false, false, false, false, false, false, false]) (by kernel_rfl) (by kernel_rfl) ?_
  refine wpAnyH_take (i := 0) (v := ?_) rfl (by kernel_rfl) (by kernel_rfl) (by kernel_rfl) (fun _ _ _ h => h) (Or.inl ⟨by kernel_rfl, ?_⟩) (by assumption) ?_
  rotate_left
  · intro u hSu
    obtain ⟨sB, s0, s1, _, _⟩ := hSu
    try simp only [List.getElem_toArray, List.getElem_cons_succ, List.getElem_cons_zero]
    go_simp
    try with_reducible rfl
  try simp only [Act.put, List.setIfInBounds_toArray, List.set_cons_zero, List.set_cons_succ]
  refine wpAnyH_take (i := 1) (v := ?_) rfl (by kernel_rfl) (by kernel_rfl) (by kernel_rfl) (fun _ _ _ h => h) (Or.inl ⟨by kernel_rfl, ?_⟩) (by assumption) ?_
  rotate_left
  · intro u hSu
    obtain ⟨sB, s0, s1, _, _⟩ := hSu
    try simp only [List.getElem_toArray, List.getElem_cons_succ, List.getElem_cons_zero]
    go_simp
    try with_reducible rfl
  try simp only [Act.put, List.setIfInBounds_toArray, List.set_cons_zero, List.set_cons_succ]
  refine wpAnyH_take (i := 2) (v := ?_) rfl (by kernel_rfl) (by kernel_rfl) (by kernel_rfl) (fun _ _ _ h => h) (Or.inl ⟨by kernel_rfl, ?_⟩) (by assumption) ?_
  rotate_left
  · intro u hSu
    obtain ⟨sB, s0, s1, _, _⟩ := hSu
    try simp only [List.getElem_toArray, List.getElem_cons_succ, List.getElem_cons_zero]
    go_simp
    try with_reducible rfl
  try simp only [Act.put, List.setIfInBounds_toArray, List.set_cons_zero, List.set_cons_succ]
  refine wpAnyH_start2 (n' := 8) (l' := #[true, true, true, false, false, false, false, false, false, false, false]) (by kernel_rfl) (by kernel_rfl) ?_
  refine wpAnyH_take (i := 3) (v := ?_) rfl (by kernel_rfl) (by kernel_rfl) (by kernel_rfl) (fun _ _ _ h => h) (Or.inl ⟨by kernel_rfl, ?_⟩) (by assumption) ?_
  rotate_left
  · intro u hSu
    obtain ⟨sB, s0, s1, _, _⟩ := hSu
    try simp only [List.getElem_toArray, List.getElem_cons_succ, List.getElem_cons_zero]
    go_simp
    try with_reducible rfl
  try simp only [Act.put, List.setIfInBounds_toArray, List.set_cons_zero, List.set_cons_succ]
  refine wpAnyH_take (i := 4) (v := ?_) rfl (by kernel_rfl) (by kernel_rfl) (by kernel_rfl) (fun _ _ _ h => h) (Or.inl ⟨by kernel_rfl, ?_⟩) (by assumption) ?_
  rotate_left
  · intro u hSu
    obtain ⟨sB, s0, s1, _, _⟩ := hSu
    try simp only [List.getElem_toArray, List.getElem_cons_succ, List.getElem_cons_zero]
    go_simp
    try with_reducible rfl
  try simp only [Act.put, List.setIfInBounds_toArray, List.set_cons_zero, List.set_cons_succ]
  refine wpAnyH_ready (rs := [5]) (by kernel_rfl) (by simp) ?_
  refine AllReadyH.cons rfl (fun K hK => ?_) AllReadyH.nil
  try simp only [List.getElem_toArray, List.getElem_cons_succ, List.getElem_cons_zero]
  go_simp
  refine (hcost _).mono ?_
  rintro e u1 ⟨rfl, rfl⟩
  refine hK.out _ _ ?_ (fun hHeld1 => ?_)
  · exact hHeld
  clear hK K
  try simp only [Act.put, List.setIfInBounds_toArray, List.set_cons_zero, List.set_cons_succ]
  refine wpAnyH_start2 (n' := 5) (l' := #[true, true, true, true, true, true, false, false, false, false, false]) (by kernel_rfl) (by kernel_rfl) ?_
  refine wpAnyH_ready (rs := [6]) (by kernel_rfl) (by simp) ?_
  refine AllReadyH.cons rfl (fun K hK => ?_) AllReadyH.nil
  try simp only [List.getElem_toArray, List.getElem_cons_succ, List.getElem_cons_zero]
  go_simp
  refine (htag _ hHeld1).mono ?_
  rintro e u2 ⟨a', g', c', rfl, T2, hg, hb2⟩
  refine hK.out _ _ ?_ (fun hHeld2 => ?_)
  · exact hHeld1.bel hb2
  clear hK K
  try simp only [Act.put, List.setIfInBounds_toArray, List.set_cons_zero, List.set_cons_succ]
  refine wpAnyH_take (i := 7) (v := ?_) rfl (by kernel_rfl) (by kernel_rfl) (by kernel_rfl) (fun _ _ _ h => h) (Or.inl ⟨by kernel_rfl, ?_⟩) (by assumption) ?_
  rotate_left
  · intro u hSu
    obtain ⟨sB, s0, s1, _, _⟩ := hSu
    try simp only [List.getElem_toArray, List.getElem_cons_succ, List.getElem_cons_zero]
    go_simp
    try with_reducible rfl
  try simp only [Act.put, List.setIfInBounds_toArray, List.set_cons_zero, List.set_cons_succ]
  refine wpAnyH_take (i := 8) (v := ?_) rfl (by kernel_rfl) (by kernel_rfl) (by kernel_rfl) (fun _ _ _ h => h) (Or.inl ⟨by kernel_rfl, ?_⟩) (by assumption) ?_
  rotate_left
  · intro u hSu
    obtain ⟨sB, s0, s1, _, _⟩ := hSu
    try simp only [List.getElem_toArray, List.getElem_cons_succ, List.getElem_cons_zero]
    go_simp
    try with_reducible rfl
  try simp only [Act.put, List.setIfInBounds_toArray, List.set_cons_zero, List.set_cons_succ]
  refine wpAnyH_start2 (n' := 2) (l' := #[true, true, true, true, true, true, true, true, true, false, false]) (by kernel_rfl) (by kernel_rfl) ?_
  refine wpAnyH_ready (rs := [9]) (by kernel_rfl) (by simp) ?_
  refine AllReadyH.cons rfl (fun K hK => ?_) AllReadyH.nil
  obtain ⟨y0, y1, r0, r1, r2, r3⟩ := hHeld2.res
  try simp only [List.getElem_toArray, List.getElem_cons_succ, List.getElem_cons_zero]
  go_simp
  refine hK.out _ _ ?_ (fun hHeld3 => ?_)
  · exact ((hHeld2).store _ _)
  clear hK K
  try simp only [Act.put, List.setIfInBounds_toArray, List.set_cons_zero, List.set_cons_succ]
  refine wpAnyH_take (i := 10) (v := ?_) rfl (by kernel_rfl) (by kernel_rfl) (by kernel_rfl) (fun _ _ _ h => h) (Or.inl ⟨by kernel_rfl, ?_⟩) (by assumption) ?_
  rotate_left
  · intro u hSu
    obtain ⟨sB, s0, s1, _, _⟩ := hSu
    try simp only [List.getElem_toArray, List.getElem_cons_succ, List.getElem_cons_zero]
    go_simp
    try with_reducible rfl
  try simp only [Act.put, List.setIfInBounds_toArray, List.set_cons_zero, List.set_cons_succ]
  refine wpAnyH_done (by kernel_rfl) ?_ _
  try simp only [List.getElem_toArray, List.getElem_cons_succ, List.getElem_cons_zero]
  try simp only [Act.put, List.setIfInBounds_toArray, List.set_cons_zero, List.set_cons_succ]
  refine NoPanic.normal ?_
  have hz := hHeld1.2.2.2.2
  go_wp2_with fail
  refine bodyPost_ret (v := .tuple #[.agg #[.int .i64 R.V, .slice a' R.N c'], .int .i64 R.x]) (by simp [results, Try.results58, go_sem, r0, r1]) rfl ⟨_, g', _, rfl, ?_, fun h0 => ?_, hHeld3.1⟩
  · exact (T2.set_other (fun h0 => by have := hg h0; omega) _).set_other (fun h0 => by have := hg h0; omega) _
  · have := hg h0; omega
end Go.Proofs.Ytkefkophlhcbiaa
