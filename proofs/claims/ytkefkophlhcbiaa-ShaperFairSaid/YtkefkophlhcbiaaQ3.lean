/- Queues of packets: looking into the ring, and taking its first packet away. -/
import Derived.Test.YtkefkophlhcbiaaQ2
namespace Go.Proofs.Ytkefkophlhcbiaa
open Go.ChangeShapes Go.WideShapes Go.ChangeAt Go.RowKit
set_option linter.unusedVariables false
set_option linter.unusedSimpArgs false
open Pk BigFrame Fq

set_option maxRecDepth 100000 in
set_option maxHeartbeats 2000000 in
theorem rlook_c (qb rb room pos n by_ dr kk : Nat) (num t C : Int) (a : Option Addr) (m cm : Nat) (pk : Nat → Nat → Value) (w : World) (h : QAt w qb rb room pos n by_ dr) (hr : RingAt w rb room pk) (hkk : kk ≤ 64) (v0 : pk ((pos + kk) % room) 0 = .int .i64 num) (v1 : pk ((pos + kk) % room) 1 = .int .i64 t) (v2 : pk ((pos + kk) % room) 2 = .int .i64 C) (v3 : pk ((pos + kk) % room) 3 = .slice a m cm) :
    Calls Try.prog 45 #[.pointer (some ⟨qb, 0, none⟩), .int .i64 (kk : Nat)] w fun e w' => e = .returned (.agg #[.int .i64 num, .int .i64 t, .int .i64 C, .slice a m cm]) ∧ Below w.heap.size w w' := by
  have hq : qb < w.heap.size := World.block_lt_of_cell? _ _ h.c0
  obtain ⟨k, hk⟩ : ∃ k, (pos + kk) % room = k := ⟨_, rfl⟩
  have hkr : k < room := by rw [← hk]; exact Nat.mod_lt _ (by have := h.room1; omega)
  have hkI : ((pos : Int) + (kk : Int)) % (room : Int) = (k : Nat) := by rw [← hk, Int.natCast_emod, Int.natCast_add]
  have hkr' : (k : Int) < (room : Int) := by omega
  have r0 : (room : Int) ≤ 64 := by have := h.room2; omega
  have r1 : ¬ (room : Int) = 0 := by have := h.room1; omega
  have r1n : ¬ room = 0 := by have := h.room1; omega
  have r2 : (pos : Int) < (room : Int) := by have := h.pos1; omega
  have hw1 : IntKind.i64.wrap ((pos : Int) + (kk : Int)) = (pos : Int) + (kk : Int) := IntWalk.i64_in _ ⟨by omega, by omega⟩
  have hkT : ((pos : Int) + (kk : Int)).tmod (room : Int) = (k : Nat) := by rw [Int.tmod_eq_emod_of_nonneg (by omega)]; exact hkI
  rw [hk] at v0 v1 v2 v3
  have hB := (Below.refl w.heap.size w).alloc (Nat.le_refl _) (.cells #[.int .i64 0, .int .i64 0, .int .i64 0, .slice none 0 0] 38)
  have hQ := h.below hB
  have hR := hr.below h.rl hB
  have c0 := hQ.c0
  have c1 := hQ.c1
  have y0 := hR k 0 hkr (by omega)
  rw [Nat.add_zero, v0] at y0
  have y1 := hR k 1 hkr (by omega)
  rw [v1] at y1
  have y2 := hR k 2 hkr (by omega)
  rw [v2] at y2
  have y3 := hR k 3 hkr (by omega)
  rw [v3] at y3
  have x0 : (w.alloc (.cells #[.int .i64 0, .int .i64 0, .int .i64 0, .slice none 0 0] 38)).cell? ⟨w.heap.size, 0, none⟩ = some (.int .i64 0) := by go_simp
  have x1 : (w.alloc (.cells #[.int .i64 0, .int .i64 0, .int .i64 0, .slice none 0 0] 38)).cell? ⟨w.heap.size, 1, none⟩ = some (.int .i64 0) := by go_simp
  have x2 : (w.alloc (.cells #[.int .i64 0, .int .i64 0, .int .i64 0, .slice none 0 0] 38)).cell? ⟨w.heap.size, 2, none⟩ = some (.int .i64 0) := by go_simp
  have x3 : (w.alloc (.cells #[.int .i64 0, .int .i64 0, .int .i64 0, .slice none 0 0] 38)).cell? ⟨w.heap.size, 3, none⟩ = some (.slice none 0 0) := by go_simp
  have xf : ∀ o, (w.alloc (.cells #[.int .i64 0, .int .i64 0, .int .i64 0, .slice none 0 0] 38)).frozen? ⟨w.heap.size, o, none⟩ = false := fun o => by go_simp
  have hne2 : w.heap.size ≠ rb := by have := h.rl; omega
  have hne3 : w.heap.size ≠ qb := by omega
  have hne4 : rb ≠ w.heap.size := by have := h.rl; omega
  have hne5 : qb ≠ w.heap.size := by omega
  go_enter Try.func45, Try.ntmps45
  go_wp2_with fail
  generalize (w.alloc (.cells #[.int .i64 0, .int .i64 0, .int .i64 0, .slice none 0 0] 38)) = W at hB hQ hR c0 c1 y0 y1 y2 y3 x0 x1 x2 x3 xf ⊢
  refine wp_region_noPanic ?_
  refine wp_region_held_drew (S := fun u => u.cell? ⟨qb, 0, none⟩ = some (.slice (some ⟨rb, 0, none⟩) room room) ∧ u.cell? ⟨qb, 1, none⟩ = some (.int .i64 (pos : Nat)) ∧ u.cell? ⟨rb, k * 4, none⟩ = some (.int .i64 num) ∧ u.cell? ⟨rb, k * 4 + 1, none⟩ = some (.int .i64 t) ∧ u.cell? ⟨rb, k * 4 + 2, none⟩ = some (.int .i64 C) ∧ u.cell? ⟨rb, k * 4 + 3, none⟩ = some (.slice a m cm)) (by kernel_rfl) (⟨by simpa using c0, by simpa using c1, by simpa using y0, by simpa using y1, by simpa using y2, by simpa using y3⟩) (fun hHeld => ?_)
  refine wpAnyH_start2 (n' := 19) (l' := #[false, false, false, false, false, false, false, false, false, false, false, false, false, false, false, false, false, false, false]) (by kernel_rfl) (by kernel_rfl) ?_
  refine wpAnyH_take (i := 0) (v := ?_) rfl (by kernel_rfl) (by kernel_rfl) (by kernel_rfl) (fun _ _ _ h => h) (Or.inl ⟨by rfl, ?_⟩) (by assumption) ?_
  rotate_left
  · intro u hSu
    obtain ⟨s0, s1, s2, s3, s4, s5⟩ := hSu
    try simp only [List.getElem_toArray, List.getElem_cons_succ, List.getElem_cons_zero]
    go_simp
    try with_reducible rfl
  try simp only [Act.put, List.setIfInBounds_toArray, List.set_cons_zero, List.set_cons_succ]
  refine wpAnyH_take (i := 1) (v := ?_) rfl (by kernel_rfl) (by kernel_rfl) (by kernel_rfl) (fun _ _ _ h => h) (Or.inl ⟨by rfl, ?_⟩) (by assumption) ?_
  rotate_left
  · intro u hSu
    obtain ⟨s0, s1, s2, s3, s4, s5⟩ := hSu
    try simp only [List.getElem_toArray, List.getElem_cons_succ, List.getElem_cons_zero]
    go_simp
    try with_reducible rfl
  try simp only [Act.put, List.setIfInBounds_toArray, List.set_cons_zero, List.set_cons_succ]
  refine wpAnyH_take (i := 2) (v := ?_) rfl (by kernel_rfl) (by kernel_rfl) (by kernel_rfl) (fun _ _ _ h => h) (Or.inl ⟨by rfl, ?_⟩) (by assumption) ?_
  rotate_left
  · intro u hSu
    obtain ⟨s0, s1, s2, s3, s4, s5⟩ := hSu
    try simp only [List.getElem_toArray, List.getElem_cons_succ, List.getElem_cons_zero]
    go_simp
    try with_reducible rfl
  try simp only [Act.put, List.setIfInBounds_toArray, List.set_cons_zero, List.set_cons_succ]
  refine wpAnyH_take (i := 3) (v := ?_) rfl (by kernel_rfl) (by kernel_rfl) (by kernel_rfl) (fun _ _ _ h => h) (Or.inl ⟨by rfl, ?_⟩) (by assumption) ?_
  rotate_left
  · intro u hSu
    obtain ⟨s0, s1, s2, s3, s4, s5⟩ := hSu
    try simp only [List.getElem_toArray, List.getElem_cons_succ, List.getElem_cons_zero]
    go_simp
    try with_reducible rfl
  try simp only [Act.put, List.setIfInBounds_toArray, List.set_cons_zero, List.set_cons_succ]
  refine wpAnyH_take (i := 4) (v := ?_) rfl (by kernel_rfl) (by kernel_rfl) (by kernel_rfl) (fun _ _ _ h => h) (Or.inl ⟨by rfl, ?_⟩) (by assumption) ?_
  rotate_left
  · intro u hSu
    obtain ⟨s0, s1, s2, s3, s4, s5⟩ := hSu
    try simp only [List.getElem_toArray, List.getElem_cons_succ, List.getElem_cons_zero]
    go_simp
    try with_reducible rfl
  try simp only [Act.put, List.setIfInBounds_toArray, List.set_cons_zero, List.set_cons_succ]
  refine wpAnyH_take (i := 5) (v := ?_) rfl (by kernel_rfl) (by kernel_rfl) (by kernel_rfl) (fun _ _ _ h => h) (Or.inl ⟨by rfl, ?_⟩) (by assumption) ?_
  rotate_left
  · intro u hSu
    obtain ⟨s0, s1, s2, s3, s4, s5⟩ := hSu
    try simp only [List.getElem_toArray, List.getElem_cons_succ, List.getElem_cons_zero]
    go_simp
    try with_reducible rfl
  try simp only [Act.put, List.setIfInBounds_toArray, List.set_cons_zero, List.set_cons_succ]
  refine wpAnyH_take (i := 6) (v := ?_) rfl (by kernel_rfl) (by kernel_rfl) (by kernel_rfl) (fun _ _ _ h => h) (Or.inl ⟨by rfl, ?_⟩) (by assumption) ?_
  rotate_left
  · intro u hSu
    obtain ⟨s0, s1, s2, s3, s4, s5⟩ := hSu
    try simp only [List.getElem_toArray, List.getElem_cons_succ, List.getElem_cons_zero]
    go_simp
    try with_reducible rfl
  try simp only [Act.put, List.setIfInBounds_toArray, List.set_cons_zero, List.set_cons_succ]
  refine wpAnyH_take (i := 7) (v := ?_) rfl (by kernel_rfl) (by kernel_rfl) (by kernel_rfl) (fun _ _ _ h => h) (Or.inl ⟨by rfl, ?_⟩) (by assumption) ?_
  rotate_left
  · intro u hSu
    obtain ⟨s0, s1, s2, s3, s4, s5⟩ := hSu
    try simp only [List.getElem_toArray, List.getElem_cons_succ, List.getElem_cons_zero]
    go_simp
    try with_reducible rfl
  try simp only [Act.put, List.setIfInBounds_toArray, List.set_cons_zero, List.set_cons_succ]
  refine wpAnyH_take (i := 8) (v := ?_) rfl (by kernel_rfl) (by kernel_rfl) (by kernel_rfl) (fun _ _ _ h => h) (Or.inl ⟨by rfl, ?_⟩) (by assumption) ?_
  rotate_left
  · intro u hSu
    obtain ⟨s0, s1, s2, s3, s4, s5⟩ := hSu
    try simp only [List.getElem_toArray, List.getElem_cons_succ, List.getElem_cons_zero]
    go_simp
    try with_reducible rfl
  try simp only [Act.put, List.setIfInBounds_toArray, List.set_cons_zero, List.set_cons_succ]
  refine wpAnyH_take (i := 9) (v := ?_) rfl (by kernel_rfl) (by kernel_rfl) (by kernel_rfl) (fun _ _ _ h => h) (Or.inl ⟨by rfl, ?_⟩) (by assumption) ?_
  rotate_left
  · intro u hSu
    obtain ⟨s0, s1, s2, s3, s4, s5⟩ := hSu
    try simp only [List.getElem_toArray, List.getElem_cons_succ, List.getElem_cons_zero]
    go_simp
    try with_reducible rfl
  try simp only [Act.put, List.setIfInBounds_toArray, List.set_cons_zero, List.set_cons_succ]
  refine wpAnyH_take (i := 10) (v := ?_) rfl (by kernel_rfl) (by kernel_rfl) (by kernel_rfl) (fun _ _ _ h => h) (Or.inl ⟨by rfl, ?_⟩) (by assumption) ?_
  rotate_left
  · intro u hSu
    obtain ⟨s0, s1, s2, s3, s4, s5⟩ := hSu
    try simp only [List.getElem_toArray, List.getElem_cons_succ, List.getElem_cons_zero]
    go_simp
    try with_reducible rfl
  try simp only [Act.put, List.setIfInBounds_toArray, List.set_cons_zero, List.set_cons_succ]
  refine wpAnyH_take (i := 11) (v := ?_) rfl (by kernel_rfl) (by kernel_rfl) (by kernel_rfl) (fun _ _ _ h => h) (Or.inl ⟨by rfl, ?_⟩) (by assumption) ?_
  rotate_left
  · intro u hSu
    obtain ⟨s0, s1, s2, s3, s4, s5⟩ := hSu
    try simp only [List.getElem_toArray, List.getElem_cons_succ, List.getElem_cons_zero]
    go_simp
    try with_reducible rfl
  try simp only [Act.put, List.setIfInBounds_toArray, List.set_cons_zero, List.set_cons_succ]
  refine wpAnyH_take (i := 12) (v := ?_) rfl (by kernel_rfl) (by kernel_rfl) (by kernel_rfl) (fun _ _ _ h => h) (Or.inl ⟨by rfl, ?_⟩) (by assumption) ?_
  rotate_left
  · intro u hSu
    obtain ⟨s0, s1, s2, s3, s4, s5⟩ := hSu
    try simp only [List.getElem_toArray, List.getElem_cons_succ, List.getElem_cons_zero]
    go_simp
    try with_reducible rfl
  try simp only [Act.put, List.setIfInBounds_toArray, List.set_cons_zero, List.set_cons_succ]
  refine wpAnyH_take (i := 13) (v := ?_) rfl (by kernel_rfl) (by kernel_rfl) (by kernel_rfl) (fun _ _ _ h => h) (Or.inl ⟨by rfl, ?_⟩) (by assumption) ?_
  rotate_left
  · intro u hSu
    obtain ⟨s0, s1, s2, s3, s4, s5⟩ := hSu
    try simp only [List.getElem_toArray, List.getElem_cons_succ, List.getElem_cons_zero]
    go_simp
    try with_reducible rfl
  try simp only [Act.put, List.setIfInBounds_toArray, List.set_cons_zero, List.set_cons_succ]
  refine wpAnyH_take (i := 14) (v := ?_) rfl (by kernel_rfl) (by kernel_rfl) (by kernel_rfl) (fun _ _ _ h => h) (Or.inl ⟨by rfl, ?_⟩) (by assumption) ?_
  rotate_left
  · intro u hSu
    obtain ⟨s0, s1, s2, s3, s4, s5⟩ := hSu
    try simp only [List.getElem_toArray, List.getElem_cons_succ, List.getElem_cons_zero]
    go_simp
    try with_reducible rfl
  try simp only [Act.put, List.setIfInBounds_toArray, List.set_cons_zero, List.set_cons_succ]
  refine wpAnyH_take (i := 15) (v := ?_) rfl (by kernel_rfl) (by kernel_rfl) (by kernel_rfl) (fun _ _ _ h => h) (Or.inl ⟨by rfl, ?_⟩) (by assumption) ?_
  rotate_left
  · intro u hSu
    obtain ⟨s0, s1, s2, s3, s4, s5⟩ := hSu
    try simp only [List.getElem_toArray, List.getElem_cons_succ, List.getElem_cons_zero]
    go_simp
    try with_reducible rfl
  try simp only [Act.put, List.setIfInBounds_toArray, List.set_cons_zero, List.set_cons_succ]
  refine wpAnyH_take (i := 16) (v := ?_) rfl (by kernel_rfl) (by kernel_rfl) (by kernel_rfl) (fun _ _ _ h => h) (Or.inl ⟨by rfl, ?_⟩) (by assumption) ?_
  rotate_left
  · intro u hSu
    obtain ⟨s0, s1, s2, s3, s4, s5⟩ := hSu
    try simp only [List.getElem_toArray, List.getElem_cons_succ, List.getElem_cons_zero]
    go_simp
    try with_reducible rfl
  try simp only [Act.put, List.setIfInBounds_toArray, List.set_cons_zero, List.set_cons_succ]
  refine wpAnyH_take (i := 17) (v := ?_) rfl (by kernel_rfl) (by kernel_rfl) (by kernel_rfl) (fun _ _ _ h => h) (Or.inl ⟨by rfl, ?_⟩) (by assumption) ?_
  rotate_left
  · intro u hSu
    obtain ⟨s0, s1, s2, s3, s4, s5⟩ := hSu
    try simp only [List.getElem_toArray, List.getElem_cons_succ, List.getElem_cons_zero]
    go_simp
    try with_reducible rfl
  try simp only [Act.put, List.setIfInBounds_toArray, List.set_cons_zero, List.set_cons_succ]
  refine wpAnyH_ready (rs := [18]) (by kernel_rfl) (by simp) ?_
  refine AllReadyH.cons rfl (fun K hK => ?_) AllReadyH.nil
  try simp only [List.getElem_toArray, List.getElem_cons_succ, List.getElem_cons_zero]
  go_simp
  refine hK.out _ _ ?_ (fun hHeld2 => ?_)
  · exact ⟨by go_simp, by go_simp, by go_simp, by go_simp, by go_simp, by go_simp⟩
  clear hK K
  try simp only [Act.put, List.setIfInBounds_toArray, List.set_cons_zero, List.set_cons_succ]
  refine wpAnyH_done (by kernel_rfl) ?_ _
  try simp only [List.getElem_toArray, List.getElem_cons_succ, List.getElem_cons_zero]
  try simp only [Act.put, List.setIfInBounds_toArray, List.set_cons_zero, List.set_cons_succ]
  refine NoPanic.normal ?_
  go_wp2_with fail
  obtain ⟨s0, s1, s2, s3⟩ := set4 (.int .i64 num) (.int .i64 t) (.int .i64 C) (.slice a m cm) x0 x1 x2 x3
  have hB4 := below4 hB (Nat.le_refl _) (.int .i64 num) (.int .i64 t) (.int .i64 C) (.slice a m cm)
  exact bodyPost_ret (v := .agg #[.int .i64 num, .int .i64 t, .int .i64 C, .slice a m cm]) (by simp [results, Try.results45, go_sem, s0, s1, s2, s3]) rfl ⟨rfl, hB4.drew⟩

set_option maxRecDepth 100000 in
set_option maxHeartbeats 2000000 in
theorem rpop_c (qb rb room pos n by_ dr : Nat) (pk : Nat → Nat → Value) (w : World) (h : QAt w qb rb room pos n by_ dr) (hr : RingAt w rb room pk) (hn : 0 < n) :
    Calls Try.prog 52 #[.pointer (some ⟨qb, 0, none⟩)] w fun e w' => (∃ v, e = .returned v) ∧ QAt w' qb rb room ((pos + 1) % room) (n - 1) by_ dr ∧ RingAt w' rb room pk ∧ Kept w w' qb rb := by
  have hq : qb < w.heap.size := World.block_lt_of_cell? _ _ h.c0
  obtain ⟨k, hk⟩ : ∃ k, (pos + 1) % room = k := ⟨_, rfl⟩
  have hkr : k < room := by rw [← hk]; exact Nat.mod_lt _ (by have := h.room1; omega)
  have hkI : ((pos : Int) + 1) % (room : Int) = (k : Nat) := by rw [← hk, Int.natCast_emod, Int.natCast_add]; rfl
  have hkr' : (k : Int) < (room : Int) := by omega
  have r0 : (room : Int) ≤ 64 := by have := h.room2; omega
  have r1 : ¬ (room : Int) = 0 := by have := h.room1; omega
  have r1n : ¬ room = 0 := by have := h.room1; omega
  have r2 : (pos : Int) < (room : Int) := by have := h.pos1; omega
  have hw1 : IntKind.i64.wrap ((pos : Int) + 1) = (pos : Int) + 1 := IntWalk.i64_in _ ⟨by omega, by omega⟩
  have hkT : ((pos : Int) + 1).tmod (room : Int) = (k : Nat) := by rw [Int.tmod_eq_emod_of_nonneg (by omega)]; exact hkI
  have c0 := h.c0
  have c1 := h.c1
  have c2 := h.c2
  have qf := h.f
  have hne := h.ne
  have n0 : ((n : Nat) : Int) - 1 = ((n - 1 : Nat) : Int) := by omega
  have n1 : (n : Int) ≤ 64 := by have := h.n1; have := h.room2; omega
  go_enter Try.func52, Try.ntmps52
  go_wp2_with fail
  refine wp_region_noPanic ?_
  refine wp_region_held_drew (S := fun u => u.cell? ⟨qb, 0, none⟩ = some (.slice (some ⟨rb, 0, none⟩) room room) ∧ True) (by kernel_rfl) (⟨by simpa using c0, trivial⟩) (fun hHeld => ?_)
  refine wpAnyH_start2 (n' := 15) (l' := #[false, false, false, false, false, false, false, false, false, false, false, false, false, false, false]) (by kernel_rfl) (by kernel_rfl) ?_
  refine wpAnyH_take (i := 0) (v := ?_) rfl (by kernel_rfl) (by kernel_rfl) (by kernel_rfl) (fun _ _ _ h => h) (Or.inl ⟨by rfl, ?_⟩) (by assumption) ?_
  rotate_left
  · intro u hSu
    obtain ⟨s0, _⟩ := hSu
    try simp only [List.getElem_toArray, List.getElem_cons_succ, List.getElem_cons_zero]
    go_simp
    try with_reducible rfl
  try simp only [Act.put, List.setIfInBounds_toArray, List.set_cons_zero, List.set_cons_succ]
  refine wpAnyH_take (i := 1) (v := ?_) rfl (by kernel_rfl) (by kernel_rfl) (by kernel_rfl) (fun _ _ _ h => h) (Or.inl ⟨by rfl, ?_⟩) (by assumption) ?_
  rotate_left
  · intro u hSu
    obtain ⟨s0, _⟩ := hSu
    try simp only [List.getElem_toArray, List.getElem_cons_succ, List.getElem_cons_zero]
    go_simp
    try with_reducible rfl
  try simp only [Act.put, List.setIfInBounds_toArray, List.set_cons_zero, List.set_cons_succ]
  refine wpAnyH_take (i := 2) (v := ?_) rfl (by kernel_rfl) (by kernel_rfl) (by kernel_rfl) (fun _ _ _ h => h) (Or.inl ⟨by rfl, ?_⟩) (by assumption) ?_
  rotate_left
  · intro u hSu
    obtain ⟨s0, _⟩ := hSu
    try simp only [List.getElem_toArray, List.getElem_cons_succ, List.getElem_cons_zero]
    go_simp
    try with_reducible rfl
  try simp only [Act.put, List.setIfInBounds_toArray, List.set_cons_zero, List.set_cons_succ]
  refine wpAnyH_take (i := 3) (v := ?_) rfl (by kernel_rfl) (by kernel_rfl) (by kernel_rfl) (fun _ _ _ h => h) (Or.inl ⟨by rfl, ?_⟩) (by assumption) ?_
  rotate_left
  · intro u hSu
    obtain ⟨s0, _⟩ := hSu
    try simp only [List.getElem_toArray, List.getElem_cons_succ, List.getElem_cons_zero]
    go_simp
    try with_reducible rfl
  try simp only [Act.put, List.setIfInBounds_toArray, List.set_cons_zero, List.set_cons_succ]
  refine wpAnyH_take (i := 6) (v := ?_) rfl (by kernel_rfl) (by kernel_rfl) (by kernel_rfl) (fun _ _ _ h => h) (Or.inl ⟨by rfl, ?_⟩) (by assumption) ?_
  rotate_left
  · intro u hSu
    obtain ⟨s0, _⟩ := hSu
    try simp only [List.getElem_toArray, List.getElem_cons_succ, List.getElem_cons_zero]
    go_simp
    try with_reducible rfl
  try simp only [Act.put, List.setIfInBounds_toArray, List.set_cons_zero, List.set_cons_succ]
  refine wpAnyH_take (i := 7) (v := ?_) rfl (by kernel_rfl) (by kernel_rfl) (by kernel_rfl) (fun _ _ _ h => h) (Or.inl ⟨by rfl, ?_⟩) (by assumption) ?_
  rotate_left
  · intro u hSu
    obtain ⟨s0, _⟩ := hSu
    try simp only [List.getElem_toArray, List.getElem_cons_succ, List.getElem_cons_zero]
    go_simp
    try with_reducible rfl
  try simp only [Act.put, List.setIfInBounds_toArray, List.set_cons_zero, List.set_cons_succ]
  refine wpAnyH_take (i := 8) (v := ?_) rfl (by kernel_rfl) (by kernel_rfl) (by kernel_rfl) (fun _ _ _ h => h) (Or.inl ⟨by rfl, ?_⟩) (by assumption) ?_
  rotate_left
  · intro u hSu
    obtain ⟨s0, _⟩ := hSu
    try simp only [List.getElem_toArray, List.getElem_cons_succ, List.getElem_cons_zero]
    go_simp
    try with_reducible rfl
  try simp only [Act.put, List.setIfInBounds_toArray, List.set_cons_zero, List.set_cons_succ]
  refine wpAnyH_take (i := 9) (v := ?_) rfl (by kernel_rfl) (by kernel_rfl) (by kernel_rfl) (fun _ _ _ h => h) (Or.inl ⟨by rfl, ?_⟩) (by assumption) ?_
  rotate_left
  · intro u hSu
    obtain ⟨s0, _⟩ := hSu
    try simp only [List.getElem_toArray, List.getElem_cons_succ, List.getElem_cons_zero]
    go_simp
    try with_reducible rfl
  try simp only [Act.put, List.setIfInBounds_toArray, List.set_cons_zero, List.set_cons_succ]
  refine wpAnyH_take (i := 10) (v := ?_) rfl (by kernel_rfl) (by kernel_rfl) (by kernel_rfl) (fun _ _ _ h => h) (Or.inl ⟨by rfl, ?_⟩) (by assumption) ?_
  rotate_left
  · intro u hSu
    obtain ⟨s0, _⟩ := hSu
    try simp only [List.getElem_toArray, List.getElem_cons_succ, List.getElem_cons_zero]
    go_simp
    try with_reducible rfl
  try simp only [Act.put, List.setIfInBounds_toArray, List.set_cons_zero, List.set_cons_succ]
  refine wpAnyH_ready (rs := [4]) (by kernel_rfl) (by simp) ?_
  refine AllReadyH.cons rfl (fun K hK => ?_) AllReadyH.nil
  try simp only [List.getElem_toArray, List.getElem_cons_succ, List.getElem_cons_zero]
  go_simp
  refine hK.out _ _ ?_ (fun hHeld1 => ?_)
  · exact ⟨by simpa using c0, trivial⟩
  clear hK K
  try simp only [Act.put, List.setIfInBounds_toArray, List.set_cons_zero, List.set_cons_succ]
  refine wpAnyH_take (i := 5) (v := ?_) rfl (by kernel_rfl) (by kernel_rfl) (by kernel_rfl) (fun _ _ _ h => h) (Or.inl ⟨by rfl, ?_⟩) (by assumption) ?_
  rotate_left
  · intro u hSu
    obtain ⟨s0, _⟩ := hSu
    try simp only [List.getElem_toArray, List.getElem_cons_succ, List.getElem_cons_zero]
    go_simp
    try with_reducible rfl
  try simp only [Act.put, List.setIfInBounds_toArray, List.set_cons_zero, List.set_cons_succ]
  refine wpAnyH_take (i := 11) (v := ?_) rfl (by kernel_rfl) (by kernel_rfl) (by kernel_rfl) (fun _ _ _ h => h) (Or.inl ⟨by rfl, ?_⟩) (by assumption) ?_
  rotate_left
  · intro u hSu
    obtain ⟨s0, _⟩ := hSu
    try simp only [List.getElem_toArray, List.getElem_cons_succ, List.getElem_cons_zero]
    go_simp
    try with_reducible rfl
  try simp only [Act.put, List.setIfInBounds_toArray, List.set_cons_zero, List.set_cons_succ]
  refine wpAnyH_take (i := 12) (v := ?_) rfl (by kernel_rfl) (by kernel_rfl) (by kernel_rfl) (fun _ _ _ h => h) (Or.inl ⟨by rfl, ?_⟩) (by assumption) ?_
  rotate_left
  · intro u hSu
    obtain ⟨s0, _⟩ := hSu
    try simp only [List.getElem_toArray, List.getElem_cons_succ, List.getElem_cons_zero]
    go_simp
    try with_reducible rfl
  try simp only [Act.put, List.setIfInBounds_toArray, List.set_cons_zero, List.set_cons_succ]
  refine wpAnyH_take (i := 13) (v := ?_) rfl (by kernel_rfl) (by kernel_rfl) (by kernel_rfl) (fun _ _ _ h => h) (Or.inl ⟨by rfl, ?_⟩) (by assumption) ?_
  rotate_left
  · intro u hSu
    obtain ⟨s0, _⟩ := hSu
    try simp only [List.getElem_toArray, List.getElem_cons_succ, List.getElem_cons_zero]
    go_simp
    try with_reducible rfl
  try simp only [Act.put, List.setIfInBounds_toArray, List.set_cons_zero, List.set_cons_succ]
  refine wpAnyH_ready (rs := [14]) (by kernel_rfl) (by simp) ?_
  refine AllReadyH.cons rfl (fun K hK => ?_) AllReadyH.nil
  try simp only [List.getElem_toArray, List.getElem_cons_succ, List.getElem_cons_zero]
  go_simp
  refine hK.out _ _ ?_ (fun hHeld2 => ?_)
  · exact ⟨by go_simp, trivial⟩
  clear hK K
  try simp only [Act.put, List.setIfInBounds_toArray, List.set_cons_zero, List.set_cons_succ]
  refine wpAnyH_done (by kernel_rfl) ?_ _
  try simp only [List.getElem_toArray, List.getElem_cons_succ, List.getElem_cons_zero]
  try simp only [Act.put, List.setIfInBounds_toArray, List.set_cons_zero, List.set_cons_succ]
  refine NoPanic.normal ?_
  go_wp2_with fail
  have hQ2 := (h.set_pos k hkr).set_n (n - 1) (by have := h.n1; omega)
  have hR2 := (hr.set_q (qb := qb) hne 1 (.int .i64 (k : Nat))).set_q (qb := qb) hne 2 (.int .i64 ((n - 1 : Nat) : Int))
  have hK2 := (Kept.set (w := w) (rb := rb) qb 1 (.int .i64 (k : Nat)) (.inl rfl)).trans (Kept.set (rb := rb) qb 2 (.int .i64 ((n - 1 : Nat) : Int)) (.inl rfl))
  go_end0
  exact ⟨⟨_, rfl⟩, by rw [hk]; exact hQ2.drew, hR2.drew hQ2.rl, hK2.trans (Kept.drew 1)⟩
end Go.Proofs.Ytkefkophlhcbiaa
