/- Queues of packets: copies, and what is done to the ring. -/
import Derived.Test.YtkefkophlhcbiaaQ1
namespace Go.Proofs.Ytkefkophlhcbiaa
open Go.ChangeShapes Go.WideShapes Go.ChangeAt Go.RowKit
set_option linter.unusedVariables false
set_option linter.unusedSimpArgs false
open Pk BigFrame Fq

namespace Fq
/-- All but a queue and its ring is as it was. -/
structure Kept (w w' : World) (qb rb : Nat) : Prop where
  size : w.heap.size ≤ w'.heap.size
  block : ∀ b, b < w.heap.size → b ≠ qb → b ≠ rb → w'.heap[b]? = w.heap[b]?
  bel : ∀ (B : Nat) (A : World), Below B A w → B ≤ qb → B ≤ rb → Below B A w'
theorem Kept.refl (w : World) (qb rb : Nat) : Kept w w qb rb := ⟨Nat.le_refl _, fun _ _ _ _ => rfl, fun _ _ h _ _ => h⟩
theorem Kept.trans {a b c : World} {qb rb : Nat} (h : Kept a b qb rb) (k : Kept b c qb rb) : Kept a c qb rb :=
  ⟨Nat.le_trans h.size k.size, fun x hx h1 h2 => (k.block x (Nat.lt_of_lt_of_le hx h.size) h1 h2).trans (h.block x hx h1 h2), fun B A hb h1 h2 => k.bel B A (h.bel B A hb h1 h2) h1 h2⟩
theorem Kept.of_below {w w' : World} {qb rb : Nat} (h : Below w.heap.size w w') (hq : qb < w.heap.size) : Kept w w' qb rb :=
  ⟨h.size, fun b hb _ _ => h.block b hb, fun B A hb h1 _ => hb.trans (h.mono (Nat.le_of_lt (Nat.lt_of_le_of_lt h1 hq)))⟩
theorem Kept.set {w : World} {qb rb : Nat} (b o : Nat) (v : Value) (hb : b = qb ∨ b = rb) : Kept w (w.setCell ⟨b, o, none⟩ v) qb rb :=
  ⟨by simp, fun x _ h1 h2 => heap_setCell_other w ⟨b, o, none⟩ x v (by rcases hb with rfl | rfl <;> simpa using by assumption), fun B A h h1 h2 => h.setCell (p := ⟨b, o, none⟩) (by rcases hb with rfl | rfl <;> assumption) v⟩
theorem Kept.drew {w : World} {qb rb : Nat} (n : Nat) : Kept w (w.drewN n) qb rb := ⟨by simp, fun b _ _ _ => by simp, fun B A h _ _ => bDrew h n⟩
theorem wpAnyH_start2 {P : Program} {md : Region.Mode} {ops : Array Oper} {Q : Exit → Act → World → Prop} {S : World → Prop} {n n' : Nat} {l l' : Array Bool} {a0 : Act} {v0 : World}
    (h1 : n = n') (h2 : l = l') (h : wpAnyH P md ops Q S n' l' a0 v0) : wpAnyH P md ops Q S n l a0 v0 := by subst h1; subst h2; exact h
end Fq

set_option maxRecDepth 100000 in
set_option maxHeartbeats 2000000 in
theorem copied_nil (num t C : Int) (w : World) :
    Calls Try.prog 44 #[.agg #[.int .i64 num, .int .i64 t, .int .i64 C, .slice none 0 0]] w fun e w' => e = .returned (.agg #[.int .i64 num, .int .i64 t, .int .i64 C, .slice none 0 0]) ∧ Below w.heap.size w w' := by
  go_enter Try.func44, Try.ntmps44
  go_wp2_with (go_at_call 54; refine (clone_nil _).mono ?_; rintro e w' ⟨rfl, rfl⟩)
  exact bodyPost_ret (v := .agg #[.int .i64 num, .int .i64 t, .int .i64 C, .slice none 0 0]) (by simp [results, Try.results44, go_sem]) rfl ⟨rfl, ((Below.refl _ _).alloc (Nat.le_refl _) _).alloc (by simp) _⟩

set_option maxRecDepth 100000 in
set_option maxHeartbeats 2000000 in
/-- A ring that is full takes nothing. -/
theorem rpush_full (qb rb room pos by_ dr : Nat) (num t C : Int) (a : Option Addr) (m cm : Nat) (w : World) (h : QAt w qb rb room pos room by_ dr) :
    Calls Try.prog 43 #[.pointer (some ⟨qb, 0, none⟩), .agg #[.int .i64 num, .int .i64 t, .int .i64 C, .slice a m cm]] w fun e w' => e = .returned (.bool false) ∧ Below w.heap.size w w' := by
  have hq := World.block_lt_of_cell? _ _ h.c0
  have hb := (Below.refl w.heap.size w).alloc (Nat.le_refl _) (.cells #[.int .i64 num, .int .i64 t, .int .i64 C, .slice a m cm] 38)
  have c0 := (hb.cell (p := ⟨qb, 0, none⟩) hq).trans h.c0
  have c2 := (hb.cell (p := ⟨qb, 2, none⟩) hq).trans h.c2
  go_enter Try.func43, Try.ntmps43
  go_wp2_with fail
  go_big_quiet (fail)
  go_wp2_with fail
  go_ret
  exact ⟨rfl, bDrew hb nq⟩

set_option maxRecDepth 100000 in
set_option maxHeartbeats 2000000 in
/-- A ring with room takes a packet. -/
theorem rpush_ok (qb rb room pos n by_ dr : Nat) (num t C : Int) (a : Option Addr) (m cm : Nat) (pk : Nat → Nat → Value) (w : World) (h : QAt w qb rb room pos n by_ dr) (hr : RingAt w rb room pk) (hn : n < room) :
    Calls Try.prog 43 #[.pointer (some ⟨qb, 0, none⟩), .agg #[.int .i64 num, .int .i64 t, .int .i64 C, .slice a m cm]] w fun e w' => e = .returned (.bool true) ∧ QAt w' qb rb room pos (n + 1) by_ dr ∧ RingAt w' rb room (fun j i => if j = (pos + n) % room then (#[.int .i64 num, .int .i64 t, .int .i64 C, .slice a m cm] : Array Value).getD i undef else pk j i) ∧ Kept w w' qb rb := by
  have hq := World.block_lt_of_cell? _ _ h.c0
  have hb := (Below.refl w.heap.size w).alloc (Nat.le_refl _) (.cells #[.int .i64 num, .int .i64 t, .int .i64 C, .slice a m cm] 38)
  have c0 := (hb.cell (p := ⟨qb, 0, none⟩) hq).trans h.c0
  have c2 := (hb.cell (p := ⟨qb, 2, none⟩) hq).trans h.c2
  have hne : (((n : Nat) : Int) == ((room : Nat) : Int)) = false := by simp; omega
  go_enter Try.func43, Try.ntmps43
  go_wp2_with fail
  go_big_quiet (fail)
  have hB := bDrew hb nq
  have hQ := h.below hB
  have hR := hr.below h.rl hB
  have x0 : ((w.alloc (.cells #[.int .i64 num, .int .i64 t, .int .i64 C, .slice a m cm] 38)).drewN nq).cell? ⟨w.heap.size, 0, none⟩ = some (.int .i64 num) := by go_simp
  have x1 : ((w.alloc (.cells #[.int .i64 num, .int .i64 t, .int .i64 C, .slice a m cm] 38)).drewN nq).cell? ⟨w.heap.size, 1, none⟩ = some (.int .i64 t) := by go_simp
  have x2 : ((w.alloc (.cells #[.int .i64 num, .int .i64 t, .int .i64 C, .slice a m cm] 38)).drewN nq).cell? ⟨w.heap.size, 2, none⟩ = some (.int .i64 C) := by go_simp
  have x3 : ((w.alloc (.cells #[.int .i64 num, .int .i64 t, .int .i64 C, .slice a m cm] 38)).drewN nq).cell? ⟨w.heap.size, 3, none⟩ = some (.slice a m cm) := by go_simp
  generalize (w.alloc (.cells #[.int .i64 num, .int .i64 t, .int .i64 C, .slice a m cm] 38)).drewN nq = W at hB hQ hR x0 x1 x2 x3 ⊢
  clear c0 c2 hb
  obtain ⟨k, hk⟩ : ∃ k, (pos + n) % room = k := ⟨_, rfl⟩
  have hkr : k < room := by rw [← hk]; exact Nat.mod_lt _ (by have := h.room1; omega)
  have hkI : ((pos : Int) + (n : Int)) % (room : Int) = (k : Nat) := by rw [← hk, Int.natCast_emod, Int.natCast_add]
  have hkr' : (k : Int) < (room : Int) := by omega
  have r0 : (room : Int) ≤ 64 := by have := h.room2; omega
  have r1 : ¬ (room : Int) = 0 := by have := h.room1; omega
  have r1n : ¬ room = 0 := by have := h.room1; omega
  have r2 : (pos : Int) < (room : Int) := by have := h.pos1; omega
  have r3 : (n : Int) < (room : Int) := by omega
  have c0 := hQ.c0
  have c1 := hQ.c1
  have c2 := hQ.c2
  have y0 := hR k 0 hkr (by omega)
  rw [Nat.add_zero] at y0
  have y1 := hR k 1 hkr (by omega)
  have y2 := hR k 2 hkr (by omega)
  have y3 := hR k 3 hkr (by omega)
  have yf := hQ.rf
  have qf := hQ.f
  have hne1 := hQ.ne
  have hne2 : w.heap.size ≠ rb := by have := h.rl; omega
  have hne3 : w.heap.size ≠ qb := by omega
  go_wp2_with fail
  have hw1 : IntKind.i64.wrap ((pos : Int) + (n : Int)) = (pos : Int) + (n : Int) := IntWalk.i64_in _ ⟨by omega, by omega⟩
  have hkT : ((pos : Int) + (n : Int)).tmod (room : Int) = (k : Nat) := by rw [Int.tmod_eq_emod_of_nonneg (by omega)]; exact hkI
  refine wp_region_noPanic ?_
  refine wp_region_held_drew (S := fun u => u.cell? ⟨qb, 0, none⟩ = some (.slice (some ⟨rb, 0, none⟩) room room) ∧ u.cell? ⟨qb, 1, none⟩ = some (.int .i64 (pos : Nat)) ∧ u.cell? ⟨qb, 2, none⟩ = some (.int .i64 (n : Nat)) ∧ u.cell? ⟨w.heap.size, 0, none⟩ = some (.int .i64 num) ∧ u.cell? ⟨w.heap.size, 1, none⟩ = some (.int .i64 t) ∧ u.cell? ⟨w.heap.size, 2, none⟩ = some (.int .i64 C) ∧ u.cell? ⟨w.heap.size, 3, none⟩ = some (.slice a m cm)) (by kernel_rfl) (⟨by simpa using c0, by simpa using c1, by simpa using c2, by simpa using x0, by simpa using x1, by simpa using x2, by simpa using x3⟩) (fun hHeld => ?_)
  refine wpAnyH_start2 (n' := 22) (l' := #[false, false, false, false, false, false, false, false, false, false, false, false, false, false, false, false, false, false, false, false, false, false]) (by kernel_rfl) (by kernel_rfl) ?_
  refine wpAnyH_take (i := 0) (v := ?_) rfl (by kernel_rfl) (by kernel_rfl) (by kernel_rfl) (fun _ _ _ h => h) (Or.inl ⟨by rfl, ?_⟩) (by assumption) ?_
  rotate_left
  · intro u hSu
    obtain ⟨s0, s1, s2, s3, s4, s5, s6⟩ := hSu
    try simp only [List.getElem_toArray, List.getElem_cons_succ, List.getElem_cons_zero]
    go_simp
    try with_reducible rfl
  try simp only [Act.put, List.setIfInBounds_toArray, List.set_cons_zero, List.set_cons_succ]
  refine wpAnyH_take (i := 1) (v := ?_) rfl (by kernel_rfl) (by kernel_rfl) (by kernel_rfl) (fun _ _ _ h => h) (Or.inl ⟨by rfl, ?_⟩) (by assumption) ?_
  rotate_left
  · intro u hSu
    obtain ⟨s0, s1, s2, s3, s4, s5, s6⟩ := hSu
    try simp only [List.getElem_toArray, List.getElem_cons_succ, List.getElem_cons_zero]
    go_simp
    try with_reducible rfl
  try simp only [Act.put, List.setIfInBounds_toArray, List.set_cons_zero, List.set_cons_succ]
  refine wpAnyH_take (i := 2) (v := ?_) rfl (by kernel_rfl) (by kernel_rfl) (by kernel_rfl) (fun _ _ _ h => h) (Or.inl ⟨by rfl, ?_⟩) (by assumption) ?_
  rotate_left
  · intro u hSu
    obtain ⟨s0, s1, s2, s3, s4, s5, s6⟩ := hSu
    try simp only [List.getElem_toArray, List.getElem_cons_succ, List.getElem_cons_zero]
    go_simp
    try with_reducible rfl
  try simp only [Act.put, List.setIfInBounds_toArray, List.set_cons_zero, List.set_cons_succ]
  refine wpAnyH_take (i := 3) (v := ?_) rfl (by kernel_rfl) (by kernel_rfl) (by kernel_rfl) (fun _ _ _ h => h) (Or.inl ⟨by rfl, ?_⟩) (by assumption) ?_
  rotate_left
  · intro u hSu
    obtain ⟨s0, s1, s2, s3, s4, s5, s6⟩ := hSu
    try simp only [List.getElem_toArray, List.getElem_cons_succ, List.getElem_cons_zero]
    go_simp
    try with_reducible rfl
  try simp only [Act.put, List.setIfInBounds_toArray, List.set_cons_zero, List.set_cons_succ]
  refine wpAnyH_take (i := 4) (v := ?_) rfl (by kernel_rfl) (by kernel_rfl) (by kernel_rfl) (fun _ _ _ h => h) (Or.inl ⟨by rfl, ?_⟩) (by assumption) ?_
  rotate_left
  · intro u hSu
    obtain ⟨s0, s1, s2, s3, s4, s5, s6⟩ := hSu
    try simp only [List.getElem_toArray, List.getElem_cons_succ, List.getElem_cons_zero]
    go_simp
    try with_reducible rfl
  try simp only [Act.put, List.setIfInBounds_toArray, List.set_cons_zero, List.set_cons_succ]
  refine wpAnyH_take (i := 5) (v := ?_) rfl (by kernel_rfl) (by kernel_rfl) (by kernel_rfl) (fun _ _ _ h => h) (Or.inl ⟨by rfl, ?_⟩) (by assumption) ?_
  rotate_left
  · intro u hSu
    obtain ⟨s0, s1, s2, s3, s4, s5, s6⟩ := hSu
    try simp only [List.getElem_toArray, List.getElem_cons_succ, List.getElem_cons_zero]
    go_simp
    try with_reducible rfl
  try simp only [Act.put, List.setIfInBounds_toArray, List.set_cons_zero, List.set_cons_succ]
  refine wpAnyH_take (i := 6) (v := ?_) rfl (by kernel_rfl) (by kernel_rfl) (by kernel_rfl) (fun _ _ _ h => h) (Or.inl ⟨by rfl, ?_⟩) (by assumption) ?_
  rotate_left
  · intro u hSu
    obtain ⟨s0, s1, s2, s3, s4, s5, s6⟩ := hSu
    try simp only [List.getElem_toArray, List.getElem_cons_succ, List.getElem_cons_zero]
    go_simp
    try with_reducible rfl
  try simp only [Act.put, List.setIfInBounds_toArray, List.set_cons_zero, List.set_cons_succ]
  refine wpAnyH_take (i := 7) (v := ?_) rfl (by kernel_rfl) (by kernel_rfl) (by kernel_rfl) (fun _ _ _ h => h) (Or.inl ⟨by rfl, ?_⟩) (by assumption) ?_
  rotate_left
  · intro u hSu
    obtain ⟨s0, s1, s2, s3, s4, s5, s6⟩ := hSu
    try simp only [List.getElem_toArray, List.getElem_cons_succ, List.getElem_cons_zero]
    go_simp
    try with_reducible rfl
  try simp only [Act.put, List.setIfInBounds_toArray, List.set_cons_zero, List.set_cons_succ]
  refine wpAnyH_take (i := 8) (v := ?_) rfl (by kernel_rfl) (by kernel_rfl) (by kernel_rfl) (fun _ _ _ h => h) (Or.inl ⟨by rfl, ?_⟩) (by assumption) ?_
  rotate_left
  · intro u hSu
    obtain ⟨s0, s1, s2, s3, s4, s5, s6⟩ := hSu
    try simp only [List.getElem_toArray, List.getElem_cons_succ, List.getElem_cons_zero]
    go_simp
    try with_reducible rfl
  try simp only [Act.put, List.setIfInBounds_toArray, List.set_cons_zero, List.set_cons_succ]
  refine wpAnyH_take (i := 9) (v := ?_) rfl (by kernel_rfl) (by kernel_rfl) (by kernel_rfl) (fun _ _ _ h => h) (Or.inl ⟨by rfl, ?_⟩) (by assumption) ?_
  rotate_left
  · intro u hSu
    obtain ⟨s0, s1, s2, s3, s4, s5, s6⟩ := hSu
    try simp only [List.getElem_toArray, List.getElem_cons_succ, List.getElem_cons_zero]
    go_simp
    try with_reducible rfl
  try simp only [Act.put, List.setIfInBounds_toArray, List.set_cons_zero, List.set_cons_succ]
  refine wpAnyH_take (i := 10) (v := ?_) rfl (by kernel_rfl) (by kernel_rfl) (by kernel_rfl) (fun _ _ _ h => h) (Or.inl ⟨by rfl, ?_⟩) (by assumption) ?_
  rotate_left
  · intro u hSu
    obtain ⟨s0, s1, s2, s3, s4, s5, s6⟩ := hSu
    try simp only [List.getElem_toArray, List.getElem_cons_succ, List.getElem_cons_zero]
    go_simp
    try with_reducible rfl
  try simp only [Act.put, List.setIfInBounds_toArray, List.set_cons_zero, List.set_cons_succ]
  refine wpAnyH_take (i := 11) (v := ?_) rfl (by kernel_rfl) (by kernel_rfl) (by kernel_rfl) (fun _ _ _ h => h) (Or.inl ⟨by rfl, ?_⟩) (by assumption) ?_
  rotate_left
  · intro u hSu
    obtain ⟨s0, s1, s2, s3, s4, s5, s6⟩ := hSu
    try simp only [List.getElem_toArray, List.getElem_cons_succ, List.getElem_cons_zero]
    go_simp
    try with_reducible rfl
  try simp only [Act.put, List.setIfInBounds_toArray, List.set_cons_zero, List.set_cons_succ]
  refine wpAnyH_take (i := 12) (v := ?_) rfl (by kernel_rfl) (by kernel_rfl) (by kernel_rfl) (fun _ _ _ h => h) (Or.inl ⟨by rfl, ?_⟩) (by assumption) ?_
  rotate_left
  · intro u hSu
    obtain ⟨s0, s1, s2, s3, s4, s5, s6⟩ := hSu
    try simp only [List.getElem_toArray, List.getElem_cons_succ, List.getElem_cons_zero]
    go_simp
    try with_reducible rfl
  try simp only [Act.put, List.setIfInBounds_toArray, List.set_cons_zero, List.set_cons_succ]
  refine wpAnyH_take (i := 13) (v := ?_) rfl (by kernel_rfl) (by kernel_rfl) (by kernel_rfl) (fun _ _ _ h => h) (Or.inl ⟨by rfl, ?_⟩) (by assumption) ?_
  rotate_left
  · intro u hSu
    obtain ⟨s0, s1, s2, s3, s4, s5, s6⟩ := hSu
    try simp only [List.getElem_toArray, List.getElem_cons_succ, List.getElem_cons_zero]
    go_simp
    try with_reducible rfl
  try simp only [Act.put, List.setIfInBounds_toArray, List.set_cons_zero, List.set_cons_succ]
  refine wpAnyH_take (i := 14) (v := ?_) rfl (by kernel_rfl) (by kernel_rfl) (by kernel_rfl) (fun _ _ _ h => h) (Or.inl ⟨by rfl, ?_⟩) (by assumption) ?_
  rotate_left
  · intro u hSu
    obtain ⟨s0, s1, s2, s3, s4, s5, s6⟩ := hSu
    try simp only [List.getElem_toArray, List.getElem_cons_succ, List.getElem_cons_zero]
    go_simp
    try with_reducible rfl
  try simp only [Act.put, List.setIfInBounds_toArray, List.set_cons_zero, List.set_cons_succ]
  refine wpAnyH_take (i := 15) (v := ?_) rfl (by kernel_rfl) (by kernel_rfl) (by kernel_rfl) (fun _ _ _ h => h) (Or.inl ⟨by rfl, ?_⟩) (by assumption) ?_
  rotate_left
  · intro u hSu
    obtain ⟨s0, s1, s2, s3, s4, s5, s6⟩ := hSu
    try simp only [List.getElem_toArray, List.getElem_cons_succ, List.getElem_cons_zero]
    go_simp
    try with_reducible rfl
  try simp only [Act.put, List.setIfInBounds_toArray, List.set_cons_zero, List.set_cons_succ]
  refine wpAnyH_take (i := 16) (v := ?_) rfl (by kernel_rfl) (by kernel_rfl) (by kernel_rfl) (fun _ _ _ h => h) (Or.inl ⟨by rfl, ?_⟩) (by assumption) ?_
  rotate_left
  · intro u hSu
    obtain ⟨s0, s1, s2, s3, s4, s5, s6⟩ := hSu
    try simp only [List.getElem_toArray, List.getElem_cons_succ, List.getElem_cons_zero]
    go_simp
    try with_reducible rfl
  try simp only [Act.put, List.setIfInBounds_toArray, List.set_cons_zero, List.set_cons_succ]
  refine wpAnyH_take (i := 17) (v := ?_) rfl (by kernel_rfl) (by kernel_rfl) (by kernel_rfl) (fun _ _ _ h => h) (Or.inl ⟨by rfl, ?_⟩) (by assumption) ?_
  rotate_left
  · intro u hSu
    obtain ⟨s0, s1, s2, s3, s4, s5, s6⟩ := hSu
    try simp only [List.getElem_toArray, List.getElem_cons_succ, List.getElem_cons_zero]
    go_simp
    try with_reducible rfl
  try simp only [Act.put, List.setIfInBounds_toArray, List.set_cons_zero, List.set_cons_succ]
  refine wpAnyH_take (i := 18) (v := ?_) rfl (by kernel_rfl) (by kernel_rfl) (by kernel_rfl) (fun _ _ _ h => h) (Or.inl ⟨by rfl, ?_⟩) (by assumption) ?_
  rotate_left
  · intro u hSu
    obtain ⟨s0, s1, s2, s3, s4, s5, s6⟩ := hSu
    try simp only [List.getElem_toArray, List.getElem_cons_succ, List.getElem_cons_zero]
    go_simp
    try with_reducible rfl
  try simp only [Act.put, List.setIfInBounds_toArray, List.set_cons_zero, List.set_cons_succ]
  refine wpAnyH_take (i := 19) (v := ?_) rfl (by kernel_rfl) (by kernel_rfl) (by kernel_rfl) (fun _ _ _ h => h) (Or.inl ⟨by rfl, ?_⟩) (by assumption) ?_
  rotate_left
  · intro u hSu
    obtain ⟨s0, s1, s2, s3, s4, s5, s6⟩ := hSu
    try simp only [List.getElem_toArray, List.getElem_cons_succ, List.getElem_cons_zero]
    go_simp
    try with_reducible rfl
  try simp only [Act.put, List.setIfInBounds_toArray, List.set_cons_zero, List.set_cons_succ]
  refine wpAnyH_take (i := 20) (v := ?_) rfl (by kernel_rfl) (by kernel_rfl) (by kernel_rfl) (fun _ _ _ h => h) (Or.inl ⟨by rfl, ?_⟩) (by assumption) ?_
  rotate_left
  · intro u hSu
    obtain ⟨s0, s1, s2, s3, s4, s5, s6⟩ := hSu
    try simp only [List.getElem_toArray, List.getElem_cons_succ, List.getElem_cons_zero]
    go_simp
    try with_reducible rfl
  try simp only [Act.put, List.setIfInBounds_toArray, List.set_cons_zero, List.set_cons_succ]
  refine wpAnyH_ready (rs := [21]) (by kernel_rfl) (by simp) ?_
  refine AllReadyH.cons rfl (fun K hK => ?_) AllReadyH.nil
  try simp only [List.getElem_toArray, List.getElem_cons_succ, List.getElem_cons_zero]
  go_simp
  refine hK.out _ _ ?_ (fun hHeld2 => ?_)
  · exact ⟨by go_simp, by go_simp, by go_simp, by go_simp, by go_simp, by go_simp, by go_simp⟩
  clear hK K
  try simp only [Act.put, List.setIfInBounds_toArray, List.set_cons_zero, List.set_cons_succ]
  refine wpAnyH_done (by kernel_rfl) ?_ _
  try simp only [List.getElem_toArray, List.getElem_cons_succ, List.getElem_cons_zero]
  try simp only [Act.put, List.setIfInBounds_toArray, List.set_cons_zero, List.set_cons_succ]
  refine NoPanic.normal ?_
  go_wp2_with fail
  have hR4 := hR.store hkr (.int .i64 num) (.int .i64 t) (.int .i64 C) (.slice a m cm)
  have hQ4 := (((hQ.set_ring (k * 4) (.int .i64 num)).set_ring (k * 4 + 1) (.int .i64 t)).set_ring (k * 4 + 2) (.int .i64 C)).set_ring (k * 4 + 3) (.slice a m cm)
  have hQ5 := hQ4.set_n (n + 1) (by omega)
  have hR5 := (hR4.set_q (qb := qb) hne1 2 (.int .i64 ((n + 1 : Nat) : Int)))
  rw [Int.natCast_add, Int.natCast_one] at hQ5 hR5
  have hK5 := (((((Kept.of_below hB hq).trans (Kept.set rb (k * 4) (.int .i64 num) (.inr rfl))).trans (Kept.set rb (k * 4 + 1) (.int .i64 t) (.inr rfl))).trans (Kept.set rb (k * 4 + 2) (.int .i64 C) (.inr rfl))).trans (Kept.set rb (k * 4 + 3) (.slice a m cm) (.inr rfl))).trans (Kept.set qb 2 (.int .i64 ((n : Int) + 1)) (.inl rfl))
  exact bodyPost_ret (v := .bool true) (by simp [results, Try.results43, go_sem]) rfl ⟨rfl, hQ5.drew, by rw [hk]; exact hR5.drew hQ5.rl, hK5.trans (Kept.drew 1)⟩
end Go.Proofs.Ytkefkophlhcbiaa
