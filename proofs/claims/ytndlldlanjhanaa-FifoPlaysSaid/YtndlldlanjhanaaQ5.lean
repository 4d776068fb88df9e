/- Queues of packets: Push. -/
import Derived.Test.YtndlldlanjhanaaQ4
namespace Go.Proofs.Ytndlldlanjhanaa
open Go.ChangeShapes Go.WideShapes Go.ChangeAt Go.RowKit
set_option linter.unusedVariables false
set_option linter.unusedSimpArgs false
open Pk BigFrame Fq

namespace Fq
/-- A packet's copy may be made in whatever world lies behind w. -/
def CopyP (num t C : Int) (a : Option Addr) (m cm : Nat) (w : World) : Prop := ∀ u, Below w.heap.size w u → Calls Try.prog 23 #[.agg #[.int .i64 num, .int .i64 t, .int .i64 C, .slice a m cm]] u fun e u' => ∃ a1 c1, e = .returned (.agg #[.int .i64 num, .int .i64 t, .int .i64 C, .slice a1 m c1]) ∧ (m = 0 → a1 = none ∧ c1 = 0) ∧ Below u.heap.size u u'
theorem copy_nil (num t C : Int) (w : World) : CopyP num t C none 0 0 w := fun u _ => (copied_nil num t C u).mono fun e u' ⟨h1, h2⟩ => ⟨none, 0, h1, fun _ => ⟨rfl, rfl⟩, h2⟩
def PushP (qb rb room pos n by_ dr : Nat) (num t C : Int) (m : Nat) (pk : Nat → Nat → Value) (w : World) (e : Ending) (w' : World) : Prop :=
  e = .returned (.int .i64 0) ∧ ∃ a1 c1, (m = 0 → a1 = none ∧ c1 = 0) ∧ QAt w' qb rb room pos (n + 1) (by_ + 8 + m) dr ∧ RingAt w' rb room (fun j i => if j = (pos + n) % room then (#[.int .i64 num, .int .i64 t, .int .i64 C, .slice a1 m c1] : Array Value).getD i undef else pk j i) ∧ Kept w w' qb rb
end Fq

set_option maxRecDepth 100000 in
set_option maxHeartbeats 4000000 in
theorem qpush_ok (qb rb room pos n by_ dr : Nat) (num t C : Int) (a : Option Addr) (m cm : Nat) (pk : Nat → Nat → Value) (w : World) (h : QAt w qb rb room pos n by_ dr) (hr : RingAt w rb room pk) (hn : n < room) (hm : m ≤ 1492) (hby0 : by_ + 8 + m ≤ 1000000) (hcp : CopyP num t C a m cm w) :
    Calls Try.prog 13 #[.pointer (some ⟨qb, 0, none⟩), .agg #[.int .i64 num, .int .i64 t, .int .i64 C, .slice a m cm]] w (PushP qb rb room pos n by_ dr num t C m pk w) := by
  have hq : qb < w.heap.size := World.block_lt_of_cell? _ _ h.c0
  have k1 : ¬ (1500 : Int) < 8 + (m : Int) := by omega
  have hB0 := (Below.refl w.heap.size w).alloc (Nat.le_refl _) (.cells #[.int .i64 num, .int .i64 t, .int .i64 C, .slice a m cm] 25)
  go_enter Try.func13, Try.ntmps13
  go_wp2_with fail
  refine (qsize_c num t C a m cm _ (by omega)).mono ?_
  rintro e w1 ⟨rfl, hb1⟩
  have hB1 := bNext hB0 hb1 (Nat.le_refl _)
  have p0 : w1.cell? ⟨w.heap.size, 0, none⟩ = some (.int .i64 num) := (hb1.cell (p := ⟨w.heap.size, 0, none⟩) (by simp)).trans (by go_simp)
  have p1 : w1.cell? ⟨w.heap.size, 1, none⟩ = some (.int .i64 t) := (hb1.cell (p := ⟨w.heap.size, 1, none⟩) (by simp)).trans (by go_simp)
  have p2 : w1.cell? ⟨w.heap.size, 2, none⟩ = some (.int .i64 C) := (hb1.cell (p := ⟨w.heap.size, 2, none⟩) (by simp)).trans (by go_simp)
  have p3 : w1.cell? ⟨w.heap.size, 3, none⟩ = some (.slice a m cm) := (hb1.cell (p := ⟨w.heap.size, 3, none⟩) (by simp)).trans (by go_simp)
  have hs1 : w.heap.size < w1.heap.size := World.block_lt_of_cell? _ _ p0
  have hQ1 := Lib.hid (h.below hB1)
  have hR1 := Lib.hid (hr.below h.rl hB1)
  have hcp1 := Lib.hid hcp
  have hne3 : w.heap.size ≠ qb := by omega
  have hne2 : w.heap.size ≠ rb := by have := h.rl; omega
  replace hby0 := Lib.hid hby0
  clear hcp hb1 h hr hB0
  go_wp2_with fail
  go_region_with (first
    | (go_at_call 23; refine (hcp1.out _ hB1.drew).mono ?_; rintro e u1 ⟨a1, k1', rfl, hz1, hb2⟩; replace hz1 := Lib.hid hz1; have hQ2 := Lib.hid (hQ1.out.drew.below hb2); have hR2 := Lib.hid ((hR1.out.drew hQ1.out.rl).below hQ1.out.drew.rl hb2))
    | (go_at_call 22; refine (rpush_ok qb rb room pos n by_ dr num t C a1 m k1' pk _ hQ2.out hR2.out hn).mono ?_; rintro e u2 ⟨rfl, hQ3, hR3, hK3⟩; replace hQ3 := Lib.hid hQ3; replace hR3 := Lib.hid hR3; replace hK3 := Lib.hid hK3))
  all_goals
    have pp : ∀ o, u2.cell? ⟨w.heap.size, o, none⟩ = w1.cell? ⟨w.heap.size, o, none⟩ := fun o => (World.cell?_of_block (hK3.out.block w.heap.size (by have := hb2.size; simp at this; omega) hne3 hne2)).trans ((hb2.cell (p := ⟨w.heap.size, o, none⟩) (by simpa using hs1)).trans (by simp))
    have hK4 : Kept w u2 qb rb := ((Kept.of_below hB1.drew hq).trans (Kept.of_below hb2 (by have := hB1.size; simp; omega))).trans hK3.out
    replace hK4 := Lib.hid hK4
    have r0 := (pp 0).trans p0
    have r1 := (pp 1).trans p1
    have r2 := (pp 2).trans p2
    have r3 := (pp 3).trans p3
    have c3 := hQ3.out.c3
    have qf := hQ3.out.f
    have hq3 : qb < u2.heap.size := World.block_lt_of_cell? _ _ c3
    have hs3 : w.heap.size < u2.heap.size := World.block_lt_of_cell? _ _ r0
    clear pp p0 p1 p2 p3 hb2 hQ2 hR2
    go_wp2_with fail
    go_region_with (go_at_call 21; refine (qsize_c num t C a m cm _ (by omega)).mono ?_; rintro e w4 ⟨rfl, hb4⟩; have z3 := (hb4.cell (p := ⟨qb, 3, none⟩) (by simpa using hq3)).trans (show u2.drew.cell? _ = _ by simpa using c3); have zf := fun o => (hb4.frozen (p := ⟨qb, o, none⟩) (by simpa using hq3)).trans (show u2.drew.frozen? _ = _ by simpa using qf o))
    all_goals
      have wr : IntKind.i64.wrap ((by_ : Int) + (8 + (m : Int))) = ((by_ + 8 + m : Nat) : Int) := by have hz := hby0.out; rw [IntWalk.i64_in _ ⟨by omega, by omega⟩]; omega
      have hQ4 := ((hQ3.out.drew).below hb4).set_by (by_ + 8 + m) hby0.out
      have hR4 := ((hR3.out.drew hQ3.out.rl).below hQ3.out.drew.rl hb4).set_q hQ3.out.ne 3 (.int .i64 ((by_ + 8 + m : Nat) : Int))
      have hK5 := ((hK4.out.trans (Kept.drew 1)).trans (Kept.of_below hb4 (by simpa using hq3))).trans (Kept.set (rb := rb) qb 3 (.int .i64 ((by_ + 8 + m : Nat) : Int)) (.inl rfl))
      replace hQ4 := Lib.hid hQ4
      replace hR4 := Lib.hid hR4
      replace hK5 := Lib.hid hK5
      simp only [wr]
      clear wr z3 zf hb4
      go_wp2_with fail
      exact bodyPost_ret (v := .int .i64 0) (by simp [results, Try.results13, go_sem]) rfl ⟨rfl, a1, k1', hz1.out, hQ4.out, hR4.out, hK5.out⟩
set_option maxRecDepth 100000 in
set_option maxHeartbeats 4000000 in
theorem qpush_full (qb rb room pos by_ dr : Nat) (num t C : Int) (a : Option Addr) (m cm : Nat) (pk : Nat → Nat → Value) (w : World) (h : QAt w qb rb room pos room by_ dr) (hr : RingAt w rb room pk) (hd : dr < 1000000) (hm : m ≤ 1492) (hcp : CopyP num t C a m cm w) :
    Calls Try.prog 13 #[.pointer (some ⟨qb, 0, none⟩), .agg #[.int .i64 num, .int .i64 t, .int .i64 C, .slice a m cm]] w fun e w' => e = .returned (.int .i64 100) ∧ QAt w' qb rb room pos room by_ (dr + 1) ∧ RingAt w' rb room pk ∧ Kept w w' qb rb := by
  have hq : qb < w.heap.size := World.block_lt_of_cell? _ _ h.c0
  have k1 : ¬ (1500 : Int) < 8 + (m : Int) := by omega
  have hB0 := (Below.refl w.heap.size w).alloc (Nat.le_refl _) (.cells #[.int .i64 num, .int .i64 t, .int .i64 C, .slice a m cm] 25)
  go_enter Try.func13, Try.ntmps13
  go_wp2_with fail
  refine (qsize_c num t C a m cm _ (by omega)).mono ?_
  rintro e w1 ⟨rfl, hb1⟩
  have hB1 := bNext hB0 hb1 (Nat.le_refl _)
  have p0 : w1.cell? ⟨w.heap.size, 0, none⟩ = some (.int .i64 num) := (hb1.cell (p := ⟨w.heap.size, 0, none⟩) (by simp)).trans (by go_simp)
  have p1 : w1.cell? ⟨w.heap.size, 1, none⟩ = some (.int .i64 t) := (hb1.cell (p := ⟨w.heap.size, 1, none⟩) (by simp)).trans (by go_simp)
  have p2 : w1.cell? ⟨w.heap.size, 2, none⟩ = some (.int .i64 C) := (hb1.cell (p := ⟨w.heap.size, 2, none⟩) (by simp)).trans (by go_simp)
  have p3 : w1.cell? ⟨w.heap.size, 3, none⟩ = some (.slice a m cm) := (hb1.cell (p := ⟨w.heap.size, 3, none⟩) (by simp)).trans (by go_simp)
  have hQ1 := Lib.hid (h.below hB1)
  have hR1 := Lib.hid (hr.below h.rl hB1)
  have hcp1 := Lib.hid hcp
  have hwd : IntKind.i64.wrap ((dr : Int) + 1) = (dr : Int) + 1 := IntWalk.i64_in _ ⟨by omega, by omega⟩
  have hdd := Lib.hid hd
  clear hcp hb1 h hr hB0 hd
  go_wp2_with fail
  go_region_with (first
    | (go_at_call 23; refine (hcp1.out _ hB1.drew).mono ?_; rintro e u1 ⟨a1, k1', rfl, hz1, hb2⟩; have hQ2 := Lib.hid (hQ1.out.drew.below hb2); have hR2 := Lib.hid ((hR1.out.drew hQ1.out.rl).below hQ1.out.drew.rl hb2))
    | (go_at_call 22; refine (rpush_full qb rb room pos by_ dr num t C a1 m k1' _ hQ2.out).mono ?_; rintro e u2 ⟨rfl, hb3⟩))
  all_goals
    have hQ3 := hQ2.out.below hb3
    have hR3 := hR2.out.below hQ2.out.rl hb3
    have c4 := hQ3.c4
    have qf := hQ3.f
    have hK3 : Kept w u2 qb rb := ((Kept.of_below hB1.drew hq).trans (Kept.of_below hb2 (by have := hB1.size; simp; omega))).trans (Kept.of_below hb3 (World.block_lt_of_cell? _ _ hQ2.out.c0))
    have hQ4 := hQ3.set_dr (dr + 1) (by have := hdd.out; omega)
    have hR4 := hR3.set_q hQ3.ne 4 (.int .i64 ((dr + 1 : Nat) : Int))
    have hK4 := hK3.trans (Kept.set (rb := rb) qb 4 (.int .i64 ((dr + 1 : Nat) : Int)) (.inl rfl))
    rw [Int.natCast_add, Int.natCast_one] at hQ4 hR4 hK4
    replace hQ4 := Lib.hid hQ4
    replace hR4 := Lib.hid hR4
    replace hK4 := Lib.hid hK4
    clear hQ3 hR3 hK3 hb3 hb2
    go_wp2_with fail
    exact bodyPost_ret (v := .int .i64 100) (by simp [results, Try.results13, go_sem]) rfl ⟨rfl, hQ4.out, hR4.out, hK4.out⟩

set_option maxRecDepth 100000 in
set_option maxHeartbeats 2000000 in
theorem copied_some (num t C : Int) (b o n cap : Nat) (f : Nat → Nat) (w : World) (hn : 0 < n) (hn2 : n ≤ 1000000) (hb : b < w.heap.size) (h : BytesAt w b o n f) :
    Calls Try.prog 23 #[.agg #[.int .i64 num, .int .i64 t, .int .i64 C, .slice (some ⟨b, o, none⟩) n cap]] w fun e w' => (∃ a1 c1, e = .returned (.agg #[.int .i64 num, .int .i64 t, .int .i64 C, .slice a1 n c1])) ∧ Below w.heap.size w w' := by
  have hB0 := ((Below.refl w.heap.size w).alloc (Nat.le_refl _) (.cells #[.int .i64 num, .int .i64 t, .int .i64 C, .slice (some ⟨b, o, none⟩) n cap] 25)).alloc (by simp) (.cells #[.int .i64 0, .int .i64 0, .int .i64 0, .slice none 0 0] 25)
  have hcl := Lib.hid (fun u (hu : Below w.heap.size w u) => clone_some b o n cap f u hn hn2 (by have := hu.size; omega) (fun i hi => ⟨(hu.cell (p := ⟨b, o + i, none⟩) hb).trans (h i hi).1, (h i hi).2⟩))
  replace h := Lib.hid h
  go_enter Try.func23, Try.ntmps23
  go_wp2_with fail
  refine (hcl.out _ hB0).mono ?_
  rintro e w2 ⟨g, c, rfl, _, hg1, hg2, hb2⟩
  have hB2 := bNext hB0 hb2 (Nat.le_refl _)
  have hs2 := hb2.size
  rw [World.size_alloc, World.size_alloc] at hs2
  have p0 : w2.cell? ⟨w.heap.size, 0, none⟩ = some (.int .i64 num) := (hb2.cell (p := ⟨w.heap.size, 0, none⟩) (by simp; omega)).trans (by go_simp)
  have p1 : w2.cell? ⟨w.heap.size, 1, none⟩ = some (.int .i64 t) := (hb2.cell (p := ⟨w.heap.size, 1, none⟩) (by simp; omega)).trans (by go_simp)
  have p2 : w2.cell? ⟨w.heap.size, 2, none⟩ = some (.int .i64 C) := (hb2.cell (p := ⟨w.heap.size, 2, none⟩) (by simp; omega)).trans (by go_simp)
  have p3 : w2.cell? ⟨w.heap.size, 3, none⟩ = some (.slice (some ⟨b, o, none⟩) n cap) := (hb2.cell (p := ⟨w.heap.size, 3, none⟩) (by simp; omega)).trans (by go_simp)
  have pf : ∀ x, w2.frozen? ⟨w.heap.size, x, none⟩ = false := fun x => (hb2.frozen (p := ⟨w.heap.size, x, none⟩) (by simp; omega)).trans (by go_simp)
  have q0 : w2.cell? ⟨w.heap.size + 1, 0, none⟩ = some (.int .i64 0) := (hb2.cell (p := ⟨w.heap.size + 1, 0, none⟩) (by simp)).trans (by go_simp)
  have q1 : w2.cell? ⟨w.heap.size + 1, 1, none⟩ = some (.int .i64 0) := (hb2.cell (p := ⟨w.heap.size + 1, 1, none⟩) (by simp)).trans (by go_simp)
  have q2 : w2.cell? ⟨w.heap.size + 1, 2, none⟩ = some (.int .i64 0) := (hb2.cell (p := ⟨w.heap.size + 1, 2, none⟩) (by simp)).trans (by go_simp)
  have q3 : w2.cell? ⟨w.heap.size + 1, 3, none⟩ = some (.slice none 0 0) := (hb2.cell (p := ⟨w.heap.size + 1, 3, none⟩) (by simp)).trans (by go_simp)
  have qf : ∀ x, w2.frozen? ⟨w.heap.size + 1, x, none⟩ = false := fun x => (hb2.frozen (p := ⟨w.heap.size + 1, x, none⟩) (by simp)).trans (by go_simp)
  clear hb2 hcl
  have o3 : ∀ x, (w2.setCell ⟨w.heap.size, 3, none⟩ (.slice (some ⟨g, 0, none⟩) n c)).cell? ⟨w.heap.size + 1, x, none⟩ = w2.cell? ⟨w.heap.size + 1, x, none⟩ := fun x => World.cell?_setCell_other _ _ _ _ (by simp)
  obtain ⟨s0, s1, s2, s3⟩ := set4 (.int .i64 num) (.int .i64 t) (.int .i64 C) (.slice (some ⟨g, 0, none⟩) n c) ((o3 0).trans q0) ((o3 1).trans q1) ((o3 2).trans q2) ((o3 3).trans q3)
  have hB4 := below4 (hB2.setCell (p := ⟨w.heap.size, 3, none⟩) (Nat.le_refl _) (.slice (some ⟨g, 0, none⟩) n c)) (show w.heap.size ≤ w.heap.size + 1 by omega) (.int .i64 num) (.int .i64 t) (.int .i64 C) (.slice (some ⟨g, 0, none⟩) n c)
  go_wp2_with fail
  exact bodyPost_ret (v := .agg #[.int .i64 num, .int .i64 t, .int .i64 C, .slice (some ⟨g, 0, none⟩) n c]) (by simp [results, Try.results23, go_sem, s0, s1, s2, s3]) rfl ⟨⟨_, _, rfl⟩, hB4⟩
end Go.Proofs.Ytndlldlanjhanaa
