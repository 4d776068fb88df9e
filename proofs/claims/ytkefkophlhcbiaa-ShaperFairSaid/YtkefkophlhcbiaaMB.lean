/- Queues of packets: New and Push. Queues of packets: Push. Queues of packets: Head and Pop. Queues of packets: Pop. Queues of packets with what they hold: copies, and whether two packets are the same. Queues of packets with what they hold: Push, Head, Pop. Queues of packets with what they hold: the program's queue as a list of packets. -/
import Derived.Test.YtkefkophlhcbiaaQ3
import Derived.Deep.Cut
import Derived.Test.YtkefkophlhcbiaaBy
namespace Go.Proofs.Ytkefkophlhcbiaa
open Go.ChangeShapes Go.WideShapes Go.ChangeAt Go.RowKit
set_option linter.unusedVariables false
set_option linter.unusedSimpArgs false
open Pk BigFrame Fq

/-- A new queue. -/
def QNewP (room : Nat) (w : World) (e : Ending) (w' : World) : Prop := ∃ qb rb pk, e = .returned (.tuple #[.pointer (some ⟨qb, 0, none⟩), .int .i64 0]) ∧ QAt w' qb rb room 0 0 0 0 ∧ RingAt w' rb room pk ∧ w.heap.size ≤ qb ∧ w.heap.size ≤ rb ∧ Below w.heap.size w w'

theorem info_packet : (Try.prog.info? 38).map (fun i => (i.zero, i.size, i.bytes)) = some (some (.agg #[.int .i64 0, .int .i64 0, .int .i64 0, .slice none 0 0]), 4, 48) := by kernel_rfl

set_option maxRecDepth 100000 in
set_option maxHeartbeats 2000000 in
theorem qnew_ok (room : Nat) (w : World) (h1 : 1 ≤ room) (h2 : room ≤ 64) :
    Calls Try.prog 23 #[.int .i64 (room : Nat)] w (QNewP room w) := by
  obtain ⟨i0, hi0, hz0, hz1, hz2⟩ := info_parts info_packet
  have k1 : ¬ (room : Int) < 1 := by omega
  have k2 : ¬ (64 : Int) < (room : Int) := by omega
  go_enter Try.func23, Try.ntmps23
  go_wp2_with (at_make; refine wpList_make_full _ rfl _ _ 89 rfl w.heap.size 38 i0 _ 4 Try.underlying89 hi0 hz0 hz1 .i64 .i64 _ _ room rfl rfl rfl rfl (by rw [hz2]; omega) (by unfold maxLen; omega) (Nat.le_refl _) ?_; intro w3 hown3 hgrow3)
  have hs3 := hgrow3.size
  have hl3 := (hown3.lt w.heap.size rfl).2
  have hB3 : Below w.heap.size w w3 := (Below.refl _ _).grown hgrow3 (Nat.le_refl _) (fun k hk => by cases hk)
  have hB4 := hB3.alloc hs3 (.cells #[.slice (some ⟨w.heap.size, 0, none⟩) room room, .int .i64 0, .int .i64 0, .int .i64 0, .int .i64 0] 93)
  have hbn := (Below.refl w3.heap.size w3).alloc (Nat.le_refl _) (.cells #[.slice (some ⟨w.heap.size, 0, none⟩) room room, .int .i64 0, .int .i64 0, .int .i64 0, .int .i64 0] 93)
  go_ret2
  refine ⟨w3.heap.size, w.heap.size, fun j i => (madeCells (Value.agg #[.int .i64 0, .int .i64 0, .int .i64 0, .slice none 0 0]).cells (room * 4)).toList.getD (j * 4 + i) undef, rfl, ⟨by go_simp, by go_simp, by go_simp, by go_simp, by go_simp, fun o => by go_simp, fun o => (hbn.frozen (p := ⟨w.heap.size, o, none⟩) hl3).trans (hown3.frozenAt o), by omega, by have := hbn.size; omega, h1, h2, by omega, by omega, by omega, by omega⟩, fun j i hj hi => ?_, by omega, Nat.le_refl _, hB4⟩
  refine (hbn.cell (p := ⟨w.heap.size, j * 4 + i, none⟩) hl3).trans ((hown3.cellAt (j * 4 + i) (by omega)).trans ?_)
  have hlen := hown3.1
  rw [List.getElem?_eq_getElem (by rw [hlen]; omega)]
  simp [List.getD, List.getElem?_eq_getElem (show j * 4 + i < _ by rw [hlen]; omega)]
end Go.Proofs.Ytkefkophlhcbiaa
namespace Go.Proofs.Ytkefkophlhcbiaa
open Go.ChangeShapes Go.WideShapes Go.ChangeAt Go.RowKit
set_option linter.unusedVariables false
set_option linter.unusedSimpArgs false
open Pk BigFrame Fq

namespace Fq
/-- A packet's copy may be made in whatever world lies behind w. -/
def CopyP (num t C : Int) (a : Option Addr) (m cm : Nat) (w : World) : Prop := ∀ u, Below w.heap.size w u → Calls Try.prog 44 #[.agg #[.int .i64 num, .int .i64 t, .int .i64 C, .slice a m cm]] u fun e u' => ∃ a1 c1, e = .returned (.agg #[.int .i64 num, .int .i64 t, .int .i64 C, .slice a1 m c1]) ∧ (m = 0 → a1 = none ∧ c1 = 0) ∧ Below u.heap.size u u'
theorem copy_nil (num t C : Int) (w : World) : CopyP num t C none 0 0 w := fun u _ => (copied_nil num t C u).mono fun e u' ⟨h1, h2⟩ => ⟨none, 0, h1, fun _ => ⟨rfl, rfl⟩, h2⟩
def PushP (qb rb room pos n by_ dr : Nat) (num t C : Int) (m : Nat) (pk : Nat → Nat → Value) (w : World) (e : Ending) (w' : World) : Prop :=
  e = .returned (.int .i64 0) ∧ ∃ a1 c1, (m = 0 → a1 = none ∧ c1 = 0) ∧ QAt w' qb rb room pos (n + 1) (by_ + 8 + m) dr ∧ RingAt w' rb room (fun j i => if j = (pos + n) % room then (#[.int .i64 num, .int .i64 t, .int .i64 C, .slice a1 m c1] : Array Value).getD i undef else pk j i) ∧ Kept w w' qb rb
end Fq

set_option maxRecDepth 100000 in
set_option maxHeartbeats 4000000 in
theorem qpush_ok (qb rb room pos n by_ dr : Nat) (num t C : Int) (a : Option Addr) (m cm : Nat) (pk : Nat → Nat → Value) (w : World) (h : QAt w qb rb room pos n by_ dr) (hr : RingAt w rb room pk) (hn : n < room) (hm : m ≤ 1492) (hby0 : by_ + 8 + m ≤ 1000000) (hcp : CopyP num t C a m cm w) :
    Calls Try.prog 28 #[.pointer (some ⟨qb, 0, none⟩), .agg #[.int .i64 num, .int .i64 t, .int .i64 C, .slice a m cm]] w (PushP qb rb room pos n by_ dr num t C m pk w) := by
  have hq : qb < w.heap.size := World.block_lt_of_cell? _ _ h.c0
  have k1 : ¬ (1500 : Int) < 8 + (m : Int) := by omega
  have hB0 := (Below.refl w.heap.size w).alloc (Nat.le_refl _) (.cells #[.int .i64 num, .int .i64 t, .int .i64 C, .slice a m cm] 38)
  go_enter Try.func28, Try.ntmps28
  go_wp2_with fail
  refine (qsize_c num t C a m cm _ (by omega)).mono ?_
  rintro e w1 ⟨rfl, hb1⟩
  have hB1 := bNext hB0 hb1 (Nat.le_refl _)
  have p0 : w1.cell? ⟨w.heap.size, 0, none⟩ = some (.int .i64 num) := (hb1.cell (p := ⟨w.heap.size, 0, none⟩) (by simp)).trans (by go_simp)
  have p1 : w1.cell? ⟨w.heap.size, 1, none⟩ = some (.int .i64 t) := (hb1.cell (p := ⟨w.heap.size, 1, none⟩) (by simp)).trans (by go_simp)
  have p2 : w1.cell? ⟨w.heap.size, 2, none⟩ = some (.int .i64 C) := (hb1.cell (p := ⟨w.heap.size, 2, none⟩) (by simp)).trans (by go_simp)
  have p3 : w1.cell? ⟨w.heap.size, 3, none⟩ = some (.slice a m cm) := (hb1.cell (p := ⟨w.heap.size, 3, none⟩) (by simp)).trans (by go_simp)
  have hs1 : w.heap.size < w1.heap.size := World.block_lt_of_cell? _ _ p0
  have hQ1 := Lib.hid (h.below hB1)
  have hR1 := Lib.hid (hr.below h.rl hB1)
  have hcp1 := Lib.hid hcp
  have hne3 : w.heap.size ≠ qb := by omega
  have hne2 : w.heap.size ≠ rb := by have := h.rl; omega
  replace hby0 := Lib.hid hby0
  clear hcp hb1 h hr hB0
  go_wp2_with fail
  go_region_with (first
    | (go_at_call 44; refine (hcp1.out _ hB1.drew).mono ?_; rintro e u1 ⟨a1, k1', rfl, hz1, hb2⟩; replace hz1 := Lib.hid hz1; have hQ2 := Lib.hid (hQ1.out.drew.below hb2); have hR2 := Lib.hid ((hR1.out.drew hQ1.out.rl).below hQ1.out.drew.rl hb2))
    | (go_at_call 43; refine (rpush_ok qb rb room pos n by_ dr num t C a1 m k1' pk _ hQ2.out hR2.out hn).mono ?_; rintro e u2 ⟨rfl, hQ3, hR3, hK3⟩; replace hQ3 := Lib.hid hQ3; replace hR3 := Lib.hid hR3; replace hK3 := Lib.hid hK3))
  all_goals
    have pp : ∀ o, u2.cell? ⟨w.heap.size, o, none⟩ = w1.cell? ⟨w.heap.size, o, none⟩ := fun o => (World.cell?_of_block (hK3.out.block w.heap.size (by have := hb2.size; simp at this; omega) hne3 hne2)).trans ((hb2.cell (p := ⟨w.heap.size, o, none⟩) (by simpa using hs1)).trans (by simp))
    have hK4 : Kept w u2 qb rb := ((Kept.of_below hB1.drew hq).trans (Kept.of_below hb2 (by have := hB1.size; simp; omega))).trans hK3.out
    replace hK4 := Lib.hid hK4
    have r0 := (pp 0).trans p0
    have r1 := (pp 1).trans p1
    have r2 := (pp 2).trans p2
    have r3 := (pp 3).trans p3
    have c3 := hQ3.out.c3
    have qf := hQ3.out.f
    have hq3 : qb < u2.heap.size := World.block_lt_of_cell? _ _ c3
    have hs3 : w.heap.size < u2.heap.size := World.block_lt_of_cell? _ _ r0
    clear pp p0 p1 p2 p3 hb2 hQ2 hR2
    go_wp2_with fail
    go_region_with (go_at_call 42; refine (qsize_c num t C a m cm _ (by omega)).mono ?_; rintro e w4 ⟨rfl, hb4⟩; have z3 := (hb4.cell (p := ⟨qb, 3, none⟩) (by simpa using hq3)).trans (show u2.drew.cell? _ = _ by simpa using c3); have zf := fun o => (hb4.frozen (p := ⟨qb, o, none⟩) (by simpa using hq3)).trans (show u2.drew.frozen? _ = _ by simpa using qf o))
    all_goals
      have wr : IntKind.i64.wrap ((by_ : Int) + (8 + (m : Int))) = ((by_ + 8 + m : Nat) : Int) := by have hz := hby0.out; rw [IntWalk.i64_in _ ⟨by omega, by omega⟩]; omega
      have hQ4 := ((hQ3.out.drew).below hb4).set_by (by_ + 8 + m) hby0.out
      have hR4 := ((hR3.out.drew hQ3.out.rl).below hQ3.out.drew.rl hb4).set_q hQ3.out.ne 3 (.int .i64 ((by_ + 8 + m : Nat) : Int))
      have hK5 := ((hK4.out.trans (Kept.drew 1)).trans (Kept.of_below hb4 (by simpa using hq3))).trans (Kept.set (rb := rb) qb 3 (.int .i64 ((by_ + 8 + m : Nat) : Int)) (.inl rfl))
      replace hQ4 := Lib.hid hQ4
      replace hR4 := Lib.hid hR4
      replace hK5 := Lib.hid hK5
      simp only [wr]
      clear wr z3 zf hb4
      go_wp2_with fail
      exact bodyPost_ret (v := .int .i64 0) (by simp [results, Try.results28, go_sem]) rfl ⟨rfl, a1, k1', hz1.out, hQ4.out, hR4.out, hK5.out⟩
set_option maxRecDepth 100000 in
set_option maxHeartbeats 4000000 in
theorem qpush_full (qb rb room pos by_ dr : Nat) (num t C : Int) (a : Option Addr) (m cm : Nat) (pk : Nat → Nat → Value) (w : World) (h : QAt w qb rb room pos room by_ dr) (hr : RingAt w rb room pk) (hd : dr < 1000000) (hm : m ≤ 1492) (hcp : CopyP num t C a m cm w) :
    Calls Try.prog 28 #[.pointer (some ⟨qb, 0, none⟩), .agg #[.int .i64 num, .int .i64 t, .int .i64 C, .slice a m cm]] w fun e w' => e = .returned (.int .i64 100) ∧ QAt w' qb rb room pos room by_ (dr + 1) ∧ RingAt w' rb room pk ∧ Kept w w' qb rb := by
  have hq : qb < w.heap.size := World.block_lt_of_cell? _ _ h.c0
  have k1 : ¬ (1500 : Int) < 8 + (m : Int) := by omega
  have hB0 := (Below.refl w.heap.size w).alloc (Nat.le_refl _) (.cells #[.int .i64 num, .int .i64 t, .int .i64 C, .slice a m cm] 38)
  go_enter Try.func28, Try.ntmps28
  go_wp2_with fail
  refine (qsize_c num t C a m cm _ (by omega)).mono ?_
  rintro e w1 ⟨rfl, hb1⟩
  have hB1 := bNext hB0 hb1 (Nat.le_refl _)
  have p0 : w1.cell? ⟨w.heap.size, 0, none⟩ = some (.int .i64 num) := (hb1.cell (p := ⟨w.heap.size, 0, none⟩) (by simp)).trans (by go_simp)
  have p1 : w1.cell? ⟨w.heap.size, 1, none⟩ = some (.int .i64 t) := (hb1.cell (p := ⟨w.heap.size, 1, none⟩) (by simp)).trans (by go_simp)
  have p2 : w1.cell? ⟨w.heap.size, 2, none⟩ = some (.int .i64 C) := (hb1.cell (p := ⟨w.heap.size, 2, none⟩) (by simp)).trans (by go_simp)
  have p3 : w1.cell? ⟨w.heap.size, 3, none⟩ = some (.slice a m cm) := (hb1.cell (p := ⟨w.heap.size, 3, none⟩) (by simp)).trans (by go_simp)
  have hQ1 := Lib.hid (h.below hB1)
  have hR1 := Lib.hid (hr.below h.rl hB1)
  have hcp1 := Lib.hid hcp
  have hwd : IntKind.i64.wrap ((dr : Int) + 1) = (dr : Int) + 1 := IntWalk.i64_in _ ⟨by omega, by omega⟩
  have hdd := Lib.hid hd
  clear hcp hb1 h hr hB0 hd
  go_wp2_with fail
  go_region_with (first
    | (go_at_call 44; refine (hcp1.out _ hB1.drew).mono ?_; rintro e u1 ⟨a1, k1', rfl, hz1, hb2⟩; have hQ2 := Lib.hid (hQ1.out.drew.below hb2); have hR2 := Lib.hid ((hR1.out.drew hQ1.out.rl).below hQ1.out.drew.rl hb2))
    | (go_at_call 43; refine (rpush_full qb rb room pos by_ dr num t C a1 m k1' _ hQ2.out).mono ?_; rintro e u2 ⟨rfl, hb3⟩))
  all_goals
    have hQ3 := hQ2.out.below hb3
    have hR3 := hR2.out.below hQ2.out.rl hb3
    have c4 := hQ3.c4
    have qf := hQ3.f
    have hK3 : Kept w u2 qb rb := ((Kept.of_below hB1.drew hq).trans (Kept.of_below hb2 (by have := hB1.size; simp; omega))).trans (Kept.of_below hb3 (World.block_lt_of_cell? _ _ hQ2.out.c0))
    have hQ4 := hQ3.set_dr (dr + 1) (by have := hdd.out; omega)
    have hR4 := hR3.set_q hQ3.ne 4 (.int .i64 ((dr + 1 : Nat) : Int))
    have hK4 := hK3.trans (Kept.set (rb := rb) qb 4 (.int .i64 ((dr + 1 : Nat) : Int)) (.inl rfl))
    rw [Int.natCast_add, Int.natCast_one] at hQ4 hR4 hK4
    replace hQ4 := Lib.hid hQ4
    replace hR4 := Lib.hid hR4
    replace hK4 := Lib.hid hK4
    clear hQ3 hR3 hK3 hb3 hb2
    go_wp2_with fail
    exact bodyPost_ret (v := .int .i64 100) (by simp [results, Try.results28, go_sem]) rfl ⟨rfl, hQ4.out, hR4.out, hK4.out⟩

set_option maxRecDepth 100000 in
set_option maxHeartbeats 2000000 in
theorem copied_some (num t C : Int) (b o n cap : Nat) (f : Nat → Nat) (w : World) (hn : 0 < n) (hn2 : n ≤ 1000000) (hb : b < w.heap.size) (h : BytesAt w b o n f) :
    Calls Try.prog 44 #[.agg #[.int .i64 num, .int .i64 t, .int .i64 C, .slice (some ⟨b, o, none⟩) n cap]] w fun e w' => (∃ a1 c1, e = .returned (.agg #[.int .i64 num, .int .i64 t, .int .i64 C, .slice a1 n c1])) ∧ Below w.heap.size w w' := by
  have hB0 := ((Below.refl w.heap.size w).alloc (Nat.le_refl _) (.cells #[.int .i64 num, .int .i64 t, .int .i64 C, .slice (some ⟨b, o, none⟩) n cap] 38)).alloc (by simp) (.cells #[.int .i64 0, .int .i64 0, .int .i64 0, .slice none 0 0] 38)
  have hcl := Lib.hid (fun u (hu : Below w.heap.size w u) => clone_some b o n cap f u hn hn2 (by have := hu.size; omega) (fun i hi => ⟨(hu.cell (p := ⟨b, o + i, none⟩) hb).trans (h i hi).1, (h i hi).2⟩))
  replace h := Lib.hid h
  go_enter Try.func44, Try.ntmps44
  go_wp2_with fail
  refine (hcl.out _ hB0).mono ?_
  rintro e w2 ⟨g, c, rfl, _, hg1, hg2, hb2⟩
  have hB2 := bNext hB0 hb2 (Nat.le_refl _)
  have hs2 := hb2.size
  rw [World.size_alloc, World.size_alloc] at hs2
  have p0 : w2.cell? ⟨w.heap.size, 0, none⟩ = some (.int .i64 num) := (hb2.cell (p := ⟨w.heap.size, 0, none⟩) (by simp; omega)).trans (by go_simp)
  have p1 : w2.cell? ⟨w.heap.size, 1, none⟩ = some (.int .i64 t) := (hb2.cell (p := ⟨w.heap.size, 1, none⟩) (by simp; omega)).trans (by go_simp)
  have p2 : w2.cell? ⟨w.heap.size, 2, none⟩ = some (.int .i64 C) := (hb2.cell (p := ⟨w.heap.size, 2, none⟩) (by simp; omega)).trans (by go_simp)
  have p3 : w2.cell? ⟨w.heap.size, 3, none⟩ = some (.slice (some ⟨b, o, none⟩) n cap) := (hb2.cell (p := ⟨w.heap.size, 3, none⟩) (by simp; omega)).trans (by go_simp)
  have pf : ∀ x, w2.frozen? ⟨w.heap.size, x, none⟩ = false := fun x => (hb2.frozen (p := ⟨w.heap.size, x, none⟩) (by simp; omega)).trans (by go_simp)
  have q0 : w2.cell? ⟨w.heap.size + 1, 0, none⟩ = some (.int .i64 0) := (hb2.cell (p := ⟨w.heap.size + 1, 0, none⟩) (by simp)).trans (by go_simp)
  have q1 : w2.cell? ⟨w.heap.size + 1, 1, none⟩ = some (.int .i64 0) := (hb2.cell (p := ⟨w.heap.size + 1, 1, none⟩) (by simp)).trans (by go_simp)
  have q2 : w2.cell? ⟨w.heap.size + 1, 2, none⟩ = some (.int .i64 0) := (hb2.cell (p := ⟨w.heap.size + 1, 2, none⟩) (by simp)).trans (by go_simp)
  have q3 : w2.cell? ⟨w.heap.size + 1, 3, none⟩ = some (.slice none 0 0) := (hb2.cell (p := ⟨w.heap.size + 1, 3, none⟩) (by simp)).trans (by go_simp)
  have qf : ∀ x, w2.frozen? ⟨w.heap.size + 1, x, none⟩ = false := fun x => (hb2.frozen (p := ⟨w.heap.size + 1, x, none⟩) (by simp)).trans (by go_simp)
  clear hb2 hcl
  have o3 : ∀ x, (w2.setCell ⟨w.heap.size, 3, none⟩ (.slice (some ⟨g, 0, none⟩) n c)).cell? ⟨w.heap.size + 1, x, none⟩ = w2.cell? ⟨w.heap.size + 1, x, none⟩ := fun x => World.cell?_setCell_other _ _ _ _ (by simp)
  obtain ⟨s0, s1, s2, s3⟩ := set4 (.int .i64 num) (.int .i64 t) (.int .i64 C) (.slice (some ⟨g, 0, none⟩) n c) ((o3 0).trans q0) ((o3 1).trans q1) ((o3 2).trans q2) ((o3 3).trans q3)
  have hB4 := below4 (hB2.setCell (p := ⟨w.heap.size, 3, none⟩) (Nat.le_refl _) (.slice (some ⟨g, 0, none⟩) n c)) (show w.heap.size ≤ w.heap.size + 1 by omega) (.int .i64 num) (.int .i64 t) (.int .i64 C) (.slice (some ⟨g, 0, none⟩) n c)
  go_wp2_with fail
  exact bodyPost_ret (v := .agg #[.int .i64 num, .int .i64 t, .int .i64 C, .slice (some ⟨g, 0, none⟩) n c]) (by simp [results, Try.results44, go_sem, s0, s1, s2, s3]) rfl ⟨⟨_, _, rfl⟩, hB4⟩
end Go.Proofs.Ytkefkophlhcbiaa
namespace Go.Proofs.Ytkefkophlhcbiaa
open Go.ChangeShapes Go.WideShapes Go.ChangeAt Go.RowKit
set_option linter.unusedVariables false
set_option linter.unusedSimpArgs false
open Pk BigFrame Fq

set_option maxRecDepth 100000 in
set_option maxHeartbeats 4000000 in
theorem qhead_none (qb rb room pos by_ dr : Nat) (w : World) (h : QAt w qb rb room pos 0 by_ dr) :
    Calls Try.prog 32 #[.pointer (some ⟨qb, 0, none⟩)] w fun e w' => e = .returned (.tuple #[.agg #[.int .i64 0, .int .i64 0, .int .i64 0, .slice none 0 0], .bool false]) ∧ Below w.heap.size w w' := by
  have hB := (Below.refl w.heap.size w).alloc (Nat.le_refl _) (.cells #[.int .i64 0, .int .i64 0, .int .i64 0, .slice none 0 0] 38)
  have hQ := h.below hB
  go_enter Try.func32, Try.ntmps32
  go_wp2_with (go_at_call 36; refine (qlen_c qb rb room pos 0 by_ dr _ hQ).mono ?_; rintro e w1 ⟨rfl, rfl⟩)
  exact bodyPost_ret (v := .tuple #[.agg #[.int .i64 0, .int .i64 0, .int .i64 0, .slice none 0 0], .bool false]) (by simp [results, Try.results32, go_sem]) rfl ⟨rfl, hB⟩

set_option maxRecDepth 100000 in
set_option maxHeartbeats 4000000 in
theorem qhead_ok (qb rb room pos n by_ dr : Nat) (num t C : Int) (a : Option Addr) (m cm : Nat) (pk : Nat → Nat → Value) (w : World) (h : QAt w qb rb room pos n by_ dr) (hr : RingAt w rb room pk) (hn : 0 < n) (v0 : pk pos 0 = .int .i64 num) (v1 : pk pos 1 = .int .i64 t) (v2 : pk pos 2 = .int .i64 C) (v3 : pk pos 3 = .slice a m cm) (hcp : CopyP num t C a m cm w) :
    Calls Try.prog 32 #[.pointer (some ⟨qb, 0, none⟩)] w fun e w' => (∃ a1 c1, e = .returned (.tuple #[.agg #[.int .i64 num, .int .i64 t, .int .i64 C, .slice a1 m c1], .bool true]) ∧ (m = 0 → a1 = none ∧ c1 = 0)) ∧ Below w.heap.size w w' := by
  have hB := (Below.refl w.heap.size w).alloc (Nat.le_refl _) (.cells #[.int .i64 0, .int .i64 0, .int .i64 0, .slice none 0 0] 38)
  have hQ := h.below hB
  have hR := hr.below h.rl hB
  have hn' : ((n : Nat) : Int) ≠ 0 := by omega
  have hnb : (((n : Nat) : Int) == 0) = false := by simp; omega
  have hp : (pos + 0) % room = pos := by rw [Nat.add_zero]; exact Nat.mod_eq_of_lt h.pos1
  have hlk := Lib.hid (rlook_c qb rb room pos n by_ dr 0 num t C a m cm pk _ hQ hR (by omega) (by rw [hp]; exact v0) (by rw [hp]; exact v1) (by rw [hp]; exact v2) (by rw [hp]; exact v3))
  have hln := Lib.hid (qlen_c qb rb room pos n by_ dr _ hQ)
  have hcp1 := Lib.hid hcp
  have x0 : (w.alloc (.cells #[.int .i64 0, .int .i64 0, .int .i64 0, .slice none 0 0] 38)).cell? ⟨w.heap.size, 0, none⟩ = some (.int .i64 0) := by go_simp
  have x1 : (w.alloc (.cells #[.int .i64 0, .int .i64 0, .int .i64 0, .slice none 0 0] 38)).cell? ⟨w.heap.size, 1, none⟩ = some (.int .i64 0) := by go_simp
  have x2 : (w.alloc (.cells #[.int .i64 0, .int .i64 0, .int .i64 0, .slice none 0 0] 38)).cell? ⟨w.heap.size, 2, none⟩ = some (.int .i64 0) := by go_simp
  have x3 : (w.alloc (.cells #[.int .i64 0, .int .i64 0, .int .i64 0, .slice none 0 0] 38)).cell? ⟨w.heap.size, 3, none⟩ = some (.slice none 0 0) := by go_simp
  have xf : ∀ o, (w.alloc (.cells #[.int .i64 0, .int .i64 0, .int .i64 0, .slice none 0 0] 38)).frozen? ⟨w.heap.size, o, none⟩ = false := fun o => by go_simp
  clear v0 v1 v2 v3 hcp hp h hr hQ hR hn
  go_enter Try.func32, Try.ntmps32
  go_wp2_with (go_at_call 36; refine hln.out.mono ?_; rintro e w1 ⟨rfl, rfl⟩)
  refine hlk.out.mono ?_
  rintro e w2 ⟨rfl, hb2⟩
  have hB2 := bNext hB hb2 (Nat.le_refl _)
  go_wp2_with fail
  refine (hcp1.out _ hB2).mono ?_
  rintro e w3 ⟨a1, c1, rfl, hz, hb3⟩
  have hB3 := bNext hB2 hb3 (Nat.le_refl _)
  have hb23 := bNext hb2 hb3 (Nat.le_refl _)
  have y0 := (hb23.cell (p := ⟨w.heap.size, 0, none⟩) (by simp)).trans x0
  have y1 := (hb23.cell (p := ⟨w.heap.size, 1, none⟩) (by simp)).trans x1
  have y2 := (hb23.cell (p := ⟨w.heap.size, 2, none⟩) (by simp)).trans x2
  have y3 := (hb23.cell (p := ⟨w.heap.size, 3, none⟩) (by simp)).trans x3
  have yf := fun o => (hb23.frozen (p := ⟨w.heap.size, o, none⟩) (by simp)).trans (xf o)
  replace hz := Lib.hid hz
  clear x0 x1 x2 x3 xf hb2 hb3 hb23 hB2
  obtain ⟨s0, s1, s2, s3⟩ := set4 (.int .i64 num) (.int .i64 t) (.int .i64 C) (.slice a1 m c1) y0 y1 y2 y3
  have hB4 := below4 hB3 (Nat.le_refl _) (.int .i64 num) (.int .i64 t) (.int .i64 C) (.slice a1 m c1)
  go_wp2_with fail
  exact bodyPost_ret (v := .tuple #[.agg #[.int .i64 num, .int .i64 t, .int .i64 C, .slice a1 m c1], .bool true]) (by simp [results, Try.results32, go_sem, s0, s1, s2, s3]) rfl ⟨⟨a1, c1, rfl, hz.out⟩, hB4⟩
end Go.Proofs.Ytkefkophlhcbiaa
namespace Go.Proofs.Ytkefkophlhcbiaa
open Go.ChangeShapes Go.WideShapes Go.ChangeAt Go.RowKit
set_option linter.unusedVariables false
set_option linter.unusedSimpArgs false
open Pk BigFrame Fq

namespace Fq
theorem Kept.setNew {w X : World} {qb rb : Nat} (h : Kept w X qb rb) (hq : qb < w.heap.size) (b o : Nat) (v : Value) (hb : w.heap.size ≤ b) : Kept w (X.setCell ⟨b, o, none⟩ v) qb rb :=
  ⟨by simpa using h.size, fun x hx h1 h2 => (heap_setCell_other X ⟨b, o, none⟩ x v (by simp; omega)).trans (h.block x hx h1 h2), fun B A hB h1 h2 => (h.bel B A hB h1 h2).setCell (p := ⟨b, o, none⟩) (by simp only; omega) v⟩
theorem QAt.set_far {W : World} {qb rb room pos n by_ dr : Nat} (h : QAt W qb rb room pos n by_ dr) (b o : Nat) (v : Value) (h1 : b ≠ qb) (h2 : b ≠ rb) : QAt (W.setCell ⟨b, o, none⟩ v) qb rb room pos n by_ dr :=
  have e : ∀ k, (W.setCell ⟨b, o, none⟩ v).cell? ⟨qb, k, none⟩ = W.cell? ⟨qb, k, none⟩ := fun k => World.cell?_setCell_other _ _ _ _ (by simp <;> omega)
  ⟨(e 0).trans h.c0, (e 1).trans h.c1, (e 2).trans h.c2, (e 3).trans h.c3, (e 4).trans h.c4, fun o => (World.frozen?_setCell _ _ _ _).trans (h.f o), fun o => (World.frozen?_setCell _ _ _ _).trans (h.rf o), h.ne, by simpa using h.rl, h.room1, h.room2, h.pos1, h.n1, h.by1, h.dr1⟩
theorem RingAt.set_far {W : World} {rb room : Nat} {pk : Nat → Nat → Value} (h : RingAt W rb room pk) (b o : Nat) (v : Value) (h2 : b ≠ rb) : RingAt (W.setCell ⟨b, o, none⟩ v) rb room pk := fun j i hj hi => (World.cell?_setCell_other _ _ _ _ (by simp <;> omega)).trans (h j i hj hi)
def PopP (qb rb room pos n by_ dr : Nat) (num t C : Int) (m : Nat) (pk : Nat → Nat → Value) (w : World) (e : Ending) (w' : World) : Prop :=
  ∃ a1 c1, e = .returned (.tuple #[.agg #[.int .i64 num, .int .i64 t, .int .i64 C, .slice a1 m c1], .int .i64 0]) ∧ (m = 0 → a1 = none ∧ c1 = 0) ∧ QAt w' qb rb room ((pos + 1) % room) (n - 1) (by_ - (8 + m)) dr ∧ RingAt w' rb room pk ∧ Kept w w' qb rb
end Fq

set_option maxRecDepth 100000 in
set_option maxHeartbeats 4000000 in
theorem qpop_none (qb rb room pos by_ dr : Nat) (w : World) (h : QAt w qb rb room pos 0 by_ dr) :
    Calls Try.prog 35 #[.pointer (some ⟨qb, 0, none⟩)] w fun e w' => e = .returned (.tuple #[.agg #[.int .i64 0, .int .i64 0, .int .i64 0, .slice none 0 0], .int .i64 4]) ∧ Below w.heap.size w w' := by
  have hB := (Below.refl w.heap.size w).alloc (Nat.le_refl _) (.cells #[.int .i64 0, .int .i64 0, .int .i64 0, .slice none 0 0] 38)
  have hh := Lib.hid (qhead_none qb rb room pos by_ dr _ (h.below hB))
  have x0 : (w.alloc (.cells #[.int .i64 0, .int .i64 0, .int .i64 0, .slice none 0 0] 38)).cell? ⟨w.heap.size, 0, none⟩ = some (.int .i64 0) := by go_simp
  have x1 : (w.alloc (.cells #[.int .i64 0, .int .i64 0, .int .i64 0, .slice none 0 0] 38)).cell? ⟨w.heap.size, 1, none⟩ = some (.int .i64 0) := by go_simp
  have x2 : (w.alloc (.cells #[.int .i64 0, .int .i64 0, .int .i64 0, .slice none 0 0] 38)).cell? ⟨w.heap.size, 2, none⟩ = some (.int .i64 0) := by go_simp
  have x3 : (w.alloc (.cells #[.int .i64 0, .int .i64 0, .int .i64 0, .slice none 0 0] 38)).cell? ⟨w.heap.size, 3, none⟩ = some (.slice none 0 0) := by go_simp
  have xf : ∀ o, (w.alloc (.cells #[.int .i64 0, .int .i64 0, .int .i64 0, .slice none 0 0] 38)).frozen? ⟨w.heap.size, o, none⟩ = false := fun o => by go_simp
  go_enter Try.func35, Try.ntmps35
  go_wp2_with fail
  refine hh.out.mono ?_
  rintro e w2 ⟨rfl, hb2⟩
  have hB2 := bNext hB hb2 (Nat.le_refl _)
  have hs2 := hb2.size
  rw [World.size_alloc] at hs2
  have hb3 := (Below.refl w2.heap.size w2).alloc (Nat.le_refl _) (.cells #[.int .i64 0, .int .i64 0, .int .i64 0, .slice none 0 0] 38)
  have K : ∀ o, (w2.alloc (.cells #[.int .i64 0, .int .i64 0, .int .i64 0, .slice none 0 0] 38)).cell? ⟨w.heap.size, o, none⟩ = (w.alloc (.cells #[.int .i64 0, .int .i64 0, .int .i64 0, .slice none 0 0] 38)).cell? ⟨w.heap.size, o, none⟩ := fun o => (hb3.cell (p := ⟨w.heap.size, o, none⟩) (by simp only; omega)).trans (hb2.cell (p := ⟨w.heap.size, o, none⟩) (by simp))
  have F : ∀ o, (w2.alloc (.cells #[.int .i64 0, .int .i64 0, .int .i64 0, .slice none 0 0] 38)).frozen? ⟨w.heap.size, o, none⟩ = false := fun o => (hb3.frozen (p := ⟨w.heap.size, o, none⟩) (by simp only; omega)).trans ((hb2.frozen (p := ⟨w.heap.size, o, none⟩) (by simp)).trans (xf o))
  have y0 := (K 0).trans x0
  have y1 := (K 1).trans x1
  have y2 := (K 2).trans x2
  have y3 := (K 3).trans x3
  have z0 : (w2.alloc (.cells #[.int .i64 0, .int .i64 0, .int .i64 0, .slice none 0 0] 38)).cell? ⟨w2.heap.size, 0, none⟩ = some (.int .i64 0) := by go_simp
  have z1 : (w2.alloc (.cells #[.int .i64 0, .int .i64 0, .int .i64 0, .slice none 0 0] 38)).cell? ⟨w2.heap.size, 1, none⟩ = some (.int .i64 0) := by go_simp
  have z2 : (w2.alloc (.cells #[.int .i64 0, .int .i64 0, .int .i64 0, .slice none 0 0] 38)).cell? ⟨w2.heap.size, 2, none⟩ = some (.int .i64 0) := by go_simp
  have z3 : (w2.alloc (.cells #[.int .i64 0, .int .i64 0, .int .i64 0, .slice none 0 0] 38)).cell? ⟨w2.heap.size, 3, none⟩ = some (.slice none 0 0) := by go_simp
  have hB3 := bNext hB2 hb3 (Nat.le_refl _)
  clear K x0 x1 x2 x3 xf hb2 hb3 hh hB
  go_upto_region 2 with fail
  generalize (w2.alloc (.cells #[.int .i64 0, .int .i64 0, .int .i64 0, .slice none 0 0] 38)) = W at y0 y1 y2 y3 z0 z1 z2 z3 F hB3 ⊢
  go_wp2_with fail
  obtain ⟨s0, s1, s2, s3⟩ := set4 (.int .i64 0) (.int .i64 0) (.int .i64 0) (.slice none 0 0) y0 y1 y2 y3
  have hB4 := below4 hB3 (Nat.le_refl _) (.int .i64 0) (.int .i64 0) (.int .i64 0) (.slice none 0 0)
  exact bodyPost_ret (v := .tuple #[.agg #[.int .i64 0, .int .i64 0, .int .i64 0, .slice none 0 0], .int .i64 4]) (by simp [results, Try.results35, go_sem, s0, s1, s2, s3]) rfl ⟨rfl, hB4⟩

set_option maxRecDepth 100000 in
set_option maxHeartbeats 4000000 in
theorem qpop_ok (qb rb room pos n by_ dr : Nat) (num t C : Int) (a : Option Addr) (m cm : Nat) (pk : Nat → Nat → Value) (w : World) (h : QAt w qb rb room pos n by_ dr) (hr : RingAt w rb room pk) (hn : 0 < n) (hm : m ≤ 1492) (hby : 8 + m ≤ by_) (v0 : pk pos 0 = .int .i64 num) (v1 : pk pos 1 = .int .i64 t) (v2 : pk pos 2 = .int .i64 C) (v3 : pk pos 3 = .slice a m cm) (hcp : CopyP num t C a m cm w) :
    Calls Try.prog 35 #[.pointer (some ⟨qb, 0, none⟩)] w (PopP qb rb room pos n by_ dr num t C m pk w) := by
  have hq : qb < w.heap.size := World.block_lt_of_cell? _ _ h.c0
  have hrl := h.rl
  have hB := (Below.refl w.heap.size w).alloc (Nat.le_refl _) (.cells #[.int .i64 0, .int .i64 0, .int .i64 0, .slice none 0 0] 38)
  have hh := Lib.hid (qhead_ok qb rb room pos n by_ dr num t C a m cm pk _ (h.below hB) (hr.below h.rl hB) hn v0 v1 v2 v3 (fun u hu => hcp u (bNext hB hu (Nat.le_refl _))))
  have x0 : (w.alloc (.cells #[.int .i64 0, .int .i64 0, .int .i64 0, .slice none 0 0] 38)).cell? ⟨w.heap.size, 0, none⟩ = some (.int .i64 0) := by go_simp
  have x1 : (w.alloc (.cells #[.int .i64 0, .int .i64 0, .int .i64 0, .slice none 0 0] 38)).cell? ⟨w.heap.size, 1, none⟩ = some (.int .i64 0) := by go_simp
  have x2 : (w.alloc (.cells #[.int .i64 0, .int .i64 0, .int .i64 0, .slice none 0 0] 38)).cell? ⟨w.heap.size, 2, none⟩ = some (.int .i64 0) := by go_simp
  have x3 : (w.alloc (.cells #[.int .i64 0, .int .i64 0, .int .i64 0, .slice none 0 0] 38)).cell? ⟨w.heap.size, 3, none⟩ = some (.slice none 0 0) := by go_simp
  have xf : ∀ o, (w.alloc (.cells #[.int .i64 0, .int .i64 0, .int .i64 0, .slice none 0 0] 38)).frozen? ⟨w.heap.size, o, none⟩ = false := fun o => by go_simp
  clear v0 v1 v2 v3 hcp
  replace h := Lib.hid h
  replace hr := Lib.hid hr
  replace hby := Lib.hid hby
  go_enter Try.func35, Try.ntmps35
  go_wp2_with fail
  refine hh.out.mono ?_
  rintro e w2 ⟨⟨a1, c1, rfl, hz⟩, hb2⟩
  replace hz := Lib.hid hz
  have hB2 := bNext hB hb2 (Nat.le_refl _)
  have hs2 := hb2.size
  rw [World.size_alloc] at hs2
  have hb3 := (Below.refl w2.heap.size w2).alloc (Nat.le_refl _) (.cells #[.int .i64 num, .int .i64 t, .int .i64 C, .slice a1 m c1] 38)
  have K : ∀ o, (w2.alloc (.cells #[.int .i64 num, .int .i64 t, .int .i64 C, .slice a1 m c1] 38)).cell? ⟨w.heap.size, o, none⟩ = (w.alloc (.cells #[.int .i64 0, .int .i64 0, .int .i64 0, .slice none 0 0] 38)).cell? ⟨w.heap.size, o, none⟩ := fun o => (hb3.cell (p := ⟨w.heap.size, o, none⟩) (by simp only; omega)).trans (hb2.cell (p := ⟨w.heap.size, o, none⟩) (by simp))
  have F : ∀ o, (w2.alloc (.cells #[.int .i64 num, .int .i64 t, .int .i64 C, .slice a1 m c1] 38)).frozen? ⟨w.heap.size, o, none⟩ = false := fun o => (hb3.frozen (p := ⟨w.heap.size, o, none⟩) (by simp only; omega)).trans ((hb2.frozen (p := ⟨w.heap.size, o, none⟩) (by simp)).trans (xf o))
  have y0 := (K 0).trans x0
  have y1 := (K 1).trans x1
  have y2 := (K 2).trans x2
  have y3 := (K 3).trans x3
  have z0 : (w2.alloc (.cells #[.int .i64 num, .int .i64 t, .int .i64 C, .slice a1 m c1] 38)).cell? ⟨w2.heap.size, 0, none⟩ = some (.int .i64 num) := by go_simp
  have z1 : (w2.alloc (.cells #[.int .i64 num, .int .i64 t, .int .i64 C, .slice a1 m c1] 38)).cell? ⟨w2.heap.size, 1, none⟩ = some (.int .i64 t) := by go_simp
  have z2 : (w2.alloc (.cells #[.int .i64 num, .int .i64 t, .int .i64 C, .slice a1 m c1] 38)).cell? ⟨w2.heap.size, 2, none⟩ = some (.int .i64 C) := by go_simp
  have z3 : (w2.alloc (.cells #[.int .i64 num, .int .i64 t, .int .i64 C, .slice a1 m c1] 38)).cell? ⟨w2.heap.size, 3, none⟩ = some (.slice a1 m c1) := by go_simp
  have hB3 := bNext hB2 hb3 (Nat.le_refl _)
  have hWs : w2.heap.size < (w2.alloc (.cells #[.int .i64 num, .int .i64 t, .int .i64 C, .slice a1 m c1] 38)).heap.size := by simp
  clear K x0 x1 x2 x3 xf hb2 hb3 hh hB hB2
  go_upto_region 2 with fail
  generalize (w2.alloc (.cells #[.int .i64 num, .int .i64 t, .int .i64 C, .slice a1 m c1] 38)) = W at y0 y1 y2 y3 z0 z1 z2 z3 F hB3 hWs ⊢
  have hQW := h.out.below hB3
  have hRW := hr.out.below hrl hB3
  have hpp := Lib.hid (rpop_c qb rb room pos n by_ dr pk W hQW hRW hn)
  have hKW := Kept.of_below (rb := rb) hB3 hq
  clear hQW hRW
  go_wp2_with fail
  refine hpp.out.mono ?_
  rintro e w4 ⟨⟨vv, rfl⟩, hQ4, hR4, hK4⟩
  have e1 : ∀ o, w4.cell? ⟨w.heap.size, o, none⟩ = W.cell? ⟨w.heap.size, o, none⟩ := fun o => World.cell?_of_block (hK4.block w.heap.size (by omega) (by omega) (by omega))
  have e2 : ∀ o, w4.cell? ⟨w2.heap.size, o, none⟩ = W.cell? ⟨w2.heap.size, o, none⟩ := fun o => World.cell?_of_block (hK4.block w2.heap.size hWs (by omega) (by omega))
  have e3 : ∀ o, w4.frozen? ⟨w.heap.size, o, none⟩ = false := fun o => (World.frozen?_of_block (hK4.block w.heap.size (by omega) (by omega) (by omega))).trans (F o)
  replace y0 := (e1 0).trans y0
  replace y1 := (e1 1).trans y1
  replace y2 := (e1 2).trans y2
  replace y3 := (e1 3).trans y3
  replace z0 := (e2 0).trans z0
  replace z1 := (e2 1).trans z1
  replace z2 := (e2 2).trans z2
  replace z3 := (e2 3).trans z3
  have hK5 := Lib.hid (hKW.trans hK4)
  have hs4 := hK4.size
  have c3 := hQ4.c3
  have qf := hQ4.f
  have hq4 : qb < w4.heap.size := World.block_lt_of_cell? _ _ c3
  replace hQ4 := Lib.hid hQ4
  replace hR4 := Lib.hid hR4
  have hm4 : w.heap.size < w4.heap.size := by omega
  have hm5 : w2.heap.size < w4.heap.size := by omega
  clear e1 e2 F hKW hK4 hpp
  go_wp2_with fail
  go_region_with (go_at_call 42; refine (qsize_c num t C a1 m c1 _ (by omega)).mono ?_; rintro e w5 ⟨rfl, hb5⟩; have d3 := (hb5.cell (p := ⟨qb, 3, none⟩) (by simpa using hq4)).trans (show w4.drew.cell? _ = _ by simpa using c3); have df := fun o => (hb5.frozen (p := ⟨qb, o, none⟩) (by simpa using hq4)).trans (show w4.drew.frozen? _ = _ by simpa using qf o))
  all_goals
    have hby1 := hby.out
    have hbyU := (h.out).by1
    have wr : IntKind.i64.wrap ((by_ : Int) - (8 + (m : Int))) = ((by_ - (8 + m) : Nat) : Int) := by rw [IntWalk.i64_in _ ⟨by omega, by omega⟩]; omega
    have hQ6 := ((hQ4.out.drew).below hb5).set_by (by_ - (8 + m)) (by omega)
    have hR6 := ((hR4.out.drew hQ4.out.rl).below hQ4.out.drew.rl hb5).set_q hQ4.out.ne 3 (.int .i64 ((by_ - (8 + m) : Nat) : Int))
    have hK6 := ((hK5.out.trans (Kept.drew 1)).trans (Kept.of_below hb5 (by simpa using hq4))).trans (Kept.set (rb := rb) qb 3 (.int .i64 ((by_ - (8 + m) : Nat) : Int)) (.inl rfl))
    have G : ∀ b o, b < w4.heap.size → b ≠ qb → (w5.setCell ⟨qb, 3, none⟩ (.int .i64 ((by_ - (8 + m) : Nat) : Int))).cell? ⟨b, o, none⟩ = w4.cell? ⟨b, o, none⟩ := fun b o hb hne => (World.cell?_setCell_other _ _ _ _ (by simp <;> omega)).trans ((hb5.cell (p := ⟨b, o, none⟩) (by simpa using hb)).trans (by simp))
    have Gf : ∀ o, (w5.setCell ⟨qb, 3, none⟩ (.int .i64 ((by_ - (8 + m) : Nat) : Int))).frozen? ⟨w.heap.size, o, none⟩ = false := fun o => (World.frozen?_setCell _ _ _ _).trans ((hb5.frozen (p := ⟨w.heap.size, o, none⟩) (by simpa using hm4)).trans (by simpa using e3 o))
    have r0 := (G w.heap.size 0 hm4 (by omega)).trans y0
    have r1 := (G w.heap.size 1 hm4 (by omega)).trans y1
    have r2 := (G w.heap.size 2 hm4 (by omega)).trans y2
    have r3 := (G w.heap.size 3 hm4 (by omega)).trans y3
    have t0 := (G w2.heap.size 0 hm5 (by omega)).trans z0
    have t1 := (G w2.heap.size 1 hm5 (by omega)).trans z1
    have t2 := (G w2.heap.size 2 hm5 (by omega)).trans z2
    have t3 := (G w2.heap.size 3 hm5 (by omega)).trans z3
    simp only [wr]
    clear G d3 df wr hb5 hbyU hby1 y0 y1 y2 y3 z0 z1 z2 z3 e3 c3 qf
    generalize w5.setCell ⟨qb, 3, none⟩ (.int .i64 ((by_ - (8 + m) : Nat) : Int)) = Z at hQ6 hR6 hK6 Gf r0 r1 r2 r3 t0 t1 t2 t3 ⊢
    have n1 : w.heap.size ≠ qb := by omega
    have n2 : w.heap.size ≠ rb := by omega
    have hQ7 := Lib.hid ((((hQ6.set_far w.heap.size 0 (.int .i64 num) n1 n2).set_far w.heap.size 1 (.int .i64 t) n1 n2).set_far w.heap.size 2 (.int .i64 C) n1 n2).set_far w.heap.size 3 (.slice a1 m c1) n1 n2)
    have hR7 := Lib.hid ((((hR6.set_far w.heap.size 0 (.int .i64 num) n2).set_far w.heap.size 1 (.int .i64 t) n2).set_far w.heap.size 2 (.int .i64 C) n2).set_far w.heap.size 3 (.slice a1 m c1) n2)
    have hK7 := Lib.hid ((((hK6.setNew hq w.heap.size 0 (.int .i64 num) (Nat.le_refl _)).setNew hq w.heap.size 1 (.int .i64 t) (Nat.le_refl _)).setNew hq w.heap.size 2 (.int .i64 C) (Nat.le_refl _)).setNew hq w.heap.size 3 (.slice a1 m c1) (Nat.le_refl _))
    clear hQ6 hR6 hK6
    obtain ⟨s0, s1, s2, s3⟩ := set4 (.int .i64 num) (.int .i64 t) (.int .i64 C) (.slice a1 m c1) r0 r1 r2 r3
    go_wp2_with fail
    exact bodyPost_ret (v := .tuple #[.agg #[.int .i64 num, .int .i64 t, .int .i64 C, .slice a1 m c1], .int .i64 0]) (by simp [results, Try.results35, go_sem, s0, s1, s2, s3]) rfl ⟨a1, c1, rfl, hz.out, hQ7.out, hR7.out, hK7.out⟩
end Go.Proofs.Ytkefkophlhcbiaa
namespace Go.Proofs.Ytkefkophlhcbiaa
open Go.ChangeShapes Go.WideShapes Go.ChangeAt Go.RowKit
set_option linter.unusedVariables false
set_option linter.unusedSimpArgs false
open BigFrame By Fq Bs

namespace Fp
/-- What a copy of a packet is. -/
def CopR (num t C : Int) (m : Nat) (d : List Nat) (u : World) (e : Ending) (u' : World) : Prop := ∃ a1 c1, e = .returned (.agg #[.int .i64 num, .int .i64 t, .int .i64 C, .slice a1 m c1]) ∧ (Byt u' a1 m c1 d ∧ Far u.heap.size a1 m) ∧ Below u.heap.size u u'
theorem kept_kf {w w' : World} {qb rb : Nat} (k : Kept w w' qb rb) : KF [qb, rb] w w' := ⟨k.bel 0 w (Below.refl 0 w) (Nat.zero_le _) (Nat.zero_le _), fun i h1 h2 => k.block i h1 (fun e => h2 (by simp [e])) (fun e => h2 (by simp [e]))⟩
theorem _root_.Go.Proofs.Ytkefkophlhcbiaa.By.Byt.kept {w w' : World} {qb rb m n c : Nat} {a : Option Addr} {d : List Nat} (h : Byt w a n c d) (f : Far m a n) (h1 : qb < m) (h2 : rb < m) (k : Kept w w' qb rb) : Byt w' a n c d :=
  (kept_kf k).byt h (f.notin (fun q hq => by simp at hq; omega))
/-- Bytes as a string. -/
def bstrL (d : List Nat) : ByteArray := strOfNums (d.map fun x : Nat => (x : Int))
theorem conv_byt {w : World} {a : Option Addr} {n cap : Nat} {d : List Nat} (h : Byt w a n cap d) : (convert 34 9 (.slice a n cap)).run Try.prog w = .ok (.string (bstrL d)) w := by
  have hl := h.len
  by_cases hn : n = 0
  · subst hn
    obtain rfl : d = [] := List.eq_nil_of_length_eq_zero hl.symm
    cases a with
    | none => exact run_convert_bytes_nil w 34 5 Try.underlying34 Try.underlying5 _ _ _ Try.underlying9
    | some ad => exact run_convert_bytes_back w 34 9 5 ad cap [] Try.underlying34 Try.underlying5 Try.underlying9 (fun j hj => absurd hj (by simp))
  · obtain ⟨b, off, rfl, _, hb⟩ := h.row (by omega)
    refine run_convert_bytes_arg w 34 5 Try.underlying34 Try.underlying5 b off n cap _ (by simp [hl]) (fun i hi => ?_) _ Try.underlying9
    have hi2 : i < d.length := by omega
    rw [(hb i _ (List.getElem?_eq_getElem hi2)).1]
    simp [List.getD, hi2]
end Fp
open Fp

set_option maxRecDepth 100000 in
set_option maxHeartbeats 2000000 in
theorem copiedF_c (num t C : Int) (a : Option Addr) (n cap : Nat) (d : List Nat) (w : World) (h : Byt w a n cap d) (hn2 : n ≤ 1000000) :
    Calls Try.prog 44 #[.agg #[.int .i64 num, .int .i64 t, .int .i64 C, .slice a n cap]] w (CopR num t C n d w) := by
  have hB0 := ((Below.refl w.heap.size w).alloc (Nat.le_refl _) (.cells #[.int .i64 num, .int .i64 t, .int .i64 C, .slice a n cap] 38)).alloc (by simp) (.cells #[.int .i64 0, .int .i64 0, .int .i64 0, .slice none 0 0] 38)
  have hcl := Lib.hid (cloneB_c a n cap d _ (h.bel hB0) hn2)
  replace h := Lib.hid h
  go_enter Try.func44, Try.ntmps44
  go_wp2_with fail
  refine hcl.out.mono ?_
  rintro e w2 ⟨g, c, rfl, hy, hf, hb2⟩
  replace hy := Lib.hid hy
  replace hf := Lib.hid hf
  have hB2 := bNext hB0 hb2 (Nat.le_refl _)
  have hs2 := hb2.size
  rw [World.size_alloc, World.size_alloc] at hs2
  have p0 : w2.cell? ⟨w.heap.size, 0, none⟩ = some (.int .i64 num) := (hb2.cell (p := ⟨w.heap.size, 0, none⟩) (by simp; omega)).trans (by go_simp)
  have p1 : w2.cell? ⟨w.heap.size, 1, none⟩ = some (.int .i64 t) := (hb2.cell (p := ⟨w.heap.size, 1, none⟩) (by simp; omega)).trans (by go_simp)
  have p2 : w2.cell? ⟨w.heap.size, 2, none⟩ = some (.int .i64 C) := (hb2.cell (p := ⟨w.heap.size, 2, none⟩) (by simp; omega)).trans (by go_simp)
  have p3 : w2.cell? ⟨w.heap.size, 3, none⟩ = some (.slice a n cap) := (hb2.cell (p := ⟨w.heap.size, 3, none⟩) (by simp; omega)).trans (by go_simp)
  have pf : ∀ x, w2.frozen? ⟨w.heap.size, x, none⟩ = false := fun x => (hb2.frozen (p := ⟨w.heap.size, x, none⟩) (by simp; omega)).trans (by go_simp)
  have q0 : w2.cell? ⟨w.heap.size + 1, 0, none⟩ = some (.int .i64 0) := (hb2.cell (p := ⟨w.heap.size + 1, 0, none⟩) (by simp)).trans (by go_simp)
  have q1 : w2.cell? ⟨w.heap.size + 1, 1, none⟩ = some (.int .i64 0) := (hb2.cell (p := ⟨w.heap.size + 1, 1, none⟩) (by simp)).trans (by go_simp)
  have q2 : w2.cell? ⟨w.heap.size + 1, 2, none⟩ = some (.int .i64 0) := (hb2.cell (p := ⟨w.heap.size + 1, 2, none⟩) (by simp)).trans (by go_simp)
  have q3 : w2.cell? ⟨w.heap.size + 1, 3, none⟩ = some (.slice none 0 0) := (hb2.cell (p := ⟨w.heap.size + 1, 3, none⟩) (by simp)).trans (by go_simp)
  have qf : ∀ x, w2.frozen? ⟨w.heap.size + 1, x, none⟩ = false := fun x => (hb2.frozen (p := ⟨w.heap.size + 1, x, none⟩) (by simp)).trans (by go_simp)
  clear hb2 hcl
  have o3 : ∀ x, (w2.setCell ⟨w.heap.size, 3, none⟩ (.slice g n c)).cell? ⟨w.heap.size + 1, x, none⟩ = w2.cell? ⟨w.heap.size + 1, x, none⟩ := fun x => World.cell?_setCell_other _ _ _ _ (by simp)
  obtain ⟨s0, s1, s2, s3⟩ := Pk.set4 (.int .i64 num) (.int .i64 t) (.int .i64 C) (.slice g n c) ((o3 0).trans q0) ((o3 1).trans q1) ((o3 2).trans q2) ((o3 3).trans q3)
  have hB4 := Pk.below4 (hB2.setCell (p := ⟨w.heap.size, 3, none⟩) (Nat.le_refl _) (.slice g n c)) (show w.heap.size ≤ w.heap.size + 1 by omega) (.int .i64 num) (.int .i64 t) (.int .i64 C) (.slice g n c)
  have hF : Far (w.heap.size + 1 + 1) g n := by have := hf.out; simpa using this
  replace hF := Lib.hid hF
  go_wp2_with fail
  exact bodyPost_ret (v := .agg #[.int .i64 num, .int .i64 t, .int .i64 C, .slice g n c]) (by simp [results, Try.results44, go_sem, s0, s1, s2, s3]) rfl ⟨_, _, rfl, ⟨((((hy.out.setFar hF.out (by omega)).setFar hF.out (by omega)).setFar hF.out (by omega)).setFar hF.out (by omega)).setFar hF.out (by omega), hF.out.mono (by omega)⟩, hB4⟩

end Go.Proofs.Ytkefkophlhcbiaa
namespace Go.Proofs.Ytkefkophlhcbiaa
open Go.ChangeShapes Go.WideShapes Go.ChangeAt Go.RowKit
set_option linter.unusedVariables false
set_option linter.unusedSimpArgs false
open BigFrame By Fq Bs Fp

namespace Fp
/-- A packet's copy may be made in whatever world lies behind w. -/
def CopyF (num t C : Int) (a : Option Addr) (m cm : Nat) (d : List Nat) (w : World) : Prop := ∀ u, Below w.heap.size w u → Calls Try.prog 44 #[.agg #[.int .i64 num, .int .i64 t, .int .i64 C, .slice a m cm]] u (CopR num t C m d u)
theorem copyF_of {num t C : Int} {a : Option Addr} {m cm : Nat} {d : List Nat} {w : World} (h : Byt w a m cm d) (hm : m ≤ 1000000) : CopyF num t C a m cm d w := fun u hu => copiedF_c num t C a m cm d u (h.bel hu) hm
def PushF (qb rb room pos n by_ dr : Nat) (num t C : Int) (m : Nat) (d : List Nat) (pk : Nat → Nat → Value) (w : World) (e : Ending) (w' : World) : Prop :=
  e = .returned (.int .i64 0) ∧ ∃ a1 c1, (Byt w' a1 m c1 d ∧ Far w.heap.size a1 m) ∧ QAt w' qb rb room pos (n + 1) (by_ + 8 + m) dr ∧ RingAt w' rb room (fun j i => if j = (pos + n) % room then (#[.int .i64 num, .int .i64 t, .int .i64 C, .slice a1 m c1] : Array Value).getD i undef else pk j i) ∧ Kept w w' qb rb
def HeadF (num t C : Int) (m : Nat) (d : List Nat) (w : World) (e : Ending) (w' : World) : Prop := (∃ a1 c1, e = .returned (.tuple #[.agg #[.int .i64 num, .int .i64 t, .int .i64 C, .slice a1 m c1], .bool true]) ∧ (Byt w' a1 m c1 d ∧ Far w.heap.size a1 m)) ∧ Below w.heap.size w w'
def PopF (qb rb room pos n by_ dr : Nat) (num t C : Int) (m : Nat) (d : List Nat) (pk : Nat → Nat → Value) (w : World) (e : Ending) (w' : World) : Prop :=
  ∃ a1 c1, e = .returned (.tuple #[.agg #[.int .i64 num, .int .i64 t, .int .i64 C, .slice a1 m c1], .int .i64 0]) ∧ (Byt w' a1 m c1 d ∧ Far w.heap.size a1 m) ∧ QAt w' qb rb room ((pos + 1) % room) (n - 1) (by_ - (8 + m)) dr ∧ RingAt w' rb room pk ∧ Kept w w' qb rb
end Fp

set_option maxRecDepth 100000 in
set_option maxHeartbeats 4000000 in
theorem qpushF_ok (qb rb room pos n by_ dr : Nat) (num t C : Int) (a : Option Addr) (m cm : Nat) (pk : Nat → Nat → Value) (w : World) (h : QAt w qb rb room pos n by_ dr) (hr : RingAt w rb room pk) (hn : n < room) (hm : m ≤ 1492) (hby0 : by_ + 8 + m ≤ 1000000) (d : List Nat) (hcp : CopyF num t C a m cm d w) :
    Calls Try.prog 28 #[.pointer (some ⟨qb, 0, none⟩), .agg #[.int .i64 num, .int .i64 t, .int .i64 C, .slice a m cm]] w (PushF qb rb room pos n by_ dr num t C m d pk w) := by
  have hq : qb < w.heap.size := World.block_lt_of_cell? _ _ h.c0
  have k1 : ¬ (1500 : Int) < 8 + (m : Int) := by omega
  have hB0 := (Below.refl w.heap.size w).alloc (Nat.le_refl _) (.cells #[.int .i64 num, .int .i64 t, .int .i64 C, .slice a m cm] 38)
  have hrl0 := Lib.hid h.rl
  go_enter Try.func28, Try.ntmps28
  go_wp2_with fail
  refine (qsize_c num t C a m cm _ (by omega)).mono ?_
  rintro e w1 ⟨rfl, hb1⟩
  have hB1 := bNext hB0 hb1 (Nat.le_refl _)
  have p0 : w1.cell? ⟨w.heap.size, 0, none⟩ = some (.int .i64 num) := (hb1.cell (p := ⟨w.heap.size, 0, none⟩) (by simp)).trans (by go_simp)
  have p1 : w1.cell? ⟨w.heap.size, 1, none⟩ = some (.int .i64 t) := (hb1.cell (p := ⟨w.heap.size, 1, none⟩) (by simp)).trans (by go_simp)
  have p2 : w1.cell? ⟨w.heap.size, 2, none⟩ = some (.int .i64 C) := (hb1.cell (p := ⟨w.heap.size, 2, none⟩) (by simp)).trans (by go_simp)
  have p3 : w1.cell? ⟨w.heap.size, 3, none⟩ = some (.slice a m cm) := (hb1.cell (p := ⟨w.heap.size, 3, none⟩) (by simp)).trans (by go_simp)
  have hs1 : w.heap.size < w1.heap.size := World.block_lt_of_cell? _ _ p0
  have hQ1 := Lib.hid (h.below hB1)
  have hR1 := Lib.hid (hr.below h.rl hB1)
  have hcp1 := Lib.hid hcp
  have hne3 : w.heap.size ≠ qb := by omega
  have hne2 : w.heap.size ≠ rb := by have := h.rl; omega
  replace hby0 := Lib.hid hby0
  clear hcp hb1 h hr hB0
  go_wp2_with fail
  go_region_with (first
    | (go_at_call 44; refine (hcp1.out _ hB1.drew).mono ?_; rintro e u1 ⟨a1, k1', rfl, hz1, hb2⟩; replace hz1 := Lib.hid hz1; have hQ2 := Lib.hid (hQ1.out.drew.below hb2); have hR2 := Lib.hid ((hR1.out.drew hQ1.out.rl).below hQ1.out.drew.rl hb2))
    | (go_at_call 43; refine (rpush_ok qb rb room pos n by_ dr num t C a1 m k1' pk _ hQ2.out hR2.out hn).mono ?_; rintro e u2 ⟨rfl, hQ3, hR3, hK3⟩; replace hQ3 := Lib.hid hQ3; replace hR3 := Lib.hid hR3; replace hK3 := Lib.hid hK3))
  all_goals
    have hz2 := Lib.hid (hz1.out.1.kept hz1.out.2 (show qb < w1.drew.heap.size by have := hB1.size; simp; omega) (show rb < w1.drew.heap.size by have := hB1.size; have := hQ1.out.rl; simp; omega) hK3.out)
    have hz3 := Lib.hid (hz1.out.2.mono (show w.heap.size ≤ w1.drew.heap.size by have := hB1.size; simp; omega))
    have hrl3 : rb < w.heap.size := hrl0.out
    have pp : ∀ o, u2.cell? ⟨w.heap.size, o, none⟩ = w1.cell? ⟨w.heap.size, o, none⟩ := fun o => (World.cell?_of_block (hK3.out.block w.heap.size (by have := hb2.size; simp at this; omega) hne3 hne2)).trans ((hb2.cell (p := ⟨w.heap.size, o, none⟩) (by simpa using hs1)).trans (by simp))
    have hK4 : Kept w u2 qb rb := ((Kept.of_below hB1.drew hq).trans (Kept.of_below hb2 (by have := hB1.size; simp; omega))).trans hK3.out
    replace hK4 := Lib.hid hK4
    have r0 := (pp 0).trans p0
    have r1 := (pp 1).trans p1
    have r2 := (pp 2).trans p2
    have r3 := (pp 3).trans p3
    have c3 := hQ3.out.c3
    have qf := hQ3.out.f
    have hq3 : qb < u2.heap.size := World.block_lt_of_cell? _ _ c3
    have hs3 : w.heap.size < u2.heap.size := World.block_lt_of_cell? _ _ r0
    clear pp p0 p1 p2 p3 hb2 hQ2 hR2
    go_wp2_with fail
    go_region_with (go_at_call 42; refine (qsize_c num t C a m cm _ (by omega)).mono ?_; rintro e w4 ⟨rfl, hb4⟩; have z3 := (hb4.cell (p := ⟨qb, 3, none⟩) (by simpa using hq3)).trans (show u2.drew.cell? _ = _ by simpa using c3); have zf := fun o => (hb4.frozen (p := ⟨qb, o, none⟩) (by simpa using hq3)).trans (show u2.drew.frozen? _ = _ by simpa using qf o))
    all_goals
      have wr : IntKind.i64.wrap ((by_ : Int) + (8 + (m : Int))) = ((by_ + 8 + m : Nat) : Int) := by have hz := hby0.out; rw [IntWalk.i64_in _ ⟨by omega, by omega⟩]; omega
      have hQ4 := ((hQ3.out.drew).below hb4).set_by (by_ + 8 + m) hby0.out
      have hR4 := ((hR3.out.drew hQ3.out.rl).below hQ3.out.drew.rl hb4).set_q hQ3.out.ne 3 (.int .i64 ((by_ + 8 + m : Nat) : Int))
      have hz4 := Lib.hid (hz2.out.kept hz3.out hq hrl3 (((Kept.drew 1).trans (Kept.of_below hb4 (by simpa using hq3))).trans (Kept.set (rb := rb) qb 3 (.int .i64 ((by_ + 8 + m : Nat) : Int)) (.inl rfl))))
      have hK5 := ((hK4.out.trans (Kept.drew 1)).trans (Kept.of_below hb4 (by simpa using hq3))).trans (Kept.set (rb := rb) qb 3 (.int .i64 ((by_ + 8 + m : Nat) : Int)) (.inl rfl))
      replace hQ4 := Lib.hid hQ4
      replace hR4 := Lib.hid hR4
      replace hK5 := Lib.hid hK5
      simp only [wr]
      clear wr z3 zf hb4
      go_wp2_with fail
      exact bodyPost_ret (v := .int .i64 0) (by simp [results, Try.results28, go_sem]) rfl ⟨rfl, a1, k1', ⟨hz4.out, hz3.out⟩, hQ4.out, hR4.out, hK5.out⟩

set_option maxRecDepth 100000 in
set_option maxHeartbeats 4000000 in
theorem qpushF_full (qb rb room pos by_ dr : Nat) (num t C : Int) (a : Option Addr) (m cm : Nat) (pk : Nat → Nat → Value) (w : World) (h : QAt w qb rb room pos room by_ dr) (hr : RingAt w rb room pk) (hd : dr < 1000000) (hm : m ≤ 1492) (d : List Nat) (hcp : CopyF num t C a m cm d w) :
    Calls Try.prog 28 #[.pointer (some ⟨qb, 0, none⟩), .agg #[.int .i64 num, .int .i64 t, .int .i64 C, .slice a m cm]] w fun e w' => e = .returned (.int .i64 100) ∧ QAt w' qb rb room pos room by_ (dr + 1) ∧ RingAt w' rb room pk ∧ Kept w w' qb rb := by
  have hq : qb < w.heap.size := World.block_lt_of_cell? _ _ h.c0
  have k1 : ¬ (1500 : Int) < 8 + (m : Int) := by omega
  have hB0 := (Below.refl w.heap.size w).alloc (Nat.le_refl _) (.cells #[.int .i64 num, .int .i64 t, .int .i64 C, .slice a m cm] 38)
  go_enter Try.func28, Try.ntmps28
  go_wp2_with fail
  refine (qsize_c num t C a m cm _ (by omega)).mono ?_
  rintro e w1 ⟨rfl, hb1⟩
  have hB1 := bNext hB0 hb1 (Nat.le_refl _)
  have p0 : w1.cell? ⟨w.heap.size, 0, none⟩ = some (.int .i64 num) := (hb1.cell (p := ⟨w.heap.size, 0, none⟩) (by simp)).trans (by go_simp)
  have p1 : w1.cell? ⟨w.heap.size, 1, none⟩ = some (.int .i64 t) := (hb1.cell (p := ⟨w.heap.size, 1, none⟩) (by simp)).trans (by go_simp)
  have p2 : w1.cell? ⟨w.heap.size, 2, none⟩ = some (.int .i64 C) := (hb1.cell (p := ⟨w.heap.size, 2, none⟩) (by simp)).trans (by go_simp)
  have p3 : w1.cell? ⟨w.heap.size, 3, none⟩ = some (.slice a m cm) := (hb1.cell (p := ⟨w.heap.size, 3, none⟩) (by simp)).trans (by go_simp)
  have hQ1 := Lib.hid (h.below hB1)
  have hR1 := Lib.hid (hr.below h.rl hB1)
  have hcp1 := Lib.hid hcp
  have hwd : IntKind.i64.wrap ((dr : Int) + 1) = (dr : Int) + 1 := IntWalk.i64_in _ ⟨by omega, by omega⟩
  have hdd := Lib.hid hd
  clear hcp hb1 h hr hB0 hd
  go_wp2_with fail
  go_region_with (first
    | (go_at_call 44; refine (hcp1.out _ hB1.drew).mono ?_; rintro e u1 ⟨a1, k1', rfl, hz1, hb2⟩; have hQ2 := Lib.hid (hQ1.out.drew.below hb2); have hR2 := Lib.hid ((hR1.out.drew hQ1.out.rl).below hQ1.out.drew.rl hb2))
    | (go_at_call 43; refine (rpush_full qb rb room pos by_ dr num t C a1 m k1' _ hQ2.out).mono ?_; rintro e u2 ⟨rfl, hb3⟩))
  all_goals
    have hQ3 := hQ2.out.below hb3
    have hR3 := hR2.out.below hQ2.out.rl hb3
    have c4 := hQ3.c4
    have qf := hQ3.f
    have hK3 : Kept w u2 qb rb := ((Kept.of_below hB1.drew hq).trans (Kept.of_below hb2 (by have := hB1.size; simp; omega))).trans (Kept.of_below hb3 (World.block_lt_of_cell? _ _ hQ2.out.c0))
    have hQ4 := hQ3.set_dr (dr + 1) (by have := hdd.out; omega)
    have hR4 := hR3.set_q hQ3.ne 4 (.int .i64 ((dr + 1 : Nat) : Int))
    have hK4 := hK3.trans (Kept.set (rb := rb) qb 4 (.int .i64 ((dr + 1 : Nat) : Int)) (.inl rfl))
    rw [Int.natCast_add, Int.natCast_one] at hQ4 hR4 hK4
    replace hQ4 := Lib.hid hQ4
    replace hR4 := Lib.hid hR4
    replace hK4 := Lib.hid hK4
    clear hQ3 hR3 hK3 hb3 hb2
    go_wp2_with fail
    exact bodyPost_ret (v := .int .i64 100) (by simp [results, Try.results28, go_sem]) rfl ⟨rfl, hQ4.out, hR4.out, hK4.out⟩

set_option maxRecDepth 100000 in
set_option maxHeartbeats 4000000 in
theorem qheadF_ok (qb rb room pos n by_ dr : Nat) (num t C : Int) (a : Option Addr) (m cm : Nat) (pk : Nat → Nat → Value) (w : World) (h : QAt w qb rb room pos n by_ dr) (hr : RingAt w rb room pk) (hn : 0 < n) (v0 : pk pos 0 = .int .i64 num) (v1 : pk pos 1 = .int .i64 t) (v2 : pk pos 2 = .int .i64 C) (v3 : pk pos 3 = .slice a m cm) (d : List Nat) (hcp : CopyF num t C a m cm d w) :
    Calls Try.prog 32 #[.pointer (some ⟨qb, 0, none⟩)] w (HeadF num t C m d w) := by
  have hB := (Below.refl w.heap.size w).alloc (Nat.le_refl _) (.cells #[.int .i64 0, .int .i64 0, .int .i64 0, .slice none 0 0] 38)
  have hQ := h.below hB
  have hR := hr.below h.rl hB
  have hn' : ((n : Nat) : Int) ≠ 0 := by omega
  have hnb : (((n : Nat) : Int) == 0) = false := by simp; omega
  have hp : (pos + 0) % room = pos := by rw [Nat.add_zero]; exact Nat.mod_eq_of_lt h.pos1
  have hlk := Lib.hid (rlook_c qb rb room pos n by_ dr 0 num t C a m cm pk _ hQ hR (by omega) (by rw [hp]; exact v0) (by rw [hp]; exact v1) (by rw [hp]; exact v2) (by rw [hp]; exact v3))
  have hln := Lib.hid (qlen_c qb rb room pos n by_ dr _ hQ)
  have hcp1 := Lib.hid hcp
  have x0 : (w.alloc (.cells #[.int .i64 0, .int .i64 0, .int .i64 0, .slice none 0 0] 38)).cell? ⟨w.heap.size, 0, none⟩ = some (.int .i64 0) := by go_simp
  have x1 : (w.alloc (.cells #[.int .i64 0, .int .i64 0, .int .i64 0, .slice none 0 0] 38)).cell? ⟨w.heap.size, 1, none⟩ = some (.int .i64 0) := by go_simp
  have x2 : (w.alloc (.cells #[.int .i64 0, .int .i64 0, .int .i64 0, .slice none 0 0] 38)).cell? ⟨w.heap.size, 2, none⟩ = some (.int .i64 0) := by go_simp
  have x3 : (w.alloc (.cells #[.int .i64 0, .int .i64 0, .int .i64 0, .slice none 0 0] 38)).cell? ⟨w.heap.size, 3, none⟩ = some (.slice none 0 0) := by go_simp
  have xf : ∀ o, (w.alloc (.cells #[.int .i64 0, .int .i64 0, .int .i64 0, .slice none 0 0] 38)).frozen? ⟨w.heap.size, o, none⟩ = false := fun o => by go_simp
  clear v0 v1 v2 v3 hcp hp h hr hQ hR hn
  go_enter Try.func32, Try.ntmps32
  go_wp2_with (go_at_call 36; refine hln.out.mono ?_; rintro e w1 ⟨rfl, rfl⟩)
  refine hlk.out.mono ?_
  rintro e w2 ⟨rfl, hb2⟩
  have hB2 := bNext hB hb2 (Nat.le_refl _)
  go_wp2_with fail
  refine (hcp1.out _ hB2).mono ?_
  rintro e w3 ⟨a1, c1, rfl, hz, hb3⟩
  have hB3 := bNext hB2 hb3 (Nat.le_refl _)
  have hb23 := bNext hb2 hb3 (Nat.le_refl _)
  have y0 := (hb23.cell (p := ⟨w.heap.size, 0, none⟩) (by simp)).trans x0
  have y1 := (hb23.cell (p := ⟨w.heap.size, 1, none⟩) (by simp)).trans x1
  have y2 := (hb23.cell (p := ⟨w.heap.size, 2, none⟩) (by simp)).trans x2
  have y3 := (hb23.cell (p := ⟨w.heap.size, 3, none⟩) (by simp)).trans x3
  have yf := fun o => (hb23.frozen (p := ⟨w.heap.size, o, none⟩) (by simp)).trans (xf o)
  have hs2 := hb2.size
  rw [World.size_alloc] at hs2
  have hzf := Lib.hid hz.2
  replace hz := Lib.hid hz.1
  clear x0 x1 x2 x3 xf hb2 hb3 hb23 hB2
  obtain ⟨s0, s1, s2, s3⟩ := Pk.set4 (.int .i64 num) (.int .i64 t) (.int .i64 C) (.slice a1 m c1) y0 y1 y2 y3
  have hB4 := Pk.below4 hB3 (Nat.le_refl _) (.int .i64 num) (.int .i64 t) (.int .i64 C) (.slice a1 m c1)
  go_wp2_with fail
  exact bodyPost_ret (v := .tuple #[.agg #[.int .i64 num, .int .i64 t, .int .i64 C, .slice a1 m c1], .bool true]) (by simp [results, Try.results32, go_sem, s0, s1, s2, s3]) rfl ⟨⟨a1, c1, rfl, ((((hz.out.setFar hzf.out (by omega)).setFar hzf.out (by omega)).setFar hzf.out (by omega)).setFar hzf.out (by omega)), hzf.out.mono (by omega)⟩, hB4⟩

set_option maxRecDepth 100000 in
set_option maxHeartbeats 4000000 in
theorem qpopF_ok (qb rb room pos n by_ dr : Nat) (num t C : Int) (a : Option Addr) (m cm : Nat) (pk : Nat → Nat → Value) (w : World) (h : QAt w qb rb room pos n by_ dr) (hr : RingAt w rb room pk) (hn : 0 < n) (hm : m ≤ 1492) (hby : 8 + m ≤ by_) (v0 : pk pos 0 = .int .i64 num) (v1 : pk pos 1 = .int .i64 t) (v2 : pk pos 2 = .int .i64 C) (v3 : pk pos 3 = .slice a m cm) (d : List Nat) (hcp : CopyF num t C a m cm d w) :
    Calls Try.prog 35 #[.pointer (some ⟨qb, 0, none⟩)] w (PopF qb rb room pos n by_ dr num t C m d pk w) := by
  have hq : qb < w.heap.size := World.block_lt_of_cell? _ _ h.c0
  have hrl := h.rl
  have hB := (Below.refl w.heap.size w).alloc (Nat.le_refl _) (.cells #[.int .i64 0, .int .i64 0, .int .i64 0, .slice none 0 0] 38)
  have hh := Lib.hid (qheadF_ok qb rb room pos n by_ dr num t C a m cm pk _ (h.below hB) (hr.below h.rl hB) hn v0 v1 v2 v3 d (fun u hu => hcp u (bNext hB hu (Nat.le_refl _))))
  have x0 : (w.alloc (.cells #[.int .i64 0, .int .i64 0, .int .i64 0, .slice none 0 0] 38)).cell? ⟨w.heap.size, 0, none⟩ = some (.int .i64 0) := by go_simp
  have x1 : (w.alloc (.cells #[.int .i64 0, .int .i64 0, .int .i64 0, .slice none 0 0] 38)).cell? ⟨w.heap.size, 1, none⟩ = some (.int .i64 0) := by go_simp
  have x2 : (w.alloc (.cells #[.int .i64 0, .int .i64 0, .int .i64 0, .slice none 0 0] 38)).cell? ⟨w.heap.size, 2, none⟩ = some (.int .i64 0) := by go_simp
  have x3 : (w.alloc (.cells #[.int .i64 0, .int .i64 0, .int .i64 0, .slice none 0 0] 38)).cell? ⟨w.heap.size, 3, none⟩ = some (.slice none 0 0) := by go_simp
  have xf : ∀ o, (w.alloc (.cells #[.int .i64 0, .int .i64 0, .int .i64 0, .slice none 0 0] 38)).frozen? ⟨w.heap.size, o, none⟩ = false := fun o => by go_simp
  clear v0 v1 v2 v3 hcp
  replace h := Lib.hid h
  replace hr := Lib.hid hr
  replace hby := Lib.hid hby
  go_enter Try.func35, Try.ntmps35
  go_wp2_with fail
  refine hh.out.mono ?_
  rintro e w2 ⟨⟨a1, c1, rfl, hz⟩, hb2⟩
  rw [World.size_alloc] at hz
  have hzf := Lib.hid hz.2
  replace hz := Lib.hid hz.1
  have hB2 := bNext hB hb2 (Nat.le_refl _)
  have hs2 := hb2.size
  rw [World.size_alloc] at hs2
  have hb3 := (Below.refl w2.heap.size w2).alloc (Nat.le_refl _) (.cells #[.int .i64 num, .int .i64 t, .int .i64 C, .slice a1 m c1] 38)
  have K : ∀ o, (w2.alloc (.cells #[.int .i64 num, .int .i64 t, .int .i64 C, .slice a1 m c1] 38)).cell? ⟨w.heap.size, o, none⟩ = (w.alloc (.cells #[.int .i64 0, .int .i64 0, .int .i64 0, .slice none 0 0] 38)).cell? ⟨w.heap.size, o, none⟩ := fun o => (hb3.cell (p := ⟨w.heap.size, o, none⟩) (by simp only; omega)).trans (hb2.cell (p := ⟨w.heap.size, o, none⟩) (by simp))
  have F : ∀ o, (w2.alloc (.cells #[.int .i64 num, .int .i64 t, .int .i64 C, .slice a1 m c1] 38)).frozen? ⟨w.heap.size, o, none⟩ = false := fun o => (hb3.frozen (p := ⟨w.heap.size, o, none⟩) (by simp only; omega)).trans ((hb2.frozen (p := ⟨w.heap.size, o, none⟩) (by simp)).trans (xf o))
  have y0 := (K 0).trans x0
  have y1 := (K 1).trans x1
  have y2 := (K 2).trans x2
  have y3 := (K 3).trans x3
  have z0 : (w2.alloc (.cells #[.int .i64 num, .int .i64 t, .int .i64 C, .slice a1 m c1] 38)).cell? ⟨w2.heap.size, 0, none⟩ = some (.int .i64 num) := by go_simp
  have z1 : (w2.alloc (.cells #[.int .i64 num, .int .i64 t, .int .i64 C, .slice a1 m c1] 38)).cell? ⟨w2.heap.size, 1, none⟩ = some (.int .i64 t) := by go_simp
  have z2 : (w2.alloc (.cells #[.int .i64 num, .int .i64 t, .int .i64 C, .slice a1 m c1] 38)).cell? ⟨w2.heap.size, 2, none⟩ = some (.int .i64 C) := by go_simp
  have z3 : (w2.alloc (.cells #[.int .i64 num, .int .i64 t, .int .i64 C, .slice a1 m c1] 38)).cell? ⟨w2.heap.size, 3, none⟩ = some (.slice a1 m c1) := by go_simp
  have hB3 := bNext hB2 hb3 (Nat.le_refl _)
  have hzW := Lib.hid (hz.out.bel hb3)
  have hWs : w2.heap.size < (w2.alloc (.cells #[.int .i64 num, .int .i64 t, .int .i64 C, .slice a1 m c1] 38)).heap.size := by simp
  clear K x0 x1 x2 x3 xf hb2 hb3 hh hB hB2
  go_upto_region 2 with fail
  generalize (w2.alloc (.cells #[.int .i64 num, .int .i64 t, .int .i64 C, .slice a1 m c1] 38)) = W at y0 y1 y2 y3 z0 z1 z2 z3 F hB3 hWs hzW ⊢
  have hQW := h.out.below hB3
  have hRW := hr.out.below hrl hB3
  have hpp := Lib.hid (rpop_c qb rb room pos n by_ dr pk W hQW hRW hn)
  have hKW := Kept.of_below (rb := rb) hB3 hq
  clear hQW hRW
  go_wp2_with fail
  refine hpp.out.mono ?_
  rintro e w4 ⟨⟨vv, rfl⟩, hQ4, hR4, hK4⟩
  have hz4 := Lib.hid (hzW.out.kept hzf.out (by omega) (by omega) hK4)
  have e1 : ∀ o, w4.cell? ⟨w.heap.size, o, none⟩ = W.cell? ⟨w.heap.size, o, none⟩ := fun o => World.cell?_of_block (hK4.block w.heap.size (by omega) (by omega) (by omega))
  have e2 : ∀ o, w4.cell? ⟨w2.heap.size, o, none⟩ = W.cell? ⟨w2.heap.size, o, none⟩ := fun o => World.cell?_of_block (hK4.block w2.heap.size hWs (by omega) (by omega))
  have e3 : ∀ o, w4.frozen? ⟨w.heap.size, o, none⟩ = false := fun o => (World.frozen?_of_block (hK4.block w.heap.size (by omega) (by omega) (by omega))).trans (F o)
  replace y0 := (e1 0).trans y0
  replace y1 := (e1 1).trans y1
  replace y2 := (e1 2).trans y2
  replace y3 := (e1 3).trans y3
  replace z0 := (e2 0).trans z0
  replace z1 := (e2 1).trans z1
  replace z2 := (e2 2).trans z2
  replace z3 := (e2 3).trans z3
  have hK5 := Lib.hid (hKW.trans hK4)
  have hs4 := hK4.size
  have c3 := hQ4.c3
  have qf := hQ4.f
  have hq4 : qb < w4.heap.size := World.block_lt_of_cell? _ _ c3
  replace hQ4 := Lib.hid hQ4
  replace hR4 := Lib.hid hR4
  have hm4 : w.heap.size < w4.heap.size := by omega
  have hm5 : w2.heap.size < w4.heap.size := by omega
  clear e1 e2 F hKW hK4 hpp
  go_wp2_with fail
  go_region_with (go_at_call 42; refine (qsize_c num t C a1 m c1 _ (by omega)).mono ?_; rintro e w5 ⟨rfl, hb5⟩; have d3 := (hb5.cell (p := ⟨qb, 3, none⟩) (by simpa using hq4)).trans (show w4.drew.cell? _ = _ by simpa using c3); have df := fun o => (hb5.frozen (p := ⟨qb, o, none⟩) (by simpa using hq4)).trans (show w4.drew.frozen? _ = _ by simpa using qf o))
  all_goals
    have hby1 := hby.out
    have hbyU := (h.out).by1
    have wr : IntKind.i64.wrap ((by_ : Int) - (8 + (m : Int))) = ((by_ - (8 + m) : Nat) : Int) := by rw [IntWalk.i64_in _ ⟨by omega, by omega⟩]; omega
    have hQ6 := ((hQ4.out.drew).below hb5).set_by (by_ - (8 + m)) (by omega)
    have hR6 := ((hR4.out.drew hQ4.out.rl).below hQ4.out.drew.rl hb5).set_q hQ4.out.ne 3 (.int .i64 ((by_ - (8 + m) : Nat) : Int))
    have hK6 := ((hK5.out.trans (Kept.drew 1)).trans (Kept.of_below hb5 (by simpa using hq4))).trans (Kept.set (rb := rb) qb 3 (.int .i64 ((by_ - (8 + m) : Nat) : Int)) (.inl rfl))
    have hz6 := hz4.out.kept hzf.out (by omega) (by omega) (((Kept.drew 1).trans (Kept.of_below hb5 (by simpa using hq4))).trans (Kept.set (rb := rb) qb 3 (.int .i64 ((by_ - (8 + m) : Nat) : Int)) (.inl rfl)))
    have G : ∀ b o, b < w4.heap.size → b ≠ qb → (w5.setCell ⟨qb, 3, none⟩ (.int .i64 ((by_ - (8 + m) : Nat) : Int))).cell? ⟨b, o, none⟩ = w4.cell? ⟨b, o, none⟩ := fun b o hb hne => (World.cell?_setCell_other _ _ _ _ (by simp <;> omega)).trans ((hb5.cell (p := ⟨b, o, none⟩) (by simpa using hb)).trans (by simp))
    have Gf : ∀ o, (w5.setCell ⟨qb, 3, none⟩ (.int .i64 ((by_ - (8 + m) : Nat) : Int))).frozen? ⟨w.heap.size, o, none⟩ = false := fun o => (World.frozen?_setCell _ _ _ _).trans ((hb5.frozen (p := ⟨w.heap.size, o, none⟩) (by simpa using hm4)).trans (by simpa using e3 o))
    have r0 := (G w.heap.size 0 hm4 (by omega)).trans y0
    have r1 := (G w.heap.size 1 hm4 (by omega)).trans y1
    have r2 := (G w.heap.size 2 hm4 (by omega)).trans y2
    have r3 := (G w.heap.size 3 hm4 (by omega)).trans y3
    have t0 := (G w2.heap.size 0 hm5 (by omega)).trans z0
    have t1 := (G w2.heap.size 1 hm5 (by omega)).trans z1
    have t2 := (G w2.heap.size 2 hm5 (by omega)).trans z2
    have t3 := (G w2.heap.size 3 hm5 (by omega)).trans z3
    simp only [wr]
    clear G d3 df wr hb5 hbyU hby1 y0 y1 y2 y3 z0 z1 z2 z3 e3 c3 qf
    generalize w5.setCell ⟨qb, 3, none⟩ (.int .i64 ((by_ - (8 + m) : Nat) : Int)) = Z at hQ6 hR6 hK6 hz6 Gf r0 r1 r2 r3 t0 t1 t2 t3 ⊢
    have n1 : w.heap.size ≠ qb := by omega
    have n2 : w.heap.size ≠ rb := by omega
    have hQ7 := Lib.hid ((((hQ6.set_far w.heap.size 0 (.int .i64 num) n1 n2).set_far w.heap.size 1 (.int .i64 t) n1 n2).set_far w.heap.size 2 (.int .i64 C) n1 n2).set_far w.heap.size 3 (.slice a1 m c1) n1 n2)
    have hR7 := Lib.hid ((((hR6.set_far w.heap.size 0 (.int .i64 num) n2).set_far w.heap.size 1 (.int .i64 t) n2).set_far w.heap.size 2 (.int .i64 C) n2).set_far w.heap.size 3 (.slice a1 m c1) n2)
    have hK7 := Lib.hid ((((hK6.setNew hq w.heap.size 0 (.int .i64 num) (Nat.le_refl _)).setNew hq w.heap.size 1 (.int .i64 t) (Nat.le_refl _)).setNew hq w.heap.size 2 (.int .i64 C) (Nat.le_refl _)).setNew hq w.heap.size 3 (.slice a1 m c1) (Nat.le_refl _))
    have hz7 := Lib.hid ((((hz6.setFar hzf.out (show w.heap.size < w.heap.size + 1 by omega) (o := 0) (v := .int .i64 num)).setFar hzf.out (show w.heap.size < w.heap.size + 1 by omega) (o := 1) (v := .int .i64 t)).setFar hzf.out (show w.heap.size < w.heap.size + 1 by omega) (o := 2) (v := .int .i64 C)).setFar hzf.out (show w.heap.size < w.heap.size + 1 by omega) (o := 3) (v := .slice a1 m c1))
    clear hQ6 hR6 hK6 hz6
    obtain ⟨s0, s1, s2, s3⟩ := Pk.set4 (.int .i64 num) (.int .i64 t) (.int .i64 C) (.slice a1 m c1) r0 r1 r2 r3
    go_wp2_with fail
    exact bodyPost_ret (v := .tuple #[.agg #[.int .i64 num, .int .i64 t, .int .i64 C, .slice a1 m c1], .int .i64 0]) (by simp [results, Try.results35, go_sem, s0, s1, s2, s3]) rfl ⟨a1, c1, rfl, ⟨hz7.out, hzf.out.mono (by omega)⟩, hQ7.out, hR7.out, hK7.out⟩

end Go.Proofs.Ytkefkophlhcbiaa
namespace Go.Proofs.Ytkefkophlhcbiaa
open Go.ChangeShapes Go.WideShapes Go.ChangeAt Go.RowKit
set_option linter.unusedVariables false
set_option linter.unusedSimpArgs false
open BigFrame By Fq Bs Fp

namespace Fp
/-- A packet, by what it says. -/
structure Pt where
  x : Int
  t : Int
  C : Int
  d : List Nat
/-- The bytes lie in none of these blocks. -/
def NoB (l : List Nat) (a : Option Addr) (n : Nat) : Prop := 0 < n → ∀ ad, a = some ad → ad.block ∉ l
theorem NoB.sub {l l2 : List Nat} {a : Option Addr} {n : Nat} (h : NoB l a n) (hs : ∀ i, i ∈ l2 → i ∈ l) : NoB l2 a n := fun hn ad e q => h hn ad e (hs _ q)
theorem NoB.app {l l2 : List Nat} {a : Option Addr} {n : Nat} (h : NoB l a n) (k : NoB l2 a n) : NoB (l ++ l2) a n := fun hn ad e q => by
  rcases List.mem_append.1 q with q | q
  · exact h hn ad e q
  · exact k hn ad e q
theorem NoB.far {m : Nat} {l : List Nat} {a : Option Addr} {n : Nat} (f : Far m a n) (hl : ∀ q, q ∈ l → q < m) : NoB l a n := f.notin hl
/-- Blocks that were made later. -/
theorem NoB.new {w : World} {l : List Nat} {a : Option Addr} {n c : Nat} {d : List Nat} (h : Byt w a n c d) (hl : ∀ q, q ∈ l → w.heap.size ≤ q) : NoB l a n := fun hn ad e q => by
  obtain ⟨b, o, e2, hb, _⟩ := h.row hn
  rw [e] at e2
  cases e2
  have := hl _ q
  simp only at this
  omega
/-- Four cells say a packet. -/
def IsP (w : World) (ns : List Nat) (p : Pt) (v0 v1 v2 v3 : Value) : Prop := v0 = .int .i64 p.x ∧ v1 = .int .i64 p.t ∧ v2 = .int .i64 p.C ∧ ∃ a c, v3 = .slice a p.d.length c ∧ Byt w a p.d.length c p.d ∧ NoB ns a p.d.length
theorem IsP.kf {l ns : List Nat} {w w' : World} {p : Pt} {v0 v1 v2 v3 : Value} (h : IsP w ns p v0 v1 v2 v3) (k : KF l w w') (hl : ∀ i, i ∈ l → i ∈ ns) : IsP w' ns p v0 v1 v2 v3 := by
  obtain ⟨h0, h1, h2, a, c, h3, hb, hn⟩ := h
  exact ⟨h0, h1, h2, a, c, h3, k.byt hb (hn.sub hl), hn⟩
theorem IsP.sub {ns ns2 : List Nat} {w : World} {p : Pt} {v0 v1 v2 v3 : Value} (h : IsP w ns p v0 v1 v2 v3) (hl : ∀ i, i ∈ ns2 → i ∈ ns) : IsP w ns2 p v0 v1 v2 v3 := by
  obtain ⟨h0, h1, h2, a, c, h3, hb, hn⟩ := h
  exact ⟨h0, h1, h2, a, c, h3, hb, hn.sub hl⟩
theorem IsP.app {ns ns2 : List Nat} {w : World} {p : Pt} {v0 v1 v2 v3 : Value} (h : IsP w ns p v0 v1 v2 v3) (hl : ∀ q, q ∈ ns2 → w.heap.size ≤ q ∨ q ∈ ns) : IsP w ns2 p v0 v1 v2 v3 := by
  obtain ⟨h0, h1, h2, a, c, h3, hb, hn⟩ := h
  refine ⟨h0, h1, h2, a, c, h3, hb, fun hp ad e q => ?_⟩
  rcases hl _ q with z | z
  · exact NoB.new (l := [ad.block]) hb (fun q hq => by simp at hq; omega) hp ad e (by simp)
  · exact hn hp ad e z
/-- The sum of the sizes. -/
def tot : List Pt → Nat
  | [] => 0
  | p :: l => 8 + p.d.length + tot l
theorem tot_app (l r : List Pt) : tot (l ++ r) = tot l + tot r := by
  induction l with
  | nil => simp [tot]
  | cons p l ih => simp only [List.cons_append, tot, ih]; omega
theorem tot_one (p : Pt) : tot [p] = 8 + p.d.length := by simp [tot]
def Sized (l : List Pt) : Prop := ∀ p, p ∈ l → p.d.length ≤ 1492
theorem tot_le {l : List Pt} (h : Sized l) : tot l ≤ l.length * 1500 := by
  induction l with
  | nil => simp [tot]
  | cons p l ih =>
    have := ih (fun q hq => h q (List.mem_cons_of_mem _ hq))
    have := h p (List.mem_cons_self ..)
    simp only [tot, List.length_cons, Nat.add_mul, Nat.one_mul]
    omega
theorem _root_.Go.Proofs.Ytkefkophlhcbiaa.Fq.QAt.kf {l : List Nat} {W W' : World} {qb rb room pos n by_ dr : Nat} (h : QAt W qb rb room pos n by_ dr) (k : KF l W W') (h1 : qb ∉ l) (h2 : rb ∉ l) : QAt W' qb rb room pos n by_ dr := by
  have hq := World.block_lt_of_cell? _ _ h.c0
  have hr := h.rl
  have e1 := k.k qb hq h1
  have e2 := k.k rb hr h2
  have c : ∀ o, W'.cell? ⟨qb, o, none⟩ = W.cell? ⟨qb, o, none⟩ := fun o => World.cell?_of_block e1
  exact ⟨(c _).trans h.c0, (c _).trans h.c1, (c _).trans h.c2, (c _).trans h.c3, (c _).trans h.c4, fun o => (World.frozen?_of_block e1).trans (h.f o), fun o => (World.frozen?_of_block e2).trans (h.rf o), h.ne, Nat.lt_of_lt_of_le hr k.size, h.room1, h.room2, h.pos1, h.n1, h.by1, h.dr1⟩
theorem _root_.Go.Proofs.Ytkefkophlhcbiaa.Fq.RingAt.kf {l : List Nat} {W W' : World} {rb room : Nat} {pk : Nat → Nat → Value} (h : RingAt W rb room pk) (hr : rb < W.heap.size) (k : KF l W W') (h2 : rb ∉ l) : RingAt W' rb room pk := fun j i hj hi => (World.cell?_of_block (k.k rb hr h2)).trans (h j i hj hi)
/-- The program's queue holds these packets. -/
structure PQ (w : World) (qb rb room pos dr : Nat) (l : List Pt) (ns : List Nat) : Prop where
  q : QAt w qb rb room pos l.length (tot l) dr
  r : ∃ pk, RingAt w rb room pk ∧ ∀ (j : Nat) (p : Pt), l[j]? = some p → IsP w (qb :: rb :: ns) p (pk ((pos + j) % room) 0) (pk ((pos + j) % room) 1) (pk ((pos + j) % room) 2) (pk ((pos + j) % room) 3)
  s : Sized l
theorem PQ.kf {L ns : List Nat} {w w' : World} {qb rb room pos dr : Nat} {l : List Pt} (h : PQ w qb rb room pos dr l ns) (k : KF L w w') (hL : ∀ i, i ∈ L → i ∈ ns) (h1 : qb ∉ L) (h2 : rb ∉ L) : PQ w' qb rb room pos dr l ns := by
  obtain ⟨pk, hr, hp⟩ := h.r
  exact ⟨h.q.kf k h1 h2, ⟨pk, hr.kf h.q.rl k h2, fun j p hj => (hp j p hj).kf k (fun i hi => by simp [hL i hi])⟩, h.s⟩
theorem PQ.bel {ns : List Nat} {w w' : World} {qb rb room pos dr : Nat} {l : List Pt} (h : PQ w qb rb room pos dr l ns) (k : Below w.heap.size w w') : PQ w' qb rb room pos dr l ns :=
  h.kf (KF.of (l := []) k) (fun i hi => by simp at hi) (by simp) (by simp)
theorem PQ.ns {ns ns2 : List Nat} {w : World} {qb rb room pos dr : Nat} {l : List Pt} (h : PQ w qb rb room pos dr l ns) (hl : ∀ q, q ∈ ns2 → w.heap.size ≤ q ∨ q ∈ ns) : PQ w qb rb room pos dr l ns2 := by
  obtain ⟨pk, hr, hp⟩ := h.r
  exact ⟨h.q, ⟨pk, hr, fun j p hj => (hp j p hj).app (fun q hq => by
    simp only [List.mem_cons] at hq ⊢
    rcases hq with e | e | e
    · exact .inr (.inl e)
    · exact .inr (.inr (.inl e))
    · rcases hl q e with z | z
      · exact .inl z
      · exact .inr (.inr (.inr z)))⟩, h.s⟩
theorem PQ.lt {ns : List Nat} {w : World} {qb rb room pos dr : Nat} {l : List Pt} (h : PQ w qb rb room pos dr l ns) : qb < w.heap.size ∧ rb < w.heap.size := ⟨World.block_lt_of_cell? _ _ h.q.c0, h.q.rl⟩
/-- What a call that changes the program's queue leaves. -/
def PqP (v : Value) (qb rb room pos dr : Nat) (l : List Pt) (ns : List Nat) (w : World) (e : Ending) (w' : World) : Prop := e = .returned v ∧ PQ w' qb rb room pos dr l ns ∧ KF [qb, rb] w w'
theorem mod_injF {room pos i j : Nat} (hi : i < room) (hj : j < room) (h : (pos + i) % room = (pos + j) % room) : i = j := by
  have e1 := Nat.div_add_mod (pos + i) room
  have e2 := Nat.div_add_mod (pos + j) room
  rw [h] at e1
  have key : ∀ (x y r : Nat), room * x + r = pos + i → room * y + r = pos + j → i = j := fun x y r q1 q2 => by
    rcases Nat.lt_trichotomy x y with z | z | z
    · have : room * (x + 1) ≤ room * y := Nat.mul_le_mul_left _ z
      rw [Nat.mul_add] at this
      omega
    · subst z; omega
    · have : room * (y + 1) ≤ room * x := Nat.mul_le_mul_left _ z
      rw [Nat.mul_add] at this
      omega
  exact key _ _ _ e1 e2
end Fp

theorem pq_push_ok {w : World} {qb rb room pos dr : Nat} {l : List Pt} {ns : List Nat} (h : PQ w qb rb room pos dr l ns) (hns : ∀ q, q ∈ ns → q < w.heap.size) (p : Pt) (a : Option Addr) (cm : Nat) (hb : Byt w a p.d.length cm p.d) (hm : p.d.length ≤ 1492) (hn : l.length < room) :
    Calls Try.prog 28 #[.pointer (some ⟨qb, 0, none⟩), .agg #[.int .i64 p.x, .int .i64 p.t, .int .i64 p.C, .slice a p.d.length cm]] w (PqP (.int .i64 0) qb rb room pos dr (l ++ [p]) ns w) := by
  obtain ⟨pk, hr, hp⟩ := h.r
  have hlt := h.lt
  have ht := tot_le h.s
  have hr2 := h.q.room2
  refine (qpushF_ok qb rb room pos l.length (tot l) dr p.x p.t p.C a p.d.length cm pk w h.q hr hn hm (by omega) p.d (copyF_of hb (by omega))).mono ?_
  rintro e w' ⟨rfl, a1, c1, ⟨hB, hF⟩, hQ, hR, hK⟩
  have kf := kept_kf hK
  refine ⟨rfl, ⟨?_, ⟨_, hR, fun j q hj => ?_⟩, fun q hq => ?_⟩, kf⟩
  · rw [List.length_append, tot_app, tot_one, List.length_singleton, ← Nat.add_assoc]
    exact hQ
  · have hjl := (List.getElem?_eq_some_iff.1 hj).1
    rw [List.length_append, List.length_singleton] at hjl
    by_cases hjn : j = l.length
    · subst hjn
      rw [List.getElem?_append_right (Nat.le_refl _), Nat.sub_self] at hj
      simp at hj
      subst hj
      simp only [if_true]
      exact ⟨rfl, rfl, rfl, a1, c1, rfl, hB, NoB.far hF (fun q hq => by
        simp only [List.mem_cons] at hq
        rcases hq with rfl | rfl | hq
        · exact hlt.1
        · exact hlt.2
        · exact hns q hq)⟩
    · rw [List.getElem?_append_left (by omega)] at hj
      have hne : ¬ (pos + j) % room = (pos + l.length) % room := fun e => hjn (mod_injF (by omega) hn e)
      simp only [if_neg hne]
      exact (hp j q hj).kf kf (fun i hi => by simp at hi; simp; omega)
  · rcases List.mem_append.1 hq with q1 | q1
    · exact h.s q q1
    · simp at q1; subst q1; exact hm
theorem pq_push_full {w : World} {qb rb room pos dr : Nat} {l : List Pt} {ns : List Nat} (h : PQ w qb rb room pos dr l ns) (p : Pt) (a : Option Addr) (cm : Nat) (hb : Byt w a p.d.length cm p.d) (hm : p.d.length ≤ 1492) (hn : l.length = room) (hd : dr < 1000000) :
    Calls Try.prog 28 #[.pointer (some ⟨qb, 0, none⟩), .agg #[.int .i64 p.x, .int .i64 p.t, .int .i64 p.C, .slice a p.d.length cm]] w (PqP (.int .i64 100) qb rb room pos (dr + 1) l ns w) := by
  obtain ⟨pk, hr, hp⟩ := h.r
  have hq := h.q
  rw [hn] at hq
  refine (qpushF_full qb rb room pos (tot l) dr p.x p.t p.C a p.d.length cm pk w hq hr hd hm p.d (copyF_of hb (by omega))).mono ?_
  rintro e w' ⟨rfl, hQ, hR, hK⟩
  have kf := kept_kf hK
  exact ⟨rfl, ⟨by rw [hn]; exact hQ, ⟨pk, hR, fun j q hj => (hp j q hj).kf kf (fun i hi => by simp at hi; simp; omega)⟩, h.s⟩, kf⟩
set_option maxRecDepth 100000 in
set_option maxHeartbeats 4000000 in
theorem pq_push_big (qb : Nat) (p : Pt) (a : Option Addr) (cm : Nat) (w : World) (hm : 1492 < p.d.length) (hm2 : p.d.length ≤ 1000000) :
    Calls Try.prog 28 #[.pointer (some ⟨qb, 0, none⟩), .agg #[.int .i64 p.x, .int .i64 p.t, .int .i64 p.C, .slice a p.d.length cm]] w fun e w' => e = .returned (.int .i64 2) ∧ Below w.heap.size w w' := by
  have k1 : (1500 : Int) < 8 + ((p.d.length : Nat) : Int) := by omega
  have hB0 := (Below.refl w.heap.size w).alloc (Nat.le_refl _) (.cells #[.int .i64 p.x, .int .i64 p.t, .int .i64 p.C, .slice a p.d.length cm] 38)
  have hz := Lib.hid (fun u => qsize_c p.x p.t p.C a p.d.length cm u hm2)
  generalize p.d.length = m at k1 hB0 hz hm hm2 ⊢
  go_enter Try.func28, Try.ntmps28
  go_wp2_with fail
  refine (hz.out _).mono ?_
  rintro e w1 ⟨rfl, hb1⟩
  have hB1 := bNext hB0 hb1 (Nat.le_refl _)
  clear hz
  go_wp2_with fail
  exact bodyPost_ret (v := .int .i64 2) (by simp [results, Try.results28, go_sem]) rfl ⟨rfl, hB1⟩

namespace Fp
/-- A copy of a packet that was handed out. -/
def OutP (p : Pt) (v : Value) (w : World) (m : Nat) : Prop := ∃ a c, v = .agg #[.int .i64 p.x, .int .i64 p.t, .int .i64 p.C, .slice a p.d.length c] ∧ Byt w a p.d.length c p.d ∧ Far m a p.d.length
def PopQ (qb rb room pos dr : Nat) (p : Pt) (l : List Pt) (ns : List Nat) (w : World) (e : Ending) (w' : World) : Prop := (∃ v, e = .returned (.tuple #[v, .int .i64 0]) ∧ OutP p v w' w.heap.size) ∧ PQ w' qb rb room ((pos + 1) % room) dr l ns ∧ KF [qb, rb] w w'
def HeadQ (p : Pt) (w : World) (e : Ending) (w' : World) : Prop := (∃ v, e = .returned (.tuple #[v, .bool true]) ∧ OutP p v w' w.heap.size) ∧ Below w.heap.size w w'
theorem PQ.at0 {w : World} {qb rb room pos dr : Nat} {p : Pt} {l : List Pt} {ns : List Nat} (h : PQ w qb rb room pos dr (p :: l) ns) : ∃ pk a c, RingAt w rb room pk ∧ pk pos 0 = .int .i64 p.x ∧ pk pos 1 = .int .i64 p.t ∧ pk pos 2 = .int .i64 p.C ∧ pk pos 3 = .slice a p.d.length c ∧ Byt w a p.d.length c p.d ∧ (∀ (j : Nat) (q : Pt), l[j]? = some q → IsP w (qb :: rb :: ns) q (pk (((pos + 1) % room + j) % room) 0) (pk (((pos + 1) % room + j) % room) 1) (pk (((pos + 1) % room + j) % room) 2) (pk (((pos + 1) % room + j) % room) 3)) := by
  obtain ⟨pk, hr, hp⟩ := h.r
  have hq := hp 0 p rfl
  rw [show (pos + 0) % room = pos by rw [Nat.add_zero]; exact Nat.mod_eq_of_lt h.q.pos1] at hq
  obtain ⟨h0, h1, h2, a, c, h3, hb, hn⟩ := hq
  refine ⟨pk, a, c, hr, h0, h1, h2, h3, hb, fun j q hj => ?_⟩
  rw [Nat.mod_add_mod, Nat.add_assoc, Nat.add_comm 1 j]
  exact hp (j + 1) q hj
end Fp
theorem pq_pop_ok {w : World} {qb rb room pos dr : Nat} {p : Pt} {l : List Pt} {ns : List Nat} (h : PQ w qb rb room pos dr (p :: l) ns) :
    Calls Try.prog 35 #[.pointer (some ⟨qb, 0, none⟩)] w (PopQ qb rb room pos dr p l ns w) := by
  obtain ⟨pk, a, c, hr, h0, h1, h2, h3, hb, hp⟩ := h.at0
  have hm := h.s p (List.mem_cons_self ..)
  have hq : QAt w qb rb room pos (l.length + 1) (8 + p.d.length + tot l) dr := h.q
  refine (qpopF_ok qb rb room pos (l.length + 1) (8 + p.d.length + tot l) dr p.x p.t p.C a p.d.length c pk w hq hr (by omega) hm (by omega) h0 h1 h2 h3 p.d (copyF_of hb (by omega))).mono ?_
  rintro e w' ⟨a1, c1, rfl, ⟨hB, hF⟩, hQ, hR, hK⟩
  have kf := kept_kf hK
  refine ⟨⟨_, rfl, a1, c1, rfl, hB, hF⟩, ⟨?_, ⟨pk, hR, fun j q hj => (hp j q hj).kf kf (fun i hi => by simp at hi; simp; omega)⟩, fun q hq => h.s q (List.mem_cons_of_mem _ hq)⟩, kf⟩
  rw [show l.length + 1 - 1 = l.length by omega, show 8 + p.d.length + tot l - (8 + p.d.length) = tot l by omega] at hQ
  exact hQ
theorem pq_head_ok {w : World} {qb rb room pos dr : Nat} {p : Pt} {l : List Pt} {ns : List Nat} (h : PQ w qb rb room pos dr (p :: l) ns) :
    Calls Try.prog 32 #[.pointer (some ⟨qb, 0, none⟩)] w (HeadQ p w) := by
  obtain ⟨pk, a, c, hr, h0, h1, h2, h3, hb, hp⟩ := h.at0
  have hm := h.s p (List.mem_cons_self ..)
  have hq : QAt w qb rb room pos (l.length + 1) (8 + p.d.length + tot l) dr := h.q
  refine (qheadF_ok qb rb room pos (l.length + 1) (8 + p.d.length + tot l) dr p.x p.t p.C a p.d.length c pk w hq hr (by omega) h0 h1 h2 h3 p.d (copyF_of hb (by omega))).mono ?_
  rintro e w' ⟨⟨a1, c1, rfl, hB, hF⟩, hbb⟩
  exact ⟨⟨_, rfl, a1, c1, rfl, hB, hF⟩, hbb⟩
theorem pq_new {room : Nat} {w : World} (h1 : 1 ≤ room) (h2 : room ≤ 64) (ns : List Nat) :
    Calls Try.prog 23 #[.int .i64 (room : Nat)] w fun e w' => ∃ qb rb, e = .returned (.tuple #[.pointer (some ⟨qb, 0, none⟩), .int .i64 0]) ∧ PQ w' qb rb room 0 0 [] ns ∧ w.heap.size ≤ qb ∧ w.heap.size ≤ rb ∧ Below w.heap.size w w' := by
  refine (qnew_ok room w h1 h2).mono ?_
  rintro e w' ⟨qb, rb, pk, rfl, hQ, hR, h3, h4, hB⟩
  exact ⟨qb, rb, rfl, ⟨hQ, ⟨pk, hR, fun j p hj => by simp at hj⟩, fun p hp => by simp at hp⟩, h3, h4, hB⟩
set_option maxRecDepth 100000 in
set_option maxHeartbeats 2000000 in
theorem qnew_bad (room : Int) (w : World) (h : room < 1 ∨ 64 < room) : Calls Try.prog 23 #[.int .i64 room] w fun e w' => e = .returned (.tuple #[.pointer none, .int .i64 2]) ∧ w' = w := by
  by_cases h1 : room < 1
  · clear h
    go_enter Try.func23, Try.ntmps23
    go_wp2_with fail
    go_ret2
    exact ⟨rfl, rfl⟩
  · have h2 : 64 < room := by omega
    clear h
    go_enter Try.func23, Try.ntmps23
    go_wp2_with fail
    go_ret2
    exact ⟨rfl, rfl⟩
end Go.Proofs.Ytkefkophlhcbiaa
