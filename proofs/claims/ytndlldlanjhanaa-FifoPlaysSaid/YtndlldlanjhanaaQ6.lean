/- Queues of packets: Head and Pop. -/
import Derived.Test.YtndlldlanjhanaaQ5
namespace Go.Proofs.Ytndlldlanjhanaa
open Go.ChangeShapes Go.WideShapes Go.ChangeAt Go.RowKit
set_option linter.unusedVariables false
set_option linter.unusedSimpArgs false
open Pk BigFrame Fq

set_option maxRecDepth 100000 in
set_option maxHeartbeats 4000000 in
theorem qhead_none (qb rb room pos by_ dr : Nat) (w : World) (h : QAt w qb rb room pos 0 by_ dr) :
    Calls Try.prog 18 #[.pointer (some ⟨qb, 0, none⟩)] w fun e w' => e = .returned (.tuple #[.agg #[.int .i64 0, .int .i64 0, .int .i64 0, .slice none 0 0], .bool false]) ∧ Below w.heap.size w w' := by
  have hB := (Below.refl w.heap.size w).alloc (Nat.le_refl _) (.cells #[.int .i64 0, .int .i64 0, .int .i64 0, .slice none 0 0] 25)
  have hQ := h.below hB
  go_enter Try.func18, Try.ntmps18
  go_wp2_with (go_at_call 8; refine (qlen_c qb rb room pos 0 by_ dr _ hQ).mono ?_; rintro e w1 ⟨rfl, rfl⟩)
  exact bodyPost_ret (v := .tuple #[.agg #[.int .i64 0, .int .i64 0, .int .i64 0, .slice none 0 0], .bool false]) (by simp [results, Try.results18, go_sem]) rfl ⟨rfl, hB⟩

set_option maxRecDepth 100000 in
set_option maxHeartbeats 4000000 in
theorem qhead_ok (qb rb room pos n by_ dr : Nat) (num t C : Int) (a : Option Addr) (m cm : Nat) (pk : Nat → Nat → Value) (w : World) (h : QAt w qb rb room pos n by_ dr) (hr : RingAt w rb room pk) (hn : 0 < n) (v0 : pk pos 0 = .int .i64 num) (v1 : pk pos 1 = .int .i64 t) (v2 : pk pos 2 = .int .i64 C) (v3 : pk pos 3 = .slice a m cm) (hcp : CopyP num t C a m cm w) :
    Calls Try.prog 18 #[.pointer (some ⟨qb, 0, none⟩)] w fun e w' => (∃ a1 c1, e = .returned (.tuple #[.agg #[.int .i64 num, .int .i64 t, .int .i64 C, .slice a1 m c1], .bool true]) ∧ (m = 0 → a1 = none ∧ c1 = 0)) ∧ Below w.heap.size w w' := by
  have hB := (Below.refl w.heap.size w).alloc (Nat.le_refl _) (.cells #[.int .i64 0, .int .i64 0, .int .i64 0, .slice none 0 0] 25)
  have hQ := h.below hB
  have hR := hr.below h.rl hB
  have hn' : ((n : Nat) : Int) ≠ 0 := by omega
  have hnb : (((n : Nat) : Int) == 0) = false := by simp; omega
  have hp : (pos + 0) % room = pos := by rw [Nat.add_zero]; exact Nat.mod_eq_of_lt h.pos1
  have hlk := Lib.hid (rlook_c qb rb room pos n by_ dr 0 num t C a m cm pk _ hQ hR (by omega) (by rw [hp]; exact v0) (by rw [hp]; exact v1) (by rw [hp]; exact v2) (by rw [hp]; exact v3))
  have hln := Lib.hid (qlen_c qb rb room pos n by_ dr _ hQ)
  have hcp1 := Lib.hid hcp
  have x0 : (w.alloc (.cells #[.int .i64 0, .int .i64 0, .int .i64 0, .slice none 0 0] 25)).cell? ⟨w.heap.size, 0, none⟩ = some (.int .i64 0) := by go_simp
  have x1 : (w.alloc (.cells #[.int .i64 0, .int .i64 0, .int .i64 0, .slice none 0 0] 25)).cell? ⟨w.heap.size, 1, none⟩ = some (.int .i64 0) := by go_simp
  have x2 : (w.alloc (.cells #[.int .i64 0, .int .i64 0, .int .i64 0, .slice none 0 0] 25)).cell? ⟨w.heap.size, 2, none⟩ = some (.int .i64 0) := by go_simp
  have x3 : (w.alloc (.cells #[.int .i64 0, .int .i64 0, .int .i64 0, .slice none 0 0] 25)).cell? ⟨w.heap.size, 3, none⟩ = some (.slice none 0 0) := by go_simp
  have xf : ∀ o, (w.alloc (.cells #[.int .i64 0, .int .i64 0, .int .i64 0, .slice none 0 0] 25)).frozen? ⟨w.heap.size, o, none⟩ = false := fun o => by go_simp
  clear v0 v1 v2 v3 hcp hp h hr hQ hR hn
  go_enter Try.func18, Try.ntmps18
  go_wp2_with (go_at_call 8; refine hln.out.mono ?_; rintro e w1 ⟨rfl, rfl⟩)
  refine hlk.out.mono ?_
  rintro e w2 ⟨rfl, hb2⟩
  have hB2 := bNext hB hb2 (Nat.le_refl _)
  go_wp2_with fail
  refine (hcp1.out _ hB2).mono ?_
  rintro e w3 ⟨a1, c1, rfl, hz, hb3⟩
  have hB3 := bNext hB2 hb3 (Nat.le_refl _)
  have hb23 := bNext hb2 hb3 (Nat.le_refl _)
  have y0 := (hb23.cell (p := ⟨w.heap.size, 0, none⟩) (by simp)).trans x0
  have y1 := (hb23.cell (p := ⟨w.heap.size, 1, none⟩) (by simp)).trans x1
  have y2 := (hb23.cell (p := ⟨w.heap.size, 2, none⟩) (by simp)).trans x2
  have y3 := (hb23.cell (p := ⟨w.heap.size, 3, none⟩) (by simp)).trans x3
  have yf := fun o => (hb23.frozen (p := ⟨w.heap.size, o, none⟩) (by simp)).trans (xf o)
  replace hz := Lib.hid hz
  clear x0 x1 x2 x3 xf hb2 hb3 hb23 hB2
  obtain ⟨s0, s1, s2, s3⟩ := set4 (.int .i64 num) (.int .i64 t) (.int .i64 C) (.slice a1 m c1) y0 y1 y2 y3
  have hB4 := below4 hB3 (Nat.le_refl _) (.int .i64 num) (.int .i64 t) (.int .i64 C) (.slice a1 m c1)
  go_wp2_with fail
  exact bodyPost_ret (v := .tuple #[.agg #[.int .i64 num, .int .i64 t, .int .i64 C, .slice a1 m c1], .bool true]) (by simp [results, Try.results18, go_sem, s0, s1, s2, s3]) rfl ⟨⟨a1, c1, rfl, hz.out⟩, hB4⟩
end Go.Proofs.Ytndlldlanjhanaa
