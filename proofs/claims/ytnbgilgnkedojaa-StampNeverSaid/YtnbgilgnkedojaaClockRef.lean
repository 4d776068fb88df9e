/- The contracts of a clock's copy, of no clock, and of the reference's clock. -/
import Derived.Test.YtnbgilgnkedojaaClockOver
namespace Go.Proofs.Ytnbgilgnkedojaa
open Go.ChangeShapes Go.WideShapes Go.ChangeAt Go.RowKit
set_option linter.unusedVariables false
set_option linter.unusedSimpArgs false
attribute [local go_sem] max_fold min_fold
open Ck

theorem copy_c (b : Nat) (t m r : Int) (w : World) (h : Ck.At w b t m r) :
    Calls Try.prog 58 #[.pointer (some ⟨b, 0, none⟩)] w fun e w' => e = .returned (.pointer (some ⟨w.heap.size, 0, none⟩)) ∧ Ck.At w' w.heap.size t m r ∧ Below w.heap.size w w' := by
  obtain ⟨c0, c1, c2, f0, f1⟩ := h
  go_enter Try.func58, Try.ntmps58
  go_wp2
  go_ret
  exact ⟨rfl, ⟨by go_simp, by go_simp, by go_simp, by go_simp, by go_simp⟩, (Below.refl _ _).alloc (Nat.le_refl _) _⟩

theorem copy_nil (w : World) :
    Calls Try.prog 58 #[.pointer none] w fun e w' => e = .returned (.pointer none) ∧ w = w' := by
  go_enter Try.func58, Try.ntmps58
  go_wp2
  go_ret
  exact ⟨rfl, rfl⟩

theorem now_nil (w : World) :
    Calls Try.prog 52 #[.pointer none] w fun e w' => e = .returned (.int .i64 0) ∧ w = w' := by
  go_enter Try.func52, Try.ntmps52
  go_wp2
  go_ret
  exact ⟨rfl, rfl⟩

theorem true_nil (w : World) :
    Calls Try.prog 53 #[.pointer none] w fun e w' => e = .returned (.int .i64 0) ∧ w = w' := by
  go_enter Try.func53, Try.ntmps53
  go_wp2
  go_ret
  exact ⟨rfl, rfl⟩

theorem step_nil (t m : Int) (w : World) :
    Calls Try.prog 51 #[.pointer none, .int .i64 t, .int .i64 m] w fun e w' => e = .returned (.int .i64 1) ∧ w = w' := by
  go_enter Try.func51, Try.ntmps51
  go_wp2
  go_ret
  exact ⟨rfl, rfl⟩

namespace Ck
/-- The reference's clock, that lies at block b. -/
structure RAt (w : World) (b : Nat) (t m r : Int) : Prop where
  c0 : w.cell? ⟨b, 0, none⟩ = some (.int .i64 r)
  c1 : w.cell? ⟨b, 1, none⟩ = some (.int .i64 t)
  c2 : w.cell? ⟨b, 2, none⟩ = some (.int .i64 m)
  f1 : w.frozen? ⟨b, 1, none⟩ = false
  f2 : w.frozen? ⟨b, 2, none⟩ = false
theorem RAt.lt {w : World} {b : Nat} {t m r : Int} (h : RAt w b t m r) : b < w.heap.size := cell_lt h.c0
theorem RAt.only {w w' : World} {b b' : Nat} {t m r : Int} (h : RAt w b t m r) (k : Only b' w w') (hne : b ≠ b') : RAt w' b t m r :=
  ⟨k.cell h.c0 hne, k.cell h.c1 hne, k.cell h.c2 hne, (k.frozen h.lt hne).trans h.f1, (k.frozen h.lt hne).trans h.f2⟩
theorem RAt.below {w w' : World} {b : Nat} {t m r : Int} (h : RAt w b t m r) (k : Below w.heap.size w w') : RAt w' b t m r :=
  ⟨(k.cell h.lt).trans h.c0, (k.cell h.lt).trans h.c1, (k.cell h.lt).trans h.c2, (k.frozen h.lt).trans h.f1, (k.frozen h.lt).trans h.f2⟩
end Ck

theorem rnew_ok (r : Int) (w : World) (h0 : 0 ≤ r) (h1 : r ≤ 200) :
    Calls Try.prog 57 #[.int .i64 r] w fun e w' => e = .returned (.tuple #[.pointer (some ⟨w.heap.size, 0, none⟩), .int .i64 0]) ∧ Ck.RAt w' w.heap.size 0 0 r ∧ Below w.heap.size w w' := by
  go_enter Try.func57, Try.ntmps57
  go_wp2
  go_ret2
  exact ⟨rfl, ⟨by go_simp, by go_simp, by go_simp, by go_simp, by go_simp⟩, (Below.refl _ _).alloc (Nat.le_refl _) _⟩

theorem rnew_no (r : Int) (w : World) (h : r < 0 ∨ 200 < r) :
    Calls Try.prog 57 #[.int .i64 r] w fun e w' => e = .returned (.tuple #[.pointer none, .int .i64 2]) ∧ w = w' := by
  by_cases h0 : r < 0
  · clear h
    go_enter Try.func57, Try.ntmps57
    go_wp2
    go_ret2
    exact ⟨rfl, rfl⟩
  · have h1 : 200 < r := by omega
    clear h
    go_enter Try.func57, Try.ntmps57
    go_wp2
    go_ret2
    exact ⟨rfl, rfl⟩

set_option maxRecDepth 100000 in
set_option maxHeartbeats 1000000 in
theorem rstep_ok (b : Nat) (t m r ticks wish : Int) (w : World) (h : Ck.RAt w b t m r) (I : Ck.Inv t m r) (h0 : 0 ≤ ticks) (h1 : ticks ≤ 1099511627776 - t) :
    Calls Try.prog 59 #[.pointer (some ⟨b, 0, none⟩), .int .i64 ticks, .int .i64 wish] w fun e w' => e = .returned (.int .i64 0) ∧ Ck.RAt w' b (t + ticks) (m + Ck.adv r ticks wish) r ∧ Only b w w' := by
  have hb := h.lt
  obtain ⟨c0, c1, c2, f1, f2⟩ := h
  have q1 := I.r0
  have q2 := I.r1
  have q3 := I.t0
  have q4 := I.t1
  obtain ⟨q5, q6⟩ := I.mb
  obtain ⟨q7, q8, q9⟩ := mul_b h0 (show ticks ≤ 1099511627776 by omega) q1 q2
  have q10 : ticks * (1000 - r) ≤ min (max wish (ticks * (1000 - r))) (ticks * (1000 + r)) := (adv_b (wish := wish) q8).1
  have q11 : min (max wish (ticks * (1000 - r))) (ticks * (1000 + r)) ≤ ticks * (1000 + r) := (adv_b (wish := wish) q8).2
  clear I
  have z1 := World.cell?_setCell_same w ⟨b, 1, none⟩ (.int .i64 (t + ticks)) c1
  have z0 := (World.cell?_setCell_other w ⟨b, 1, none⟩ ⟨b, 0, none⟩ (.int .i64 (t + ticks)) (by simp)).trans c0
  have z2 := (World.cell?_setCell_other w ⟨b, 1, none⟩ ⟨b, 2, none⟩ (.int .i64 (t + ticks)) (by simp)).trans c2
  have y1 := (World.frozen?_setCell w ⟨b, 1, none⟩ ⟨b, 1, none⟩ (.int .i64 (t + ticks))).trans f1
  have y2 := (World.frozen?_setCell w ⟨b, 1, none⟩ ⟨b, 2, none⟩ (.int .i64 (t + ticks))).trans f2
  have ho1 := (Only.refl b w).setCell 1 (.int .i64 (t + ticks))
  go_enter Try.func59, Try.ntmps59
  go_wp2
  generalize w.setCell ⟨b, 1, none⟩ (.int .i64 (t + ticks)) = w1 at z0 z1 z2 y1 y2 ho1 ⊢
  clear c0 c1 c2 f1 f2
  go_region
  go_wp2
  go_ret
  refine ⟨rfl, ⟨?_, ?_, ?_, ?_, ?_⟩, ?_⟩
  · exact (World.cell?_setCell_other w1 ⟨b, 2, none⟩ ⟨b, 0, none⟩ _ (by simp)).trans z0
  · exact (World.cell?_setCell_other w1 ⟨b, 2, none⟩ ⟨b, 1, none⟩ _ (by simp)).trans z1
  · exact World.cell?_setCell_same w1 ⟨b, 2, none⟩ _ z2
  · exact (World.frozen?_setCell w1 ⟨b, 2, none⟩ ⟨b, 1, none⟩ _).trans y1
  · exact (World.frozen?_setCell w1 ⟨b, 2, none⟩ ⟨b, 2, none⟩ _).trans y2
  · exact (ho1.setCell 2 _).drew

theorem rstep_no (b : Nat) (t m r ticks wish : Int) (w : World) (h : Ck.RAt w b t m r) (h0 : 0 ≤ t) (h1 : t ≤ 1099511627776) (hb : ticks < 0 ∨ 1099511627776 - t < ticks) :
    Calls Try.prog 59 #[.pointer (some ⟨b, 0, none⟩), .int .i64 ticks, .int .i64 wish] w fun e w' => e = .returned (.int .i64 2) ∧ w = w' := by
  obtain ⟨c0, c1, c2, f0, f1⟩ := h
  by_cases hn : ticks < 0
  · clear hb
    go_enter Try.func59, Try.ntmps59
    go_wp2
    go_ret
    exact ⟨rfl, rfl⟩
  · have hb' : 1099511627776 - t < ticks := by omega
    clear hb
    go_enter Try.func59, Try.ntmps59
    go_wp2
    go_ret
    exact ⟨rfl, rfl⟩
end Go.Proofs.Ytnbgilgnkedojaa
