/- The walk of VoteCounts. -/
import Derived.Test.YthahlfabcjnkhaaHard10
import Derived.Deep.RegionHeld3
namespace Go.Proofs.Ythahlfabcjnkhaa
open Go.ChangeShapes Go.WideShapes Go.ChangeAt Go.RowKit
set_option linter.unusedVariables false
set_option linter.unusedSimpArgs false
open Vt

set_option maxRecDepth 100000 in
set_option maxHeartbeats 3200000 in
theorem counts_h (w : World) (t v b term : Int) (s y : Nat) (hs : s < 256) (hy : y < 256) (base draw : Int) :
    Calls Try.prog 15 #[.agg #[.int .i64 t, .int .i64 v, .int .i64 b], .int .i64 term, .int .u8 s, .int .u8 y, .int .i64 base, .int .i64 draw] w fun e w' => e = .returned (.bool true) ∧ Below w.heap.size w w' := by
  obtain ⟨q, hq⟩ : ∃ q, RowKit.Hid (decide (B7.cnt s 7 < 2 * B7.cnt (s &&& y) 7) = q) := ⟨_, Lib.hid rfl⟩
  obtain ⟨T, hT⟩ : ∃ T, RowKit.Hid (riseT t term = T) := ⟨_, Lib.hid rfl⟩
  obtain ⟨V, hV⟩ : ∃ V, RowKit.Hid (riseV t v term = V) := ⟨_, Lib.hid rfl⟩
  obtain ⟨n, hn⟩ : ∃ n, RowKit.Hid (timeF base draw = n) := ⟨_, Lib.hid rfl⟩
  have hb := ((Below.refl w.heap.size w).alloc (Nat.le_refl _) (.cells #[.int .i64 t, .int .i64 v, .int .i64 b] 53)).drew
  have hE : ((w.alloc (.cells #[.int .i64 t, .int .i64 v, .int .i64 b] 53)).drew).cell? ⟨w.heap.size, 0, none⟩ = some (.int .i64 t) ∧ ((w.alloc (.cells #[.int .i64 t, .int .i64 v, .int .i64 b] 53)).drew).cell? ⟨w.heap.size, 1, none⟩ = some (.int .i64 v) ∧ ((w.alloc (.cells #[.int .i64 t, .int .i64 v, .int .i64 b] 53)).drew).cell? ⟨w.heap.size, 2, none⟩ = some (.int .i64 b) ∧ Below w.heap.size w ((w.alloc (.cells #[.int .i64 t, .int .i64 v, .int .i64 b] 53)).drew) := ⟨by go_simp, by go_simp, by go_simp, hb⟩
  go_enter Try.func15, Try.ntmps15
  go_wp2
  go_region_held3 (fun u => u.cell? ⟨w.heap.size, 0, none⟩ = some (.int .i64 t) ∧ u.cell? ⟨w.heap.size, 1, none⟩ = some (.int .i64 v) ∧ u.cell? ⟨w.heap.size, 2, none⟩ = some (.int .i64 b) ∧ Below w.heap.size w u) (first | assumption | exact conj3_below (by assumption) (by assumption))
    (first
      | (go_at_call 54; refine (rise_c _ _ _ _ _).mono ?_; rw [hT.out, hV.out]; rintro e w2 ⟨rfl, hb2⟩)
      | (go_at_call 55; refine (rrise_c _ _ _ _ _).mono ?_; rw [hT.out, hV.out]; rintro e w2 ⟨rfl, hb2⟩)
      | (go_at_call 48; refine (count_c s y hs hy _).mono ?_; rw [hq.out]; rintro e w2 ⟨rfl, rfl⟩)
      | (go_at_call 56; refine (rcount_c s y hs hy _).mono ?_; rw [hq.out]; rintro e w2 ⟨rfl, rfl⟩)
      | (go_at_call 44; refine (timeout_c _ _ _).mono ?_; rw [hn.out]; rintro e w2 ⟨rfl, rfl⟩)
      | (go_at_call 57; refine (rtimeout_c _ _ _).mono ?_; rw [hn.out]; rintro e w2 ⟨rfl, rfl⟩)
      | (go_at_call 33; refine (wakes10_c _).mono ?_; rintro e w2 ⟨rfl, hb2⟩))
  all_goals
    go_wp2
    go_ret
    exact ⟨rfl, (conj3_out (by assumption))⟩

theorem voteCounts_walk (w : World) (v0 : Value) (a0 : XT_Hard) (a1 a2 a3 a4 a5 : Int) (w0 : Is_Hard w v0 a0) (w1 : (Lit.int .i64 a1).wf = true) (w2 : (Lit.int .u8 a2).wf = true) (w3 : (Lit.int .u8 a3).wf = true) (w4 : (Lit.int .i64 a4).wf = true) (w5 : (Lit.int .i64 a5).wf = true) :
    Calls Try.prog 15 #[v0, .int .i64 a1, .int .u8 a2, .int .u8 a3, .int .i64 a4, .int .i64 a5] w fun e w' => e = .returned (.bool true) ∧ Below w.heap.size w w' := by
  obtain ⟨rfl, _⟩ := w0
  obtain ⟨s, hs, rfl⟩ := u8_nat w2
  obtain ⟨y, hy, rfl⟩ := u8_nat w3
  exact counts_h w a0.t a0.v a0.b a1 s y hs hy a4 a5
end Go.Proofs.Ythahlfabcjnkhaa
