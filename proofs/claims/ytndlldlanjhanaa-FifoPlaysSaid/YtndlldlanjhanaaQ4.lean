/- Queues of packets: New and Push. -/
import Derived.Test.YtndlldlanjhanaaQ3
namespace Go.Proofs.Ytndlldlanjhanaa
open Go.ChangeShapes Go.WideShapes Go.ChangeAt Go.RowKit
set_option linter.unusedVariables false
set_option linter.unusedSimpArgs false
open Pk BigFrame Fq

/-- A new queue. -/
def QNewP (room : Nat) (w : World) (e : Ending) (w' : World) : Prop := ∃ qb rb pk, e = .returned (.tuple #[.pointer (some ⟨qb, 0, none⟩), .int .i64 0]) ∧ QAt w' qb rb room 0 0 0 0 ∧ RingAt w' rb room pk ∧ w.heap.size ≤ qb ∧ w.heap.size ≤ rb ∧ Below w.heap.size w w'

theorem info_packet : (Try.prog.info? 25).map (fun i => (i.zero, i.size, i.bytes)) = some (some (.agg #[.int .i64 0, .int .i64 0, .int .i64 0, .slice none 0 0]), 4, 48) := by kernel_rfl

set_option maxRecDepth 100000 in
set_option maxHeartbeats 2000000 in
theorem qnew_ok (room : Nat) (w : World) (h1 : 1 ≤ room) (h2 : room ≤ 64) :
    Calls Try.prog 5 #[.int .i64 (room : Nat)] w (QNewP room w) := by
  obtain ⟨i0, hi0, hz0, hz1, hz2⟩ := info_parts info_packet
  have k1 : ¬ (room : Int) < 1 := by omega
  have k2 : ¬ (64 : Int) < (room : Int) := by omega
  go_enter Try.func5, Try.ntmps5
  go_wp2_with (at_make; refine wpList_make_full _ rfl _ _ 38 rfl w.heap.size 25 i0 _ 4 Try.underlying38 hi0 hz0 hz1 .i64 .i64 _ _ room rfl rfl rfl rfl (by rw [hz2]; omega) (by unfold maxLen; omega) (Nat.le_refl _) ?_; intro w3 hown3 hgrow3)
  have hs3 := hgrow3.size
  have hl3 := (hown3.lt w.heap.size rfl).2
  have hB3 : Below w.heap.size w w3 := (Below.refl _ _).grown hgrow3 (Nat.le_refl _) (fun k hk => by cases hk)
  have hB4 := hB3.alloc hs3 (.cells #[.slice (some ⟨w.heap.size, 0, none⟩) room room, .int .i64 0, .int .i64 0, .int .i64 0, .int .i64 0] 49)
  have hbn := (Below.refl w3.heap.size w3).alloc (Nat.le_refl _) (.cells #[.slice (some ⟨w.heap.size, 0, none⟩) room room, .int .i64 0, .int .i64 0, .int .i64 0, .int .i64 0] 49)
  go_ret2
  refine ⟨w3.heap.size, w.heap.size, fun j i => (madeCells (Value.agg #[.int .i64 0, .int .i64 0, .int .i64 0, .slice none 0 0]).cells (room * 4)).toList.getD (j * 4 + i) undef, rfl, ⟨by go_simp, by go_simp, by go_simp, by go_simp, by go_simp, fun o => by go_simp, fun o => (hbn.frozen (p := ⟨w.heap.size, o, none⟩) hl3).trans (hown3.frozenAt o), by omega, by have := hbn.size; omega, h1, h2, by omega, by omega, by omega, by omega⟩, fun j i hj hi => ?_, by omega, Nat.le_refl _, hB4⟩
  refine (hbn.cell (p := ⟨w.heap.size, j * 4 + i, none⟩) hl3).trans ((hown3.cellAt (j * 4 + i) (by omega)).trans ?_)
  have hlen := hown3.1
  rw [List.getElem?_eq_getElem (by rw [hlen]; omega)]
  simp [List.getD, List.getElem?_eq_getElem (show j * 4 + i < _ by rw [hlen]; omega)]
end Go.Proofs.Ytndlldlanjhanaa
