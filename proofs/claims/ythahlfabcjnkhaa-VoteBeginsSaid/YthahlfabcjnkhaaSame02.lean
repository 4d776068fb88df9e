/- The contract of weirref02.Same at messages that bear nothing. -/
import Derived.Test.YthahlfabcjnkhaaArgs10
import Derived.Laws.BytesArg
namespace Go.Proofs.Ythahlfabcjnkhaa
open Go.ChangeShapes Go.WideShapes Go.ChangeAt Go.RowKit
set_option linter.unusedVariables false
set_option linter.unusedSimpArgs false
open Rw Vt

theorem conv_nil (u : World) : Sem.run Try.prog (convert 23 9 (.slice none 0 0)) u = .ok (.string ByteArray.empty) u := run_convert_bytes_nil u 23 5 Try.underlying23 Try.underlying5 0 0 9 Try.underlying9
attribute [local go_sem] conv_nil

set_option maxRecDepth 100000 in
set_option maxHeartbeats 1600000 in
theorem sameEntries_nil (w : World) : Calls Try.prog 98 #[.slice none 0 0, .slice none 0 0] w fun e w' => e = .returned (.bool true) ∧ w = w' := by
  go_enter Try.func98, Try.ntmps98
  go_wp2
  go_loopw [5] (fun i wr => i = .int .i64 0 ∧ w = wr) (fun _ _ => 0)
  case atStart => exact ⟨rfl, rfl⟩
  case round =>
    obtain ⟨rfl, rfl⟩ := hrel
    go_wp2
    go_ret
    exact ⟨rfl, rfl⟩
set_option maxRecDepth 100000 in
set_option maxHeartbeats 1600000 in
theorem sameSnap_zero (w : World) : Calls Try.prog 99 #[.agg #[.int .i64 0, .int .i64 0, .int .u8 0, .slice none 0 0], .agg #[.int .i64 0, .int .i64 0, .int .u8 0, .slice none 0 0]] w fun e w' => e = .returned (.bool true) ∧ Below w.heap.size w w' := by
  go_enter Try.func99, Try.ntmps99
  go_wp2
  go_ret
  exact ⟨rfl, ((Below.refl w.heap.size w).alloc (Nat.le_refl _) _).alloc (by simp) _⟩

/-- A message without entries, without a snapshot and without data. -/
def bare (k f t tm i l c : Int) (ok : Bool) : Msg := ⟨k, f, t, tm, i, l, c, ok, .slice none 0 0, 0, 0, 0, .slice none 0 0, .slice none 0 0⟩
set_option maxRecDepth 100000 in
set_option maxHeartbeats 3200000 in
theorem same_bare (k f t tm i l c : Int) (ok : Bool) (w : World) :
    Calls Try.prog 36 #[(bare k f t tm i l c ok).val, (bare k f t tm i l c ok).val] w fun e w' => e = .returned (.bool true) ∧ Below w.heap.size w w' := by
  unfold bare Msg.val
  go_enter Try.func36, Try.ntmps36
  go_wp2_with (first | (go_at_call 98; refine (sameEntries_nil _).mono ?_; rintro e w' ⟨rfl, rfl⟩) | (go_at_call 99; refine (sameSnap_zero _).mono ?_; rintro e w2 ⟨rfl, hb2⟩; have hc := (hb2.cell (p := ⟨w.heap.size, 13, none⟩) (by simp; omega)).trans (show _ = some (Value.slice none 0 0) by go_simp); have hd := (hb2.cell (p := ⟨w.heap.size + 1, 13, none⟩) (by simp)).trans (show _ = some (Value.slice none 0 0) by go_simp)))
  all_goals go_ret
  all_goals exact ⟨rfl, (((Below.refl w.heap.size w).alloc (Nat.le_refl _) _).alloc (by simp) _).trans (hb2.mono (by simp; omega))⟩
end Go.Proofs.Ythahlfabcjnkhaa
