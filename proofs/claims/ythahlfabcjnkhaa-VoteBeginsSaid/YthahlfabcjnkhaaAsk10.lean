/- The contract of the law's own 'ask' of layer 10. -/
import Derived.Test.YthahlfabcjnkhaaRows10
namespace Go.Proofs.Ythahlfabcjnkhaa
open Go.ChangeShapes Go.WideShapes Go.ChangeAt Go.RowKit
set_option linter.unusedVariables false
set_option linter.unusedSimpArgs false
open Rw Vt R10

def askMsg (term index last : Int) : Msg := ⟨1, 2, 0, term, index, last, 0, false, .slice none 0 0, 0, 0, 0, .slice none 0 0, .slice none 0 0⟩

set_option maxRecDepth 100000 in
set_option maxHeartbeats 1600000 in
theorem ask10_c (term index last : Int) (w : World) :
    Calls Try.prog 87 #[.int .i64 term, .int .i64 index, .int .i64 last] w fun e w' => e = .returned (askMsg term index last).val ∧ Below w.heap.size w w' := by
  go_enter Try.func87, Try.ntmps87
  go_wp2
  refine bodyPost_ret (v := (askMsg term index last).val) (by simp [results, Try.results87, go_sem, askMsg, Msg.val]) rfl ⟨rfl, ?_⟩
  repeat (first | (with_reducible exact (Below.refl _ _)) | (with_reducible refine Below.setCell ?_ (by simp) _) | (with_reducible refine Below.alloc ?_ (by simp) _))
end Go.Proofs.Ythahlfabcjnkhaa
