/- The walk of ConfTells at its arguments. -/
import Derived.Test.YtgmbhbhjlhpbgaaConfTells
namespace Go.Proofs.Ytgmbhbhjlhpbgaa
open Go.ChangeShapes Go.WideShapes Go.ChangeAt Go.RowKit
set_option linter.unusedVariables false
theorem confTells_walk (w : World) (a0 a1 a2 a3 : Int) (w0 : (Lit.int .u8 a0).wf = true) (w1 : (Lit.int .u8 a1).wf = true) (w2 : (Lit.int .i64 a2).wf = true) (w3 : (Lit.int .i64 a3).wf = true) :
    Calls Try.prog 3 #[.int .u8 a0, .int .u8 a1, .int .i64 a2, .int .i64 a3] w fun e w' => e = .returned (.bool true) ∧ Below w.heap.size w w' := by
  obtain ⟨s, hs, rfl⟩ := u8_nat w0
  obtain ⟨b, hb, rfl⟩ := u8_nat w1
  exact tells_h w s b a2 a3 hs hb
end Go.Proofs.Ytgmbhbhjlhpbgaa
