/- The walk of VirtualEligible, of whatever comes in. -/
import Derived.Test.YthahlfabcjnkhaaVE
namespace Go.Proofs.Ythahlfabcjnkhaa
open Go.ChangeShapes Go.WideShapes Go.ChangeAt Go.RowKit
set_option linter.unusedVariables false
open BigFrame Vr Pk Fq

theorem virtualEligible_walk (w : World) (v0 : Value) (a0 : XT_Virtual) (v1 : Value) (a1 : XT_Lbool) (a2 a3 a4 : Int) (w0 : Is_Virtual w v0 a0) (w1 : Is_Lbool w v1 a1) (w2 : (Lit.int .i64 a2).wf = true) (w3 : (Lit.int .i64 a3).wf = true) (w4 : (Lit.int .i64 a4).wf = true) :
    Calls Try.prog 6 #[v0, v1, .int .i64 a2, .int .i64 a3, .int .i64 a4] w fun e w' => e = .returned (.bool true) ∧ Below w.heap.size w w' := by
  obtain ⟨rfl, _, p1, p2, T, _⟩ := w0
  obtain ⟨rfl, q1, q2, BR⟩ := w1
  by_cases h : 50 < a0.n ∨ ¬ VOk a0.V a0.n a0.S a0.F
  · exact velig_no w a0.V a0.a a1.a a0.b a0.off a0.n a0.cap a1.n a1.cap a0.S a0.F a2 a3 a4 T h
  · have hv : VOk a0.V a0.n a0.S a0.F := Classical.byContradiction fun q => h (.inr q)
    exact velig_ok w a0.V a0.a a1.a a0.b a0.off a0.n a0.cap a1.n a1.cap a1.b a1.off a0.S a0.F a1.R a2 a3 a4 T BR (by omega) hv
end Go.Proofs.Ythahlfabcjnkhaa
