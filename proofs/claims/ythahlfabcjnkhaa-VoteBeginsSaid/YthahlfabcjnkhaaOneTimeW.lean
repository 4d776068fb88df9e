/- The walks of VoteOne and VoteTimeout, with the law's own 'wakes'. -/
import Derived.Test.YthahlfabcjnkhaaOneTime10
import Derived.Test.YthahlfabcjnkhaaWakes10
namespace Go.Proofs.Ythahlfabcjnkhaa
open Go.ChangeShapes Go.WideShapes Go.ChangeAt Go.RowKit
set_option linter.unusedVariables false
set_option linter.unusedSimpArgs false

theorem wk10 : Wk10 := wakes10_c
theorem u8_nat {a : Int} (h : (Lit.int .u8 a).wf = true) : ∃ n : Nat, n < 256 ∧ a = (n : Int) := by
  simp [Lit.wf, IntKind.min, IntKind.max, IntKind.bits, IntKind.signed] at h
  exact ⟨a.toNat, by omega, by omega⟩
theorem i64_in {a : Int} (h : (Lit.int .i64 a).wf = true) : -9223372036854775808 ≤ a ∧ a ≤ 9223372036854775807 := by
  simp [Lit.wf, IntKind.min, IntKind.max, IntKind.bits, IntKind.signed] at h
  omega
theorem voteOne_walk (w : World) (a0 a1 a2 : Int) (w0 : (Lit.int .u8 a0).wf = true) (w1 : (Lit.int .u8 a1).wf = true) (w2 : (Lit.int .u8 a2).wf = true) :
    Calls Try.prog 13 #[.int .u8 a0, .int .u8 a1, .int .u8 a2] w fun e w' => e = .returned (.bool true) ∧ Below w.heap.size w w' := by
  obtain ⟨s, hs, rfl⟩ := u8_nat w0
  obtain ⟨a, ha, rfl⟩ := u8_nat w1
  obtain ⟨b, hb, rfl⟩ := u8_nat w2
  exact voteOne_h wk10 w s a b hs ha hb
theorem voteTimeout_walk (w : World) (a0 a1 : Int) (w0 : (Lit.int .i64 a0).wf = true) (w1 : (Lit.int .i64 a1).wf = true) :
    Calls Try.prog 11 #[.int .i64 a0, .int .i64 a1] w fun e w' => e = .returned (.bool true) ∧ Below w.heap.size w w' :=
  voteTimeout_h wk10 w a0 a1 (i64_in w1).1 (i64_in w1).2
end Go.Proofs.Ythahlfabcjnkhaa
