/-
  No cell of these rows narrows 'for every input' (looked for: loops, veiled, ifaces, maps, wideKeys, modest, calm, conditions, laid).
  DERIVED. THE GIVEN ROWS OF THIS SEAT. 4 by the template 'for every input the law returns true; each argument reads behind the call as it read before'; 0 by the template 'total and deterministic' (their statements: YtldknmcnmhdgfaaTotals.lean).
  GIVEN WITH THE SEED: the statements are not yours to turn. If you find one false, say at which input.
  Laid BY PROGRAM, IN A SANDBOX (cutbox-rows.mjs): the forced cells as the released guide's own fill.sh prints them over the translation 15ceed7e5fd43917… (all of the seat's roots in one cut). By AI agents, Wed Nov 11 2026. No macro, syntax, notation, axiom, sorry.
-/
import Derived.Test.YtldknmcnmhdgfaaChecked
import GoSem.Claim
import GoSem.ClaimJoined
import GoSem.ClaimMapViews
import Derived.JoinedTies
import Derived.KernelRfl
namespace Go.Proofs.Ytldknmcnmhdgfaa
/- THE CELL 'sum', in the pinned program and in every row, IS THE sha256 OF THE DUMP (.gsa) THAT YtldknmcnmhdgfaaProg.lean LOADS. Nothing in Lean hashes anything: it is a label: what it is worth is what the hold of that sum in a sandbox is worth. -/
noncomputable def Try.pinned : Pinned := { name := "ytldknmcnmhdgfaa", sum := "15ceed7e5fd43917ae7db3ee65b7e5f10e74d604a98501bac5b35360856f9488", checked := Try.checked }
namespace Rows
def none {H : Type} : Left H := { results := [], args := [] }

/-- 'weirlaw22.AgentRestart': WHATEVER THE INPUT: true; the input reads as it did. -/
def agentRestartSpec : ChangeSpec := { name := "agentRestart", fn := fun _ => fun
  | [d1, d2, d3, d4, d5, d6] => { results := [.lit (.bool true)], args := [d1, d2, d3, d4, d5, d6] }
  | _ => none }
def agentRestartRow : OpenClaim := { program := "ytldknmcnmhdgfaa", sum := "15ceed7e5fd43917ae7db3ee65b7e5f10e74d604a98501bac5b35360856f9488", func := "weir/weirlaw22.AgentRestart", spec := "agentRestart", unfollowed := true, recurses := true, apart := false }
def AgentRestartSaid : Prop := agentRestartRow.holds Try.pinned (OpenSpec.ofChange agentRestartSpec)

/-- ITS FALSE NEIGHBOUR: 'it returns false'. Refute it at one input. -/
def agentRestartWrong : ChangeSpec := { name := "agentRestart", fn := fun _ => fun
  | [d1, d2, d3, d4, d5, d6] => { results := [.lit (.bool false)], args := [d1, d2, d3, d4, d5, d6] }
  | _ => none }
def AgentRestartWrongFalsely : Prop := agentRestartRow.holds Try.pinned (OpenSpec.ofChange agentRestartWrong)

/-- 'weirlaw22.AgentInTime': WHATEVER THE INPUT: true; the input reads as it did. -/
def agentInTimeSpec : ChangeSpec := { name := "agentInTime", fn := fun _ => fun
  | [d1, d2, d3, d4, d5, d6] => { results := [.lit (.bool true)], args := [d1, d2, d3, d4, d5, d6] }
  | _ => none }
def agentInTimeRow : OpenClaim := { program := "ytldknmcnmhdgfaa", sum := "15ceed7e5fd43917ae7db3ee65b7e5f10e74d604a98501bac5b35360856f9488", func := "weir/weirlaw22.AgentInTime", spec := "agentInTime", unfollowed := true, recurses := true, apart := false }
def AgentInTimeSaid : Prop := agentInTimeRow.holds Try.pinned (OpenSpec.ofChange agentInTimeSpec)

/-- ITS FALSE NEIGHBOUR: 'it returns false'. Refute it at one input. -/
def agentInTimeWrong : ChangeSpec := { name := "agentInTime", fn := fun _ => fun
  | [d1, d2, d3, d4, d5, d6] => { results := [.lit (.bool false)], args := [d1, d2, d3, d4, d5, d6] }
  | _ => none }
def AgentInTimeWrongFalsely : Prop := agentInTimeRow.holds Try.pinned (OpenSpec.ofChange agentInTimeWrong)

/-- 'weirlaw22.AgentReports': WHATEVER THE INPUT: true; the input reads as it did. -/
def agentReportsSpec : ChangeSpec := { name := "agentReports", fn := fun _ => fun
  | [d1, d2] => { results := [.lit (.bool true)], args := [d1, d2] }
  | _ => none }
def agentReportsRow : OpenClaim := { program := "ytldknmcnmhdgfaa", sum := "15ceed7e5fd43917ae7db3ee65b7e5f10e74d604a98501bac5b35360856f9488", func := "weir/weirlaw22.AgentReports", spec := "agentReports", unfollowed := true, recurses := true, apart := false }
def AgentReportsSaid : Prop := agentReportsRow.holds Try.pinned (OpenSpec.ofChange agentReportsSpec)

/-- ITS FALSE NEIGHBOUR: 'it returns false'. Refute it at one input. -/
def agentReportsWrong : ChangeSpec := { name := "agentReports", fn := fun _ => fun
  | [d1, d2] => { results := [.lit (.bool false)], args := [d1, d2] }
  | _ => none }
def AgentReportsWrongFalsely : Prop := agentReportsRow.holds Try.pinned (OpenSpec.ofChange agentReportsWrong)

/-- 'weirlaw22.AgentNil': WHATEVER THE INPUT: true; the input reads as it did. -/
def agentNilSpec : ChangeSpec := { name := "agentNil", fn := fun _ => fun
  | [d] => { results := [.lit (.bool true)], args := [d] }
  | _ => none }
def agentNilRow : OpenClaim := { program := "ytldknmcnmhdgfaa", sum := "15ceed7e5fd43917ae7db3ee65b7e5f10e74d604a98501bac5b35360856f9488", func := "weir/weirlaw22.AgentNil", spec := "agentNil", unfollowed := true, recurses := true, apart := false }
def AgentNilSaid : Prop := agentNilRow.holds Try.pinned (OpenSpec.ofChange agentNilSpec)

/-- ITS FALSE NEIGHBOUR: 'it returns false'. Refute it at one input. -/
def agentNilWrong : ChangeSpec := { name := "agentNil", fn := fun _ => fun
  | [d] => { results := [.lit (.bool false)], args := [d] }
  | _ => none }
def AgentNilWrongFalsely : Prop := agentNilRow.holds Try.pinned (OpenSpec.ofChange agentNilWrong)

/- THE SECOND FORM. 'bulk': how many values and letters a reading holds, each counted each time it is reached (what is shared counts as often as it is met; a slice's spare places count too). A statement '..UptoSaid' is the law's where the arguments, and the package variables that the reading takes, are together of bulk at most 1048576: NARROWER than '..Said'. Prove '..Said' where nothing that the law and all that it calls make is longer than what came in: it says more and counts as full. Else prove '..UptoSaid'. A law counts once. -/
mutual
def uptoBulk {H : Type} : DataW H → Nat
  | .lit (.string bytes) => bytes.length + 1
  | .lit _ => 1
  | .nil => 1
  | .ptr d => uptoBulk d + 1
  | .slice elems spare => uptoBulkAll elems + uptoBulkAll spare + 1
  | .agg parts => uptoBulkAll parts + 1
  | .iface _ d => uptoBulk d + 1
  | .map entries => uptoBulkEntries entries + 1
  | .held _ => 1
def uptoBulkAll {H : Type} : List (DataW H) → Nat
  | [] => 0
  | d :: r => uptoBulk d + uptoBulkAll r
def uptoBulkEntries {H : Type} : List (Lit × DataW H) → Nat
  | [] => 0
  | x :: r => uptoBulkEntry x + uptoBulkEntries r
def uptoBulkEntry {H : Type} : Lit × DataW H → Nat
  | (.string bytes, d) => bytes.length + uptoBulk d + 1
  | (_, d) => uptoBulk d + 1
 end
def uptoSmall : (H : Type) → List (DataW H) → Bool := fun _ ds => decide (uptoBulkAll ds ≤ 1048576)
def OpenSpec.upto (s : _root_.Go.ChangeSpec) : _root_.Go.OpenSpec := { _root_.Go.OpenSpec.ofChange s with cond := some uptoSmall }

/-- 'weirlaw22.AgentRestart', WHERE WHAT IT READS IS OF BULK AT MOST 1048576: true; the input reads as it did. -/
def agentRestartUptoRow : OpenClaim := { program := "ytldknmcnmhdgfaa", sum := "15ceed7e5fd43917ae7db3ee65b7e5f10e74d604a98501bac5b35360856f9488", func := "weir/weirlaw22.AgentRestart", spec := "agentRestart", unfollowed := true, recurses := true, apart := false, narrowed := true }
def AgentRestartUptoSaid : Prop := agentRestartUptoRow.holds Try.pinned (OpenSpec.upto agentRestartSpec)

/-- 'weirlaw22.AgentInTime', WHERE WHAT IT READS IS OF BULK AT MOST 1048576: true; the input reads as it did. -/
def agentInTimeUptoRow : OpenClaim := { program := "ytldknmcnmhdgfaa", sum := "15ceed7e5fd43917ae7db3ee65b7e5f10e74d604a98501bac5b35360856f9488", func := "weir/weirlaw22.AgentInTime", spec := "agentInTime", unfollowed := true, recurses := true, apart := false, narrowed := true }
def AgentInTimeUptoSaid : Prop := agentInTimeUptoRow.holds Try.pinned (OpenSpec.upto agentInTimeSpec)

/-- 'weirlaw22.AgentReports', WHERE WHAT IT READS IS OF BULK AT MOST 1048576: true; the input reads as it did. -/
def agentReportsUptoRow : OpenClaim := { program := "ytldknmcnmhdgfaa", sum := "15ceed7e5fd43917ae7db3ee65b7e5f10e74d604a98501bac5b35360856f9488", func := "weir/weirlaw22.AgentReports", spec := "agentReports", unfollowed := true, recurses := true, apart := false, narrowed := true }
def AgentReportsUptoSaid : Prop := agentReportsUptoRow.holds Try.pinned (OpenSpec.upto agentReportsSpec)

/-- 'weirlaw22.AgentNil', WHERE WHAT IT READS IS OF BULK AT MOST 1048576: true; the input reads as it did. -/
def agentNilUptoRow : OpenClaim := { program := "ytldknmcnmhdgfaa", sum := "15ceed7e5fd43917ae7db3ee65b7e5f10e74d604a98501bac5b35360856f9488", func := "weir/weirlaw22.AgentNil", spec := "agentNil", unfollowed := true, recurses := true, apart := false, narrowed := true }
def AgentNilUptoSaid : Prop := agentNilUptoRow.holds Try.pinned (OpenSpec.upto agentNilSpec)

end Rows
end Go.Proofs.Ytldknmcnmhdgfaa
