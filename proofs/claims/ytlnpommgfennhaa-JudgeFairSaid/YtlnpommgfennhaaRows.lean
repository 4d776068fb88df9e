/-
  No cell of these rows narrows 'for every input' (looked for: loops, veiled, ifaces, maps, wideKeys, modest, calm, conditions, laid).
  DERIVED. THE GIVEN ROWS OF THIS SEAT. 5 by the template 'for every input the law returns true; each argument reads behind the call as it read before'; 0 by the template 'total and deterministic' (their statements: YtlnpommgfennhaaTotals.lean).
  GIVEN WITH THE SEED: the statements are not yours to turn. If you find one false, say at which input.
  Laid BY PROGRAM, IN A SANDBOX (cutbox-rows.mjs): the forced cells as the released guide's own fill.sh prints them over the translation 1de2c9f7a579b9b6… (all of the seat's roots in one cut). By AI agents, Wed Nov 11 2026. No macro, syntax, notation, axiom, sorry.
-/
import Derived.Test.YtlnpommgfennhaaChecked
import GoSem.Claim
import GoSem.ClaimJoined
import GoSem.ClaimMapViews
import Derived.JoinedTies
import Derived.KernelRfl
namespace Go.Proofs.Ytlnpommgfennhaa
/- THE CELL 'sum', in the pinned program and in every row, IS THE sha256 OF THE DUMP (.gsa) THAT YtlnpommgfennhaaProg.lean LOADS. Nothing in Lean hashes anything: it is a label: what it is worth is what the hold of that sum in a sandbox is worth. -/
noncomputable def Try.pinned : Pinned := { name := "ytlnpommgfennhaa", sum := "1de2c9f7a579b9b679f4994e9765f7a885bfa9906a54de37d43f6511c71be937", checked := Try.checked }
namespace Rows
def none {H : Type} : Left H := { results := [], args := [] }

/-- 'weirlaw30.JudgeKept': WHATEVER THE INPUT: true; the input reads as it did. -/
def judgeKeptSpec : ChangeSpec := { name := "judgeKept", fn := fun _ => fun
  | [d1, d2, d3] => { results := [.lit (.bool true)], args := [d1, d2, d3] }
  | _ => none }
def judgeKeptRow : OpenClaim := { program := "ytlnpommgfennhaa", sum := "1de2c9f7a579b9b679f4994e9765f7a885bfa9906a54de37d43f6511c71be937", func := "weir/weirlaw30.JudgeKept", spec := "judgeKept", unfollowed := true, recurses := true, apart := false }
def JudgeKeptSaid : Prop := judgeKeptRow.holds Try.pinned (OpenSpec.ofChange judgeKeptSpec)

/-- ITS FALSE NEIGHBOUR: 'it returns false'. Refute it at one input. -/
def judgeKeptWrong : ChangeSpec := { name := "judgeKept", fn := fun _ => fun
  | [d1, d2, d3] => { results := [.lit (.bool false)], args := [d1, d2, d3] }
  | _ => none }
def JudgeKeptWrongFalsely : Prop := judgeKeptRow.holds Try.pinned (OpenSpec.ofChange judgeKeptWrong)

/-- 'weirlaw30.JudgeAll': WHATEVER THE INPUT: true; the input reads as it did. -/
def judgeAllSpec : ChangeSpec := { name := "judgeAll", fn := fun _ => fun
  | [d1, d2, d3, d4, d5, d6, d7, d8] => { results := [.lit (.bool true)], args := [d1, d2, d3, d4, d5, d6, d7, d8] }
  | _ => none }
def judgeAllRow : OpenClaim := { program := "ytlnpommgfennhaa", sum := "1de2c9f7a579b9b679f4994e9765f7a885bfa9906a54de37d43f6511c71be937", func := "weir/weirlaw30.JudgeAll", spec := "judgeAll", unfollowed := true, recurses := true, apart := false }
def JudgeAllSaid : Prop := judgeAllRow.holds Try.pinned (OpenSpec.ofChange judgeAllSpec)

/-- ITS FALSE NEIGHBOUR: 'it returns false'. Refute it at one input. -/
def judgeAllWrong : ChangeSpec := { name := "judgeAll", fn := fun _ => fun
  | [d1, d2, d3, d4, d5, d6, d7, d8] => { results := [.lit (.bool false)], args := [d1, d2, d3, d4, d5, d6, d7, d8] }
  | _ => none }
def JudgeAllWrongFalsely : Prop := judgeAllRow.holds Try.pinned (OpenSpec.ofChange judgeAllWrong)

/-- 'weirlaw30.JudgeSums': WHATEVER THE INPUT: true; the input reads as it did. -/
def judgeSumsSpec : ChangeSpec := { name := "judgeSums", fn := fun _ => fun
  | [d1, d2, d3, d4, d5, d6, d7] => { results := [.lit (.bool true)], args := [d1, d2, d3, d4, d5, d6, d7] }
  | _ => none }
def judgeSumsRow : OpenClaim := { program := "ytlnpommgfennhaa", sum := "1de2c9f7a579b9b679f4994e9765f7a885bfa9906a54de37d43f6511c71be937", func := "weir/weirlaw30.JudgeSums", spec := "judgeSums", unfollowed := true, recurses := true, apart := false }
def JudgeSumsSaid : Prop := judgeSumsRow.holds Try.pinned (OpenSpec.ofChange judgeSumsSpec)

/-- ITS FALSE NEIGHBOUR: 'it returns false'. Refute it at one input. -/
def judgeSumsWrong : ChangeSpec := { name := "judgeSums", fn := fun _ => fun
  | [d1, d2, d3, d4, d5, d6, d7] => { results := [.lit (.bool false)], args := [d1, d2, d3, d4, d5, d6, d7] }
  | _ => none }
def JudgeSumsWrongFalsely : Prop := judgeSumsRow.holds Try.pinned (OpenSpec.ofChange judgeSumsWrong)

/-- 'weirlaw30.JudgeFair': WHATEVER THE INPUT: true; the input reads as it did. -/
def judgeFairSpec : ChangeSpec := { name := "judgeFair", fn := fun _ => fun
  | [d1, d2, d3, d4, d5] => { results := [.lit (.bool true)], args := [d1, d2, d3, d4, d5] }
  | _ => none }
def judgeFairRow : OpenClaim := { program := "ytlnpommgfennhaa", sum := "1de2c9f7a579b9b679f4994e9765f7a885bfa9906a54de37d43f6511c71be937", func := "weir/weirlaw30.JudgeFair", spec := "judgeFair", unfollowed := true, recurses := true, apart := false }
def JudgeFairSaid : Prop := judgeFairRow.holds Try.pinned (OpenSpec.ofChange judgeFairSpec)

/-- ITS FALSE NEIGHBOUR: 'it returns false'. Refute it at one input. -/
def judgeFairWrong : ChangeSpec := { name := "judgeFair", fn := fun _ => fun
  | [d1, d2, d3, d4, d5] => { results := [.lit (.bool false)], args := [d1, d2, d3, d4, d5] }
  | _ => none }
def JudgeFairWrongFalsely : Prop := judgeFairRow.holds Try.pinned (OpenSpec.ofChange judgeFairWrong)

/-- 'weirlaw30.JudgeWhole': WHATEVER THE INPUT: true; the input reads as it did. -/
def judgeWholeSpec : ChangeSpec := { name := "judgeWhole", fn := fun _ => fun
  | [d1, d2, d3, d4] => { results := [.lit (.bool true)], args := [d1, d2, d3, d4] }
  | _ => none }
def judgeWholeRow : OpenClaim := { program := "ytlnpommgfennhaa", sum := "1de2c9f7a579b9b679f4994e9765f7a885bfa9906a54de37d43f6511c71be937", func := "weir/weirlaw30.JudgeWhole", spec := "judgeWhole", unfollowed := true, recurses := true, apart := false }
def JudgeWholeSaid : Prop := judgeWholeRow.holds Try.pinned (OpenSpec.ofChange judgeWholeSpec)

/-- ITS FALSE NEIGHBOUR: 'it returns false'. Refute it at one input. -/
def judgeWholeWrong : ChangeSpec := { name := "judgeWhole", fn := fun _ => fun
  | [d1, d2, d3, d4] => { results := [.lit (.bool false)], args := [d1, d2, d3, d4] }
  | _ => none }
def JudgeWholeWrongFalsely : Prop := judgeWholeRow.holds Try.pinned (OpenSpec.ofChange judgeWholeWrong)

/- THE SECOND FORM. 'bulk': how many values and letters a reading holds, each counted each time it is reached (what is shared counts as often as it is met; a slice's spare places count too). A statement '..UptoSaid' is the law's where the arguments, and the package variables that the reading takes, are together of bulk at most 1048576: NARROWER than '..Said'. Prove '..Said' where nothing that the law and all that it calls make is longer than what came in: it says more and counts as full. Else prove '..UptoSaid'. A law counts once. -/
mutual
def uptoBulk {H : Type} : DataW H → Nat
  | .lit (.string bytes) => bytes.length + 1
  | .lit _ => 1
  | .nil => 1
  | .ptr d => uptoBulk d + 1
  | .slice elems spare => uptoBulkAll elems + uptoBulkAll spare + 1
  | .agg parts => uptoBulkAll parts + 1
  | .iface _ d => uptoBulk d + 1
  | .map entries => uptoBulkEntries entries + 1
  | .held _ => 1
def uptoBulkAll {H : Type} : List (DataW H) → Nat
  | [] => 0
  | d :: r => uptoBulk d + uptoBulkAll r
def uptoBulkEntries {H : Type} : List (Lit × DataW H) → Nat
  | [] => 0
  | x :: r => uptoBulkEntry x + uptoBulkEntries r
def uptoBulkEntry {H : Type} : Lit × DataW H → Nat
  | (.string bytes, d) => bytes.length + uptoBulk d + 1
  | (_, d) => uptoBulk d + 1
 end
def uptoSmall : (H : Type) → List (DataW H) → Bool := fun _ ds => decide (uptoBulkAll ds ≤ 1048576)
def OpenSpec.upto (s : _root_.Go.ChangeSpec) : _root_.Go.OpenSpec := { _root_.Go.OpenSpec.ofChange s with cond := some uptoSmall }

/-- 'weirlaw30.JudgeKept', WHERE WHAT IT READS IS OF BULK AT MOST 1048576: true; the input reads as it did. -/
def judgeKeptUptoRow : OpenClaim := { program := "ytlnpommgfennhaa", sum := "1de2c9f7a579b9b679f4994e9765f7a885bfa9906a54de37d43f6511c71be937", func := "weir/weirlaw30.JudgeKept", spec := "judgeKept", unfollowed := true, recurses := true, apart := false, narrowed := true }
def JudgeKeptUptoSaid : Prop := judgeKeptUptoRow.holds Try.pinned (OpenSpec.upto judgeKeptSpec)

/-- 'weirlaw30.JudgeAll', WHERE WHAT IT READS IS OF BULK AT MOST 1048576: true; the input reads as it did. -/
def judgeAllUptoRow : OpenClaim := { program := "ytlnpommgfennhaa", sum := "1de2c9f7a579b9b679f4994e9765f7a885bfa9906a54de37d43f6511c71be937", func := "weir/weirlaw30.JudgeAll", spec := "judgeAll", unfollowed := true, recurses := true, apart := false, narrowed := true }
def JudgeAllUptoSaid : Prop := judgeAllUptoRow.holds Try.pinned (OpenSpec.upto judgeAllSpec)

/-- 'weirlaw30.JudgeSums', WHERE WHAT IT READS IS OF BULK AT MOST 1048576: true; the input reads as it did. -/
def judgeSumsUptoRow : OpenClaim := { program := "ytlnpommgfennhaa", sum := "1de2c9f7a579b9b679f4994e9765f7a885bfa9906a54de37d43f6511c71be937", func := "weir/weirlaw30.JudgeSums", spec := "judgeSums", unfollowed := true, recurses := true, apart := false, narrowed := true }
def JudgeSumsUptoSaid : Prop := judgeSumsUptoRow.holds Try.pinned (OpenSpec.upto judgeSumsSpec)

/-- 'weirlaw30.JudgeFair', WHERE WHAT IT READS IS OF BULK AT MOST 1048576: true; the input reads as it did. -/
def judgeFairUptoRow : OpenClaim := { program := "ytlnpommgfennhaa", sum := "1de2c9f7a579b9b679f4994e9765f7a885bfa9906a54de37d43f6511c71be937", func := "weir/weirlaw30.JudgeFair", spec := "judgeFair", unfollowed := true, recurses := true, apart := false, narrowed := true }
def JudgeFairUptoSaid : Prop := judgeFairUptoRow.holds Try.pinned (OpenSpec.upto judgeFairSpec)

/-- 'weirlaw30.JudgeWhole', WHERE WHAT IT READS IS OF BULK AT MOST 1048576: true; the input reads as it did. -/
def judgeWholeUptoRow : OpenClaim := { program := "ytlnpommgfennhaa", sum := "1de2c9f7a579b9b679f4994e9765f7a885bfa9906a54de37d43f6511c71be937", func := "weir/weirlaw30.JudgeWhole", spec := "judgeWhole", unfollowed := true, recurses := true, apart := false, narrowed := true }
def JudgeWholeUptoSaid : Prop := judgeWholeUptoRow.holds Try.pinned (OpenSpec.upto judgeWholeSpec)

end Rows
end Go.Proofs.Ytlnpommgfennhaa
