/-
  No cell of these rows narrows 'for every input' (looked for: loops, veiled, ifaces, maps, wideKeys, modest, calm, conditions, laid).
  DERIVED. THE GIVEN ROWS OF THIS SEAT. 4 by the template 'for every input the law returns true; each argument reads behind the call as it read before'; 0 by the template 'total and deterministic' (their statements: YtbbcongfaoopcaaTotals.lean).
  GIVEN WITH THE SEED: the statements are not yours to turn. If you find one false, say at which input.
  Laid BY PROGRAM, IN A SANDBOX (cutbox-rows.mjs): the forced cells as the released guide's own fill.sh prints them over the translation 8559c0be565e235d… (all of the seat's roots in one cut). By AI agents, Wed Nov 11 2026. No macro, syntax, notation, axiom, sorry.
-/
import Derived.Test.YtbbcongfaoopcaaChecked
import GoSem.Claim
import GoSem.ClaimJoined
import GoSem.ClaimMapViews
import Derived.JoinedTies
import Derived.KernelRfl
namespace Go.Proofs.Ytbbcongfaoopcaa
/- THE CELL 'sum', in the pinned program and in every row, IS THE sha256 OF THE DUMP (.gsa) THAT YtbbcongfaoopcaaProg.lean LOADS. Nothing in Lean hashes anything: it is a label: what it is worth is what the hold of that sum in a sandbox is worth. -/
noncomputable def Try.pinned : Pinned := { name := "ytbbcongfaoopcaa", sum := "8559c0be565e235d92ea53f7cd010825166a1bac0fb781c7a90c81629a0e229f", checked := Try.checked }
namespace Rows
def none {H : Type} : Left H := { results := [], args := [] }

/-- 'weirlaw26.FairRuns': WHATEVER THE INPUT: true; the input reads as it did. -/
def fairRunsSpec : ChangeSpec := { name := "fairRuns", fn := fun _ => fun
  | [d1, d2] => { results := [.lit (.bool true)], args := [d1, d2] }
  | _ => none }
def fairRunsRow : OpenClaim := { program := "ytbbcongfaoopcaa", sum := "8559c0be565e235d92ea53f7cd010825166a1bac0fb781c7a90c81629a0e229f", func := "weir/weirlaw26.FairRuns", spec := "fairRuns", unfollowed := true, recurses := true, apart := false }
def FairRunsSaid : Prop := fairRunsRow.holds Try.pinned (OpenSpec.ofChange fairRunsSpec)

/-- ITS FALSE NEIGHBOUR: 'it returns false'. Refute it at one input. -/
def fairRunsWrong : ChangeSpec := { name := "fairRuns", fn := fun _ => fun
  | [d1, d2] => { results := [.lit (.bool false)], args := [d1, d2] }
  | _ => none }
def FairRunsWrongFalsely : Prop := fairRunsRow.holds Try.pinned (OpenSpec.ofChange fairRunsWrong)

/-- 'weirlaw26.FairAll': WHATEVER THE INPUT: true; the input reads as it did. -/
def fairAllSpec : ChangeSpec := { name := "fairAll", fn := fun _ => fun
  | [d1, d2] => { results := [.lit (.bool true)], args := [d1, d2] }
  | _ => none }
def fairAllRow : OpenClaim := { program := "ytbbcongfaoopcaa", sum := "8559c0be565e235d92ea53f7cd010825166a1bac0fb781c7a90c81629a0e229f", func := "weir/weirlaw26.FairAll", spec := "fairAll", unfollowed := true, recurses := true, apart := false }
def FairAllSaid : Prop := fairAllRow.holds Try.pinned (OpenSpec.ofChange fairAllSpec)

/-- ITS FALSE NEIGHBOUR: 'it returns false'. Refute it at one input. -/
def fairAllWrong : ChangeSpec := { name := "fairAll", fn := fun _ => fun
  | [d1, d2] => { results := [.lit (.bool false)], args := [d1, d2] }
  | _ => none }
def FairAllWrongFalsely : Prop := fairAllRow.holds Try.pinned (OpenSpec.ofChange fairAllWrong)

/-- 'weirlaw26.FairBound': WHATEVER THE INPUT: true; the input reads as it did. -/
def fairBoundSpec : ChangeSpec := { name := "fairBound", fn := fun _ => fun
  | [d1, d2, d3, d4] => { results := [.lit (.bool true)], args := [d1, d2, d3, d4] }
  | _ => none }
def fairBoundRow : OpenClaim := { program := "ytbbcongfaoopcaa", sum := "8559c0be565e235d92ea53f7cd010825166a1bac0fb781c7a90c81629a0e229f", func := "weir/weirlaw26.FairBound", spec := "fairBound", unfollowed := true, recurses := true, apart := false }
def FairBoundSaid : Prop := fairBoundRow.holds Try.pinned (OpenSpec.ofChange fairBoundSpec)

/-- ITS FALSE NEIGHBOUR: 'it returns false'. Refute it at one input. -/
def fairBoundWrong : ChangeSpec := { name := "fairBound", fn := fun _ => fun
  | [d1, d2, d3, d4] => { results := [.lit (.bool false)], args := [d1, d2, d3, d4] }
  | _ => none }
def FairBoundWrongFalsely : Prop := fairBoundRow.holds Try.pinned (OpenSpec.ofChange fairBoundWrong)

/-- 'weirlaw26.FairPicks': WHATEVER THE INPUT: true; the input reads as it did. -/
def fairPicksSpec : ChangeSpec := { name := "fairPicks", fn := fun _ => fun
  | [d1, d2] => { results := [.lit (.bool true)], args := [d1, d2] }
  | _ => none }
def fairPicksRow : OpenClaim := { program := "ytbbcongfaoopcaa", sum := "8559c0be565e235d92ea53f7cd010825166a1bac0fb781c7a90c81629a0e229f", func := "weir/weirlaw26.FairPicks", spec := "fairPicks", unfollowed := true, recurses := true, apart := false }
def FairPicksSaid : Prop := fairPicksRow.holds Try.pinned (OpenSpec.ofChange fairPicksSpec)

/-- ITS FALSE NEIGHBOUR: 'it returns false'. Refute it at one input. -/
def fairPicksWrong : ChangeSpec := { name := "fairPicks", fn := fun _ => fun
  | [d1, d2] => { results := [.lit (.bool false)], args := [d1, d2] }
  | _ => none }
def FairPicksWrongFalsely : Prop := fairPicksRow.holds Try.pinned (OpenSpec.ofChange fairPicksWrong)

/- THE SECOND FORM. 'bulk': how many values and letters a reading holds, each counted each time it is reached (what is shared counts as often as it is met; a slice's spare places count too). A statement '..UptoSaid' is the law's where the arguments, and the package variables that the reading takes, are together of bulk at most 1048576: NARROWER than '..Said'. Prove '..Said' where nothing that the law and all that it calls make is longer than what came in: it says more and counts as full. Else prove '..UptoSaid'. A law counts once. -/
mutual
def uptoBulk {H : Type} : DataW H → Nat
  | .lit (.string bytes) => bytes.length + 1
  | .lit _ => 1
  | .nil => 1
  | .ptr d => uptoBulk d + 1
  | .slice elems spare => uptoBulkAll elems + uptoBulkAll spare + 1
  | .agg parts => uptoBulkAll parts + 1
  | .iface _ d => uptoBulk d + 1
  | .map entries => uptoBulkEntries entries + 1
  | .held _ => 1
def uptoBulkAll {H : Type} : List (DataW H) → Nat
  | [] => 0
  | d :: r => uptoBulk d + uptoBulkAll r
def uptoBulkEntries {H : Type} : List (Lit × DataW H) → Nat
  | [] => 0
  | x :: r => uptoBulkEntry x + uptoBulkEntries r
def uptoBulkEntry {H : Type} : Lit × DataW H → Nat
  | (.string bytes, d) => bytes.length + uptoBulk d + 1
  | (_, d) => uptoBulk d + 1
 end
def uptoSmall : (H : Type) → List (DataW H) → Bool := fun _ ds => decide (uptoBulkAll ds ≤ 1048576)
def OpenSpec.upto (s : _root_.Go.ChangeSpec) : _root_.Go.OpenSpec := { _root_.Go.OpenSpec.ofChange s with cond := some uptoSmall }

/-- 'weirlaw26.FairRuns', WHERE WHAT IT READS IS OF BULK AT MOST 1048576: true; the input reads as it did. -/
def fairRunsUptoRow : OpenClaim := { program := "ytbbcongfaoopcaa", sum := "8559c0be565e235d92ea53f7cd010825166a1bac0fb781c7a90c81629a0e229f", func := "weir/weirlaw26.FairRuns", spec := "fairRuns", unfollowed := true, recurses := true, apart := false, narrowed := true }
def FairRunsUptoSaid : Prop := fairRunsUptoRow.holds Try.pinned (OpenSpec.upto fairRunsSpec)

/-- 'weirlaw26.FairAll', WHERE WHAT IT READS IS OF BULK AT MOST 1048576: true; the input reads as it did. -/
def fairAllUptoRow : OpenClaim := { program := "ytbbcongfaoopcaa", sum := "8559c0be565e235d92ea53f7cd010825166a1bac0fb781c7a90c81629a0e229f", func := "weir/weirlaw26.FairAll", spec := "fairAll", unfollowed := true, recurses := true, apart := false, narrowed := true }
def FairAllUptoSaid : Prop := fairAllUptoRow.holds Try.pinned (OpenSpec.upto fairAllSpec)

/-- 'weirlaw26.FairBound', WHERE WHAT IT READS IS OF BULK AT MOST 1048576: true; the input reads as it did. -/
def fairBoundUptoRow : OpenClaim := { program := "ytbbcongfaoopcaa", sum := "8559c0be565e235d92ea53f7cd010825166a1bac0fb781c7a90c81629a0e229f", func := "weir/weirlaw26.FairBound", spec := "fairBound", unfollowed := true, recurses := true, apart := false, narrowed := true }
def FairBoundUptoSaid : Prop := fairBoundUptoRow.holds Try.pinned (OpenSpec.upto fairBoundSpec)

/-- 'weirlaw26.FairPicks', WHERE WHAT IT READS IS OF BULK AT MOST 1048576: true; the input reads as it did. -/
def fairPicksUptoRow : OpenClaim := { program := "ytbbcongfaoopcaa", sum := "8559c0be565e235d92ea53f7cd010825166a1bac0fb781c7a90c81629a0e229f", func := "weir/weirlaw26.FairPicks", spec := "fairPicks", unfollowed := true, recurses := true, apart := false, narrowed := true }
def FairPicksUptoSaid : Prop := fairPicksUptoRow.holds Try.pinned (OpenSpec.upto fairPicksSpec)

end Rows
end Go.Proofs.Ytbbcongfaoopcaa
