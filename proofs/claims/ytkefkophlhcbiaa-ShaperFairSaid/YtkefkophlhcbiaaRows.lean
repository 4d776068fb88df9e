/-
  No cell of these rows narrows 'for every input' (looked for: loops, veiled, ifaces, maps, wideKeys, modest, calm, conditions, laid).
  DERIVED. THE GIVEN ROWS OF THIS SEAT. 3 by the template 'for every input the law returns true; each argument reads behind the call as it read before'; 0 by the template 'total and deterministic' (their statements: YtkefkophlhcbiaaTotals.lean).
  GIVEN WITH THE SEED: the statements are not yours to turn. If you find one false, say at which input.
  Laid BY PROGRAM, IN A SANDBOX (cutbox-rows.mjs): the forced cells as the released guide's own fill.sh prints them over the translation 408b3787b7800b9b… (all of the seat's roots in one cut). By AI agents, Wed Nov 11 2026. No macro, syntax, notation, axiom, sorry.
-/
import Derived.Test.YtkefkophlhcbiaaChecked
import GoSem.Claim
import GoSem.ClaimJoined
import GoSem.ClaimMapViews
import Derived.JoinedTies
import Derived.KernelRfl
namespace Go.Proofs.Ytkefkophlhcbiaa
/- THE CELL 'sum', in the pinned program and in every row, IS THE sha256 OF THE DUMP (.gsa) THAT YtkefkophlhcbiaaProg.lean LOADS. Nothing in Lean hashes anything: it is a label: what it is worth is what the hold of that sum in a sandbox is worth. -/
noncomputable def Try.pinned : Pinned := { name := "ytkefkophlhcbiaa", sum := "408b3787b7800b9bee54e3c1cdad19b6458bb5ddcd0c38ba2141bb01c8592d49", checked := Try.checked }
namespace Rows
def none {H : Type} : Left H := { results := [], args := [] }

/-- 'weirlaw27.ShaperFair': WHATEVER THE INPUT: true; the input reads as it did. -/
def shaperFairSpec : ChangeSpec := { name := "shaperFair", fn := fun _ => fun
  | [d1, d2, d3] => { results := [.lit (.bool true)], args := [d1, d2, d3] }
  | _ => none }
def shaperFairRow : OpenClaim := { program := "ytkefkophlhcbiaa", sum := "408b3787b7800b9bee54e3c1cdad19b6458bb5ddcd0c38ba2141bb01c8592d49", func := "weir/weirlaw27.ShaperFair", spec := "shaperFair", unfollowed := true, recurses := true, apart := false }
def ShaperFairSaid : Prop := shaperFairRow.holds Try.pinned (OpenSpec.ofChange shaperFairSpec)

/-- ITS FALSE NEIGHBOUR: 'it returns false'. Refute it at one input. -/
def shaperFairWrong : ChangeSpec := { name := "shaperFair", fn := fun _ => fun
  | [d1, d2, d3] => { results := [.lit (.bool false)], args := [d1, d2, d3] }
  | _ => none }
def ShaperFairWrongFalsely : Prop := shaperFairRow.holds Try.pinned (OpenSpec.ofChange shaperFairWrong)

/-- 'weirlaw27.ShaperWhole': WHATEVER THE INPUT: true; the input reads as it did. -/
def shaperWholeSpec : ChangeSpec := { name := "shaperWhole", fn := fun _ => fun
  | [d1, d2] => { results := [.lit (.bool true)], args := [d1, d2] }
  | _ => none }
def shaperWholeRow : OpenClaim := { program := "ytkefkophlhcbiaa", sum := "408b3787b7800b9bee54e3c1cdad19b6458bb5ddcd0c38ba2141bb01c8592d49", func := "weir/weirlaw27.ShaperWhole", spec := "shaperWhole", unfollowed := true, recurses := true, apart := false }
def ShaperWholeSaid : Prop := shaperWholeRow.holds Try.pinned (OpenSpec.ofChange shaperWholeSpec)

/-- ITS FALSE NEIGHBOUR: 'it returns false'. Refute it at one input. -/
def shaperWholeWrong : ChangeSpec := { name := "shaperWhole", fn := fun _ => fun
  | [d1, d2] => { results := [.lit (.bool false)], args := [d1, d2] }
  | _ => none }
def ShaperWholeWrongFalsely : Prop := shaperWholeRow.holds Try.pinned (OpenSpec.ofChange shaperWholeWrong)

/-- 'weirlaw27.ShaperNil': WHATEVER THE INPUT: true; the input reads as it did. -/
def shaperNilSpec : ChangeSpec := { name := "shaperNil", fn := fun _ => fun
  | [d] => { results := [.lit (.bool true)], args := [d] }
  | _ => none }
def shaperNilRow : OpenClaim := { program := "ytkefkophlhcbiaa", sum := "408b3787b7800b9bee54e3c1cdad19b6458bb5ddcd0c38ba2141bb01c8592d49", func := "weir/weirlaw27.ShaperNil", spec := "shaperNil", unfollowed := true, recurses := true, apart := false }
def ShaperNilSaid : Prop := shaperNilRow.holds Try.pinned (OpenSpec.ofChange shaperNilSpec)

/-- ITS FALSE NEIGHBOUR: 'it returns false'. Refute it at one input. -/
def shaperNilWrong : ChangeSpec := { name := "shaperNil", fn := fun _ => fun
  | [d] => { results := [.lit (.bool false)], args := [d] }
  | _ => none }
def ShaperNilWrongFalsely : Prop := shaperNilRow.holds Try.pinned (OpenSpec.ofChange shaperNilWrong)

/- THE SECOND FORM. 'bulk': how many values and letters a reading holds, each counted each time it is reached (what is shared counts as often as it is met; a slice's spare places count too). A statement '..UptoSaid' is the law's where the arguments, and the package variables that the reading takes, are together of bulk at most 1048576: NARROWER than '..Said'. Prove '..Said' where nothing that the law and all that it calls make is longer than what came in: it says more and counts as full. Else prove '..UptoSaid'. A law counts once. -/
mutual
def uptoBulk {H : Type} : DataW H → Nat
  | .lit (.string bytes) => bytes.length + 1
  | .lit _ => 1
  | .nil => 1
  | .ptr d => uptoBulk d + 1
  | .slice elems spare => uptoBulkAll elems + uptoBulkAll spare + 1
  | .agg parts => uptoBulkAll parts + 1
  | .iface _ d => uptoBulk d + 1
  | .map entries => uptoBulkEntries entries + 1
  | .held _ => 1
def uptoBulkAll {H : Type} : List (DataW H) → Nat
  | [] => 0
  | d :: r => uptoBulk d + uptoBulkAll r
def uptoBulkEntries {H : Type} : List (Lit × DataW H) → Nat
  | [] => 0
  | x :: r => uptoBulkEntry x + uptoBulkEntries r
def uptoBulkEntry {H : Type} : Lit × DataW H → Nat
  | (.string bytes, d) => bytes.length + uptoBulk d + 1
  | (_, d) => uptoBulk d + 1
 end
def uptoSmall : (H : Type) → List (DataW H) → Bool := fun _ ds => decide (uptoBulkAll ds ≤ 1048576)
def OpenSpec.upto (s : _root_.Go.ChangeSpec) : _root_.Go.OpenSpec := { _root_.Go.OpenSpec.ofChange s with cond := some uptoSmall }

/-- 'weirlaw27.ShaperFair', WHERE WHAT IT READS IS OF BULK AT MOST 1048576: true; the input reads as it did. -/
def shaperFairUptoRow : OpenClaim := { program := "ytkefkophlhcbiaa", sum := "408b3787b7800b9bee54e3c1cdad19b6458bb5ddcd0c38ba2141bb01c8592d49", func := "weir/weirlaw27.ShaperFair", spec := "shaperFair", unfollowed := true, recurses := true, apart := false, narrowed := true }
def ShaperFairUptoSaid : Prop := shaperFairUptoRow.holds Try.pinned (OpenSpec.upto shaperFairSpec)

/-- 'weirlaw27.ShaperWhole', WHERE WHAT IT READS IS OF BULK AT MOST 1048576: true; the input reads as it did. -/
def shaperWholeUptoRow : OpenClaim := { program := "ytkefkophlhcbiaa", sum := "408b3787b7800b9bee54e3c1cdad19b6458bb5ddcd0c38ba2141bb01c8592d49", func := "weir/weirlaw27.ShaperWhole", spec := "shaperWhole", unfollowed := true, recurses := true, apart := false, narrowed := true }
def ShaperWholeUptoSaid : Prop := shaperWholeUptoRow.holds Try.pinned (OpenSpec.upto shaperWholeSpec)

/-- 'weirlaw27.ShaperNil', WHERE WHAT IT READS IS OF BULK AT MOST 1048576: true; the input reads as it did. -/
def shaperNilUptoRow : OpenClaim := { program := "ytkefkophlhcbiaa", sum := "408b3787b7800b9bee54e3c1cdad19b6458bb5ddcd0c38ba2141bb01c8592d49", func := "weir/weirlaw27.ShaperNil", spec := "shaperNil", unfollowed := true, recurses := true, apart := false, narrowed := true }
def ShaperNilUptoSaid : Prop := shaperNilUptoRow.holds Try.pinned (OpenSpec.upto shaperNilSpec)

end Rows
end Go.Proofs.Ytkefkophlhcbiaa
