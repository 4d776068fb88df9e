/-
  No cell of these rows narrows 'for every input' (looked for: loops, veiled, ifaces, maps, wideKeys, modest, calm, conditions, laid).
  DERIVED. THE GIVEN ROWS OF THIS SEAT. 4 by the template 'for every input the law returns true; each argument reads behind the call as it read before'; 0 by the template 'total and deterministic' (their statements: YtnokojobiaddmaaTotals.lean).
  GIVEN WITH THE SEED: the statements are not yours to turn. If you find one false, say at which input.
  Laid BY PROGRAM, IN A SANDBOX (cutbox-rows.mjs): the forced cells as the released guide's own fill.sh prints them over the translation 851b350895d348d9… (all of the seat's roots in one cut). By AI agents, Wed Nov 11 2026. No macro, syntax, notation, axiom, sorry.
-/
import Derived.Test.YtnokojobiaddmaaChecked
import GoSem.Claim
import GoSem.ClaimJoined
import GoSem.ClaimMapViews
import Derived.JoinedTies
import Derived.KernelRfl
namespace Go.Proofs.Ytnokojobiaddmaa
/- THE CELL 'sum', in the pinned program and in every row, IS THE sha256 OF THE DUMP (.gsa) THAT YtnokojobiaddmaaProg.lean LOADS. Nothing in Lean hashes anything: it is a label: what it is worth is what the hold of that sum in a sandbox is worth. -/
noncomputable def Try.pinned : Pinned := { name := "ytnokojobiaddmaa", sum := "851b350895d348d9fffd248ef0b58e025cfea91bb85f10184b4455dc01987e7b", checked := Try.checked }
namespace Rows
def none {H : Type} : Left H := { results := [], args := [] }

/-- 'weirlaw02.AirOrder': WHATEVER THE INPUT: true; the input reads as it did. -/
def airOrderSpec : ChangeSpec := { name := "airOrder", fn := fun _ => fun
  | [d1, d2] => { results := [.lit (.bool true)], args := [d1, d2] }
  | _ => none }
def airOrderRow : OpenClaim := { program := "ytnokojobiaddmaa", sum := "851b350895d348d9fffd248ef0b58e025cfea91bb85f10184b4455dc01987e7b", func := "weir/weirlaw02.AirOrder", spec := "airOrder", unfollowed := true, recurses := true, plainKeys := false, apart := false }
def AirOrderSaid : Prop := airOrderRow.holds Try.pinned (OpenSpec.ofChange airOrderSpec)

/-- ITS FALSE NEIGHBOUR: 'it returns false'. Refute it at one input. -/
def airOrderWrong : ChangeSpec := { name := "airOrder", fn := fun _ => fun
  | [d1, d2] => { results := [.lit (.bool false)], args := [d1, d2] }
  | _ => none }
def AirOrderWrongFalsely : Prop := airOrderRow.holds Try.pinned (OpenSpec.ofChange airOrderWrong)

/-- 'weirlaw02.AirCuts': WHATEVER THE INPUT: true; the input reads as it did. -/
def airCutsSpec : ChangeSpec := { name := "airCuts", fn := fun _ => fun
  | [d1, d2, d3] => { results := [.lit (.bool true)], args := [d1, d2, d3] }
  | _ => none }
def airCutsRow : OpenClaim := { program := "ytnokojobiaddmaa", sum := "851b350895d348d9fffd248ef0b58e025cfea91bb85f10184b4455dc01987e7b", func := "weir/weirlaw02.AirCuts", spec := "airCuts", unfollowed := true, recurses := true, plainKeys := false, apart := false }
def AirCutsSaid : Prop := airCutsRow.holds Try.pinned (OpenSpec.ofChange airCutsSpec)

/-- ITS FALSE NEIGHBOUR: 'it returns false'. Refute it at one input. -/
def airCutsWrong : ChangeSpec := { name := "airCuts", fn := fun _ => fun
  | [d1, d2, d3] => { results := [.lit (.bool false)], args := [d1, d2, d3] }
  | _ => none }
def AirCutsWrongFalsely : Prop := airCutsRow.holds Try.pinned (OpenSpec.ofChange airCutsWrong)

/-- 'weirlaw02.AirFull': WHATEVER THE INPUT: true; the input reads as it did. -/
def airFullSpec : ChangeSpec := { name := "airFull", fn := fun _ => fun
  | [d1, d2] => { results := [.lit (.bool true)], args := [d1, d2] }
  | _ => none }
def airFullRow : OpenClaim := { program := "ytnokojobiaddmaa", sum := "851b350895d348d9fffd248ef0b58e025cfea91bb85f10184b4455dc01987e7b", func := "weir/weirlaw02.AirFull", spec := "airFull", unfollowed := true, recurses := true, plainKeys := false, apart := false }
def AirFullSaid : Prop := airFullRow.holds Try.pinned (OpenSpec.ofChange airFullSpec)

/-- ITS FALSE NEIGHBOUR: 'it returns false'. Refute it at one input. -/
def airFullWrong : ChangeSpec := { name := "airFull", fn := fun _ => fun
  | [d1, d2] => { results := [.lit (.bool false)], args := [d1, d2] }
  | _ => none }
def AirFullWrongFalsely : Prop := airFullRow.holds Try.pinned (OpenSpec.ofChange airFullWrong)

/-- 'weirlaw02.AirPlays': WHATEVER THE INPUT: true; the input reads as it did. -/
def airPlaysSpec : ChangeSpec := { name := "airPlays", fn := fun _ => fun
  | [d] => { results := [.lit (.bool true)], args := [d] }
  | _ => none }
def airPlaysRow : OpenClaim := { program := "ytnokojobiaddmaa", sum := "851b350895d348d9fffd248ef0b58e025cfea91bb85f10184b4455dc01987e7b", func := "weir/weirlaw02.AirPlays", spec := "airPlays", unfollowed := true, recurses := true, plainKeys := false, apart := false }
def AirPlaysSaid : Prop := airPlaysRow.holds Try.pinned (OpenSpec.ofChange airPlaysSpec)

/-- ITS FALSE NEIGHBOUR: 'it returns false'. Refute it at one input. -/
def airPlaysWrong : ChangeSpec := { name := "airPlays", fn := fun _ => fun
  | [d] => { results := [.lit (.bool false)], args := [d] }
  | _ => none }
def AirPlaysWrongFalsely : Prop := airPlaysRow.holds Try.pinned (OpenSpec.ofChange airPlaysWrong)

/- THE SECOND FORM. 'bulk': how many values and letters a reading holds, each counted each time it is reached (what is shared counts as often as it is met; a slice's spare places count too). A statement '..UptoSaid' is the law's where the arguments, and the package variables that the reading takes, are together of bulk at most 1048576: NARROWER than '..Said'. Prove '..Said' where nothing that the law and all that it calls make is longer than what came in: it says more and counts as full. Else prove '..UptoSaid'. A law counts once. -/
mutual
def uptoBulk {H : Type} : DataW H → Nat
  | .lit (.string bytes) => bytes.length + 1
  | .lit _ => 1
  | .nil => 1
  | .ptr d => uptoBulk d + 1
  | .slice elems spare => uptoBulkAll elems + uptoBulkAll spare + 1
  | .agg parts => uptoBulkAll parts + 1
  | .iface _ d => uptoBulk d + 1
  | .map entries => uptoBulkEntries entries + 1
  | .held _ => 1
def uptoBulkAll {H : Type} : List (DataW H) → Nat
  | [] => 0
  | d :: r => uptoBulk d + uptoBulkAll r
def uptoBulkEntries {H : Type} : List (Lit × DataW H) → Nat
  | [] => 0
  | x :: r => uptoBulkEntry x + uptoBulkEntries r
def uptoBulkEntry {H : Type} : Lit × DataW H → Nat
  | (.string bytes, d) => bytes.length + uptoBulk d + 1
  | (_, d) => uptoBulk d + 1
 end
def uptoSmall : (H : Type) → List (DataW H) → Bool := fun _ ds => decide (uptoBulkAll ds ≤ 1048576)
def OpenSpec.upto (s : _root_.Go.ChangeSpec) : _root_.Go.OpenSpec := { _root_.Go.OpenSpec.ofChange s with cond := some uptoSmall }

/-- 'weirlaw02.AirOrder', WHERE WHAT IT READS IS OF BULK AT MOST 1048576: true; the input reads as it did. -/
def airOrderUptoRow : OpenClaim := { program := "ytnokojobiaddmaa", sum := "851b350895d348d9fffd248ef0b58e025cfea91bb85f10184b4455dc01987e7b", func := "weir/weirlaw02.AirOrder", spec := "airOrder", unfollowed := true, recurses := true, plainKeys := false, apart := false, narrowed := true }
def AirOrderUptoSaid : Prop := airOrderUptoRow.holds Try.pinned (OpenSpec.upto airOrderSpec)

/-- 'weirlaw02.AirCuts', WHERE WHAT IT READS IS OF BULK AT MOST 1048576: true; the input reads as it did. -/
def airCutsUptoRow : OpenClaim := { program := "ytnokojobiaddmaa", sum := "851b350895d348d9fffd248ef0b58e025cfea91bb85f10184b4455dc01987e7b", func := "weir/weirlaw02.AirCuts", spec := "airCuts", unfollowed := true, recurses := true, plainKeys := false, apart := false, narrowed := true }
def AirCutsUptoSaid : Prop := airCutsUptoRow.holds Try.pinned (OpenSpec.upto airCutsSpec)

/-- 'weirlaw02.AirFull', WHERE WHAT IT READS IS OF BULK AT MOST 1048576: true; the input reads as it did. -/
def airFullUptoRow : OpenClaim := { program := "ytnokojobiaddmaa", sum := "851b350895d348d9fffd248ef0b58e025cfea91bb85f10184b4455dc01987e7b", func := "weir/weirlaw02.AirFull", spec := "airFull", unfollowed := true, recurses := true, plainKeys := false, apart := false, narrowed := true }
def AirFullUptoSaid : Prop := airFullUptoRow.holds Try.pinned (OpenSpec.upto airFullSpec)

/-- 'weirlaw02.AirPlays', WHERE WHAT IT READS IS OF BULK AT MOST 1048576: true; the input reads as it did. -/
def airPlaysUptoRow : OpenClaim := { program := "ytnokojobiaddmaa", sum := "851b350895d348d9fffd248ef0b58e025cfea91bb85f10184b4455dc01987e7b", func := "weir/weirlaw02.AirPlays", spec := "airPlays", unfollowed := true, recurses := true, plainKeys := false, apart := false, narrowed := true }
def AirPlaysUptoSaid : Prop := airPlaysUptoRow.holds Try.pinned (OpenSpec.upto airPlaysSpec)

end Rows
end Go.Proofs.Ytnokojobiaddmaa
