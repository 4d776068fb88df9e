/-
  No cell of these rows narrows 'for every input' (looked for: loops, veiled, ifaces, maps, wideKeys, modest, calm, conditions, laid).
  DERIVED. THE GIVEN ROWS OF THIS SEAT. 10 by the template 'for every input the law returns true; each argument reads behind the call as it read before'; 0 by the template 'total and deterministic' (their statements: YtgmbhbhjlhpbgaaTotals.lean).
  GIVEN WITH THE SEED: the statements are not yours to turn. If you find one false, say at which input.
  Laid BY PROGRAM, IN A SANDBOX (cutbox-rows.mjs): the forced cells as the released guide's own fill.sh prints them over the translation 9709ec135a44d2ed… (all of the seat's roots in one cut). By AI agents, Wed Nov 11 2026. No macro, syntax, notation, axiom, sorry.
-/
import Derived.Test.YtgmbhbhjlhpbgaaChecked
import GoSem.Claim
import GoSem.ClaimJoined
import GoSem.ClaimMapViews
import Derived.JoinedTies
import Derived.KernelRfl
namespace Go.Proofs.Ytgmbhbhjlhpbgaa
/- THE CELL 'sum', in the pinned program and in every row, IS THE sha256 OF THE DUMP (.gsa) THAT YtgmbhbhjlhpbgaaProg.lean LOADS. Nothing in Lean hashes anything: it is a label: what it is worth is what the hold of that sum in a sandbox is worth. -/
noncomputable def Try.pinned : Pinned := { name := "ytgmbhbhjlhpbgaa", sum := "9709ec135a44d2edabff2bc440de708ae80e6e3dcfe86cf9466dad9722095df7", checked := Try.checked }
namespace Rows
def none {H : Type} : Left H := { results := [], args := [] }

/-- 'weirlaw12.ConfTells': WHATEVER THE INPUT: true; the input reads as it did. -/
def confTellsSpec : ChangeSpec := { name := "confTells", fn := fun _ => fun
  | [d1, d2, d3, d4] => { results := [.lit (.bool true)], args := [d1, d2, d3, d4] }
  | _ => none }
def confTellsRow : OpenClaim := { program := "ytgmbhbhjlhpbgaa", sum := "9709ec135a44d2edabff2bc440de708ae80e6e3dcfe86cf9466dad9722095df7", func := "weir/weirlaw12.ConfTells", spec := "confTells", unfollowed := true, recurses := true, apart := false }
def ConfTellsSaid : Prop := confTellsRow.holds Try.pinned (OpenSpec.ofChange confTellsSpec)

/-- ITS FALSE NEIGHBOUR: 'it returns false'. Refute it at one input. -/
def confTellsWrong : ChangeSpec := { name := "confTells", fn := fun _ => fun
  | [d1, d2, d3, d4] => { results := [.lit (.bool false)], args := [d1, d2, d3, d4] }
  | _ => none }
def ConfTellsWrongFalsely : Prop := confTellsRow.holds Try.pinned (OpenSpec.ofChange confTellsWrong)

/-- 'weirlaw16.BucketMoves': WHATEVER THE INPUT: true; the input reads as it did. -/
def bucketMovesSpec : ChangeSpec := { name := "bucketMoves", fn := fun _ => fun
  | [d1, d2, d3, d4, d5, d6] => { results := [.lit (.bool true)], args := [d1, d2, d3, d4, d5, d6] }
  | _ => none }
def bucketMovesRow : OpenClaim := { program := "ytgmbhbhjlhpbgaa", sum := "9709ec135a44d2edabff2bc440de708ae80e6e3dcfe86cf9466dad9722095df7", func := "weir/weirlaw16.BucketMoves", spec := "bucketMoves", unfollowed := true, recurses := true, apart := false }
def BucketMovesSaid : Prop := bucketMovesRow.holds Try.pinned (OpenSpec.ofChange bucketMovesSpec)

/-- ITS FALSE NEIGHBOUR: 'it returns false'. Refute it at one input. -/
def bucketMovesWrong : ChangeSpec := { name := "bucketMoves", fn := fun _ => fun
  | [d1, d2, d3, d4, d5, d6] => { results := [.lit (.bool false)], args := [d1, d2, d3, d4, d5, d6] }
  | _ => none }
def BucketMovesWrongFalsely : Prop := bucketMovesRow.holds Try.pinned (OpenSpec.ofChange bucketMovesWrong)

/-- 'weirlaw16.BucketTells': WHATEVER THE INPUT: true; the input reads as it did. -/
def bucketTellsSpec : ChangeSpec := { name := "bucketTells", fn := fun _ => fun
  | [d1, d2, d3, d4] => { results := [.lit (.bool true)], args := [d1, d2, d3, d4] }
  | _ => none }
def bucketTellsRow : OpenClaim := { program := "ytgmbhbhjlhpbgaa", sum := "9709ec135a44d2edabff2bc440de708ae80e6e3dcfe86cf9466dad9722095df7", func := "weir/weirlaw16.BucketTells", spec := "bucketTells", unfollowed := true, recurses := true, apart := false }
def BucketTellsSaid : Prop := bucketTellsRow.holds Try.pinned (OpenSpec.ofChange bucketTellsSpec)

/-- ITS FALSE NEIGHBOUR: 'it returns false'. Refute it at one input. -/
def bucketTellsWrong : ChangeSpec := { name := "bucketTells", fn := fun _ => fun
  | [d1, d2, d3, d4] => { results := [.lit (.bool false)], args := [d1, d2, d3, d4] }
  | _ => none }
def BucketTellsWrongFalsely : Prop := bucketTellsRow.holds Try.pinned (OpenSpec.ofChange bucketTellsWrong)

/-- 'weirlaw16.BucketCap': WHATEVER THE INPUT: true; the input reads as it did. -/
def bucketCapSpec : ChangeSpec := { name := "bucketCap", fn := fun _ => fun
  | [d1, d2, d3, d4, d5, d6, d7] => { results := [.lit (.bool true)], args := [d1, d2, d3, d4, d5, d6, d7] }
  | _ => none }
def bucketCapRow : OpenClaim := { program := "ytgmbhbhjlhpbgaa", sum := "9709ec135a44d2edabff2bc440de708ae80e6e3dcfe86cf9466dad9722095df7", func := "weir/weirlaw16.BucketCap", spec := "bucketCap", unfollowed := true, recurses := true, apart := false }
def BucketCapSaid : Prop := bucketCapRow.holds Try.pinned (OpenSpec.ofChange bucketCapSpec)

/-- ITS FALSE NEIGHBOUR: 'it returns false'. Refute it at one input. -/
def bucketCapWrong : ChangeSpec := { name := "bucketCap", fn := fun _ => fun
  | [d1, d2, d3, d4, d5, d6, d7] => { results := [.lit (.bool false)], args := [d1, d2, d3, d4, d5, d6, d7] }
  | _ => none }
def BucketCapWrongFalsely : Prop := bucketCapRow.holds Try.pinned (OpenSpec.ofChange bucketCapWrong)

/-- 'weirlaw16.BucketStretch': WHATEVER THE INPUT: true; the input reads as it did. -/
def bucketStretchSpec : ChangeSpec := { name := "bucketStretch", fn := fun _ => fun
  | [d1, d2, d3, d4, d5] => { results := [.lit (.bool true)], args := [d1, d2, d3, d4, d5] }
  | _ => none }
def bucketStretchRow : OpenClaim := { program := "ytgmbhbhjlhpbgaa", sum := "9709ec135a44d2edabff2bc440de708ae80e6e3dcfe86cf9466dad9722095df7", func := "weir/weirlaw16.BucketStretch", spec := "bucketStretch", unfollowed := true, recurses := true, apart := false }
def BucketStretchSaid : Prop := bucketStretchRow.holds Try.pinned (OpenSpec.ofChange bucketStretchSpec)

/-- ITS FALSE NEIGHBOUR: 'it returns false'. Refute it at one input. -/
def bucketStretchWrong : ChangeSpec := { name := "bucketStretch", fn := fun _ => fun
  | [d1, d2, d3, d4, d5] => { results := [.lit (.bool false)], args := [d1, d2, d3, d4, d5] }
  | _ => none }
def BucketStretchWrongFalsely : Prop := bucketStretchRow.holds Try.pinned (OpenSpec.ofChange bucketStretchWrong)

/-- 'weirlaw16.BucketReturns': WHATEVER THE INPUT: true; the input reads as it did. -/
def bucketReturnsSpec : ChangeSpec := { name := "bucketReturns", fn := fun _ => fun
  | [d1, d2, d3, d4] => { results := [.lit (.bool true)], args := [d1, d2, d3, d4] }
  | _ => none }
def bucketReturnsRow : OpenClaim := { program := "ytgmbhbhjlhpbgaa", sum := "9709ec135a44d2edabff2bc440de708ae80e6e3dcfe86cf9466dad9722095df7", func := "weir/weirlaw16.BucketReturns", spec := "bucketReturns", unfollowed := true, recurses := true, apart := false }
def BucketReturnsSaid : Prop := bucketReturnsRow.holds Try.pinned (OpenSpec.ofChange bucketReturnsSpec)

/-- ITS FALSE NEIGHBOUR: 'it returns false'. Refute it at one input. -/
def bucketReturnsWrong : ChangeSpec := { name := "bucketReturns", fn := fun _ => fun
  | [d1, d2, d3, d4] => { results := [.lit (.bool false)], args := [d1, d2, d3, d4] }
  | _ => none }
def BucketReturnsWrongFalsely : Prop := bucketReturnsRow.holds Try.pinned (OpenSpec.ofChange bucketReturnsWrong)

/-- 'weirlaw12.ConfChanges': WHATEVER THE INPUT: true; the input reads as it did. -/
def confChangesSpec : ChangeSpec := { name := "confChanges", fn := fun _ => fun
  | [d1, d2] => { results := [.lit (.bool true)], args := [d1, d2] }
  | _ => none }
def confChangesRow : OpenClaim := { program := "ytgmbhbhjlhpbgaa", sum := "9709ec135a44d2edabff2bc440de708ae80e6e3dcfe86cf9466dad9722095df7", func := "weir/weirlaw12.ConfChanges", spec := "confChanges", unfollowed := true, recurses := true, apart := false }
def ConfChangesSaid : Prop := confChangesRow.holds Try.pinned (OpenSpec.ofChange confChangesSpec)

/-- ITS FALSE NEIGHBOUR: 'it returns false'. Refute it at one input. -/
def confChangesWrong : ChangeSpec := { name := "confChanges", fn := fun _ => fun
  | [d1, d2] => { results := [.lit (.bool false)], args := [d1, d2] }
  | _ => none }
def ConfChangesWrongFalsely : Prop := confChangesRow.holds Try.pinned (OpenSpec.ofChange confChangesWrong)

/-- 'weirlaw12.ConfOne': WHATEVER THE INPUT: true; the input reads as it did. -/
def confOneSpec : ChangeSpec := { name := "confOne", fn := fun _ => fun
  | [d1, d2, d3, d4] => { results := [.lit (.bool true)], args := [d1, d2, d3, d4] }
  | _ => none }
def confOneRow : OpenClaim := { program := "ytgmbhbhjlhpbgaa", sum := "9709ec135a44d2edabff2bc440de708ae80e6e3dcfe86cf9466dad9722095df7", func := "weir/weirlaw12.ConfOne", spec := "confOne", unfollowed := true, recurses := true, apart := false }
def ConfOneSaid : Prop := confOneRow.holds Try.pinned (OpenSpec.ofChange confOneSpec)

/-- ITS FALSE NEIGHBOUR: 'it returns false'. Refute it at one input. -/
def confOneWrong : ChangeSpec := { name := "confOne", fn := fun _ => fun
  | [d1, d2, d3, d4] => { results := [.lit (.bool false)], args := [d1, d2, d3, d4] }
  | _ => none }
def ConfOneWrongFalsely : Prop := confOneRow.holds Try.pinned (OpenSpec.ofChange confOneWrong)

/-- 'weirlaw12.ConfSizes': WHATEVER THE INPUT: true; the input reads as it did. -/
def confSizesSpec : ChangeSpec := { name := "confSizes", fn := fun _ => fun
  | [d1, d2] => { results := [.lit (.bool true)], args := [d1, d2] }
  | _ => none }
def confSizesRow : OpenClaim := { program := "ytgmbhbhjlhpbgaa", sum := "9709ec135a44d2edabff2bc440de708ae80e6e3dcfe86cf9466dad9722095df7", func := "weir/weirlaw12.ConfSizes", spec := "confSizes", unfollowed := true, recurses := true, apart := false }
def ConfSizesSaid : Prop := confSizesRow.holds Try.pinned (OpenSpec.ofChange confSizesSpec)

/-- ITS FALSE NEIGHBOUR: 'it returns false'. Refute it at one input. -/
def confSizesWrong : ChangeSpec := { name := "confSizes", fn := fun _ => fun
  | [d1, d2] => { results := [.lit (.bool false)], args := [d1, d2] }
  | _ => none }
def ConfSizesWrongFalsely : Prop := confSizesRow.holds Try.pinned (OpenSpec.ofChange confSizesWrong)

/-- 'weirlaw12.ConfLatest': WHATEVER THE INPUT: true; the input reads as it did. -/
def confLatestSpec : ChangeSpec := { name := "confLatest", fn := fun _ => fun
  | [d1, d2, d3, d4] => { results := [.lit (.bool true)], args := [d1, d2, d3, d4] }
  | _ => none }
def confLatestRow : OpenClaim := { program := "ytgmbhbhjlhpbgaa", sum := "9709ec135a44d2edabff2bc440de708ae80e6e3dcfe86cf9466dad9722095df7", func := "weir/weirlaw12.ConfLatest", spec := "confLatest", unfollowed := true, recurses := true, apart := false }
def ConfLatestSaid : Prop := confLatestRow.holds Try.pinned (OpenSpec.ofChange confLatestSpec)

/-- ITS FALSE NEIGHBOUR: 'it returns false'. Refute it at one input. -/
def confLatestWrong : ChangeSpec := { name := "confLatest", fn := fun _ => fun
  | [d1, d2, d3, d4] => { results := [.lit (.bool false)], args := [d1, d2, d3, d4] }
  | _ => none }
def ConfLatestWrongFalsely : Prop := confLatestRow.holds Try.pinned (OpenSpec.ofChange confLatestWrong)

/- THE SECOND FORM. 'bulk': how many values and letters a reading holds, each counted each time it is reached (what is shared counts as often as it is met; a slice's spare places count too). A statement '..UptoSaid' is the law's where the arguments, and the package variables that the reading takes, are together of bulk at most 1048576: NARROWER than '..Said'. Prove '..Said' where nothing that the law and all that it calls make is longer than what came in: it says more and counts as full. Else prove '..UptoSaid'. A law counts once. -/
mutual
def uptoBulk {H : Type} : DataW H → Nat
  | .lit (.string bytes) => bytes.length + 1
  | .lit _ => 1
  | .nil => 1
  | .ptr d => uptoBulk d + 1
  | .slice elems spare => uptoBulkAll elems + uptoBulkAll spare + 1
  | .agg parts => uptoBulkAll parts + 1
  | .iface _ d => uptoBulk d + 1
  | .map entries => uptoBulkEntries entries + 1
  | .held _ => 1
def uptoBulkAll {H : Type} : List (DataW H) → Nat
  | [] => 0
  | d :: r => uptoBulk d + uptoBulkAll r
def uptoBulkEntries {H : Type} : List (Lit × DataW H) → Nat
  | [] => 0
  | x :: r => uptoBulkEntry x + uptoBulkEntries r
def uptoBulkEntry {H : Type} : Lit × DataW H → Nat
  | (.string bytes, d) => bytes.length + uptoBulk d + 1
  | (_, d) => uptoBulk d + 1
 end
def uptoSmall : (H : Type) → List (DataW H) → Bool := fun _ ds => decide (uptoBulkAll ds ≤ 1048576)
def OpenSpec.upto (s : _root_.Go.ChangeSpec) : _root_.Go.OpenSpec := { _root_.Go.OpenSpec.ofChange s with cond := some uptoSmall }

/-- 'weirlaw12.ConfTells', WHERE WHAT IT READS IS OF BULK AT MOST 1048576: true; the input reads as it did. -/
def confTellsUptoRow : OpenClaim := { program := "ytgmbhbhjlhpbgaa", sum := "9709ec135a44d2edabff2bc440de708ae80e6e3dcfe86cf9466dad9722095df7", func := "weir/weirlaw12.ConfTells", spec := "confTells", unfollowed := true, recurses := true, apart := false, narrowed := true }
def ConfTellsUptoSaid : Prop := confTellsUptoRow.holds Try.pinned (OpenSpec.upto confTellsSpec)

/-- 'weirlaw16.BucketMoves', WHERE WHAT IT READS IS OF BULK AT MOST 1048576: true; the input reads as it did. -/
def bucketMovesUptoRow : OpenClaim := { program := "ytgmbhbhjlhpbgaa", sum := "9709ec135a44d2edabff2bc440de708ae80e6e3dcfe86cf9466dad9722095df7", func := "weir/weirlaw16.BucketMoves", spec := "bucketMoves", unfollowed := true, recurses := true, apart := false, narrowed := true }
def BucketMovesUptoSaid : Prop := bucketMovesUptoRow.holds Try.pinned (OpenSpec.upto bucketMovesSpec)

/-- 'weirlaw16.BucketTells', WHERE WHAT IT READS IS OF BULK AT MOST 1048576: true; the input reads as it did. -/
def bucketTellsUptoRow : OpenClaim := { program := "ytgmbhbhjlhpbgaa", sum := "9709ec135a44d2edabff2bc440de708ae80e6e3dcfe86cf9466dad9722095df7", func := "weir/weirlaw16.BucketTells", spec := "bucketTells", unfollowed := true, recurses := true, apart := false, narrowed := true }
def BucketTellsUptoSaid : Prop := bucketTellsUptoRow.holds Try.pinned (OpenSpec.upto bucketTellsSpec)

/-- 'weirlaw16.BucketCap', WHERE WHAT IT READS IS OF BULK AT MOST 1048576: true; the input reads as it did. -/
def bucketCapUptoRow : OpenClaim := { program := "ytgmbhbhjlhpbgaa", sum := "9709ec135a44d2edabff2bc440de708ae80e6e3dcfe86cf9466dad9722095df7", func := "weir/weirlaw16.BucketCap", spec := "bucketCap", unfollowed := true, recurses := true, apart := false, narrowed := true }
def BucketCapUptoSaid : Prop := bucketCapUptoRow.holds Try.pinned (OpenSpec.upto bucketCapSpec)

/-- 'weirlaw16.BucketStretch', WHERE WHAT IT READS IS OF BULK AT MOST 1048576: true; the input reads as it did. -/
def bucketStretchUptoRow : OpenClaim := { program := "ytgmbhbhjlhpbgaa", sum := "9709ec135a44d2edabff2bc440de708ae80e6e3dcfe86cf9466dad9722095df7", func := "weir/weirlaw16.BucketStretch", spec := "bucketStretch", unfollowed := true, recurses := true, apart := false, narrowed := true }
def BucketStretchUptoSaid : Prop := bucketStretchUptoRow.holds Try.pinned (OpenSpec.upto bucketStretchSpec)

/-- 'weirlaw16.BucketReturns', WHERE WHAT IT READS IS OF BULK AT MOST 1048576: true; the input reads as it did. -/
def bucketReturnsUptoRow : OpenClaim := { program := "ytgmbhbhjlhpbgaa", sum := "9709ec135a44d2edabff2bc440de708ae80e6e3dcfe86cf9466dad9722095df7", func := "weir/weirlaw16.BucketReturns", spec := "bucketReturns", unfollowed := true, recurses := true, apart := false, narrowed := true }
def BucketReturnsUptoSaid : Prop := bucketReturnsUptoRow.holds Try.pinned (OpenSpec.upto bucketReturnsSpec)

/-- 'weirlaw12.ConfChanges', WHERE WHAT IT READS IS OF BULK AT MOST 1048576: true; the input reads as it did. -/
def confChangesUptoRow : OpenClaim := { program := "ytgmbhbhjlhpbgaa", sum := "9709ec135a44d2edabff2bc440de708ae80e6e3dcfe86cf9466dad9722095df7", func := "weir/weirlaw12.ConfChanges", spec := "confChanges", unfollowed := true, recurses := true, apart := false, narrowed := true }
def ConfChangesUptoSaid : Prop := confChangesUptoRow.holds Try.pinned (OpenSpec.upto confChangesSpec)

/-- 'weirlaw12.ConfOne', WHERE WHAT IT READS IS OF BULK AT MOST 1048576: true; the input reads as it did. -/
def confOneUptoRow : OpenClaim := { program := "ytgmbhbhjlhpbgaa", sum := "9709ec135a44d2edabff2bc440de708ae80e6e3dcfe86cf9466dad9722095df7", func := "weir/weirlaw12.ConfOne", spec := "confOne", unfollowed := true, recurses := true, apart := false, narrowed := true }
def ConfOneUptoSaid : Prop := confOneUptoRow.holds Try.pinned (OpenSpec.upto confOneSpec)

/-- 'weirlaw12.ConfSizes', WHERE WHAT IT READS IS OF BULK AT MOST 1048576: true; the input reads as it did. -/
def confSizesUptoRow : OpenClaim := { program := "ytgmbhbhjlhpbgaa", sum := "9709ec135a44d2edabff2bc440de708ae80e6e3dcfe86cf9466dad9722095df7", func := "weir/weirlaw12.ConfSizes", spec := "confSizes", unfollowed := true, recurses := true, apart := false, narrowed := true }
def ConfSizesUptoSaid : Prop := confSizesUptoRow.holds Try.pinned (OpenSpec.upto confSizesSpec)

/-- 'weirlaw12.ConfLatest', WHERE WHAT IT READS IS OF BULK AT MOST 1048576: true; the input reads as it did. -/
def confLatestUptoRow : OpenClaim := { program := "ytgmbhbhjlhpbgaa", sum := "9709ec135a44d2edabff2bc440de708ae80e6e3dcfe86cf9466dad9722095df7", func := "weir/weirlaw12.ConfLatest", spec := "confLatest", unfollowed := true, recurses := true, apart := false, narrowed := true }
def ConfLatestUptoSaid : Prop := confLatestUptoRow.holds Try.pinned (OpenSpec.upto confLatestSpec)

end Rows
end Go.Proofs.Ytgmbhbhjlhpbgaa
