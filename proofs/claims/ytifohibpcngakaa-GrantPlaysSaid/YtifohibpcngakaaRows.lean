/-
  No cell of these rows narrows 'for every input' (looked for: loops, veiled, ifaces, maps, wideKeys, modest, calm, conditions, laid).
  DERIVED. THE GIVEN ROWS OF THIS SEAT. 3 by the template 'for every input the law returns true; each argument reads behind the call as it read before'; 0 by the template 'total and deterministic' (their statements: YtifohibpcngakaaTotals.lean).
  GIVEN WITH THE SEED: the statements are not yours to turn. If you find one false, say at which input.
  Laid BY PROGRAM, IN A SANDBOX (cutbox-rows.mjs): the forced cells as the released guide's own fill.sh prints them over the translation 1770ba101696fbe9… (all of the seat's roots in one cut). By AI agents, Wed Nov 11 2026. No macro, syntax, notation, axiom, sorry.
-/
import Derived.Test.YtifohibpcngakaaChecked
import GoSem.Claim
import GoSem.ClaimJoined
import GoSem.ClaimMapViews
import Derived.JoinedTies
import Derived.KernelRfl
namespace Go.Proofs.Ytifohibpcngakaa
/- THE CELL 'sum', in the pinned program and in every row, IS THE sha256 OF THE DUMP (.gsa) THAT YtifohibpcngakaaProg.lean LOADS. Nothing in Lean hashes anything: it is a label: what it is worth is what the hold of that sum in a sandbox is worth. -/
noncomputable def Try.pinned : Pinned := { name := "ytifohibpcngakaa", sum := "1770ba101696fbe9483016330a189e8faf0ee1903cacf8f5eeb5b26e3f8b7822", checked := Try.checked }
namespace Rows
def none {H : Type} : Left H := { results := [], args := [] }

/-- 'weirlaw21.GrantShares': WHATEVER THE INPUT: true; the input reads as it did. -/
def grantSharesSpec : ChangeSpec := { name := "grantShares", fn := fun _ => fun
  | [d1, d2, d3, d4, d5] => { results := [.lit (.bool true)], args := [d1, d2, d3, d4, d5] }
  | _ => none }
def grantSharesRow : OpenClaim := { program := "ytifohibpcngakaa", sum := "1770ba101696fbe9483016330a189e8faf0ee1903cacf8f5eeb5b26e3f8b7822", func := "weir/weirlaw21.GrantShares", spec := "grantShares", unfollowed := true, recurses := true, named := ["math/bits.divideError", "math/bits.overflowError"], apart := false }
def GrantSharesSaid : Prop := grantSharesRow.holds Try.pinned (OpenSpec.ofChange grantSharesSpec)

/-- ITS FALSE NEIGHBOUR: 'it returns false'. Refute it at one input. -/
def grantSharesWrong : ChangeSpec := { name := "grantShares", fn := fun _ => fun
  | [d1, d2, d3, d4, d5] => { results := [.lit (.bool false)], args := [d1, d2, d3, d4, d5] }
  | _ => none }
def GrantSharesWrongFalsely : Prop := grantSharesRow.holds Try.pinned (OpenSpec.ofChange grantSharesWrong)

/-- 'weirlaw21.GrantPlays': WHATEVER THE INPUT: true; the input reads as it did. -/
def grantPlaysSpec : ChangeSpec := { name := "grantPlays", fn := fun _ => fun
  | [d1, d2, d3, d4] => { results := [.lit (.bool true)], args := [d1, d2, d3, d4] }
  | _ => none }
def grantPlaysRow : OpenClaim := { program := "ytifohibpcngakaa", sum := "1770ba101696fbe9483016330a189e8faf0ee1903cacf8f5eeb5b26e3f8b7822", func := "weir/weirlaw21.GrantPlays", spec := "grantPlays", unfollowed := true, recurses := true, named := ["math/bits.divideError", "math/bits.overflowError"], apart := false }
def GrantPlaysSaid : Prop := grantPlaysRow.holds Try.pinned (OpenSpec.ofChange grantPlaysSpec)

/-- ITS FALSE NEIGHBOUR: 'it returns false'. Refute it at one input. -/
def grantPlaysWrong : ChangeSpec := { name := "grantPlays", fn := fun _ => fun
  | [d1, d2, d3, d4] => { results := [.lit (.bool false)], args := [d1, d2, d3, d4] }
  | _ => none }
def GrantPlaysWrongFalsely : Prop := grantPlaysRow.holds Try.pinned (OpenSpec.ofChange grantPlaysWrong)

/-- 'weirlaw21.GrantSurely': WHATEVER THE INPUT: true; the input reads as it did. -/
def grantSurelySpec : ChangeSpec := { name := "grantSurely", fn := fun _ => fun
  | [d1, d2, d3, d4, d5, d6] => { results := [.lit (.bool true)], args := [d1, d2, d3, d4, d5, d6] }
  | _ => none }
def grantSurelyRow : OpenClaim := { program := "ytifohibpcngakaa", sum := "1770ba101696fbe9483016330a189e8faf0ee1903cacf8f5eeb5b26e3f8b7822", func := "weir/weirlaw21.GrantSurely", spec := "grantSurely", unfollowed := true, recurses := true, named := ["math/bits.divideError", "math/bits.overflowError"], apart := false }
def GrantSurelySaid : Prop := grantSurelyRow.holds Try.pinned (OpenSpec.ofChange grantSurelySpec)

/-- ITS FALSE NEIGHBOUR: 'it returns false'. Refute it at one input. -/
def grantSurelyWrong : ChangeSpec := { name := "grantSurely", fn := fun _ => fun
  | [d1, d2, d3, d4, d5, d6] => { results := [.lit (.bool false)], args := [d1, d2, d3, d4, d5, d6] }
  | _ => none }
def GrantSurelyWrongFalsely : Prop := grantSurelyRow.holds Try.pinned (OpenSpec.ofChange grantSurelyWrong)

/- THE SECOND FORM. 'bulk': how many values and letters a reading holds, each counted each time it is reached (what is shared counts as often as it is met; a slice's spare places count too). A statement '..UptoSaid' is the law's where the arguments, and the package variables that the reading takes, are together of bulk at most 1048576: NARROWER than '..Said'. Prove '..Said' where nothing that the law and all that it calls make is longer than what came in: it says more and counts as full. Else prove '..UptoSaid'. A law counts once. -/
mutual
def uptoBulk {H : Type} : DataW H → Nat
  | .lit (.string bytes) => bytes.length + 1
  | .lit _ => 1
  | .nil => 1
  | .ptr d => uptoBulk d + 1
  | .slice elems spare => uptoBulkAll elems + uptoBulkAll spare + 1
  | .agg parts => uptoBulkAll parts + 1
  | .iface _ d => uptoBulk d + 1
  | .map entries => uptoBulkEntries entries + 1
  | .held _ => 1
def uptoBulkAll {H : Type} : List (DataW H) → Nat
  | [] => 0
  | d :: r => uptoBulk d + uptoBulkAll r
def uptoBulkEntries {H : Type} : List (Lit × DataW H) → Nat
  | [] => 0
  | x :: r => uptoBulkEntry x + uptoBulkEntries r
def uptoBulkEntry {H : Type} : Lit × DataW H → Nat
  | (.string bytes, d) => bytes.length + uptoBulk d + 1
  | (_, d) => uptoBulk d + 1
 end
def uptoSmall : (H : Type) → List (DataW H) → Bool := fun _ ds => decide (uptoBulkAll ds ≤ 1048576)
def OpenSpec.upto (s : _root_.Go.ChangeSpec) : _root_.Go.OpenSpec := { _root_.Go.OpenSpec.ofChange s with cond := some uptoSmall }

/-- 'weirlaw21.GrantShares', WHERE WHAT IT READS IS OF BULK AT MOST 1048576: true; the input reads as it did. -/
def grantSharesUptoRow : OpenClaim := { program := "ytifohibpcngakaa", sum := "1770ba101696fbe9483016330a189e8faf0ee1903cacf8f5eeb5b26e3f8b7822", func := "weir/weirlaw21.GrantShares", spec := "grantShares", unfollowed := true, recurses := true, named := ["math/bits.divideError", "math/bits.overflowError"], apart := false, narrowed := true }
def GrantSharesUptoSaid : Prop := grantSharesUptoRow.holds Try.pinned (OpenSpec.upto grantSharesSpec)

/-- 'weirlaw21.GrantPlays', WHERE WHAT IT READS IS OF BULK AT MOST 1048576: true; the input reads as it did. -/
def grantPlaysUptoRow : OpenClaim := { program := "ytifohibpcngakaa", sum := "1770ba101696fbe9483016330a189e8faf0ee1903cacf8f5eeb5b26e3f8b7822", func := "weir/weirlaw21.GrantPlays", spec := "grantPlays", unfollowed := true, recurses := true, named := ["math/bits.divideError", "math/bits.overflowError"], apart := false, narrowed := true }
def GrantPlaysUptoSaid : Prop := grantPlaysUptoRow.holds Try.pinned (OpenSpec.upto grantPlaysSpec)

/-- 'weirlaw21.GrantSurely', WHERE WHAT IT READS IS OF BULK AT MOST 1048576: true; the input reads as it did. -/
def grantSurelyUptoRow : OpenClaim := { program := "ytifohibpcngakaa", sum := "1770ba101696fbe9483016330a189e8faf0ee1903cacf8f5eeb5b26e3f8b7822", func := "weir/weirlaw21.GrantSurely", spec := "grantSurely", unfollowed := true, recurses := true, named := ["math/bits.divideError", "math/bits.overflowError"], apart := false, narrowed := true }
def GrantSurelyUptoSaid : Prop := grantSurelyUptoRow.holds Try.pinned (OpenSpec.upto grantSurelySpec)

end Rows
end Go.Proofs.Ytifohibpcngakaa
