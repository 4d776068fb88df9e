/-
  No cell of these rows narrows 'for every input' (looked for: loops, veiled, ifaces, maps, wideKeys, modest, calm, conditions, laid).
  DERIVED. THE GIVEN ROWS OF THIS SEAT. 17 by the template 'for every input the law returns true; each argument reads behind the call as it read before'; 0 by the template 'total and deterministic' (their statements: YthahlfabcjnkhaaTotals.lean).
  GIVEN WITH THE SEED: the statements are not yours to turn. If you find one false, say at which input.
  Laid BY PROGRAM, IN A SANDBOX (cutbox-rows.mjs): the forced cells as the released guide's own fill.sh prints them over the translation 1f2d946b4637344d… (all of the seat's roots in one cut). By AI agents, Wed Nov 11 2026. No macro, syntax, notation, axiom, sorry.
-/
import Derived.Test.YthahlfabcjnkhaaChecked
import GoSem.Claim
import GoSem.ClaimJoined
import GoSem.ClaimMapViews
import Derived.JoinedTies
import Derived.KernelRfl
namespace Go.Proofs.Ythahlfabcjnkhaa
/- THE CELL 'sum', in the pinned program and in every row, IS THE sha256 OF THE DUMP (.gsa) THAT YthahlfabcjnkhaaProg.lean LOADS. Nothing in Lean hashes anything: it is a label: what it is worth is what the hold of that sum in a sandbox is worth. -/
noncomputable def Try.pinned : Pinned := { name := "ythahlfabcjnkhaa", sum := "1f2d946b4637344dc009cfcdabd8c3bd8e86abbc95f399609531f4be57f002de", checked := Try.checked }
namespace Rows
def none {H : Type} : Left H := { results := [], args := [] }

/-- 'weirlaw23.PacketFlows': WHATEVER THE INPUT: true; the input reads as it did. -/
def packetFlowsSpec : ChangeSpec := { name := "packetFlows", fn := fun _ => fun
  | [d1, d2] => { results := [.lit (.bool true)], args := [d1, d2] }
  | _ => none }
def packetFlowsRow : OpenClaim := { program := "ythahlfabcjnkhaa", sum := "1f2d946b4637344dc009cfcdabd8c3bd8e86abbc95f399609531f4be57f002de", func := "weir/weirlaw23.PacketFlows", spec := "packetFlows", unfollowed := true, recurses := true, apart := false }
def PacketFlowsSaid : Prop := packetFlowsRow.holds Try.pinned (OpenSpec.ofChange packetFlowsSpec)

/-- ITS FALSE NEIGHBOUR: 'it returns false'. Refute it at one input. -/
def packetFlowsWrong : ChangeSpec := { name := "packetFlows", fn := fun _ => fun
  | [d1, d2] => { results := [.lit (.bool false)], args := [d1, d2] }
  | _ => none }
def PacketFlowsWrongFalsely : Prop := packetFlowsRow.holds Try.pinned (OpenSpec.ofChange packetFlowsWrong)

/-- 'weirlaw23.PacketClasses': WHATEVER THE INPUT: true; the input reads as it did. -/
def packetClassesSpec : ChangeSpec := { name := "packetClasses", fn := fun _ => fun
  | [d1, d2, d3] => { results := [.lit (.bool true)], args := [d1, d2, d3] }
  | _ => none }
def packetClassesRow : OpenClaim := { program := "ythahlfabcjnkhaa", sum := "1f2d946b4637344dc009cfcdabd8c3bd8e86abbc95f399609531f4be57f002de", func := "weir/weirlaw23.PacketClasses", spec := "packetClasses", unfollowed := true, recurses := true, apart := false }
def PacketClassesSaid : Prop := packetClassesRow.holds Try.pinned (OpenSpec.ofChange packetClassesSpec)

/-- ITS FALSE NEIGHBOUR: 'it returns false'. Refute it at one input. -/
def packetClassesWrong : ChangeSpec := { name := "packetClasses", fn := fun _ => fun
  | [d1, d2, d3] => { results := [.lit (.bool false)], args := [d1, d2, d3] }
  | _ => none }
def PacketClassesWrongFalsely : Prop := packetClassesRow.holds Try.pinned (OpenSpec.ofChange packetClassesWrong)

/-- 'weirlaw23.PacketBack': WHATEVER THE INPUT: true; the input reads as it did. -/
def packetBackSpec : ChangeSpec := { name := "packetBack", fn := fun _ => fun
  | [d1, d2, d3] => { results := [.lit (.bool true)], args := [d1, d2, d3] }
  | _ => none }
def packetBackRow : OpenClaim := { program := "ythahlfabcjnkhaa", sum := "1f2d946b4637344dc009cfcdabd8c3bd8e86abbc95f399609531f4be57f002de", func := "weir/weirlaw23.PacketBack", spec := "packetBack", unfollowed := true, recurses := true, apart := false }
def PacketBackSaid : Prop := packetBackRow.holds Try.pinned (OpenSpec.ofChange packetBackSpec)

/-- ITS FALSE NEIGHBOUR: 'it returns false'. Refute it at one input. -/
def packetBackWrong : ChangeSpec := { name := "packetBack", fn := fun _ => fun
  | [d1, d2, d3] => { results := [.lit (.bool false)], args := [d1, d2, d3] }
  | _ => none }
def PacketBackWrongFalsely : Prop := packetBackRow.holds Try.pinned (OpenSpec.ofChange packetBackWrong)

/-- 'weirlaw25.VirtualEligible': WHATEVER THE INPUT: true; the input reads as it did. -/
def virtualEligibleSpec : ChangeSpec := { name := "virtualEligible", fn := fun _ => fun
  | [d1, d2, d3, d4, d5] => { results := [.lit (.bool true)], args := [d1, d2, d3, d4, d5] }
  | _ => none }
def virtualEligibleRow : OpenClaim := { program := "ythahlfabcjnkhaa", sum := "1f2d946b4637344dc009cfcdabd8c3bd8e86abbc95f399609531f4be57f002de", func := "weir/weirlaw25.VirtualEligible", spec := "virtualEligible", unfollowed := true, recurses := true, apart := false }
def VirtualEligibleSaid : Prop := virtualEligibleRow.holds Try.pinned (OpenSpec.ofChange virtualEligibleSpec)

/-- ITS FALSE NEIGHBOUR: 'it returns false'. Refute it at one input. -/
def virtualEligibleWrong : ChangeSpec := { name := "virtualEligible", fn := fun _ => fun
  | [d1, d2, d3, d4, d5] => { results := [.lit (.bool false)], args := [d1, d2, d3, d4, d5] }
  | _ => none }
def VirtualEligibleWrongFalsely : Prop := virtualEligibleRow.holds Try.pinned (OpenSpec.ofChange virtualEligibleWrong)

/-- 'weirlaw10.VoteAnswers': WHATEVER THE INPUT: true; the input reads as it did. -/
def voteAnswersSpec : ChangeSpec := { name := "voteAnswers", fn := fun _ => fun
  | [d1, d2, d3, d4] => { results := [.lit (.bool true)], args := [d1, d2, d3, d4] }
  | _ => none }
def voteAnswersRow : OpenClaim := { program := "ythahlfabcjnkhaa", sum := "1f2d946b4637344dc009cfcdabd8c3bd8e86abbc95f399609531f4be57f002de", func := "weir/weirlaw10.VoteAnswers", spec := "voteAnswers", unfollowed := true, recurses := true, apart := false }
def VoteAnswersSaid : Prop := voteAnswersRow.holds Try.pinned (OpenSpec.ofChange voteAnswersSpec)

/-- ITS FALSE NEIGHBOUR: 'it returns false'. Refute it at one input. -/
def voteAnswersWrong : ChangeSpec := { name := "voteAnswers", fn := fun _ => fun
  | [d1, d2, d3, d4] => { results := [.lit (.bool false)], args := [d1, d2, d3, d4] }
  | _ => none }
def VoteAnswersWrongFalsely : Prop := voteAnswersRow.holds Try.pinned (OpenSpec.ofChange voteAnswersWrong)

/-- 'weirlaw10.VoteOnce': WHATEVER THE INPUT: true; the input reads as it did. -/
def voteOnceSpec : ChangeSpec := { name := "voteOnce", fn := fun _ => fun
  | [d1, d2, d3, d4] => { results := [.lit (.bool true)], args := [d1, d2, d3, d4] }
  | _ => none }
def voteOnceRow : OpenClaim := { program := "ythahlfabcjnkhaa", sum := "1f2d946b4637344dc009cfcdabd8c3bd8e86abbc95f399609531f4be57f002de", func := "weir/weirlaw10.VoteOnce", spec := "voteOnce", unfollowed := true, recurses := true, apart := false }
def VoteOnceSaid : Prop := voteOnceRow.holds Try.pinned (OpenSpec.ofChange voteOnceSpec)

/-- ITS FALSE NEIGHBOUR: 'it returns false'. Refute it at one input. -/
def voteOnceWrong : ChangeSpec := { name := "voteOnce", fn := fun _ => fun
  | [d1, d2, d3, d4] => { results := [.lit (.bool false)], args := [d1, d2, d3, d4] }
  | _ => none }
def VoteOnceWrongFalsely : Prop := voteOnceRow.holds Try.pinned (OpenSpec.ofChange voteOnceWrong)

/-- 'weirlaw10.VoteNewer': WHATEVER THE INPUT: true; the input reads as it did. -/
def voteNewerSpec : ChangeSpec := { name := "voteNewer", fn := fun _ => fun
  | [d1, d2, d3, d4] => { results := [.lit (.bool true)], args := [d1, d2, d3, d4] }
  | _ => none }
def voteNewerRow : OpenClaim := { program := "ythahlfabcjnkhaa", sum := "1f2d946b4637344dc009cfcdabd8c3bd8e86abbc95f399609531f4be57f002de", func := "weir/weirlaw10.VoteNewer", spec := "voteNewer", unfollowed := true, recurses := true, apart := false }
def VoteNewerSaid : Prop := voteNewerRow.holds Try.pinned (OpenSpec.ofChange voteNewerSpec)

/-- ITS FALSE NEIGHBOUR: 'it returns false'. Refute it at one input. -/
def voteNewerWrong : ChangeSpec := { name := "voteNewer", fn := fun _ => fun
  | [d1, d2, d3, d4] => { results := [.lit (.bool false)], args := [d1, d2, d3, d4] }
  | _ => none }
def VoteNewerWrongFalsely : Prop := voteNewerRow.holds Try.pinned (OpenSpec.ofChange voteNewerWrong)

/-- 'weirlaw25.VirtualTags': WHATEVER THE INPUT: true; the input reads as it did. -/
def virtualTagsSpec : ChangeSpec := { name := "virtualTags", fn := fun _ => fun
  | [d1, d2, d3, d4, d5] => { results := [.lit (.bool true)], args := [d1, d2, d3, d4, d5] }
  | _ => none }
def virtualTagsRow : OpenClaim := { program := "ythahlfabcjnkhaa", sum := "1f2d946b4637344dc009cfcdabd8c3bd8e86abbc95f399609531f4be57f002de", func := "weir/weirlaw25.VirtualTags", spec := "virtualTags", unfollowed := true, recurses := true, apart := false }
def VirtualTagsSaid : Prop := virtualTagsRow.holds Try.pinned (OpenSpec.ofChange virtualTagsSpec)

/-- ITS FALSE NEIGHBOUR: 'it returns false'. Refute it at one input. -/
def virtualTagsWrong : ChangeSpec := { name := "virtualTags", fn := fun _ => fun
  | [d1, d2, d3, d4, d5] => { results := [.lit (.bool false)], args := [d1, d2, d3, d4, d5] }
  | _ => none }
def VirtualTagsWrongFalsely : Prop := virtualTagsRow.holds Try.pinned (OpenSpec.ofChange virtualTagsWrong)

/-- 'weirlaw10.VoteTimeout': WHATEVER THE INPUT: true; the input reads as it did. -/
def voteTimeoutSpec : ChangeSpec := { name := "voteTimeout", fn := fun _ => fun
  | [d1, d2] => { results := [.lit (.bool true)], args := [d1, d2] }
  | _ => none }
def voteTimeoutRow : OpenClaim := { program := "ythahlfabcjnkhaa", sum := "1f2d946b4637344dc009cfcdabd8c3bd8e86abbc95f399609531f4be57f002de", func := "weir/weirlaw10.VoteTimeout", spec := "voteTimeout", unfollowed := true, recurses := true, apart := false }
def VoteTimeoutSaid : Prop := voteTimeoutRow.holds Try.pinned (OpenSpec.ofChange voteTimeoutSpec)

/-- ITS FALSE NEIGHBOUR: 'it returns false'. Refute it at one input. -/
def voteTimeoutWrong : ChangeSpec := { name := "voteTimeout", fn := fun _ => fun
  | [d1, d2] => { results := [.lit (.bool false)], args := [d1, d2] }
  | _ => none }
def VoteTimeoutWrongFalsely : Prop := voteTimeoutRow.holds Try.pinned (OpenSpec.ofChange voteTimeoutWrong)

/-- 'weirlaw25.VirtualPicks': WHATEVER THE INPUT: true; the input reads as it did. -/
def virtualPicksSpec : ChangeSpec := { name := "virtualPicks", fn := fun _ => fun
  | [d1, d2, d3] => { results := [.lit (.bool true)], args := [d1, d2, d3] }
  | _ => none }
def virtualPicksRow : OpenClaim := { program := "ythahlfabcjnkhaa", sum := "1f2d946b4637344dc009cfcdabd8c3bd8e86abbc95f399609531f4be57f002de", func := "weir/weirlaw25.VirtualPicks", spec := "virtualPicks", unfollowed := true, recurses := true, apart := false }
def VirtualPicksSaid : Prop := virtualPicksRow.holds Try.pinned (OpenSpec.ofChange virtualPicksSpec)

/-- ITS FALSE NEIGHBOUR: 'it returns false'. Refute it at one input. -/
def virtualPicksWrong : ChangeSpec := { name := "virtualPicks", fn := fun _ => fun
  | [d1, d2, d3] => { results := [.lit (.bool false)], args := [d1, d2, d3] }
  | _ => none }
def VirtualPicksWrongFalsely : Prop := virtualPicksRow.holds Try.pinned (OpenSpec.ofChange virtualPicksWrong)

/-- 'weirlaw10.VoteOne': WHATEVER THE INPUT: true; the input reads as it did. -/
def voteOneSpec : ChangeSpec := { name := "voteOne", fn := fun _ => fun
  | [d1, d2, d3] => { results := [.lit (.bool true)], args := [d1, d2, d3] }
  | _ => none }
def voteOneRow : OpenClaim := { program := "ythahlfabcjnkhaa", sum := "1f2d946b4637344dc009cfcdabd8c3bd8e86abbc95f399609531f4be57f002de", func := "weir/weirlaw10.VoteOne", spec := "voteOne", unfollowed := true, recurses := true, apart := false }
def VoteOneSaid : Prop := voteOneRow.holds Try.pinned (OpenSpec.ofChange voteOneSpec)

/-- ITS FALSE NEIGHBOUR: 'it returns false'. Refute it at one input. -/
def voteOneWrong : ChangeSpec := { name := "voteOne", fn := fun _ => fun
  | [d1, d2, d3] => { results := [.lit (.bool false)], args := [d1, d2, d3] }
  | _ => none }
def VoteOneWrongFalsely : Prop := voteOneRow.holds Try.pinned (OpenSpec.ofChange voteOneWrong)

/-- 'weirlaw24.FifoOrder': WHATEVER THE INPUT: true; the input reads as it did. -/
def fifoOrderSpec : ChangeSpec := { name := "fifoOrder", fn := fun _ => fun
  | [d1, d2] => { results := [.lit (.bool true)], args := [d1, d2] }
  | _ => none }
def fifoOrderRow : OpenClaim := { program := "ythahlfabcjnkhaa", sum := "1f2d946b4637344dc009cfcdabd8c3bd8e86abbc95f399609531f4be57f002de", func := "weir/weirlaw24.FifoOrder", spec := "fifoOrder", apart := false }
def FifoOrderSaid : Prop := fifoOrderRow.holds Try.pinned (OpenSpec.ofChange fifoOrderSpec)

/-- ITS FALSE NEIGHBOUR: 'it returns false'. Refute it at one input. -/
def fifoOrderWrong : ChangeSpec := { name := "fifoOrder", fn := fun _ => fun
  | [d1, d2] => { results := [.lit (.bool false)], args := [d1, d2] }
  | _ => none }
def FifoOrderWrongFalsely : Prop := fifoOrderRow.holds Try.pinned (OpenSpec.ofChange fifoOrderWrong)

/-- 'weirlaw10.VoteCounts': WHATEVER THE INPUT: true; the input reads as it did. -/
def voteCountsSpec : ChangeSpec := { name := "voteCounts", fn := fun _ => fun
  | [d1, d2, d3, d4, d5, d6] => { results := [.lit (.bool true)], args := [d1, d2, d3, d4, d5, d6] }
  | _ => none }
def voteCountsRow : OpenClaim := { program := "ythahlfabcjnkhaa", sum := "1f2d946b4637344dc009cfcdabd8c3bd8e86abbc95f399609531f4be57f002de", func := "weir/weirlaw10.VoteCounts", spec := "voteCounts", unfollowed := true, recurses := true, apart := false }
def VoteCountsSaid : Prop := voteCountsRow.holds Try.pinned (OpenSpec.ofChange voteCountsSpec)

/-- ITS FALSE NEIGHBOUR: 'it returns false'. Refute it at one input. -/
def voteCountsWrong : ChangeSpec := { name := "voteCounts", fn := fun _ => fun
  | [d1, d2, d3, d4, d5, d6] => { results := [.lit (.bool false)], args := [d1, d2, d3, d4, d5, d6] }
  | _ => none }
def VoteCountsWrongFalsely : Prop := voteCountsRow.holds Try.pinned (OpenSpec.ofChange voteCountsWrong)

/-- 'weirlaw25.VirtualTells': WHATEVER THE INPUT: true; the input reads as it did. -/
def virtualTellsSpec : ChangeSpec := { name := "virtualTells", fn := fun _ => fun
  | [d1, d2, d3, d4, d5] => { results := [.lit (.bool true)], args := [d1, d2, d3, d4, d5] }
  | _ => none }
def virtualTellsRow : OpenClaim := { program := "ythahlfabcjnkhaa", sum := "1f2d946b4637344dc009cfcdabd8c3bd8e86abbc95f399609531f4be57f002de", func := "weir/weirlaw25.VirtualTells", spec := "virtualTells", unfollowed := true, recurses := true, apart := false }
def VirtualTellsSaid : Prop := virtualTellsRow.holds Try.pinned (OpenSpec.ofChange virtualTellsSpec)

/-- ITS FALSE NEIGHBOUR: 'it returns false'. Refute it at one input. -/
def virtualTellsWrong : ChangeSpec := { name := "virtualTells", fn := fun _ => fun
  | [d1, d2, d3, d4, d5] => { results := [.lit (.bool false)], args := [d1, d2, d3, d4, d5] }
  | _ => none }
def VirtualTellsWrongFalsely : Prop := virtualTellsRow.holds Try.pinned (OpenSpec.ofChange virtualTellsWrong)

/-- 'weirlaw24.FifoPlays': WHATEVER THE INPUT: true; the input reads as it did. -/
def fifoPlaysSpec : ChangeSpec := { name := "fifoPlays", fn := fun _ => fun
  | [d1, d2] => { results := [.lit (.bool true)], args := [d1, d2] }
  | _ => none }
def fifoPlaysRow : OpenClaim := { program := "ythahlfabcjnkhaa", sum := "1f2d946b4637344dc009cfcdabd8c3bd8e86abbc95f399609531f4be57f002de", func := "weir/weirlaw24.FifoPlays", spec := "fifoPlays", unfollowed := true, recurses := true, apart := false }
def FifoPlaysSaid : Prop := fifoPlaysRow.holds Try.pinned (OpenSpec.ofChange fifoPlaysSpec)

/-- ITS FALSE NEIGHBOUR: 'it returns false'. Refute it at one input. -/
def fifoPlaysWrong : ChangeSpec := { name := "fifoPlays", fn := fun _ => fun
  | [d1, d2] => { results := [.lit (.bool false)], args := [d1, d2] }
  | _ => none }
def FifoPlaysWrongFalsely : Prop := fifoPlaysRow.holds Try.pinned (OpenSpec.ofChange fifoPlaysWrong)

/-- 'weirlaw10.VoteBegins': WHATEVER THE INPUT: true; the input reads as it did. -/
def voteBeginsSpec : ChangeSpec := { name := "voteBegins", fn := fun _ => fun
  | [d1, d2, d3, d4] => { results := [.lit (.bool true)], args := [d1, d2, d3, d4] }
  | _ => none }
def voteBeginsRow : OpenClaim := { program := "ythahlfabcjnkhaa", sum := "1f2d946b4637344dc009cfcdabd8c3bd8e86abbc95f399609531f4be57f002de", func := "weir/weirlaw10.VoteBegins", spec := "voteBegins", unfollowed := true, recurses := true, apart := false }
def VoteBeginsSaid : Prop := voteBeginsRow.holds Try.pinned (OpenSpec.ofChange voteBeginsSpec)

/-- ITS FALSE NEIGHBOUR: 'it returns false'. Refute it at one input. -/
def voteBeginsWrong : ChangeSpec := { name := "voteBegins", fn := fun _ => fun
  | [d1, d2, d3, d4] => { results := [.lit (.bool false)], args := [d1, d2, d3, d4] }
  | _ => none }
def VoteBeginsWrongFalsely : Prop := voteBeginsRow.holds Try.pinned (OpenSpec.ofChange voteBeginsWrong)

/-- 'weirlaw24.FifoSame': WHATEVER THE INPUT: true; the input reads as it did. -/
def fifoSameSpec : ChangeSpec := { name := "fifoSame", fn := fun _ => fun
  | [d1, d2] => { results := [.lit (.bool true)], args := [d1, d2] }
  | _ => none }
def fifoSameRow : OpenClaim := { program := "ythahlfabcjnkhaa", sum := "1f2d946b4637344dc009cfcdabd8c3bd8e86abbc95f399609531f4be57f002de", func := "weir/weirlaw24.FifoSame", spec := "fifoSame", unfollowed := true, recurses := true, apart := false }
def FifoSameSaid : Prop := fifoSameRow.holds Try.pinned (OpenSpec.ofChange fifoSameSpec)

/-- ITS FALSE NEIGHBOUR: 'it returns false'. Refute it at one input. -/
def fifoSameWrong : ChangeSpec := { name := "fifoSame", fn := fun _ => fun
  | [d1, d2] => { results := [.lit (.bool false)], args := [d1, d2] }
  | _ => none }
def FifoSameWrongFalsely : Prop := fifoSameRow.holds Try.pinned (OpenSpec.ofChange fifoSameWrong)

/- THE SECOND FORM. 'bulk': how many values and letters a reading holds, each counted each time it is reached (what is shared counts as often as it is met; a slice's spare places count too). A statement '..UptoSaid' is the law's where the arguments, and the package variables that the reading takes, are together of bulk at most 1048576: NARROWER than '..Said'. Prove '..Said' where nothing that the law and all that it calls make is longer than what came in: it says more and counts as full. Else prove '..UptoSaid'. A law counts once. -/
mutual
def uptoBulk {H : Type} : DataW H → Nat
  | .lit (.string bytes) => bytes.length + 1
  | .lit _ => 1
  | .nil => 1
  | .ptr d => uptoBulk d + 1
  | .slice elems spare => uptoBulkAll elems + uptoBulkAll spare + 1
  | .agg parts => uptoBulkAll parts + 1
  | .iface _ d => uptoBulk d + 1
  | .map entries => uptoBulkEntries entries + 1
  | .held _ => 1
def uptoBulkAll {H : Type} : List (DataW H) → Nat
  | [] => 0
  | d :: r => uptoBulk d + uptoBulkAll r
def uptoBulkEntries {H : Type} : List (Lit × DataW H) → Nat
  | [] => 0
  | x :: r => uptoBulkEntry x + uptoBulkEntries r
def uptoBulkEntry {H : Type} : Lit × DataW H → Nat
  | (.string bytes, d) => bytes.length + uptoBulk d + 1
  | (_, d) => uptoBulk d + 1
 end
def uptoSmall : (H : Type) → List (DataW H) → Bool := fun _ ds => decide (uptoBulkAll ds ≤ 1048576)
def OpenSpec.upto (s : _root_.Go.ChangeSpec) : _root_.Go.OpenSpec := { _root_.Go.OpenSpec.ofChange s with cond := some uptoSmall }

/-- 'weirlaw23.PacketFlows', WHERE WHAT IT READS IS OF BULK AT MOST 1048576: true; the input reads as it did. -/
def packetFlowsUptoRow : OpenClaim := { program := "ythahlfabcjnkhaa", sum := "1f2d946b4637344dc009cfcdabd8c3bd8e86abbc95f399609531f4be57f002de", func := "weir/weirlaw23.PacketFlows", spec := "packetFlows", unfollowed := true, recurses := true, apart := false, narrowed := true }
def PacketFlowsUptoSaid : Prop := packetFlowsUptoRow.holds Try.pinned (OpenSpec.upto packetFlowsSpec)

/-- 'weirlaw23.PacketClasses', WHERE WHAT IT READS IS OF BULK AT MOST 1048576: true; the input reads as it did. -/
def packetClassesUptoRow : OpenClaim := { program := "ythahlfabcjnkhaa", sum := "1f2d946b4637344dc009cfcdabd8c3bd8e86abbc95f399609531f4be57f002de", func := "weir/weirlaw23.PacketClasses", spec := "packetClasses", unfollowed := true, recurses := true, apart := false, narrowed := true }
def PacketClassesUptoSaid : Prop := packetClassesUptoRow.holds Try.pinned (OpenSpec.upto packetClassesSpec)

/-- 'weirlaw23.PacketBack', WHERE WHAT IT READS IS OF BULK AT MOST 1048576: true; the input reads as it did. -/
def packetBackUptoRow : OpenClaim := { program := "ythahlfabcjnkhaa", sum := "1f2d946b4637344dc009cfcdabd8c3bd8e86abbc95f399609531f4be57f002de", func := "weir/weirlaw23.PacketBack", spec := "packetBack", unfollowed := true, recurses := true, apart := false, narrowed := true }
def PacketBackUptoSaid : Prop := packetBackUptoRow.holds Try.pinned (OpenSpec.upto packetBackSpec)

/-- 'weirlaw25.VirtualEligible', WHERE WHAT IT READS IS OF BULK AT MOST 1048576: true; the input reads as it did. -/
def virtualEligibleUptoRow : OpenClaim := { program := "ythahlfabcjnkhaa", sum := "1f2d946b4637344dc009cfcdabd8c3bd8e86abbc95f399609531f4be57f002de", func := "weir/weirlaw25.VirtualEligible", spec := "virtualEligible", unfollowed := true, recurses := true, apart := false, narrowed := true }
def VirtualEligibleUptoSaid : Prop := virtualEligibleUptoRow.holds Try.pinned (OpenSpec.upto virtualEligibleSpec)

/-- 'weirlaw10.VoteAnswers', WHERE WHAT IT READS IS OF BULK AT MOST 1048576: true; the input reads as it did. -/
def voteAnswersUptoRow : OpenClaim := { program := "ythahlfabcjnkhaa", sum := "1f2d946b4637344dc009cfcdabd8c3bd8e86abbc95f399609531f4be57f002de", func := "weir/weirlaw10.VoteAnswers", spec := "voteAnswers", unfollowed := true, recurses := true, apart := false, narrowed := true }
def VoteAnswersUptoSaid : Prop := voteAnswersUptoRow.holds Try.pinned (OpenSpec.upto voteAnswersSpec)

/-- 'weirlaw10.VoteOnce', WHERE WHAT IT READS IS OF BULK AT MOST 1048576: true; the input reads as it did. -/
def voteOnceUptoRow : OpenClaim := { program := "ythahlfabcjnkhaa", sum := "1f2d946b4637344dc009cfcdabd8c3bd8e86abbc95f399609531f4be57f002de", func := "weir/weirlaw10.VoteOnce", spec := "voteOnce", unfollowed := true, recurses := true, apart := false, narrowed := true }
def VoteOnceUptoSaid : Prop := voteOnceUptoRow.holds Try.pinned (OpenSpec.upto voteOnceSpec)

/-- 'weirlaw10.VoteNewer', WHERE WHAT IT READS IS OF BULK AT MOST 1048576: true; the input reads as it did. -/
def voteNewerUptoRow : OpenClaim := { program := "ythahlfabcjnkhaa", sum := "1f2d946b4637344dc009cfcdabd8c3bd8e86abbc95f399609531f4be57f002de", func := "weir/weirlaw10.VoteNewer", spec := "voteNewer", unfollowed := true, recurses := true, apart := false, narrowed := true }
def VoteNewerUptoSaid : Prop := voteNewerUptoRow.holds Try.pinned (OpenSpec.upto voteNewerSpec)

/-- 'weirlaw25.VirtualTags', WHERE WHAT IT READS IS OF BULK AT MOST 1048576: true; the input reads as it did. -/
def virtualTagsUptoRow : OpenClaim := { program := "ythahlfabcjnkhaa", sum := "1f2d946b4637344dc009cfcdabd8c3bd8e86abbc95f399609531f4be57f002de", func := "weir/weirlaw25.VirtualTags", spec := "virtualTags", unfollowed := true, recurses := true, apart := false, narrowed := true }
def VirtualTagsUptoSaid : Prop := virtualTagsUptoRow.holds Try.pinned (OpenSpec.upto virtualTagsSpec)

/-- 'weirlaw10.VoteTimeout', WHERE WHAT IT READS IS OF BULK AT MOST 1048576: true; the input reads as it did. -/
def voteTimeoutUptoRow : OpenClaim := { program := "ythahlfabcjnkhaa", sum := "1f2d946b4637344dc009cfcdabd8c3bd8e86abbc95f399609531f4be57f002de", func := "weir/weirlaw10.VoteTimeout", spec := "voteTimeout", unfollowed := true, recurses := true, apart := false, narrowed := true }
def VoteTimeoutUptoSaid : Prop := voteTimeoutUptoRow.holds Try.pinned (OpenSpec.upto voteTimeoutSpec)

/-- 'weirlaw25.VirtualPicks', WHERE WHAT IT READS IS OF BULK AT MOST 1048576: true; the input reads as it did. -/
def virtualPicksUptoRow : OpenClaim := { program := "ythahlfabcjnkhaa", sum := "1f2d946b4637344dc009cfcdabd8c3bd8e86abbc95f399609531f4be57f002de", func := "weir/weirlaw25.VirtualPicks", spec := "virtualPicks", unfollowed := true, recurses := true, apart := false, narrowed := true }
def VirtualPicksUptoSaid : Prop := virtualPicksUptoRow.holds Try.pinned (OpenSpec.upto virtualPicksSpec)

/-- 'weirlaw10.VoteOne', WHERE WHAT IT READS IS OF BULK AT MOST 1048576: true; the input reads as it did. -/
def voteOneUptoRow : OpenClaim := { program := "ythahlfabcjnkhaa", sum := "1f2d946b4637344dc009cfcdabd8c3bd8e86abbc95f399609531f4be57f002de", func := "weir/weirlaw10.VoteOne", spec := "voteOne", unfollowed := true, recurses := true, apart := false, narrowed := true }
def VoteOneUptoSaid : Prop := voteOneUptoRow.holds Try.pinned (OpenSpec.upto voteOneSpec)

/-- 'weirlaw24.FifoOrder', WHERE WHAT IT READS IS OF BULK AT MOST 1048576: true; the input reads as it did. -/
def fifoOrderUptoRow : OpenClaim := { program := "ythahlfabcjnkhaa", sum := "1f2d946b4637344dc009cfcdabd8c3bd8e86abbc95f399609531f4be57f002de", func := "weir/weirlaw24.FifoOrder", spec := "fifoOrder", apart := false, narrowed := true }
def FifoOrderUptoSaid : Prop := fifoOrderUptoRow.holds Try.pinned (OpenSpec.upto fifoOrderSpec)

/-- 'weirlaw10.VoteCounts', WHERE WHAT IT READS IS OF BULK AT MOST 1048576: true; the input reads as it did. -/
def voteCountsUptoRow : OpenClaim := { program := "ythahlfabcjnkhaa", sum := "1f2d946b4637344dc009cfcdabd8c3bd8e86abbc95f399609531f4be57f002de", func := "weir/weirlaw10.VoteCounts", spec := "voteCounts", unfollowed := true, recurses := true, apart := false, narrowed := true }
def VoteCountsUptoSaid : Prop := voteCountsUptoRow.holds Try.pinned (OpenSpec.upto voteCountsSpec)

/-- 'weirlaw25.VirtualTells', WHERE WHAT IT READS IS OF BULK AT MOST 1048576: true; the input reads as it did. -/
def virtualTellsUptoRow : OpenClaim := { program := "ythahlfabcjnkhaa", sum := "1f2d946b4637344dc009cfcdabd8c3bd8e86abbc95f399609531f4be57f002de", func := "weir/weirlaw25.VirtualTells", spec := "virtualTells", unfollowed := true, recurses := true, apart := false, narrowed := true }
def VirtualTellsUptoSaid : Prop := virtualTellsUptoRow.holds Try.pinned (OpenSpec.upto virtualTellsSpec)

/-- 'weirlaw24.FifoPlays', WHERE WHAT IT READS IS OF BULK AT MOST 1048576: true; the input reads as it did. -/
def fifoPlaysUptoRow : OpenClaim := { program := "ythahlfabcjnkhaa", sum := "1f2d946b4637344dc009cfcdabd8c3bd8e86abbc95f399609531f4be57f002de", func := "weir/weirlaw24.FifoPlays", spec := "fifoPlays", unfollowed := true, recurses := true, apart := false, narrowed := true }
def FifoPlaysUptoSaid : Prop := fifoPlaysUptoRow.holds Try.pinned (OpenSpec.upto fifoPlaysSpec)

/-- 'weirlaw10.VoteBegins', WHERE WHAT IT READS IS OF BULK AT MOST 1048576: true; the input reads as it did. -/
def voteBeginsUptoRow : OpenClaim := { program := "ythahlfabcjnkhaa", sum := "1f2d946b4637344dc009cfcdabd8c3bd8e86abbc95f399609531f4be57f002de", func := "weir/weirlaw10.VoteBegins", spec := "voteBegins", unfollowed := true, recurses := true, apart := false, narrowed := true }
def VoteBeginsUptoSaid : Prop := voteBeginsUptoRow.holds Try.pinned (OpenSpec.upto voteBeginsSpec)

/-- 'weirlaw24.FifoSame', WHERE WHAT IT READS IS OF BULK AT MOST 1048576: true; the input reads as it did. -/
def fifoSameUptoRow : OpenClaim := { program := "ythahlfabcjnkhaa", sum := "1f2d946b4637344dc009cfcdabd8c3bd8e86abbc95f399609531f4be57f002de", func := "weir/weirlaw24.FifoSame", spec := "fifoSame", unfollowed := true, recurses := true, apart := false, narrowed := true }
def FifoSameUptoSaid : Prop := fifoSameUptoRow.holds Try.pinned (OpenSpec.upto fifoSameSpec)

end Rows
end Go.Proofs.Ythahlfabcjnkhaa
