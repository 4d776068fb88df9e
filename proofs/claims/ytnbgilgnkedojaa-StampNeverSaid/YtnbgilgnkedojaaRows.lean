/-
  No cell of these rows narrows 'for every input' (looked for: loops, veiled, ifaces, maps, wideKeys, modest, calm, conditions, laid).
  DERIVED. THE GIVEN ROWS OF THIS SEAT. 16 by the template 'for every input the law returns true; each argument reads behind the call as it read before'; 0 by the template 'total and deterministic' (their statements: YtnbgilgnkedojaaTotals.lean).
  GIVEN WITH THE SEED: the statements are not yours to turn. If you find one false, say at which input.
  Laid BY PROGRAM, IN A SANDBOX (cutbox-rows.mjs): the forced cells as the released guide's own fill.sh prints them over the translation 2aefc5a30326cbbc… (all of the seat's roots in one cut). By AI agents, Wed Nov 11 2026. No macro, syntax, notation, axiom, sorry.
-/
import Derived.Test.YtnbgilgnkedojaaChecked
import GoSem.Claim
import GoSem.ClaimJoined
import GoSem.ClaimMapViews
import Derived.JoinedTies
import Derived.KernelRfl
namespace Go.Proofs.Ytnbgilgnkedojaa
/- THE CELL 'sum', in the pinned program and in every row, IS THE sha256 OF THE DUMP (.gsa) THAT YtnbgilgnkedojaaProg.lean LOADS. Nothing in Lean hashes anything: it is a label: what it is worth is what the hold of that sum in a sandbox is worth. -/
noncomputable def Try.pinned : Pinned := { name := "ytnbgilgnkedojaa", sum := "2aefc5a30326cbbcd4eac230e3e4c5ea7b103e1d797fd7d8d80bd88c392a28bb", checked := Try.checked }
namespace Rows
def none {H : Type} : Left H := { results := [], args := [] }

/-- 'weirlaw30.JudgeKept': WHATEVER THE INPUT: true; the input reads as it did. -/
def judgeKeptSpec : ChangeSpec := { name := "judgeKept", fn := fun _ => fun
  | [d1, d2, d3] => { results := [.lit (.bool true)], args := [d1, d2, d3] }
  | _ => none }
def judgeKeptRow : OpenClaim := { program := "ytnbgilgnkedojaa", sum := "2aefc5a30326cbbcd4eac230e3e4c5ea7b103e1d797fd7d8d80bd88c392a28bb", func := "weir/weirlaw30.JudgeKept", spec := "judgeKept", unfollowed := true, recurses := true, plainKeys := false, apart := false }
def JudgeKeptSaid : Prop := judgeKeptRow.holds Try.pinned (OpenSpec.ofChange judgeKeptSpec)

/-- ITS FALSE NEIGHBOUR: 'it returns false'. Refute it at one input. -/
def judgeKeptWrong : ChangeSpec := { name := "judgeKept", fn := fun _ => fun
  | [d1, d2, d3] => { results := [.lit (.bool false)], args := [d1, d2, d3] }
  | _ => none }
def JudgeKeptWrongFalsely : Prop := judgeKeptRow.holds Try.pinned (OpenSpec.ofChange judgeKeptWrong)

/-- 'weirlaw30.JudgeAll': WHATEVER THE INPUT: true; the input reads as it did. -/
def judgeAllSpec : ChangeSpec := { name := "judgeAll", fn := fun _ => fun
  | [d1, d2, d3, d4, d5, d6, d7, d8] => { results := [.lit (.bool true)], args := [d1, d2, d3, d4, d5, d6, d7, d8] }
  | _ => none }
def judgeAllRow : OpenClaim := { program := "ytnbgilgnkedojaa", sum := "2aefc5a30326cbbcd4eac230e3e4c5ea7b103e1d797fd7d8d80bd88c392a28bb", func := "weir/weirlaw30.JudgeAll", spec := "judgeAll", unfollowed := true, recurses := true, plainKeys := false, apart := false }
def JudgeAllSaid : Prop := judgeAllRow.holds Try.pinned (OpenSpec.ofChange judgeAllSpec)

/-- ITS FALSE NEIGHBOUR: 'it returns false'. Refute it at one input. -/
def judgeAllWrong : ChangeSpec := { name := "judgeAll", fn := fun _ => fun
  | [d1, d2, d3, d4, d5, d6, d7, d8] => { results := [.lit (.bool false)], args := [d1, d2, d3, d4, d5, d6, d7, d8] }
  | _ => none }
def JudgeAllWrongFalsely : Prop := judgeAllRow.holds Try.pinned (OpenSpec.ofChange judgeAllWrong)

/-- 'weirlaw30.JudgeSums': WHATEVER THE INPUT: true; the input reads as it did. -/
def judgeSumsSpec : ChangeSpec := { name := "judgeSums", fn := fun _ => fun
  | [d1, d2, d3, d4, d5, d6, d7] => { results := [.lit (.bool true)], args := [d1, d2, d3, d4, d5, d6, d7] }
  | _ => none }
def judgeSumsRow : OpenClaim := { program := "ytnbgilgnkedojaa", sum := "2aefc5a30326cbbcd4eac230e3e4c5ea7b103e1d797fd7d8d80bd88c392a28bb", func := "weir/weirlaw30.JudgeSums", spec := "judgeSums", unfollowed := true, recurses := true, plainKeys := false, apart := false }
def JudgeSumsSaid : Prop := judgeSumsRow.holds Try.pinned (OpenSpec.ofChange judgeSumsSpec)

/-- ITS FALSE NEIGHBOUR: 'it returns false'. Refute it at one input. -/
def judgeSumsWrong : ChangeSpec := { name := "judgeSums", fn := fun _ => fun
  | [d1, d2, d3, d4, d5, d6, d7] => { results := [.lit (.bool false)], args := [d1, d2, d3, d4, d5, d6, d7] }
  | _ => none }
def JudgeSumsWrongFalsely : Prop := judgeSumsRow.holds Try.pinned (OpenSpec.ofChange judgeSumsWrong)

/-- 'weirlaw02.AirOrder': WHATEVER THE INPUT: true; the input reads as it did. -/
def airOrderSpec : ChangeSpec := { name := "airOrder", fn := fun _ => fun
  | [d1, d2] => { results := [.lit (.bool true)], args := [d1, d2] }
  | _ => none }
def airOrderRow : OpenClaim := { program := "ytnbgilgnkedojaa", sum := "2aefc5a30326cbbcd4eac230e3e4c5ea7b103e1d797fd7d8d80bd88c392a28bb", func := "weir/weirlaw02.AirOrder", spec := "airOrder", unfollowed := true, recurses := true, plainKeys := false, apart := false }
def AirOrderSaid : Prop := airOrderRow.holds Try.pinned (OpenSpec.ofChange airOrderSpec)

/-- ITS FALSE NEIGHBOUR: 'it returns false'. Refute it at one input. -/
def airOrderWrong : ChangeSpec := { name := "airOrder", fn := fun _ => fun
  | [d1, d2] => { results := [.lit (.bool false)], args := [d1, d2] }
  | _ => none }
def AirOrderWrongFalsely : Prop := airOrderRow.holds Try.pinned (OpenSpec.ofChange airOrderWrong)

/-- 'weirlaw02.AirCuts': WHATEVER THE INPUT: true; the input reads as it did. -/
def airCutsSpec : ChangeSpec := { name := "airCuts", fn := fun _ => fun
  | [d1, d2, d3] => { results := [.lit (.bool true)], args := [d1, d2, d3] }
  | _ => none }
def airCutsRow : OpenClaim := { program := "ytnbgilgnkedojaa", sum := "2aefc5a30326cbbcd4eac230e3e4c5ea7b103e1d797fd7d8d80bd88c392a28bb", func := "weir/weirlaw02.AirCuts", spec := "airCuts", unfollowed := true, recurses := true, plainKeys := false, apart := false }
def AirCutsSaid : Prop := airCutsRow.holds Try.pinned (OpenSpec.ofChange airCutsSpec)

/-- ITS FALSE NEIGHBOUR: 'it returns false'. Refute it at one input. -/
def airCutsWrong : ChangeSpec := { name := "airCuts", fn := fun _ => fun
  | [d1, d2, d3] => { results := [.lit (.bool false)], args := [d1, d2, d3] }
  | _ => none }
def AirCutsWrongFalsely : Prop := airCutsRow.holds Try.pinned (OpenSpec.ofChange airCutsWrong)

/-- 'weirlaw30.JudgeFair': WHATEVER THE INPUT: true; the input reads as it did. -/
def judgeFairSpec : ChangeSpec := { name := "judgeFair", fn := fun _ => fun
  | [d1, d2, d3, d4, d5] => { results := [.lit (.bool true)], args := [d1, d2, d3, d4, d5] }
  | _ => none }
def judgeFairRow : OpenClaim := { program := "ytnbgilgnkedojaa", sum := "2aefc5a30326cbbcd4eac230e3e4c5ea7b103e1d797fd7d8d80bd88c392a28bb", func := "weir/weirlaw30.JudgeFair", spec := "judgeFair", unfollowed := true, recurses := true, plainKeys := false, apart := false }
def JudgeFairSaid : Prop := judgeFairRow.holds Try.pinned (OpenSpec.ofChange judgeFairSpec)

/-- ITS FALSE NEIGHBOUR: 'it returns false'. Refute it at one input. -/
def judgeFairWrong : ChangeSpec := { name := "judgeFair", fn := fun _ => fun
  | [d1, d2, d3, d4, d5] => { results := [.lit (.bool false)], args := [d1, d2, d3, d4, d5] }
  | _ => none }
def JudgeFairWrongFalsely : Prop := judgeFairRow.holds Try.pinned (OpenSpec.ofChange judgeFairWrong)

/-- 'weirlaw20.StampTells': WHATEVER THE INPUT: true; the input reads as it did. -/
def stampTellsSpec : ChangeSpec := { name := "stampTells", fn := fun _ => fun
  | [d1, d2, d3] => { results := [.lit (.bool true)], args := [d1, d2, d3] }
  | _ => none }
def stampTellsRow : OpenClaim := { program := "ytnbgilgnkedojaa", sum := "2aefc5a30326cbbcd4eac230e3e4c5ea7b103e1d797fd7d8d80bd88c392a28bb", func := "weir/weirlaw20.StampTells", spec := "stampTells", unfollowed := true, recurses := true, named := ["math/bits.divideError", "math/bits.overflowError"], plainKeys := false, apart := false }
def StampTellsSaid : Prop := stampTellsRow.holds Try.pinned (OpenSpec.ofChange stampTellsSpec)

/-- ITS FALSE NEIGHBOUR: 'it returns false'. Refute it at one input. -/
def stampTellsWrong : ChangeSpec := { name := "stampTells", fn := fun _ => fun
  | [d1, d2, d3] => { results := [.lit (.bool false)], args := [d1, d2, d3] }
  | _ => none }
def StampTellsWrongFalsely : Prop := stampTellsRow.holds Try.pinned (OpenSpec.ofChange stampTellsWrong)

/-- 'weirlaw02.AirFull': WHATEVER THE INPUT: true; the input reads as it did. -/
def airFullSpec : ChangeSpec := { name := "airFull", fn := fun _ => fun
  | [d1, d2] => { results := [.lit (.bool true)], args := [d1, d2] }
  | _ => none }
def airFullRow : OpenClaim := { program := "ytnbgilgnkedojaa", sum := "2aefc5a30326cbbcd4eac230e3e4c5ea7b103e1d797fd7d8d80bd88c392a28bb", func := "weir/weirlaw02.AirFull", spec := "airFull", unfollowed := true, recurses := true, plainKeys := false, apart := false }
def AirFullSaid : Prop := airFullRow.holds Try.pinned (OpenSpec.ofChange airFullSpec)

/-- ITS FALSE NEIGHBOUR: 'it returns false'. Refute it at one input. -/
def airFullWrong : ChangeSpec := { name := "airFull", fn := fun _ => fun
  | [d1, d2] => { results := [.lit (.bool false)], args := [d1, d2] }
  | _ => none }
def AirFullWrongFalsely : Prop := airFullRow.holds Try.pinned (OpenSpec.ofChange airFullWrong)

/-- 'weirlaw03.ClockParts': WHATEVER THE INPUT: true; the input reads as it did. -/
def clockPartsSpec : ChangeSpec := { name := "clockParts", fn := fun _ => fun
  | [d1, d2, d3] => { results := [.lit (.bool true)], args := [d1, d2, d3] }
  | _ => none }
def clockPartsRow : OpenClaim := { program := "ytnbgilgnkedojaa", sum := "2aefc5a30326cbbcd4eac230e3e4c5ea7b103e1d797fd7d8d80bd88c392a28bb", func := "weir/weirlaw03.ClockParts", spec := "clockParts", unfollowed := true, recurses := true, named := ["math/bits.divideError", "math/bits.overflowError"], plainKeys := false, apart := false }
def ClockPartsSaid : Prop := clockPartsRow.holds Try.pinned (OpenSpec.ofChange clockPartsSpec)

/-- ITS FALSE NEIGHBOUR: 'it returns false'. Refute it at one input. -/
def clockPartsWrong : ChangeSpec := { name := "clockParts", fn := fun _ => fun
  | [d1, d2, d3] => { results := [.lit (.bool false)], args := [d1, d2, d3] }
  | _ => none }
def ClockPartsWrongFalsely : Prop := clockPartsRow.holds Try.pinned (OpenSpec.ofChange clockPartsWrong)

/-- 'weirlaw03.ClockBounds': WHATEVER THE INPUT: true; the input reads as it did. -/
def clockBoundsSpec : ChangeSpec := { name := "clockBounds", fn := fun _ => fun
  | [d1, d2, d3] => { results := [.lit (.bool true)], args := [d1, d2, d3] }
  | _ => none }
def clockBoundsRow : OpenClaim := { program := "ytnbgilgnkedojaa", sum := "2aefc5a30326cbbcd4eac230e3e4c5ea7b103e1d797fd7d8d80bd88c392a28bb", func := "weir/weirlaw03.ClockBounds", spec := "clockBounds", unfollowed := true, recurses := true, named := ["math/bits.divideError", "math/bits.overflowError"], plainKeys := false, apart := false }
def ClockBoundsSaid : Prop := clockBoundsRow.holds Try.pinned (OpenSpec.ofChange clockBoundsSpec)

/-- ITS FALSE NEIGHBOUR: 'it returns false'. Refute it at one input. -/
def clockBoundsWrong : ChangeSpec := { name := "clockBounds", fn := fun _ => fun
  | [d1, d2, d3] => { results := [.lit (.bool false)], args := [d1, d2, d3] }
  | _ => none }
def ClockBoundsWrongFalsely : Prop := clockBoundsRow.holds Try.pinned (OpenSpec.ofChange clockBoundsWrong)

/-- 'weirlaw03.ClockOver': WHATEVER THE INPUT: true; the input reads as it did. -/
def clockOverSpec : ChangeSpec := { name := "clockOver", fn := fun _ => fun
  | [d1, d2, d3, d4] => { results := [.lit (.bool true)], args := [d1, d2, d3, d4] }
  | _ => none }
def clockOverRow : OpenClaim := { program := "ytnbgilgnkedojaa", sum := "2aefc5a30326cbbcd4eac230e3e4c5ea7b103e1d797fd7d8d80bd88c392a28bb", func := "weir/weirlaw03.ClockOver", spec := "clockOver", unfollowed := true, recurses := true, named := ["math/bits.divideError", "math/bits.overflowError"], plainKeys := false, apart := false }
def ClockOverSaid : Prop := clockOverRow.holds Try.pinned (OpenSpec.ofChange clockOverSpec)

/-- ITS FALSE NEIGHBOUR: 'it returns false'. Refute it at one input. -/
def clockOverWrong : ChangeSpec := { name := "clockOver", fn := fun _ => fun
  | [d1, d2, d3, d4] => { results := [.lit (.bool false)], args := [d1, d2, d3, d4] }
  | _ => none }
def ClockOverWrongFalsely : Prop := clockOverRow.holds Try.pinned (OpenSpec.ofChange clockOverWrong)

/-- 'weirlaw02.AirPlays': WHATEVER THE INPUT: true; the input reads as it did. -/
def airPlaysSpec : ChangeSpec := { name := "airPlays", fn := fun _ => fun
  | [d] => { results := [.lit (.bool true)], args := [d] }
  | _ => none }
def airPlaysRow : OpenClaim := { program := "ytnbgilgnkedojaa", sum := "2aefc5a30326cbbcd4eac230e3e4c5ea7b103e1d797fd7d8d80bd88c392a28bb", func := "weir/weirlaw02.AirPlays", spec := "airPlays", unfollowed := true, recurses := true, plainKeys := false, apart := false }
def AirPlaysSaid : Prop := airPlaysRow.holds Try.pinned (OpenSpec.ofChange airPlaysSpec)

/-- ITS FALSE NEIGHBOUR: 'it returns false'. Refute it at one input. -/
def airPlaysWrong : ChangeSpec := { name := "airPlays", fn := fun _ => fun
  | [d] => { results := [.lit (.bool false)], args := [d] }
  | _ => none }
def AirPlaysWrongFalsely : Prop := airPlaysRow.holds Try.pinned (OpenSpec.ofChange airPlaysWrong)

/-- 'weirlaw03.ClockSteps': WHATEVER THE INPUT: true; the input reads as it did. -/
def clockStepsSpec : ChangeSpec := { name := "clockSteps", fn := fun _ => fun
  | [d1, d2] => { results := [.lit (.bool true)], args := [d1, d2] }
  | _ => none }
def clockStepsRow : OpenClaim := { program := "ytnbgilgnkedojaa", sum := "2aefc5a30326cbbcd4eac230e3e4c5ea7b103e1d797fd7d8d80bd88c392a28bb", func := "weir/weirlaw03.ClockSteps", spec := "clockSteps", unfollowed := true, recurses := true, named := ["math/bits.divideError", "math/bits.overflowError"], plainKeys := false, apart := false }
def ClockStepsSaid : Prop := clockStepsRow.holds Try.pinned (OpenSpec.ofChange clockStepsSpec)

/-- ITS FALSE NEIGHBOUR: 'it returns false'. Refute it at one input. -/
def clockStepsWrong : ChangeSpec := { name := "clockSteps", fn := fun _ => fun
  | [d1, d2] => { results := [.lit (.bool false)], args := [d1, d2] }
  | _ => none }
def ClockStepsWrongFalsely : Prop := clockStepsRow.holds Try.pinned (OpenSpec.ofChange clockStepsWrong)

/-- 'weirlaw20.StampCredits': WHATEVER THE INPUT: true; the input reads as it did. -/
def stampCreditsSpec : ChangeSpec := { name := "stampCredits", fn := fun _ => fun
  | [d1, d2, d3, d4, d5, d6, d7] => { results := [.lit (.bool true)], args := [d1, d2, d3, d4, d5, d6, d7] }
  | _ => none }
def stampCreditsRow : OpenClaim := { program := "ytnbgilgnkedojaa", sum := "2aefc5a30326cbbcd4eac230e3e4c5ea7b103e1d797fd7d8d80bd88c392a28bb", func := "weir/weirlaw20.StampCredits", spec := "stampCredits", unfollowed := true, recurses := true, named := ["math/bits.divideError", "math/bits.overflowError"], plainKeys := false, apart := false }
def StampCreditsSaid : Prop := stampCreditsRow.holds Try.pinned (OpenSpec.ofChange stampCreditsSpec)

/-- ITS FALSE NEIGHBOUR: 'it returns false'. Refute it at one input. -/
def stampCreditsWrong : ChangeSpec := { name := "stampCredits", fn := fun _ => fun
  | [d1, d2, d3, d4, d5, d6, d7] => { results := [.lit (.bool false)], args := [d1, d2, d3, d4, d5, d6, d7] }
  | _ => none }
def StampCreditsWrongFalsely : Prop := stampCreditsRow.holds Try.pinned (OpenSpec.ofChange stampCreditsWrong)

/-- 'weirlaw20.StampNever': WHATEVER THE INPUT: true; the input reads as it did. -/
def stampNeverSpec : ChangeSpec := { name := "stampNever", fn := fun _ => fun
  | [d1, d2, d3] => { results := [.lit (.bool true)], args := [d1, d2, d3] }
  | _ => none }
def stampNeverRow : OpenClaim := { program := "ytnbgilgnkedojaa", sum := "2aefc5a30326cbbcd4eac230e3e4c5ea7b103e1d797fd7d8d80bd88c392a28bb", func := "weir/weirlaw20.StampNever", spec := "stampNever", unfollowed := true, recurses := true, named := ["math/bits.divideError", "math/bits.overflowError"], plainKeys := false, apart := false }
def StampNeverSaid : Prop := stampNeverRow.holds Try.pinned (OpenSpec.ofChange stampNeverSpec)

/-- ITS FALSE NEIGHBOUR: 'it returns false'. Refute it at one input. -/
def stampNeverWrong : ChangeSpec := { name := "stampNever", fn := fun _ => fun
  | [d1, d2, d3] => { results := [.lit (.bool false)], args := [d1, d2, d3] }
  | _ => none }
def StampNeverWrongFalsely : Prop := stampNeverRow.holds Try.pinned (OpenSpec.ofChange stampNeverWrong)

/-- 'weirlaw30.JudgeWhole': WHATEVER THE INPUT: true; the input reads as it did. -/
def judgeWholeSpec : ChangeSpec := { name := "judgeWhole", fn := fun _ => fun
  | [d1, d2, d3, d4] => { results := [.lit (.bool true)], args := [d1, d2, d3, d4] }
  | _ => none }
def judgeWholeRow : OpenClaim := { program := "ytnbgilgnkedojaa", sum := "2aefc5a30326cbbcd4eac230e3e4c5ea7b103e1d797fd7d8d80bd88c392a28bb", func := "weir/weirlaw30.JudgeWhole", spec := "judgeWhole", unfollowed := true, recurses := true, plainKeys := false, apart := false }
def JudgeWholeSaid : Prop := judgeWholeRow.holds Try.pinned (OpenSpec.ofChange judgeWholeSpec)

/-- ITS FALSE NEIGHBOUR: 'it returns false'. Refute it at one input. -/
def judgeWholeWrong : ChangeSpec := { name := "judgeWhole", fn := fun _ => fun
  | [d1, d2, d3, d4] => { results := [.lit (.bool false)], args := [d1, d2, d3, d4] }
  | _ => none }
def JudgeWholeWrongFalsely : Prop := judgeWholeRow.holds Try.pinned (OpenSpec.ofChange judgeWholeWrong)

/- THE SECOND FORM. 'bulk': how many values and letters a reading holds, each counted each time it is reached (what is shared counts as often as it is met; a slice's spare places count too). A statement '..UptoSaid' is the law's where the arguments, and the package variables that the reading takes, are together of bulk at most 1048576: NARROWER than '..Said'. Prove '..Said' where nothing that the law and all that it calls make is longer than what came in: it says more and counts as full. Else prove '..UptoSaid'. A law counts once. -/
mutual
def uptoBulk {H : Type} : DataW H → Nat
  | .lit (.string bytes) => bytes.length + 1
  | .lit _ => 1
  | .nil => 1
  | .ptr d => uptoBulk d + 1
  | .slice elems spare => uptoBulkAll elems + uptoBulkAll spare + 1
  | .agg parts => uptoBulkAll parts + 1
  | .iface _ d => uptoBulk d + 1
  | .map entries => uptoBulkEntries entries + 1
  | .held _ => 1
def uptoBulkAll {H : Type} : List (DataW H) → Nat
  | [] => 0
  | d :: r => uptoBulk d + uptoBulkAll r
def uptoBulkEntries {H : Type} : List (Lit × DataW H) → Nat
  | [] => 0
  | x :: r => uptoBulkEntry x + uptoBulkEntries r
def uptoBulkEntry {H : Type} : Lit × DataW H → Nat
  | (.string bytes, d) => bytes.length + uptoBulk d + 1
  | (_, d) => uptoBulk d + 1
 end
def uptoSmall : (H : Type) → List (DataW H) → Bool := fun _ ds => decide (uptoBulkAll ds ≤ 1048576)
def OpenSpec.upto (s : _root_.Go.ChangeSpec) : _root_.Go.OpenSpec := { _root_.Go.OpenSpec.ofChange s with cond := some uptoSmall }

/-- 'weirlaw30.JudgeKept', WHERE WHAT IT READS IS OF BULK AT MOST 1048576: true; the input reads as it did. -/
def judgeKeptUptoRow : OpenClaim := { program := "ytnbgilgnkedojaa", sum := "2aefc5a30326cbbcd4eac230e3e4c5ea7b103e1d797fd7d8d80bd88c392a28bb", func := "weir/weirlaw30.JudgeKept", spec := "judgeKept", unfollowed := true, recurses := true, plainKeys := false, apart := false, narrowed := true }
def JudgeKeptUptoSaid : Prop := judgeKeptUptoRow.holds Try.pinned (OpenSpec.upto judgeKeptSpec)

/-- 'weirlaw30.JudgeAll', WHERE WHAT IT READS IS OF BULK AT MOST 1048576: true; the input reads as it did. -/
def judgeAllUptoRow : OpenClaim := { program := "ytnbgilgnkedojaa", sum := "2aefc5a30326cbbcd4eac230e3e4c5ea7b103e1d797fd7d8d80bd88c392a28bb", func := "weir/weirlaw30.JudgeAll", spec := "judgeAll", unfollowed := true, recurses := true, plainKeys := false, apart := false, narrowed := true }
def JudgeAllUptoSaid : Prop := judgeAllUptoRow.holds Try.pinned (OpenSpec.upto judgeAllSpec)

/-- 'weirlaw30.JudgeSums', WHERE WHAT IT READS IS OF BULK AT MOST 1048576: true; the input reads as it did. -/
def judgeSumsUptoRow : OpenClaim := { program := "ytnbgilgnkedojaa", sum := "2aefc5a30326cbbcd4eac230e3e4c5ea7b103e1d797fd7d8d80bd88c392a28bb", func := "weir/weirlaw30.JudgeSums", spec := "judgeSums", unfollowed := true, recurses := true, plainKeys := false, apart := false, narrowed := true }
def JudgeSumsUptoSaid : Prop := judgeSumsUptoRow.holds Try.pinned (OpenSpec.upto judgeSumsSpec)

/-- 'weirlaw02.AirOrder', WHERE WHAT IT READS IS OF BULK AT MOST 1048576: true; the input reads as it did. -/
def airOrderUptoRow : OpenClaim := { program := "ytnbgilgnkedojaa", sum := "2aefc5a30326cbbcd4eac230e3e4c5ea7b103e1d797fd7d8d80bd88c392a28bb", func := "weir/weirlaw02.AirOrder", spec := "airOrder", unfollowed := true, recurses := true, plainKeys := false, apart := false, narrowed := true }
def AirOrderUptoSaid : Prop := airOrderUptoRow.holds Try.pinned (OpenSpec.upto airOrderSpec)

/-- 'weirlaw02.AirCuts', WHERE WHAT IT READS IS OF BULK AT MOST 1048576: true; the input reads as it did. -/
def airCutsUptoRow : OpenClaim := { program := "ytnbgilgnkedojaa", sum := "2aefc5a30326cbbcd4eac230e3e4c5ea7b103e1d797fd7d8d80bd88c392a28bb", func := "weir/weirlaw02.AirCuts", spec := "airCuts", unfollowed := true, recurses := true, plainKeys := false, apart := false, narrowed := true }
def AirCutsUptoSaid : Prop := airCutsUptoRow.holds Try.pinned (OpenSpec.upto airCutsSpec)

/-- 'weirlaw30.JudgeFair', WHERE WHAT IT READS IS OF BULK AT MOST 1048576: true; the input reads as it did. -/
def judgeFairUptoRow : OpenClaim := { program := "ytnbgilgnkedojaa", sum := "2aefc5a30326cbbcd4eac230e3e4c5ea7b103e1d797fd7d8d80bd88c392a28bb", func := "weir/weirlaw30.JudgeFair", spec := "judgeFair", unfollowed := true, recurses := true, plainKeys := false, apart := false, narrowed := true }
def JudgeFairUptoSaid : Prop := judgeFairUptoRow.holds Try.pinned (OpenSpec.upto judgeFairSpec)

/-- 'weirlaw20.StampTells', WHERE WHAT IT READS IS OF BULK AT MOST 1048576: true; the input reads as it did. -/
def stampTellsUptoRow : OpenClaim := { program := "ytnbgilgnkedojaa", sum := "2aefc5a30326cbbcd4eac230e3e4c5ea7b103e1d797fd7d8d80bd88c392a28bb", func := "weir/weirlaw20.StampTells", spec := "stampTells", unfollowed := true, recurses := true, named := ["math/bits.divideError", "math/bits.overflowError"], plainKeys := false, apart := false, narrowed := true }
def StampTellsUptoSaid : Prop := stampTellsUptoRow.holds Try.pinned (OpenSpec.upto stampTellsSpec)

/-- 'weirlaw02.AirFull', WHERE WHAT IT READS IS OF BULK AT MOST 1048576: true; the input reads as it did. -/
def airFullUptoRow : OpenClaim := { program := "ytnbgilgnkedojaa", sum := "2aefc5a30326cbbcd4eac230e3e4c5ea7b103e1d797fd7d8d80bd88c392a28bb", func := "weir/weirlaw02.AirFull", spec := "airFull", unfollowed := true, recurses := true, plainKeys := false, apart := false, narrowed := true }
def AirFullUptoSaid : Prop := airFullUptoRow.holds Try.pinned (OpenSpec.upto airFullSpec)

/-- 'weirlaw03.ClockParts', WHERE WHAT IT READS IS OF BULK AT MOST 1048576: true; the input reads as it did. -/
def clockPartsUptoRow : OpenClaim := { program := "ytnbgilgnkedojaa", sum := "2aefc5a30326cbbcd4eac230e3e4c5ea7b103e1d797fd7d8d80bd88c392a28bb", func := "weir/weirlaw03.ClockParts", spec := "clockParts", unfollowed := true, recurses := true, named := ["math/bits.divideError", "math/bits.overflowError"], plainKeys := false, apart := false, narrowed := true }
def ClockPartsUptoSaid : Prop := clockPartsUptoRow.holds Try.pinned (OpenSpec.upto clockPartsSpec)

/-- 'weirlaw03.ClockBounds', WHERE WHAT IT READS IS OF BULK AT MOST 1048576: true; the input reads as it did. -/
def clockBoundsUptoRow : OpenClaim := { program := "ytnbgilgnkedojaa", sum := "2aefc5a30326cbbcd4eac230e3e4c5ea7b103e1d797fd7d8d80bd88c392a28bb", func := "weir/weirlaw03.ClockBounds", spec := "clockBounds", unfollowed := true, recurses := true, named := ["math/bits.divideError", "math/bits.overflowError"], plainKeys := false, apart := false, narrowed := true }
def ClockBoundsUptoSaid : Prop := clockBoundsUptoRow.holds Try.pinned (OpenSpec.upto clockBoundsSpec)

/-- 'weirlaw03.ClockOver', WHERE WHAT IT READS IS OF BULK AT MOST 1048576: true; the input reads as it did. -/
def clockOverUptoRow : OpenClaim := { program := "ytnbgilgnkedojaa", sum := "2aefc5a30326cbbcd4eac230e3e4c5ea7b103e1d797fd7d8d80bd88c392a28bb", func := "weir/weirlaw03.ClockOver", spec := "clockOver", unfollowed := true, recurses := true, named := ["math/bits.divideError", "math/bits.overflowError"], plainKeys := false, apart := false, narrowed := true }
def ClockOverUptoSaid : Prop := clockOverUptoRow.holds Try.pinned (OpenSpec.upto clockOverSpec)

/-- 'weirlaw02.AirPlays', WHERE WHAT IT READS IS OF BULK AT MOST 1048576: true; the input reads as it did. -/
def airPlaysUptoRow : OpenClaim := { program := "ytnbgilgnkedojaa", sum := "2aefc5a30326cbbcd4eac230e3e4c5ea7b103e1d797fd7d8d80bd88c392a28bb", func := "weir/weirlaw02.AirPlays", spec := "airPlays", unfollowed := true, recurses := true, plainKeys := false, apart := false, narrowed := true }
def AirPlaysUptoSaid : Prop := airPlaysUptoRow.holds Try.pinned (OpenSpec.upto airPlaysSpec)

/-- 'weirlaw03.ClockSteps', WHERE WHAT IT READS IS OF BULK AT MOST 1048576: true; the input reads as it did. -/
def clockStepsUptoRow : OpenClaim := { program := "ytnbgilgnkedojaa", sum := "2aefc5a30326cbbcd4eac230e3e4c5ea7b103e1d797fd7d8d80bd88c392a28bb", func := "weir/weirlaw03.ClockSteps", spec := "clockSteps", unfollowed := true, recurses := true, named := ["math/bits.divideError", "math/bits.overflowError"], plainKeys := false, apart := false, narrowed := true }
def ClockStepsUptoSaid : Prop := clockStepsUptoRow.holds Try.pinned (OpenSpec.upto clockStepsSpec)

/-- 'weirlaw20.StampCredits', WHERE WHAT IT READS IS OF BULK AT MOST 1048576: true; the input reads as it did. -/
def stampCreditsUptoRow : OpenClaim := { program := "ytnbgilgnkedojaa", sum := "2aefc5a30326cbbcd4eac230e3e4c5ea7b103e1d797fd7d8d80bd88c392a28bb", func := "weir/weirlaw20.StampCredits", spec := "stampCredits", unfollowed := true, recurses := true, named := ["math/bits.divideError", "math/bits.overflowError"], plainKeys := false, apart := false, narrowed := true }
def StampCreditsUptoSaid : Prop := stampCreditsUptoRow.holds Try.pinned (OpenSpec.upto stampCreditsSpec)

/-- 'weirlaw20.StampNever', WHERE WHAT IT READS IS OF BULK AT MOST 1048576: true; the input reads as it did. -/
def stampNeverUptoRow : OpenClaim := { program := "ytnbgilgnkedojaa", sum := "2aefc5a30326cbbcd4eac230e3e4c5ea7b103e1d797fd7d8d80bd88c392a28bb", func := "weir/weirlaw20.StampNever", spec := "stampNever", unfollowed := true, recurses := true, named := ["math/bits.divideError", "math/bits.overflowError"], plainKeys := false, apart := false, narrowed := true }
def StampNeverUptoSaid : Prop := stampNeverUptoRow.holds Try.pinned (OpenSpec.upto stampNeverSpec)

/-- 'weirlaw30.JudgeWhole', WHERE WHAT IT READS IS OF BULK AT MOST 1048576: true; the input reads as it did. -/
def judgeWholeUptoRow : OpenClaim := { program := "ytnbgilgnkedojaa", sum := "2aefc5a30326cbbcd4eac230e3e4c5ea7b103e1d797fd7d8d80bd88c392a28bb", func := "weir/weirlaw30.JudgeWhole", spec := "judgeWhole", unfollowed := true, recurses := true, plainKeys := false, apart := false, narrowed := true }
def JudgeWholeUptoSaid : Prop := judgeWholeUptoRow.holds Try.pinned (OpenSpec.upto judgeWholeSpec)

end Rows
end Go.Proofs.Ytnbgilgnkedojaa
