/-
  No cell of these rows narrows 'for every input' (looked for: loops, veiled, ifaces, maps, wideKeys, modest, calm, conditions, laid).
  DERIVED. THE GIVEN ROWS OF THIS SEAT. 12 by the template 'for every input the law returns true; each argument reads behind the call as it read before'; 0 by the template 'total and deterministic' (their statements: YtadklddedeoniaaTotals.lean).
  GIVEN WITH THE SEED: the statements are not yours to turn. If you find one false, say at which input.
  Laid BY PROGRAM, IN A SANDBOX (cutbox-rows.mjs): the forced cells as the released guide's own fill.sh prints them over the translation 8f66a37ad29be68c… (all of the seat's roots in one cut). By AI agents, Wed Nov 11 2026. No macro, syntax, notation, axiom, sorry.
-/
import Derived.Test.YtadklddedeoniaaChecked
import GoSem.Claim
import GoSem.ClaimJoined
import GoSem.ClaimMapViews
import Derived.JoinedTies
import Derived.KernelRfl
namespace Go.Proofs.Ytadklddedeoniaa
/- THE CELL 'sum', in the pinned program and in every row, IS THE sha256 OF THE DUMP (.gsa) THAT YtadklddedeoniaaProg.lean LOADS. Nothing in Lean hashes anything: it is a label: what it is worth is what the hold of that sum in a sandbox is worth. -/
noncomputable def Try.pinned : Pinned := { name := "ytadklddedeoniaa", sum := "8f66a37ad29be68ceb437efed96a81a07d28f6ea26eb033c3e6957c444e73c3f", checked := Try.checked }
namespace Rows
def none {H : Type} : Left H := { results := [], args := [] }

/-- 'laws.FnExactWaySums': WHATEVER THE INPUT: true; the input reads as it did. -/
def fnExactWaySumsSpec : ChangeSpec := { name := "fnExactWaySums", fn := fun _ => fun
  | [d] => { results := [.lit (.bool true)], args := [d] }
  | _ => none }
def fnExactWaySumsRow : OpenClaim := { program := "ytadklddedeoniaa", sum := "8f66a37ad29be68ceb437efed96a81a07d28f6ea26eb033c3e6957c444e73c3f", func := "loop.example/g00939/laws.FnExactWaySums", spec := "fnExactWaySums", apart := false }
def FnExactWaySumsSaid : Prop := fnExactWaySumsRow.holds Try.pinned (OpenSpec.ofChange fnExactWaySumsSpec)

/-- ITS FALSE NEIGHBOUR: 'it returns false'. Refute it at one input. -/
def fnExactWaySumsWrong : ChangeSpec := { name := "fnExactWaySums", fn := fun _ => fun
  | [d] => { results := [.lit (.bool false)], args := [d] }
  | _ => none }
def FnExactWaySumsWrongFalsely : Prop := fnExactWaySumsRow.holds Try.pinned (OpenSpec.ofChange fnExactWaySumsWrong)

/-- 'laws.FnExactWideSteps': WHATEVER THE INPUT: true; the input reads as it did. -/
def fnExactWideStepsSpec : ChangeSpec := { name := "fnExactWideSteps", fn := fun _ => fun
  | [d1, d2] => { results := [.lit (.bool true)], args := [d1, d2] }
  | _ => none }
def fnExactWideStepsRow : OpenClaim := { program := "ytadklddedeoniaa", sum := "8f66a37ad29be68ceb437efed96a81a07d28f6ea26eb033c3e6957c444e73c3f", func := "loop.example/g00939/laws.FnExactWideSteps", spec := "fnExactWideSteps", apart := false }
def FnExactWideStepsSaid : Prop := fnExactWideStepsRow.holds Try.pinned (OpenSpec.ofChange fnExactWideStepsSpec)

/-- ITS FALSE NEIGHBOUR: 'it returns false'. Refute it at one input. -/
def fnExactWideStepsWrong : ChangeSpec := { name := "fnExactWideSteps", fn := fun _ => fun
  | [d1, d2] => { results := [.lit (.bool false)], args := [d1, d2] }
  | _ => none }
def FnExactWideStepsWrongFalsely : Prop := fnExactWideStepsRow.holds Try.pinned (OpenSpec.ofChange fnExactWideStepsWrong)

/-- 'laws.FnExactCuesBetween': WHATEVER THE INPUT: true; the input reads as it did. -/
def fnExactCuesBetweenSpec : ChangeSpec := { name := "fnExactCuesBetween", fn := fun _ => fun
  | [d1, d2, d3, d4] => { results := [.lit (.bool true)], args := [d1, d2, d3, d4] }
  | _ => none }
def fnExactCuesBetweenRow : OpenClaim := { program := "ytadklddedeoniaa", sum := "8f66a37ad29be68ceb437efed96a81a07d28f6ea26eb033c3e6957c444e73c3f", func := "loop.example/g00939/laws.FnExactCuesBetween", spec := "fnExactCuesBetween", unfollowed := true, recurses := true, apart := false }
def FnExactCuesBetweenSaid : Prop := fnExactCuesBetweenRow.holds Try.pinned (OpenSpec.ofChange fnExactCuesBetweenSpec)

/-- ITS FALSE NEIGHBOUR: 'it returns false'. Refute it at one input. -/
def fnExactCuesBetweenWrong : ChangeSpec := { name := "fnExactCuesBetween", fn := fun _ => fun
  | [d1, d2, d3, d4] => { results := [.lit (.bool false)], args := [d1, d2, d3, d4] }
  | _ => none }
def FnExactCuesBetweenWrongFalsely : Prop := fnExactCuesBetweenRow.holds Try.pinned (OpenSpec.ofChange fnExactCuesBetweenWrong)

/-- 'laws.FnExactMostBehind': WHATEVER THE INPUT: true; the input reads as it did. -/
def fnExactMostBehindSpec : ChangeSpec := { name := "fnExactMostBehind", fn := fun _ => fun
  | [d] => { results := [.lit (.bool true)], args := [d] }
  | _ => none }
def fnExactMostBehindRow : OpenClaim := { program := "ytadklddedeoniaa", sum := "8f66a37ad29be68ceb437efed96a81a07d28f6ea26eb033c3e6957c444e73c3f", func := "loop.example/g00939/laws.FnExactMostBehind", spec := "fnExactMostBehind", apart := false }
def FnExactMostBehindSaid : Prop := fnExactMostBehindRow.holds Try.pinned (OpenSpec.ofChange fnExactMostBehindSpec)

/-- ITS FALSE NEIGHBOUR: 'it returns false'. Refute it at one input. -/
def fnExactMostBehindWrong : ChangeSpec := { name := "fnExactMostBehind", fn := fun _ => fun
  | [d] => { results := [.lit (.bool false)], args := [d] }
  | _ => none }
def FnExactMostBehindWrongFalsely : Prop := fnExactMostBehindRow.holds Try.pinned (OpenSpec.ofChange fnExactMostBehindWrong)

/-- 'laws.FnExactReverseShow': WHATEVER THE INPUT: true; the input reads as it did. -/
def fnExactReverseShowSpec : ChangeSpec := { name := "fnExactReverseShow", fn := fun _ => fun
  | [d] => { results := [.lit (.bool true)], args := [d] }
  | _ => none }
def fnExactReverseShowRow : OpenClaim := { program := "ytadklddedeoniaa", sum := "8f66a37ad29be68ceb437efed96a81a07d28f6ea26eb033c3e6957c444e73c3f", func := "loop.example/g00939/laws.FnExactReverseShow", spec := "fnExactReverseShow", apart := false }
def FnExactReverseShowSaid : Prop := fnExactReverseShowRow.holds Try.pinned (OpenSpec.ofChange fnExactReverseShowSpec)

/-- ITS FALSE NEIGHBOUR: 'it returns false'. Refute it at one input. -/
def fnExactReverseShowWrong : ChangeSpec := { name := "fnExactReverseShow", fn := fun _ => fun
  | [d] => { results := [.lit (.bool false)], args := [d] }
  | _ => none }
def FnExactReverseShowWrongFalsely : Prop := fnExactReverseShowRow.holds Try.pinned (OpenSpec.ofChange fnExactReverseShowWrong)

/-- 'laws.FnExactAddShowChart': WHATEVER THE INPUT: true; the input reads as it did. -/
def fnExactAddShowChartSpec : ChangeSpec := { name := "fnExactAddShowChart", fn := fun _ => fun
  | [d1, d2, d3] => { results := [.lit (.bool true)], args := [d1, d2, d3] }
  | _ => none }
def fnExactAddShowChartRow : OpenClaim := { program := "ytadklddedeoniaa", sum := "8f66a37ad29be68ceb437efed96a81a07d28f6ea26eb033c3e6957c444e73c3f", func := "loop.example/g00939/laws.FnExactAddShowChart", spec := "fnExactAddShowChart", apart := false }
def FnExactAddShowChartSaid : Prop := fnExactAddShowChartRow.holds Try.pinned (OpenSpec.ofChange fnExactAddShowChartSpec)

/-- ITS FALSE NEIGHBOUR: 'it returns false'. Refute it at one input. -/
def fnExactAddShowChartWrong : ChangeSpec := { name := "fnExactAddShowChart", fn := fun _ => fun
  | [d1, d2, d3] => { results := [.lit (.bool false)], args := [d1, d2, d3] }
  | _ => none }
def FnExactAddShowChartWrongFalsely : Prop := fnExactAddShowChartRow.holds Try.pinned (OpenSpec.ofChange fnExactAddShowChartWrong)

/-- 'laws.FnExactStretchShow': WHATEVER THE INPUT: true; the input reads as it did. -/
def fnExactStretchShowSpec : ChangeSpec := { name := "fnExactStretchShow", fn := fun _ => fun
  | [d1, d2, d3] => { results := [.lit (.bool true)], args := [d1, d2, d3] }
  | _ => none }
def fnExactStretchShowRow : OpenClaim := { program := "ytadklddedeoniaa", sum := "8f66a37ad29be68ceb437efed96a81a07d28f6ea26eb033c3e6957c444e73c3f", func := "loop.example/g00939/laws.FnExactStretchShow", spec := "fnExactStretchShow", apart := false }
def FnExactStretchShowSaid : Prop := fnExactStretchShowRow.holds Try.pinned (OpenSpec.ofChange fnExactStretchShowSpec)

/-- ITS FALSE NEIGHBOUR: 'it returns false'. Refute it at one input. -/
def fnExactStretchShowWrong : ChangeSpec := { name := "fnExactStretchShow", fn := fun _ => fun
  | [d1, d2, d3] => { results := [.lit (.bool false)], args := [d1, d2, d3] }
  | _ => none }
def FnExactStretchShowWrongFalsely : Prop := fnExactStretchShowRow.holds Try.pinned (OpenSpec.ofChange fnExactStretchShowWrong)

/-- 'laws.FnExactShowMoves': WHATEVER THE INPUT: true; the input reads as it did. -/
def fnExactShowMovesSpec : ChangeSpec := { name := "fnExactShowMoves", fn := fun _ => fun
  | [d1, d2] => { results := [.lit (.bool true)], args := [d1, d2] }
  | _ => none }
def fnExactShowMovesRow : OpenClaim := { program := "ytadklddedeoniaa", sum := "8f66a37ad29be68ceb437efed96a81a07d28f6ea26eb033c3e6957c444e73c3f", func := "loop.example/g00939/laws.FnExactShowMoves", spec := "fnExactShowMoves", apart := false }
def FnExactShowMovesSaid : Prop := fnExactShowMovesRow.holds Try.pinned (OpenSpec.ofChange fnExactShowMovesSpec)

/-- ITS FALSE NEIGHBOUR: 'it returns false'. Refute it at one input. -/
def fnExactShowMovesWrong : ChangeSpec := { name := "fnExactShowMoves", fn := fun _ => fun
  | [d1, d2] => { results := [.lit (.bool false)], args := [d1, d2] }
  | _ => none }
def FnExactShowMovesWrongFalsely : Prop := fnExactShowMovesRow.holds Try.pinned (OpenSpec.ofChange fnExactShowMovesWrong)

/-- 'laws.FnExactLeastCountsOf': WHATEVER THE INPUT: true; the input reads as it did. -/
def fnExactLeastCountsOfSpec : ChangeSpec := { name := "fnExactLeastCountsOf", fn := fun _ => fun
  | [d] => { results := [.lit (.bool true)], args := [d] }
  | _ => none }
def fnExactLeastCountsOfRow : OpenClaim := { program := "ytadklddedeoniaa", sum := "8f66a37ad29be68ceb437efed96a81a07d28f6ea26eb033c3e6957c444e73c3f", func := "loop.example/g00939/laws.FnExactLeastCountsOf", spec := "fnExactLeastCountsOf", apart := false }
def FnExactLeastCountsOfSaid : Prop := fnExactLeastCountsOfRow.holds Try.pinned (OpenSpec.ofChange fnExactLeastCountsOfSpec)

/-- ITS FALSE NEIGHBOUR: 'it returns false'. Refute it at one input. -/
def fnExactLeastCountsOfWrong : ChangeSpec := { name := "fnExactLeastCountsOf", fn := fun _ => fun
  | [d] => { results := [.lit (.bool false)], args := [d] }
  | _ => none }
def FnExactLeastCountsOfWrongFalsely : Prop := fnExactLeastCountsOfRow.holds Try.pinned (OpenSpec.ofChange fnExactLeastCountsOfWrong)

/-- 'laws.FnExactNewMarch': WHATEVER THE INPUT: true; the input reads as it did. -/
def fnExactNewMarchSpec : ChangeSpec := { name := "fnExactNewMarch", fn := fun _ => fun
  | [d] => { results := [.lit (.bool true)], args := [d] }
  | _ => none }
def fnExactNewMarchRow : OpenClaim := { program := "ytadklddedeoniaa", sum := "8f66a37ad29be68ceb437efed96a81a07d28f6ea26eb033c3e6957c444e73c3f", func := "loop.example/g00939/laws.FnExactNewMarch", spec := "fnExactNewMarch", apart := false }
def FnExactNewMarchSaid : Prop := fnExactNewMarchRow.holds Try.pinned (OpenSpec.ofChange fnExactNewMarchSpec)

/-- ITS FALSE NEIGHBOUR: 'it returns false'. Refute it at one input. -/
def fnExactNewMarchWrong : ChangeSpec := { name := "fnExactNewMarch", fn := fun _ => fun
  | [d] => { results := [.lit (.bool false)], args := [d] }
  | _ => none }
def FnExactNewMarchWrongFalsely : Prop := fnExactNewMarchRow.holds Try.pinned (OpenSpec.ofChange fnExactNewMarchWrong)

/-- 'laws.FnExactDropShowChart': WHATEVER THE INPUT: true; the input reads as it did. -/
def fnExactDropShowChartSpec : ChangeSpec := { name := "fnExactDropShowChart", fn := fun _ => fun
  | [d1, d2] => { results := [.lit (.bool true)], args := [d1, d2] }
  | _ => none }
def fnExactDropShowChartRow : OpenClaim := { program := "ytadklddedeoniaa", sum := "8f66a37ad29be68ceb437efed96a81a07d28f6ea26eb033c3e6957c444e73c3f", func := "loop.example/g00939/laws.FnExactDropShowChart", spec := "fnExactDropShowChart", apart := false }
def FnExactDropShowChartSaid : Prop := fnExactDropShowChartRow.holds Try.pinned (OpenSpec.ofChange fnExactDropShowChartSpec)

/-- ITS FALSE NEIGHBOUR: 'it returns false'. Refute it at one input. -/
def fnExactDropShowChartWrong : ChangeSpec := { name := "fnExactDropShowChart", fn := fun _ => fun
  | [d1, d2] => { results := [.lit (.bool false)], args := [d1, d2] }
  | _ => none }
def FnExactDropShowChartWrongFalsely : Prop := fnExactDropShowChartRow.holds Try.pinned (OpenSpec.ofChange fnExactDropShowChartWrong)

/-- 'laws.FnExactStillGoing': WHATEVER THE INPUT: true; the input reads as it did. -/
def fnExactStillGoingSpec : ChangeSpec := { name := "fnExactStillGoing", fn := fun _ => fun
  | [d] => { results := [.lit (.bool true)], args := [d] }
  | _ => none }
def fnExactStillGoingRow : OpenClaim := { program := "ytadklddedeoniaa", sum := "8f66a37ad29be68ceb437efed96a81a07d28f6ea26eb033c3e6957c444e73c3f", func := "loop.example/g00939/laws.FnExactStillGoing", spec := "fnExactStillGoing", apart := false }
def FnExactStillGoingSaid : Prop := fnExactStillGoingRow.holds Try.pinned (OpenSpec.ofChange fnExactStillGoingSpec)

/-- ITS FALSE NEIGHBOUR: 'it returns false'. Refute it at one input. -/
def fnExactStillGoingWrong : ChangeSpec := { name := "fnExactStillGoing", fn := fun _ => fun
  | [d] => { results := [.lit (.bool false)], args := [d] }
  | _ => none }
def FnExactStillGoingWrongFalsely : Prop := fnExactStillGoingRow.holds Try.pinned (OpenSpec.ofChange fnExactStillGoingWrong)

/- THE SECOND FORM. 'bulk': how many values and letters a reading holds, each counted each time it is reached (what is shared counts as often as it is met; a slice's spare places count too). A statement '..UptoSaid' is the law's where the arguments, and the package variables that the reading takes, are together of bulk at most 1048576: NARROWER than '..Said'. Prove '..Said' where nothing that the law and all that it calls make is longer than what came in: it says more and counts as full. Else prove '..UptoSaid'. A law counts once. -/
mutual
def uptoBulk {H : Type} : DataW H → Nat
  | .lit (.string bytes) => bytes.length + 1
  | .lit _ => 1
  | .nil => 1
  | .ptr d => uptoBulk d + 1
  | .slice elems spare => uptoBulkAll elems + uptoBulkAll spare + 1
  | .agg parts => uptoBulkAll parts + 1
  | .iface _ d => uptoBulk d + 1
  | .map entries => uptoBulkEntries entries + 1
  | .held _ => 1
def uptoBulkAll {H : Type} : List (DataW H) → Nat
  | [] => 0
  | d :: r => uptoBulk d + uptoBulkAll r
def uptoBulkEntries {H : Type} : List (Lit × DataW H) → Nat
  | [] => 0
  | x :: r => uptoBulkEntry x + uptoBulkEntries r
def uptoBulkEntry {H : Type} : Lit × DataW H → Nat
  | (.string bytes, d) => bytes.length + uptoBulk d + 1
  | (_, d) => uptoBulk d + 1
 end
def uptoSmall : (H : Type) → List (DataW H) → Bool := fun _ ds => decide (uptoBulkAll ds ≤ 1048576)
def OpenSpec.upto (s : _root_.Go.ChangeSpec) : _root_.Go.OpenSpec := { _root_.Go.OpenSpec.ofChange s with cond := some uptoSmall }

/-- 'laws.FnExactWaySums', WHERE WHAT IT READS IS OF BULK AT MOST 1048576: true; the input reads as it did. -/
def fnExactWaySumsUptoRow : OpenClaim := { program := "ytadklddedeoniaa", sum := "8f66a37ad29be68ceb437efed96a81a07d28f6ea26eb033c3e6957c444e73c3f", func := "loop.example/g00939/laws.FnExactWaySums", spec := "fnExactWaySums", apart := false, narrowed := true }
def FnExactWaySumsUptoSaid : Prop := fnExactWaySumsUptoRow.holds Try.pinned (OpenSpec.upto fnExactWaySumsSpec)

/-- 'laws.FnExactWideSteps', WHERE WHAT IT READS IS OF BULK AT MOST 1048576: true; the input reads as it did. -/
def fnExactWideStepsUptoRow : OpenClaim := { program := "ytadklddedeoniaa", sum := "8f66a37ad29be68ceb437efed96a81a07d28f6ea26eb033c3e6957c444e73c3f", func := "loop.example/g00939/laws.FnExactWideSteps", spec := "fnExactWideSteps", apart := false, narrowed := true }
def FnExactWideStepsUptoSaid : Prop := fnExactWideStepsUptoRow.holds Try.pinned (OpenSpec.upto fnExactWideStepsSpec)

/-- 'laws.FnExactCuesBetween', WHERE WHAT IT READS IS OF BULK AT MOST 1048576: true; the input reads as it did. -/
def fnExactCuesBetweenUptoRow : OpenClaim := { program := "ytadklddedeoniaa", sum := "8f66a37ad29be68ceb437efed96a81a07d28f6ea26eb033c3e6957c444e73c3f", func := "loop.example/g00939/laws.FnExactCuesBetween", spec := "fnExactCuesBetween", unfollowed := true, recurses := true, apart := false, narrowed := true }
def FnExactCuesBetweenUptoSaid : Prop := fnExactCuesBetweenUptoRow.holds Try.pinned (OpenSpec.upto fnExactCuesBetweenSpec)

/-- 'laws.FnExactMostBehind', WHERE WHAT IT READS IS OF BULK AT MOST 1048576: true; the input reads as it did. -/
def fnExactMostBehindUptoRow : OpenClaim := { program := "ytadklddedeoniaa", sum := "8f66a37ad29be68ceb437efed96a81a07d28f6ea26eb033c3e6957c444e73c3f", func := "loop.example/g00939/laws.FnExactMostBehind", spec := "fnExactMostBehind", apart := false, narrowed := true }
def FnExactMostBehindUptoSaid : Prop := fnExactMostBehindUptoRow.holds Try.pinned (OpenSpec.upto fnExactMostBehindSpec)

/-- 'laws.FnExactReverseShow', WHERE WHAT IT READS IS OF BULK AT MOST 1048576: true; the input reads as it did. -/
def fnExactReverseShowUptoRow : OpenClaim := { program := "ytadklddedeoniaa", sum := "8f66a37ad29be68ceb437efed96a81a07d28f6ea26eb033c3e6957c444e73c3f", func := "loop.example/g00939/laws.FnExactReverseShow", spec := "fnExactReverseShow", apart := false, narrowed := true }
def FnExactReverseShowUptoSaid : Prop := fnExactReverseShowUptoRow.holds Try.pinned (OpenSpec.upto fnExactReverseShowSpec)

/-- 'laws.FnExactAddShowChart', WHERE WHAT IT READS IS OF BULK AT MOST 1048576: true; the input reads as it did. -/
def fnExactAddShowChartUptoRow : OpenClaim := { program := "ytadklddedeoniaa", sum := "8f66a37ad29be68ceb437efed96a81a07d28f6ea26eb033c3e6957c444e73c3f", func := "loop.example/g00939/laws.FnExactAddShowChart", spec := "fnExactAddShowChart", apart := false, narrowed := true }
def FnExactAddShowChartUptoSaid : Prop := fnExactAddShowChartUptoRow.holds Try.pinned (OpenSpec.upto fnExactAddShowChartSpec)

/-- 'laws.FnExactStretchShow', WHERE WHAT IT READS IS OF BULK AT MOST 1048576: true; the input reads as it did. -/
def fnExactStretchShowUptoRow : OpenClaim := { program := "ytadklddedeoniaa", sum := "8f66a37ad29be68ceb437efed96a81a07d28f6ea26eb033c3e6957c444e73c3f", func := "loop.example/g00939/laws.FnExactStretchShow", spec := "fnExactStretchShow", apart := false, narrowed := true }
def FnExactStretchShowUptoSaid : Prop := fnExactStretchShowUptoRow.holds Try.pinned (OpenSpec.upto fnExactStretchShowSpec)

/-- 'laws.FnExactShowMoves', WHERE WHAT IT READS IS OF BULK AT MOST 1048576: true; the input reads as it did. -/
def fnExactShowMovesUptoRow : OpenClaim := { program := "ytadklddedeoniaa", sum := "8f66a37ad29be68ceb437efed96a81a07d28f6ea26eb033c3e6957c444e73c3f", func := "loop.example/g00939/laws.FnExactShowMoves", spec := "fnExactShowMoves", apart := false, narrowed := true }
def FnExactShowMovesUptoSaid : Prop := fnExactShowMovesUptoRow.holds Try.pinned (OpenSpec.upto fnExactShowMovesSpec)

/-- 'laws.FnExactLeastCountsOf', WHERE WHAT IT READS IS OF BULK AT MOST 1048576: true; the input reads as it did. -/
def fnExactLeastCountsOfUptoRow : OpenClaim := { program := "ytadklddedeoniaa", sum := "8f66a37ad29be68ceb437efed96a81a07d28f6ea26eb033c3e6957c444e73c3f", func := "loop.example/g00939/laws.FnExactLeastCountsOf", spec := "fnExactLeastCountsOf", apart := false, narrowed := true }
def FnExactLeastCountsOfUptoSaid : Prop := fnExactLeastCountsOfUptoRow.holds Try.pinned (OpenSpec.upto fnExactLeastCountsOfSpec)

/-- 'laws.FnExactNewMarch', WHERE WHAT IT READS IS OF BULK AT MOST 1048576: true; the input reads as it did. -/
def fnExactNewMarchUptoRow : OpenClaim := { program := "ytadklddedeoniaa", sum := "8f66a37ad29be68ceb437efed96a81a07d28f6ea26eb033c3e6957c444e73c3f", func := "loop.example/g00939/laws.FnExactNewMarch", spec := "fnExactNewMarch", apart := false, narrowed := true }
def FnExactNewMarchUptoSaid : Prop := fnExactNewMarchUptoRow.holds Try.pinned (OpenSpec.upto fnExactNewMarchSpec)

/-- 'laws.FnExactDropShowChart', WHERE WHAT IT READS IS OF BULK AT MOST 1048576: true; the input reads as it did. -/
def fnExactDropShowChartUptoRow : OpenClaim := { program := "ytadklddedeoniaa", sum := "8f66a37ad29be68ceb437efed96a81a07d28f6ea26eb033c3e6957c444e73c3f", func := "loop.example/g00939/laws.FnExactDropShowChart", spec := "fnExactDropShowChart", apart := false, narrowed := true }
def FnExactDropShowChartUptoSaid : Prop := fnExactDropShowChartUptoRow.holds Try.pinned (OpenSpec.upto fnExactDropShowChartSpec)

/-- 'laws.FnExactStillGoing', WHERE WHAT IT READS IS OF BULK AT MOST 1048576: true; the input reads as it did. -/
def fnExactStillGoingUptoRow : OpenClaim := { program := "ytadklddedeoniaa", sum := "8f66a37ad29be68ceb437efed96a81a07d28f6ea26eb033c3e6957c444e73c3f", func := "loop.example/g00939/laws.FnExactStillGoing", spec := "fnExactStillGoing", apart := false, narrowed := true }
def FnExactStillGoingUptoSaid : Prop := fnExactStillGoingUptoRow.holds Try.pinned (OpenSpec.upto fnExactStillGoingSpec)

end Rows
end Go.Proofs.Ytadklddedeoniaa
