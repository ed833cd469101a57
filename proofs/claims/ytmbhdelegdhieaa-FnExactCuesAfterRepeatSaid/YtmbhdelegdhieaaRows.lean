/-
  No cell of these rows narrows 'for every input' (looked for: loops, veiled, ifaces, maps, wideKeys, modest, calm, conditions, laid).
  DERIVED. THE GIVEN ROWS OF THIS SEAT. 12 by the template 'for every input the law returns true; each argument reads behind the call as it read before'; 0 by the template 'total and deterministic' (their statements: YtmbhdelegdhieaaTotals.lean).
  GIVEN WITH THE SEED: the statements are not yours to turn. If you find one false, say at which input.
  Laid BY PROGRAM, IN A SANDBOX (cutbox-rows.mjs): the forced cells as the released guide's own fill.sh prints them over the translation 74d216db49f35e88… (all of the seat's roots in one cut). By AI agents, Wed Nov 11 2026. No macro, syntax, notation, axiom, sorry.
-/
import Derived.Test.YtmbhdelegdhieaaChecked
import GoSem.Claim
import GoSem.ClaimJoined
import GoSem.ClaimMapViews
import Derived.JoinedTies
import Derived.KernelRfl
namespace Go.Proofs.Ytmbhdelegdhieaa
/- THE CELL 'sum', in the pinned program and in every row, IS THE sha256 OF THE DUMP (.gsa) THAT YtmbhdelegdhieaaProg.lean LOADS. Nothing in Lean hashes anything: it is a label: what it is worth is what the hold of that sum in a sandbox is worth. -/
noncomputable def Try.pinned : Pinned := { name := "ytmbhdelegdhieaa", sum := "74d216db49f35e88009b756dd359ada59d92ae01fbb4fdb5903e96933265a4ee", checked := Try.checked }
namespace Rows
def none {H : Type} : Left H := { results := [], args := [] }

/-- 'laws.FnExactIsShow': WHATEVER THE INPUT: true; the input reads as it did. -/
def fnExactIsShowSpec : ChangeSpec := { name := "fnExactIsShow", fn := fun _ => fun
  | [d] => { results := [.lit (.bool true)], args := [d] }
  | _ => none }
def fnExactIsShowRow : OpenClaim := { program := "ytmbhdelegdhieaa", sum := "74d216db49f35e88009b756dd359ada59d92ae01fbb4fdb5903e96933265a4ee", func := "loop.example/g00939/laws.FnExactIsShow", spec := "fnExactIsShow", apart := false }
def FnExactIsShowSaid : Prop := fnExactIsShowRow.holds Try.pinned (OpenSpec.ofChange fnExactIsShowSpec)

/-- ITS FALSE NEIGHBOUR: 'it returns false'. Refute it at one input. -/
def fnExactIsShowWrong : ChangeSpec := { name := "fnExactIsShow", fn := fun _ => fun
  | [d] => { results := [.lit (.bool false)], args := [d] }
  | _ => none }
def FnExactIsShowWrongFalsely : Prop := fnExactIsShowRow.holds Try.pinned (OpenSpec.ofChange fnExactIsShowWrong)

/-- 'laws.FnExactTotalCounts': WHATEVER THE INPUT: true; the input reads as it did. -/
def fnExactTotalCountsSpec : ChangeSpec := { name := "fnExactTotalCounts", fn := fun _ => fun
  | [d] => { results := [.lit (.bool true)], args := [d] }
  | _ => none }
def fnExactTotalCountsRow : OpenClaim := { program := "ytmbhdelegdhieaa", sum := "74d216db49f35e88009b756dd359ada59d92ae01fbb4fdb5903e96933265a4ee", func := "loop.example/g00939/laws.FnExactTotalCounts", spec := "fnExactTotalCounts", apart := false }
def FnExactTotalCountsSaid : Prop := fnExactTotalCountsRow.holds Try.pinned (OpenSpec.ofChange fnExactTotalCountsSpec)

/-- ITS FALSE NEIGHBOUR: 'it returns false'. Refute it at one input. -/
def fnExactTotalCountsWrong : ChangeSpec := { name := "fnExactTotalCounts", fn := fun _ => fun
  | [d] => { results := [.lit (.bool false)], args := [d] }
  | _ => none }
def FnExactTotalCountsWrongFalsely : Prop := fnExactTotalCountsRow.holds Try.pinned (OpenSpec.ofChange fnExactTotalCountsWrong)

/-- 'laws.FnExactLastCueAt': WHATEVER THE INPUT: true; the input reads as it did. -/
def fnExactLastCueAtSpec : ChangeSpec := { name := "fnExactLastCueAt", fn := fun _ => fun
  | [d1, d2, d3] => { results := [.lit (.bool true)], args := [d1, d2, d3] }
  | _ => none }
def fnExactLastCueAtRow : OpenClaim := { program := "ytmbhdelegdhieaa", sum := "74d216db49f35e88009b756dd359ada59d92ae01fbb4fdb5903e96933265a4ee", func := "loop.example/g00939/laws.FnExactLastCueAt", spec := "fnExactLastCueAt", unfollowed := true, recurses := true, apart := false }
def FnExactLastCueAtSaid : Prop := fnExactLastCueAtRow.holds Try.pinned (OpenSpec.ofChange fnExactLastCueAtSpec)

/-- ITS FALSE NEIGHBOUR: 'it returns false'. Refute it at one input. -/
def fnExactLastCueAtWrong : ChangeSpec := { name := "fnExactLastCueAt", fn := fun _ => fun
  | [d1, d2, d3] => { results := [.lit (.bool false)], args := [d1, d2, d3] }
  | _ => none }
def FnExactLastCueAtWrongFalsely : Prop := fnExactLastCueAtRow.holds Try.pinned (OpenSpec.ofChange fnExactLastCueAtWrong)

/-- 'laws.FnExactShiftCues': WHATEVER THE INPUT: true; the input reads as it did. -/
def fnExactShiftCuesSpec : ChangeSpec := { name := "fnExactShiftCues", fn := fun _ => fun
  | [d1, d2, d3] => { results := [.lit (.bool true)], args := [d1, d2, d3] }
  | _ => none }
def fnExactShiftCuesRow : OpenClaim := { program := "ytmbhdelegdhieaa", sum := "74d216db49f35e88009b756dd359ada59d92ae01fbb4fdb5903e96933265a4ee", func := "loop.example/g00939/laws.FnExactShiftCues", spec := "fnExactShiftCues", unfollowed := true, recurses := true, apart := false }
def FnExactShiftCuesSaid : Prop := fnExactShiftCuesRow.holds Try.pinned (OpenSpec.ofChange fnExactShiftCuesSpec)

/-- ITS FALSE NEIGHBOUR: 'it returns false'. Refute it at one input. -/
def fnExactShiftCuesWrong : ChangeSpec := { name := "fnExactShiftCues", fn := fun _ => fun
  | [d1, d2, d3] => { results := [.lit (.bool false)], args := [d1, d2, d3] }
  | _ => none }
def FnExactShiftCuesWrongFalsely : Prop := fnExactShiftCuesRow.holds Try.pinned (OpenSpec.ofChange fnExactShiftCuesWrong)

/-- 'laws.FnExactAddCue': WHATEVER THE INPUT: true; the input reads as it did. -/
def fnExactAddCueSpec : ChangeSpec := { name := "fnExactAddCue", fn := fun _ => fun
  | [d1, d2, d3] => { results := [.lit (.bool true)], args := [d1, d2, d3] }
  | _ => none }
def fnExactAddCueRow : OpenClaim := { program := "ytmbhdelegdhieaa", sum := "74d216db49f35e88009b756dd359ada59d92ae01fbb4fdb5903e96933265a4ee", func := "loop.example/g00939/laws.FnExactAddCue", spec := "fnExactAddCue", unfollowed := true, recurses := true, apart := false }
def FnExactAddCueSaid : Prop := fnExactAddCueRow.holds Try.pinned (OpenSpec.ofChange fnExactAddCueSpec)

/-- ITS FALSE NEIGHBOUR: 'it returns false'. Refute it at one input. -/
def fnExactAddCueWrong : ChangeSpec := { name := "fnExactAddCue", fn := fun _ => fun
  | [d1, d2, d3] => { results := [.lit (.bool false)], args := [d1, d2, d3] }
  | _ => none }
def FnExactAddCueWrongFalsely : Prop := fnExactAddCueRow.holds Try.pinned (OpenSpec.ofChange fnExactAddCueWrong)

/-- 'laws.FnExactWidestPart': WHATEVER THE INPUT: true; the input reads as it did. -/
def fnExactWidestPartSpec : ChangeSpec := { name := "fnExactWidestPart", fn := fun _ => fun
  | [d] => { results := [.lit (.bool true)], args := [d] }
  | _ => none }
def fnExactWidestPartRow : OpenClaim := { program := "ytmbhdelegdhieaa", sum := "74d216db49f35e88009b756dd359ada59d92ae01fbb4fdb5903e96933265a4ee", func := "loop.example/g00939/laws.FnExactWidestPart", spec := "fnExactWidestPart", apart := false }
def FnExactWidestPartSaid : Prop := fnExactWidestPartRow.holds Try.pinned (OpenSpec.ofChange fnExactWidestPartSpec)

/-- ITS FALSE NEIGHBOUR: 'it returns false'. Refute it at one input. -/
def fnExactWidestPartWrong : ChangeSpec := { name := "fnExactWidestPart", fn := fun _ => fun
  | [d] => { results := [.lit (.bool false)], args := [d] }
  | _ => none }
def FnExactWidestPartWrongFalsely : Prop := fnExactWidestPartRow.holds Try.pinned (OpenSpec.ofChange fnExactWidestPartWrong)

/-- 'laws.FnExactSameShows': WHATEVER THE INPUT: true; the input reads as it did. -/
def fnExactSameShowsSpec : ChangeSpec := { name := "fnExactSameShows", fn := fun _ => fun
  | [d1, d2] => { results := [.lit (.bool true)], args := [d1, d2] }
  | _ => none }
def fnExactSameShowsRow : OpenClaim := { program := "ytmbhdelegdhieaa", sum := "74d216db49f35e88009b756dd359ada59d92ae01fbb4fdb5903e96933265a4ee", func := "loop.example/g00939/laws.FnExactSameShows", spec := "fnExactSameShows", apart := false }
def FnExactSameShowsSaid : Prop := fnExactSameShowsRow.holds Try.pinned (OpenSpec.ofChange fnExactSameShowsSpec)

/-- ITS FALSE NEIGHBOUR: 'it returns false'. Refute it at one input. -/
def fnExactSameShowsWrong : ChangeSpec := { name := "fnExactSameShows", fn := fun _ => fun
  | [d1, d2] => { results := [.lit (.bool false)], args := [d1, d2] }
  | _ => none }
def FnExactSameShowsWrongFalsely : Prop := fnExactSameShowsRow.holds Try.pinned (OpenSpec.ofChange fnExactSameShowsWrong)

/-- 'laws.FnExactLeastStepOf': WHATEVER THE INPUT: true; the input reads as it did. -/
def fnExactLeastStepOfSpec : ChangeSpec := { name := "fnExactLeastStepOf", fn := fun _ => fun
  | [d] => { results := [.lit (.bool true)], args := [d] }
  | _ => none }
def fnExactLeastStepOfRow : OpenClaim := { program := "ytmbhdelegdhieaa", sum := "74d216db49f35e88009b756dd359ada59d92ae01fbb4fdb5903e96933265a4ee", func := "loop.example/g00939/laws.FnExactLeastStepOf", spec := "fnExactLeastStepOf", apart := false }
def FnExactLeastStepOfSaid : Prop := fnExactLeastStepOfRow.holds Try.pinned (OpenSpec.ofChange fnExactLeastStepOfSpec)

/-- ITS FALSE NEIGHBOUR: 'it returns false'. Refute it at one input. -/
def fnExactLeastStepOfWrong : ChangeSpec := { name := "fnExactLeastStepOf", fn := fun _ => fun
  | [d] => { results := [.lit (.bool false)], args := [d] }
  | _ => none }
def FnExactLeastStepOfWrongFalsely : Prop := fnExactLeastStepOfRow.holds Try.pinned (OpenSpec.ofChange fnExactLeastStepOfWrong)

/-- 'laws.FnExactIsMarch': WHATEVER THE INPUT: true; the input reads as it did. -/
def fnExactIsMarchSpec : ChangeSpec := { name := "fnExactIsMarch", fn := fun _ => fun
  | [d] => { results := [.lit (.bool true)], args := [d] }
  | _ => none }
def fnExactIsMarchRow : OpenClaim := { program := "ytmbhdelegdhieaa", sum := "74d216db49f35e88009b756dd359ada59d92ae01fbb4fdb5903e96933265a4ee", func := "loop.example/g00939/laws.FnExactIsMarch", spec := "fnExactIsMarch", apart := false }
def FnExactIsMarchSaid : Prop := fnExactIsMarchRow.holds Try.pinned (OpenSpec.ofChange fnExactIsMarchSpec)

/-- ITS FALSE NEIGHBOUR: 'it returns false'. Refute it at one input. -/
def fnExactIsMarchWrong : ChangeSpec := { name := "fnExactIsMarch", fn := fun _ => fun
  | [d] => { results := [.lit (.bool false)], args := [d] }
  | _ => none }
def FnExactIsMarchWrongFalsely : Prop := fnExactIsMarchRow.holds Try.pinned (OpenSpec.ofChange fnExactIsMarchWrong)

/-- 'laws.FnExactCueTimes': WHATEVER THE INPUT: true; the input reads as it did. -/
def fnExactCueTimesSpec : ChangeSpec := { name := "fnExactCueTimes", fn := fun _ => fun
  | [d1, d2] => { results := [.lit (.bool true)], args := [d1, d2] }
  | _ => none }
def fnExactCueTimesRow : OpenClaim := { program := "ytmbhdelegdhieaa", sum := "74d216db49f35e88009b756dd359ada59d92ae01fbb4fdb5903e96933265a4ee", func := "loop.example/g00939/laws.FnExactCueTimes", spec := "fnExactCueTimes", unfollowed := true, recurses := true, apart := false }
def FnExactCueTimesSaid : Prop := fnExactCueTimesRow.holds Try.pinned (OpenSpec.ofChange fnExactCueTimesSpec)

/-- ITS FALSE NEIGHBOUR: 'it returns false'. Refute it at one input. -/
def fnExactCueTimesWrong : ChangeSpec := { name := "fnExactCueTimes", fn := fun _ => fun
  | [d1, d2] => { results := [.lit (.bool false)], args := [d1, d2] }
  | _ => none }
def FnExactCueTimesWrongFalsely : Prop := fnExactCueTimesRow.holds Try.pinned (OpenSpec.ofChange fnExactCueTimesWrong)

/-- 'laws.FnExactDifferentCharts': WHATEVER THE INPUT: true; the input reads as it did. -/
def fnExactDifferentChartsSpec : ChangeSpec := { name := "fnExactDifferentCharts", fn := fun _ => fun
  | [d1, d2] => { results := [.lit (.bool true)], args := [d1, d2] }
  | _ => none }
def fnExactDifferentChartsRow : OpenClaim := { program := "ytmbhdelegdhieaa", sum := "74d216db49f35e88009b756dd359ada59d92ae01fbb4fdb5903e96933265a4ee", func := "loop.example/g00939/laws.FnExactDifferentCharts", spec := "fnExactDifferentCharts", apart := false }
def FnExactDifferentChartsSaid : Prop := fnExactDifferentChartsRow.holds Try.pinned (OpenSpec.ofChange fnExactDifferentChartsSpec)

/-- ITS FALSE NEIGHBOUR: 'it returns false'. Refute it at one input. -/
def fnExactDifferentChartsWrong : ChangeSpec := { name := "fnExactDifferentCharts", fn := fun _ => fun
  | [d1, d2] => { results := [.lit (.bool false)], args := [d1, d2] }
  | _ => none }
def FnExactDifferentChartsWrongFalsely : Prop := fnExactDifferentChartsRow.holds Try.pinned (OpenSpec.ofChange fnExactDifferentChartsWrong)

/-- 'laws.FnExactCuesAfterRepeat': WHATEVER THE INPUT: true; the input reads as it did. -/
def fnExactCuesAfterRepeatSpec : ChangeSpec := { name := "fnExactCuesAfterRepeat", fn := fun _ => fun
  | [d1, d2, d3, d4, d5] => { results := [.lit (.bool true)], args := [d1, d2, d3, d4, d5] }
  | _ => none }
def fnExactCuesAfterRepeatRow : OpenClaim := { program := "ytmbhdelegdhieaa", sum := "74d216db49f35e88009b756dd359ada59d92ae01fbb4fdb5903e96933265a4ee", func := "loop.example/g00939/laws.FnExactCuesAfterRepeat", spec := "fnExactCuesAfterRepeat", unfollowed := true, recurses := true, apart := false }
def FnExactCuesAfterRepeatSaid : Prop := fnExactCuesAfterRepeatRow.holds Try.pinned (OpenSpec.ofChange fnExactCuesAfterRepeatSpec)

/-- ITS FALSE NEIGHBOUR: 'it returns false'. Refute it at one input. -/
def fnExactCuesAfterRepeatWrong : ChangeSpec := { name := "fnExactCuesAfterRepeat", fn := fun _ => fun
  | [d1, d2, d3, d4, d5] => { results := [.lit (.bool false)], args := [d1, d2, d3, d4, d5] }
  | _ => none }
def FnExactCuesAfterRepeatWrongFalsely : Prop := fnExactCuesAfterRepeatRow.holds Try.pinned (OpenSpec.ofChange fnExactCuesAfterRepeatWrong)

/- THE SECOND FORM. 'bulk': how many values and letters a reading holds, each counted each time it is reached (what is shared counts as often as it is met; a slice's spare places count too). A statement '..UptoSaid' is the law's where the arguments, and the package variables that the reading takes, are together of bulk at most 1048576: NARROWER than '..Said'. Prove '..Said' where nothing that the law and all that it calls make is longer than what came in: it says more and counts as full. Else prove '..UptoSaid'. A law counts once. -/
mutual
def uptoBulk {H : Type} : DataW H → Nat
  | .lit (.string bytes) => bytes.length + 1
  | .lit _ => 1
  | .nil => 1
  | .ptr d => uptoBulk d + 1
  | .slice elems spare => uptoBulkAll elems + uptoBulkAll spare + 1
  | .agg parts => uptoBulkAll parts + 1
  | .iface _ d => uptoBulk d + 1
  | .map entries => uptoBulkEntries entries + 1
  | .held _ => 1
def uptoBulkAll {H : Type} : List (DataW H) → Nat
  | [] => 0
  | d :: r => uptoBulk d + uptoBulkAll r
def uptoBulkEntries {H : Type} : List (Lit × DataW H) → Nat
  | [] => 0
  | x :: r => uptoBulkEntry x + uptoBulkEntries r
def uptoBulkEntry {H : Type} : Lit × DataW H → Nat
  | (.string bytes, d) => bytes.length + uptoBulk d + 1
  | (_, d) => uptoBulk d + 1
 end
def uptoSmall : (H : Type) → List (DataW H) → Bool := fun _ ds => decide (uptoBulkAll ds ≤ 1048576)
def OpenSpec.upto (s : _root_.Go.ChangeSpec) : _root_.Go.OpenSpec := { _root_.Go.OpenSpec.ofChange s with cond := some uptoSmall }

/-- 'laws.FnExactIsShow', WHERE WHAT IT READS IS OF BULK AT MOST 1048576: true; the input reads as it did. -/
def fnExactIsShowUptoRow : OpenClaim := { program := "ytmbhdelegdhieaa", sum := "74d216db49f35e88009b756dd359ada59d92ae01fbb4fdb5903e96933265a4ee", func := "loop.example/g00939/laws.FnExactIsShow", spec := "fnExactIsShow", apart := false, narrowed := true }
def FnExactIsShowUptoSaid : Prop := fnExactIsShowUptoRow.holds Try.pinned (OpenSpec.upto fnExactIsShowSpec)

/-- 'laws.FnExactTotalCounts', WHERE WHAT IT READS IS OF BULK AT MOST 1048576: true; the input reads as it did. -/
def fnExactTotalCountsUptoRow : OpenClaim := { program := "ytmbhdelegdhieaa", sum := "74d216db49f35e88009b756dd359ada59d92ae01fbb4fdb5903e96933265a4ee", func := "loop.example/g00939/laws.FnExactTotalCounts", spec := "fnExactTotalCounts", apart := false, narrowed := true }
def FnExactTotalCountsUptoSaid : Prop := fnExactTotalCountsUptoRow.holds Try.pinned (OpenSpec.upto fnExactTotalCountsSpec)

/-- 'laws.FnExactLastCueAt', WHERE WHAT IT READS IS OF BULK AT MOST 1048576: true; the input reads as it did. -/
def fnExactLastCueAtUptoRow : OpenClaim := { program := "ytmbhdelegdhieaa", sum := "74d216db49f35e88009b756dd359ada59d92ae01fbb4fdb5903e96933265a4ee", func := "loop.example/g00939/laws.FnExactLastCueAt", spec := "fnExactLastCueAt", unfollowed := true, recurses := true, apart := false, narrowed := true }
def FnExactLastCueAtUptoSaid : Prop := fnExactLastCueAtUptoRow.holds Try.pinned (OpenSpec.upto fnExactLastCueAtSpec)

/-- 'laws.FnExactShiftCues', WHERE WHAT IT READS IS OF BULK AT MOST 1048576: true; the input reads as it did. -/
def fnExactShiftCuesUptoRow : OpenClaim := { program := "ytmbhdelegdhieaa", sum := "74d216db49f35e88009b756dd359ada59d92ae01fbb4fdb5903e96933265a4ee", func := "loop.example/g00939/laws.FnExactShiftCues", spec := "fnExactShiftCues", unfollowed := true, recurses := true, apart := false, narrowed := true }
def FnExactShiftCuesUptoSaid : Prop := fnExactShiftCuesUptoRow.holds Try.pinned (OpenSpec.upto fnExactShiftCuesSpec)

/-- 'laws.FnExactAddCue', WHERE WHAT IT READS IS OF BULK AT MOST 1048576: true; the input reads as it did. -/
def fnExactAddCueUptoRow : OpenClaim := { program := "ytmbhdelegdhieaa", sum := "74d216db49f35e88009b756dd359ada59d92ae01fbb4fdb5903e96933265a4ee", func := "loop.example/g00939/laws.FnExactAddCue", spec := "fnExactAddCue", unfollowed := true, recurses := true, apart := false, narrowed := true }
def FnExactAddCueUptoSaid : Prop := fnExactAddCueUptoRow.holds Try.pinned (OpenSpec.upto fnExactAddCueSpec)

/-- 'laws.FnExactWidestPart', WHERE WHAT IT READS IS OF BULK AT MOST 1048576: true; the input reads as it did. -/
def fnExactWidestPartUptoRow : OpenClaim := { program := "ytmbhdelegdhieaa", sum := "74d216db49f35e88009b756dd359ada59d92ae01fbb4fdb5903e96933265a4ee", func := "loop.example/g00939/laws.FnExactWidestPart", spec := "fnExactWidestPart", apart := false, narrowed := true }
def FnExactWidestPartUptoSaid : Prop := fnExactWidestPartUptoRow.holds Try.pinned (OpenSpec.upto fnExactWidestPartSpec)

/-- 'laws.FnExactSameShows', WHERE WHAT IT READS IS OF BULK AT MOST 1048576: true; the input reads as it did. -/
def fnExactSameShowsUptoRow : OpenClaim := { program := "ytmbhdelegdhieaa", sum := "74d216db49f35e88009b756dd359ada59d92ae01fbb4fdb5903e96933265a4ee", func := "loop.example/g00939/laws.FnExactSameShows", spec := "fnExactSameShows", apart := false, narrowed := true }
def FnExactSameShowsUptoSaid : Prop := fnExactSameShowsUptoRow.holds Try.pinned (OpenSpec.upto fnExactSameShowsSpec)

/-- 'laws.FnExactLeastStepOf', WHERE WHAT IT READS IS OF BULK AT MOST 1048576: true; the input reads as it did. -/
def fnExactLeastStepOfUptoRow : OpenClaim := { program := "ytmbhdelegdhieaa", sum := "74d216db49f35e88009b756dd359ada59d92ae01fbb4fdb5903e96933265a4ee", func := "loop.example/g00939/laws.FnExactLeastStepOf", spec := "fnExactLeastStepOf", apart := false, narrowed := true }
def FnExactLeastStepOfUptoSaid : Prop := fnExactLeastStepOfUptoRow.holds Try.pinned (OpenSpec.upto fnExactLeastStepOfSpec)

/-- 'laws.FnExactIsMarch', WHERE WHAT IT READS IS OF BULK AT MOST 1048576: true; the input reads as it did. -/
def fnExactIsMarchUptoRow : OpenClaim := { program := "ytmbhdelegdhieaa", sum := "74d216db49f35e88009b756dd359ada59d92ae01fbb4fdb5903e96933265a4ee", func := "loop.example/g00939/laws.FnExactIsMarch", spec := "fnExactIsMarch", apart := false, narrowed := true }
def FnExactIsMarchUptoSaid : Prop := fnExactIsMarchUptoRow.holds Try.pinned (OpenSpec.upto fnExactIsMarchSpec)

/-- 'laws.FnExactCueTimes', WHERE WHAT IT READS IS OF BULK AT MOST 1048576: true; the input reads as it did. -/
def fnExactCueTimesUptoRow : OpenClaim := { program := "ytmbhdelegdhieaa", sum := "74d216db49f35e88009b756dd359ada59d92ae01fbb4fdb5903e96933265a4ee", func := "loop.example/g00939/laws.FnExactCueTimes", spec := "fnExactCueTimes", unfollowed := true, recurses := true, apart := false, narrowed := true }
def FnExactCueTimesUptoSaid : Prop := fnExactCueTimesUptoRow.holds Try.pinned (OpenSpec.upto fnExactCueTimesSpec)

/-- 'laws.FnExactDifferentCharts', WHERE WHAT IT READS IS OF BULK AT MOST 1048576: true; the input reads as it did. -/
def fnExactDifferentChartsUptoRow : OpenClaim := { program := "ytmbhdelegdhieaa", sum := "74d216db49f35e88009b756dd359ada59d92ae01fbb4fdb5903e96933265a4ee", func := "loop.example/g00939/laws.FnExactDifferentCharts", spec := "fnExactDifferentCharts", apart := false, narrowed := true }
def FnExactDifferentChartsUptoSaid : Prop := fnExactDifferentChartsUptoRow.holds Try.pinned (OpenSpec.upto fnExactDifferentChartsSpec)

/-- 'laws.FnExactCuesAfterRepeat', WHERE WHAT IT READS IS OF BULK AT MOST 1048576: true; the input reads as it did. -/
def fnExactCuesAfterRepeatUptoRow : OpenClaim := { program := "ytmbhdelegdhieaa", sum := "74d216db49f35e88009b756dd359ada59d92ae01fbb4fdb5903e96933265a4ee", func := "loop.example/g00939/laws.FnExactCuesAfterRepeat", spec := "fnExactCuesAfterRepeat", unfollowed := true, recurses := true, apart := false, narrowed := true }
def FnExactCuesAfterRepeatUptoSaid : Prop := fnExactCuesAfterRepeatUptoRow.holds Try.pinned (OpenSpec.upto fnExactCuesAfterRepeatSpec)

end Rows
end Go.Proofs.Ytmbhdelegdhieaa
