/-
  No cell of these rows narrows 'for every input' (looked for: loops, veiled, ifaces, maps, wideKeys, modest, calm, conditions, laid).
  DERIVED. THE GIVEN ROWS OF THIS SEAT. 12 by the template 'for every input the law returns true; each argument reads behind the call as it read before'; 0 by the template 'total and deterministic' (their statements: YthlfhcefeaehmaaTotals.lean).
  GIVEN WITH THE SEED: the statements are not yours to turn. If you find one false, say at which input.
  Laid BY PROGRAM, IN A SANDBOX (cutbox-rows.mjs): the forced cells as the released guide's own fill.sh prints them over the translation 41e3254440650a63… (all of the seat's roots in one cut). By AI agents, Wed Nov 11 2026. No macro, syntax, notation, axiom, sorry.
-/
import Derived.Test.YthlfhcefeaehmaaChecked
import GoSem.Claim
import GoSem.ClaimJoined
import GoSem.ClaimMapViews
import Derived.JoinedTies
import Derived.KernelRfl
namespace Go.Proofs.Ythlfhcefeaehmaa
/- THE CELL 'sum', in the pinned program and in every row, IS THE sha256 OF THE DUMP (.gsa) THAT YthlfhcefeaehmaaProg.lean LOADS. Nothing in Lean hashes anything: it is a label: what it is worth is what the hold of that sum in a sandbox is worth. -/
noncomputable def Try.pinned : Pinned := { name := "ythlfhcefeaehmaa", sum := "41e3254440650a639f03a74b332b1f18f4ca10d3c6a0ab741a66012cb0336fb5", checked := Try.checked }
namespace Rows
def none {H : Type} : Left H := { results := [], args := [] }

/-- 'laws.FnExactCanPublish': WHATEVER THE INPUT: true; the input reads as it did. -/
def fnExactCanPublishSpec : ChangeSpec := { name := "fnExactCanPublish", fn := fun _ => fun
  | [d] => { results := [.lit (.bool true)], args := [d] }
  | _ => none }
def fnExactCanPublishRow : OpenClaim := { program := "ythlfhcefeaehmaa", sum := "41e3254440650a639f03a74b332b1f18f4ca10d3c6a0ab741a66012cb0336fb5", func := "loop.example/g00939/laws.FnExactCanPublish", spec := "fnExactCanPublish", apart := false }
def FnExactCanPublishSaid : Prop := fnExactCanPublishRow.holds Try.pinned (OpenSpec.ofChange fnExactCanPublishSpec)

/-- ITS FALSE NEIGHBOUR: 'it returns false'. Refute it at one input. -/
def fnExactCanPublishWrong : ChangeSpec := { name := "fnExactCanPublish", fn := fun _ => fun
  | [d] => { results := [.lit (.bool false)], args := [d] }
  | _ => none }
def FnExactCanPublishWrongFalsely : Prop := fnExactCanPublishRow.holds Try.pinned (OpenSpec.ofChange fnExactCanPublishWrong)

/-- 'laws.FnExactLeastToKeep': WHATEVER THE INPUT: true; the input reads as it did. -/
def fnExactLeastToKeepSpec : ChangeSpec := { name := "fnExactLeastToKeep", fn := fun _ => fun
  | [d] => { results := [.lit (.bool true)], args := [d] }
  | _ => none }
def fnExactLeastToKeepRow : OpenClaim := { program := "ythlfhcefeaehmaa", sum := "41e3254440650a639f03a74b332b1f18f4ca10d3c6a0ab741a66012cb0336fb5", func := "loop.example/g00939/laws.FnExactLeastToKeep", spec := "fnExactLeastToKeep", apart := false }
def FnExactLeastToKeepSaid : Prop := fnExactLeastToKeepRow.holds Try.pinned (OpenSpec.ofChange fnExactLeastToKeepSpec)

/-- ITS FALSE NEIGHBOUR: 'it returns false'. Refute it at one input. -/
def fnExactLeastToKeepWrong : ChangeSpec := { name := "fnExactLeastToKeep", fn := fun _ => fun
  | [d] => { results := [.lit (.bool false)], args := [d] }
  | _ => none }
def FnExactLeastToKeepWrongFalsely : Prop := fnExactLeastToKeepRow.holds Try.pinned (OpenSpec.ofChange fnExactLeastToKeepWrong)

/-- 'laws.FnExactLeastOfShow': WHATEVER THE INPUT: true; the input reads as it did. -/
def fnExactLeastOfShowSpec : ChangeSpec := { name := "fnExactLeastOfShow", fn := fun _ => fun
  | [d] => { results := [.lit (.bool true)], args := [d] }
  | _ => none }
def fnExactLeastOfShowRow : OpenClaim := { program := "ythlfhcefeaehmaa", sum := "41e3254440650a639f03a74b332b1f18f4ca10d3c6a0ab741a66012cb0336fb5", func := "loop.example/g00939/laws.FnExactLeastOfShow", spec := "fnExactLeastOfShow", apart := false }
def FnExactLeastOfShowSaid : Prop := fnExactLeastOfShowRow.holds Try.pinned (OpenSpec.ofChange fnExactLeastOfShowSpec)

/-- ITS FALSE NEIGHBOUR: 'it returns false'. Refute it at one input. -/
def fnExactLeastOfShowWrong : ChangeSpec := { name := "fnExactLeastOfShow", fn := fun _ => fun
  | [d] => { results := [.lit (.bool false)], args := [d] }
  | _ => none }
def FnExactLeastOfShowWrongFalsely : Prop := fnExactLeastOfShowRow.holds Try.pinned (OpenSpec.ofChange fnExactLeastOfShowWrong)

/-- 'laws.FnExactClosePairs': WHATEVER THE INPUT: true; the input reads as it did. -/
def fnExactClosePairsSpec : ChangeSpec := { name := "fnExactClosePairs", fn := fun _ => fun
  | [d1, d2] => { results := [.lit (.bool true)], args := [d1, d2] }
  | _ => none }
def fnExactClosePairsRow : OpenClaim := { program := "ythlfhcefeaehmaa", sum := "41e3254440650a639f03a74b332b1f18f4ca10d3c6a0ab741a66012cb0336fb5", func := "loop.example/g00939/laws.FnExactClosePairs", spec := "fnExactClosePairs", apart := false }
def FnExactClosePairsSaid : Prop := fnExactClosePairsRow.holds Try.pinned (OpenSpec.ofChange fnExactClosePairsSpec)

/-- ITS FALSE NEIGHBOUR: 'it returns false'. Refute it at one input. -/
def fnExactClosePairsWrong : ChangeSpec := { name := "fnExactClosePairs", fn := fun _ => fun
  | [d1, d2] => { results := [.lit (.bool false)], args := [d1, d2] }
  | _ => none }
def FnExactClosePairsWrongFalsely : Prop := fnExactClosePairsRow.holds Try.pinned (OpenSpec.ofChange fnExactClosePairsWrong)

/-- 'laws.FnExactUnsafeParts': WHATEVER THE INPUT: true; the input reads as it did. -/
def fnExactUnsafePartsSpec : ChangeSpec := { name := "fnExactUnsafeParts", fn := fun _ => fun
  | [d] => { results := [.lit (.bool true)], args := [d] }
  | _ => none }
def fnExactUnsafePartsRow : OpenClaim := { program := "ythlfhcefeaehmaa", sum := "41e3254440650a639f03a74b332b1f18f4ca10d3c6a0ab741a66012cb0336fb5", func := "loop.example/g00939/laws.FnExactUnsafeParts", spec := "fnExactUnsafeParts", apart := false }
def FnExactUnsafePartsSaid : Prop := fnExactUnsafePartsRow.holds Try.pinned (OpenSpec.ofChange fnExactUnsafePartsSpec)

/-- ITS FALSE NEIGHBOUR: 'it returns false'. Refute it at one input. -/
def fnExactUnsafePartsWrong : ChangeSpec := { name := "fnExactUnsafeParts", fn := fun _ => fun
  | [d] => { results := [.lit (.bool false)], args := [d] }
  | _ => none }
def FnExactUnsafePartsWrongFalsely : Prop := fnExactUnsafePartsRow.holds Try.pinned (OpenSpec.ofChange fnExactUnsafePartsWrong)

/-- 'laws.FnExactWhereNow': WHATEVER THE INPUT: true; the input reads as it did. -/
def fnExactWhereNowSpec : ChangeSpec := { name := "fnExactWhereNow", fn := fun _ => fun
  | [d1, d2] => { results := [.lit (.bool true)], args := [d1, d2] }
  | _ => none }
def fnExactWhereNowRow : OpenClaim := { program := "ythlfhcefeaehmaa", sum := "41e3254440650a639f03a74b332b1f18f4ca10d3c6a0ab741a66012cb0336fb5", func := "loop.example/g00939/laws.FnExactWhereNow", spec := "fnExactWhereNow", apart := false }
def FnExactWhereNowSaid : Prop := fnExactWhereNowRow.holds Try.pinned (OpenSpec.ofChange fnExactWhereNowSpec)

/-- ITS FALSE NEIGHBOUR: 'it returns false'. Refute it at one input. -/
def fnExactWhereNowWrong : ChangeSpec := { name := "fnExactWhereNow", fn := fun _ => fun
  | [d1, d2] => { results := [.lit (.bool false)], args := [d1, d2] }
  | _ => none }
def FnExactWhereNowWrongFalsely : Prop := fnExactWhereNowRow.holds Try.pinned (OpenSpec.ofChange fnExactWhereNowWrong)

/-- 'laws.FnExactBeatOnce': WHATEVER THE INPUT: true; the input reads as it did. -/
def fnExactBeatOnceSpec : ChangeSpec := { name := "fnExactBeatOnce", fn := fun _ => fun
  | [d] => { results := [.lit (.bool true)], args := [d] }
  | _ => none }
def fnExactBeatOnceRow : OpenClaim := { program := "ythlfhcefeaehmaa", sum := "41e3254440650a639f03a74b332b1f18f4ca10d3c6a0ab741a66012cb0336fb5", func := "loop.example/g00939/laws.FnExactBeatOnce", spec := "fnExactBeatOnce", apart := false }
def FnExactBeatOnceSaid : Prop := fnExactBeatOnceRow.holds Try.pinned (OpenSpec.ofChange fnExactBeatOnceSpec)

/-- ITS FALSE NEIGHBOUR: 'it returns false'. Refute it at one input. -/
def fnExactBeatOnceWrong : ChangeSpec := { name := "fnExactBeatOnce", fn := fun _ => fun
  | [d] => { results := [.lit (.bool false)], args := [d] }
  | _ => none }
def FnExactBeatOnceWrongFalsely : Prop := fnExactBeatOnceRow.holds Try.pinned (OpenSpec.ofChange fnExactBeatOnceWrong)

/-- 'laws.FnExactGoOn': WHATEVER THE INPUT: true; the input reads as it did. -/
def fnExactGoOnSpec : ChangeSpec := { name := "fnExactGoOn", fn := fun _ => fun
  | [d1, d2] => { results := [.lit (.bool true)], args := [d1, d2] }
  | _ => none }
def fnExactGoOnRow : OpenClaim := { program := "ythlfhcefeaehmaa", sum := "41e3254440650a639f03a74b332b1f18f4ca10d3c6a0ab741a66012cb0336fb5", func := "loop.example/g00939/laws.FnExactGoOn", spec := "fnExactGoOn", apart := false }
def FnExactGoOnSaid : Prop := fnExactGoOnRow.holds Try.pinned (OpenSpec.ofChange fnExactGoOnSpec)

/-- ITS FALSE NEIGHBOUR: 'it returns false'. Refute it at one input. -/
def fnExactGoOnWrong : ChangeSpec := { name := "fnExactGoOn", fn := fun _ => fun
  | [d1, d2] => { results := [.lit (.bool false)], args := [d1, d2] }
  | _ => none }
def FnExactGoOnWrongFalsely : Prop := fnExactGoOnRow.holds Try.pinned (OpenSpec.ofChange fnExactGoOnWrong)

/-- 'laws.FnExactCompareDemand': WHATEVER THE INPUT: true; the input reads as it did. -/
def fnExactCompareDemandSpec : ChangeSpec := { name := "fnExactCompareDemand", fn := fun _ => fun
  | [d1, d2] => { results := [.lit (.bool true)], args := [d1, d2] }
  | _ => none }
def fnExactCompareDemandRow : OpenClaim := { program := "ythlfhcefeaehmaa", sum := "41e3254440650a639f03a74b332b1f18f4ca10d3c6a0ab741a66012cb0336fb5", func := "loop.example/g00939/laws.FnExactCompareDemand", spec := "fnExactCompareDemand", apart := false }
def FnExactCompareDemandSaid : Prop := fnExactCompareDemandRow.holds Try.pinned (OpenSpec.ofChange fnExactCompareDemandSpec)

/-- ITS FALSE NEIGHBOUR: 'it returns false'. Refute it at one input. -/
def fnExactCompareDemandWrong : ChangeSpec := { name := "fnExactCompareDemand", fn := fun _ => fun
  | [d1, d2] => { results := [.lit (.bool false)], args := [d1, d2] }
  | _ => none }
def FnExactCompareDemandWrongFalsely : Prop := fnExactCompareDemandRow.holds Try.pinned (OpenSpec.ofChange fnExactCompareDemandWrong)

/-- 'laws.FnExactPlacesNow': WHATEVER THE INPUT: true; the input reads as it did. -/
def fnExactPlacesNowSpec : ChangeSpec := { name := "fnExactPlacesNow", fn := fun _ => fun
  | [d] => { results := [.lit (.bool true)], args := [d] }
  | _ => none }
def fnExactPlacesNowRow : OpenClaim := { program := "ythlfhcefeaehmaa", sum := "41e3254440650a639f03a74b332b1f18f4ca10d3c6a0ab741a66012cb0336fb5", func := "loop.example/g00939/laws.FnExactPlacesNow", spec := "fnExactPlacesNow", apart := false }
def FnExactPlacesNowSaid : Prop := fnExactPlacesNowRow.holds Try.pinned (OpenSpec.ofChange fnExactPlacesNowSpec)

/-- ITS FALSE NEIGHBOUR: 'it returns false'. Refute it at one input. -/
def fnExactPlacesNowWrong : ChangeSpec := { name := "fnExactPlacesNow", fn := fun _ => fun
  | [d] => { results := [.lit (.bool false)], args := [d] }
  | _ => none }
def FnExactPlacesNowWrongFalsely : Prop := fnExactPlacesNowRow.holds Try.pinned (OpenSpec.ofChange fnExactPlacesNowWrong)

/-- 'laws.FnExactTooCloseNow': WHATEVER THE INPUT: true; the input reads as it did. -/
def fnExactTooCloseNowSpec : ChangeSpec := { name := "fnExactTooCloseNow", fn := fun _ => fun
  | [d] => { results := [.lit (.bool true)], args := [d] }
  | _ => none }
def fnExactTooCloseNowRow : OpenClaim := { program := "ythlfhcefeaehmaa", sum := "41e3254440650a639f03a74b332b1f18f4ca10d3c6a0ab741a66012cb0336fb5", func := "loop.example/g00939/laws.FnExactTooCloseNow", spec := "fnExactTooCloseNow", apart := false }
def FnExactTooCloseNowSaid : Prop := fnExactTooCloseNowRow.holds Try.pinned (OpenSpec.ofChange fnExactTooCloseNowSpec)

/-- ITS FALSE NEIGHBOUR: 'it returns false'. Refute it at one input. -/
def fnExactTooCloseNowWrong : ChangeSpec := { name := "fnExactTooCloseNow", fn := fun _ => fun
  | [d] => { results := [.lit (.bool false)], args := [d] }
  | _ => none }
def FnExactTooCloseNowWrongFalsely : Prop := fnExactTooCloseNowRow.holds Try.pinned (OpenSpec.ofChange fnExactTooCloseNowWrong)

/-- 'laws.FnExactPublishSheets': WHATEVER THE INPUT: true; the input reads as it did. -/
def fnExactPublishSheetsSpec : ChangeSpec := { name := "fnExactPublishSheets", fn := fun _ => fun
  | [d] => { results := [.lit (.bool true)], args := [d] }
  | _ => none }
def fnExactPublishSheetsRow : OpenClaim := { program := "ythlfhcefeaehmaa", sum := "41e3254440650a639f03a74b332b1f18f4ca10d3c6a0ab741a66012cb0336fb5", func := "loop.example/g00939/laws.FnExactPublishSheets", spec := "fnExactPublishSheets", apart := false }
def FnExactPublishSheetsSaid : Prop := fnExactPublishSheetsRow.holds Try.pinned (OpenSpec.ofChange fnExactPublishSheetsSpec)

/-- ITS FALSE NEIGHBOUR: 'it returns false'. Refute it at one input. -/
def fnExactPublishSheetsWrong : ChangeSpec := { name := "fnExactPublishSheets", fn := fun _ => fun
  | [d] => { results := [.lit (.bool false)], args := [d] }
  | _ => none }
def FnExactPublishSheetsWrongFalsely : Prop := fnExactPublishSheetsRow.holds Try.pinned (OpenSpec.ofChange fnExactPublishSheetsWrong)

/- THE SECOND FORM. 'bulk': how many values and letters a reading holds, each counted each time it is reached (what is shared counts as often as it is met; a slice's spare places count too). A statement '..UptoSaid' is the law's where the arguments, and the package variables that the reading takes, are together of bulk at most 1048576: NARROWER than '..Said'. Prove '..Said' where nothing that the law and all that it calls make is longer than what came in: it says more and counts as full. Else prove '..UptoSaid'. A law counts once. -/
mutual
def uptoBulk {H : Type} : DataW H → Nat
  | .lit (.string bytes) => bytes.length + 1
  | .lit _ => 1
  | .nil => 1
  | .ptr d => uptoBulk d + 1
  | .slice elems spare => uptoBulkAll elems + uptoBulkAll spare + 1
  | .agg parts => uptoBulkAll parts + 1
  | .iface _ d => uptoBulk d + 1
  | .map entries => uptoBulkEntries entries + 1
  | .held _ => 1
def uptoBulkAll {H : Type} : List (DataW H) → Nat
  | [] => 0
  | d :: r => uptoBulk d + uptoBulkAll r
def uptoBulkEntries {H : Type} : List (Lit × DataW H) → Nat
  | [] => 0
  | x :: r => uptoBulkEntry x + uptoBulkEntries r
def uptoBulkEntry {H : Type} : Lit × DataW H → Nat
  | (.string bytes, d) => bytes.length + uptoBulk d + 1
  | (_, d) => uptoBulk d + 1
 end
def uptoSmall : (H : Type) → List (DataW H) → Bool := fun _ ds => decide (uptoBulkAll ds ≤ 1048576)
def OpenSpec.upto (s : _root_.Go.ChangeSpec) : _root_.Go.OpenSpec := { _root_.Go.OpenSpec.ofChange s with cond := some uptoSmall }

/-- 'laws.FnExactCanPublish', WHERE WHAT IT READS IS OF BULK AT MOST 1048576: true; the input reads as it did. -/
def fnExactCanPublishUptoRow : OpenClaim := { program := "ythlfhcefeaehmaa", sum := "41e3254440650a639f03a74b332b1f18f4ca10d3c6a0ab741a66012cb0336fb5", func := "loop.example/g00939/laws.FnExactCanPublish", spec := "fnExactCanPublish", apart := false, narrowed := true }
def FnExactCanPublishUptoSaid : Prop := fnExactCanPublishUptoRow.holds Try.pinned (OpenSpec.upto fnExactCanPublishSpec)

/-- 'laws.FnExactLeastToKeep', WHERE WHAT IT READS IS OF BULK AT MOST 1048576: true; the input reads as it did. -/
def fnExactLeastToKeepUptoRow : OpenClaim := { program := "ythlfhcefeaehmaa", sum := "41e3254440650a639f03a74b332b1f18f4ca10d3c6a0ab741a66012cb0336fb5", func := "loop.example/g00939/laws.FnExactLeastToKeep", spec := "fnExactLeastToKeep", apart := false, narrowed := true }
def FnExactLeastToKeepUptoSaid : Prop := fnExactLeastToKeepUptoRow.holds Try.pinned (OpenSpec.upto fnExactLeastToKeepSpec)

/-- 'laws.FnExactLeastOfShow', WHERE WHAT IT READS IS OF BULK AT MOST 1048576: true; the input reads as it did. -/
def fnExactLeastOfShowUptoRow : OpenClaim := { program := "ythlfhcefeaehmaa", sum := "41e3254440650a639f03a74b332b1f18f4ca10d3c6a0ab741a66012cb0336fb5", func := "loop.example/g00939/laws.FnExactLeastOfShow", spec := "fnExactLeastOfShow", apart := false, narrowed := true }
def FnExactLeastOfShowUptoSaid : Prop := fnExactLeastOfShowUptoRow.holds Try.pinned (OpenSpec.upto fnExactLeastOfShowSpec)

/-- 'laws.FnExactClosePairs', WHERE WHAT IT READS IS OF BULK AT MOST 1048576: true; the input reads as it did. -/
def fnExactClosePairsUptoRow : OpenClaim := { program := "ythlfhcefeaehmaa", sum := "41e3254440650a639f03a74b332b1f18f4ca10d3c6a0ab741a66012cb0336fb5", func := "loop.example/g00939/laws.FnExactClosePairs", spec := "fnExactClosePairs", apart := false, narrowed := true }
def FnExactClosePairsUptoSaid : Prop := fnExactClosePairsUptoRow.holds Try.pinned (OpenSpec.upto fnExactClosePairsSpec)

/-- 'laws.FnExactUnsafeParts', WHERE WHAT IT READS IS OF BULK AT MOST 1048576: true; the input reads as it did. -/
def fnExactUnsafePartsUptoRow : OpenClaim := { program := "ythlfhcefeaehmaa", sum := "41e3254440650a639f03a74b332b1f18f4ca10d3c6a0ab741a66012cb0336fb5", func := "loop.example/g00939/laws.FnExactUnsafeParts", spec := "fnExactUnsafeParts", apart := false, narrowed := true }
def FnExactUnsafePartsUptoSaid : Prop := fnExactUnsafePartsUptoRow.holds Try.pinned (OpenSpec.upto fnExactUnsafePartsSpec)

/-- 'laws.FnExactWhereNow', WHERE WHAT IT READS IS OF BULK AT MOST 1048576: true; the input reads as it did. -/
def fnExactWhereNowUptoRow : OpenClaim := { program := "ythlfhcefeaehmaa", sum := "41e3254440650a639f03a74b332b1f18f4ca10d3c6a0ab741a66012cb0336fb5", func := "loop.example/g00939/laws.FnExactWhereNow", spec := "fnExactWhereNow", apart := false, narrowed := true }
def FnExactWhereNowUptoSaid : Prop := fnExactWhereNowUptoRow.holds Try.pinned (OpenSpec.upto fnExactWhereNowSpec)

/-- 'laws.FnExactBeatOnce', WHERE WHAT IT READS IS OF BULK AT MOST 1048576: true; the input reads as it did. -/
def fnExactBeatOnceUptoRow : OpenClaim := { program := "ythlfhcefeaehmaa", sum := "41e3254440650a639f03a74b332b1f18f4ca10d3c6a0ab741a66012cb0336fb5", func := "loop.example/g00939/laws.FnExactBeatOnce", spec := "fnExactBeatOnce", apart := false, narrowed := true }
def FnExactBeatOnceUptoSaid : Prop := fnExactBeatOnceUptoRow.holds Try.pinned (OpenSpec.upto fnExactBeatOnceSpec)

/-- 'laws.FnExactGoOn', WHERE WHAT IT READS IS OF BULK AT MOST 1048576: true; the input reads as it did. -/
def fnExactGoOnUptoRow : OpenClaim := { program := "ythlfhcefeaehmaa", sum := "41e3254440650a639f03a74b332b1f18f4ca10d3c6a0ab741a66012cb0336fb5", func := "loop.example/g00939/laws.FnExactGoOn", spec := "fnExactGoOn", apart := false, narrowed := true }
def FnExactGoOnUptoSaid : Prop := fnExactGoOnUptoRow.holds Try.pinned (OpenSpec.upto fnExactGoOnSpec)

/-- 'laws.FnExactCompareDemand', WHERE WHAT IT READS IS OF BULK AT MOST 1048576: true; the input reads as it did. -/
def fnExactCompareDemandUptoRow : OpenClaim := { program := "ythlfhcefeaehmaa", sum := "41e3254440650a639f03a74b332b1f18f4ca10d3c6a0ab741a66012cb0336fb5", func := "loop.example/g00939/laws.FnExactCompareDemand", spec := "fnExactCompareDemand", apart := false, narrowed := true }
def FnExactCompareDemandUptoSaid : Prop := fnExactCompareDemandUptoRow.holds Try.pinned (OpenSpec.upto fnExactCompareDemandSpec)

/-- 'laws.FnExactPlacesNow', WHERE WHAT IT READS IS OF BULK AT MOST 1048576: true; the input reads as it did. -/
def fnExactPlacesNowUptoRow : OpenClaim := { program := "ythlfhcefeaehmaa", sum := "41e3254440650a639f03a74b332b1f18f4ca10d3c6a0ab741a66012cb0336fb5", func := "loop.example/g00939/laws.FnExactPlacesNow", spec := "fnExactPlacesNow", apart := false, narrowed := true }
def FnExactPlacesNowUptoSaid : Prop := fnExactPlacesNowUptoRow.holds Try.pinned (OpenSpec.upto fnExactPlacesNowSpec)

/-- 'laws.FnExactTooCloseNow', WHERE WHAT IT READS IS OF BULK AT MOST 1048576: true; the input reads as it did. -/
def fnExactTooCloseNowUptoRow : OpenClaim := { program := "ythlfhcefeaehmaa", sum := "41e3254440650a639f03a74b332b1f18f4ca10d3c6a0ab741a66012cb0336fb5", func := "loop.example/g00939/laws.FnExactTooCloseNow", spec := "fnExactTooCloseNow", apart := false, narrowed := true }
def FnExactTooCloseNowUptoSaid : Prop := fnExactTooCloseNowUptoRow.holds Try.pinned (OpenSpec.upto fnExactTooCloseNowSpec)

/-- 'laws.FnExactPublishSheets', WHERE WHAT IT READS IS OF BULK AT MOST 1048576: true; the input reads as it did. -/
def fnExactPublishSheetsUptoRow : OpenClaim := { program := "ythlfhcefeaehmaa", sum := "41e3254440650a639f03a74b332b1f18f4ca10d3c6a0ab741a66012cb0336fb5", func := "loop.example/g00939/laws.FnExactPublishSheets", spec := "fnExactPublishSheets", apart := false, narrowed := true }
def FnExactPublishSheetsUptoSaid : Prop := fnExactPublishSheetsUptoRow.holds Try.pinned (OpenSpec.upto fnExactPublishSheetsSpec)

end Rows
end Go.Proofs.Ythlfhcefeaehmaa
