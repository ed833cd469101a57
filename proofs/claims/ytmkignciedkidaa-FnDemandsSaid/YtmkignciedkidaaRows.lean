/-
  No cell of these rows narrows 'for every input' (looked for: loops, veiled, ifaces, maps, wideKeys, modest, calm, conditions, laid).
  DERIVED. THE GIVEN ROWS OF THIS SEAT. 6 by the template 'for every input the law returns true; each argument reads behind the call as it read before'; 0 by the template 'total and deterministic' (their statements: YtmkignciedkidaaTotals.lean).
  GIVEN WITH THE SEED: the statements are not yours to turn. If you find one false, say at which input.
  Laid BY PROGRAM, IN A SANDBOX (cutbox-rows.mjs): the forced cells as the released guide's own fill.sh prints them over the translation 6654adc0026c95d3… (all of the seat's roots in one cut). By AI agents, Wed Nov 11 2026. No macro, syntax, notation, axiom, sorry.
-/
import Derived.Test.YtmkignciedkidaaChecked
import GoSem.Claim
import GoSem.ClaimJoined
import GoSem.ClaimMapViews
import Derived.JoinedTies
import Derived.KernelRfl
namespace Go.Proofs.Ytmkignciedkidaa
/- THE CELL 'sum', in the pinned program and in every row, IS THE sha256 OF THE DUMP (.gsa) THAT YtmkignciedkidaaProg.lean LOADS. Nothing in Lean hashes anything: it is a label: what it is worth is what the hold of that sum in a sandbox is worth. -/
noncomputable def Try.pinned : Pinned := { name := "ytmkignciedkidaa", sum := "6654adc0026c95d33b36e3d7674f0773df0f8ba648e2ad59e0b1d35be75f05e0", checked := Try.checked }
namespace Rows
def none {H : Type} : Left H := { results := [], args := [] }

/-- 'laws.FnCues': WHATEVER THE INPUT: true; the input reads as it did. -/
def fnCuesSpec : ChangeSpec := { name := "fnCues", fn := fun _ => fun
  | [d1, d2] => { results := [.lit (.bool true)], args := [d1, d2] }
  | _ => none }
def fnCuesRow : OpenClaim := { program := "ytmkignciedkidaa", sum := "6654adc0026c95d33b36e3d7674f0773df0f8ba648e2ad59e0b1d35be75f05e0", func := "loop.example/g00939/laws.FnCues", spec := "fnCues", unfollowed := true, recurses := true, apart := false }
def FnCuesSaid : Prop := fnCuesRow.holds Try.pinned (OpenSpec.ofChange fnCuesSpec)

/-- ITS FALSE NEIGHBOUR: 'it returns false'. Refute it at one input. -/
def fnCuesWrong : ChangeSpec := { name := "fnCues", fn := fun _ => fun
  | [d1, d2] => { results := [.lit (.bool false)], args := [d1, d2] }
  | _ => none }
def FnCuesWrongFalsely : Prop := fnCuesRow.holds Try.pinned (OpenSpec.ofChange fnCuesWrong)

/-- 'laws.FnCompared': WHATEVER THE INPUT: true; the input reads as it did. -/
def fnComparedSpec : ChangeSpec := { name := "fnCompared", fn := fun _ => fun
  | [d1, d2] => { results := [.lit (.bool true)], args := [d1, d2] }
  | _ => none }
def fnComparedRow : OpenClaim := { program := "ytmkignciedkidaa", sum := "6654adc0026c95d33b36e3d7674f0773df0f8ba648e2ad59e0b1d35be75f05e0", func := "loop.example/g00939/laws.FnCompared", spec := "fnCompared", apart := false }
def FnComparedSaid : Prop := fnComparedRow.holds Try.pinned (OpenSpec.ofChange fnComparedSpec)

/-- ITS FALSE NEIGHBOUR: 'it returns false'. Refute it at one input. -/
def fnComparedWrong : ChangeSpec := { name := "fnCompared", fn := fun _ => fun
  | [d1, d2] => { results := [.lit (.bool false)], args := [d1, d2] }
  | _ => none }
def FnComparedWrongFalsely : Prop := fnComparedRow.holds Try.pinned (OpenSpec.ofChange fnComparedWrong)

/-- 'laws.FnShowChanges': WHATEVER THE INPUT: true; the input reads as it did. -/
def fnShowChangesSpec : ChangeSpec := { name := "fnShowChanges", fn := fun _ => fun
  | [d1, d2] => { results := [.lit (.bool true)], args := [d1, d2] }
  | _ => none }
def fnShowChangesRow : OpenClaim := { program := "ytmkignciedkidaa", sum := "6654adc0026c95d33b36e3d7674f0773df0f8ba648e2ad59e0b1d35be75f05e0", func := "loop.example/g00939/laws.FnShowChanges", spec := "fnShowChanges", apart := false }
def FnShowChangesSaid : Prop := fnShowChangesRow.holds Try.pinned (OpenSpec.ofChange fnShowChangesSpec)

/-- ITS FALSE NEIGHBOUR: 'it returns false'. Refute it at one input. -/
def fnShowChangesWrong : ChangeSpec := { name := "fnShowChanges", fn := fun _ => fun
  | [d1, d2] => { results := [.lit (.bool false)], args := [d1, d2] }
  | _ => none }
def FnShowChangesWrongFalsely : Prop := fnShowChangesRow.holds Try.pinned (OpenSpec.ofChange fnShowChangesWrong)

/-- 'laws.FnShows': WHATEVER THE INPUT: true; the input reads as it did. -/
def fnShowsSpec : ChangeSpec := { name := "fnShows", fn := fun _ => fun
  | [d1, d2] => { results := [.lit (.bool true)], args := [d1, d2] }
  | _ => none }
def fnShowsRow : OpenClaim := { program := "ytmkignciedkidaa", sum := "6654adc0026c95d33b36e3d7674f0773df0f8ba648e2ad59e0b1d35be75f05e0", func := "loop.example/g00939/laws.FnShows", spec := "fnShows", apart := false }
def FnShowsSaid : Prop := fnShowsRow.holds Try.pinned (OpenSpec.ofChange fnShowsSpec)

/-- ITS FALSE NEIGHBOUR: 'it returns false'. Refute it at one input. -/
def fnShowsWrong : ChangeSpec := { name := "fnShows", fn := fun _ => fun
  | [d1, d2] => { results := [.lit (.bool false)], args := [d1, d2] }
  | _ => none }
def FnShowsWrongFalsely : Prop := fnShowsRow.holds Try.pinned (OpenSpec.ofChange fnShowsWrong)

/-- 'laws.FnPlacesNow': WHATEVER THE INPUT: true; the input reads as it did. -/
def fnPlacesNowSpec : ChangeSpec := { name := "fnPlacesNow", fn := fun _ => fun
  | [d1, d2] => { results := [.lit (.bool true)], args := [d1, d2] }
  | _ => none }
def fnPlacesNowRow : OpenClaim := { program := "ytmkignciedkidaa", sum := "6654adc0026c95d33b36e3d7674f0773df0f8ba648e2ad59e0b1d35be75f05e0", func := "loop.example/g00939/laws.FnPlacesNow", spec := "fnPlacesNow", apart := false }
def FnPlacesNowSaid : Prop := fnPlacesNowRow.holds Try.pinned (OpenSpec.ofChange fnPlacesNowSpec)

/-- ITS FALSE NEIGHBOUR: 'it returns false'. Refute it at one input. -/
def fnPlacesNowWrong : ChangeSpec := { name := "fnPlacesNow", fn := fun _ => fun
  | [d1, d2] => { results := [.lit (.bool false)], args := [d1, d2] }
  | _ => none }
def FnPlacesNowWrongFalsely : Prop := fnPlacesNowRow.holds Try.pinned (OpenSpec.ofChange fnPlacesNowWrong)

/-- 'laws.FnDemands': WHATEVER THE INPUT: true; the input reads as it did. -/
def fnDemandsSpec : ChangeSpec := { name := "fnDemands", fn := fun _ => fun
  | [d1, d2] => { results := [.lit (.bool true)], args := [d1, d2] }
  | _ => none }
def fnDemandsRow : OpenClaim := { program := "ytmkignciedkidaa", sum := "6654adc0026c95d33b36e3d7674f0773df0f8ba648e2ad59e0b1d35be75f05e0", func := "loop.example/g00939/laws.FnDemands", spec := "fnDemands", unfollowed := true, recurses := true, apart := false }
def FnDemandsSaid : Prop := fnDemandsRow.holds Try.pinned (OpenSpec.ofChange fnDemandsSpec)

/-- ITS FALSE NEIGHBOUR: 'it returns false'. Refute it at one input. -/
def fnDemandsWrong : ChangeSpec := { name := "fnDemands", fn := fun _ => fun
  | [d1, d2] => { results := [.lit (.bool false)], args := [d1, d2] }
  | _ => none }
def FnDemandsWrongFalsely : Prop := fnDemandsRow.holds Try.pinned (OpenSpec.ofChange fnDemandsWrong)

/- THE SECOND FORM. 'bulk': how many values and letters a reading holds, each counted each time it is reached (what is shared counts as often as it is met; a slice's spare places count too). A statement '..UptoSaid' is the law's where the arguments, and the package variables that the reading takes, are together of bulk at most 1048576: NARROWER than '..Said'. Prove '..Said' where nothing that the law and all that it calls make is longer than what came in: it says more and counts as full. Else prove '..UptoSaid'. A law counts once. -/
mutual
def uptoBulk {H : Type} : DataW H → Nat
  | .lit (.string bytes) => bytes.length + 1
  | .lit _ => 1
  | .nil => 1
  | .ptr d => uptoBulk d + 1
  | .slice elems spare => uptoBulkAll elems + uptoBulkAll spare + 1
  | .agg parts => uptoBulkAll parts + 1
  | .iface _ d => uptoBulk d + 1
  | .map entries => uptoBulkEntries entries + 1
  | .held _ => 1
def uptoBulkAll {H : Type} : List (DataW H) → Nat
  | [] => 0
  | d :: r => uptoBulk d + uptoBulkAll r
def uptoBulkEntries {H : Type} : List (Lit × DataW H) → Nat
  | [] => 0
  | x :: r => uptoBulkEntry x + uptoBulkEntries r
def uptoBulkEntry {H : Type} : Lit × DataW H → Nat
  | (.string bytes, d) => bytes.length + uptoBulk d + 1
  | (_, d) => uptoBulk d + 1
 end
def uptoSmall : (H : Type) → List (DataW H) → Bool := fun _ ds => decide (uptoBulkAll ds ≤ 1048576)
def OpenSpec.upto (s : _root_.Go.ChangeSpec) : _root_.Go.OpenSpec := { _root_.Go.OpenSpec.ofChange s with cond := some uptoSmall }

/-- 'laws.FnCues', WHERE WHAT IT READS IS OF BULK AT MOST 1048576: true; the input reads as it did. -/
def fnCuesUptoRow : OpenClaim := { program := "ytmkignciedkidaa", sum := "6654adc0026c95d33b36e3d7674f0773df0f8ba648e2ad59e0b1d35be75f05e0", func := "loop.example/g00939/laws.FnCues", spec := "fnCues", unfollowed := true, recurses := true, apart := false, narrowed := true }
def FnCuesUptoSaid : Prop := fnCuesUptoRow.holds Try.pinned (OpenSpec.upto fnCuesSpec)

/-- 'laws.FnCompared', WHERE WHAT IT READS IS OF BULK AT MOST 1048576: true; the input reads as it did. -/
def fnComparedUptoRow : OpenClaim := { program := "ytmkignciedkidaa", sum := "6654adc0026c95d33b36e3d7674f0773df0f8ba648e2ad59e0b1d35be75f05e0", func := "loop.example/g00939/laws.FnCompared", spec := "fnCompared", apart := false, narrowed := true }
def FnComparedUptoSaid : Prop := fnComparedUptoRow.holds Try.pinned (OpenSpec.upto fnComparedSpec)

/-- 'laws.FnShowChanges', WHERE WHAT IT READS IS OF BULK AT MOST 1048576: true; the input reads as it did. -/
def fnShowChangesUptoRow : OpenClaim := { program := "ytmkignciedkidaa", sum := "6654adc0026c95d33b36e3d7674f0773df0f8ba648e2ad59e0b1d35be75f05e0", func := "loop.example/g00939/laws.FnShowChanges", spec := "fnShowChanges", apart := false, narrowed := true }
def FnShowChangesUptoSaid : Prop := fnShowChangesUptoRow.holds Try.pinned (OpenSpec.upto fnShowChangesSpec)

/-- 'laws.FnShows', WHERE WHAT IT READS IS OF BULK AT MOST 1048576: true; the input reads as it did. -/
def fnShowsUptoRow : OpenClaim := { program := "ytmkignciedkidaa", sum := "6654adc0026c95d33b36e3d7674f0773df0f8ba648e2ad59e0b1d35be75f05e0", func := "loop.example/g00939/laws.FnShows", spec := "fnShows", apart := false, narrowed := true }
def FnShowsUptoSaid : Prop := fnShowsUptoRow.holds Try.pinned (OpenSpec.upto fnShowsSpec)

/-- 'laws.FnPlacesNow', WHERE WHAT IT READS IS OF BULK AT MOST 1048576: true; the input reads as it did. -/
def fnPlacesNowUptoRow : OpenClaim := { program := "ytmkignciedkidaa", sum := "6654adc0026c95d33b36e3d7674f0773df0f8ba648e2ad59e0b1d35be75f05e0", func := "loop.example/g00939/laws.FnPlacesNow", spec := "fnPlacesNow", apart := false, narrowed := true }
def FnPlacesNowUptoSaid : Prop := fnPlacesNowUptoRow.holds Try.pinned (OpenSpec.upto fnPlacesNowSpec)

/-- 'laws.FnDemands', WHERE WHAT IT READS IS OF BULK AT MOST 1048576: true; the input reads as it did. -/
def fnDemandsUptoRow : OpenClaim := { program := "ytmkignciedkidaa", sum := "6654adc0026c95d33b36e3d7674f0773df0f8ba648e2ad59e0b1d35be75f05e0", func := "loop.example/g00939/laws.FnDemands", spec := "fnDemands", unfollowed := true, recurses := true, apart := false, narrowed := true }
def FnDemandsUptoSaid : Prop := fnDemandsUptoRow.holds Try.pinned (OpenSpec.upto fnDemandsSpec)

end Rows
end Go.Proofs.Ytmkignciedkidaa
