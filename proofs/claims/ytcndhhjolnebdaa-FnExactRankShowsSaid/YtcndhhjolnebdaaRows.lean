/-
  No cell of these rows narrows 'for every input' (looked for: loops, veiled, ifaces, maps, wideKeys, modest, calm, conditions, laid).
  DERIVED. THE GIVEN ROWS OF THIS SEAT. 3 by the template 'for every input the law returns true; each argument reads behind the call as it read before'; 0 by the template 'total and deterministic' (their statements: YtcndhhjolnebdaaTotals.lean).
  GIVEN WITH THE SEED: the statements are not yours to turn. If you find one false, say at which input.
  Laid BY PROGRAM, IN A SANDBOX (cutbox-rows.mjs): the forced cells as the released guide's own fill.sh prints them over the translation 5f0895a24a82194a… (all of the seat's roots in one cut). By AI agents, Wed Nov 11 2026. No macro, syntax, notation, axiom, sorry.
-/
import Derived.Test.YtcndhhjolnebdaaChecked
import GoSem.Claim
import GoSem.ClaimJoined
import GoSem.ClaimMapViews
import Derived.JoinedTies
import Derived.KernelRfl
namespace Go.Proofs.Ytcndhhjolnebdaa
/- THE CELL 'sum', in the pinned program and in every row, IS THE sha256 OF THE DUMP (.gsa) THAT YtcndhhjolnebdaaProg.lean LOADS. Nothing in Lean hashes anything: it is a label: what it is worth is what the hold of that sum in a sandbox is worth. -/
noncomputable def Try.pinned : Pinned := { name := "ytcndhhjolnebdaa", sum := "5f0895a24a82194a0186319d3dfe59d56f6adaaee35823e96fa80a47126392d4", checked := Try.checked }
namespace Rows
def none {H : Type} : Left H := { results := [], args := [] }

/-- 'laws.FnExactRankShows': WHATEVER THE INPUT: true; the input reads as it did. -/
def fnExactRankShowsSpec : ChangeSpec := { name := "fnExactRankShows", fn := fun _ => fun
  | [d] => { results := [.lit (.bool true)], args := [d] }
  | _ => none }
def fnExactRankShowsRow : OpenClaim := { program := "ytcndhhjolnebdaa", sum := "5f0895a24a82194a0186319d3dfe59d56f6adaaee35823e96fa80a47126392d4", func := "loop.example/g00939/laws.FnExactRankShows", spec := "fnExactRankShows", unfollowed := true, recurses := true, apart := false }
def FnExactRankShowsSaid : Prop := fnExactRankShowsRow.holds Try.pinned (OpenSpec.ofChange fnExactRankShowsSpec)

/-- ITS FALSE NEIGHBOUR: 'it returns false'. Refute it at one input. -/
def fnExactRankShowsWrong : ChangeSpec := { name := "fnExactRankShows", fn := fun _ => fun
  | [d] => { results := [.lit (.bool false)], args := [d] }
  | _ => none }
def FnExactRankShowsWrongFalsely : Prop := fnExactRankShowsRow.holds Try.pinned (OpenSpec.ofChange fnExactRankShowsWrong)

/-- 'laws.FnExactHaltPerformer': WHATEVER THE INPUT: true; the input reads as it did. -/
def fnExactHaltPerformerSpec : ChangeSpec := { name := "fnExactHaltPerformer", fn := fun _ => fun
  | [d1, d2] => { results := [.lit (.bool true)], args := [d1, d2] }
  | _ => none }
def fnExactHaltPerformerRow : OpenClaim := { program := "ytcndhhjolnebdaa", sum := "5f0895a24a82194a0186319d3dfe59d56f6adaaee35823e96fa80a47126392d4", func := "loop.example/g00939/laws.FnExactHaltPerformer", spec := "fnExactHaltPerformer", recurses := true, apart := false }
def FnExactHaltPerformerSaid : Prop := fnExactHaltPerformerRow.holds Try.pinned (OpenSpec.ofChange fnExactHaltPerformerSpec)

/-- ITS FALSE NEIGHBOUR: 'it returns false'. Refute it at one input. -/
def fnExactHaltPerformerWrong : ChangeSpec := { name := "fnExactHaltPerformer", fn := fun _ => fun
  | [d1, d2] => { results := [.lit (.bool false)], args := [d1, d2] }
  | _ => none }
def FnExactHaltPerformerWrongFalsely : Prop := fnExactHaltPerformerRow.holds Try.pinned (OpenSpec.ofChange fnExactHaltPerformerWrong)

/-- 'laws.FnExactRunBeats': WHATEVER THE INPUT: true; the input reads as it did. -/
def fnExactRunBeatsSpec : ChangeSpec := { name := "fnExactRunBeats", fn := fun _ => fun
  | [d1, d2] => { results := [.lit (.bool true)], args := [d1, d2] }
  | _ => none }
def fnExactRunBeatsRow : OpenClaim := { program := "ytcndhhjolnebdaa", sum := "5f0895a24a82194a0186319d3dfe59d56f6adaaee35823e96fa80a47126392d4", func := "loop.example/g00939/laws.FnExactRunBeats", spec := "fnExactRunBeats", recurses := true, apart := false }
def FnExactRunBeatsSaid : Prop := fnExactRunBeatsRow.holds Try.pinned (OpenSpec.ofChange fnExactRunBeatsSpec)

/-- ITS FALSE NEIGHBOUR: 'it returns false'. Refute it at one input. -/
def fnExactRunBeatsWrong : ChangeSpec := { name := "fnExactRunBeats", fn := fun _ => fun
  | [d1, d2] => { results := [.lit (.bool false)], args := [d1, d2] }
  | _ => none }
def FnExactRunBeatsWrongFalsely : Prop := fnExactRunBeatsRow.holds Try.pinned (OpenSpec.ofChange fnExactRunBeatsWrong)

/- THE SECOND FORM. 'bulk': how many values and letters a reading holds, each counted each time it is reached (what is shared counts as often as it is met; a slice's spare places count too). A statement '..UptoSaid' is the law's where the arguments, and the package variables that the reading takes, are together of bulk at most 1048576: NARROWER than '..Said'. Prove '..Said' where nothing that the law and all that it calls make is longer than what came in: it says more and counts as full. Else prove '..UptoSaid'. A law counts once. -/
mutual
def uptoBulk {H : Type} : DataW H → Nat
  | .lit (.string bytes) => bytes.length + 1
  | .lit _ => 1
  | .nil => 1
  | .ptr d => uptoBulk d + 1
  | .slice elems spare => uptoBulkAll elems + uptoBulkAll spare + 1
  | .agg parts => uptoBulkAll parts + 1
  | .iface _ d => uptoBulk d + 1
  | .map entries => uptoBulkEntries entries + 1
  | .held _ => 1
def uptoBulkAll {H : Type} : List (DataW H) → Nat
  | [] => 0
  | d :: r => uptoBulk d + uptoBulkAll r
def uptoBulkEntries {H : Type} : List (Lit × DataW H) → Nat
  | [] => 0
  | x :: r => uptoBulkEntry x + uptoBulkEntries r
def uptoBulkEntry {H : Type} : Lit × DataW H → Nat
  | (.string bytes, d) => bytes.length + uptoBulk d + 1
  | (_, d) => uptoBulk d + 1
 end
def uptoSmall : (H : Type) → List (DataW H) → Bool := fun _ ds => decide (uptoBulkAll ds ≤ 1048576)
def OpenSpec.upto (s : _root_.Go.ChangeSpec) : _root_.Go.OpenSpec := { _root_.Go.OpenSpec.ofChange s with cond := some uptoSmall }

/-- 'laws.FnExactRankShows', WHERE WHAT IT READS IS OF BULK AT MOST 1048576: true; the input reads as it did. -/
def fnExactRankShowsUptoRow : OpenClaim := { program := "ytcndhhjolnebdaa", sum := "5f0895a24a82194a0186319d3dfe59d56f6adaaee35823e96fa80a47126392d4", func := "loop.example/g00939/laws.FnExactRankShows", spec := "fnExactRankShows", unfollowed := true, recurses := true, apart := false, narrowed := true }
def FnExactRankShowsUptoSaid : Prop := fnExactRankShowsUptoRow.holds Try.pinned (OpenSpec.upto fnExactRankShowsSpec)

/-- 'laws.FnExactHaltPerformer', WHERE WHAT IT READS IS OF BULK AT MOST 1048576: true; the input reads as it did. -/
def fnExactHaltPerformerUptoRow : OpenClaim := { program := "ytcndhhjolnebdaa", sum := "5f0895a24a82194a0186319d3dfe59d56f6adaaee35823e96fa80a47126392d4", func := "loop.example/g00939/laws.FnExactHaltPerformer", spec := "fnExactHaltPerformer", recurses := true, apart := false, narrowed := true }
def FnExactHaltPerformerUptoSaid : Prop := fnExactHaltPerformerUptoRow.holds Try.pinned (OpenSpec.upto fnExactHaltPerformerSpec)

/-- 'laws.FnExactRunBeats', WHERE WHAT IT READS IS OF BULK AT MOST 1048576: true; the input reads as it did. -/
def fnExactRunBeatsUptoRow : OpenClaim := { program := "ytcndhhjolnebdaa", sum := "5f0895a24a82194a0186319d3dfe59d56f6adaaee35823e96fa80a47126392d4", func := "loop.example/g00939/laws.FnExactRunBeats", spec := "fnExactRunBeats", recurses := true, apart := false, narrowed := true }
def FnExactRunBeatsUptoSaid : Prop := fnExactRunBeatsUptoRow.holds Try.pinned (OpenSpec.upto fnExactRunBeatsSpec)

end Rows
end Go.Proofs.Ytcndhhjolnebdaa
