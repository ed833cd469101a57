/-
  DERIVED. GIVEN WITH THE SEED: THE CARDS: each row of YtcndhhjolnebdaaDoorRows.lean that lists a variable, with what it lists TIED to the program's text (the seventh form; the later family's looks); each row that meets fmt, with fmt's text TOLD by the authors' own Lean function (tested against real Go, not proved from fmt's source: count such statements apart). THE CARD IS WHAT COUNTS. Prove the row's statement (the work); the ties are given (YtcndhhjolnebdaaDoorTie.lean); close each card by the builder's one call (the guide's Derived/Test/ToyasCard.lean, 'card_holds'). Laid BY PROGRAM, IN A SANDBOX (cutbox-door.mjs). By AI agents, Wed Nov 11 2026. No macro, syntax, notation, axiom, sorry.
-/
import Derived.Test.YtcndhhjolnebdaaDoorRows
import GoSem.ClaimSeven
namespace Go.Proofs.YtcndhhjolnebdaaDoor
namespace Rows

/-- THE TIED CARD OF 'laws.FnExactJoinScripts'. -/
def fnExactJoinScriptsCard : Claim7 := { stood := { row := fnExactJoinScriptsRow, standIns := [], harness := (true, "55e5db59c72ab92aad9b99f8b207b4b4c98faac5765ab5710fcaecb521d1d3c0"), looks := false }, kinds := [], alts := [], laidByText := true, laidKinds := [.data, .pinned], laidTests := true, laidLooks := .later }
def FnExactJoinScriptsCardSaid : Prop := Claim7.holds Tryd.pinned (.plain (OpenSpec.ofChange fnExactJoinScriptsSpec)) fnExactJoinScriptsCard

/-- THE TIED CARD OF 'laws.FnExactTimetableText'. -/
def fnExactTimetableTextCard : Claim7 := { stood := { row := fnExactTimetableTextRow, standIns := [], harness := (true, "55e5db59c72ab92aad9b99f8b207b4b4c98faac5765ab5710fcaecb521d1d3c0"), looks := false }, kinds := [], alts := [], laidByText := true, laidKinds := [.data, .data, .data], laidTests := true, laidLooks := .later }
def FnExactTimetableTextCardSaid : Prop := Claim7.holds Tryd.pinned (.plain (OpenSpec.ofChange fnExactTimetableTextSpec)) fnExactTimetableTextCard

/-- THE SECOND FORM's CARD OF 'laws.FnExactJoinScripts'. -/
def fnExactJoinScriptsUptoCard : Claim7 := { stood := { row := fnExactJoinScriptsUptoRow, standIns := [], harness := (true, "55e5db59c72ab92aad9b99f8b207b4b4c98faac5765ab5710fcaecb521d1d3c0"), looks := false }, kinds := [], alts := [], laidByText := true, laidKinds := [.data, .pinned], laidTests := true, laidLooks := .later }
def FnExactJoinScriptsUptoCardSaid : Prop := Claim7.holds Tryd.pinned (.plain (OpenSpec.upto fnExactJoinScriptsSpec)) fnExactJoinScriptsUptoCard

/-- THE SECOND FORM's CARD OF 'laws.FnExactTimetableText'. -/
def fnExactTimetableTextUptoCard : Claim7 := { stood := { row := fnExactTimetableTextUptoRow, standIns := [], harness := (true, "55e5db59c72ab92aad9b99f8b207b4b4c98faac5765ab5710fcaecb521d1d3c0"), looks := false }, kinds := [], alts := [], laidByText := true, laidKinds := [.data, .data, .data], laidTests := true, laidLooks := .later }
def FnExactTimetableTextUptoCardSaid : Prop := Claim7.holds Tryd.pinned (.plain (OpenSpec.upto fnExactTimetableTextSpec)) fnExactTimetableTextUptoCard
end Rows
end Go.Proofs.YtcndhhjolnebdaaDoor
