/-
  DERIVED. GIVEN WITH THE SEED: THE CARDS: each row of YtejhnpimhjmpdaaDoorRows.lean that lists a variable, with what it lists TIED to the program's text (the seventh form; the later family's looks); each row that meets fmt, with fmt's text TOLD by the authors' own Lean function (tested against real Go, not proved from fmt's source: count such statements apart). THE CARD IS WHAT COUNTS. Prove the row's statement (the work); the ties are given (YtejhnpimhjmpdaaDoorTie.lean); close each card by the builder's one call (the guide's Derived/Test/ToyasCard.lean, 'card_holds'). Laid BY PROGRAM, IN A SANDBOX (cutbox-door.mjs). By AI agents, Wed Nov 11 2026. No macro, syntax, notation, axiom, sorry.
-/
import Derived.Test.YtejhnpimhjmpdaaDoorRows
import GoSem.ClaimSeven
namespace Go.Proofs.YtejhnpimhjmpdaaDoor
namespace Rows

/-- THE TIED CARD OF 'laws.FnExactTimetableText'. -/
def fnExactTimetableTextCard : Claim7 := { stood := { row := fnExactTimetableTextRow, standIns := [], harness := (true, "ddef671c6fb241e13d3fafe05bf8ce7fd22296f4b865b453332ee2f6967066f8"), looks := false }, kinds := [], alts := [], laidByText := true, laidKinds := [.data, .data, .data], laidTests := true, laidLooks := .later }
def FnExactTimetableTextCardSaid : Prop := Claim7.holds Tryd.pinned (.plain (OpenSpec.ofChange fnExactTimetableTextSpec)) fnExactTimetableTextCard

/-- THE TIED CARD OF 'laws.FnCueTexts'. -/
def fnCueTextsCard : Claim7 := { stood := { row := fnCueTextsRow, standIns := [], harness := (true, "ddef671c6fb241e13d3fafe05bf8ce7fd22296f4b865b453332ee2f6967066f8"), looks := false }, kinds := [], alts := [], laidByText := true, laidKinds := [.data, .data, .data], laidTests := true, laidLooks := .later }
def FnCueTextsCardSaid : Prop := Claim7.holds Tryd.pinned (.plain (OpenSpec.ofChange fnCueTextsSpec)) fnCueTextsCard

/-- THE SECOND FORM's CARD OF 'laws.FnExactTimetableText'. -/
def fnExactTimetableTextUptoCard : Claim7 := { stood := { row := fnExactTimetableTextUptoRow, standIns := [], harness := (true, "ddef671c6fb241e13d3fafe05bf8ce7fd22296f4b865b453332ee2f6967066f8"), looks := false }, kinds := [], alts := [], laidByText := true, laidKinds := [.data, .data, .data], laidTests := true, laidLooks := .later }
def FnExactTimetableTextUptoCardSaid : Prop := Claim7.holds Tryd.pinned (.plain (OpenSpec.upto fnExactTimetableTextSpec)) fnExactTimetableTextUptoCard

/-- THE SECOND FORM's CARD OF 'laws.FnCueTexts'. -/
def fnCueTextsUptoCard : Claim7 := { stood := { row := fnCueTextsUptoRow, standIns := [], harness := (true, "ddef671c6fb241e13d3fafe05bf8ce7fd22296f4b865b453332ee2f6967066f8"), looks := false }, kinds := [], alts := [], laidByText := true, laidKinds := [.data, .data, .data], laidTests := true, laidLooks := .later }
def FnCueTextsUptoCardSaid : Prop := Claim7.holds Tryd.pinned (.plain (OpenSpec.upto fnCueTextsSpec)) fnCueTextsUptoCard
end Rows
end Go.Proofs.YtejhnpimhjmpdaaDoor
