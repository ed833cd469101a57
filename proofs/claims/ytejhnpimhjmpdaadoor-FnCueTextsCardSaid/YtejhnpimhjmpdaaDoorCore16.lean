/-
  CORE, 16: a slice whose elements own memory, as a slice of raw cells: its cells may be moved about. Over any program.
-/
import Derived.Test.YtejhnpimhjmpdaaDoorCore15
set_option linter.unusedSimpArgs false
set_option linter.unusedVariables false
namespace Go.Proofs.YtejhnpimhjmpdaaDoor
open Go Go.RowKit
variable {P : Program} {α : Type} {n : Nat} {w w0 : World} {L M : List Res}
end Go.Proofs.YtejhnpimhjmpdaaDoor
