/-
  CORE, 14: empty literals of elements that own memory. Over any program.
-/
import Derived.Test.YtejhnpimhjmpdaaDoorCore13
set_option linter.unusedSimpArgs false
set_option linter.unusedVariables false
namespace Go.Proofs.YtejhnpimhjmpdaaDoor
open Go Go.RowKit
variable {P : Program} {α : Type} {n : Nat} {ds : List (Option Tmp)} {d : Nat} {T U : TypeId} {pos : String} {af : Array Edge} {rest : List Oper} {σ : Env} {w w0 : World} {Q : Exit → Act → World → Prop} {L : List Res}
end Go.Proofs.YtejhnpimhjmpdaaDoor
