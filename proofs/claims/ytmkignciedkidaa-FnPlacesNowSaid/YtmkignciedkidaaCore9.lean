/-
  CORE, 9: strings, greatest and least of two. Over any program.
-/
import Derived.Test.YtmkignciedkidaaCore7
import Derived.Laws.StructEq
import Derived.Laws.Strings2
set_option linter.unusedSimpArgs false
set_option linter.unusedVariables false
namespace Go.Proofs.Ytmkignciedkidaa
open Go Go.RowKit
variable {P : Program} {n : Nat} {ds : List (Option Tmp)} {d : Nat} {T TB U : TypeId} {pos : String} {af : Array Edge} {rest : List Oper} {x y z : Operand} {σ : Env} {w : World} {Q : Exit → Act → World → Prop}
variable {a b c : List UInt8} {k : IntKind} {i j : Int} {S : World → Prop} {G : Value → Prop}
end Go.Proofs.Ytmkignciedkidaa
