/-
  CORE, 9: strings, greatest and least of two. Over any program.
-/
import Derived.Test.YtmkignciedkidaaCore7
import Derived.Laws.StructEq
import Derived.Laws.Strings2
set_option linter.unusedSimpArgs false
set_option linter.unusedVariables false
namespace Go.Proofs.Ytmkignciedkidaa
open Go Go.RowKit
variable {P : Program} {n : Nat} {ds : List (Option Tmp)} {d : Nat} {T TB U : TypeId} {pos : String} {af : Array Edge} {rest : List Oper} {x y z : Operand} {σ : Env} {w : World} {Q : Exit → Act → World → Prop}
variable {a b c : List UInt8} {k : IntKind} {i j : Int} {S : World → Prop} {G : Value → Prop}
theorem wl_max {ts : Array TypeId} (hn : Nat.blt d n = true) (hx : eop σ x = some (.int k i)) (hy : eop σ y = some (.int k j))
    (h : WL P n ds rest ((d, .int k (maxI i j)) :: σ) w Q) : WL P n ds (⟨some d, .call ⟨.builtin .max, #[x, y], ts⟩, T, pos, af, none⟩ :: rest) σ w Q :=
  wl_run hn (fun ρ hρ => by simp [execOp, resolve, invoke, builtin, hρ _ _ hx, hρ _ _ hy, Builtin.max_, Builtin.max2, maxI]) h
end Go.Proofs.Ytmkignciedkidaa
