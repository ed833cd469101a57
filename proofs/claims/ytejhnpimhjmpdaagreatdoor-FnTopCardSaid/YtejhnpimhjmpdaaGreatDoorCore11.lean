/-
  CORE, 11: functions as values; converting. Over any program.
-/
import Derived.Test.YtejhnpimhjmpdaaGreatDoorCore10
import Derived.Laws.BytesString
set_option linter.unusedSimpArgs false
set_option linter.unusedVariables false
namespace Go.Proofs.YtejhnpimhjmpdaaGreatDoor
open Go Go.RowKit
variable {P : Program} {n : Nat} {ds : List (Option Tmp)} {d : Nat} {T U V : TypeId} {pos : String} {af : Array Edge} {rest : List Oper} {x y z : Operand} {σ : Env} {w w0 : World} {Q : Exit → Act → World → Prop} {L : List Res}
theorem wl_convi {k k' : IntKind} {a : Int} {us : TypeDesc} (hs : P.underlying U = some us) (hd : P.underlying V = some (.int k')) (hn : Nat.blt d n = true) (hx : eop σ x = some (.int k a))
    (h : WL P n ds rest ((d, .int k' (k'.wrap a)) :: σ) w Q) : WL P n ds (⟨some d, .convert U V x, T, pos, af, none⟩ :: rest) σ w Q :=
  wl_run hn (fun ρ hρ => by simp [execOp, hρ _ _ hx, convert, run_underlying hs, run_underlying hd, Conv.intToInt]) h
end Go.Proofs.YtejhnpimhjmpdaaGreatDoor
