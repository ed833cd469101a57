/-
  CORE, 9: strings, greatest and least of two. Over any program.
-/
import Derived.Test.YtmkignciedkidaaGreatCore7
import Derived.Laws.StructEq
import Derived.Laws.Strings2
set_option linter.unusedSimpArgs false
set_option linter.unusedVariables false
namespace Go.Proofs.YtmkignciedkidaaGreat
open Go Go.RowKit
variable {P : Program} {n : Nat} {ds : List (Option Tmp)} {d : Nat} {T TB U : TypeId} {pos : String} {af : Array Edge} {rest : List Oper} {x y z : Operand} {σ : Env} {w : World} {Q : Exit → Act → World → Prop}
variable {a b c : List UInt8} {k : IntKind} {i j : Int} {S : World → Prop} {G : Value → Prop}
theorem mkS_size (a : List UInt8) : (mkS a).size = a.length := by simp [mkS, ByteArray.size]
theorem run_strindex {u : UInt8} (hu : P.underlying U = some .string) (hi : idx a i = some u) (w : World) : (Instr.index U (.string (mkS a)) (.int k i)).run P w = .ok (.int .u8 (u.toNat : Int)) w := by
  unfold idx at hi
  split at hi
  · rename_i h0
    obtain ⟨hlt, he⟩ := List.getElem?_eq_some_iff.1 hi
    have hz := mkS_size a
    rw [run_index_string _ _ _ _ _ hu, dif_pos ⟨h0, by omega⟩]
    have : (mkS a)[i.toNat]'(by omega) = u := by rw [← he]; rfl
    rw [this]
  · cases hi
theorem wl_strindex {u : UInt8} (hu : P.underlying U = some .string) (hn : Nat.blt d n = true) (hx : eop σ x = some (.string (mkS a))) (hy : eop σ y = some (.int k i)) (hi : idx a i = some u)
    (h : WL P n ds rest ((d, .int .u8 (u.toNat : Int)) :: σ) w Q) : WL P n ds (⟨some d, .index U x y, T, pos, af, none⟩ :: rest) σ w Q :=
  wl_run hn (fun ρ hρ => by simp [execOp, hρ _ _ hx, hρ _ _ hy, run_strindex hu hi]) h
end Go.Proofs.YtmkignciedkidaaGreat
