/-
  CORE, 7: owned slices whose elements own memory. Over any program.
-/
import Derived.Test.YtejhnpimhjmpdaaDoorCore6
set_option linter.unusedSimpArgs false
set_option linter.unusedVariables false
namespace Go.Proofs.YtejhnpimhjmpdaaDoor
open Go Go.RowKit
variable {P : Program} {α β : Type}
section
variable {base : Nat} {w w' : World} {M L : List Res} {r r1 r2 r' : Res}
theorem Sep.head (h : Sep base w (r :: M)) (hf : r'.fp = r.fp) (hk : ∀ w, r.ok w → r'.ok w) : Sep base w (r' :: M) := by
  obtain ⟨h1, h2⟩ := h
  cases h2 with
  | cons hd ht =>
    refine ⟨fun s hs => ?_, .cons (fun s hs b hb => hd s hs b (by rw [← hf]; exact hb)) ht⟩
    cases hs with
    | head =>
      have hg := h1 r (by simp)
      exact ⟨by rw [hf]; exact hg.1, fun b hb => hg.2.1 b (by rw [← hf]; exact hb), fun w' hw => hk _ (hg.2.2 w' fun b hb => hw b (by rw [hf]; exact hb))⟩
    | tail _ hs => exact h1 s (.tail _ hs)
end
section
variable {n : Nat} {σ : Env} {w w0 : World} {Q : Exit → Act → World → Prop} {L M : List Res}
variable {ds : List (Option Tmp)} {d : Nat} {T U : TypeId} {pos : String} {af : Array Edge} {rest : List Oper} {x y z : Operand} {sz : Nat} {agg : Bool} {zv : Value}
end
end Go.Proofs.YtejhnpimhjmpdaaDoor
