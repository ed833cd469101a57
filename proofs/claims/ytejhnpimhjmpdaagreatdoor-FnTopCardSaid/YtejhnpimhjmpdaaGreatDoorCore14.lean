/-
  CORE, 14: empty literals of elements that own memory. Over any program.
-/
import Derived.Test.YtejhnpimhjmpdaaGreatDoorCore13
set_option linter.unusedSimpArgs false
set_option linter.unusedVariables false
namespace Go.Proofs.YtejhnpimhjmpdaaGreatDoor
open Go Go.RowKit
variable {P : Program} {α : Type} {n : Nat} {ds : List (Option Tmp)} {d : Nat} {T U : TypeId} {pos : String} {af : Array Edge} {rest : List Oper} {σ : Env} {w w0 : World} {Q : Exit → Act → World → Prop} {L : List Res}
theorem wl_lit0 {e : Ty P α} (hu : P.underlying U = some (.slice e.tid)) (hn : Nat.blt d n = true) (hB : Below w0.heap.size w0 w) (hS : Sep w0.heap.size w L)
    (h : ∀ v F w', Below w.heap.size w w' → Below w0.heap.size w0 w' → Sep w0.heap.size w' (R.own e F v ([] : List α) :: L) → WL P n ds rest ((d, v) :: σ) w' Q) :
    WL P n ds (⟨some d, .buildSlice U 0 #[], T, pos, af, none⟩ :: rest) σ w Q := by
  have hb2 : Below w.heap.size w (w.alloc (.cells #[] e.tid)) := alloc_below w _
  refine wl_run (w' := w.alloc (.cells #[] e.tid)) (v := .slice (some ⟨w.heap.size, 0, none⟩) 0 0) hn (fun ρ hρ => ?_)
    (h _ [w.heap.size] _ hb2 (hB.trans (hb2.mono hB.size)) (hS.push hb2 (by simp [R.own]) (fun b hb => by simp [R.own] at hb; subst hb; simp) hB.size fun w'' hk' => ?_))
  · have hb := run_buildSlice (P := P) hu (parts := []) (css := []) rfl (fun c hc => by cases hc) (by simp) w
    simp only [List.length_nil, List.flatten_nil] at hb
    simp [execOp, hb]
  · have hh := hk' w.heap.size (by simp [R.own])
    exact .inr ⟨w.heap.size, 0, #[], [], [], rfl, by rw [hh, heap_alloc_new], Nat.le_refl _, by simp [maxLen], by simp, by simp, trivial, rfl⟩
end Go.Proofs.YtejhnpimhjmpdaaGreatDoor
