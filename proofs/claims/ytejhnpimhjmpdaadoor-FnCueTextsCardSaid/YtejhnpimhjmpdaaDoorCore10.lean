/-
  CORE, 10: functions that write into what they are given: what is kept; an element lent. Over any program.
-/
import Derived.Test.YtejhnpimhjmpdaaDoorCore9
set_option linter.unusedSimpArgs false
set_option linter.unusedVariables false
namespace Go.Proofs.YtejhnpimhjmpdaaDoor
open Go Go.RowKit
variable {P : Program} {α β : Type}
/-- The world before it held anything: a walk that starts here owns what it is given. -/
def wE (w : World) : World := { w with heap := #[] }
theorem wE_below (w : World) : Below (wE w).heap.size (wE w) w := ⟨rfl, rfl, rfl, Nat.zero_le _, fun k hk => absurd hk (Nat.not_lt_zero _)⟩
def fps (L : List Res) : List Nat := L.flatMap fun r => r.fp
theorem mem_fps {L : List Res} {b : Nat} : b ∈ fps L ↔ ∃ r ∈ L, b ∈ r.fp := by simp [fps]
/-- All old memory but X stays. -/
def R.rest (w0 : World) (X : List Nat) : Res := ⟨(List.range w0.heap.size).filter (fun b => !X.contains b), fun w => ∀ b, b < w0.heap.size → b ∉ X → w.heap[b]? = w0.heap[b]?⟩
theorem rest_fp {w0 : World} {X : List Nat} {b : Nat} : b ∈ (R.rest w0 X).fp ↔ b < w0.heap.size ∧ b ∉ X := by simp [R.rest]
section
variable {base : Nat} {w w' w0 : World} {L M M' : List Res} {r r1 r2 : Res}
theorem Sep.rest (h : Sep 0 w M) : Sep 0 w (R.rest w (fps M) :: M) := by
  refine ⟨fun s hs => ?_, .cons (fun s hs b hb hb' => (rest_fp.1 hb).2 (mem_fps.2 ⟨s, hs, hb'⟩)) h.2⟩
  cases hs with
  | tail _ hs => exact h.1 s hs
  | head => exact ⟨List.Nodup.sublist List.filter_sublist List.nodup_range, fun b hb => ⟨Nat.zero_le _, (rest_fp.1 hb).1⟩, fun w' hk b hb hx => hk b (rest_fp.2 ⟨hb, hx⟩)⟩
theorem Sep.base0 (h : Sep base w L) : Sep 0 w L := ⟨fun r hr => ⟨(h.1 r hr).1, fun b hb => ⟨Nat.zero_le _, ((h.1 r hr).2.1 b hb).2⟩, (h.1 r hr).2.2⟩, h.2⟩
theorem sel_append : ∀ (is js : List Nat), sel L (is ++ js) = sel L is ++ sel L js
  | [], js => rfl
  | i :: is, js => by
    rw [List.cons_append, sel, sel, sel_append is js]
    cases lget L i <;> rfl
theorem mut_kept (hS' : Sep 0 w' (R.rest w (fps M) :: M')) : ∀ b, b < w.heap.size → b ∉ fps M → w'.heap[b]? = w.heap[b]? := (hS'.1 _ (List.mem_cons_self ..)).ok
end
end Go.Proofs.YtejhnpimhjmpdaaDoor
