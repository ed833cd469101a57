/-
  CORE, 12: slices of data that own memory are put together: literals of one part, appending. Over any program.
-/
import Derived.Test.YtejhnpimhjmpdaaDoorCore11
set_option linter.unusedSimpArgs false
set_option linter.unusedVariables false
namespace Go.Proofs.YtejhnpimhjmpdaaDoor
open Go Go.RowKit
variable {P : Program} {α β : Type} {n : Nat} {ds : List (Option Tmp)} {d : Nat} {T U V : TypeId} {pos : String} {af : Array Edge} {rest : List Oper} {x y z : Operand} {σ : Env} {w w0 : World} {Q : Exit → Act → World → Prop} {L M : List Res}
/-- What was handed over comes back in other data. -/
theorem Sep.take {base : Nat} {w' : World} {L M N : List Res} (h : Sep base w L) (is js : List Nat) (hn : nodupB (is ++ js) = true) (hM : YtejhnpimhjmpdaaDoor.sel L is = M) (hS' : Sep 0 w' (R.rest w (fps M) :: N)) (hb : base ≤ w.heap.size) : Sep base w' (N ++ YtejhnpimhjmpdaaDoor.sel L js) := by
  have hkept := mut_kept hS'
  have hall := h.sel (is ++ js) hn
  rw [sel_append, hM] at hall
  have hcross := (List.pairwise_append.1 hall.2).2.2
  have hrest := hS'.1 _ (List.mem_cons_self ..)
  have hd' := hS'.2
  cases hd' with
  | cons hr hd' =>
    have injs : ∀ s ∈ YtejhnpimhjmpdaaDoor.sel L js, ∀ b ∈ s.fp, b ∈ (R.rest w (fps M)).fp := fun s hs b hb => by
      have g := hall.1 s (by simp [hs])
      refine rest_fp.2 ⟨(g.2.1 b hb).2, fun hx => ?_⟩
      obtain ⟨t, ht, hb'⟩ := mem_fps.1 hx
      exact hcross t ht s hs b hb' hb
    refine ⟨fun r hr' => ?_, List.pairwise_append.2 ⟨hd', (List.pairwise_append.1 hall.2).2.1, fun r hr' s hs b hb hb' => hr r hr' b (injs s hs b hb') hb⟩⟩
    rcases List.mem_append.1 hr' with hr' | hr'
    · have g := hS'.1 r (by simp [hr'])
      refine ⟨g.1, fun b hb' => ⟨?_, (g.2.1 b hb').2⟩, g.2.2⟩
      by_cases hlt : b < w.heap.size
      · by_cases hx : b ∈ fps M
        · obtain ⟨t, ht, hb''⟩ := mem_fps.1 hx
          exact ((hall.1 t (by simp [ht])).2.1 b hb'').1
        · exact absurd hb' (hr r hr' b (rest_fp.2 ⟨hlt, hx⟩))
      · omega
    · have g := hall.1 r (by simp [hr'])
      refine ⟨g.1, fun b hb' => ⟨(g.2.1 b hb').1, (hrest.2.1 b (injs r hr' b hb')).2⟩, fun w'' hk => g.2.2 w'' fun b hb' => (hk b hb').trans ?_⟩
      have := rest_fp.1 (injs r hr' b hb')
      exact hkept b this.1 this.2
theorem Sep.takeB {w' : World} {L M N : List Res} (h : Sep w0.heap.size w L) (is : List Nat) (hn : nodupB is = true) (hM : YtejhnpimhjmpdaaDoor.sel L is = M) (hB0 : Below w0.heap.size w0 w) (hE : Below 0 (wE w) w') (hS' : Sep 0 w' (R.rest w (fps M) :: N)) : Below w0.heap.size w0 w' := by
  have hin : ∀ b, b < w0.heap.size → b ∈ (R.rest w (fps M)).fp := fun b hb => rest_fp.2 ⟨by have := hB0.size; omega, fun hx => by
    obtain ⟨s, hs, hb'⟩ := mem_fps.1 hx
    have hs' : s ∈ YtejhnpimhjmpdaaDoor.sel L is := by rw [hM]; exact hs
    have := ((h.sel is hn).1 s hs').2.1 b hb'
    omega⟩
  have hrest := hS'.1 _ (List.mem_cons_self ..)
  refine ⟨hE.os.trans hB0.os, hE.tape.trans hB0.tape, hE.output.trans hB0.output, ?_, fun k hk => (mut_kept hS' k (by have := hB0.size; omega) (rest_fp.1 (hin k hk)).2).trans (hB0.block k hk)⟩
  by_cases h0 : w0.heap.size = 0
  · omega
  · have := (hrest.2.1 (w0.heap.size - 1) (hin _ (by omega))).2
    omega
end Go.Proofs.YtejhnpimhjmpdaaDoor
