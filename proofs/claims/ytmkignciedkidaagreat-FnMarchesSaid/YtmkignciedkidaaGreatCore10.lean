/-
  CORE, 10: functions that write into what they are given: what is kept; an element lent. Over any program.
-/
import Derived.Test.YtmkignciedkidaaGreatCore9
set_option linter.unusedSimpArgs false
set_option linter.unusedVariables false
namespace Go.Proofs.YtmkignciedkidaaGreat
open Go Go.RowKit
variable {P : Program} {α β : Type}
/-- The world before it held anything: a walk that starts here owns what it is given. -/
def wE (w : World) : World := { w with heap := #[] }
theorem wE_below (w : World) : Below (wE w).heap.size (wE w) w := ⟨rfl, rfl, rfl, Nat.zero_le _, fun k hk => absurd hk (Nat.not_lt_zero _)⟩
def fps (L : List Res) : List Nat := L.flatMap fun r => r.fp
theorem mem_fps {L : List Res} {b : Nat} : b ∈ fps L ↔ ∃ r ∈ L, b ∈ r.fp := by simp [fps]
/-- All old memory but X stays. -/
def R.rest (w0 : World) (X : List Nat) : Res := ⟨(List.range w0.heap.size).filter (fun b => !X.contains b), fun w => ∀ b, b < w0.heap.size → b ∉ X → w.heap[b]? = w0.heap[b]?⟩
theorem rest_fp {w0 : World} {X : List Nat} {b : Nat} : b ∈ (R.rest w0 X).fp ↔ b < w0.heap.size ∧ b ∉ X := by simp [R.rest]
section
variable {base : Nat} {w w' w0 : World} {L M M' : List Res} {r r1 r2 : Res}
theorem Sep.rest (h : Sep 0 w M) : Sep 0 w (R.rest w (fps M) :: M) := by
  refine ⟨fun s hs => ?_, .cons (fun s hs b hb hb' => (rest_fp.1 hb).2 (mem_fps.2 ⟨s, hs, hb'⟩)) h.2⟩
  cases hs with
  | tail _ hs => exact h.1 s hs
  | head => exact ⟨List.Nodup.sublist List.filter_sublist List.nodup_range, fun b hb => ⟨Nat.zero_le _, (rest_fp.1 hb).1⟩, fun w' hk b hb hx => hk b (rest_fp.2 ⟨hb, hx⟩)⟩
theorem Sep.base0 (h : Sep base w L) : Sep 0 w L := ⟨fun r hr => ⟨(h.1 r hr).1, fun b hb => ⟨Nat.zero_le _, ((h.1 r hr).2.1 b hb).2⟩, (h.1 r hr).2.2⟩, h.2⟩
theorem sel_append : ∀ (is js : List Nat), sel L (is ++ js) = sel L is ++ sel L js
  | [], js => rfl
  | i :: is, js => by
    rw [List.cons_append, sel, sel, sel_append is js]
    cases lget L i <;> rfl
theorem fp_of_map (hfp : M'.map (·.fp) = M.map (·.fp)) (hr : r ∈ M') : ∃ s ∈ M, s.fp = r.fp := by
  have : r.fp ∈ M.map (·.fp) := by rw [← hfp]; exact List.mem_map.2 ⟨r, hr, rfl⟩
  obtain ⟨s, hs, e⟩ := List.mem_map.1 this
  exact ⟨s, hs, e⟩
theorem mut_kept (hS' : Sep 0 w' (R.rest w (fps M) :: M')) : ∀ b, b < w.heap.size → b ∉ fps M → w'.heap[b]? = w.heap[b]? := (hS'.1 _ (List.mem_cons_self ..)).ok
theorem mut_size (hfp : M'.map (·.fp) = M.map (·.fp)) (hS' : Sep 0 w' (R.rest w (fps M) :: M')) : w.heap.size ≤ w'.heap.size := by
  by_cases h0 : w.heap.size = 0
  · omega
  · by_cases hb : w.heap.size - 1 ∈ fps M
    · obtain ⟨r, hr, hb⟩ := mem_fps.1 hb
      have : r.fp ∈ M'.map (·.fp) := by rw [hfp]; exact List.mem_map.2 ⟨r, hr, rfl⟩
      obtain ⟨s, hs, e⟩ := List.mem_map.1 this
      have := ((hS'.1 s (by simp [hs])).2.1 _ (by rw [e]; exact hb)).2
      omega
    · have := ((hS'.1 _ (List.mem_cons_self ..)).2.1 (w.heap.size - 1) (rest_fp.2 ⟨by omega, hb⟩)).2
      omega
theorem Sep.mut (h : Sep base w L) (is js : List Nat) (hn : nodupB (is ++ js) = true) (hM : YtmkignciedkidaaGreat.sel L is = M) (hfp : M'.map (·.fp) = M.map (·.fp)) (hS' : Sep 0 w' (R.rest w (fps M) :: M')) : Sep base w' (M' ++ YtmkignciedkidaaGreat.sel L js) := by
  have hsz := mut_size hfp hS'
  have hkept := mut_kept hS'
  have hall := h.sel (is ++ js) hn
  rw [sel_append, hM] at hall
  have hcross := (List.pairwise_append.1 hall.2).2.2
  have hd' := hS'.2
  cases hd' with
  | cons _ hd' =>
    refine ⟨fun r hr => ?_, List.pairwise_append.2 ⟨hd', (List.pairwise_append.1 hall.2).2.1, fun r hr s hs b hb => ?_⟩⟩
    · rcases List.mem_append.1 hr with hr | hr
      · have g := hS'.1 r (by simp [hr])
        obtain ⟨s, hs, e⟩ := fp_of_map hfp hr
        have gs := hall.1 s (by simp [hs])
        exact ⟨g.1, fun b hb => ⟨(gs.2.1 b (by rw [e]; exact hb)).1, (g.2.1 b hb).2⟩, g.2.2⟩
      · have g := hall.1 r (by simp [hr])
        refine g.keep hsz fun b hb => hkept b (g.2.1 b hb).2 fun hx => ?_
        obtain ⟨s, hs, hb'⟩ := mem_fps.1 hx
        exact hcross s hs r hr b hb' hb
    · obtain ⟨t, ht, e⟩ := fp_of_map hfp hr
      exact hcross t ht s hs b (by rw [e]; exact hb)
theorem Sep.mutB (h : Sep base w L) (is : List Nat) (hn : nodupB is = true) (hM : YtmkignciedkidaaGreat.sel L is = M) (hfp : M'.map (·.fp) = M.map (·.fp)) (hB0 : Below base w0 w) (hb0 : base ≤ w.heap.size) (hE : Below 0 (wE w) w') (hS' : Sep 0 w' (R.rest w (fps M) :: M')) : Below base w0 w' :=
  ⟨hE.os.trans hB0.os, hE.tape.trans hB0.tape, hE.output.trans hB0.output, Nat.le_trans hB0.size (mut_size hfp hS'), fun k hk => (mut_kept hS' k (by omega) fun hx => by
    obtain ⟨s, hs, hb⟩ := mem_fps.1 hx
    have hs' : s ∈ YtmkignciedkidaaGreat.sel L is := by rw [hM]; exact hs
    have := ((h.sel is hn).1 s hs').2.1 k hb
    omega).trans (hB0.block k hk)⟩
end
end Go.Proofs.YtmkignciedkidaaGreat
