/-
  CORE, 8: what comes in is opened: a reading by the row gives the datum that the walks take, with its ranges. Over any program.
-/
import Derived.Test.YtejhnpimhjmpdaaDoorCore17
import Derived.ProofKit
import Derived.OpenShut
import Derived.Deep.Slices
namespace Go.Proofs.YtejhnpimhjmpdaaDoor
open Go Go.RowKit
structure Opn {α : Type} (P : Program) (t : TypeId) (R : (Nat → Prop) → World → List Value → α → Prop) (G : α → Prop) : Prop where
  op : ∀ {H : Type} {enc : TypeId × Value → H} {w : World} {spare : Nat → Bool} {held : Bool} {fuel : Nat} {cs : List Value} {x : DataW H × List MemPlace}, DataW.trod enc P w 0 spare held fuel t cs = some x → ∃ d, R (· < w.heap.size) w cs d ∧ G d
variable {P : Program} {t : TypeId}
theorem opn_u8 (hu : P.underlying t = some (.int .u8)) : Opn P t (fun _ _ cs d => cs = [.int .u8 d]) inU8 := ⟨fun h => by
  obtain ⟨n, h1, _, h2⟩ := DataW.trod_int hu h
  exact ⟨n, h1, by simpa [Lit.wf, IntKind.min, IntKind.max, IntKind.signed, IntKind.bits, inU8] using h2⟩⟩
theorem cell_lt {w : World} {a : Addr} {v : Value} (h : w.cell? a = some v) : a.block < w.heap.size := by
  unfold World.cell? at h
  by_cases hb : a.block < w.heap.size
  · exact hb
  · rw [Array.getElem?_eq_none (by omega)] at h
    cases h
theorem list_of {α : Type} {Q : Nat → α → Prop} : ∀ n, (∀ i, i < n → ∃ x, Q i x) → ∃ l : List α, l.length = n ∧ ∀ i x, l[i]? = some x → Q i x
  | 0, _ => ⟨[], rfl, fun i x h => by simp at h⟩
  | n + 1, h => by
    obtain ⟨l, hl, hq⟩ := list_of n fun i hi => h i (by omega)
    obtain ⟨y, hy⟩ := h n (by omega)
    refine ⟨l ++ [y], by simp [hl], fun i x hx => ?_⟩
    by_cases hi : i < n
    · exact hq i x (by rwa [List.getElem?_append_left (by omega)] at hx)
    · rw [List.getElem?_append_right (by omega), hl] at hx
      by_cases h0 : i - n = 0
      · rw [h0] at hx
        simp at hx
        rw [← hx, show i = n by omega]
        exact hy
      · rw [List.getElem?_eq_none (by simp; omega)] at hx
        cases hx
theorem opn_slice {α : Type} {e : Ty P α} {G : α → Prop} (hu : P.underlying t = some (.slice e.tid)) (hc : P.cellsOf e.tid = e.sz) (he : Opn P e.tid e.rd G) :
    Opn P t (fun S w cs l => ∃ v, cs = [v] ∧ rdS e S w v l) (allG G) := ⟨fun {H enc w spare held fuel cs x} h => by
  rcases Go.Deep.open_slice hu h with ⟨rfl, _⟩ | ⟨a, len, cap, m, n, D, Pl, rfl, hb, hl, hm, hmm, _, hx⟩
  · exact ⟨[], ⟨_, rfl, rdS_nil⟩, by simp, fun x hx => by simp at hx⟩
  · obtain ⟨l, h1, h2⟩ := list_of (Q := fun i d => ElemAt e (· < w.heap.size) w (a.add (i * e.sz)) d ∧ G d) len fun i hi => by
      have hle : len ≤ m := by rw [hmm]; split <;> omega
      obtain ⟨cs', hc', ht⟩ := hx i (by omega)
      obtain ⟨d, hd, hg⟩ := he.op ht
      rw [hc] at hc'
      obtain ⟨_, hlen, hcell⟩ := World.cells?_some hc'
      refine ⟨d, ⟨?_, cs', hd, fun j c hj => ?_⟩, hg⟩
      · have h0 := hcell 0 e.sz_pos
        have hp := e.sz_pos
        rw [List.getElem?_eq_getElem (show 0 < cs'.length by omega)] at h0
        have hlt := cell_lt h0
        rwa [add_block] at hlt
      · have hj' : j < e.sz := by rw [← hlen]; exact (List.getElem?_eq_some_iff.1 hj).1
        rw [hcell j hj', hj]
    subst h1
    exact ⟨l, ⟨_, rfl, some a, cap, rfl, hl, .inr ⟨a, rfl, fun i x hx => (h2 i x hx).1⟩⟩, by have hM : maxLen = 9223372036854775807 := rfl; omega, fun x hx => by
      obtain ⟨i, hi⟩ := List.getElem?_of_mem hx
      exact (h2 i x hi).2⟩⟩
end Go.Proofs.YtejhnpimhjmpdaaDoor
