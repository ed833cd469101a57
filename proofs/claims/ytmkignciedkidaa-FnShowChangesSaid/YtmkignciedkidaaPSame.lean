/-
  SHOWS COMPARED, PLAIN.
-/
import Derived.Test.YtmkignciedkidaaPShow
set_option linter.unusedSimpArgs false
set_option linter.unusedVariables false
namespace Go.Proofs.Ytmkignciedkidaa
open Go
theorem okIn_iff {a lo hi : Int} : okIn a lo hi = true ↔ lo ≤ a ∧ a ≤ hi := by simp [okIn]
structure ShowFacts (x : ShowT) : Prop where
  n0 : 2 ≤ x.1.length
  n1 : x.1.length ≤ 8
  nc : x.2.1.length + 1 = x.1.length
  ch : ∀ c ∈ x.1, okChart c = true
  cl : ∀ c ∈ x.1, 1 ≤ c.length ∧ c.length ≤ 12
  ce : ∀ c ∈ x.1, ∀ d, x.1[0]? = some d → c.length = d.length
  cn : ∀ u ∈ x.2.1, 1 ≤ u ∧ u ≤ 64
  le : 0 ≤ x.2.2.1 ∧ x.2.2.1 ≤ 80
  st : 1 ≤ x.2.2.2 ∧ x.2.2.2 ≤ 24
theorem okChart_len {c : List (Int × Int)} (h : okChart c = true) : 1 ≤ c.length ∧ c.length ≤ 12 := by
  unfold okChart at h
  rw [Bool.and_eq_true, okIn_iff] at h
  omega
theorem facts {x : ShowT} (h : okShow x = true) : ShowFacts x := by
  unfold okShow sameLong okCounts at h
  simp only [Bool.and_eq_true, okIn_iff, decide_eq_true_eq, List.all_eq_true] at h
  obtain ⟨⟨⟨⟨⟨h1, h2⟩, h3⟩, h4⟩, h5⟩, h6⟩ := h
  refine ⟨by omega, by omega, h2, fun c hc => (h3 c hc).1, fun c hc => okChart_len (h3 c hc).1, fun c hc d hd => ?_, h4, h5, h6⟩
  have := (h3 c hc).2
  rw [hd] at this
  simpa using this
/-- The numbers below n that p takes. -/
def filt (p : Nat → Bool) (n : Nat) : List Int := ((List.range n).filter p).map fun (k : Nat) => (k : Int)
theorem filt_succ (p : Nat → Bool) (n : Nat) : filt p (n + 1) = if p n then filt p n ++ [(n : Int)] else filt p n := by
  unfold filt
  rw [List.range_succ, List.filter_append, List.map_append]
  cases h : p n <;> simp [h]
theorem filt_len (p : Nat → Bool) (n : Nat) : (filt p n).length ≤ n := by
  unfold filt
  rw [List.length_map]
  exact Nat.le_trans (List.length_filter_le _ _) (by simp)
theorem loopFilter {R : Type} (f : Nat → List Int → Int → Option R) (n : Nat) (p : Nat → Bool) (rest : List Int → Option R) (hn : n < 4611686018427387904)
    (hs : ∀ m s k, k < n → s.length ≤ k → f (m + 1) s (k : Int) = f m (if p k then s ++ [(k : Int)] else s) ((k + 1 : Nat) : Int)) (he : ∀ m s, f (m + 1) s (n : Int) = rest s) : f FU [] 0 = rest (filt p n) := by
  have h := loopS f n (fun k s => if p k then s ++ [(k : Int)] else s) rest hn (fun k s => s = filt p k) [] (by simp [filt]) (fun k s hk hi => by rw [filt_succ, hi]) (fun m k s hk hi => hs m s k hk (by rw [hi]; exact filt_len p k)) (fun m s hi => he m s)
  rw [h.1, h.2]
theorem app_ok {α : Type} {l m : List α} (h : l.length + m.length ≤ 1073741824) : app l m = some (l ++ m) := by
  unfold app
  rw [if_pos h]
theorem chart_len {x : ShowT} (f : ShowFacts x) {k : Nat} {c d : List (Int × Int)} (hc : x.1[k]? = some c) (hd : x.1[0]? = some d) : c.length = d.length := f.ce c (List.mem_of_getElem? hc) d hd
def lensOk (x : ShowT) : Prop := x.1.length < 4611686018427387904 ∧ (∀ c ∈ x.1, c.length < 4611686018427387904) ∧ x.2.1.length < 4611686018427387904
end Go.Proofs.Ytmkignciedkidaa
