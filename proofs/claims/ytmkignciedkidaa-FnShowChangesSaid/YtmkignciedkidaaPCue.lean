/-
  CUES, PLAIN: what the tests of music and cues answer; times.
-/
import Derived.Test.YtmkignciedkidaaPShow
set_option linter.unusedSimpArgs false
set_option linter.unusedVariables false
namespace Go.Proofs.Ytmkignciedkidaa
open Go
abbrev MusicT := List (Int × Int)
abbrev CueT := Int × (List UInt8)
/-! names -/
/-! cues -/
/-- What the walks' loops need of the lengths. -/
structure CueLens (x : MusicT) (l : List CueT) : Prop where
  hx : x.length < 4611686018427387904
  hl : l.length < 1073741824
  hn : ∀ c ∈ l, c.2.length < 4611686018427387904
theorem CueLens.hl' {x : MusicT} {l : List CueT} (h : CueLens x l) : l.length < 4611686018427387904 := by have := h.hl; omega
/-! times -/
/-- A loop that appends the image of each element. -/
theorem loopMapL {α β R : Type} (f : Nat → List β → Int → Option R) (l : List α) (g : α → β) (rest : List β → Option R) (hn : l.length < 4611686018427387904)
    (hs : ∀ m s k x, k < l.length → l[k]? = some x → s.length = k → f (m + 1) s (k : Int) = f m (s ++ [g x]) ((k + 1 : Nat) : Int)) (he : ∀ m s, f (m + 1) s (l.length : Int) = rest s) : f FU [] 0 = rest (l.map g) := by
  have h := loopS f l.length (fun k s => match l[k]? with | some x => s ++ [g x] | none => s) rest hn (fun k s => s = (l.take k).map g) [] (by simp) (fun k s hk hi => ?_) (fun m k s hk hi => ?_) (fun m s hi => he m s)
  · rw [h.1, h.2, List.take_of_length_le (Nat.le_refl _)]
  · have hx : l[k]? = some l[k] := by simp [hk]
    simp only [hx]
    rw [hi, List.take_succ_eq_append_getElem hk, List.map_append]
    rfl
  · have hx : l[k]? = some l[k] := by simp [hk]
    simp only [hx]
    exact hs m s k l[k] hk hx (by rw [hi]; simp; omega)
end Go.Proofs.Ytmkignciedkidaa
