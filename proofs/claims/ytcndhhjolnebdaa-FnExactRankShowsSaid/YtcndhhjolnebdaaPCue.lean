/-
  CUES, PLAIN: what the tests of music and cues answer; times.
-/
import Derived.Test.YtcndhhjolnebdaaPShow
set_option linter.unusedSimpArgs false
set_option linter.unusedVariables false
namespace Go.Proofs.Ytcndhhjolnebdaa
open Go
theorem okIn_iff' {a lo hi : Int} : okIn a lo hi = true ↔ lo ≤ a ∧ a ≤ hi := by simp [okIn]
abbrev MusicT := List (Int × Int)
abbrev CueT := Int × (List UInt8)
def okMeasure (u : Int × Int) : Bool := okIn u.1 1 12 && okIn u.2 40 220
def okMusic (x : MusicT) : Bool := okIn (x.length : Int) 1 40 && x.all okMeasure
def totC (x : MusicT) : Int := x.foldl (fun a u => w64 (a + u.1)) 0
/-- Sums of counts do not leave the range. -/
theorem totC_eq {x : MusicT} (hx : x.all okMeasure = true) (hl : x.length ≤ 1000) : totC x = (x.map (·.1)).sum ∧ x.length ≤ (x.map (·.1)).sum ∧ (x.map (·.1)).sum ≤ 12 * x.length := by
  have key : ∀ (x : MusicT) (a : Int), x.all okMeasure = true → 0 ≤ a → a + 12 * x.length ≤ 1000000 → x.foldl (fun a u => w64 (a + u.1)) a = a + (x.map (·.1)).sum ∧ (x.length : Int) ≤ (x.map (·.1)).sum ∧ (x.map (·.1)).sum ≤ 12 * x.length := by
    intro x
    induction x with
    | nil => intro a _ _ _; simp
    | cons u x ih =>
      intro a h h0 h1
      rw [List.all_cons, Bool.and_eq_true] at h
      have hu := h.1
      unfold okMeasure at hu
      rw [Bool.and_eq_true, okIn_iff', okIn_iff'] at hu
      simp only [List.length_cons] at h1
      rw [List.foldl_cons, w64_eq (by omega) (by omega)]
      obtain ⟨e1, e2, e3⟩ := ih (a + u.1) h.2 (by omega) (by omega)
      rw [e1]
      simp only [List.map_cons, List.sum_cons, List.length_cons]
      omega
  have := key x 0 hx (by omega) (by omega)
  unfold totC
  simpa using this
theorem music_len {x : MusicT} (h : okMusic x = true) : 1 ≤ x.length ∧ x.length ≤ 40 ∧ x.all okMeasure = true := by
  unfold okMusic at h
  rw [Bool.and_eq_true, okIn_iff'] at h
  exact ⟨by omega, by omega, h.2⟩
/-! names -/
def okName (s : List UInt8) : Bool := s.all (fun u => decide (97 ≤ (u.toNat : Int)) && decide ((u.toNat : Int) ≤ 122)) && okIn (s.length : Int) 1 8
def okName12 (s : List UInt8) : Bool := s.all (fun u => decide (97 ≤ (u.toNat : Int)) && decide ((u.toNat : Int) ≤ 122)) && okIn (s.length : Int) 1 12
theorem name_two (s : List UInt8) : okName s = (decide (s.length ≤ 8) && okName12 s) := by
  unfold okName okName12 okIn
  cases s.all (fun u => decide (97 ≤ (u.toNat : Int)) && decide ((u.toNat : Int) ≤ 122)) with
  | false => simp
  | true =>
    rw [Bool.eq_iff_iff]
    simp
    omega
/-! cues -/
/-- The cue at k is one: in its bounds, named, behind the one before, and of a new name. -/
def cueAt (t : Int) (l : List CueT) (k : Nat) : Bool := match l[k]? with
  | some c => okIn c.1 0 (w64 (t - 1)) && okName c.2 && (match l[k - 1]? with | some d => decide (k = 0) || decide (d.1 < c.1) | none => true) && (l.take k).all (fun d => !decide (d.2 = c.2))
  | none => true
theorem cueAt_0 {t : Int} {l : List CueT} {c : CueT} (h : l[0]? = some c) : cueAt t l 0 = (okIn c.1 0 (w64 (t - 1)) && okName c.2) := by
  unfold cueAt
  rw [h]
  simp [h]
theorem cueAt_s {t : Int} {l : List CueT} {k : Nat} {c d : CueT} (h : l[k + 1]? = some c) (h' : l[k]? = some d) : cueAt t l (k + 1) = (okIn c.1 0 (w64 (t - 1)) && okName c.2 && decide (d.1 < c.1) && (l.take (k + 1)).all (fun d => !decide (d.2 = c.2))) := by
  unfold cueAt
  rw [h]
  simp [h']
def okCues (x : MusicT) (l : List CueT) : Bool := (List.range l.length).all (cueAt (totC x) l) && decide (l.length ≤ 30)
def okBoth (x : MusicT) (l : List CueT) : Bool := okMusic x && okCues x l
/-- What the walks' loops need of the lengths. -/
structure CueLens (x : MusicT) (l : List CueT) : Prop where
  hx : x.length < 4611686018427387904
  hl : l.length < 1073741824
  hn : ∀ c ∈ l, c.2.length < 4611686018427387904
theorem CueLens.hl' {x : MusicT} {l : List CueT} (h : CueLens x l) : l.length < 4611686018427387904 := by have := h.hl; omega
theorem both_music {x : MusicT} {l : List CueT} (h : okBoth x l = true) : okMusic x = true := by
  unfold okBoth at h
  rw [Bool.and_eq_true] at h
  exact h.1
theorem both_len {x : MusicT} {l : List CueT} (h : okBoth x l = true) : l.length ≤ 30 := by
  unfold okBoth okCues at h
  simp only [Bool.and_eq_true, decide_eq_true_eq] at h
  exact h.2.2
/-! times -/
/-- A loop that puts one thing after another for the numbers below n. -/
theorem loopMap' {β R : Type} (f : Nat → List β → Int → Option R) (n : Nat) (g : Nat → β) (rest : List β → Option R) (hn : n < 4611686018427387904)
    (hs : ∀ m s k, k < n → s.length = k → f (m + 1) s (k : Int) = f m (s ++ [g k]) ((k + 1 : Nat) : Int)) (he : ∀ m s, f (m + 1) s (n : Int) = rest s) : f FU [] 0 = rest ((List.range n).map g) := by
  have h := loopS f n (fun k s => s ++ [g k]) rest hn (fun k s => s = (List.range k).map g) [] (by simp) (fun k s hk hi => by rw [List.range_succ, List.map_append, hi]; simp) (fun m k s hk hi => hs m s k hk (by rw [hi]; simp)) (fun m s hi => he m s)
  rw [h.1, h.2]
theorem range_map_get' {α β : Type} (l : List α) (g : Nat → β) (h : α → β) (hg : ∀ k x, l[k]? = some x → g k = h x) : (List.range l.length).map g = l.map h := by
  apply List.ext_getElem?
  intro i
  by_cases hi : i < l.length
  · have e : l[i]? = some l[i] := List.getElem?_eq_getElem hi
    simp [hi, hg i _ e]
  · rw [List.getElem?_eq_none (by simp; omega), List.getElem?_eq_none (by simp; omega)]
/-- A loop that appends the image of each element. -/
theorem loopMapL {α β R : Type} (f : Nat → List β → Int → Option R) (l : List α) (g : α → β) (rest : List β → Option R) (hn : l.length < 4611686018427387904)
    (hs : ∀ m s k x, k < l.length → l[k]? = some x → s.length = k → f (m + 1) s (k : Int) = f m (s ++ [g x]) ((k + 1 : Nat) : Int)) (he : ∀ m s, f (m + 1) s (l.length : Int) = rest s) : f FU [] 0 = rest (l.map g) := by
  have h := loopS f l.length (fun k s => match l[k]? with | some x => s ++ [g x] | none => s) rest hn (fun k s => s = (l.take k).map g) [] (by simp) (fun k s hk hi => ?_) (fun m k s hk hi => ?_) (fun m s hi => he m s)
  · rw [h.1, h.2, List.take_of_length_le (Nat.le_refl _)]
  · have hx : l[k]? = some l[k] := by simp [hk]
    simp only [hx]
    rw [hi, List.take_succ_eq_append_getElem hk, List.map_append]
    rfl
  · have hx : l[k]? = some l[k] := by simp [hk]
    simp only [hx]
    exact hs m s k l[k] hk hx (by rw [hi]; simp; omega)
theorem app_ok' {α : Type} {l m : List α} (h : l.length + m.length ≤ 1073741824) : app l m = some (l ++ m) := by
  unfold app
  rw [if_pos h]
def okTime (t : Int) : Bool := okIn t 0 1000000
end Go.Proofs.Ytcndhhjolnebdaa
