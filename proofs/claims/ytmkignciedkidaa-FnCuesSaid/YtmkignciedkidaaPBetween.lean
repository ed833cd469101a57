/-
  CUES BETWEEN TIMES, PLAIN.
-/
import Derived.Test.YtmkignciedkidaaPCue
import Derived.Test.YtmkignciedkidaaPSame
set_option linter.unusedSimpArgs false
set_option linter.unusedVariables false
namespace Go.Proofs.Ytmkignciedkidaa
open Go
def btwAt (ts : List Int) (a b : Int) (k : Nat) : Bool := match ts[k]? with
  | some u => decide (a ≤ u) && decide (u < b)
  | none => false
theorem btw_loop (f : Nat → List Int → Int → Option (List Int × Bool)) (ts : List Int) (a b : Int) (hl : ts.length < 1073741824)
    (hs : ∀ m s y, f (m + 1) s y = if (decide (y < (List.length ts : Int))) = true then Option.bind (idx ts y) fun u =>
      (if (decide (a ≤ u)) = true then (if (decide (u < b)) = true then Option.bind (app s [y]) fun z => f m z (w64 (y + 1)) else f m s (w64 (y + 1))) else (if false = true then Option.bind (app s [y]) fun z => f m z (w64 (y + 1)) else f m s (w64 (y + 1)))) else some (s, true)) :
    f FU [] 0 = some (filt (btwAt ts a b) ts.length, true) := by
  rw [loopFilter f ts.length (btwAt ts a b) (fun s => some (s, true)) (by omega) (fun m s k hk hsl => ?_) (fun m s => ?_)]
  · obtain ⟨u, hu⟩ : ∃ u, ts[k]? = some u := ⟨_, List.getElem?_eq_getElem hk⟩
    have e : btwAt ts a b k = (decide (a ≤ u) && decide (u < b)) := by unfold btwAt; rw [hu]
    rw [hs, if_pos (by simp; omega), idx_nat, hu, Option.bind_some, e, app_ok (by simp; omega), w64_succ (by omega)]
    by_cases h1 : a ≤ u <;> by_cases h2 : u < b <;> simp [h1, h2]
  · rw [hs, if_neg (by simp)]
def btwAns (x : MusicT) (l : List CueT) (a b : Int) : List Int × Bool := if okBoth x l && okTime a && okTime b then (filt (btwAt (timesC x l) a b) (timesC x l).length, true) else ([], false)
theorem spec_CuesBetween (x : MusicT) (l : List CueT) (a b : Int) (h : CueLens x l) : F_spec_CuesBetween x l a b = some (btwAns x l a b) := by
  unfold F_spec_CuesBetween jK1 btwAns
  dsimp only
  rw [spec_tiGood x l h, Option.bind_some, spec_tiTime, Option.bind_some, spec_tiTime, Option.bind_some]
  cases hb : okBoth x l with
  | false => simp
  | true =>
    cases ha : okTime a with
    | false => simp
    | true =>
      cases hc : okTime b with
      | false => simp
      | true =>
        have hl := both_len hb
        simp only [Bool.not_true, Bool.false_eq_true, if_false, Bool.and_self, if_true]
        rw [spec_tiTimes x l (both_music hb) h.hl, Option.bind_some, btw_loop (F_spec_CuesBetween_L1 (timesC x l) a b) (timesC x l) a b (by unfold timesC; simp; omega) (fun m s y => by rw [F_spec_CuesBetween_L1]; rfl)]
theorem impl_CuesBetween (x : MusicT) (l : List CueT) (a b : Int) (h : CueLens x l) : F_impl_CuesBetween x l a b = some (btwAns x l a b) := by
  unfold F_impl_CuesBetween jK1 btwAns
  dsimp only
  rw [impl_haveCues x l h, Option.bind_some, impl_isTime, Option.bind_some, impl_isTime, Option.bind_some]
  cases hb : okBoth x l with
  | false => simp
  | true =>
    cases ha : okTime a with
    | false => simp
    | true =>
      cases hc : okTime b with
      | false => simp
      | true =>
        have hl := both_len hb
        simp only [Bool.not_true, Bool.false_eq_true, if_false, Bool.and_self, if_true]
        rw [impl_cueTimes x l (both_music hb) h.hl, Option.bind_some, btw_loop (F_impl_CuesBetween_L1 (timesC x l) a b) (timesC x l) a b (by unfold timesC; simp; omega) (fun m s y => by rw [F_impl_CuesBetween_L1]; rfl)]
theorem btwAns_len (x : MusicT) (l : List CueT) (a b : Int) : (btwAns x l a b).1.length ≤ l.length := by
  unfold btwAns
  split
  · refine Nat.le_trans (filt_len _ _) ?_
    unfold timesC
    simp
  · simp
end Go.Proofs.Ytmkignciedkidaa
