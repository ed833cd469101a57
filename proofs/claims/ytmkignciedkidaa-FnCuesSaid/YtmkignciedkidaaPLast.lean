/-
  THE LAST CUE AT A TIME, PLAIN.
-/
import Derived.Test.YtmkignciedkidaaPCue
set_option linter.unusedSimpArgs false
set_option linter.unusedVariables false
namespace Go.Proofs.Ytmkignciedkidaa
open Go
def lastAt (ts : List Int) (t : Int) : Int := (List.range ts.length).foldl (fun s (k : Nat) => match ts[k]? with | some u => if u ≤ t then (k : Int) else s | none => s) (-1)
theorem last_loop (f : Nat → Int → Int → Option (Int × Bool)) (ts : List Int) (t : Int) (hl : ts.length < 4611686018427387904)
    (hs : ∀ m s y, f (m + 1) s y = if (decide (y < (List.length ts : Int))) = true then Option.bind (idx ts y) fun u => (if (decide (u ≤ t)) = true then f m y (w64 (y + 1)) else f m s (w64 (y + 1))) else (if (decide (s < 0)) = true then some (0, false) else some (s, true))) :
    f FU (-1) 0 = if lastAt ts t < 0 then some (0, false) else some (lastAt ts t, true) := by
  have := loopS f ts.length (fun (k : Nat) s => match ts[k]? with | some u => if u ≤ t then (k : Int) else s | none => s) (fun s => if s < 0 then some (0, false) else some (s, true)) hl (fun _ _ => True) (-1) trivial (fun _ _ _ _ => trivial)
    (fun m k s hk _ => ?_) (fun m s _ => ?_)
  · exact this.1
  · obtain ⟨u, hu⟩ : ∃ u, ts[k]? = some u := ⟨_, List.getElem?_eq_getElem hk⟩
    rw [hs, if_pos (by simp; omega), idx_nat, hu, Option.bind_some, w64_succ (by omega)]
    by_cases hq : u ≤ t <;> simp [hq]
  · rw [hs, if_neg (by simp)]
    by_cases hq : s < 0 <;> simp [hq]
def lastAns (x : MusicT) (l : List CueT) (t : Int) : Int × Bool := if okBoth x l && okTime t then (if lastAt (timesC x l) t < 0 then (0, false) else (lastAt (timesC x l) t, true)) else (0, false)
theorem spec_LastCueAt (x : MusicT) (l : List CueT) (t : Int) (h : CueLens x l) : F_spec_LastCueAt x l t = some (lastAns x l t) := by
  unfold F_spec_LastCueAt jK1 lastAns
  dsimp only
  rw [spec_tiGood x l h, Option.bind_some, spec_tiTime, Option.bind_some]
  cases hb : okBoth x l with
  | false => simp
  | true =>
    cases ht : okTime t with
    | false => simp
    | true =>
      have hl := both_len hb
      simp only [Bool.not_true, Bool.false_eq_true, if_false, Bool.and_self, if_true]
      rw [spec_tiTimes x l (both_music hb) h.hl, Option.bind_some, last_loop (F_spec_LastCueAt_L1 (timesC x l) t) (timesC x l) t (by unfold timesC; simp; omega) (fun m s y => by rw [F_spec_LastCueAt_L1]; rfl)]
      split <;> rfl
theorem impl_LastCueAt (x : MusicT) (l : List CueT) (t : Int) (h : CueLens x l) : F_impl_LastCueAt x l t = some (lastAns x l t) := by
  unfold F_impl_LastCueAt jK1 lastAns
  dsimp only
  rw [impl_haveCues x l h, Option.bind_some, impl_isTime, Option.bind_some]
  cases hb : okBoth x l with
  | false => simp
  | true =>
    cases ht : okTime t with
    | false => simp
    | true =>
      have hl := both_len hb
      simp only [Bool.not_true, Bool.false_eq_true, if_false, Bool.and_self, if_true]
      rw [impl_cueTimes x l (both_music hb) h.hl, Option.bind_some, last_loop (F_impl_LastCueAt_L1 (timesC x l) t) (timesC x l) t (by unfold timesC; simp; omega) (fun m s y => by rw [F_impl_LastCueAt_L1]; rfl)]
      split <;> rfl
end Go.Proofs.Ytmkignciedkidaa
