/-
  THE LEAST STEP OF A SHOW, PLAIN.
-/
import Derived.Test.YtmkignciedkidaaPMoves
set_option linter.unusedSimpArgs false
set_option linter.unusedVariables false
namespace Go.Proofs.Ytmkignciedkidaa
open Go
def withinB (u : MoveT) (s : Int) : Bool := decide (sqM u ≤ (w64 ((w64 ((w64 (s * s)) * u.2.2)) * u.2.2)))
theorem spec_mvWithin (u : MoveT) (s : Int) : F_spec_mvWithin u s = some (withinB u s) := rfl
theorem impl_withinStep (u : MoveT) (s : Int) : F_impl_withinStep u s = some (withinB u s) := rfl
theorem moves_count {x : ShowT} (f : ShowFacts x) {p : Nat} (hp : p < x.2.1.length) {u : MoveT} (hu : u ∈ movesOf x p) : 1 ≤ u.2.2 ∧ u.2.2 ≤ 64 := by
  obtain ⟨a, b, n, h1, h2, h3, h4, h5, h6, h7, h8⟩ := part_facts f hp
  unfold movesOf at hu
  rw [List.mem_map] at hu
  obtain ⟨i, _, rfl⟩ := hu
  unfold countsAt
  rw [h3]
  exact ⟨h7, h8⟩
theorem within_iff {u : MoveT} {s : Int} (hu : 1 ≤ u.2.2 ∧ u.2.2 ≤ 64) (hs : 0 ≤ s ∧ s ≤ 25) : withinB u s = decide (sqM u ≤ s * s * u.2.2 * u.2.2) := by
  unfold withinB
  have h1 : 0 ≤ s * s := Int.mul_nonneg hs.1 hs.1
  have h2 : s * s ≤ 25 * 25 := Int.mul_le_mul hs.2 hs.2 hs.1 (by omega)
  have h3 : 0 ≤ s * s * u.2.2 := Int.mul_nonneg h1 (by omega)
  have h4 : s * s * u.2.2 ≤ 25 * 25 * 64 := Int.mul_le_mul h2 hu.2 (by omega) (by omega)
  have h5 : 0 ≤ s * s * u.2.2 * u.2.2 := Int.mul_nonneg h3 (by omega)
  have h6 : s * s * u.2.2 * u.2.2 ≤ 25 * 25 * 64 * 64 := Int.mul_le_mul h4 hu.2 (by omega) (by omega)
  rw [w64_eq (x := s * s) (by omega) (by omega), w64_eq (x := s * s * u.2.2) (by omega) (by omega), w64_eq (by omega) (by omega)]
/-- The wide steps of a part. -/
def wideAt (x : ShowT) (p k : Nat) : Bool := match (movesOf x p)[k]? with
  | some u => !withinB u x.2.2.2
  | none => false
def widesOf (x : ShowT) (p : Nat) : List Int := filt (wideAt x p) (movesOf x p).length
theorem impl_wideSteps (x : ShowT) (f : ShowFacts x) (p : Nat) (hp : p < x.2.1.length) : F_impl_wideSteps x (p : Int) = some (widesOf x p) := by
  have hl := moves_len x f p hp
  unfold F_impl_wideSteps
  rw [impl_showMoves x f p hp, Option.bind_some, loopFilter (F_impl_wideSteps_L1 (movesOf x p) x) (movesOf x p).length (wideAt x p) some (by omega) (fun m s k hk hs => ?_) (fun m s => ?_)]
  · rfl
  · obtain ⟨u, hu⟩ : ∃ u, (movesOf x p)[k]? = some u := ⟨_, List.getElem?_eq_getElem hk⟩
    have e : wideAt x p k = !withinB u x.2.2.2 := by unfold wideAt; rw [hu]
    rw [F_impl_wideSteps_L1, if_pos (by simp; omega), e]
    unfold jK1
    dsimp only
    rw [idx_nat, hu, Option.bind_some, impl_withinStep, Option.bind_some, app_ok (by simp; omega), w64_succ (by omega)]
    cases withinB u x.2.2.2 <;> simp
  · rw [F_impl_wideSteps_L1, if_neg (by simp)]
end Go.Proofs.Ytmkignciedkidaa
