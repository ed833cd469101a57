/-
  PARTS OF A SHOW, PLAIN: moves, wide steps.
-/
import Derived.Test.YtmkignciedkidaaPLeast
set_option linter.unusedSimpArgs false
set_option linter.unusedVariables false
namespace Go.Proofs.Ytmkignciedkidaa
open Go
def okPart (x : ShowT) (p : Int) : Bool := okShow x && okIn p 0 ((x.2.1.length : Int) - 1)
theorem spec_swHas (x : ShowT) (p : Int) (h : lensOk x) : F_spec_swHas x p = some (okPart x p) := by
  unfold F_spec_swHas jK1 okPart
  have := h.2.2
  dsimp only
  rw [spec_swGood x h.1 h.2.1 h.2.2, Option.bind_some, w64_eq (by omega) (by omega), spec_l1In, Option.bind_some]
  cases okShow x <;> simp
theorem impl_isPart (x : ShowT) (p : Int) (h : lensOk x) : F_impl_isPart x p = some (okPart x p) := by
  unfold F_impl_isPart jK1 okPart
  have := h.2.2
  dsimp only
  rw [impl_IsShow x h.1 h.2.1 h.2.2, Option.bind_some, w64_eq (by omega) (by omega), impl_within, Option.bind_some]
  cases okShow x <;> simp
theorem part_of {x : ShowT} {p : Int} (h : okPart x p = true) : ShowFacts x ∧ p = ((p.toNat : Nat) : Int) ∧ p.toNat < x.2.1.length := by
  unfold okPart at h
  rw [Bool.and_eq_true, okIn_iff] at h
  exact ⟨facts h.1, by omega, by omega⟩
theorem spec_swWide (x : ShowT) (f : ShowFacts x) (p : Nat) (hp : p < x.2.1.length) : F_spec_swWide x (p : Int) = some (widesOf x p) := by
  have hl := moves_len x f p hp
  unfold F_spec_swWide widesOf
  rw [spec_swMoves x f p hp, Option.bind_some, loopFilter (F_spec_swWide_L1 (movesOf x p) x) (movesOf x p).length (wideAt x p) some (by omega) (fun m s k hk hs => ?_) (fun m s => ?_)]
  · obtain ⟨u, hu⟩ : ∃ u, (movesOf x p)[k]? = some u := ⟨_, List.getElem?_eq_getElem hk⟩
    have e : wideAt x p k = !withinB u x.2.2.2 := by unfold wideAt; rw [hu]
    rw [F_spec_swWide_L1, if_pos (by simp; omega), e]
    unfold jK1
    dsimp only
    rw [idx_nat, hu, Option.bind_some, spec_mvWithin, Option.bind_some, app_ok (by simp; omega), w64_succ (by omega)]
    cases withinB u x.2.2.2 <;> simp
  · rw [F_spec_swWide_L1, if_neg (by simp)]
def wideAns (x : ShowT) (p : Int) : List Int × Bool := if okPart x p then (widesOf x p.toNat, true) else ([], false)
theorem spec_WideSteps (x : ShowT) (p : Int) (h : lensOk x) : F_spec_WideSteps x p = some (wideAns x p) := by
  unfold F_spec_WideSteps wideAns
  rw [spec_swHas x p h, Option.bind_some]
  cases hp : okPart x p with
  | false => simp
  | true =>
    obtain ⟨f, e, hlt⟩ := part_of hp
    simp only [Bool.not_true, Bool.false_eq_true, if_false, if_true]
    rw [e, Int.toNat_natCast, spec_swWide x f _ hlt]
    rfl
theorem impl_WideSteps (x : ShowT) (p : Int) (h : lensOk x) : F_impl_WideSteps x p = some (wideAns x p) := by
  unfold F_impl_WideSteps wideAns
  rw [impl_isPart x p h, Option.bind_some]
  cases hp : okPart x p with
  | false => simp
  | true =>
    obtain ⟨f, e, hlt⟩ := part_of hp
    simp only [Bool.not_true, Bool.false_eq_true, if_false, if_true]
    rw [e, Int.toNat_natCast, impl_wideSteps x f _ hlt]
    rfl
theorem wideAns_len (x : ShowT) (p : Int) : (wideAns x p).1.length ≤ 12 := by
  unfold wideAns
  cases hp : okPart x p with
  | false => simp
  | true =>
    obtain ⟨f, e, hlt⟩ := part_of hp
    exact Nat.le_trans (filt_len _ _) (moves_len x f _ hlt)
end Go.Proofs.Ytmkignciedkidaa
