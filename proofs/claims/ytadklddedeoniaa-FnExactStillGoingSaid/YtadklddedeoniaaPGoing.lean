/-
  WHO IS STILL GOING, PLAIN.
-/
import Derived.Test.YtadklddedeoniaaPBehind
import Derived.Test.YtadklddedeoniaaPTotal
set_option linter.unusedSimpArgs false
set_option linter.unusedVariables false
namespace Go.Proofs.Ytadklddedeoniaa
open Go
def ownC (x : MarchT) (b : Int) : Int := minI (w64 (x.2.1 - b)) (sumW x.1.2.1)
theorem least_two (a b : Int) : F_spec_l1Least a b = some (minI b a) := by
  unfold F_spec_l1Least minI
  by_cases h : a < b <;> simp [h]
theorem spec_mnCount (x : MarchT) (h : lensM x) {i : Int} {b : Int} (hb : idx x.2.2.2 i = some b) : F_spec_mnCount x i = some (ownC x b) := by
  unfold F_spec_mnCount ownC
  rw [hb, Option.bind_some, spec_swTotal x.1 h.1.2.2, Option.bind_some, least_two]
  rfl
theorem impl_ownCount (x : MarchT) (h : lensM x) {i : Int} {b : Int} (hb : idx x.2.2.2 i = some b) : F_impl_ownCount x i = some (ownC x b) := by
  unfold F_impl_ownCount ownC
  rw [hb, Option.bind_some, impl_totalCounts x.1 h.1.2.2, Option.bind_some]
def goesAt (x : MarchT) (k : Nat) : Bool := match x.2.2.2[k]? with
  | some b => decide (ownC x b < sumW x.1.2.1)
  | none => false
def goingAns (x : MarchT) : List Int × Bool := if okMarch x then (filt (goesAt x) x.2.2.2.length, true) else ([], false)
theorem spec_StillGoing (x : MarchT) (h : lensM x) : F_spec_StillGoing x = some (goingAns x) := by
  unfold F_spec_StillGoing goingAns
  rw [spec_mnGood x h.1 h.2.1 h.2.2, Option.bind_some]
  cases hm : okMarch x with
  | false => simp
  | true =>
    have hb := march_behind h hm
    simp only [Bool.not_true, Bool.false_eq_true, if_false, if_true]
    rw [loopFilter (F_spec_StillGoing_L1 x) x.2.2.2.length (goesAt x) (fun s => some (s, true)) (by omega) (fun m s k hk hsl => ?_) (fun m s => ?_)]
    · obtain ⟨b, hbk⟩ : ∃ b, x.2.2.2[k]? = some b := ⟨_, List.getElem?_eq_getElem hk⟩
      have e : goesAt x k = decide (ownC x b < sumW x.1.2.1) := by unfold goesAt; rw [hbk]
      rw [F_spec_StillGoing_L1, if_pos (by simp; omega)]
      unfold jK1
      dsimp only
      rw [spec_mnCount x h (by rw [idx_nat]; exact hbk), Option.bind_some, spec_swTotal x.1 h.1.2.2, Option.bind_some, e, app_ok (by simp; omega), w64_succ (by omega)]
      by_cases hq : ownC x b < sumW x.1.2.1 <;> simp [hq]
    · rw [F_spec_StillGoing_L1, if_neg (by simp)]
theorem impl_StillGoing (x : MarchT) (h : lensM x) : F_impl_StillGoing x = some (goingAns x) := by
  unfold F_impl_StillGoing goingAns
  rw [impl_IsMarch x h.1 h.2.1 h.2.2, Option.bind_some]
  cases hm : okMarch x with
  | false => simp
  | true =>
    have hb := march_behind h hm
    simp only [Bool.not_true, Bool.false_eq_true, if_false, if_true]
    rw [loopFilter (F_impl_StillGoing_L1 x) x.2.2.2.length (goesAt x) (fun s => some (s, true)) (by omega) (fun m s k hk hsl => ?_) (fun m s => ?_)]
    · obtain ⟨b, hbk⟩ : ∃ b, x.2.2.2[k]? = some b := ⟨_, List.getElem?_eq_getElem hk⟩
      have e : goesAt x k = decide (ownC x b < sumW x.1.2.1) := by unfold goesAt; rw [hbk]
      rw [F_impl_StillGoing_L1, if_pos (by simp; omega)]
      unfold jK1
      dsimp only
      rw [impl_ownCount x h (by rw [idx_nat]; exact hbk), Option.bind_some, impl_totalCounts x.1 h.1.2.2, Option.bind_some, e, app_ok (by simp; omega), w64_succ (by omega)]
      by_cases hq : ownC x b < sumW x.1.2.1 <;> simp [hq]
    · rw [F_impl_StillGoing_L1, if_neg (by simp)]
theorem goingAns_len (x : MarchT) (h : lensM x) : (goingAns x).1.length ≤ 12 := by
  unfold goingAns
  cases hm : okMarch x with
  | false => simp
  | true => exact Nat.le_trans (filt_len _ _) (march_behind h hm).2.1
end Go.Proofs.Ytadklddedeoniaa
