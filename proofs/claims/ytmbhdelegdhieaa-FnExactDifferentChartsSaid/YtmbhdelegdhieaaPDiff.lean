/-
  THE CHARTS THAT DIFFER, PLAIN.
-/
import Derived.Test.YtmbhdelegdhieaaPSame
set_option linter.unusedSimpArgs false
set_option linter.unusedVariables false
namespace Go.Proofs.Ytmbhdelegdhieaa
open Go
/-- Two shows of one outline. -/
def fit (x y : ShowT) : Bool := okShow x && okShow y && decide (x.1.length = y.1.length) && (match x.1[0]?, y.1[0]? with | some c, some d => decide (c.length = d.length) | _, _ => true)
def diffAns (x y : ShowT) : (List Int) × Bool := if fit x y then (filt (diffAt x y) x.1.length, true) else ([], false)
theorem spec_DifferentCharts (x y : ShowT) (hx : lensOk x) (hy : lensOk y) : F_spec_DifferentCharts x y = some (diffAns x y) := by
  unfold F_spec_DifferentCharts jK1 diffAns fit
  dsimp only
  rw [spec_swGood x hx.1 hx.2.1 hx.2.2, Option.bind_some, spec_swGood y hy.1 hy.2.1 hy.2.2, Option.bind_some]
  cases h1 : okShow x with
  | false => simp
  | true =>
    cases h2 : okShow y with
    | false => simp
    | true =>
      have fx := facts h1
      have fy := facts h2
      have nx := fx.n0
      have ny := fy.n0
      obtain ⟨c0, hc0⟩ : ∃ c, x.1[0]? = some c := ⟨_, List.getElem?_eq_getElem (by omega)⟩
      obtain ⟨d0, hd0⟩ : ∃ d, y.1[0]? = some d := ⟨_, List.getElem?_eq_getElem (by omega)⟩
      simp only [Bool.not_true, Bool.false_eq_true, if_false, Bool.and_self]
      rw [idx_zero, hc0, Option.bind_some, idx_zero, hd0, Option.bind_some]
      by_cases hl : x.1.length = y.1.length
      · rw [if_neg (by simp; omega)]
        by_cases h0 : c0.length = d0.length
        · rw [if_neg (by simp; omega), spec_cpDifferent x y fx fy hl (fun c d hc hd => by rw [hc0] at hc; rw [hd0] at hd; cases hc; cases hd; exact h0)]
          simp [hl, h0]
        · rw [if_pos (by simp; omega)]
          simp [h0]
      · rw [if_pos (by simp; omega)]
        simp [hl]
theorem impl_DifferentCharts (x y : ShowT) (hx : lensOk x) (hy : lensOk y) : F_impl_DifferentCharts x y = some (diffAns x y) := by
  unfold F_impl_DifferentCharts jK1 diffAns fit
  dsimp only
  rw [impl_IsShow x hx.1 hx.2.1 hx.2.2, Option.bind_some, impl_IsShow y hy.1 hy.2.1 hy.2.2, Option.bind_some]
  cases h1 : okShow x with
  | false => simp
  | true =>
    cases h2 : okShow y with
    | false => simp
    | true =>
      have fx := facts h1
      have fy := facts h2
      have nx := fx.n0
      have nx1 := fx.n1
      have ny := fy.n0
      obtain ⟨c0, hc0⟩ : ∃ c, x.1[0]? = some c := ⟨_, List.getElem?_eq_getElem (by omega)⟩
      obtain ⟨d0, hd0⟩ : ∃ d, y.1[0]? = some d := ⟨_, List.getElem?_eq_getElem (by omega)⟩
      simp only [Bool.not_true, Bool.false_eq_true, if_false, Bool.and_self]
      rw [idx_zero, hc0, Option.bind_some, idx_zero, hd0, Option.bind_some]
      by_cases hl : x.1.length = y.1.length
      · rw [if_neg (by simp; omega)]
        by_cases h0 : c0.length = d0.length
        · rw [if_neg (by simp; omega), loopFilter (F_impl_DifferentCharts_L1 x y) x.1.length (diffAt x y) (fun l => some (l, true)) (by omega) (fun m s k hk hs => ?_) (fun m s => ?_)]
          · simp [hl, h0]
          · obtain ⟨c, hc⟩ : ∃ c, x.1[k]? = some c := ⟨_, List.getElem?_eq_getElem hk⟩
            obtain ⟨d, hd⟩ : ∃ d, y.1[k]? = some d := ⟨_, List.getElem?_eq_getElem (by omega)⟩
            have hc12 := (fx.cl c (List.mem_of_getElem? hc)).2
            have e : diffAt x y k = !decide (c = d) := by unfold diffAt; rw [hc, hd]; simp
            rw [F_impl_DifferentCharts_L1, if_pos (by simp; omega), e]
            unfold jK1
            dsimp only
            rw [idx_nat, hc, Option.bind_some, idx_nat, hd, Option.bind_some, eq_Spots c d (by omega), Option.bind_some, app_ok (by simp; omega), w64_succ (by omega)]
            by_cases hq : c = d <;> simp [hq]
          · rw [F_impl_DifferentCharts_L1, if_neg (by simp)]
        · rw [if_pos (by simp; omega)]
          simp [h0]
      · rw [if_pos (by simp; omega)]
        simp [hl]
theorem diffAns_len (x y : ShowT) (h : x.1.length ≤ 1048576) : (diffAns x y).1.length ≤ 1048576 := by
  unfold diffAns
  split
  · exact Nat.le_trans (filt_len _ _) h
  · simp
end Go.Proofs.Ytmbhdelegdhieaa
