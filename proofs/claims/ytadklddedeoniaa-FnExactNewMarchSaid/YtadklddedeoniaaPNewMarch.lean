/-
  NEW MARCHES, PLAIN.
-/
import Derived.Test.YtadklddedeoniaaPCopy
import Derived.Test.YtadklddedeoniaaPBehind
set_option linter.unusedSimpArgs false
set_option linter.unusedVariables false
namespace Go.Proofs.Ytadklddedeoniaa
open Go
def newAns (x : ShowT) : MarchT × Bool := if okShow x then ((x, 0, [], List.replicate (firstLen x) 0), true) else ((([], [], 0, 0), 0, [], []), false)
theorem spec_NewMarch (x : ShowT) (h : lensOk x) : F_spec_NewMarch x = some (newAns x) := by
  unfold F_spec_NewMarch jK6 newAns
  rw [spec_swGood x h.1 h.2.1 h.2.2, Option.bind_some]
  cases hs : okShow x with
  | false => simp
  | true =>
    have f := facts hs
    obtain ⟨c, hc, he, hl, hu⟩ := firstLen_of h hs
    simp only [Bool.not_true, Bool.false_eq_true, if_false, if_true]
    rw [idx_zero, hc, Option.bind_some, spec_swOwn x f, Option.bind_some, he, mkL_nat (by omega), Option.bind_some]
theorem impl_NewMarch (x : ShowT) (h : lensOk x) : F_impl_NewMarch x = some (newAns x) := by
  unfold F_impl_NewMarch jK7 newAns
  rw [impl_IsShow x h.1 h.2.1 h.2.2, Option.bind_some]
  cases hs : okShow x with
  | false => simp
  | true =>
    have f := facts hs
    obtain ⟨c, hc, he, hl, hu⟩ := firstLen_of h hs
    simp only [Bool.not_true, Bool.false_eq_true, if_false, if_true]
    rw [idx_zero, hc, Option.bind_some, impl_copyShow x f, Option.bind_some, he, mkL_nat (by omega), Option.bind_some]
end Go.Proofs.Ytadklddedeoniaa
