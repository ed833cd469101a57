/-
  WHO IS STILL GOING, PLAIN.
-/
import Derived.Test.YthlfhcefeaehmaaPBehind
import Derived.Test.YthlfhcefeaehmaaPTotal
set_option linter.unusedSimpArgs false
set_option linter.unusedVariables false
namespace Go.Proofs.Ythlfhcefeaehmaa
open Go
def ownC (x : MarchT) (b : Int) : Int := minI (w64 (x.2.1 - b)) (sumW x.1.2.1)
theorem least_two (a b : Int) : F_spec_l1Least a b = some (minI b a) := by
  unfold F_spec_l1Least minI
  by_cases h : a < b <;> simp [h]
theorem spec_mnCount (x : MarchT) (h : lensM x) {i : Int} {b : Int} (hb : idx x.2.2.2 i = some b) : F_spec_mnCount x i = some (ownC x b) := by
  unfold F_spec_mnCount ownC
  rw [hb, Option.bind_some, spec_swTotal x.1 h.1.2.2, Option.bind_some, least_two]
  rfl
theorem impl_ownCount (x : MarchT) (h : lensM x) {i : Int} {b : Int} (hb : idx x.2.2.2 i = some b) : F_impl_ownCount x i = some (ownC x b) := by
  unfold F_impl_ownCount ownC
  rw [hb, Option.bind_some, impl_totalCounts x.1 h.1.2.2, Option.bind_some]
def goesAt (x : MarchT) (k : Nat) : Bool := match x.2.2.2[k]? with
  | some b => decide (ownC x b < sumW x.1.2.1)
  | none => false
def goingAns (x : MarchT) : List Int × Bool := if okMarch x then (filt (goesAt x) x.2.2.2.length, true) else ([], false)
theorem goingAns_len (x : MarchT) (h : lensM x) : (goingAns x).1.length ≤ 12 := by
  unfold goingAns
  cases hm : okMarch x with
  | false => simp
  | true => exact Nat.le_trans (filt_len _ _) (march_behind h hm).2.1
end Go.Proofs.Ythlfhcefeaehmaa
