/-
  THE COUNTS OF A SHOW, PLAIN.
-/
import Derived.Test.YtmkignciedkidaaPShow
set_option linter.unusedSimpArgs false
set_option linter.unusedVariables false
namespace Go.Proofs.Ytmkignciedkidaa
open Go
def sumW (l : List Int) : Int := l.foldl (fun a u => w64 (a + u)) 0
theorem impl_totalCounts (x : ShowT) (h : x.2.1.length < 4611686018427387904) : F_impl_totalCounts x = some (sumW x.2.1) := by
  unfold F_impl_totalCounts sumW
  rw [loopFold (F_impl_totalCounts_L1 x) x.2.1 (fun a u => w64 (a + u)) some h (fun m s k u hk hu => ?_) (fun m s => ?_)]
  · rw [F_impl_totalCounts_L1, if_pos (by simp; omega), idx_nat, hu, Option.bind_some, w64_succ (by omega)]
  · rw [F_impl_totalCounts_L1, if_neg (by simp)]
end Go.Proofs.Ytmkignciedkidaa
