/-
  THE LAW OF JoinScripts, PLAIN: it answers true.
-/
import Derived.Test.YtcndhhjolnebdaaDoorPJoin
set_option linter.unusedSimpArgs false
set_option linter.unusedVariables false
namespace Go.Proofs.YtcndhhjolnebdaaDoor
open Go
theorem P_laws_FnExactJoinScripts (a b : List UInt8) : F_laws_FnExactJoinScripts a b = some true := by
  unfold F_laws_FnExactJoinScripts
  by_cases ha : a.length ≤ 1048576
  · by_cases hb : b.length ≤ 1048576
    · rw [if_neg (by simp; omega), if_neg (by simp; omega), spec_JoinScripts a b ha hb, impl_JoinScripts a b ha hb]
      simp [jK1]
    · rw [if_neg (by simp; omega), if_pos (by simp; omega)]
  · rw [if_pos (by simp; omega)]
end Go.Proofs.YtcndhhjolnebdaaDoor
