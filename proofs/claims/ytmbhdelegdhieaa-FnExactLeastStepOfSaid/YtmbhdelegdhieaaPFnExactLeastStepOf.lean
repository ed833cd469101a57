/-
  THE LAW OF LeastStepOf, PLAIN: it answers true.
-/
import Derived.Test.YtmbhdelegdhieaaPFnExactIsShow
import Derived.Test.YtmbhdelegdhieaaPLeast
set_option linter.unusedVariables false
namespace Go.Proofs.Ytmbhdelegdhieaa
open Go
theorem P_laws_FnExactLeastStepOf (x : ShowT) (h : G_Show x) : F_laws_FnExactLeastStepOf x = some true := by
  unfold F_laws_FnExactLeastStepOf
  refine gate (sz_Show x 1048576 h (by decide) (by decide)) (by decide) fun m h0 h1 hs => ?_
  simp [to_Show x hs, spec_LeastStepOf x (S_Show_lens hs), impl_LeastStepOf x (S_Show_lens hs), eq_Show x hs, jK1]
end Go.Proofs.Ytmbhdelegdhieaa
