/-
  THE LAW OF WidestPart, PLAIN: it answers true.
-/
import Derived.Test.YtmbhdelegdhieaaPFnExactIsShow
import Derived.Test.YtmbhdelegdhieaaPWidest
set_option linter.unusedVariables false
namespace Go.Proofs.Ytmbhdelegdhieaa
open Go
theorem P_laws_FnExactWidestPart (x : ShowT) (h : G_Show x) : F_laws_FnExactWidestPart x = some true := by
  unfold F_laws_FnExactWidestPart
  refine gate (sz_Show x 1048576 h (by decide) (by decide)) (by decide) fun m h0 h1 hs => ?_
  simp [to_Show x hs, spec_WidestPart x (S_Show_lens hs), impl_WidestPart x (S_Show_lens hs), eq_Show x hs, jK1]
end Go.Proofs.Ytmbhdelegdhieaa
