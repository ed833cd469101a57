/-
  THE LAW OF MostBehind, PLAIN: it answers true.
-/
import Derived.Test.YtadklddedeoniaaPMarchL
set_option linter.unusedSimpArgs false
set_option linter.unusedVariables false
namespace Go.Proofs.Ytadklddedeoniaa
open Go
theorem P_laws_FnExactMostBehind (x : MarchT) (gx : G_March x) : F_laws_FnExactMostBehind x = some true := by
  unfold F_laws_FnExactMostBehind
  refine gate (sz_March x 1048576 gx (by decide) (by decide)) (by decide) fun m h0 h1 sx => ?_
  simp [jK1, to_March x sx, eq_March x sx, spec_MostBehind x (S_lensM sx), impl_MostBehind x (S_lensM sx)]
end Go.Proofs.Ytadklddedeoniaa
