/-
  THE LAW OF LeastToKeep, PLAIN: it answers true.
-/
import Derived.Test.YthlfhcefeaehmaaPShowL
import Derived.Test.YthlfhcefeaehmaaPKeep
set_option linter.unusedSimpArgs false
set_option linter.unusedVariables false
namespace Go.Proofs.Ythlfhcefeaehmaa
open Go
theorem P_laws_FnExactLeastToKeep (x : ShowT) (gx : G_Show x) : F_laws_FnExactLeastToKeep x = some true := by
  unfold F_laws_FnExactLeastToKeep
  refine gate (sz_Show x 1048576 gx (by decide) (by decide)) (by decide) fun m h0 h1 sx => ?_
  simp [jK1, to_Show x sx, eq_Show x sx, spec_LeastToKeep x (S_lensOk sx), impl_LeastToKeep x (S_lensOk sx)]
end Go.Proofs.Ythlfhcefeaehmaa
