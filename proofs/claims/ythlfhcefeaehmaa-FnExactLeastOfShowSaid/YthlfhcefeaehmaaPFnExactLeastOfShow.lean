/-
  THE LAW OF LeastOfShow, PLAIN: it answers true.
-/
import Derived.Test.YthlfhcefeaehmaaPShowL
import Derived.Test.YthlfhcefeaehmaaPLeastShow
set_option linter.unusedSimpArgs false
set_option linter.unusedVariables false
namespace Go.Proofs.Ythlfhcefeaehmaa
open Go
theorem P_laws_FnExactLeastOfShow (x : ShowT) (gx : G_Show x) : F_laws_FnExactLeastOfShow x = some true := by
  unfold F_laws_FnExactLeastOfShow
  refine gate (sz_Show x 1048576 gx (by decide) (by decide)) (by decide) fun m h0 h1 sx => ?_
  simp [jK1, to_Show x sx, eq_Show x sx, spec_LeastOfShow x (S_lensOk sx), impl_LeastOfShow x (S_lensOk sx)]
end Go.Proofs.Ythlfhcefeaehmaa
