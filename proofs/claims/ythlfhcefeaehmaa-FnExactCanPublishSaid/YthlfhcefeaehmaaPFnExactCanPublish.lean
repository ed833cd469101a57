/-
  THE LAW OF CanPublish, PLAIN: it answers true.
-/
import Derived.Test.YthlfhcefeaehmaaPShowL
import Derived.Test.YthlfhcefeaehmaaPClose
set_option linter.unusedSimpArgs false
set_option linter.unusedVariables false
namespace Go.Proofs.Ythlfhcefeaehmaa
open Go
theorem P_laws_FnExactCanPublish (x : ShowT) (gx : G_Show x) : F_laws_FnExactCanPublish x = some true := by
  unfold F_laws_FnExactCanPublish
  refine gate (sz_Show x 1048576 gx (by decide) (by decide)) (by decide) fun m h0 h1 sx => ?_
  simp [jK1, to_Show x sx, eq_Show x sx, spec_CanPublish x (S_lensOk sx), impl_CanPublish x (S_lensOk sx)]
end Go.Proofs.Ythlfhcefeaehmaa
