/-
  THE LAW OF CompareDemand, PLAIN: it answers true.
-/
import Derived.Test.YthlfhcefeaehmaaPShowL
import Derived.Test.YthlfhcefeaehmaaPCompare
set_option linter.unusedSimpArgs false
set_option linter.unusedVariables false
namespace Go.Proofs.Ythlfhcefeaehmaa
open Go
theorem P_laws_FnExactCompareDemand (x : ShowT) (y : ShowT) (gx : G_Show x) (gy : G_Show y) : F_laws_FnExactCompareDemand x y = some true := by
  unfold F_laws_FnExactCompareDemand
  refine gate (sz_Show x 1048576 gx (by decide) (by decide)) (by decide) fun m h0 h1 sx => ?_
  refine gate (sz_Show y m gy h0 h1) h1 fun m h0 h1 sy => ?_
  simp [jK1, to_Show x sx, eq_Show x sx, to_Show y sy, eq_Show y sy, spec_CompareDemand x y (S_lensOk sx) (S_lensOk sy), impl_CompareDemand x y (S_lensOk sx) (S_lensOk sy)]
end Go.Proofs.Ythlfhcefeaehmaa
