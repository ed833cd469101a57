/-
  THE LAW OF WhereNow, PLAIN: it answers true.
-/
import Derived.Test.YthlfhcefeaehmaaPMarchL
import Derived.Test.YthlfhcefeaehmaaPWhere
set_option linter.unusedSimpArgs false
set_option linter.unusedVariables false
namespace Go.Proofs.Ythlfhcefeaehmaa
open Go
theorem P_laws_FnExactWhereNow (x : MarchT) (i : Int) (gx : G_March x) (_ : inI64 i) : F_laws_FnExactWhereNow x i = some true := by
  unfold F_laws_FnExactWhereNow
  refine gate (sz_March x 1048576 gx (by decide) (by decide)) (by decide) fun m h0 h1 sx => ?_
  simp [jK1, to_March x sx, eq_March x sx, spec_WhereNow x i (S_lensM sx), impl_WhereNow x i (S_lensM sx), eq_Spot (whereAns x i).1 trivial]
end Go.Proofs.Ythlfhcefeaehmaa
