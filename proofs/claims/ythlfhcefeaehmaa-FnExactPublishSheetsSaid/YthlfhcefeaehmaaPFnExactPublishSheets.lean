/-
  THE LAW OF PublishSheets, PLAIN: it answers true.
-/
import Derived.Test.YthlfhcefeaehmaaPShowL
import Derived.Test.YthlfhcefeaehmaaPPub
set_option linter.unusedSimpArgs false
set_option linter.unusedVariables false
namespace Go.Proofs.Ythlfhcefeaehmaa
open Go
theorem P_laws_FnExactPublishSheets (x : ShowT) (gx : G_Show x) : F_laws_FnExactPublishSheets x = some true := by
  unfold F_laws_FnExactPublishSheets
  refine gate (sz_Show x 1048576 gx (by decide) (by decide)) (by decide) fun m h0 h1 sx => ?_
  obtain ⟨k1, x1, e1, b1, c1⟩ := mk_Show x sx 1 (by decide) (by unfold BIG; omega)
  have hk : ¬ k1 < 0 := by omega
  have hS : allS S_Sheet (pubAns x).1 := by exact pubAns_S x
  obtain ⟨kr, xr, er, br, cr, fr⟩ := mk_SheetS (pubAns x).1 hS 1 (by decide) (by unfold BIG; omega)
  have q := eq_SheetS (pubAns x).1 hS
  have hkr : ¬ kr < 0 := by omega
  simp [jK1, to_Show x sx, eq_Show x sx, spec_PublishSheets x (S_lensOk sx), impl_PublishSheets x (S_lensOk sx), e1, q, er, fr, hk, hkr]
end Go.Proofs.Ythlfhcefeaehmaa
