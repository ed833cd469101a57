/-
  THE LAW OF ReverseShow, PLAIN: it answers true.
-/
import Derived.Test.YtadklddedeoniaaPShowL
import Derived.Test.YtadklddedeoniaaPRev
set_option linter.unusedSimpArgs false
set_option linter.unusedVariables false
namespace Go.Proofs.Ytadklddedeoniaa
open Go
theorem P_laws_FnExactReverseShow (x : ShowT) (gx : G_Show x) : F_laws_FnExactReverseShow x = some true := by
  unfold F_laws_FnExactReverseShow
  refine gate (sz_Show x 1048576 gx (by decide) (by decide)) (by decide) fun m h0 h1 sx => ?_
  obtain ⟨k1, x1, e1, b1, c1⟩ := mk_Show x sx 1 (by decide) (by unfold BIG; omega)
  have hk : ¬ k1 < 0 := by omega
  have hS : S_Show (revAns x).1 := by exact revAns_S x
  obtain ⟨kr, xr, er, br, cr, fr⟩ := mk_Show (revAns x).1 hS 1 (by decide) (by unfold BIG; omega)
  have q := eq_Show (revAns x).1 hS
  have hkr : ¬ kr < 0 := by omega
  have fr2 : ∀ a b, F_laws_heldShow (xr.1, xr.2.1, a, b) 1 = some kr := fun _ _ => fr
  simp [jK1, to_Show x sx, eq_Show x sx, spec_ReverseShow x (S_lensOk sx), impl_ReverseShow x (S_lensOk sx), e1, q, er, fr, hk, hkr, fr2]
end Go.Proofs.Ytadklddedeoniaa
