/-
  THE LAW OF DropShowChart, PLAIN: it answers true.
-/
import Derived.Test.YtadklddedeoniaaPShowL
import Derived.Test.YtadklddedeoniaaPDrop
set_option linter.unusedSimpArgs false
set_option linter.unusedVariables false
namespace Go.Proofs.Ytadklddedeoniaa
open Go
theorem P_laws_FnExactDropShowChart (x : ShowT) (p : Int) (gx : G_Show x) (_ : inI64 p) : F_laws_FnExactDropShowChart x p = some true := by
  unfold F_laws_FnExactDropShowChart
  refine gate (sz_Show x 1048576 gx (by decide) (by decide)) (by decide) fun m h0 h1 sx => ?_
  obtain ⟨k1, x1, e1, b1, c1⟩ := mk_Show x sx 1 (by decide) (by unfold BIG; omega)
  have hk : ¬ k1 < 0 := by omega
  have hS : S_Show (dropAns x p).1 := by unfold dropAns; split; rcases ifShow_ok (dropped x p.toNat) with h | h; exact S_of_ok h; (rw [h]; exact S_nil); exact S_nil
  obtain ⟨kr, xr, er, br, cr, fr⟩ := mk_Show (dropAns x p).1 hS 1 (by decide) (by unfold BIG; omega)
  have q := eq_Show (dropAns x p).1 hS
  have hkr : ¬ kr < 0 := by omega
  have fr2 : ∀ a b, F_laws_heldShow (xr.1, xr.2.1, a, b) 1 = some kr := fun _ _ => fr
  simp [jK1, to_Show x sx, eq_Show x sx, spec_DropShowChart x p (S_lensOk sx), impl_DropShowChart x p (S_lensOk sx), e1, q, er, fr, hk, hkr, fr2, jK2]
end Go.Proofs.Ytadklddedeoniaa
