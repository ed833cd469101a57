/-
  THE LAW OF AddShowChart, PLAIN: it answers true.
-/
import Derived.Test.YtadklddedeoniaaPShowL
import Derived.Test.YtadklddedeoniaaPCopy
set_option linter.unusedSimpArgs false
set_option linter.unusedVariables false
namespace Go.Proofs.Ytadklddedeoniaa
open Go
theorem P_laws_FnExactAddShowChart (x : ShowT) (c : List (Int × Int)) (n : Int) (gx : G_Show x) (gc : (allG G_Spot) c) (_ : inI64 n) : F_laws_FnExactAddShowChart x c n = some true := by
  unfold F_laws_FnExactAddShowChart
  refine gate (sz_Show x 1048576 gx (by decide) (by decide)) (by decide) fun m h0 h1 sx => ?_
  refine gate (sz_SpotS c m gc h0 h1) h1 fun m h0 h1 sc => ?_
  obtain ⟨k1, x1, e1, b1, c1⟩ := mk_Show x sx 1 (by decide) (by unfold BIG; omega)
  have l2 := sc.1
  obtain ⟨k2, x2, e2, b2, c2⟩ := mk_SpotS c (by omega) k1 (by omega) (by unfold BIG; omega)
  have hk : ¬ k2 < 0 := by omega
  have hS : S_Show (addChartAns x c n).1 := by unfold addChartAns; split; rcases ifShow_ok (longer x c n) with h | h; exact S_of_ok h; (rw [h]; exact S_nil); exact S_nil
  obtain ⟨kr, xr, er, br, cr, fr⟩ := mk_Show (addChartAns x c n).1 hS 1 (by decide) (by unfold BIG; omega)
  have q := eq_Show (addChartAns x c n).1 hS
  have hkr : ¬ kr < 0 := by omega
  have fr2 : ∀ a b, F_laws_heldShow (xr.1, xr.2.1, a, b) 1 = some kr := fun _ _ => fr
  simp [jK1, to_Show x sx, eq_Show x sx, to_SpotS c sc, eq_SpotS c sc, spec_AddShowChart x c n (S_lensOk sx) sc.1, impl_AddShowChart x c n (S_lensOk sx) sc.1, e1, e2, q, er, fr, hk, hkr, fr2]
end Go.Proofs.Ytadklddedeoniaa
