/-
  THE LAW OF NewMarch, PLAIN: it answers true.
-/
import Derived.Test.YtadklddedeoniaaPMarchL
import Derived.Test.YtadklddedeoniaaPNewMarch
set_option linter.unusedSimpArgs false
set_option linter.unusedVariables false
namespace Go.Proofs.Ytadklddedeoniaa
open Go
theorem P_laws_FnExactNewMarch (x : ShowT) (gx : G_Show x) : F_laws_FnExactNewMarch x = some true := by
  unfold F_laws_FnExactNewMarch
  refine gate (sz_Show x 1048576 gx (by decide) (by decide)) (by decide) fun m h0 h1 sx => ?_
  obtain ⟨k1, x1, e1, b1, c1⟩ := mk_Show x sx 1 (by decide) (by unfold BIG; omega)
  have hk : ¬ k1 < 0 := by omega
  have hS : S_March (newAns x).1 := by unfold newAns; split; (rename_i h; obtain ⟨c, _, _, _, hu⟩ := firstLen_of (S_lensOk sx) h; exact ⟨S_of_ok h, trivial, SI (by simp), SI (by simp; omega)⟩); exact S_nilM
  obtain ⟨kr, xr, er, br, cr, fr⟩ := mk_March (newAns x).1 hS 1 (by decide) (by unfold BIG; omega)
  have q := eq_March (newAns x).1 hS
  have hkr : ¬ kr < 0 := by omega
  have fr2 : ∀ a b c, F_laws_heldMarch ((xr.1.1, xr.1.2.1, a, b), c, xr.2.2.1, xr.2.2.2) 1 = some kr := fun _ _ _ => fr
  simp [jK1, to_Show x sx, eq_Show x sx, spec_NewMarch x (S_lensOk sx), impl_NewMarch x (S_lensOk sx), e1, q, er, fr, hk, hkr, fr2]
end Go.Proofs.Ytadklddedeoniaa
