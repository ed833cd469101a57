/-
  THE LAW OF StillGoing, PLAIN: it answers true.
-/
import Derived.Test.YtadklddedeoniaaPMarchL
import Derived.Test.YtadklddedeoniaaPGoing
set_option linter.unusedSimpArgs false
set_option linter.unusedVariables false
namespace Go.Proofs.Ytadklddedeoniaa
open Go
theorem P_laws_FnExactStillGoing (x : MarchT) (gx : G_March x) : F_laws_FnExactStillGoing x = some true := by
  unfold F_laws_FnExactStillGoing
  refine gate (sz_March x 1048576 gx (by decide) (by decide)) (by decide) fun m h0 h1 sx => ?_
  obtain ⟨k1, x1, e1, b1, c1⟩ := mk_March x sx 1 (by decide) (by unfold BIG; omega)
  have hk : ¬ k1 < 0 := by omega
  have hlen : (goingAns x).1.length ≤ 1048576 := by have := goingAns_len x (S_lensM sx); omega
  obtain ⟨kr, xr, er, br, cr, dr, fr⟩ := mk_IntS (goingAns x).1 (by omega) 1 (by decide) (by unfold BIG; omega)
  have q := eq_IntS (goingAns x).1 ⟨hlen, fun _ _ => trivial⟩
  have hkr : ¬ kr < 0 := by omega
  simp [jK1, to_March x sx, eq_March x sx, spec_StillGoing x (S_lensM sx), impl_StillGoing x (S_lensM sx), e1, q, er, fr, hk, hkr]
end Go.Proofs.Ytadklddedeoniaa
