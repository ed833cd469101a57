/-
  THE LAW OF ClosePairs, PLAIN: it answers true.
-/
import Derived.Test.YthlfhcefeaehmaaPShowL
import Derived.Test.YthlfhcefeaehmaaPClose
set_option linter.unusedSimpArgs false
set_option linter.unusedVariables false
namespace Go.Proofs.Ythlfhcefeaehmaa
open Go
theorem P_laws_FnExactClosePairs (x : ShowT) (p : Int) (gx : G_Show x) (_ : inI64 p) : F_laws_FnExactClosePairs x p = some true := by
  unfold F_laws_FnExactClosePairs
  refine gate (sz_Show x 1048576 gx (by decide) (by decide)) (by decide) fun m h0 h1 sx => ?_
  obtain ⟨k1, x1, e1, b1, c1⟩ := mk_Show x sx 1 (by decide) (by unfold BIG; omega)
  have hk : ¬ k1 < 0 := by omega
  have hS : (allS (allS anyG)) (closeAns x p).1 := by have h := closeAns_len x p; exact ⟨by omega, fun q hq => SI (by have := h.2 q hq; omega)⟩
  obtain ⟨kr, xr, er, br, cr, fr⟩ := mk_IntSS (closeAns x p).1 hS 1 (by decide) (by unfold BIG; omega)
  have q := eq_IntSS (closeAns x p).1 hS
  have hkr : ¬ kr < 0 := by omega
  simp [jK1, to_Show x sx, eq_Show x sx, spec_ClosePairs x p (S_lensOk sx), impl_ClosePairs x p (S_lensOk sx), e1, q, er, fr, hk, hkr]
end Go.Proofs.Ythlfhcefeaehmaa
