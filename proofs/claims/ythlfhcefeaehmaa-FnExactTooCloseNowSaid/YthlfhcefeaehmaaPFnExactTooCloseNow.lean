/-
  THE LAW OF TooCloseNow, PLAIN: it answers true.
-/
import Derived.Test.YthlfhcefeaehmaaPMarchL
import Derived.Test.YthlfhcefeaehmaaPWhere
set_option linter.unusedSimpArgs false
set_option linter.unusedVariables false
namespace Go.Proofs.Ythlfhcefeaehmaa
open Go
theorem P_laws_FnExactTooCloseNow (x : MarchT) (gx : G_March x) : F_laws_FnExactTooCloseNow x = some true := by
  unfold F_laws_FnExactTooCloseNow
  refine gate (sz_March x 1048576 gx (by decide) (by decide)) (by decide) fun m h0 h1 sx => ?_
  obtain ⟨k1, x1, e1, b1, c1⟩ := mk_March x sx 1 (by decide) (by unfold BIG; omega)
  have hk : ¬ k1 < 0 := by omega
  have hS : (allS (allS anyG)) (tooAns x).1 := by have h := tooAns_len x (S_lensM sx); exact ⟨by omega, fun q hq => SI (by have := h.2 q hq; omega)⟩
  obtain ⟨kr, xr, er, br, cr, fr⟩ := mk_IntSS (tooAns x).1 hS 1 (by decide) (by unfold BIG; omega)
  have q := eq_IntSS (tooAns x).1 hS
  have hkr : ¬ kr < 0 := by omega
  simp [jK1, to_March x sx, eq_March x sx, spec_TooCloseNow x (S_lensM sx), impl_TooCloseNow x (S_lensM sx), e1, q, er, fr, hk, hkr]
end Go.Proofs.Ythlfhcefeaehmaa
