/-
  THE LAW OF UnsafeParts, PLAIN: it answers true.
-/
import Derived.Test.YthlfhcefeaehmaaPShowL
import Derived.Test.YthlfhcefeaehmaaPClose
set_option linter.unusedSimpArgs false
set_option linter.unusedVariables false
namespace Go.Proofs.Ythlfhcefeaehmaa
open Go
theorem P_laws_FnExactUnsafeParts (x : ShowT) (gx : G_Show x) : F_laws_FnExactUnsafeParts x = some true := by
  unfold F_laws_FnExactUnsafeParts
  refine gate (sz_Show x 1048576 gx (by decide) (by decide)) (by decide) fun m h0 h1 sx => ?_
  obtain ⟨k1, x1, e1, b1, c1⟩ := mk_Show x sx 1 (by decide) (by unfold BIG; omega)
  have hk : ¬ k1 < 0 := by omega
  have hlen : (unsafAns x).1.length ≤ 1048576 := by have := unsafAns_len x; omega
  obtain ⟨kr, xr, er, br, cr, dr, fr⟩ := mk_IntS (unsafAns x).1 (by omega) 1 (by decide) (by unfold BIG; omega)
  have q := eq_IntS (unsafAns x).1 ⟨hlen, fun _ _ => trivial⟩
  have hkr : ¬ kr < 0 := by omega
  simp [jK1, to_Show x sx, eq_Show x sx, spec_UnsafeParts x (S_lensOk sx), impl_UnsafeParts x (S_lensOk sx), e1, q, er, fr, hk, hkr]
end Go.Proofs.Ythlfhcefeaehmaa
