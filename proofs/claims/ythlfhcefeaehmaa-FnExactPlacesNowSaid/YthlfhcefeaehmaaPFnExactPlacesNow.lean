/-
  THE LAW OF PlacesNow, PLAIN: it answers true.
-/
import Derived.Test.YthlfhcefeaehmaaPMarchL
import Derived.Test.YthlfhcefeaehmaaPWhere
set_option linter.unusedSimpArgs false
set_option linter.unusedVariables false
namespace Go.Proofs.Ythlfhcefeaehmaa
open Go
theorem P_laws_FnExactPlacesNow (x : MarchT) (gx : G_March x) : F_laws_FnExactPlacesNow x = some true := by
  unfold F_laws_FnExactPlacesNow
  refine gate (sz_March x 1048576 gx (by decide) (by decide)) (by decide) fun m h0 h1 sx => ?_
  obtain ⟨k1, x1, e1, b1, c1⟩ := mk_March x sx 1 (by decide) (by unfold BIG; omega)
  have hk : ¬ k1 < 0 := by omega
  have hlen : (placesAns x).1.length ≤ 1048576 := by have := placesAns_len x (S_lensM sx); omega
  obtain ⟨kr, xr, er, br, cr, dr, fr⟩ := mk_SpotS (placesAns x).1 (by omega) 1 (by decide) (by unfold BIG; omega)
  have q := eq_SpotS (placesAns x).1 ⟨hlen, fun _ _ => trivial⟩
  have hkr : ¬ kr < 0 := by omega
  simp [jK1, to_March x sx, eq_March x sx, spec_PlacesNow x (S_lensM sx), impl_PlacesNow x (S_lensM sx), e1, q, er, fr, hk, hkr]
end Go.Proofs.Ythlfhcefeaehmaa
