/-
  THE LAW OF HaltPerformer, PLAIN: it answers true.
-/
import Derived.Test.YtcndhhjolnebdaaPMarchL
import Derived.Test.YtcndhhjolnebdaaPHalt
set_option linter.unusedSimpArgs false
set_option linter.unusedVariables false
namespace Go.Proofs.Ytcndhhjolnebdaa
open Go
theorem P_laws_FnExactHaltPerformer (x : MarchT) (i : Int) (gx : G_March x) (_ : inI64 i) : F_laws_FnExactHaltPerformer x i = some true := by
  unfold F_laws_FnExactHaltPerformer
  refine gate (sz_March x 1048576 gx (by decide) (by decide)) (by decide) fun m h0 h1 sx => ?_
  obtain ⟨k1, x1, e1, b1, c1⟩ := mk_March x sx 1 (by decide) (by unfold BIG; omega)
  have hk : ¬ k1 < 0 := by omega
  have hS : S_March (haltAns x i).1 := by rcases haltAns_ok x i (S_lensM sx) with h | ⟨h1, h2, h3⟩; (rw [h]; exact S_nilM); (refine ⟨S_of_ok h1, trivial, ?_, ?_⟩; exact SI (by omega); exact SI (by rw [h3]; exact sx.2.2.2.1))
  obtain ⟨kr, xr, er, br, cr, fr⟩ := mk_March (haltAns x i).1 hS 1 (by decide) (by unfold BIG; omega)
  have q := eq_March (haltAns x i).1 hS
  have hkr : ¬ kr < 0 := by omega
  have fr2 : ∀ a b c, F_laws_heldMarch ((xr.1.1, xr.1.2.1, a, b), c, xr.2.2.1, xr.2.2.2) 1 = some kr := fun _ _ _ => fr
  simp [jK1, to_March x sx, eq_March x sx, spec_HaltPerformer x i (S_lensM sx) sx.2.2.1.1 sx.2.2.2.1, impl_HaltPerformer x i (S_lensM sx) sx.2.2.1.1 sx.2.2.2.1, e1, q, er, fr, hk, hkr, fr2]
end Go.Proofs.Ytcndhhjolnebdaa
