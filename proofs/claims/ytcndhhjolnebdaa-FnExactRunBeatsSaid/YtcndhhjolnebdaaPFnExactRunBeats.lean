/-
  THE LAW OF RunBeats, PLAIN: it answers true.
-/
import Derived.Test.YtcndhhjolnebdaaPMarchL
import Derived.Test.YtcndhhjolnebdaaPRun
set_option linter.unusedSimpArgs false
set_option linter.unusedVariables false
namespace Go.Proofs.Ytcndhhjolnebdaa
open Go
theorem P_laws_FnExactRunBeats (x : MarchT) (l : List (Int × Int)) (gx : G_March x) (gl : (allG G_Beat) l) : F_laws_FnExactRunBeats x l = some true := by
  unfold F_laws_FnExactRunBeats
  refine gate (sz_March x 1048576 gx (by decide) (by decide)) (by decide) fun m h0 h1 sx => ?_
  refine gate (sz_BeatS l m gl h0 h1) h1 fun m h0 h1 sl => ?_
  obtain ⟨k1, x1, e1, b1, c1⟩ := mk_March x sx 1 (by decide) (by unfold BIG; omega)
  have l2 := sl.1
  obtain ⟨k2, x2, e2, b2, c2⟩ := mk_BeatS l (by omega) k1 (by omega) (by unfold BIG; omega)
  have hk : ¬ k2 < 0 := by omega
  have hS : S_March (runAns x l).1 := by rcases runAns_ok x l (S_lensM sx) with h | h; (rw [h]; exact S_nilM); (refine ⟨S_of_ok (march_behind h.ls h.ok).2.2.1, trivial, ?_, ?_⟩; exact SI (by have := h.l1; omega); exact SI (by have := h.l2; omega))
  obtain ⟨kr, xr, er, br, cr, fr⟩ := mk_March (runAns x l).1 hS 1 (by decide) (by unfold BIG; omega)
  have q := eq_March (runAns x l).1 hS
  have hkr : ¬ kr < 0 := by omega
  have fr2 : ∀ a b c, F_laws_heldMarch ((xr.1.1, xr.1.2.1, a, b), c, xr.2.2.1, xr.2.2.2) 1 = some kr := fun _ _ _ => fr
  simp [jK1, to_March x sx, eq_March x sx, to_BeatS l sl, eq_BeatS l sl, spec_RunBeats x l (S_lensM sx) sl.1, impl_RunBeats x l (S_lensM sx) sl.1, e1, e2, q, er, fr, hk, hkr, fr2]
end Go.Proofs.Ytcndhhjolnebdaa
