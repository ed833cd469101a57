/-
  THE LAW OF CuesBetween, PLAIN: it answers true.
-/
import Derived.Test.YtadklddedeoniaaPCueL
import Derived.Test.YtadklddedeoniaaPBetween
set_option linter.unusedSimpArgs false
set_option linter.unusedVariables false
namespace Go.Proofs.Ytadklddedeoniaa
open Go
theorem P_laws_FnExactCuesBetween (x : MusicT) (l : List CueT) (a : Int) (b : Int) (gx : (allG G_Measure) x) (gl : (allG G_Cue) l) (_ : inI64 a) (_ : inI64 b) : F_laws_FnExactCuesBetween x l a b = some true := by
  unfold F_laws_FnExactCuesBetween
  refine gate (sz_MeasureS x 1048576 gx (by decide) (by decide)) (by decide) fun m h0 h1 sx => ?_
  refine gate (sz_CueS l m gl h0 h1) h1 fun m h0 h1 sl => ?_
  have l1 := sx.1
  obtain ⟨k1, x1, e1, b1, c1⟩ := mk_MeasureS x (by omega) 1 (by decide) (by unfold BIG; omega)
  have l2 := sl.1
  obtain ⟨k2, x2, e2, b2, c2⟩ := mk_CueS l (by omega) k1 (by omega) (by unfold BIG; omega)
  have hk : ¬ k2 < 0 := by omega
  have hlen : (btwAns x l a b).1.length ≤ 1048576 := by have := btwAns_len x l a b; omega
  obtain ⟨kr, xr, er, br, cr, dr, fr⟩ := mk_IntS (btwAns x l a b).1 (by omega) 1 (by decide) (by unfold BIG; omega)
  have q := eq_IntS (btwAns x l a b).1 ⟨hlen, fun _ _ => trivial⟩
  have hkr : ¬ kr < 0 := by omega
  simp [jK1, to_MeasureS x sx, eq_MeasureS x sx, to_CueS l sl, eq_CueS l sl, spec_CuesBetween x l a b (S_lens sx sl), impl_CuesBetween x l a b (S_lens sx sl), e1, e2, q, er, fr, hk, hkr]
end Go.Proofs.Ytadklddedeoniaa
