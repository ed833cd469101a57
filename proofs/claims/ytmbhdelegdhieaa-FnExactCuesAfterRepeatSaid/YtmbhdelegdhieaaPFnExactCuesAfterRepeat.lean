/-
  THE LAW OF CuesAfterRepeat, PLAIN: it answers true.
-/
import Derived.Test.YtmbhdelegdhieaaPCueL
import Derived.Test.YtmbhdelegdhieaaPAfter
set_option linter.unusedSimpArgs false
set_option linter.unusedVariables false
namespace Go.Proofs.Ytmbhdelegdhieaa
open Go
theorem P_laws_FnExactCuesAfterRepeat (x : MusicT) (l : List CueT) (a : Int) (b : Int) (n : Int) (gx : (allG G_Measure) x) (gl : (allG G_Cue) l) (_ : inI64 a) (_ : inI64 b) (_ : inI64 n) : F_laws_FnExactCuesAfterRepeat x l a b n = some true := by
  unfold F_laws_FnExactCuesAfterRepeat
  refine gate (sz_MeasureS x 1048576 gx (by decide) (by decide)) (by decide) fun m h0 h1 sx => ?_
  refine gate (sz_CueS l m gl h0 h1) h1 fun m h0 h1 sl => ?_
  have l1 := sx.1
  obtain ⟨k1, x1, e1, b1, c1⟩ := mk_MeasureS x (by omega) 1 (by decide) (by unfold BIG; omega)
  have l2 := sl.1
  obtain ⟨k2, x2, e2, b2, c2⟩ := mk_CueS l (by omega) k1 (by omega) (by unfold BIG; omega)
  have hk : ¬ k2 < 0 := by omega
  have hlen : (afterAns x l a b n).1.length ≤ 1048576 := by have := (afterAns_ok x l a b n).1; have := sl.1; omega
  obtain ⟨kr, xr, er, br, cr, dr, fr⟩ := mk_CueS (afterAns x l a b n).1 (by omega) 1 (by decide) (by unfold BIG; omega)
  have q := eq_CueS (afterAns x l a b n).1 ⟨hlen, fun c hc => ⟨trivial, by obtain ⟨d, hd, e⟩ := (afterAns_ok x l a b n).2 c hc; rw [e]; exact (sl.2 d hd).2⟩⟩
  have hkr : ¬ kr < 0 := by omega
  simp [jK1, to_MeasureS x sx, eq_MeasureS x sx, to_CueS l sl, eq_CueS l sl, spec_CuesAfterRepeat x l a b n (S_lens sx sl), impl_CuesAfterRepeat x l a b n (S_lens sx sl), e1, e2, q, er, fr, hk, hkr]
end Go.Proofs.Ytmbhdelegdhieaa
