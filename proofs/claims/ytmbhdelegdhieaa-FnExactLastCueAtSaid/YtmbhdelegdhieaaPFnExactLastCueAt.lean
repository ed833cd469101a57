/-
  THE LAW OF LastCueAt, PLAIN: it answers true.
-/
import Derived.Test.YtmbhdelegdhieaaPCueL
import Derived.Test.YtmbhdelegdhieaaPLast
set_option linter.unusedVariables false
namespace Go.Proofs.Ytmbhdelegdhieaa
open Go
theorem P_laws_FnExactLastCueAt (x : MusicT) (l : List CueT) (t : Int) (h : (allG G_Measure) x) (h' : (allG G_Cue) l) (_ : inI64 t) : F_laws_FnExactLastCueAt x l t = some true := by
  unfold F_laws_FnExactLastCueAt
  refine gate (sz_MeasureS x 1048576 h (by decide) (by decide)) (by decide) fun m h0 h1 hs => ?_
  refine gate (sz_CueS l m h' h0 h1) h1 fun m h0 h1 hs' => ?_
  have hl := S_lens hs hs'
  simp [to_MeasureS x hs, to_CueS l hs', spec_LastCueAt x l t hl, impl_LastCueAt x l t hl, eq_MeasureS x hs, eq_CueS l hs', jK1]
end Go.Proofs.Ytmbhdelegdhieaa
