/-
  THE LAW OF SameShows, PLAIN: it answers true.
-/
import Derived.Test.YtmbhdelegdhieaaPFnExactIsShow
import Derived.Test.YtmbhdelegdhieaaPSame
set_option linter.unusedVariables false
namespace Go.Proofs.Ytmbhdelegdhieaa
open Go
theorem P_laws_FnExactSameShows (x y : ShowT) (h : G_Show x) (h' : G_Show y) : F_laws_FnExactSameShows x y = some true := by
  unfold F_laws_FnExactSameShows
  refine gate (sz_Show x 1048576 h (by decide) (by decide)) (by decide) fun m h0 h1 hs => ?_
  refine gate (sz_Show y m h' h0 h1) h1 fun m h0 h1 hs' => ?_
  simp [to_Show x hs, to_Show y hs', spec_SameShows x y (S_Show_lens hs) (S_Show_lens hs'), impl_SameShows x y (S_Show_lens hs) (S_Show_lens hs'), eq_Show x hs, eq_Show y hs', jK1]
end Go.Proofs.Ytmbhdelegdhieaa
