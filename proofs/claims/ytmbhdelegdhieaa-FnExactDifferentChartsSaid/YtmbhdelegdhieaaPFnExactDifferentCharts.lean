/-
  THE LAW OF DifferentCharts, PLAIN: it answers true.
-/
import Derived.Test.YtmbhdelegdhieaaPFnExactIsShow
import Derived.Test.YtmbhdelegdhieaaPDiff
set_option linter.unusedVariables false
namespace Go.Proofs.Ytmbhdelegdhieaa
open Go
theorem P_laws_FnExactDifferentCharts (x y : ShowT) (h : G_Show x) (h' : G_Show y) : F_laws_FnExactDifferentCharts x y = some true := by
  unfold F_laws_FnExactDifferentCharts
  refine gate (sz_Show x 1048576 h (by decide) (by decide)) (by decide) fun m h0 h1 hs => ?_
  refine gate (sz_Show y m h' h0 h1) h1 fun m h0 h1 hs' => ?_
  have hl := diffAns_len x y hs.1.1
  obtain ⟨k1, x1, e1, b1, c1⟩ := mk_Show x hs 1 (by decide) (by decide)
  obtain ⟨k2, x2, e2, b2, c2⟩ := mk_Show y hs' k1 (by omega) (by unfold BIG; omega)
  obtain ⟨k3, x3, e3, b3, c3, d3, e4⟩ := mk_IntS (diffAns x y).1 (by omega) 1 (by decide) (by unfold BIG; omega)
  have h2 : ¬ k2 < 0 := by omega
  have h3 : ¬ k3 < 0 := by omega
  have q := eq_IntS (diffAns x y).1 ⟨hl, fun _ _ => trivial⟩
  simp [to_Show x hs, to_Show y hs', spec_DifferentCharts x y (S_Show_lens hs) (S_Show_lens hs'), impl_DifferentCharts x y (S_Show_lens hs) (S_Show_lens hs'), eq_Show x hs, eq_Show y hs', jK1, q, e1, e2, e3, e4, h2, h3]
end Go.Proofs.Ytmbhdelegdhieaa
