/-
  THE LAW OF TotalCounts, PLAIN: it answers true.
-/
import Derived.Test.YtmbhdelegdhieaaPFnExactIsShow
import Derived.Test.YtmbhdelegdhieaaPTotal
set_option linter.unusedVariables false
namespace Go.Proofs.Ytmbhdelegdhieaa
open Go
theorem P_laws_FnExactTotalCounts (x : ShowT) (h : G_Show x) : F_laws_FnExactTotalCounts x = some true := by
  unfold F_laws_FnExactTotalCounts
  refine gate (sz_Show x 1048576 h (by decide) (by decide)) (by decide) fun m h0 h1 hs => ?_
  obtain ⟨l1, l2, l3⟩ := S_Show_lens hs
  obtain ⟨r, e1, e2⟩ := total_same x l1 l2 l3
  simp [to_Show x hs, e1, e2, eq_Show x hs, jK1]
end Go.Proofs.Ytmbhdelegdhieaa
