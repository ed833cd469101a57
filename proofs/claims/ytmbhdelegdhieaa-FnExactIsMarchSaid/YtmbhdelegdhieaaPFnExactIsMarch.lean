/-
  THE LAW OF IsMarch, PLAIN: it answers true.
-/
import Derived.Test.YtmbhdelegdhieaaPFnExactIsShow
import Derived.Test.YtmbhdelegdhieaaPMarch
set_option linter.unusedVariables false
namespace Go.Proofs.Ytmbhdelegdhieaa
open Go
theorem S_March_lens {x : MarchT} (h : S_March x) : lensOk x.1 ∧ x.2.2.1.length < 4611686018427387904 ∧ x.2.2.2.length < 4611686018427387904 :=
  ⟨S_Show_lens h.1, by have := h.2.2.1.1; omega, by have := h.2.2.2.1; omega⟩
theorem P_laws_FnExactIsMarch (x : MarchT) (h : G_March x) : F_laws_FnExactIsMarch x = some true := by
  unfold F_laws_FnExactIsMarch
  refine gate (sz_March x 1048576 h (by decide) (by decide)) (by decide) fun m h0 h1 hs => ?_
  obtain ⟨l1, l2, l3⟩ := S_March_lens hs
  have e : F_spec_IsMarch x = some (okMarch x) := by
    unfold F_spec_IsMarch
    rw [spec_mnGood x l1 l2 l3]
    rfl
  simp [to_March x hs, e, impl_IsMarch x l1 l2 l3, eq_March x hs]
end Go.Proofs.Ytmbhdelegdhieaa
