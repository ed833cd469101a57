/-
  THE LAW OF IsShow, PLAIN: it answers true.
-/
import Derived.Test.YtmbhdelegdhieaaPH
import Derived.Test.YtmbhdelegdhieaaPShow
set_option linter.unusedVariables false
namespace Go.Proofs.Ytmbhdelegdhieaa
open Go
theorem S_Show_lens {x : ShowT} (h : S_Show x) : x.1.length < 4611686018427387904 ∧ (∀ c ∈ x.1, c.length < 4611686018427387904) ∧ x.2.1.length < 4611686018427387904 :=
  ⟨by have := h.1.1; omega, fun c hc => by have := (h.1.2 c hc).1; omega, by have := h.2.1.1; omega⟩
theorem P_laws_FnExactIsShow (x : ShowT) (h : G_Show x) : F_laws_FnExactIsShow x = some true := by
  unfold F_laws_FnExactIsShow
  refine gate (sz_Show x 1048576 h (by decide) (by decide)) (by decide) fun m h0 h1 hs => ?_
  obtain ⟨l1, l2, l3⟩ := S_Show_lens hs
  rw [to_Show x hs, Option.bind_some, spec_IsShow x l1 l2 l3, Option.bind_some, Option.bind_some, impl_IsShow x l1 l2 l3, Option.bind_some, if_neg (by simp), Option.bind_some, eq_Show x hs, Option.bind_some]
  rfl
end Go.Proofs.Ytmbhdelegdhieaa
