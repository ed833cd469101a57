/-
  THE SUM OF COUNTS OF A SHOW, PLAIN.
-/
import Derived.Test.YtmkignciedkidaaPTotal
import Derived.Test.YtmkignciedkidaaPSame
set_option linter.unusedSimpArgs false
set_option linter.unusedVariables false
namespace Go.Proofs.Ytmkignciedkidaa
open Go
/-! the sums of counts -/
def totalAns (x : ShowT) : Int × Bool := if okShow x then (sumW x.2.1, true) else (0, false)
theorem impl_TotalCounts (x : ShowT) (h : lensOk x) : F_impl_TotalCounts x = some (totalAns x) := by
  unfold F_impl_TotalCounts totalAns
  rw [impl_IsShow x h.1 h.2.1 h.2.2, Option.bind_some, impl_totalCounts x h.2.2]
  cases okShow x <;> rfl
theorem sumW_eq (l : List Int) (h : ∀ u ∈ l, 1 ≤ u ∧ u ≤ 64) (hl : l.length ≤ 1000) : sumW l = l.sum ∧ 0 ≤ l.sum := by
  have key : ∀ (l : List Int) (a : Int), (∀ u ∈ l, 1 ≤ u ∧ u ≤ 64) → 0 ≤ a → a + 64 * l.length ≤ 1000000 → l.foldl (fun a u => w64 (a + u)) a = a + l.sum ∧ 0 ≤ l.sum := by
    intro l
    induction l with
    | nil => intro a _ _ _; simp
    | cons u l ih =>
      intro a h h0 h1
      have hu := h u (by simp)
      simp only [List.length_cons] at h1
      rw [List.foldl_cons, w64_eq (by omega) (by omega)]
      obtain ⟨e1, e2⟩ := ih (a + u) (fun v hv => h v (by simp [hv])) (by omega) (by omega)
      rw [e1, List.sum_cons]
      omega
  have := key l 0 h (by omega) (by omega)
  unfold sumW
  simpa using this
end Go.Proofs.Ytmkignciedkidaa
