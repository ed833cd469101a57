/-
  WHAT THE LAWS ON MARCHES HAND OVER AND TAKE BACK, PLAIN.
-/
import Derived.Test.YtcndhhjolnebdaaPShowL
import Derived.Test.YtcndhhjolnebdaaPBehind
set_option linter.unusedSimpArgs false
set_option linter.unusedVariables false
namespace Go.Proofs.Ytcndhhjolnebdaa
open Go
theorem S_lensM {x : MarchT} (h : S_March x) : lensM x := ⟨S_lensOk h.1, by have := h.2.2.1.1; omega, by have := h.2.2.2.1; omega⟩
theorem S_nilM : S_March ((([], [], 0, 0), 0, [], []) : MarchT) := ⟨S_nil, trivial, SI (by simp), SI (by simp)⟩
end Go.Proofs.Ytcndhhjolnebdaa
