/-
  WHAT THE LAWS ON CUES HAND OVER, PLAIN.
-/
import Derived.Test.YtmbhdelegdhieaaPH
import Derived.Test.YtmbhdelegdhieaaPCue
set_option linter.unusedSimpArgs false
set_option linter.unusedVariables false
namespace Go.Proofs.Ytmbhdelegdhieaa
open Go
theorem S_lens {x : MusicT} {l : List CueT} (h : (allS anyG) x) (h' : (allS S_Cue) l) : CueLens x l :=
  ⟨by have := h.1; omega, by have := h'.1; omega, fun c hc => by have := (h'.2 c hc).2.1; omega⟩
end Go.Proofs.Ytmbhdelegdhieaa
