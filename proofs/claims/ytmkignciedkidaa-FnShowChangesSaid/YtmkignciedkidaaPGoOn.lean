/-
  A HALT ENDS, PLAIN.
-/
import Derived.Test.YtmkignciedkidaaPBeat
set_option linter.unusedSimpArgs false
set_option linter.unusedVariables false
namespace Go.Proofs.Ytmkignciedkidaa
open Go
def without (l : List Int) (n : Int) : List Int := l.filter (fun u => u != n)
end Go.Proofs.Ytmkignciedkidaa
