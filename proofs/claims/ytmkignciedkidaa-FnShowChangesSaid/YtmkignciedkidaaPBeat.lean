/-
  ONE BEAT, PLAIN.
-/
import Derived.Test.YtmkignciedkidaaPCopy
import Derived.Test.YtmkignciedkidaaPBehind
set_option linter.unusedSimpArgs false
set_option linter.unusedVariables false
namespace Go.Proofs.Ytmkignciedkidaa
open Go
end Go.Proofs.Ytmkignciedkidaa
