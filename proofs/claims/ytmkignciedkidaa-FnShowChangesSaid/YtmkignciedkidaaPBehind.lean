/-
  THE MOST BEHIND, PLAIN.
-/
import Derived.Test.YtmkignciedkidaaPMarch
set_option linter.unusedSimpArgs false
set_option linter.unusedVariables false
namespace Go.Proofs.Ytmkignciedkidaa
open Go
end Go.Proofs.Ytmkignciedkidaa
