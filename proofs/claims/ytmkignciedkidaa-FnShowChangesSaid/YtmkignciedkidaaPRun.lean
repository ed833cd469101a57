/-
  BEATS ONE AFTER ANOTHER, PLAIN.
-/
import Derived.Test.YtmkignciedkidaaPHalt
set_option linter.unusedSimpArgs false
set_option linter.unusedVariables false
namespace Go.Proofs.Ytmkignciedkidaa
open Go
end Go.Proofs.Ytmkignciedkidaa
