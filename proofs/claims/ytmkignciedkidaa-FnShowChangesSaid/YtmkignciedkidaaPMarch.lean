/-
  MARCHES, PLAIN: what the tests of marches answer.
-/
import Derived.Test.YtmkignciedkidaaPSame
set_option linter.unusedSimpArgs false
set_option linter.unusedVariables false
namespace Go.Proofs.Ytmkignciedkidaa
open Go
end Go.Proofs.Ytmkignciedkidaa
