/-
  A PERFORMER HALTS, PLAIN: sorting by insertion.
-/
import Derived.Test.YtmkignciedkidaaPGoOn
import Derived.Test.YtmkignciedkidaaPShift
set_option linter.unusedSimpArgs false
set_option linter.unusedVariables false
namespace Go.Proofs.Ytmkignciedkidaa
open Go
end Go.Proofs.Ytmkignciedkidaa
