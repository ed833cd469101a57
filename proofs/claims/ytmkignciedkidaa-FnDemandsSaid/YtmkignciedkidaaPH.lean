/-
  THE LAWS' OWN FUNCTIONS: sizes, copies, comparisons; by program (harn.py).
-/
import Derived.Test.YtmkignciedkidaaPB2
import Derived.Test.YtmkignciedkidaaF
set_option linter.unusedVariables false
namespace Go.Proofs.Ytmkignciedkidaa
open Go

end Go.Proofs.Ytmkignciedkidaa
