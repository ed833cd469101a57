/-
  THE LAWS' OWN FUNCTIONS: sizes, copies, comparisons; by program (harn.py).
-/
import Derived.Test.YtejhnpimhjmpdaaGreatDoorPB2
import Derived.Test.YtejhnpimhjmpdaaGreatDoorF
set_option linter.unusedVariables false
namespace Go.Proofs.YtejhnpimhjmpdaaGreatDoor
open Go

end Go.Proofs.YtejhnpimhjmpdaaGreatDoor
