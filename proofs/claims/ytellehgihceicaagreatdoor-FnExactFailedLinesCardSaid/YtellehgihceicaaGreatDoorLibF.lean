/-
 PLAIN WORDS for what Go's library does: a builder's bytes, decimal numerals.
-/
import Derived.Test.YtellehgihceicaaGreatDoorCore20
import Derived.Lib.ItoaNum
import Derived.Lib.Join
set_option linter.unusedVariables false
set_option linter.unusedSimpArgs false
set_option maxHeartbeats 1600000
namespace Go.Proofs.YtellehgihceicaaGreatDoor
open Go
def CY (n:Int):Af (List Aj):=if -9223372036854775808 ≤ n ∧ n ≤ 9223372036854775807 then some (Lib.itoa n) else none
def I0 (l:List (List Aj)) (s:List Aj):Af (List Aj):=if l.length ≤ 140737488355328 ∧ (Lib.join l s).length ≤ 140737488355328 then some (Lib.join l s) else none
end Go.Proofs.YtellehgihceicaaGreatDoor
