/-
 PLAIN WORDS for what Go's library does: a builder's bytes, decimal numerals.
-/
import Derived.Test.YtellehgihceicaaGreatDoorCore20
import Derived.Lib.ItoaNum
import Derived.Lib.Join
set_option linter.unusedVariables false
set_option linter.unusedSimpArgs false
namespace Go.Proofs.YtellehgihceicaaGreatDoor
open Go
def Ka (s:List Ai):List Int:=s.map fun b=>(b.toNat:Int)
def XT (l:List Int) (s:List Ai):Af (List Int):=if l.length + s.length ≤ 140737488355328 then some (l ++ Ka s) else none
def CY (n:Int):Af (List Ai):=if -9223372036854775808 ≤ n ∧ n ≤ 9223372036854775807 then some (Lib.itoa n) else none
def Ut (l:List Int):Af (List Ai):=if l.all (fun x=>decide (0 ≤ x ∧ x < 256)) then some (l.map fun x=>UInt8.ofNat x.toNat) else none
def Iv (l:List (List Ai)) (s:List Ai):Af (List Ai):=if l.length ≤ 140737488355328 ∧ (Lib.join l s).length ≤ 140737488355328 then some (Lib.join l s) else none
end Go.Proofs.YtellehgihceicaaGreatDoor
