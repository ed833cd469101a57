/-
 PLAIN WORDS for what Go's library does: a builder's bytes, decimal numerals.
-/
import Derived.Test.YtellehgihceicaaGreatDoorCore20
import Derived.Lib.ItoaNum
import Derived.Lib.Join
set_option linter.unusedVariables false
set_option linter.unusedSimpArgs false
set_option maxHeartbeats 1600000
namespace Go.Proofs.YtellehgihceicaaGreatDoor
open Go
def Lt(s:List Ag):List Int:=s.map fun b=>(b.toNat:Int)
def bwr(l:List Int)(s:List Ag):Ae (List Int):=if l.length+s.length≤140737488355328 then some (l++Lt s) else none
def Dn(n:Int):Ae (List Ag):=if -9223372036854775808≤n∧n≤9223372036854775807 then some (Lib.itoa n) else none
def W8(l:List Int):Ae (List Ag):=if l.all (fun x=>decide (0≤x∧x<256)) then some (l.map fun x=>UInt8.ofNat x.toNat) else none
def J5(l:List (List Ag))(s:List Ag):Ae (List Ag):=if l.length≤140737488355328∧(Lib.join l s).length≤140737488355328 then some (Lib.join l s) else none
end Go.Proofs.YtellehgihceicaaGreatDoor
