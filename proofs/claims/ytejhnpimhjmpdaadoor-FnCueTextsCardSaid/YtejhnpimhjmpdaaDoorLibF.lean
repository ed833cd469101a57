/-
  PLAIN WORDS for what Go's library does: a builder's bytes, decimal numerals.
-/
import Derived.Test.YtejhnpimhjmpdaaDoorCore0
import Derived.Lib.ItoaNum
namespace Go.Proofs.YtejhnpimhjmpdaaDoor
open Go
/-- Bytes as numbers. -/
def ints (s : List UInt8) : List Int := s.map fun b => (b.toNat : Int)
/-- What is written to a builder: under Go's own limit. -/
def bwr (l : List Int) (s : List UInt8) : Option (List Int) := if l.length + s.length ≤ 140737488355328 then some (l ++ ints s) else none
def F_strconv_Itoa (n : Int) : Option (List UInt8) := if -9223372036854775808 ≤ n ∧ n ≤ 9223372036854775807 then some (Lib.itoa n) else none
/-- What a builder holds, read: bytes. -/
def bstr (l : List Int) : Option (List UInt8) := if l.all (fun x => decide (0 ≤ x ∧ x < 256)) then some (l.map fun x => UInt8.ofNat x.toNat) else none
end Go.Proofs.YtejhnpimhjmpdaaDoor
