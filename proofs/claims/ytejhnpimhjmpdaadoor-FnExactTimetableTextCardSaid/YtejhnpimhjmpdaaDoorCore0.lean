import GoSem.Core.View
import Derived.Laws.Sem
/-
  CORE, 0: the plain words in which the functions of this seat are written: no program, no memory.
-/
namespace Go.Proofs.YtejhnpimhjmpdaaDoor
open Go
def w64 (x : Int) : Int := IntKind.wrap .i64 x
def wu8 (x : Int) : Int := IntKind.wrap .u8 x
def idx {α : Type} (l : List α) (i : Int) : Option α := if 0 ≤ i then l[i.toNat]? else none
/-- 'l[lo:hi]', within the length. -/
def sl {α : Type} (l : List α) (lo hi : Int) : Option (List α) := if 0 ≤ lo ∧ lo ≤ hi ∧ hi ≤ l.length then some ((l.take hi.toNat).drop lo.toNat) else none
def app {α : Type} (l m : List α) : Option (List α) := if l.length + m.length ≤ 1073741824 then some (l ++ m) else none
/-- 'make([]T, n)'. -/
def mkL {α : Type} (n : Int) (x : α) : Option (List α) := if 0 ≤ n ∧ n ≤ 1073741824 then some (List.replicate n.toNat x) else none
def seti {α : Type} (l : List α) (i : Int) (x : α) : List α := l.set i.toNat x
/-- The bytes of numbers. -/
def bytesOf (l : List Int) : List UInt8 := l.map fun x => UInt8.ofNat x.toNat
def jK1 {A R : Type} (rest : A → Option R) (body : (A → Option R) → Option R) : Option R := body rest
/-- The ranges of what comes in. -/
def inI64 (x : Int) : Prop := -9223372036854775808 ≤ x ∧ x ≤ 9223372036854775807
def allG {α : Type} (G : α → Prop) (l : List α) : Prop := l.length ≤ 9223372036854775807 ∧ ∀ x ∈ l, G x
def anyG {α : Type} (_ : α) : Prop := True
/-- Fuel for every loop. -/
def FU : Nat := 4611686018427387904
end Go.Proofs.YtejhnpimhjmpdaaDoor
