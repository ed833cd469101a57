import GoSem.Core.View
import Derived.Laws.Sem
/-
  CORE, 0: the plain words in which the functions of this seat are written: no program, no memory.
-/
namespace Go.Proofs.YtejhnpimhjmpdaaDoor
open Go
def w64 (x : Int) : Int := IntKind.wrap .i64 x
def wu64 (x : Int) : Int := IntKind.wrap .u64 x
def wu8 (x : Int) : Int := IntKind.wrap .u8 x
def idx {α : Type} (l : List α) (i : Int) : Option α := if 0 ≤ i then l[i.toNat]? else none
/-- 'l[lo:hi]', within the length. -/
def sl {α : Type} (l : List α) (lo hi : Int) : Option (List α) := if 0 ≤ lo ∧ lo ≤ hi ∧ hi ≤ l.length then some ((l.take hi.toNat).drop lo.toNat) else none
def app {α : Type} (l m : List α) : Option (List α) := if l.length + m.length ≤ 1073741824 then some (l ++ m) else none
def seti {α : Type} (l : List α) (i : Int) (x : α) : List α := l.set i.toNat x
/-- The bytes of numbers. -/
def bytesOf (l : List Int) : List UInt8 := l.map fun x => UInt8.ofNat x.toNat
def andK (k : IntKind) (a b : Int) : Int := k.wrap ((BitVec.ofInt k.bits a &&& BitVec.ofInt k.bits b).toNat : Int)
def shrK (k : IntKind) (a b : Int) : Int := a.fdiv (2 ^ (min b.toNat k.bits))
def jK0 {R : Type} (rest : Option R) (body : Option R → Option R) : Option R := body rest
def jK1 {A R : Type} (rest : A → Option R) (body : (A → Option R) → Option R) : Option R := body rest
def jK2 {A B R : Type} (rest : A → B → Option R) (body : (A → B → Option R) → Option R) : Option R := body rest
def jK3 {A B C R : Type} (rest : A → B → C → Option R) (body : (A → B → C → Option R) → Option R) : Option R := body rest
def jK4 {A B C D R : Type} (rest : A → B → C → D → Option R) (body : (A → B → C → D → Option R) → Option R) : Option R := body rest
def inU8 (x : Int) : Prop := 0 ≤ x ∧ x ≤ 255
def allG {α : Type} (G : α → Prop) (l : List α) : Prop := l.length ≤ 9223372036854775807 ∧ ∀ x ∈ l, G x
def anyG {α : Type} (_ : α) : Prop := True
/-- Fuel for every loop. -/
def FU : Nat := 4611686018427387904
end Go.Proofs.YtejhnpimhjmpdaaDoor
