/-
  CORE, 17: functions for which the model stands in. Over any program.
-/
import Derived.Test.YtcndhhjolnebdaaDoorCore16
import Derived.Laws.Externs
import Derived.Lib.Bytealg
set_option linter.unusedSimpArgs false
set_option linter.unusedVariables false
namespace Go.Proofs.YtcndhhjolnebdaaDoor
open Go Go.RowKit
variable {P : Program} {α : Type} {n : Nat} {ds : List (Option Tmp)} {d : Nat} {T U : TypeId} {pos : String} {af : Array Edge} {rest : List Oper} {x y z : Operand} {σ : Env} {w w0 : World} {Q : Exit → Act → World → Prop}
theorem wl_ext {f : FuncId} {fn : Func} {e : Array Value → Sem Value} {xs : List Operand} {ts : Array TypeId} {vs : List Value} {v : Value} (hn : Nat.blt d n = true)
    (hf : P.funcs[f]? = some fn) (hname : (fn.name == "runtime.NumGoroutine") = false) (hb : fn.body.isNone = true) (hnx : Extern.findNext fn = none) (he : Extern.find fn = some e)
    (hx : xs.map (eop σ) = vs.map some) (hr : (e vs.toArray).run P w = .ok v w) (h : WL P n ds rest ((d, v) :: σ) w Q) :
    WL P n ds (⟨some d, .call ⟨.value (.func f), xs.toArray, ts⟩, T, pos, af, none⟩ :: rest) σ w Q :=
  wl_run hn (fun ρ hρ => by
    have hxs := eops_eval hx ρ hρ
    have hc : (callFunc f vs.toArray).run P w = .ok (.value v) w := by rw [run_callFunc_extern hf hname hb hnx he, hr]; rfl
    have hf' := hρ (.func f) _ rfl
    simp [execOp, resolve, Deferred.ofValue, invoke, hxs, hc, hf']) h
theorem find_same {p q : Nat → Bool} : ∀ {l : List Nat}, (∀ x ∈ l, p x = q x) → l.find? p = l.find? q := by
  intro l
  induction l with
  | nil => intro _; rfl
  | cons a l ih => intro h; rw [List.find?_cons, List.find?_cons, h a (by simp), ih fun x hx => h x (by simp [hx])]
theorem first_mkS (l : List UInt8) (c : Int) : firstIdx (mkS l) c.toNat.toUInt8 = idxB l c := by
  unfold firstIdx idxB
  have hs : (mkS l).size = l.length := by simp [mkS, ByteArray.size]
  have key : ∀ i ∈ List.range l.length, ((mkS l)[i]! == c.toNat.toUInt8) = (l[i]? == some c.toNat.toUInt8) := by
    intro i hi
    have hlt : i < l.length := List.mem_range.1 hi
    have : (mkS l)[i]! = l[i] := by
      rw [getElem!_pos (mkS l) i (by rw [hs]; exact hlt)]
      rfl
    rw [this, List.getElem?_eq_getElem hlt]
    simp
  rw [hs, find_same key]
  rfl
theorem run_idxB (l : List UInt8) (c : Int) : (Extern.BytealgIndexByte.indexByte #[.string (mkS l), .int .u8 c]).run P w = .ok (.int .i64 (idxB l c)) w := by
  rw [run_indexByte_string, first_mkS]
theorem run_cntB (l : List UInt8) (c : Int) : (Extern.BytealgCount.count #[.string (mkS l), .int .u8 c]).run P w = .ok (.int .i64 (cntB l c)) w := by
  rw [Lib.run_countString]
  rfl
end Go.Proofs.YtcndhhjolnebdaaDoor
