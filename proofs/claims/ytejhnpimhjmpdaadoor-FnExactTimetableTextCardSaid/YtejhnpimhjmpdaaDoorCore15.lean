/-
  CORE, 15: slices of slices of one's own: prefixes that are appended to, tails that are cleared. Over any program.
-/
import Derived.Test.YtejhnpimhjmpdaaDoorCore14
set_option linter.unusedSimpArgs false
set_option linter.unusedVariables false
namespace Go.Proofs.YtejhnpimhjmpdaaDoor
open Go Go.RowKit
variable {P : Program} {α : Type} {n : Nat} {ds : List (Option Tmp)} {d : Nat} {T U : TypeId} {pos : String} {af : Array Edge} {rest : List Oper} {x y z : Operand} {σ : Env} {w w0 : World} {Q : Exit → Act → World → Prop} {L M : List Res} {S : World → Prop} {G : Value → Prop}
theorem Z3.take {R : List Nat → List Value → α → Prop} : ∀ (k : Nat) {Fs : List (List Nat)} {css : List (List Value)} {l : List α}, Z3 R Fs css l → Z3 R (Fs.take k) (css.take k) (l.take k)
  | 0, _, _, _, _ => by simp only [List.take_zero]; trivial
  | k + 1, [], [], [], h => by simp only [List.take_nil]; trivial
  | k + 1, _ :: _, _ :: _, _ :: _, h => by simp only [List.take_succ_cons]; exact ⟨h.1, Z3.take k h.2⟩
theorem Z3.drop {R : List Nat → List Value → α → Prop} : ∀ (k : Nat) {Fs : List (List Nat)} {css : List (List Value)} {l : List α}, Z3 R Fs css l → Z3 R (Fs.drop k) (css.drop k) (l.drop k)
  | 0, _, _, _, h => by simpa only [List.drop_zero] using h
  | k + 1, [], [], [], h => by simp only [List.drop_nil]; trivial
  | k + 1, _ :: _, _ :: _, _ :: _, h => by simp only [List.drop_succ_cons]; exact Z3.drop k h.2
/-- A function without results. -/
theorem calls_mkn' {f : FuncId} {fn : Func} {c : Code} {args : List Value} {w : World} {R : Ending → World → Prop} {n : Nat}
    (hf : P.funcs[f]? = some fn) (hb : fn.body = some c) (hn : fn.ntmps = n) (hl : args.length + (n - args.length) = n) {σ : Env} (hσ : σ = args.zipIdx.map (fun p => (p.2, p.1)))
    (h : ∀ Q : Exit → Act → World → Prop, (∀ a w, bodyPost P fn R .normal a w → Q .normal a w) → (∀ a w, bodyPost P fn R .ret a w → Q .ret a w) → PanicOk Q → W P n c σ w Q) : Calls P f args.toArray w R :=
  calls_mk hf hb hn hl hσ (h _ (fun _ _ h => h) (fun _ _ h => h) fun c a d v w h => by cases d <;> exact h)
theorem retsn {fn : Func} {R : Ending → World → Prop} {rs : List ResultVar} {vs : List Value} {Q : Exit → Act → World → Prop} (hQ : ∀ a w, bodyPost P fn R .normal a w → Q .normal a w) (hr : fn.results = rs.toArray) (h0 : RVs P n σ w rs vs) (h : R (.returned (tupV vs)) w) :
    ∀ a, St n σ a → Q .normal a w :=
  rets (Q := fun _ a w => Q .normal a w) (fun a w h => hQ a w h) hr h0 h
end Go.Proofs.YtejhnpimhjmpdaaDoor
