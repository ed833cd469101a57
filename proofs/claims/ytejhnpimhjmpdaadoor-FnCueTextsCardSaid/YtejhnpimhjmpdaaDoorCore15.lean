/-
  CORE, 15: slices of slices of one's own: prefixes that are appended to, tails that are cleared. Over any program.
-/
import Derived.Test.YtejhnpimhjmpdaaDoorCore14
set_option linter.unusedSimpArgs false
set_option linter.unusedVariables false
namespace Go.Proofs.YtejhnpimhjmpdaaDoor
open Go Go.RowKit
variable {P : Program} {α : Type} {n : Nat} {ds : List (Option Tmp)} {d : Nat} {T U : TypeId} {pos : String} {af : Array Edge} {rest : List Oper} {x y z : Operand} {σ : Env} {w w0 : World} {Q : Exit → Act → World → Prop} {L M : List Res} {S : World → Prop} {G : Value → Prop}
theorem Z3.take {R : List Nat → List Value → α → Prop} : ∀ (k : Nat) {Fs : List (List Nat)} {css : List (List Value)} {l : List α}, Z3 R Fs css l → Z3 R (Fs.take k) (css.take k) (l.take k)
  | 0, _, _, _, _ => by simp only [List.take_zero]; trivial
  | k + 1, [], [], [], h => by simp only [List.take_nil]; trivial
  | k + 1, _ :: _, _ :: _, _ :: _, h => by simp only [List.take_succ_cons]; exact ⟨h.1, Z3.take k h.2⟩
theorem Z3.drop {R : List Nat → List Value → α → Prop} : ∀ (k : Nat) {Fs : List (List Nat)} {css : List (List Value)} {l : List α}, Z3 R Fs css l → Z3 R (Fs.drop k) (css.drop k) (l.drop k)
  | 0, _, _, _, h => by simpa only [List.drop_zero] using h
  | k + 1, [], [], [], h => by simp only [List.drop_nil]; trivial
  | k + 1, _ :: _, _ :: _, _ :: _, h => by simp only [List.drop_succ_cons]; exact Z3.drop k h.2
/-- A function without results. -/
theorem calls_mkn' {f : FuncId} {fn : Func} {c : Code} {args : List Value} {w : World} {R : Ending → World → Prop} {n : Nat}
    (hf : P.funcs[f]? = some fn) (hb : fn.body = some c) (hn : fn.ntmps = n) (hl : args.length + (n - args.length) = n) {σ : Env} (hσ : σ = args.zipIdx.map (fun p => (p.2, p.1)))
    (h : ∀ Q : Exit → Act → World → Prop, (∀ a w, bodyPost P fn R .normal a w → Q .normal a w) → (∀ a w, bodyPost P fn R .ret a w → Q .ret a w) → PanicOk Q → W P n c σ w Q) : Calls P f args.toArray w R :=
  calls_mk hf hb hn hl hσ (h _ (fun _ _ h => h) (fun _ _ h => h) fun c a d v w h => by cases d <;> exact h)
theorem retsn {fn : Func} {R : Ending → World → Prop} {rs : List ResultVar} {vs : List Value} {Q : Exit → Act → World → Prop} (hQ : ∀ a w, bodyPost P fn R .normal a w → Q .normal a w) (hr : fn.results = rs.toArray) (h0 : RVs P n σ w rs vs) (h : R (.returned (tupV vs)) w) :
    ∀ a, St n σ a → Q .normal a w :=
  rets (Q := fun _ a w => Q .normal a w) (fun a w h => hQ a w h) hr h0 h
/-- Outside of what is lent: old memory that a function which writes only reads. -/
def Out (X : List Nat) (w : World) (b : Nat) : Prop := b < w.heap.size ∧ b ∉ X
theorem rest_ok {base i : Nat} {X : List Nat} (hS : Sep base w L) (hg : lget L i = some (R.rest w0 X)) : (∀ b, Out X w0 b → w.heap[b]? = w0.heap[b]?) ∧ ∀ b, Out X w0 b → b < w.heap.size :=
  ⟨fun b hb => (hS.ok hg : ∀ b, b < w0.heap.size → b ∉ X → w.heap[b]? = w0.heap[b]?) b hb.1 hb.2, fun b hb => ((hS.get hg).2.1 b (rest_fp.2 hb)).2⟩
theorem rdS.rst {e : Ty P α} {base i : Nat} {X : List Nat} {v : Value} {l : List α} (h : rdS e (Out X w0) w0 v l) (hS : Sep base w L) (hg : lget L i = some (R.rest w0 X)) : rdS e (· < w.heap.size) w v l :=
  (h.keep (rest_ok hS hg).1).mono (rest_ok hS hg).2
theorem EAt.keepS {S S' : Nat → Prop} {p : Addr} {cs : List Value} {w w' : World} (h : EAt S w p cs) (hk : ∀ b, S b → w'.heap[b]? = w.heap[b]?) (hm : ∀ b, S b → S' b) : EAt S' w' p cs :=
  ⟨hm _ h.1, fun j c hc => by
    rw [cell_keep (w := w) (w' := w') (a := p.add j) (by rw [add_block]; exact hk _ h.1)]
    exact h.2 j c hc⟩
theorem EAt.rst {base i : Nat} {X : List Nat} {p : Addr} {cs : List Value} (h : EAt (Out X w0) w0 p cs) (hS : Sep base w L) (hg : lget L i = some (R.rest w0 X)) : EAt (· < w.heap.size) w p cs :=
  h.keepS (rest_ok hS hg).1 (rest_ok hS hg).2
theorem out_rest {base : Nat} {X : List Nat} (hS : Sep base w (R.rest w0 X :: M)) : ∀ b, Out X w0 b → Out (fps M) w b := fun b hb =>
  ⟨(rest_ok (i := 0) hS rfl).2 b hb, fun hm => by
    obtain ⟨s, hs, hb'⟩ := mem_fps.1 hm
    have hd := hS.2
    cases hd with
    | cons h1 _ => exact h1 s hs b (rest_fp.2 hb) hb'⟩
theorem rdS.rsto {e : Ty P α} {base : Nat} {X : List Nat} {v : Value} {l : List α} (h : rdS e (Out X w0) w0 v l) (hS : Sep base w (R.rest w0 X :: M)) : rdS e (Out (fps M) w) w v l :=
  (h.keep (rest_ok (i := 0) hS rfl).1).mono (out_rest hS)
theorem EAt.rsto {base : Nat} {X : List Nat} {p : Addr} {cs : List Value} (h : EAt (Out X w0) w0 p cs) (hS : Sep base w (R.rest w0 X :: M)) : EAt (Out (fps M) w) w p cs :=
  h.keepS (rest_ok (i := 0) hS rfl).1 (out_rest hS)
theorem old_out (hS : Sep w0.heap.size w M) (hB : Below w0.heap.size w0 w) : ∀ b, b < w0.heap.size → Out (fps M) w b := fun b hb =>
  ⟨Nat.lt_of_lt_of_le hb hB.size, fun hm => by
    obtain ⟨s, hs, hb'⟩ := mem_fps.1 hm
    have := ((hS.1 s hs).2.1 b hb').1
    omega⟩
theorem rdS.oldo {e : Ty P α} {v : Value} {l : List α} (h : rdS e (· < w0.heap.size) w0 v l) (hB : Below w0.heap.size w0 w) (hS : Sep w0.heap.size w M) : rdS e (Out (fps M) w) w v l :=
  (h.keep fun b hlt => hB.block b hlt).mono (old_out hS hB)
theorem EAt.oldo {p : Addr} {cs : List Value} (h : EAt (· < w0.heap.size) w0 p cs) (hB : Below w0.heap.size w0 w) (hS : Sep w0.heap.size w M) : EAt (Out (fps M) w) w p cs :=
  h.keepS (fun b hlt => hB.block b hlt) (old_out hS hB)
theorem fp_out {base : Nat} {r : Res} (hS : Sep base w (r :: M)) : ∀ b ∈ r.fp, Out (fps M) w b := fun b hb =>
  ⟨((hS.get (i := 0) rfl).2.1 b hb).2, fun hm => by
    obtain ⟨s, hs, hb'⟩ := mem_fps.1 hm
    have hd := hS.2
    cases hd with
    | cons h1 _ => exact h1 s hs b hb hb'⟩
theorem own_out {e : Ty P α} {base : Nat} {F : List Nat} {v : Value} {l : List α} (hS : Sep base w (R.own e F v l :: M)) : rdS e (Out (fps M) w) w v l :=
  (hS.ok (i := 0) rfl : ownS e F w v l).rd.mono (fp_out hS)
end Go.Proofs.YtejhnpimhjmpdaaDoor
