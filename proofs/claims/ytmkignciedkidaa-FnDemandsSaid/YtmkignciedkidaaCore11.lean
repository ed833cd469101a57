/-
  CORE, 11: functions as values; converting. Over any program.
-/
import Derived.Test.YtmkignciedkidaaCore10
import Derived.Laws.BytesString
set_option linter.unusedSimpArgs false
set_option linter.unusedVariables false
namespace Go.Proofs.Ytmkignciedkidaa
open Go Go.RowKit
variable {P : Program} {n : Nat} {ds : List (Option Tmp)} {d : Nat} {T U V : TypeId} {pos : String} {af : Array Edge} {rest : List Oper} {x y z : Operand} {σ : Env} {w w0 : World} {Q : Exit → Act → World → Prop} {L : List Res}
theorem wl_makeFunc {f : FuncId} {xs : List Operand} {vs : List Value} (hn : Nat.blt d n = true) (hx : xs.map (eop σ) = vs.map some)
    (h : WL P n ds rest ((d, .func (.func f) #[] vs.toArray) :: σ) w Q) : WL P n ds (⟨some d, .makeFunc (.func f) #[] xs.toArray, T, pos, af, none⟩ :: rest) σ w Q :=
  wl_run hn (fun ρ hρ => by
    have hxs := eops_eval hx ρ hρ
    simp [execOp, Instr.makeFunc, hxs]) h
theorem wl_callv {f : FuncId} {caps : List Value} {xs : List Operand} {ts : Array TypeId} {vs : List Value} {R : Ending → World → Prop} (hn : Nat.blt d n = true)
    (hf : eop σ x = some (.func (.func f) #[] caps.toArray))
    (hcf : ∀ args w, (callFunc f args).run P w = .ok (.enter f args) w) (hc : Calls P f (vs ++ caps).toArray w R) (hx : xs.map (eop σ) = vs.map some)
    (h : ∀ e w', R e w' → ∃ v, e = .returned v ∧ WL P n ds rest ((d, v) :: σ) w' Q) :
    WL P n ds (⟨some d, .call ⟨.value x, xs.toArray, ts⟩, T, pos, af, none⟩ :: rest) σ w Q := by
  intro ops ho a ha
  refine wpList_plain rfl fun K hK => ?_
  unfold Oper.wp
  have he : (execOp a.eval ⟨some d, .call ⟨.value x, xs.toArray, ts⟩, T, pos, af, none⟩).run P w = .ok (.enter f (vs ++ caps).toArray) w := by
    have hxs := eops_eval hx a.eval (fun x v hx => ha.eval hx)
    have hfv := ha.eval hf
    simp [execOp, resolve, Deferred.ofValue, invoke, hcf, hxs, hfv]
  rw [he]
  simp only [Oper.upon]
  refine hc.mono fun e w' hR => ?_
  obtain ⟨v, rfl, hv⟩ := h e w' hR
  exact hK _ _ (hv ops ho _ (ha.put v hn))
theorem wl_convi {k k' : IntKind} {a : Int} {us : TypeDesc} (hs : P.underlying U = some us) (hd : P.underlying V = some (.int k')) (hn : Nat.blt d n = true) (hx : eop σ x = some (.int k a))
    (h : WL P n ds rest ((d, .int k' (k'.wrap a)) :: σ) w Q) : WL P n ds (⟨some d, .convert U V x, T, pos, af, none⟩ :: rest) σ w Q :=
  wl_run hn (fun ρ hρ => by simp [execOp, hρ _ _ hx, convert, run_underlying hs, run_underlying hd, Conv.intToInt]) h
end Go.Proofs.Ytmkignciedkidaa
