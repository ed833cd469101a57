/-
  CORE, 11: functions as values; converting. Over any program.
-/
import Derived.Test.YtejhnpimhjmpdaaDoorCore10
import Derived.Laws.BytesString
set_option linter.unusedSimpArgs false
set_option linter.unusedVariables false
namespace Go.Proofs.YtejhnpimhjmpdaaDoor
open Go Go.RowKit
variable {P : Program} {n : Nat} {ds : List (Option Tmp)} {d : Nat} {T U V : TypeId} {pos : String} {af : Array Edge} {rest : List Oper} {x y z : Operand} {σ : Env} {w w0 : World} {Q : Exit → Act → World → Prop} {L : List Res}
theorem blk_EAt {i b : Nat} {V : TypeId} {cs : List Value} (hS : Sep w0.heap.size w L) (hg : lget L i = some (R.blk b V cs)) : EAt (· < w.heap.size) w ⟨b, 0, none⟩ cs :=
  ⟨((hS.get hg).2.1 b (by simp [R.blk])).2, fun j c hc => blk_cells (o := 0) (hS.ok hg) j c (by simpa using hc)⟩
theorem wl_makeFunc {f : FuncId} {xs : List Operand} {vs : List Value} (hn : Nat.blt d n = true) (hx : xs.map (eop σ) = vs.map some)
    (h : WL P n ds rest ((d, .func (.func f) #[] vs.toArray) :: σ) w Q) : WL P n ds (⟨some d, .makeFunc (.func f) #[] xs.toArray, T, pos, af, none⟩ :: rest) σ w Q :=
  wl_run hn (fun ρ hρ => by
    have hxs := eops_eval hx ρ hρ
    simp [execOp, Instr.makeFunc, hxs]) h
theorem wl_callv {f : FuncId} {caps : List Value} {xs : List Operand} {ts : Array TypeId} {vs : List Value} {R : Ending → World → Prop} (hn : Nat.blt d n = true)
    (hf : eop σ x = some (.func (.func f) #[] caps.toArray))
    (hcf : ∀ args w, (callFunc f args).run P w = .ok (.enter f args) w) (hc : Calls P f (vs ++ caps).toArray w R) (hx : xs.map (eop σ) = vs.map some)
    (h : ∀ e w', R e w' → ∃ v, e = .returned v ∧ WL P n ds rest ((d, v) :: σ) w' Q) :
    WL P n ds (⟨some d, .call ⟨.value x, xs.toArray, ts⟩, T, pos, af, none⟩ :: rest) σ w Q := by
  intro ops ho a ha
  refine wpList_plain rfl fun K hK => ?_
  unfold Oper.wp
  have he : (execOp a.eval ⟨some d, .call ⟨.value x, xs.toArray, ts⟩, T, pos, af, none⟩).run P w = .ok (.enter f (vs ++ caps).toArray) w := by
    have hxs := eops_eval hx a.eval (fun x v hx => ha.eval hx)
    have hfv := ha.eval hf
    simp [execOp, resolve, Deferred.ofValue, invoke, hcf, hxs, hfv]
  rw [he]
  simp only [Oper.upon]
  refine hc.mono fun e w' hR => ?_
  obtain ⟨v, rfl, hv⟩ := h e w' hR
  exact hK _ _ (hv ops ho _ (ha.put v hn))
theorem wl_convi {k k' : IntKind} {a : Int} {us : TypeDesc} (hs : P.underlying U = some us) (hd : P.underlying V = some (.int k')) (hn : Nat.blt d n = true) (hx : eop σ x = some (.int k a))
    (h : WL P n ds rest ((d, .int k' (k'.wrap a)) :: σ) w Q) : WL P n ds (⟨some d, .convert U V x, T, pos, af, none⟩ :: rest) σ w Q :=
  wl_run hn (fun ρ hρ => by simp [execOp, hρ _ _ hx, convert, run_underlying hs, run_underlying hd, Conv.intToInt]) h
theorem foldl_push (l : List Int) (s : ByteArray) : (l.foldl (fun r n => r.push (UInt8.ofNat n.toNat)) s).data.toList = s.data.toList ++ bytesOf l := by
  induction l generalizing s with
  | nil => simp [bytesOf]
  | cons x l ih => rw [List.foldl_cons, ih]; simp [bytesOf]
theorem run_convb {e : Ty P Int} (hf : Flat e (fun u => [.int .u8 u])) {S : Nat → Prop} {v : Value} {l : List Int} (hs : P.underlying U = some (.slice e.tid)) (he : P.underlying e.tid = some (.int .u8)) (hd : P.underlying V = some .string) (hsz : e.sz = 1)
    {w : World} (hr : rdS e S w v l) : (convert U V v).run P w = .ok (.string (mkS (bytesOf l))) w := by
  obtain ⟨a, cap, rfl, hc, hl⟩ := hr
  rw [run_convert_bytes_string w U V e.tid a _ _ hs he hd]
  cases a with
  | none =>
    rcases hl with rfl | ⟨ad, h, _⟩
    · simp [Conv.bytesToString, bytesOf, mkS, Sem.run_pure]
      rfl
    · cases h
  | some ad =>
    rw [run_bytesToString w ad l.length cap l]
    · congr 2
      apply mkS_eq
      rw [foldl_push]
      simp
    · have := run_loadCells_list (P := P) w ad (l.map (Value.int .u8)) (fun j c hj => ?_)
      · simpa using this
      · rcases hl with rfl | ⟨ad', h, hel⟩
        · simp at hj
        · cases h
          rw [List.getElem?_map] at hj
          cases hx : l[j]? with
          | none => rw [hx] at hj; cases hj
          | some u =>
            rw [hx] at hj
            obtain ⟨_, cs, hcs, hcc⟩ := hel j u hx
            have hcs' := hf.rd hcs
            have := hcc 0 c (by rw [hcs']; simpa using hj)
            rw [hsz, Nat.mul_one, Addr.add_zero'] at this
            exact this
theorem wl_convb {e : Ty P Int} (hf : Flat e (fun u => [.int .u8 u])) {S : Nat → Prop} {v : Value} {l : List Int} (hs : P.underlying U = some (.slice e.tid)) (he : P.underlying e.tid = some (.int .u8)) (hd : P.underlying V = some .string) (hsz : e.sz = 1) (hn : Nat.blt d n = true)
    (hx : eop σ x = some v) (hr : rdS e S w v l) (h : WL P n ds rest ((d, .string (mkS (bytesOf l))) :: σ) w Q) : WL P n ds (⟨some d, .convert U V x, T, pos, af, none⟩ :: rest) σ w Q :=
  wl_run hn (fun ρ hρ => by simp [execOp, hρ _ _ hx, run_convb hf hs he hd hsz hr]) h
end Go.Proofs.YtejhnpimhjmpdaaDoor
