/-
  CORE, 17: functions for which the model stands in. Over any program.
-/
import Derived.Test.YtejhnpimhjmpdaaDoorCore16
import Derived.Laws.Externs
import Derived.Lib.Bytealg
set_option linter.unusedSimpArgs false
set_option linter.unusedVariables false
namespace Go.Proofs.YtejhnpimhjmpdaaDoor
open Go Go.RowKit
variable {P : Program} {α : Type} {n : Nat} {ds : List (Option Tmp)} {d : Nat} {T U : TypeId} {pos : String} {af : Array Edge} {rest : List Oper} {x y z : Operand} {σ : Env} {w w0 : World} {Q : Exit → Act → World → Prop}
theorem wl_ext {f : FuncId} {fn : Func} {e : Array Value → Sem Value} {xs : List Operand} {ts : Array TypeId} {vs : List Value} {v : Value} (hn : Nat.blt d n = true)
    (hf : P.funcs[f]? = some fn) (hname : (fn.name == "runtime.NumGoroutine") = false) (hb : fn.body.isNone = true) (hnx : Extern.findNext fn = none) (he : Extern.find fn = some e)
    (hx : xs.map (eop σ) = vs.map some) (hr : (e vs.toArray).run P w = .ok v w) (h : WL P n ds rest ((d, v) :: σ) w Q) :
    WL P n ds (⟨some d, .call ⟨.value (.func f), xs.toArray, ts⟩, T, pos, af, none⟩ :: rest) σ w Q :=
  wl_run hn (fun ρ hρ => by
    have hxs := eops_eval hx ρ hρ
    have hc : (callFunc f vs.toArray).run P w = .ok (.value v) w := by rw [run_callFunc_extern hf hname hb hnx he, hr]; rfl
    have hf' := hρ (.func f) _ rfl
    simp [execOp, resolve, Deferred.ofValue, invoke, hxs, hc, hf']) h
theorem wl_nilCheck {p : Addr} (hn : Nat.blt d n = true) (hx : eop σ x = some (.pointer (some p))) (h : WL P n ds rest ((d, .pointer (some p)) :: σ) w Q) :
    WL P n ds (⟨some d, .nilCheck x, T, pos, af, none⟩ :: rest) σ w Q :=
  wl_run hn (fun ρ hρ => by simp [execOp, hρ _ _ hx]) h
theorem pr_nilCheck {S : World → Prop} {G : Value → Prop} {p : Addr} (hn : Nat.blt d n = true) (hx : eop σ x = some (.pointer (some p))) (h : G (.pointer (some p))) : ∃ v, PR P n σ S d (.nilCheck x) T v ∧ G v :=
  ⟨_, ⟨hn, fun ρ hρ w hw dst pos af gd => by simp [execOp, hρ _ _ hx]⟩, h⟩
theorem EAt.kxr {base i : Nat} {X0 X : List Nat} {p : Addr} {cs : List Value} {L : List Res} {wS : World} (h : EAt (Out X0 w0) w0 p cs) (hS : Sep base wS L) (hg : lget L i = some (R.rest w0 X0)) (hX : ∀ b ∈ (R.rest w0 X0).fp, b ∉ X) :
    ∀ w, KeepX wS X w → EAt (· < wS.heap.size) w p cs := fun w hw => by
  have hb : Out X0 w0 p.block := h.1
  have hlt := (rest_ok hS hg).2 _ hb
  exact ⟨hlt, fun j c hc => by
    rw [cell_keep (w := w0) (w' := w) (a := p.add j) (by rw [add_block, hw.blk _ hlt (hX _ (rest_fp.2 hb)), (rest_ok hS hg).1 _ hb])]
    exact h.2 j c hc⟩
/-! an element of one's own slice, read in the owner's memory -/
theorem wl_indexoF {e : Ty P α} {F : List Nat} {v : Value} {l : List α} {k : IntKind} {ix : Int} {u : α} {i : Nat} {L : List Res} (hu : P.underlying U = some (.slice e.tid)) (hn : Nat.blt d n = true)
    (hx : eop σ x = some v) (hy : eop σ y = some (.int k ix)) (hS : Sep w0.heap.size w L) (hg : lget L i = some (R.own e F v l)) (hi : idx l ix = some u)
    (h : ∀ p cs, e.rd (· ∈ F) w cs u → EAt (· ∈ F) w p cs → OPtr e.sz v p ix.toNat 0 → WL P n ds rest ((d, .pointer (some p)) :: σ) w Q) : WL P n ds (⟨some d, .indexAddr U x y, T, pos, af, none⟩ :: rest) σ w Q := by
  have ho : ownS e F w v l := hS.ok hg
  have hr := ho.rd
  obtain ⟨h0, hl, hlt⟩ := idx_some hi
  rcases ho with ⟨_, rfl, _⟩ | ⟨g, cap, cur, css, Fs, hv, hgg, hnn, hm, hc, ht, hz, hF⟩
  · simp at hlt
  · subst hv
    obtain ⟨a, cap', he, hcap, hel⟩ := hr
    injection he with ha hl' hc'
    rcases hel with rfl | ⟨ad, rfl, hel⟩
    · simp at hlt
    · injection ha with ha
      subst ha
      obtain ⟨ii, zz, hinfo, hsz, _⟩ := e.info
      obtain ⟨hb, cs, hcs, hcc⟩ := hel _ _ hl
      have hc2 : 0 ≤ ix ∧ ix < (l.length : Int) := ⟨h0, by omega⟩
      refine wl_run hn (fun ρ hρ => ?_) (h _ cs hcs ⟨hb, hcc⟩ ⟨g, _, _, rfl, by rw [Addr.add_lit, Nat.zero_add, Nat.add_zero]⟩)
      simp [execOp, hρ _ _ hx, hρ _ _ hy, Instr.indexAt, asIntOf, run_underlying hu, sizeOf, typeInfo, hinfo, hsz, hc2]
/-! an element of a slice that is an element of one's own: its place -/
theorem nf_nil {b : Nat} : b ∉ fps [] := by simp [fps]
theorem nf_cons {b : Nat} {r : Res} {M : List Res} (h : b ∉ r.fp) (h2 : b ∉ fps M) : b ∉ fps (r :: M) := by
  intro hb
  rw [mem_fps] at hb h2
  obtain ⟨s, hs, hx⟩ := hb
  rcases List.mem_cons.1 hs with rfl | hs
  · exact h hx
  · exact h2 ⟨s, hs, hx⟩
/-! a box that is lent comes back -/
theorem box_kept {b : Nat} {V V' : TypeId} {cs cs' : List Value} {N : List Res} {w w' : World} (hS' : Sep 0 w' (R.rest w (fps [R.blk b V cs]) :: R.blk b V' cs' :: N)) :
    w.heap.size ≤ w'.heap.size ∧ (∀ c, c < w.heap.size → c ∉ [b] → w'.heap[c]? = w.heap[c]?) ∧ ∀ c ∈ [b], c ∈ [b] ∨ w.heap.size ≤ c := by
  have hfp : ∀ c, c ∈ fps [R.blk b V cs] ↔ c = b := fun c => by simp [fps, R.blk]
  refine ⟨?_, fun c hc hb => mut_kept hS' c hc (fun hx => hb (by rw [(hfp c).1 hx]; simp)), fun c hc => .inl hc⟩
  by_cases h0 : w.heap.size = 0
  · omega
  · by_cases hb : w.heap.size - 1 = b
    · have := ((hS'.1 (R.blk b V' cs') (by simp)).2.1 b (by simp [R.blk])).2
      omega
    · have := ((hS'.1 _ (List.mem_cons_self ..)).2.1 (w.heap.size - 1) (rest_fp.2 ⟨by omega, fun hx => hb ((hfp _).1 hx)⟩)).2
      omega
section
variable {L M : List Res} {sz : Nat} {agg : Bool} {zv : Value}
end
/-! shorter words for what walks say most -/
section
variable {S : World → Prop} {op : Op} {ops : List Oper} {fuel : Nat} {li : List Bool} {o : Oper}
theorem WH.tk (i : Nat) (hi : ops[i]? = some ⟨some d, op, T, pos, af, none⟩) (hQ : PanicOk Q) (hw : S w) (h : ∃ v, PR P n σ S d op T v ∧ WH P n ops S fuel (li.set i true) ((d, v) :: σ) w Q)
    (hs : Region.noSelect ops.toArray = true := by kernel_rfl) (hf : Region.free .any ops.toArray li.toArray i = true := by kernel_rfl) (hr : (Region.ready .any ops.toArray li.toArray).contains i = true := by kernel_rfl) : WH P n ops S (fuel + 1) li σ w Q :=
  WH.takex hi hs hf hr hQ hw h
theorem WH.on1 (i : Nat) (hi : ops[i]? = some o) (h : WL P n (ops.map (·.dst)) [o] σ w (Exit.then (fun a w => S w ∧ wpAnyH P .any ops.toArray Q S fuel (li.set i true).toArray a w) Q))
    (hr : Region.ready .any ops.toArray li.toArray = [i] := by kernel_rfl) : WH P n ops S (fuel + 1) li σ w Q := WH.one hr hi h
end
/-! an element of an owned slice is lent and another comes in its place -/
section
variable {L M : List Res} {sz : Nat} {agg : Bool} {zv : Value} {base : Nat}
end
/-! slices whose elements share memory that nobody writes -/
section
variable {L M : List Res} {base : Nat}
/-- The row is owned; what the elements reach is read in G, that nobody writes any more. -/
def semiS (e : Ty P α) (F : List Nat) (w : World) (v : Value) (l : List α) : Prop :=
  ∃ (css : List (List Value)) (G : List Nat), w.ownsRow 0 e.tid e.sz v l.length css.flatten ∧ css.length = l.length ∧ (∀ (j : Nat) c x, css[j]? = some c → l[j]? = some x → e.rd (· ∈ G) w c x) ∧
    (∀ k, v.ownBlock = some k → k ∈ F ∧ k ∉ G) ∧ ∀ b ∈ G, b ∈ F
theorem semi_sz {e : Ty P α} {G : List Nat} {w : World} {css : List (List Value)} {l : List α} (hl : css.length = l.length) (h : ∀ (j : Nat) c x, css[j]? = some c → l[j]? = some x → e.rd (· ∈ G) w c x) : ∀ c ∈ css, c.length = e.sz := by
  intro c hc
  obtain ⟨j, hj⟩ := List.getElem?_of_mem hc
  have hlt : j < l.length := by rw [← hl]; exact (List.getElem?_eq_some_iff.1 hj).1
  exact e.rd_len (h j c l[j] hj (by simp [hlt]))
theorem semiS.keep {e : Ty P α} {F : List Nat} {w w' : World} {v : Value} {l : List α} (h : semiS e F w v l) (hk : ∀ b ∈ F, w'.heap[b]? = w.heap[b]?) : semiS e F w' v l := by
  obtain ⟨css, G, h1, h2, h3, h5, h6⟩ := h
  refine ⟨css, G, ⟨h1.1, ?_⟩, h2, fun j c x hc hx => e.rd_keep (h3 j c x hc hx) fun b hb => hk b (h6 b hb), h5, h6⟩
  rcases h1.2 with h | ⟨g, cap, cur, hv, hb, hg, hn, hm, hs, ht⟩
  · exact .inl h
  · exact .inr ⟨g, cap, cur, hv, hb, by rw [hk g (h5 g (by rw [hv]; rfl)).1]; exact hg, hn, hm, hs, ht⟩
theorem semiS.rd {e : Ty P α} {F : List Nat} {w : World} {v : Value} {l : List α} (h : semiS e F w v l) : rdS e (· ∈ F) w v l := by
  obtain ⟨css, G, h1, h2, h3, h5, h6⟩ := h
  rcases h1.2 with ⟨hv, hn⟩ | ⟨g, cap, cur, hv, hb, hg, hn, hm, hs, ht⟩
  · have : l = [] := List.eq_nil_of_length_eq_zero hn
    subst this
    exact ⟨none, 0, hv, Nat.le_refl _, .inl rfl⟩
  · refine ⟨_, cap, hv, hn, .inr ⟨⟨g, 0, none⟩, rfl, fun i x hx => ?_⟩⟩
    have hlt : i < css.length := by rw [h2]; exact (List.getElem?_eq_some_iff.1 hx).1
    obtain ⟨c, hc⟩ : ∃ c, css[i]? = some c := ⟨_, List.getElem?_eq_getElem hlt⟩
    refine ⟨by rw [add_block]; exact (h5 g (by rw [hv]; rfl)).1, c, e.rd_mono (h3 i c x hc hx) fun y hy => h6 y hy, fun j u hj => ?_⟩
    rw [add_add, Addr.add_lit, cell_of_row w g _ cur e.tid (0, 0) hg]
    have hf := flatten_get (semi_sz h2 h3) i j c hc u hj
    rw [← ht, List.getElem?_take] at hf
    split at hf
    · simpa using hf
    · cases hf
end
end Go.Proofs.YtejhnpimhjmpdaaDoor
