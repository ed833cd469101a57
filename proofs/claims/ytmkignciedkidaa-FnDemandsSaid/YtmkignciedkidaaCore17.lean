/-
  CORE, 17: functions for which the model stands in. Over any program.
-/
import Derived.Test.YtmkignciedkidaaCore16
import Derived.Laws.Externs
import Derived.Lib.Bytealg
set_option linter.unusedSimpArgs false
set_option linter.unusedVariables false
namespace Go.Proofs.Ytmkignciedkidaa
open Go Go.RowKit
variable {P : Program} {α : Type} {n : Nat} {ds : List (Option Tmp)} {d : Nat} {T U : TypeId} {pos : String} {af : Array Edge} {rest : List Oper} {x y z : Operand} {σ : Env} {w w0 : World} {Q : Exit → Act → World → Prop}
theorem wl_nilCheck {p : Addr} (hn : Nat.blt d n = true) (hx : eop σ x = some (.pointer (some p))) (h : WL P n ds rest ((d, .pointer (some p)) :: σ) w Q) :
    WL P n ds (⟨some d, .nilCheck x, T, pos, af, none⟩ :: rest) σ w Q :=
  wl_run hn (fun ρ hρ => by simp [execOp, hρ _ _ hx]) h
theorem pr_nilCheck {S : World → Prop} {G : Value → Prop} {p : Addr} (hn : Nat.blt d n = true) (hx : eop σ x = some (.pointer (some p))) (h : G (.pointer (some p))) : ∃ v, PR P n σ S d (.nilCheck x) T v ∧ G v :=
  ⟨_, ⟨hn, fun ρ hρ w hw dst pos af gd => by simp [execOp, hρ _ _ hx]⟩, h⟩
theorem EAt.kxr {base i : Nat} {X0 X : List Nat} {p : Addr} {cs : List Value} {L : List Res} {wS : World} (h : EAt (Out X0 w0) w0 p cs) (hS : Sep base wS L) (hg : lget L i = some (R.rest w0 X0)) (hX : ∀ b ∈ (R.rest w0 X0).fp, b ∉ X) :
    ∀ w, KeepX wS X w → EAt (· < wS.heap.size) w p cs := fun w hw => by
  have hb : Out X0 w0 p.block := h.1
  have hlt := (rest_ok hS hg).2 _ hb
  exact ⟨hlt, fun j c hc => by
    rw [cell_keep (w := w0) (w' := w) (a := p.add j) (by rw [add_block, hw.blk _ hlt (hX _ (rest_fp.2 hb)), (rest_ok hS hg).1 _ hb])]
    exact h.2 j c hc⟩
/-! an element of one's own slice, read in the owner's memory -/
theorem wl_indexoF {e : Ty P α} {F : List Nat} {v : Value} {l : List α} {k : IntKind} {ix : Int} {u : α} {i : Nat} {L : List Res} (hu : P.underlying U = some (.slice e.tid)) (hn : Nat.blt d n = true)
    (hx : eop σ x = some v) (hy : eop σ y = some (.int k ix)) (hS : Sep w0.heap.size w L) (hg : lget L i = some (R.own e F v l)) (hi : idx l ix = some u)
    (h : ∀ p cs, e.rd (· ∈ F) w cs u → EAt (· ∈ F) w p cs → OPtr e.sz v p ix.toNat 0 → WL P n ds rest ((d, .pointer (some p)) :: σ) w Q) : WL P n ds (⟨some d, .indexAddr U x y, T, pos, af, none⟩ :: rest) σ w Q := by
  have ho : ownS e F w v l := hS.ok hg
  have hr := ho.rd
  obtain ⟨h0, hl, hlt⟩ := idx_some hi
  rcases ho with ⟨_, rfl, _⟩ | ⟨g, cap, cur, css, Fs, hv, hgg, hnn, hm, hc, ht, hz, hF⟩
  · simp at hlt
  · subst hv
    obtain ⟨a, cap', he, hcap, hel⟩ := hr
    injection he with ha hl' hc'
    rcases hel with rfl | ⟨ad, rfl, hel⟩
    · simp at hlt
    · injection ha with ha
      subst ha
      obtain ⟨ii, zz, hinfo, hsz, _⟩ := e.info
      obtain ⟨hb, cs, hcs, hcc⟩ := hel _ _ hl
      have hc2 : 0 ≤ ix ∧ ix < (l.length : Int) := ⟨h0, by omega⟩
      refine wl_run hn (fun ρ hρ => ?_) (h _ cs hcs ⟨hb, hcc⟩ ⟨g, _, _, rfl, by rw [Addr.add_lit, Nat.zero_add, Nat.add_zero]⟩)
      simp [execOp, hρ _ _ hx, hρ _ _ hy, Instr.indexAt, asIntOf, run_underlying hu, sizeOf, typeInfo, hinfo, hsz, hc2]
theorem pr_indexoF {S : World → Prop} {G : Value → Prop} {e : Ty P α} {F : List Nat} {v : Value} {l : List α} {k : IntKind} {ix : Int} {u : α} {i : Nat} {L : List Res} {w : World} (hu : P.underlying U = some (.slice e.tid)) (hn : Nat.blt d n = true)
    (hx : eop σ x = some v) (hy : eop σ y = some (.int k ix)) (hS : Sep w0.heap.size w L) (hg : lget L i = some (R.own e F v l)) (hi : idx l ix = some u)
    (h : ∀ p cs, e.rd (· ∈ F) w cs u → EAt (· ∈ F) w p cs → OPtr e.sz v p ix.toNat 0 → G (.pointer (some p))) : ∃ v, PR P n σ S d (.indexAddr U x y) T v ∧ G v := by
  have ho : ownS e F w v l := hS.ok hg
  have hr := ho.rd
  obtain ⟨h0, hl, hlt⟩ := idx_some hi
  rcases ho with ⟨_, rfl, _⟩ | ⟨g, cap, cur, css, Fs, hv, hgg, hnn, hm, hc, ht, hz, hF⟩
  · simp at hlt
  · subst hv
    obtain ⟨a, cap', he, hcap, hel⟩ := hr
    injection he with ha hl' hc'
    rcases hel with rfl | ⟨ad, rfl, hel⟩
    · simp at hlt
    · injection ha with ha
      subst ha
      obtain ⟨ii, zz, hinfo, hsz, _⟩ := e.info
      obtain ⟨hb, cs, hcs, hcc⟩ := hel _ _ hl
      have hc2 : 0 ≤ ix ∧ ix < (l.length : Int) := ⟨h0, by omega⟩
      refine ⟨_, ⟨hn, fun ρ hρ w _ dst pos af gd => ?_⟩, h _ cs hcs ⟨hb, hcc⟩ ⟨g, _, _, rfl, by rw [Addr.add_lit, Nat.zero_add, Nat.add_zero]⟩⟩
      simp [execOp, hρ _ _ hx, hρ _ _ hy, Instr.indexAt, asIntOf, run_underlying hu, sizeOf, typeInfo, hinfo, hsz, hc2]
/-! an element of a slice that is an element of one's own: its place -/
def PtrOf (sz : Nat) (v : Value) (p : Addr) (k : Nat) : Prop := ∃ a n c, v = .slice (some a) n c ∧ p = a.add (k * sz)
theorem optr_of {e : Ty P α} {F : List Nat} {v : Value} {l : List α} {p : Addr} {k : Nat} (ho : ownS e F w v l) (hp : PtrOf e.sz v p k) : OPtr e.sz v p k 0 := by
  obtain ⟨a, n, c, hv, rfl⟩ := hp
  rcases ho with ⟨rfl, _, _⟩ | ⟨g, cap, cur, css, Fs, rfl, _⟩
  · cases hv
  · injection hv with ha _ _
    injection ha with ha
    subst ha
    exact ⟨g, _, _, rfl, by rw [Addr.add_lit, Nat.zero_add, Nat.add_zero]⟩
theorem wl_indexP {e : Ty P α} {S : Nat → Prop} {w1 : World} {v : Value} {l : List α} {k : IntKind} {ix : Int} {u : α} (hu : P.underlying U = some (.slice e.tid)) (hn : Nat.blt d n = true)
    (hx : eop σ x = some v) (hy : eop σ y = some (.int k ix)) (hr : rdS e S w1 v l) (hi : idx l ix = some u)
    (h : ∀ p cs, e.rd S w1 cs u → EAt S w1 p cs → PtrOf e.sz v p ix.toNat → WL P n ds rest ((d, .pointer (some p)) :: σ) w Q) : WL P n ds (⟨some d, .indexAddr U x y, T, pos, af, none⟩ :: rest) σ w Q := by
  obtain ⟨a, cap, rfl, hcap, hh⟩ := hr
  obtain ⟨h0, hl, hlt⟩ := idx_some hi
  rcases hh with rfl | ⟨ad, rfl, hel⟩
  · simp at hlt
  · obtain ⟨i, z, hinfo, hsz, _⟩ := e.info
    obtain ⟨hS, cs, hcs, hc⟩ := hel _ _ hl
    have hc2 : 0 ≤ ix ∧ ix < (l.length : Int) := ⟨h0, by omega⟩
    refine wl_run hn (fun ρ hρ => ?_) (h _ cs hcs ⟨hS, hc⟩ ⟨ad, _, _, rfl, rfl⟩)
    simp [execOp, hρ _ _ hx, hρ _ _ hy, Instr.indexAt, asIntOf, run_underlying hu, sizeOf, typeInfo, hinfo, hsz, hc2]
theorem nf_nil {b : Nat} : b ∉ fps [] := by simp [fps]
theorem nf_cons {b : Nat} {r : Res} {M : List Res} (h : b ∉ r.fp) (h2 : b ∉ fps M) : b ∉ fps (r :: M) := by
  intro hb
  rw [mem_fps] at hb h2
  obtain ⟨s, hs, hx⟩ := hb
  rcases List.mem_cons.1 hs with rfl | hs
  · exact h hx
  · exact h2 ⟨s, hs, hx⟩
/-! a box that is lent comes back -/
theorem box_kept {b : Nat} {V V' : TypeId} {cs cs' : List Value} {N : List Res} {w w' : World} (hS' : Sep 0 w' (R.rest w (fps [R.blk b V cs]) :: R.blk b V' cs' :: N)) :
    w.heap.size ≤ w'.heap.size ∧ (∀ c, c < w.heap.size → c ∉ [b] → w'.heap[c]? = w.heap[c]?) ∧ ∀ c ∈ [b], c ∈ [b] ∨ w.heap.size ≤ c := by
  have hfp : ∀ c, c ∈ fps [R.blk b V cs] ↔ c = b := fun c => by simp [fps, R.blk]
  refine ⟨?_, fun c hc hb => mut_kept hS' c hc (fun hx => hb (by rw [(hfp c).1 hx]; simp)), fun c hc => .inl hc⟩
  by_cases h0 : w.heap.size = 0
  · omega
  · by_cases hb : w.heap.size - 1 = b
    · have := ((hS'.1 (R.blk b V' cs') (by simp)).2.1 b (by simp [R.blk])).2
      omega
    · have := ((hS'.1 _ (List.mem_cons_self ..)).2.1 (w.heap.size - 1) (rest_fp.2 ⟨by omega, fun hx => hb ((hfp _).1 hx)⟩)).2
      omega
section
variable {L M : List Res} {sz : Nat} {agg : Bool} {zv : Value}
/-- 'a[i] = x', x a datum that owns memory: it is moved in. -/
theorem wl_storenk {e : Ty P α} {F F2 : List Nat} {v vx : Value} {l : List α} {u u' : α} {ix : Int} {p : Addr} {vs : List Value} (tf : TF P U sz agg zv)
    (hx : eop σ x = some (.pointer (some p))) (hy : eop σ y = some vx) (hv : vx.cells = vs.toArray) (hsz : vs.length = sz) (hp : OPtr e.sz v p ix.toNat 0) (hi : idx l ix = some u)
    (hB : Below w0.heap.size w0 w) (hS : Sep w0.heap.size w (R.own e F v l :: R.cel e F2 vs u' :: M)) (hle : Nat.beq sz e.sz = true) (h1 : Ones vs)
    (h : ∀ w' F', (w.heap.size ≤ w'.heap.size ∧ (∀ b, b < w.heap.size → b ∉ F → w'.heap[b]? = w.heap[b]?) ∧ ∀ b ∈ F', b ∈ F ∨ b ∈ F2 ∨ w.heap.size ≤ b) → Below w0.heap.size w0 w' → Sep w0.heap.size w' (R.own e F' v (seti l ix u') :: M) → WL P n ds rest σ w' Q) :
    WL P n ds (⟨none, .store U x y, T, pos, af, none⟩ :: rest) σ w Q := by
  have ho : ownS e F w v l := hS.ok (i := 0) rfl
  have hg0 := hS.get (i := 0) rfl
  have hg1 := hS.get (i := 1) rfl
  have hdis : ∀ b ∈ F, b ∉ F2 := hS.disj (i := 0) (j := 1) rfl rfl rfl
  obtain ⟨h0, hl, hlt⟩ := idx_some hi
  have hsz' : sz = e.sz := Nat.eq_of_beq_eq_true hle
  rcases ho with ⟨_, rfl, _⟩ | ⟨g, cap, cur, css, Fs, hvv, hgg, hnn, hm, hc, ht, hz, hF⟩
  · simp at hlt
  · obtain ⟨g', c', m', hv', rfl⟩ := hp
    rw [hvv] at hv'
    injection hv' with ha _ _
    injection ha with ha
    injection ha with ha _ _
    subst ha
    have hin : (ix.toNat + 1) * e.sz ≤ cur.size := by rw [hc]; exact Nat.mul_le_mul_right _ (by omega)
    rw [Nat.succ_mul] at hin
    have hgF : g ∈ F := by rw [hF]; simp
    have hgbase := (hg0.2.1 g hgF).1
    have hst := run_storeVar_cells (P := P) w g (ix.toNat * e.sz + 0) e.tid U cur.toList vs vx hv (fun w => by rw [hsz]; exact tf.hsize w) (by simpa using hgg) (by simp; omega) h1
    have hkeep : ∀ b, b ≠ g → (w.setRow g (splice cur.toList (ix.toNat * e.sz + 0) vs).toArray).heap[b]? = w.heap[b]? := fun b hb => setRow_other w g b _ hb
    have hcl := hz.sz
    obtain ⟨Fk, ck, hFk, hck, hok⟩ := hz.get _ _ hl
    have hFnd : Fs.flatten.Nodup ∧ g ∉ Fs.flatten := by
      have := hg0.1
      simp only [R.own] at this
      rw [hF, List.nodup_cons] at this
      exact ⟨this.2, this.1⟩
    have hgF2 : g ∉ F2 := hdis g hgF
    refine wl_u (w' := w.setRow g (splice cur.toList (ix.toNat * e.sz + 0) vs).toArray) (fun ρ hρ => ?_)
      (h _ (g :: (Fs.set ix.toNat F2).flatten) ⟨by simp, fun b _ hb => hkeep b fun e => hb (by rw [e]; exact hgF), fun b hb => by
        rcases List.mem_cons.1 hb with rfl | hb
        · exact .inl hgF
        · rcases mem_flatten_set hb with hb | hb
          · exact .inl (by rw [hF]; exact List.mem_cons_of_mem _ hb)
          · exact .inr (.inl hb)⟩ (hB.trans (setRow_below w g _ hgbase)) ?_)
    · simp only [Nat.add_zero] at hst ⊢
      simp [execOp, hρ _ _ hx, hρ _ _ hy, Instr.storeAt, Instr.sureAddr, hst]
    · -- the element's resource becomes a part of the slice's
      have hS2 : Sep w0.heap.size w (⟨F ++ F2, fun _ => True⟩ :: M) := hS.merge rfl fun _ _ _ => trivial
      have hS3 := hS2.upd (i := 0) (w' := w.setRow g (splice cur.toList (ix.toNat * e.sz + 0) vs).toArray) (r' := R.own e (g :: (Fs.set ix.toNat F2).flatten) v (seti l ix u')) rfl (by simp)
        (fun b _ _ hb => hkeep b fun e => hb (by rw [e]; exact List.mem_append_left _ hgF)) ?_ ?_ hB.size ?_
      · exact hS3
      · simp only [R.own, List.nodup_cons]
        refine ⟨fun hb => ?_, flatten_set_nodup hFnd.1 hg1.1 fun b hb hb' => hdis b (by rw [hF]; simp only [List.mem_cons]; exact .inr hb') hb⟩
        rcases mem_flatten_set hb with hb | hb
        · exact hFnd.2 hb
        · exact hgF2 hb
      · intro b hb
        left
        simp only [R.own, List.mem_cons] at hb
        rcases hb with rfl | hb
        · exact List.mem_append_left _ hgF
        · rcases mem_flatten_set hb with hb | hb
          · exact List.mem_append_left _ (by rw [hF]; simp only [List.mem_cons]; exact .inr hb)
          · exact List.mem_append_right _ hb
      · intro w'' hk
        have hh := hk g (by simp [R.own])
        refine .inr ⟨g, cap, _, css.set ix.toNat vs, Fs.set ix.toNat F2, by simpa [seti] using hvv, by rw [hh, setRow_heap w g cur _ e.tid _ hgg], by simpa [seti] using hnn, hm, ?_, ?_, ?_, rfl⟩
        · rw [List.size_toArray, splice_len (by simp; omega)]
          simpa using hc
        · have hfl := flatten_splice (sz := e.sz) (css := css) hcl ix.toNat 0 vs ck hck (by omega)
          have hsp : splice ck 0 vs = vs := by
            unfold splice
            have : ck.length = vs.length := by rw [hcl ck (List.mem_of_getElem? hck)]; omega
            simp [← this]
          rw [hsp] at hfl
          simp only [seti]
          rw [← hfl, ← ht, List.toList_toArray, List.length_set]
          have hb2 : ix.toNat * e.sz + 0 + vs.length ≤ l.length * e.sz := by
            have : (ix.toNat + 1) * e.sz ≤ l.length * e.sz := Nat.mul_le_mul_right _ hlt
            rw [Nat.succ_mul] at this
            omega
          unfold splice
          rw [List.take_append, List.take_append, List.length_take, List.take_take, List.drop_take]
          have hcs : l.length * e.sz ≤ cur.toList.length := by simp [hc]; exact Nat.mul_le_mul_right _ hnn
          rw [Nat.min_eq_left (by omega : ix.toNat * e.sz + 0 ≤ cur.toList.length), List.take_take, List.take_of_length_le (l := vs) (by omega)]
          rw [Nat.min_eq_right (by omega), Nat.min_eq_left (by omega)]
          congr 2
          congr 1
          omega
        · have hbl : ∀ b ∈ Fs.flatten, w''.heap[b]? = w.heap[b]? ∨ b ∈ Fk := fun b hb => by
            obtain ⟨G, hG, hbG⟩ := List.mem_flatten.1 hb
            obtain ⟨j, hj⟩ := List.getElem?_of_mem hG
            by_cases e : j = ix.toNat
            · rw [e, hFk] at hj
              cases hj
              exact .inr hbG
            · left
              have hmem : b ∈ (Fs.set ix.toNat F2).flatten := List.mem_flatten.2 ⟨G, List.mem_of_getElem? (i := j) (by rw [List.getElem?_set_ne (Ne.symm e)]; exact hj), hbG⟩
              rw [hk b (by simp only [R.own, List.mem_cons]; exact .inr hmem)]
              exact hkeep b fun e => hFnd.2 (by rw [← e]; exact hb)
          refine Z3.of (by simp [hz.len.1, seti]) (by simp [hz.len.2, seti]) fun j A B C hA hB hC => ?_
          by_cases e : j = ix.toNat
          · subst e
            rw [List.getElem?_set_self (by rw [hz.len.1]; exact hlt)] at hA
            rw [List.getElem?_set_self (by rw [hz.len.2]; exact hlt)] at hB
            simp only [seti] at hC
            rw [List.getElem?_set_self hlt] at hC
            cases hA; cases hB; cases hC
            refine hg1.2.2 w'' fun b hb => ?_
            simp only [R.cel] at hb
            have hltF : ix.toNat < Fs.length := by rw [hz.len.1]; exact hlt
            rw [hk b (by simp only [R.own, List.mem_cons]; exact .inr (List.mem_flatten.2 ⟨F2, List.mem_of_getElem? (i := ix.toNat) (List.getElem?_set_self hltF), hb⟩))]
            exact hkeep b fun e => hgF2 (by rw [← e]; exact hb)
          · rw [List.getElem?_set_ne (Ne.symm e)] at hA hB
            simp only [seti] at hC
            rw [List.getElem?_set_ne (Ne.symm e)] at hC
            obtain ⟨A', B', h1', h2', h3'⟩ := hz.get j C hC
            rw [hA] at h1'; rw [hB] at h2'
            cases h1'; cases h2'
            refine Sh.own_keep _ h3' fun b hb => ?_
            have hmem : b ∈ (Fs.set ix.toNat F2).flatten := List.mem_flatten.2 ⟨A, List.mem_of_getElem? (i := j) (by rw [List.getElem?_set_ne (Ne.symm e)]; exact hA), hb⟩
            rw [hk b (by simp only [R.own, List.mem_cons]; exact .inr hmem)]
            exact hkeep b fun e => hFnd.2 (by rw [← e]; exact List.mem_flatten.2 ⟨A, List.mem_of_getElem? hA, hb⟩)
end
/-! shorter words for what walks say most -/
section
variable {S : World → Prop} {op : Op} {ops : List Oper} {fuel : Nat} {li : List Bool} {o : Oper}
theorem WH.tk (i : Nat) (hi : ops[i]? = some ⟨some d, op, T, pos, af, none⟩) (hQ : PanicOk Q) (hw : S w) (h : ∃ v, PR P n σ S d op T v ∧ WH P n ops S fuel (li.set i true) ((d, v) :: σ) w Q)
    (hs : Region.noSelect ops.toArray = true := by kernel_rfl) (hf : Region.free .any ops.toArray li.toArray i = true := by kernel_rfl) (hr : (Region.ready .any ops.toArray li.toArray).contains i = true := by kernel_rfl) : WH P n ops S (fuel + 1) li σ w Q :=
  WH.takex hi hs hf hr hQ hw h
theorem WH.on1 (i : Nat) (hi : ops[i]? = some o) (h : WL P n (ops.map (·.dst)) [o] σ w (Exit.then (fun a w => S w ∧ wpAnyH P .any ops.toArray Q S fuel (li.set i true).toArray a w) Q))
    (hr : Region.ready .any ops.toArray li.toArray = [i] := by kernel_rfl) : WH P n ops S (fuel + 1) li σ w Q := WH.one hr hi h
end
/-! an element of an owned slice is lent and another comes in its place -/
section
variable {L M : List Res} {sz : Nat} {agg : Bool} {zv : Value} {base : Nat}
end
/-! slices whose elements share memory that nobody writes -/
section
variable {L M : List Res} {base : Nat}
/-- The row is owned; what the elements reach is read in G, that nobody writes any more. -/
def semiS (e : Ty P α) (F : List Nat) (w : World) (v : Value) (l : List α) : Prop :=
  ∃ (css : List (List Value)) (G : List Nat), w.ownsRow 0 e.tid e.sz v l.length css.flatten ∧ css.length = l.length ∧ (∀ (j : Nat) c x, css[j]? = some c → l[j]? = some x → e.rd (· ∈ G) w c x) ∧
    (∀ k, v.ownBlock = some k → k ∈ F ∧ k ∉ G) ∧ ∀ b ∈ G, b ∈ F
def R.semi (e : Ty P α) (F : List Nat) (v : Value) (l : List α) : Res := ⟨F, fun w => semiS e F w v l⟩
theorem semi_sz {e : Ty P α} {G : List Nat} {w : World} {css : List (List Value)} {l : List α} (hl : css.length = l.length) (h : ∀ (j : Nat) c x, css[j]? = some c → l[j]? = some x → e.rd (· ∈ G) w c x) : ∀ c ∈ css, c.length = e.sz := by
  intro c hc
  obtain ⟨j, hj⟩ := List.getElem?_of_mem hc
  have hlt : j < l.length := by rw [← hl]; exact (List.getElem?_eq_some_iff.1 hj).1
  exact e.rd_len (h j c l[j] hj (by simp [hlt]))
theorem semi_one {e : Ty P α} {G : List Nat} {w : World} {css : List (List Value)} {l : List α} (hl : css.length = l.length) (h : ∀ (j : Nat) c x, css[j]? = some c → l[j]? = some x → e.rd (· ∈ G) w c x) : ∀ u ∈ css.flatten, u.oneCell' = true := by
  intro u hu
  obtain ⟨c, hc, hu⟩ := List.mem_flatten.1 hu
  obtain ⟨j, hj⟩ := List.getElem?_of_mem hc
  have hlt : j < l.length := by rw [← hl]; exact (List.getElem?_eq_some_iff.1 hj).1
  exact e.rd_one (h j c l[j] hj (by simp [hlt])) u hu
theorem semiS.keep {e : Ty P α} {F : List Nat} {w w' : World} {v : Value} {l : List α} (h : semiS e F w v l) (hk : ∀ b ∈ F, w'.heap[b]? = w.heap[b]?) : semiS e F w' v l := by
  obtain ⟨css, G, h1, h2, h3, h5, h6⟩ := h
  refine ⟨css, G, ⟨h1.1, ?_⟩, h2, fun j c x hc hx => e.rd_keep (h3 j c x hc hx) fun b hb => hk b (h6 b hb), h5, h6⟩
  rcases h1.2 with h | ⟨g, cap, cur, hv, hb, hg, hn, hm, hs, ht⟩
  · exact .inl h
  · exact .inr ⟨g, cap, cur, hv, hb, by rw [hk g (h5 g (by rw [hv]; rfl)).1]; exact hg, hn, hm, hs, ht⟩
theorem semiS.rd {e : Ty P α} {F : List Nat} {w : World} {v : Value} {l : List α} (h : semiS e F w v l) : rdS e (· ∈ F) w v l := by
  obtain ⟨css, G, h1, h2, h3, h5, h6⟩ := h
  rcases h1.2 with ⟨hv, hn⟩ | ⟨g, cap, cur, hv, hb, hg, hn, hm, hs, ht⟩
  · have : l = [] := List.eq_nil_of_length_eq_zero hn
    subst this
    exact ⟨none, 0, hv, Nat.le_refl _, .inl rfl⟩
  · refine ⟨_, cap, hv, hn, .inr ⟨⟨g, 0, none⟩, rfl, fun i x hx => ?_⟩⟩
    have hlt : i < css.length := by rw [h2]; exact (List.getElem?_eq_some_iff.1 hx).1
    obtain ⟨c, hc⟩ : ∃ c, css[i]? = some c := ⟨_, List.getElem?_eq_getElem hlt⟩
    refine ⟨by rw [add_block]; exact (h5 g (by rw [hv]; rfl)).1, c, e.rd_mono (h3 i c x hc hx) fun y hy => h6 y hy, fun j u hj => ?_⟩
    rw [add_add, Addr.add_lit, cell_of_row w g _ cur e.tid (0, 0) hg]
    have hf := flatten_get (semi_sz h2 h3) i j c hc u hj
    rw [← ht, List.getElem?_take] at hf
    split at hf
    · simpa using hf
    · cases hf
theorem Sep.semi_ro {e : Ty P α} {F : List Nat} {v : Value} {l : List α} (h : Sep base w L) {i : Nat} (hg : lget L i = some (R.semi e F v l)) : rdS e (· < w.heap.size) w v l :=
  (h.ok hg : semiS e F w v l).rd.mono fun b hb => ((h.get hg).2.1 b hb).2
/-- 'T{a, b, a}': the two are read by it from now on. -/
theorem wl_lit3s {e : Ty P α} {Fa Fb : List Nat} {x1 x2 x3 : Operand} {va vb : Value} {ca cb : List Value} {a b : α} (hu : P.underlying U = some (.slice e.tid)) (hn : Nat.blt d n = true)
    (h1 : eop σ x1 = some va) (h2 : eop σ x2 = some vb) (h3 : eop σ x3 = some va) (hca : va.cells = ca.toArray) (hcb : vb.cells = cb.toArray) (hlim : Nat.ble e.sz 65536 = true)
    (hB : Below w0.heap.size w0 w) (hS : Sep w0.heap.size w (R.cel e Fa ca a :: R.cel e Fb cb b :: M))
    (h : ∀ v F w', Below w.heap.size w w' → Below w0.heap.size w0 w' → Sep w0.heap.size w' (R.semi e F v [a, b, a] :: M) → WL P n ds rest ((d, v) :: σ) w' Q) :
    WL P n ds (⟨some d, .buildSlice U 3 #[(0, x1), (1, x2), (2, x3)], T, pos, af, none⟩ :: rest) σ w Q := by
  have oa : e.own Fa w ca a := hS.ok (i := 0) rfl
  have ob : e.own Fb w cb b := hS.ok (i := 1) rfl
  have la : ca.length = e.sz := e.rd_len (e.own_rd oa)
  have lb : cb.length = e.sz := e.rd_len (e.own_rd ob)
  have hlim' := Nat.le_of_ble_eq_true hlim
  have hS1 : Sep w0.heap.size w (⟨Fa ++ Fb, fun w => e.own Fa w ca a ∧ e.own Fb w cb b⟩ :: M) := hS.merge rfl fun _ h1 h2 => ⟨h1, h2⟩
  have hfp := (hS1.get (i := 0) rfl).2.1
  have hb2 : Below w.heap.size w (w.alloc (.cells [ca, cb, ca].flatten.toArray e.tid)) := alloc_below w _
  have hS2 := (hS1.push (r := ⟨[w.heap.size], fun w' => w'.heap[w.heap.size]? = some (.cells [ca, cb, ca].flatten.toArray e.tid (0, 0))⟩) hb2 (by simp) (fun b hb => by simp at hb; subst hb; simp) hB.size
    (fun w'' hk => by
      show w''.heap[w.heap.size]? = _
      rw [hk w.heap.size (by simp), heap_alloc_new]))
  have hfl : ([ca, cb, ca].flatten).length = 3 * e.sz := by simp [la, lb]; omega
  have hS3 := hS2.merge (r := R.semi e (w.heap.size :: (Fa ++ Fb)) (.slice (some ⟨w.heap.size, 0, none⟩) 3 3) [a, b, a]) rfl (fun w1 g1 g2 => by
    refine ⟨[ca, cb, ca], Fa ++ Fb, ⟨by rw [hfl]; rfl, .inr ⟨w.heap.size, 3, [ca, cb, ca].flatten.toArray, rfl, Nat.zero_le _, g1, Nat.le_refl _, by simp [maxLen], by rw [List.size_toArray, hfl], ?_⟩⟩, rfl, fun j c x hc hx => ?_, fun k hk => ?_, fun b hb => List.mem_cons_of_mem _ hb⟩
    · rw [List.toList_toArray, List.take_of_length_le (by rw [hfl]; exact Nat.le_refl _)]
    · have ra : e.rd (· ∈ Fa ++ Fb) w1 ca a := e.rd_mono (e.own_rd g2.1) fun b hb => List.mem_append_left _ hb
      have rb : e.rd (· ∈ Fa ++ Fb) w1 cb b := e.rd_mono (e.own_rd g2.2) fun b hb => List.mem_append_right _ hb
      match j with
      | 0 => simp at hc hx; subst hc; subst hx; exact ra
      | 1 => simp at hc hx; subst hc; subst hx; exact rb
      | 2 => simp at hc hx; subst hc; subst hx; exact ra
      | j + 3 => simp at hc
    · simp [Value.ownBlock] at hk
      subst hk
      exact ⟨List.mem_cons_self .., fun hb => by have := (hfp _ hb).2; omega⟩)
  refine wl_run (w' := w.alloc (.cells [ca, cb, ca].flatten.toArray e.tid)) (v := .slice (some ⟨w.heap.size, 0, none⟩) 3 3) hn (fun ρ hρ => ?_)
    (h _ (w.heap.size :: (Fa ++ Fb)) _ hb2 (hB.trans (hb2.mono hB.size)) hS3)
  have hb := run_buildSlice (P := P) hu (parts := [(0, ρ x1), (1, ρ x2), (2, ρ x3)]) (css := [ca, cb, ca]) (by simp [hρ _ _ h1, hρ _ _ h2, hρ _ _ h3, hca, hcb, List.range_succ]) (fun c hc => by simp at hc; rcases hc with rfl | rfl | rfl <;> assumption) (by simp; omega) w
  simp only [List.length_cons, List.length_nil] at hb
  simp only [execOp, Array.map, List.map_toArray, Sem.run_bind, hb, Result.andThen_ok, Sem.run_pure]
  simp [hb]
/-- 'append(x, y...)': y's row and elements are read by it from now on. -/
theorem wl_appends {e : Ty P α} {F F2 : List Nat} {v v2 : Value} {l m r : List α} (hu : P.underlying U = some (.slice e.tid)) (hn : Nat.blt d n = true)
    (hx : eop σ x = some v) (hy : eop σ y = some v2) (hB : Below w0.heap.size w0 w) (hS : Sep w0.heap.size w (R.semi e F v l :: R.own e F2 v2 m :: M)) (happ : app l m = some r)
    (h : ∀ v' F' w', (w.heap.size ≤ w'.heap.size ∧ (∀ b, b < w.heap.size → b ∉ F → w'.heap[b]? = w.heap[b]?) ∧ ∀ b ∈ F', b ∈ F ∨ b ∈ F2 ∨ w.heap.size ≤ b) → Below w0.heap.size w0 w' → Sep w0.heap.size w' (R.semi e F' v' r :: M) → WL P n ds rest ((d, v') :: σ) w' Q) :
    WL P n ds (⟨some d, .call ⟨.builtin .append, #[x, y], #[U, U]⟩, T, pos, af, none⟩ :: rest) σ w Q := by
  have hg0 := hS.get (i := 0) rfl
  have hg1 := hS.get (i := 1) rfl
  have hdis : ∀ b ∈ F, b ∉ F2 := hS.disj (i := 0) (j := 1) rfl rfl rfl
  have hfp0 : ∀ b ∈ F, w0.heap.size ≤ b ∧ b < w.heap.size := hg0.2.1
  have hfp1 : ∀ b ∈ F2, w0.heap.size ≤ b ∧ b < w.heap.size := hg1.2.1
  obtain ⟨css, G, hown, hl1, hrd, hblk, hG⟩ : semiS e F w v l := hS.ok (i := 0) rfl
  have ho2 : ownS e F2 w v2 m := hS.ok (i := 1) rfl
  obtain ⟨rfl, hlen⟩ := app_some happ
  obtain ⟨i, zz, hinfo, hsz, hby, hz, hzc⟩ := e.info
  have hsz0 : zz.cells.size = e.sz := by rw [hzc]; simp; exact e.rd_len (e.own_rd (e.zero_own w))
  -- what runs, what comes of it
  have key : ∃ v' w' F', (Builtin.append_ #[U, U] T #[v, v2]).run P w = .ok v' w' ∧ w.grownBy w' v.ownBlock ∧ F'.Nodup ∧ (∀ b ∈ F', b ∈ F ∨ b ∈ F2 ∨ (w.heap.size ≤ b ∧ b < w'.heap.size)) ∧ semiS e F' w' v' (l ++ m) := by
    rcases ho2 with ⟨rfl, rfl, rfl⟩ | ⟨g2, cap2, cur2, css2, Fs2, rfl, hg2, hn2, hm2, hc2, ht2, hz2, rfl⟩
    · refine ⟨v, w, F, ?_, ⟨rfl, rfl, rfl, Nat.le_refl _, fun _ _ _ => rfl⟩, hg0.1, fun b hb => .inl hb, ⟨css, G, by simpa using hown, by simpa using hl1, by simpa using hrd, hblk, hG⟩⟩
      rcases hown.2 with ⟨rfl, hn⟩ | ⟨g, c, cur, rfl, hb, hg, hn, hm, hc, ht⟩
      · simp [Builtin.append_, run_underlying hu, sizeOf, typeInfo, hinfo, Builtin.lenOf, Builtin.firstCells, loadCells, loadCellsFrom]
      · simp [Builtin.append_, run_underlying hu, sizeOf, typeInfo, hinfo, Builtin.lenOf, Builtin.firstCells, loadCells, loadCellsFrom, hn, storeCells]
    · have hl2 : css2.flatten.length = m.length * e.sz := by rw [flatten_len hz2.sz, hz2.len.2]
      have hnews : ∀ (j : Nat) u, css2.flatten[j]? = some u → w.cell? ((⟨g2, 0, none⟩ : Addr).add j) = some u := by
        intro j u hj
        rw [Addr.add_lit, Nat.zero_add, cell_of_row w g2 _ cur2 e.tid (0, 0) hg2]
        rw [← ht2, List.getElem?_take] at hj
        split at hj
        · simpa using hj
        · cases hj
      have hrd2 : ∀ (j : Nat) c x, css2[j]? = some c → m[j]? = some x → e.rd (· ∈ g2 :: Fs2.flatten) w c x := by
        intro j c x hc hx
        obtain ⟨A, B, h1, h2, h3⟩ := hz2.get j x hx
        rw [hc] at h2
        cases h2
        exact e.rd_mono (e.own_rd h3) fun b hb => List.mem_cons_of_mem _ (List.mem_flatten.2 ⟨A, List.mem_of_getElem? h1, hb⟩)
      have hones := semi_one hz2.len.2 hrd2
      have hbl : (l.length + m.length) * e.bts ≤ 140737488355328 := bytes_ok hlen e.bts_le
      obtain ⟨v', w', hr, h2, h3, hb4⟩ := run_append_mine (P := P) w 0 U T e.tid i zz e.sz e.bts hu hinfo hz hsz hby hsz0 v l.length _ hown ⟨g2, 0, none⟩ m.length cap2 css2.flatten
        hl2 hnews hones (by simp only [maxLen]; omega) hbl (Nat.zero_le _)
      have keptG : ∀ b ∈ G ++ (g2 :: Fs2.flatten), w'.heap[b]? = w.heap[b]? := fun b hb => by
        rcases List.mem_append.1 hb with hb | hb
        · exact h3.block b (hfp0 b (hG b hb)).2 fun e => (hblk b e.symm).2 hb
        · exact h3.block b (hfp1 b hb).2 fun e => hdis b (hblk b e.symm).1 hb
      have hrd12 : ∀ (j : Nat) c x, (css ++ css2)[j]? = some c → (l ++ m)[j]? = some x → e.rd (· ∈ G ++ (g2 :: Fs2.flatten)) w' c x := by
        intro j c x hc hx
        by_cases hj : j < l.length
        · rw [List.getElem?_append_left (by omega)] at hc
          rw [List.getElem?_append_left hj] at hx
          exact e.rd_keep (e.rd_mono (hrd j c x hc hx) fun b hb => List.mem_append_left _ hb) keptG
        · rw [List.getElem?_append_right (by omega)] at hc hx
          rw [hl1] at hc
          exact e.rd_keep (e.rd_mono (hrd2 _ c x hc hx) fun b hb => List.mem_append_right _ hb) keptG
      have hnd : (F ++ (g2 :: Fs2.flatten)).Nodup := by
        rw [List.nodup_append]
        exact ⟨hg0.1, hg1.1, fun a ha b hb e => by subst e; exact hdis a ha hb⟩
      have hle : ∀ b ∈ F ++ (g2 :: Fs2.flatten), b < w.heap.size := fun b hb => (List.mem_append.1 hb).elim (fun h => (hfp0 b h).2) fun h => (hfp1 b h).2
      have hown' : w'.ownsRow 0 e.tid e.sz v' (l ++ m).length (css ++ css2).flatten := by
        rw [List.length_append, List.flatten_append]
        exact h2
      have hl12 : (css ++ css2).length = (l ++ m).length := by rw [List.length_append, List.length_append, hl1, hz2.len.2]
      rcases hb4 with hb4 | hb4
      · -- in its place
        refine ⟨v', w', F ++ (g2 :: Fs2.flatten), hr, h3, hnd, fun b hb => (List.mem_append.1 hb).imp id .inl, ⟨css ++ css2, G ++ (g2 :: Fs2.flatten), hown', hl12, hrd12, fun k hk => ?_, fun b hb => (List.mem_append.1 hb).elim (fun h => List.mem_append_left _ (hG b h)) fun h => List.mem_append_right _ h⟩⟩
        have := hblk k (by rw [← hb4]; exact hk)
        exact ⟨List.mem_append_left _ this.1, fun hb => (List.mem_append.1 hb).elim this.2 fun h => hdis k this.1 h⟩
      · -- in a new row
        have hszw : w.heap.size < w'.heap.size := by
          rcases h2.2 with ⟨hv, _⟩ | ⟨g, c, cur, hv, hb, hg, _⟩
          · rw [hv] at hb4; cases hb4
          · rw [hv] at hb4
            simp [Value.ownBlock] at hb4
            subst hb4
            exact (Array.getElem?_eq_some_iff.1 hg).1
        refine ⟨v', w', w.heap.size :: (F ++ (g2 :: Fs2.flatten)), hr, h3, List.nodup_cons.2 ⟨fun hb => by have := hle _ hb; omega, hnd⟩, fun b hb => ?_, ⟨css ++ css2, G ++ (g2 :: Fs2.flatten), hown', hl12, hrd12, fun k hk => ?_, fun b hb => List.mem_cons_of_mem _ ((List.mem_append.1 hb).elim (fun h => List.mem_append_left _ (hG b h)) fun h => List.mem_append_right _ h)⟩⟩
        · rcases List.mem_cons.1 hb with rfl | hb
          · exact .inr (.inr ⟨Nat.le_refl _, hszw⟩)
          · exact (List.mem_append.1 hb).imp id .inl
        · rw [hb4] at hk
          cases hk
          refine ⟨List.mem_cons_self .., fun hb => ?_⟩
          have : w.heap.size < w.heap.size := hle _ ((List.mem_append.1 hb).elim (fun h => List.mem_append_left _ (hG _ h)) fun h => List.mem_append_right _ h)
          omega
  obtain ⟨v', w', F', hrun, hgr, hnd, hF, ho⟩ := key
  have hS2 : Sep w0.heap.size w (⟨F ++ F2, fun _ => True⟩ :: M) := hS.merge rfl fun _ _ _ => trivial
  have hS3 := hS2.upd (i := 0) (w' := w') (r' := R.semi e F' v' (l ++ m)) rfl hgr.size (fun b _ hlt hb => hgr.block b hlt fun e => hb (List.mem_append_left _ (hblk b e.symm).1)) hnd
    (fun b hb => (hF b hb).elim (fun h => .inl (List.mem_append_left _ h)) fun h => h.elim (fun h => .inl (List.mem_append_right _ h)) .inr) hB.size fun w'' hk => ho.keep hk
  exact wl_run hn (fun ρ hρ => by simp [execOp, resolve, invoke, builtin, hρ _ _ hx, hρ _ _ hy, hrun])
    (h v' F' w' ⟨hgr.size, fun b hlt hb => hgr.block b hlt fun e => hb (hblk b e.symm).1, fun b hb => (hF b hb).imp id fun h => h.imp id fun h => h.1⟩ (hB.grown hgr hB.size fun k hk => (hfp0 k (hblk k hk).1).1) hS3)
end
end Go.Proofs.Ytmkignciedkidaa
