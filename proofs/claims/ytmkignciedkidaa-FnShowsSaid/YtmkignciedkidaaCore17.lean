/-
  CORE, 17: functions for which the model stands in. Over any program.
-/
import Derived.Test.YtmkignciedkidaaCore16
import Derived.Laws.Externs
import Derived.Lib.Bytealg
set_option linter.unusedSimpArgs false
set_option linter.unusedVariables false
namespace Go.Proofs.Ytmkignciedkidaa
open Go Go.RowKit
variable {P : Program} {α : Type} {n : Nat} {ds : List (Option Tmp)} {d : Nat} {T U : TypeId} {pos : String} {af : Array Edge} {rest : List Oper} {x y z : Operand} {σ : Env} {w w0 : World} {Q : Exit → Act → World → Prop}
theorem wl_nilCheck {p : Addr} (hn : Nat.blt d n = true) (hx : eop σ x = some (.pointer (some p))) (h : WL P n ds rest ((d, .pointer (some p)) :: σ) w Q) :
    WL P n ds (⟨some d, .nilCheck x, T, pos, af, none⟩ :: rest) σ w Q :=
  wl_run hn (fun ρ hρ => by simp [execOp, hρ _ _ hx]) h
theorem pr_nilCheck {S : World → Prop} {G : Value → Prop} {p : Addr} (hn : Nat.blt d n = true) (hx : eop σ x = some (.pointer (some p))) (h : G (.pointer (some p))) : ∃ v, PR P n σ S d (.nilCheck x) T v ∧ G v :=
  ⟨_, ⟨hn, fun ρ hρ w hw dst pos af gd => by simp [execOp, hρ _ _ hx]⟩, h⟩
theorem EAt.kxr {base i : Nat} {X0 X : List Nat} {p : Addr} {cs : List Value} {L : List Res} {wS : World} (h : EAt (Out X0 w0) w0 p cs) (hS : Sep base wS L) (hg : lget L i = some (R.rest w0 X0)) (hX : ∀ b ∈ (R.rest w0 X0).fp, b ∉ X) :
    ∀ w, KeepX wS X w → EAt (· < wS.heap.size) w p cs := fun w hw => by
  have hb : Out X0 w0 p.block := h.1
  have hlt := (rest_ok hS hg).2 _ hb
  exact ⟨hlt, fun j c hc => by
    rw [cell_keep (w := w0) (w' := w) (a := p.add j) (by rw [add_block, hw.blk _ hlt (hX _ (rest_fp.2 hb)), (rest_ok hS hg).1 _ hb])]
    exact h.2 j c hc⟩
/-! an element of one's own slice, read in the owner's memory -/
theorem wl_indexoF {e : Ty P α} {F : List Nat} {v : Value} {l : List α} {k : IntKind} {ix : Int} {u : α} {i : Nat} {L : List Res} (hu : P.underlying U = some (.slice e.tid)) (hn : Nat.blt d n = true)
    (hx : eop σ x = some v) (hy : eop σ y = some (.int k ix)) (hS : Sep w0.heap.size w L) (hg : lget L i = some (R.own e F v l)) (hi : idx l ix = some u)
    (h : ∀ p cs, e.rd (· ∈ F) w cs u → EAt (· ∈ F) w p cs → OPtr e.sz v p ix.toNat 0 → WL P n ds rest ((d, .pointer (some p)) :: σ) w Q) : WL P n ds (⟨some d, .indexAddr U x y, T, pos, af, none⟩ :: rest) σ w Q := by
  have ho : ownS e F w v l := hS.ok hg
  have hr := ho.rd
  obtain ⟨h0, hl, hlt⟩ := idx_some hi
  rcases ho with ⟨_, rfl, _⟩ | ⟨g, cap, cur, css, Fs, hv, hgg, hnn, hm, hc, ht, hz, hF⟩
  · simp at hlt
  · subst hv
    obtain ⟨a, cap', he, hcap, hel⟩ := hr
    injection he with ha hl' hc'
    rcases hel with rfl | ⟨ad, rfl, hel⟩
    · simp at hlt
    · injection ha with ha
      subst ha
      obtain ⟨ii, zz, hinfo, hsz, _⟩ := e.info
      obtain ⟨hb, cs, hcs, hcc⟩ := hel _ _ hl
      have hc2 : 0 ≤ ix ∧ ix < (l.length : Int) := ⟨h0, by omega⟩
      refine wl_run hn (fun ρ hρ => ?_) (h _ cs hcs ⟨hb, hcc⟩ ⟨g, _, _, rfl, by rw [Addr.add_lit, Nat.zero_add, Nat.add_zero]⟩)
      simp [execOp, hρ _ _ hx, hρ _ _ hy, Instr.indexAt, asIntOf, run_underlying hu, sizeOf, typeInfo, hinfo, hsz, hc2]
theorem pr_indexoF {S : World → Prop} {G : Value → Prop} {e : Ty P α} {F : List Nat} {v : Value} {l : List α} {k : IntKind} {ix : Int} {u : α} {i : Nat} {L : List Res} {w : World} (hu : P.underlying U = some (.slice e.tid)) (hn : Nat.blt d n = true)
    (hx : eop σ x = some v) (hy : eop σ y = some (.int k ix)) (hS : Sep w0.heap.size w L) (hg : lget L i = some (R.own e F v l)) (hi : idx l ix = some u)
    (h : ∀ p cs, e.rd (· ∈ F) w cs u → EAt (· ∈ F) w p cs → OPtr e.sz v p ix.toNat 0 → G (.pointer (some p))) : ∃ v, PR P n σ S d (.indexAddr U x y) T v ∧ G v := by
  have ho : ownS e F w v l := hS.ok hg
  have hr := ho.rd
  obtain ⟨h0, hl, hlt⟩ := idx_some hi
  rcases ho with ⟨_, rfl, _⟩ | ⟨g, cap, cur, css, Fs, hv, hgg, hnn, hm, hc, ht, hz, hF⟩
  · simp at hlt
  · subst hv
    obtain ⟨a, cap', he, hcap, hel⟩ := hr
    injection he with ha hl' hc'
    rcases hel with rfl | ⟨ad, rfl, hel⟩
    · simp at hlt
    · injection ha with ha
      subst ha
      obtain ⟨ii, zz, hinfo, hsz, _⟩ := e.info
      obtain ⟨hb, cs, hcs, hcc⟩ := hel _ _ hl
      have hc2 : 0 ≤ ix ∧ ix < (l.length : Int) := ⟨h0, by omega⟩
      refine ⟨_, ⟨hn, fun ρ hρ w _ dst pos af gd => ?_⟩, h _ cs hcs ⟨hb, hcc⟩ ⟨g, _, _, rfl, by rw [Addr.add_lit, Nat.zero_add, Nat.add_zero]⟩⟩
      simp [execOp, hρ _ _ hx, hρ _ _ hy, Instr.indexAt, asIntOf, run_underlying hu, sizeOf, typeInfo, hinfo, hsz, hc2]
/-! an element of a slice that is an element of one's own: its place -/
theorem nf_nil {b : Nat} : b ∉ fps [] := by simp [fps]
theorem nf_cons {b : Nat} {r : Res} {M : List Res} (h : b ∉ r.fp) (h2 : b ∉ fps M) : b ∉ fps (r :: M) := by
  intro hb
  rw [mem_fps] at hb h2
  obtain ⟨s, hs, hx⟩ := hb
  rcases List.mem_cons.1 hs with rfl | hs
  · exact h hx
  · exact h2 ⟨s, hs, hx⟩
/-! a box that is lent comes back -/
theorem box_kept {b : Nat} {V V' : TypeId} {cs cs' : List Value} {N : List Res} {w w' : World} (hS' : Sep 0 w' (R.rest w (fps [R.blk b V cs]) :: R.blk b V' cs' :: N)) :
    w.heap.size ≤ w'.heap.size ∧ (∀ c, c < w.heap.size → c ∉ [b] → w'.heap[c]? = w.heap[c]?) ∧ ∀ c ∈ [b], c ∈ [b] ∨ w.heap.size ≤ c := by
  have hfp : ∀ c, c ∈ fps [R.blk b V cs] ↔ c = b := fun c => by simp [fps, R.blk]
  refine ⟨?_, fun c hc hb => mut_kept hS' c hc (fun hx => hb (by rw [(hfp c).1 hx]; simp)), fun c hc => .inl hc⟩
  by_cases h0 : w.heap.size = 0
  · omega
  · by_cases hb : w.heap.size - 1 = b
    · have := ((hS'.1 (R.blk b V' cs') (by simp)).2.1 b (by simp [R.blk])).2
      omega
    · have := ((hS'.1 _ (List.mem_cons_self ..)).2.1 (w.heap.size - 1) (rest_fp.2 ⟨by omega, fun hx => hb ((hfp _).1 hx)⟩)).2
      omega
section
variable {L M : List Res} {sz : Nat} {agg : Bool} {zv : Value}
/-- 'a[i] = x', x a datum that owns memory: it is moved in. -/
theorem wl_storenk {e : Ty P α} {F F2 : List Nat} {v vx : Value} {l : List α} {u u' : α} {ix : Int} {p : Addr} {vs : List Value} (tf : TF P U sz agg zv)
    (hx : eop σ x = some (.pointer (some p))) (hy : eop σ y = some vx) (hv : vx.cells = vs.toArray) (hsz : vs.length = sz) (hp : OPtr e.sz v p ix.toNat 0) (hi : idx l ix = some u)
    (hB : Below w0.heap.size w0 w) (hS : Sep w0.heap.size w (R.own e F v l :: R.cel e F2 vs u' :: M)) (hle : Nat.beq sz e.sz = true) (h1 : Ones vs)
    (h : ∀ w' F', (w.heap.size ≤ w'.heap.size ∧ (∀ b, b < w.heap.size → b ∉ F → w'.heap[b]? = w.heap[b]?) ∧ ∀ b ∈ F', b ∈ F ∨ b ∈ F2 ∨ w.heap.size ≤ b) → Below w0.heap.size w0 w' → Sep w0.heap.size w' (R.own e F' v (seti l ix u') :: M) → WL P n ds rest σ w' Q) :
    WL P n ds (⟨none, .store U x y, T, pos, af, none⟩ :: rest) σ w Q := by
  have ho : ownS e F w v l := hS.ok (i := 0) rfl
  have hg0 := hS.get (i := 0) rfl
  have hg1 := hS.get (i := 1) rfl
  have hdis : ∀ b ∈ F, b ∉ F2 := hS.disj (i := 0) (j := 1) rfl rfl rfl
  obtain ⟨h0, hl, hlt⟩ := idx_some hi
  have hsz' : sz = e.sz := Nat.eq_of_beq_eq_true hle
  rcases ho with ⟨_, rfl, _⟩ | ⟨g, cap, cur, css, Fs, hvv, hgg, hnn, hm, hc, ht, hz, hF⟩
  · simp at hlt
  · obtain ⟨g', c', m', hv', rfl⟩ := hp
    rw [hvv] at hv'
    injection hv' with ha _ _
    injection ha with ha
    injection ha with ha _ _
    subst ha
    have hin : (ix.toNat + 1) * e.sz ≤ cur.size := by rw [hc]; exact Nat.mul_le_mul_right _ (by omega)
    rw [Nat.succ_mul] at hin
    have hgF : g ∈ F := by rw [hF]; simp
    have hgbase := (hg0.2.1 g hgF).1
    have hst := run_storeVar_cells (P := P) w g (ix.toNat * e.sz + 0) e.tid U cur.toList vs vx hv (fun w => by rw [hsz]; exact tf.hsize w) (by simpa using hgg) (by simp; omega) h1
    have hkeep : ∀ b, b ≠ g → (w.setRow g (splice cur.toList (ix.toNat * e.sz + 0) vs).toArray).heap[b]? = w.heap[b]? := fun b hb => setRow_other w g b _ hb
    have hcl := hz.sz
    obtain ⟨Fk, ck, hFk, hck, hok⟩ := hz.get _ _ hl
    have hFnd : Fs.flatten.Nodup ∧ g ∉ Fs.flatten := by
      have := hg0.1
      simp only [R.own] at this
      rw [hF, List.nodup_cons] at this
      exact ⟨this.2, this.1⟩
    have hgF2 : g ∉ F2 := hdis g hgF
    refine wl_u (w' := w.setRow g (splice cur.toList (ix.toNat * e.sz + 0) vs).toArray) (fun ρ hρ => ?_)
      (h _ (g :: (Fs.set ix.toNat F2).flatten) ⟨by simp, fun b _ hb => hkeep b fun e => hb (by rw [e]; exact hgF), fun b hb => by
        rcases List.mem_cons.1 hb with rfl | hb
        · exact .inl hgF
        · rcases mem_flatten_set hb with hb | hb
          · exact .inl (by rw [hF]; exact List.mem_cons_of_mem _ hb)
          · exact .inr (.inl hb)⟩ (hB.trans (setRow_below w g _ hgbase)) ?_)
    · simp only [Nat.add_zero] at hst ⊢
      simp [execOp, hρ _ _ hx, hρ _ _ hy, Instr.storeAt, Instr.sureAddr, hst]
    · -- the element's resource becomes a part of the slice's
      have hS2 : Sep w0.heap.size w (⟨F ++ F2, fun _ => True⟩ :: M) := hS.merge rfl fun _ _ _ => trivial
      have hS3 := hS2.upd (i := 0) (w' := w.setRow g (splice cur.toList (ix.toNat * e.sz + 0) vs).toArray) (r' := R.own e (g :: (Fs.set ix.toNat F2).flatten) v (seti l ix u')) rfl (by simp)
        (fun b _ _ hb => hkeep b fun e => hb (by rw [e]; exact List.mem_append_left _ hgF)) ?_ ?_ hB.size ?_
      · exact hS3
      · simp only [R.own, List.nodup_cons]
        refine ⟨fun hb => ?_, flatten_set_nodup hFnd.1 hg1.1 fun b hb hb' => hdis b (by rw [hF]; simp only [List.mem_cons]; exact .inr hb') hb⟩
        rcases mem_flatten_set hb with hb | hb
        · exact hFnd.2 hb
        · exact hgF2 hb
      · intro b hb
        left
        simp only [R.own, List.mem_cons] at hb
        rcases hb with rfl | hb
        · exact List.mem_append_left _ hgF
        · rcases mem_flatten_set hb with hb | hb
          · exact List.mem_append_left _ (by rw [hF]; simp only [List.mem_cons]; exact .inr hb)
          · exact List.mem_append_right _ hb
      · intro w'' hk
        have hh := hk g (by simp [R.own])
        refine .inr ⟨g, cap, _, css.set ix.toNat vs, Fs.set ix.toNat F2, by simpa [seti] using hvv, by rw [hh, setRow_heap w g cur _ e.tid _ hgg], by simpa [seti] using hnn, hm, ?_, ?_, ?_, rfl⟩
        · rw [List.size_toArray, splice_len (by simp; omega)]
          simpa using hc
        · have hfl := flatten_splice (sz := e.sz) (css := css) hcl ix.toNat 0 vs ck hck (by omega)
          have hsp : splice ck 0 vs = vs := by
            unfold splice
            have : ck.length = vs.length := by rw [hcl ck (List.mem_of_getElem? hck)]; omega
            simp [← this]
          rw [hsp] at hfl
          simp only [seti]
          rw [← hfl, ← ht, List.toList_toArray, List.length_set]
          have hb2 : ix.toNat * e.sz + 0 + vs.length ≤ l.length * e.sz := by
            have : (ix.toNat + 1) * e.sz ≤ l.length * e.sz := Nat.mul_le_mul_right _ hlt
            rw [Nat.succ_mul] at this
            omega
          unfold splice
          rw [List.take_append, List.take_append, List.length_take, List.take_take, List.drop_take]
          have hcs : l.length * e.sz ≤ cur.toList.length := by simp [hc]; exact Nat.mul_le_mul_right _ hnn
          rw [Nat.min_eq_left (by omega : ix.toNat * e.sz + 0 ≤ cur.toList.length), List.take_take, List.take_of_length_le (l := vs) (by omega)]
          rw [Nat.min_eq_right (by omega), Nat.min_eq_left (by omega)]
          congr 2
          congr 1
          omega
        · have hbl : ∀ b ∈ Fs.flatten, w''.heap[b]? = w.heap[b]? ∨ b ∈ Fk := fun b hb => by
            obtain ⟨G, hG, hbG⟩ := List.mem_flatten.1 hb
            obtain ⟨j, hj⟩ := List.getElem?_of_mem hG
            by_cases e : j = ix.toNat
            · rw [e, hFk] at hj
              cases hj
              exact .inr hbG
            · left
              have hmem : b ∈ (Fs.set ix.toNat F2).flatten := List.mem_flatten.2 ⟨G, List.mem_of_getElem? (i := j) (by rw [List.getElem?_set_ne (Ne.symm e)]; exact hj), hbG⟩
              rw [hk b (by simp only [R.own, List.mem_cons]; exact .inr hmem)]
              exact hkeep b fun e => hFnd.2 (by rw [← e]; exact hb)
          refine Z3.of (by simp [hz.len.1, seti]) (by simp [hz.len.2, seti]) fun j A B C hA hB hC => ?_
          by_cases e : j = ix.toNat
          · subst e
            rw [List.getElem?_set_self (by rw [hz.len.1]; exact hlt)] at hA
            rw [List.getElem?_set_self (by rw [hz.len.2]; exact hlt)] at hB
            simp only [seti] at hC
            rw [List.getElem?_set_self hlt] at hC
            cases hA; cases hB; cases hC
            refine hg1.2.2 w'' fun b hb => ?_
            simp only [R.cel] at hb
            have hltF : ix.toNat < Fs.length := by rw [hz.len.1]; exact hlt
            rw [hk b (by simp only [R.own, List.mem_cons]; exact .inr (List.mem_flatten.2 ⟨F2, List.mem_of_getElem? (i := ix.toNat) (List.getElem?_set_self hltF), hb⟩))]
            exact hkeep b fun e => hgF2 (by rw [← e]; exact hb)
          · rw [List.getElem?_set_ne (Ne.symm e)] at hA hB
            simp only [seti] at hC
            rw [List.getElem?_set_ne (Ne.symm e)] at hC
            obtain ⟨A', B', h1', h2', h3'⟩ := hz.get j C hC
            rw [hA] at h1'; rw [hB] at h2'
            cases h1'; cases h2'
            refine Sh.own_keep _ h3' fun b hb => ?_
            have hmem : b ∈ (Fs.set ix.toNat F2).flatten := List.mem_flatten.2 ⟨A, List.mem_of_getElem? (i := j) (by rw [List.getElem?_set_ne (Ne.symm e)]; exact hA), hb⟩
            rw [hk b (by simp only [R.own, List.mem_cons]; exact .inr hmem)]
            exact hkeep b fun e => hFnd.2 (by rw [← e]; exact List.mem_flatten.2 ⟨A, List.mem_of_getElem? hA, hb⟩)
end
/-! shorter words for what walks say most -/
section
variable {S : World → Prop} {op : Op} {ops : List Oper} {fuel : Nat} {li : List Bool} {o : Oper}
theorem WH.tk (i : Nat) (hi : ops[i]? = some ⟨some d, op, T, pos, af, none⟩) (hQ : PanicOk Q) (hw : S w) (h : ∃ v, PR P n σ S d op T v ∧ WH P n ops S fuel (li.set i true) ((d, v) :: σ) w Q)
    (hs : Region.noSelect ops.toArray = true := by kernel_rfl) (hf : Region.free .any ops.toArray li.toArray i = true := by kernel_rfl) (hr : (Region.ready .any ops.toArray li.toArray).contains i = true := by kernel_rfl) : WH P n ops S (fuel + 1) li σ w Q :=
  WH.takex hi hs hf hr hQ hw h
theorem WH.on1 (i : Nat) (hi : ops[i]? = some o) (h : WL P n (ops.map (·.dst)) [o] σ w (Exit.then (fun a w => S w ∧ wpAnyH P .any ops.toArray Q S fuel (li.set i true).toArray a w) Q))
    (hr : Region.ready .any ops.toArray li.toArray = [i] := by kernel_rfl) : WH P n ops S (fuel + 1) li σ w Q := WH.one hr hi h
end
/-! an element of an owned slice is lent and another comes in its place -/
section
variable {L M : List Res} {sz : Nat} {agg : Bool} {zv : Value} {base : Nat}
theorem flat_dis {Fs : List (List Nat)} (h : Fs.flatten.Nodup) {i k : Nat} {a c : List Nat} (ha : Fs[i]? = some a) (hc : Fs[k]? = some c) (hik : i ≠ k) {b : Nat} (hb : b ∈ a) : b ∉ c := by
  intro hbk
  have hpw := (List.pairwise_flatten.1 h).2
  rcases Nat.lt_or_gt_of_ne hik with hlt' | hgt'
  · exact List.pairwise_iff_getElem.1 hpw i k (List.getElem?_eq_some_iff.1 ha).1 (List.getElem?_eq_some_iff.1 hc).1 hlt' b (by rw [(List.getElem?_eq_some_iff.1 ha).2]; exact hb) b (by rw [(List.getElem?_eq_some_iff.1 hc).2]; exact hbk) rfl
  · exact List.pairwise_iff_getElem.1 hpw k i (List.getElem?_eq_some_iff.1 hc).1 (List.getElem?_eq_some_iff.1 ha).1 hgt' b (by rw [(List.getElem?_eq_some_iff.1 hc).2]; exact hbk) b (by rw [(List.getElem?_eq_some_iff.1 ha).2]; exact hb) rfl
/-- What of an owned slice stays when the memory of one element is lent: its own row, and the other elements. -/
def R.hol (e : Ty P α) (F Fk : List Nat) (v : Value) (l : List α) (k : Nat) : Res :=
  ⟨F.filter (fun b => !Fk.contains b), fun w => ∃ (g cap : Nat) (cur : Array Value) (css : List (List Value)) (Fs : List (List Nat)), v = .slice (some ⟨g, 0, none⟩) l.length cap ∧ w.heap[g]? = some (.cells cur e.tid (0, 0)) ∧ l.length ≤ cap ∧ cap ≤ maxLen ∧ cur.size = cap * e.sz ∧
    cur.toList.take (l.length * e.sz) = css.flatten ∧ (∀ c ∈ css, c.length = e.sz) ∧ Fs.length = l.length ∧ css.length = l.length ∧ Fs[k]? = some Fk ∧ F = g :: Fs.flatten ∧
    ∀ j A B x, j ≠ k → Fs[j]? = some A → css[j]? = some B → l[j]? = some x → e.own A w B x⟩
theorem hol_fp {e : Ty P α} {F Fk : List Nat} {v : Value} {l : List α} {k : Nat} {b : Nat} : b ∈ (R.hol e F Fk v l k).fp ↔ b ∈ F ∧ b ∉ Fk := by simp [R.hol]
theorem Sep.lend {e : Ty P α} {F : List Nat} {v : Value} {l : List α} {u : α} {ix : Int} (h : Sep base w (R.own e F v l :: M)) (hi : idx l ix = some u) {p : Addr} (hp : OPtr e.sz v p ix.toNat 0) {cs : List Value} (hc : EAt (· < w.heap.size) w p cs) (hcl : cs.length = e.sz) :
    ∃ Fk, Sep base w (R.cel e Fk cs u :: R.hol e F Fk v l ix.toNat :: M) ∧ (∀ b ∈ Fk, b ∈ F) ∧ F.Nodup := by
  have ho : ownS e F w v l := h.ok (i := 0) rfl
  have hg0 := h.get (i := 0) rfl
  have hnd : F.Nodup := hg0.1
  obtain ⟨Fk, h1, h2, h3⟩ := h.borrow hi hp hc hcl
  obtain ⟨h0, hl, hlt⟩ := idx_some hi
  rcases ho with ⟨_, rfl, _⟩ | ⟨g, cap, cur, css, Fs, hv, hgg, hnn, hm, hcu, ht, hz, hF⟩
  · simp at hlt
  · obtain ⟨Fk, ck, hFk, hck, hok⟩ := hz.get ix.toNat u hl
    obtain ⟨g', c', m', hv', rfl⟩ := hp
    rw [hv] at hv'
    injection hv' with ha _ _
    injection ha with ha
    injection ha with ha _ _
    subst ha
    have hFnd : Fs.flatten.Nodup ∧ g ∉ Fs.flatten := by
      have := hnd
      rw [hF, List.nodup_cons] at this
      exact ⟨this.2, this.1⟩
    have hsub : ∀ b ∈ Fk, b ∈ Fs.flatten := fun b hb => List.mem_flatten.2 ⟨Fk, List.mem_of_getElem? hFk, hb⟩
    have hck' : ck = cs := by
      have hl1 := e.rd_len (e.own_rd hok)
      apply List.ext_getElem?
      intro j
      by_cases hj : j < e.sz
      · have e1 : ck[j]? = some ck[j] := List.getElem?_eq_getElem (by omega)
        have e2 : cs[j]? = some cs[j] := List.getElem?_eq_getElem (by omega)
        have a1 := hc.2 j _ e2
        have a2 := flatten_get hz.sz ix.toNat j ck hck ck[j] e1
        rw [Addr.add_lit, Nat.add_zero, cell_of_row w g _ cur e.tid (0, 0) hgg] at a1
        rw [← ht, List.getElem?_take] at a2
        split at a2
        · rw [e1, e2]
          have a3 : cur[ix.toNat * e.sz + j]? = some ck[j] := by simpa using a2
          rw [a3] at a1
          exact a1
        · cases a2
      · rw [List.getElem?_eq_none (by omega), List.getElem?_eq_none (by omega)]
    subst hck'
    refine ⟨Fk, ⟨fun s hs => ?_, ?_⟩, fun b hb => by rw [hF]; exact List.mem_cons_of_mem _ (hsub b hb), hnd⟩
    · rcases List.mem_cons.1 hs with rfl | hs
      · refine ⟨?_, fun b hb => hg0.2.1 b (by show b ∈ F; rw [hF]; exact List.mem_cons_of_mem _ (hsub b hb)), fun w' hk => e.own_keep hok hk⟩
        exact (List.pairwise_flatten.1 hFnd.1).1 Fk (List.mem_of_getElem? hFk)
      · rcases List.mem_cons.1 hs with rfl | hs
        · refine ⟨List.Nodup.sublist List.filter_sublist hnd, fun b hb => hg0.2.1 b (hol_fp.1 hb).1, fun w1 hk => ?_⟩
          have hgk : g ∉ Fk := fun hb => hFnd.2 (hsub g hb)
          obtain ⟨n1, n2⟩ := hz.len
          refine ⟨g, cap, cur, css, Fs, hv, by rw [hk g (hol_fp.2 ⟨by rw [hF]; simp, hgk⟩)]; exact hgg, hnn, hm, hcu, ht, hz.sz, n1, n2, hFk, hF, fun j A B x hj hA hB hx => ?_⟩
          obtain ⟨a', c'', g1, g2, g3⟩ := hz.get j x hx
          rw [hA] at g1
          rw [hB] at g2
          cases g1
          cases g2
          exact e.own_keep g3 fun b hb => hk b (hol_fp.2 ⟨by rw [hF]; exact List.mem_cons_of_mem _ (List.mem_flatten.2 ⟨A, List.mem_of_getElem? hA, hb⟩), flat_dis hFnd.1 hA hFk hj hb⟩)
        · exact h.1 s (by simp [hs])
    · have hp := h.2
      cases hp with
      | cons hp1 hp2 =>
        refine .cons (fun s hs b hb hb' => ?_) (.cons (fun s hs b hb => hp1 s hs b (hol_fp.1 hb).1) hp2)
        rcases List.mem_cons.1 hs with rfl | hs
        · exact (hol_fp.1 hb').2 hb
        · exact hp1 s hs b (by show b ∈ F; rw [hF]; exact List.mem_cons_of_mem _ (hsub b hb)) hb'
/-- 'a[i] = x' where a's element i was lent: x's memory is a's. -/
theorem wl_storeh {e : Ty P α} {F Fk F2 : List Nat} {v vx : Value} {l : List α} {u u' : α} {ix : Int} {p : Addr} {vs : List Value} (tf : TF P U sz agg zv)
    (hx : eop σ x = some (.pointer (some p))) (hy : eop σ y = some vx) (hv : vx.cells = vs.toArray) (hsz : vs.length = sz) (hp : OPtr e.sz v p ix.toNat 0) (hi : idx l ix = some u)
    (hB : Below w0.heap.size w0 w) (hS : Sep w0.heap.size w (R.hol e F Fk v l ix.toNat :: R.cel e F2 vs u' :: M)) (hle : Nat.beq sz e.sz = true) (h1 : Ones vs) (hnd : F.Nodup)
    (h : ∀ w' F', (w.heap.size ≤ w'.heap.size ∧ (∀ b, b < w.heap.size → b ∉ F → w'.heap[b]? = w.heap[b]?) ∧ ∀ b ∈ F', b ∈ F ∨ b ∈ F2 ∨ w.heap.size ≤ b) → Below w0.heap.size w0 w' → Sep w0.heap.size w' (R.own e F' v (seti l ix u') :: M) → WL P n ds rest σ w' Q) :
    WL P n ds (⟨none, .store U x y, T, pos, af, none⟩ :: rest) σ w Q := by
  obtain ⟨g, cap, cur, css, Fs, hvv, hgg, hnn, hm, hc, ht, hcl, n1, n2, hFk, hF, hoth⟩ : (R.hol e F Fk v l ix.toNat).ok w := hS.ok (i := 0) rfl
  have hg0 := hS.get (i := 0) rfl
  have hg1 := hS.get (i := 1) rfl
  have hdis : ∀ b ∈ (R.hol e F Fk v l ix.toNat).fp, b ∉ F2 := hS.disj (i := 0) (j := 1) rfl rfl rfl
  obtain ⟨h0, hl, hlt⟩ := idx_some hi
  have hsz' : sz = e.sz := Nat.eq_of_beq_eq_true hle
  obtain ⟨g', c', m', hv', rfl⟩ := hp
  rw [hvv] at hv'
  injection hv' with ha _ _
  injection ha with ha
  injection ha with ha _ _
  subst ha
  have hin : (ix.toNat + 1) * e.sz ≤ cur.size := by rw [hc]; exact Nat.mul_le_mul_right _ (by omega)
  rw [Nat.succ_mul] at hin
  have hFnd : Fs.flatten.Nodup ∧ g ∉ Fs.flatten := by
    have := hnd
    rw [hF, List.nodup_cons] at this
    exact ⟨this.2, this.1⟩
  have hgk : g ∉ Fk := fun hb => hFnd.2 (List.mem_flatten.2 ⟨Fk, List.mem_of_getElem? hFk, hb⟩)
  have hgF : g ∈ F := by rw [hF]; simp
  have hgh : g ∈ (R.hol e F Fk v l ix.toNat).fp := hol_fp.2 ⟨hgF, hgk⟩
  have hgbase := (hg0.2.1 g hgh).1
  have hgF2 : g ∉ F2 := hdis g hgh
  have hst := run_storeVar_cells (P := P) w g (ix.toNat * e.sz + 0) e.tid U cur.toList vs vx hv (fun w => by rw [hsz]; exact tf.hsize w) (by simpa using hgg) (by simp; omega) h1
  have hkeep : ∀ b, b ≠ g → (w.setRow g (splice cur.toList (ix.toNat * e.sz + 0) vs).toArray).heap[b]? = w.heap[b]? := fun b hb => setRow_other w g b _ hb
  obtain ⟨ck, hck⟩ : ∃ ck, css[ix.toNat]? = some ck := ⟨_, List.getElem?_eq_getElem (by omega)⟩
  -- the memory of the other elements
  have hrest : ∀ b ∈ (Fs.set ix.toNat []).flatten, b ∈ (R.hol e F Fk v l ix.toNat).fp := fun b hb => by
    obtain ⟨G, hG, hbG⟩ := List.mem_flatten.1 hb
    obtain ⟨j, hj⟩ := List.getElem?_of_mem hG
    by_cases e1 : j = ix.toNat
    · rw [e1, List.getElem?_set_self (by omega)] at hj
      cases hj
      cases hbG
    · rw [List.getElem?_set_ne (Ne.symm e1)] at hj
      exact hol_fp.2 ⟨by rw [hF]; exact List.mem_cons_of_mem _ (List.mem_flatten.2 ⟨G, List.mem_of_getElem? hj, hbG⟩), flat_dis hFnd.1 hj hFk e1 hbG⟩
  have hset : Fs.set ix.toNat F2 = (Fs.set ix.toNat []).set ix.toNat F2 := by rw [List.set_set]
  have hFs0 : (Fs.set ix.toNat []).flatten.Nodup := flatten_set_nodup hFnd.1 List.nodup_nil fun b hb => by cases hb
  refine wl_u (w' := w.setRow g (splice cur.toList (ix.toNat * e.sz + 0) vs).toArray) (fun ρ hρ => ?_)
    (h _ (g :: (Fs.set ix.toNat F2).flatten) ⟨by simp, fun b _ hb => hkeep b fun e => hb (by rw [e]; exact hgF), fun b hb => by
      rcases List.mem_cons.1 hb with rfl | hb
      · exact .inl hgF
      · rcases mem_flatten_set hb with hb | hb
        · exact .inl (by rw [hF]; exact List.mem_cons_of_mem _ hb)
        · exact .inr (.inl hb)⟩ (hB.trans (setRow_below w g _ hgbase)) ?_)
  · simp only [Nat.add_zero] at hst ⊢
    simp [execOp, hρ _ _ hx, hρ _ _ hy, Instr.storeAt, Instr.sureAddr, hst]
  · have hS2 : Sep w0.heap.size w (⟨(R.hol e F Fk v l ix.toNat).fp ++ F2, fun _ => True⟩ :: M) := hS.merge rfl fun _ _ _ => trivial
    have hS3 := hS2.upd (i := 0) (w' := w.setRow g (splice cur.toList (ix.toNat * e.sz + 0) vs).toArray) (r' := R.own e (g :: (Fs.set ix.toNat F2).flatten) v (seti l ix u')) rfl (by simp)
      (fun b _ _ hb => hkeep b fun e => hb (by rw [e]; exact List.mem_append_left _ hgh)) ?_ ?_ hB.size ?_
    · exact hS3
    · simp only [R.own, List.nodup_cons]
      refine ⟨fun hb => ?_, ?_⟩
      · rcases mem_flatten_set hb with hb | hb
        · exact hFnd.2 hb
        · exact hgF2 hb
      · rw [hset]
        exact flatten_set_nodup hFs0 hg1.1 fun b hb hb' => hdis b (hrest b hb') hb
    · intro b hb
      left
      simp only [R.own, List.mem_cons] at hb
      rcases hb with rfl | hb
      · exact List.mem_append_left _ hgh
      · rw [hset] at hb
        rcases mem_flatten_set hb with hb | hb
        · exact List.mem_append_left _ (hrest b hb)
        · exact List.mem_append_right _ hb
    · intro w'' hk
      have hh := hk g (by simp [R.own])
      refine .inr ⟨g, cap, _, css.set ix.toNat vs, Fs.set ix.toNat F2, by simpa [seti] using hvv, by rw [hh, setRow_heap w g cur _ e.tid _ hgg], by simpa [seti] using hnn, hm, ?_, ?_, ?_, rfl⟩
      · rw [List.size_toArray, splice_len (by simp; omega)]
        simpa using hc
      · have hfl := flatten_splice (sz := e.sz) (css := css) hcl ix.toNat 0 vs ck hck (by omega)
        have hsp : splice ck 0 vs = vs := by
          unfold splice
          have : ck.length = vs.length := by rw [hcl ck (List.mem_of_getElem? hck)]; omega
          simp [← this]
        rw [hsp] at hfl
        simp only [seti]
        rw [← hfl, ← ht, List.toList_toArray, List.length_set]
        have hb2 : ix.toNat * e.sz + 0 + vs.length ≤ l.length * e.sz := by
          have : (ix.toNat + 1) * e.sz ≤ l.length * e.sz := Nat.mul_le_mul_right _ hlt
          rw [Nat.succ_mul] at this
          omega
        unfold splice
        rw [List.take_append, List.take_append, List.length_take, List.take_take, List.drop_take]
        have hcs : l.length * e.sz ≤ cur.toList.length := by simp [hc]; exact Nat.mul_le_mul_right _ hnn
        rw [Nat.min_eq_left (by omega : ix.toNat * e.sz + 0 ≤ cur.toList.length), List.take_take, List.take_of_length_le (l := vs) (by omega)]
        rw [Nat.min_eq_right (by omega), Nat.min_eq_left (by omega)]
        congr 2
        congr 1
        omega
      · refine Z3.of (by simp [n1, seti]) (by simp [n2, seti]) fun j A B C hA hB hC => ?_
        by_cases e : j = ix.toNat
        · subst e
          rw [List.getElem?_set_self (by omega)] at hA
          rw [List.getElem?_set_self (by omega)] at hB
          simp only [seti] at hC
          rw [List.getElem?_set_self hlt] at hC
          cases hA; cases hB; cases hC
          refine hg1.2.2 w'' fun b hb => ?_
          simp only [R.cel] at hb
          have hltF : ix.toNat < Fs.length := by omega
          rw [hk b (by simp only [R.own, List.mem_cons]; exact .inr (List.mem_flatten.2 ⟨F2, List.mem_of_getElem? (i := ix.toNat) (List.getElem?_set_self hltF), hb⟩))]
          exact hkeep b fun e => hgF2 (by rw [← e]; exact hb)
        · rw [List.getElem?_set_ne (Ne.symm e)] at hA hB
          simp only [seti] at hC
          rw [List.getElem?_set_ne (Ne.symm e)] at hC
          refine Sh.own_keep _ (hoth j A B C e hA hB hC) fun b hb => ?_
          have hmem : b ∈ (Fs.set ix.toNat F2).flatten := List.mem_flatten.2 ⟨A, List.mem_of_getElem? (i := j) (by rw [List.getElem?_set_ne (Ne.symm e)]; exact hA), hb⟩
          rw [hk b (by simp only [R.own, List.mem_cons]; exact .inr hmem)]
          exact hkeep b fun e => hFnd.2 (by rw [← e]; exact List.mem_flatten.2 ⟨A, List.mem_of_getElem? hA, hb⟩)
theorem wl_indexh {e : Ty P α} {F Fk : List Nat} {v : Value} {l : List α} {k0 : Nat} {k : IntKind} {ix : Int} {u : α} {i : Nat} (hu : P.underlying U = some (.slice e.tid)) (hn : Nat.blt d n = true)
    (hx : eop σ x = some v) (hy : eop σ y = some (.int k ix)) (hS : Sep w0.heap.size w L) (hg : lget L i = some (R.hol e F Fk v l k0)) (hi : idx l ix = some u)
    (h : ∀ p, OPtr e.sz v p ix.toNat 0 → WL P n ds rest ((d, .pointer (some p)) :: σ) w Q) : WL P n ds (⟨some d, .indexAddr U x y, T, pos, af, none⟩ :: rest) σ w Q := by
  obtain ⟨g, cap, cur, css, Fs, hv, _⟩ : (R.hol e F Fk v l k0).ok w := hS.ok hg
  obtain ⟨h0, hl, hlt⟩ := idx_some hi
  subst hv
  obtain ⟨ii, zz, hinfo, hsz, _⟩ := e.info
  have hc2 : 0 ≤ ix ∧ ix < (l.length : Int) := ⟨h0, by omega⟩
  refine wl_run hn (fun ρ hρ => ?_) (h ⟨g, ix.toNat * e.sz, none⟩ ⟨g, _, _, rfl, by rw [Nat.add_zero]⟩)
  simp [execOp, hρ _ _ hx, hρ _ _ hy, Instr.indexAt, asIntOf, run_underlying hu, sizeOf, typeInfo, hinfo, hsz, hc2, Addr.add_lit]
end
/-! slices whose elements share memory that nobody writes -/
section
variable {L M : List Res} {base : Nat}
/-- The row is owned; what the elements reach is read in G, that nobody writes any more. -/
def semiS (e : Ty P α) (F : List Nat) (w : World) (v : Value) (l : List α) : Prop :=
  ∃ (css : List (List Value)) (G : List Nat), w.ownsRow 0 e.tid e.sz v l.length css.flatten ∧ css.length = l.length ∧ (∀ (j : Nat) c x, css[j]? = some c → l[j]? = some x → e.rd (· ∈ G) w c x) ∧
    (∀ k, v.ownBlock = some k → k ∈ F ∧ k ∉ G) ∧ ∀ b ∈ G, b ∈ F
theorem semi_sz {e : Ty P α} {G : List Nat} {w : World} {css : List (List Value)} {l : List α} (hl : css.length = l.length) (h : ∀ (j : Nat) c x, css[j]? = some c → l[j]? = some x → e.rd (· ∈ G) w c x) : ∀ c ∈ css, c.length = e.sz := by
  intro c hc
  obtain ⟨j, hj⟩ := List.getElem?_of_mem hc
  have hlt : j < l.length := by rw [← hl]; exact (List.getElem?_eq_some_iff.1 hj).1
  exact e.rd_len (h j c l[j] hj (by simp [hlt]))
theorem semiS.keep {e : Ty P α} {F : List Nat} {w w' : World} {v : Value} {l : List α} (h : semiS e F w v l) (hk : ∀ b ∈ F, w'.heap[b]? = w.heap[b]?) : semiS e F w' v l := by
  obtain ⟨css, G, h1, h2, h3, h5, h6⟩ := h
  refine ⟨css, G, ⟨h1.1, ?_⟩, h2, fun j c x hc hx => e.rd_keep (h3 j c x hc hx) fun b hb => hk b (h6 b hb), h5, h6⟩
  rcases h1.2 with h | ⟨g, cap, cur, hv, hb, hg, hn, hm, hs, ht⟩
  · exact .inl h
  · exact .inr ⟨g, cap, cur, hv, hb, by rw [hk g (h5 g (by rw [hv]; rfl)).1]; exact hg, hn, hm, hs, ht⟩
theorem semiS.rd {e : Ty P α} {F : List Nat} {w : World} {v : Value} {l : List α} (h : semiS e F w v l) : rdS e (· ∈ F) w v l := by
  obtain ⟨css, G, h1, h2, h3, h5, h6⟩ := h
  rcases h1.2 with ⟨hv, hn⟩ | ⟨g, cap, cur, hv, hb, hg, hn, hm, hs, ht⟩
  · have : l = [] := List.eq_nil_of_length_eq_zero hn
    subst this
    exact ⟨none, 0, hv, Nat.le_refl _, .inl rfl⟩
  · refine ⟨_, cap, hv, hn, .inr ⟨⟨g, 0, none⟩, rfl, fun i x hx => ?_⟩⟩
    have hlt : i < css.length := by rw [h2]; exact (List.getElem?_eq_some_iff.1 hx).1
    obtain ⟨c, hc⟩ : ∃ c, css[i]? = some c := ⟨_, List.getElem?_eq_getElem hlt⟩
    refine ⟨by rw [add_block]; exact (h5 g (by rw [hv]; rfl)).1, c, e.rd_mono (h3 i c x hc hx) fun y hy => h6 y hy, fun j u hj => ?_⟩
    rw [add_add, Addr.add_lit, cell_of_row w g _ cur e.tid (0, 0) hg]
    have hf := flatten_get (semi_sz h2 h3) i j c hc u hj
    rw [← ht, List.getElem?_take] at hf
    split at hf
    · simpa using hf
    · cases hf
end
end Go.Proofs.Ytmkignciedkidaa
