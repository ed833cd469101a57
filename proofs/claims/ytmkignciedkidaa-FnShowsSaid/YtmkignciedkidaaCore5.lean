/-
  CORE, 5: literals, make, stores into slices of one's own, equality of structs, results, joins of ways. Over any program.
-/
import Derived.Test.YtmkignciedkidaaCore4
set_option linter.unusedSimpArgs false
set_option linter.unusedVariables false
namespace Go.Proofs.Ytmkignciedkidaa
open Go Go.RowKit
variable {P : Program} {α : Type}
section
variable {n : Nat} {σ : Env} {w w0 : World} {Q : Exit → Act → World → Prop} {L : List Res}
variable {ds : List (Option Tmp)} {d : Nat} {T U : TypeId} {pos : String} {af : Array Edge} {rest : List Oper} {x y z : Operand} {sz : Nat} {agg : Bool} {zv : Value}
/-! struct literals -/
def placesB (P : Program) (U : TypeId) (places : List (Nat × Nat)) : Bool :=
  match P.underlying U with
  | some (.struct fs) => Nat.beq fs.size places.length && (places.zipIdx.all fun p => match fs[p.2]? with
    | some f => Nat.beq f.offset p.1.1 && (match P.info? f.type with
      | some i => Nat.beq i.size p.1.2
      | none => false)
    | none => false)
  | _ => false
theorem run_build {places : List (Nat × Nat)} (hp : placesB P U places = true) (hz : ∀ w, (zeroValue U).run P w = .ok zv w) {zs out : List Value} (hzc : zv.cells = zs.toArray)
    {parts : List (Nat × Value)} {ps : List (Nat × List Value)} (hps : (parts.map fun p => (p.1, p.2.cells)) = (ps.map fun p => (p.1, p.2.toArray))) (hf : fillL places zs ps = some out) (w : World) :
    (Instr.build U parts.toArray).run P w = .ok (.agg out.toArray) w := by
  unfold placesB at hp
  split at hp
  case h_2 => cases hp
  rename_i fs hu
  rw [Bool.and_eq_true] at hp
  obtain ⟨h1, h2⟩ := hp
  have hsz := Nat.eq_of_beq_eq_true h1
  have hget : ∀ (i o s : Nat), places[i]? = some (o, s) → ∃ (f : Field) (inf : TypeInfo), fs[i]? = some f ∧ f.offset = o ∧ P.info? f.type = some inf ∧ inf.size = s := by
    intro i o s hi
    rw [List.all_eq_true] at h2
    have hmem : ((o, s), i) ∈ places.zipIdx := by
      rw [List.mem_zipIdx_iff_getElem?]
      exact hi
    have := h2 _ hmem
    simp only at this
    cases hf : fs[i]? with
    | none => rw [hf] at this; cases this
    | some f =>
      rw [hf] at this
      simp only [Bool.and_eq_true] at this
      cases hin : P.info? f.type with
      | none => rw [hin] at this; exact absurd this.2 (by simp)
      | some inf =>
        rw [hin] at this
        exact ⟨f, inf, rfl, Nat.eq_of_beq_eq_true this.1, hin, Nat.eq_of_beq_eq_true this.2⟩
  have hmap : ∀ (l : List Field) (k : Nat), (∀ i f, l[i]? = some f → fs[k + i]? = some f) → (l.mapM fun (f : Field) => (do pure (f.offset, ← sizeOf f.type) : Sem (Nat × Nat))).run P w = .ok ((places.drop k).take l.length) w := by
    intro l
    induction l with
    | nil => intro k _; simp
    | cons f l ih =>
      intro k hk
      have h0 := hk 0 f rfl
      simp only [Nat.add_zero] at h0
      have hlt : k < places.length := by rw [← hsz]; exact (Array.getElem?_eq_some_iff.1 h0).1
      obtain ⟨f', inf, hf', ho, hin, hs⟩ := hget k places[k].1 places[k].2 (by simp [hlt])
      rw [h0] at hf'
      cases hf'
      have ih' := ih (k + 1) (fun i g hg => by have := hk (i + 1) g (by simpa using hg); rwa [show k + 1 + i = k + (i + 1) by omega])
      rw [List.mapM_cons]
      simp only [Sem.run_bind, sizeOf, typeInfo, run_program, Result.andThen_ok, hin, Sem.run_pure] at ih' ⊢
      rw [ih']
      simp only [Result.andThen_ok, Sem.run_pure]
      congr 1
      rw [List.drop_eq_getElem_cons hlt, List.length_cons, List.take_succ_cons]
      simp [ho, hs]
  have hmapA : (fs.mapM fun (f : Field) => (do pure (f.offset, ← sizeOf f.type) : Sem (Nat × Nat))).run P w = .ok places.toArray w := by
    have h := hmap fs.toList 0 (fun i f hf => by simpa using hf)
    rw [Array.mapM_eq_mapM_toList]
    simp only [Sem.run_map, h, Result.andThen_ok]
    congr 1
    simp [hsz]
  have hfill := fill_eq (places.toArray[·]?) places (fun i o s h => by simpa using h) parts ps zs out hps hf
  unfold Instr.build
  simp only [Sem.run_bind, hz, Result.andThen_ok, Sem.run_pure, run_underlying hu, hmapA, hzc, hfill]
theorem build_parts {ρ : Operand → Value} (hρ : ∀ x v, eop σ x = some v → ρ x = v) : ∀ (parts : List (Nat × Operand)) (vs : List Value) (css : List (List Value)), (parts.map fun p => eop σ p.2) = vs.map some → vs.map (·.cells) = css.map (·.toArray) →
    ((parts.map fun p => (p.1, ρ p.2)).map fun p => (p.1, p.2.cells)) = (((parts.map (·.1)).zip css).map fun p => (p.1, p.2.toArray)) := by
  intro parts
  induction parts with
  | nil => intro vs css _ _; simp
  | cons p parts ih =>
    intro vs css hx hc
    cases vs with
    | nil => simp at hx
    | cons v vs =>
      cases css with
      | nil => simp at hc
      | cons cs css =>
        simp only [List.map_cons, List.cons.injEq, List.zip_cons_cons, Prod.mk.injEq, true_and] at hx hc ⊢
        exact ⟨by rw [hρ _ _ hx.1]; exact hc.1, ih vs css hx.2 hc.2⟩
theorem wl_build {places : List (Nat × Nat)} {zs out : List Value} {parts : List (Nat × Operand)} {vs : List Value} {css : List (List Value)} (tf : TF P U sz agg zv) (hp : placesB P U places = true) (hn : Nat.blt d n = true)
    (hx : (parts.map fun p => eop σ p.2) = vs.map some) (hc : vs.map (·.cells) = css.map (·.toArray)) (hzc : zv.cells = zs.toArray) (hf : fillL places zs ((parts.map (·.1)).zip css) = some out)
    (h : WL P n ds rest ((d, .agg out.toArray) :: σ) w Q) : WL P n ds (⟨some d, .build U parts.toArray, T, pos, af, none⟩ :: rest) σ w Q := by
  refine wl_run hn (fun ρ hρ => ?_) h
  have := run_build (zv := zv) hp tf.hzero hzc (parts := parts.map fun p => (p.1, ρ p.2)) (ps := (parts.map (·.1)).zip css) (build_parts hρ parts vs css hx hc) hf w
  simp only [execOp, List.map_toArray, Sem.run_bind, this, Result.andThen_ok, Sem.run_pure]
theorem cells_one {v : Value} (h : v.oneCell' = true) : v.cells = #[v] := by
  cases v <;> first | rfl | cases h
/-! slice literals of a flat type -/
theorem replicate_flat (zs : List Value) (n : Nat) : (madeCells zs.toArray (n * zs.length)).toList = (List.replicate n zs).flatten := by
  apply List.ext_getElem?
  intro j
  simp only [madeCells, Array.toList_map, Array.toList_range, List.getElem?_map, List.size_toArray]
  by_cases hj : j < n * zs.length
  · have hpos : 0 < zs.length := by
      rcases Nat.eq_zero_or_pos zs.length with h | h
      · rw [h] at hj; simp at hj
      · exact h
    have hq : j / zs.length < n := (Nat.div_lt_iff_lt_mul hpos).2 hj
    have hr : j % zs.length < zs.length := Nat.mod_lt _ hpos
    have := flatten_get (cs := List.replicate n zs) (sz := zs.length) (fun c hc => by rw [List.eq_of_mem_replicate hc]) (j / zs.length) (j % zs.length) zs (by simp [List.getElem?_replicate, hq]) (zs[j % zs.length]) (by simp [hr])
    rw [show j / zs.length * zs.length + j % zs.length = j by rw [Nat.mul_comm]; exact Nat.div_add_mod j zs.length] at this
    rw [this]
    simp [hj, hr, List.getElem?_range]
  · have hl : ((List.replicate n zs).flatten).length = n * zs.length := by rw [flatten_len (sz := zs.length) (fun c hc => by rw [List.eq_of_mem_replicate hc])]; simp
    rw [show ((List.replicate n zs).flatten)[j]? = none from List.getElem?_eq_none (by rw [hl]; omega)]
    simp [List.getElem?_range, hj]
theorem fill_seq {sz : Nat} : ∀ (css : List (List Value)) (k m : Nat) (done zeros : List Value), (∀ c ∈ css, c.length = sz) → done.length = k * sz → zeros.length = css.length * sz → k + css.length ≤ m →
    fillL ((List.range m).map fun i => (i * sz, sz)) (done ++ zeros) ((List.range' k css.length).zip css) = some (done ++ css.flatten) := by
  intro css
  induction css with
  | nil => intro k m done zeros _ _ hz _; simp at hz; subst hz; simp [fillL]
  | cons c css ih =>
    intro k m done zeros hc hd hz hm
    simp only [List.length_cons] at hz hm
    have hcl := hc c (by simp)
    have hz' : sz ≤ zeros.length := by rw [hz, Nat.succ_mul]; omega
    rw [List.length_cons, List.range'_succ, List.zip_cons_cons, fillL]
    have hp : ((List.range m).map fun i => (i * sz, sz))[k]? = some (k * sz, sz) := by simp [List.getElem?_range (show k < m by omega)]
    rw [hp]
    have e1 : Nat.beq c.length sz = true := by rw [hcl]; exact Nat.beq_refl sz
    have e2 : Nat.ble (k * sz + c.length) (done ++ zeros).length = true := by rw [Nat.ble_eq, List.length_append, hd, hcl]; omega
    simp only [e1, e2, Bool.and_self, cond_true]
    have e3 : splice (done ++ zeros) (k * sz) c = (done ++ c) ++ zeros.drop sz := by
      unfold splice
      rw [← hd, List.take_left, List.drop_append, hcl]
      simp
    rw [e3, ih (k + 1) m (done ++ c) (zeros.drop sz) (fun c' h => hc c' (by simp [h])) (by rw [List.length_append, hd, hcl, Nat.succ_mul]) (by rw [List.length_drop, hz, Nat.succ_mul]; omega) (by omega)]
    simp
theorem run_buildSlice {e : Ty P α} (hu : P.underlying U = some (.slice e.tid)) {parts : List (Nat × Value)} {css : List (List Value)} (hps : (parts.map fun p => (p.1, p.2.cells)) = ((List.range css.length).zip css).map fun p => (p.1, p.2.toArray))
    (hc : ∀ c ∈ css, c.length = e.sz) (hlim : css.length * e.sz ≤ 16777216) (w : World) :
    (Instr.buildSlice U css.length parts.toArray).run P w = .ok (.slice (some ⟨w.heap.size, 0, none⟩) css.length css.length) (w.alloc (.cells css.flatten.toArray e.tid)) := by
  obtain ⟨i, zz, hinfo, hsz, hby, hz, hzc⟩ := e.info
  have hzl : e.zero.length = e.sz := e.rd_len (e.own_rd (e.zero_own w))
  have hfill : Instr.fill (fun i => some (i * e.sz, e.sz)) (madeCells zz.cells (css.length * e.sz)) parts = some css.flatten.toArray := by
    have e0 : madeCells zz.cells (css.length * e.sz) = ((List.replicate css.length e.zero).flatten).toArray := by
      apply Array.toList_inj.1
      rw [hzc, ← hzl, replicate_flat]
    rw [e0]
    refine fill_eq _ ((List.range css.length).map fun i => (i * e.sz, e.sz)) (fun i o s h => ?_) parts ((List.range css.length).zip css) _ _ hps ?_
    · rw [List.getElem?_map] at h
      rcases Nat.lt_or_ge i css.length with hi | hi
      · rw [List.getElem?_range hi] at h
        simpa using h
      · rw [List.getElem?_eq_none (by simpa using hi)] at h
        cases h
    · have h := fill_seq (sz := e.sz) css 0 css.length [] ((List.replicate css.length e.zero).flatten) hc (by simp) (by rw [flatten_len (sz := e.sz) (fun c hc => by rw [List.eq_of_mem_replicate hc]; exact hzl)]; simp) (by omega)
      simpa [List.range_eq_range'] using h
  unfold Instr.buildSlice
  by_cases h0 : css.length * e.sz = 0
  · have hcl : css = [] := by
      rcases Nat.mul_eq_zero.1 h0 with h | h
      · exact List.eq_nil_of_length_eq_zero h
      · exact absurd h (Nat.ne_of_gt e.sz_pos)
    subst hcl
    have hpn : parts = [] := by simpa using hps
    subst hpn
    simp [run_underlying hu, sizeOf, typeInfo, hinfo, hsz, Instr.fill, newRow, Array.range_zero']
  · simp only [Sem.run_bind, run_underlying hu, Result.andThen_ok, sizeOf, typeInfo, run_program, hinfo, Sem.run_pure, hsz]
    rw [if_neg (by simpa using hlim)]
    simp only [h0, if_false, Sem.run_bind, zeroValue, typeInfo, run_program, Result.andThen_ok, hinfo, hz, Sem.run_pure]
    have hf2 := hfill
    unfold madeCells at hf2
    rw [hf2]
    simp [newRow]
/-- 'T{x, y, ..}': elements of a flat type. -/
theorem wl_lit {e : Ty P α} {f : α → List Value} (hf : Flat e f) {parts : List (Nat × Operand)} {vs : List Value} {l : List α} {k : Nat} (hu : P.underlying U = some (.slice e.tid)) (hn : Nat.blt d n = true)
    (hk : l.length = k) (hix : parts.map (·.1) = List.range k) (hx : (parts.map fun p => eop σ p.2) = vs.map some) (hc : vs.map (·.cells) = l.map fun u => (f u).toArray) (hlim : Nat.ble (k * e.sz) 65536 = true)
    (hB : Below w0.heap.size w0 w) (hS : Sep w0.heap.size w L)
    (h : ∀ v F w', Below w.heap.size w w' → Below w0.heap.size w0 w' → Sep w0.heap.size w' (R.own e F v l :: L) → WL P n ds rest ((d, v) :: σ) w' Q) :
    WL P n ds (⟨some d, .buildSlice U k parts.toArray, T, pos, af, none⟩ :: rest) σ w Q := by
  have hlf := fun x => hf.len w x
  have hlim' := Nat.le_of_ble_eq_true hlim
  refine wl_run (w' := w.alloc (.cells (l.map f).flatten.toArray e.tid)) (v := .slice (some ⟨w.heap.size, 0, none⟩) l.length l.length) hn (fun ρ hρ => ?_)
    (h _ [w.heap.size] _ (alloc_below w _) (hB.trans ((alloc_below w _).mono hB.size)) (hS.push (alloc_below w _) (by simp [R.own]) (fun b hb => by simp [R.own] at hb; subst hb; simp) hB.size fun w'' hk' => ?_))
  · have key : ∀ (parts : List (Nat × Operand)) (vs : List Value) (l : List α) (m : Nat), parts.map (·.1) = List.range' m l.length → (parts.map fun p => eop σ p.2) = vs.map some → vs.map (·.cells) = l.map (fun u => (f u).toArray) →
        ((parts.map fun p => (p.1, ρ p.2)).map fun p => (p.1, p.2.cells)) = (((List.range' m l.length).zip (l.map f)).map fun p => (p.1, p.2.toArray)) := by
      intro parts
      induction parts with
      | nil =>
        intro vs l m h1 _ _
        cases l with
        | nil => rfl
        | cons _ _ => simp [List.range'_succ] at h1
      | cons p parts ih =>
        intro vs l m h1 h2 h3
        cases l with
        | nil => simp at h1
        | cons u l =>
          cases vs with
          | nil => simp at h2
          | cons v vs =>
            simp only [List.map_cons, List.cons.injEq, List.length_cons, List.range'_succ, List.zip_cons_cons, Prod.mk.injEq] at h1 h2 h3 ⊢
            exact ⟨⟨h1.1, by rw [hρ _ _ h2.1]; exact h3.1⟩, ih vs l (m + 1) h1.2 h2.2 h3.2⟩
    have hb := run_buildSlice (P := P) hu (parts := parts.map fun p => (p.1, ρ p.2)) (css := l.map f) (by
        have := key parts vs l 0 (by rw [hix, hk, List.range_eq_range']) hx hc
        simpa [List.range_eq_range'] using this) (fun c hc => by obtain ⟨u, _, rfl⟩ := List.mem_map.1 hc; exact hlf u) (by simp [hk]; omega) w
    simp only [List.length_map, hk] at hb
    simp only [execOp, List.map_toArray, Sem.run_bind, hb, Result.andThen_ok, Sem.run_pure, hk]
  · have hh := hk' w.heap.size (by simp [R.own])
    refine (ownS_flat hf).2 (.inr ⟨w.heap.size, l.length, _, rfl, by rw [hh, heap_alloc_new], Nat.le_refl _, ?_, ?_, ?_, rfl⟩)
    · simp only [maxLen]
      have := e.sz_pos
      have h2 : k ≤ k * e.sz := Nat.le_mul_of_pos_right k this
      omega
    · simp [flat_len f e.sz hlf l]
    · rw [List.toList_toArray, List.take_of_length_le (by rw [flat_len f e.sz hlf l]; exact Nat.le_refl _)]
/-! stores into a slice of one's own -/
/-- 'p' is the place of cell 'o' of element 'k' of the slice 'v'. -/
def OPtr (sz : Nat) (v : Value) (p : Addr) (k o : Nat) : Prop := ∃ g c m, v = .slice (some ⟨g, 0, none⟩) c m ∧ p = ⟨g, k * sz + o, none⟩
theorem OPtr.add {sz : Nat} {v : Value} {p : Addr} {k o : Nat} (h : OPtr sz v p k o) (j : Nat) : OPtr sz v (p.add j) k (o + j) := by
  obtain ⟨g, c, m, h1, rfl⟩ := h
  exact ⟨g, c, m, h1, by rw [Addr.add_lit, Nat.add_assoc]⟩
theorem wl_indexo {e : Ty P α} {F : List Nat} {v : Value} {l : List α} {k : IntKind} {ix : Int} {u : α} {i : Nat} (hu : P.underlying U = some (.slice e.tid)) (hn : Nat.blt d n = true)
    (hx : eop σ x = some v) (hy : eop σ y = some (.int k ix)) (hS : Sep w0.heap.size w L) (hg : lget L i = some (R.own e F v l)) (hi : idx l ix = some u)
    (h : ∀ p cs, e.rd (· < w.heap.size) w cs u → EAt (· < w.heap.size) w p cs → OPtr e.sz v p ix.toNat 0 → WL P n ds rest ((d, .pointer (some p)) :: σ) w Q) : WL P n ds (⟨some d, .indexAddr U x y, T, pos, af, none⟩ :: rest) σ w Q := by
  have ho : ownS e F w v l := hS.ok hg
  have hr := hS.own_ro hg
  obtain ⟨h0, hl, hlt⟩ := idx_some hi
  rcases ho with ⟨_, rfl, _⟩ | ⟨g, cap, cur, css, Fs, hv, hgg, hnn, hm, hc, ht, hz, hF⟩
  · simp at hlt
  · subst hv
    obtain ⟨a, cap', he, hcap, hel⟩ := hr
    injection he with ha hl' hc'
    rcases hel with rfl | ⟨ad, rfl, hel⟩
    · simp at hlt
    · injection ha with ha
      subst ha
      obtain ⟨ii, zz, hinfo, hsz, _⟩ := e.info
      obtain ⟨hb, cs, hcs, hcc⟩ := hel _ _ hl
      have hc2 : 0 ≤ ix ∧ ix < (l.length : Int) := ⟨h0, by omega⟩
      refine wl_run hn (fun ρ hρ => ?_) (h _ cs hcs ⟨hb, hcc⟩ ⟨g, _, _, rfl, by rw [Addr.add_lit, Nat.zero_add, Nat.add_zero]⟩)
      simp [execOp, hρ _ _ hx, hρ _ _ hy, Instr.indexAt, asIntOf, run_underlying hu, sizeOf, typeInfo, hinfo, hsz, hc2]
theorem flatten_splice {sz : Nat} {css : List (List Value)} (hc : ∀ c ∈ css, c.length = sz) : ∀ (k o : Nat) (vs c : List Value), css[k]? = some c → o + vs.length ≤ sz →
    splice css.flatten (k * sz + o) vs = (css.set k (splice c o vs)).flatten := by
  induction css with
  | nil => intro k o vs c h _; simp at h
  | cons d r ih =>
    intro k o vs c hk ho
    have hd : d.length = sz := hc d (by simp)
    cases k with
    | zero =>
      simp at hk
      subst hk
      simp only [Nat.zero_mul, Nat.zero_add, List.set_cons_zero, List.flatten_cons, splice]
      rw [List.take_append_of_le_length (by omega), List.drop_append_of_le_length (by omega)]
      simp
    | succ k =>
      simp at hk
      have := ih (fun c hc' => hc c (by simp [hc'])) k o vs c hk ho
      simp only [List.set_cons_succ, List.flatten_cons]
      rw [← this]
      unfold splice
      rw [show (k + 1) * sz + o = d.length + (k * sz + o) by rw [hd, Nat.succ_mul]; omega, List.take_length_add_append, show d.length + (k * sz + o) + vs.length = d.length + (k * sz + o + vs.length) by omega, List.drop_length_add_append]
      simp
theorem wl_storeo {e : Ty P α} {f : α → List Value} (hf : Flat e f) {F : List Nat} {v vx : Value} {l : List α} {u u' : α} {i o : Nat} {ix : Int} {p : Addr} {vs : List Value} (tf : TF P U sz agg zv)
    (hx : eop σ x = some (.pointer (some p))) (hy : eop σ y = some vx) (hv : vx.cells = vs.toArray) (hsz : vs.length = sz) (hp : OPtr e.sz v p ix.toNat o) (hi : idx l ix = some u)
    (hB : Below w0.heap.size w0 w) (hS : Sep w0.heap.size w L) (hg : lget L i = some (R.own e F v l)) (hle : Nat.ble (o + vs.length) e.sz = true) (h1 : Ones vs) (hu' : splice (f u) o vs = f u')
    (h : ∀ w', (w.heap.size ≤ w'.heap.size ∧ (∀ b, b < w.heap.size → b ∉ F → w'.heap[b]? = w.heap[b]?) ∧ ∀ b ∈ F, b ∈ F ∨ w.heap.size ≤ b) → Below w0.heap.size w0 w' → Sep w0.heap.size w' (lset L i (R.own e F v (seti l ix u'))) → WL P n ds rest σ w' Q) :
    WL P n ds (⟨none, .store U x y, T, pos, af, none⟩ :: rest) σ w Q := by
  have ho : ownS e F w v l := hS.ok hg
  have hfp := (hS.get hg).2.1
  obtain ⟨h0, hl, hlt⟩ := idx_some hi
  have hle' := Nat.le_of_ble_eq_true hle
  rcases (ownS_flat hf).1 ho with ⟨_, rfl, _⟩ | ⟨g, cap, cur, hvv, hgg, hnn, hm, hc, ht, hF⟩
  · simp at hlt
  · obtain ⟨g', c', m', hv', rfl⟩ := hp
    rw [hvv] at hv'
    injection hv' with ha _ _
    injection ha with ha
    injection ha with ha _ _
    subst ha
    have hlf := fun x => hf.len w x
    have hin : (ix.toNat + 1) * e.sz ≤ cur.size := by rw [hc]; exact Nat.mul_le_mul_right _ (by omega)
    rw [Nat.succ_mul] at hin
    have hgbase := (hfp g (by rw [hF]; simp [R.own])).1
    have hst := run_storeVar_cells (P := P) w g (ix.toNat * e.sz + o) e.tid U cur.toList vs vx hv (fun w => by rw [hsz]; exact tf.hsize w) (by simpa using hgg) (by simp; omega) h1
    have hkeep : ∀ b, b ≠ g → (w.setRow g (splice cur.toList (ix.toNat * e.sz + o) vs).toArray).heap[b]? = w.heap[b]? := fun b hb => setRow_other w g b _ hb
    refine wl_u (w' := w.setRow g (splice cur.toList (ix.toNat * e.sz + o) vs).toArray) (fun ρ hρ => ?_)
      (h _ ⟨by simp, fun b _ hb => hkeep b fun e => hb (by rw [hF, e]; simp), fun b hb => .inl hb⟩ (hB.trans (setRow_below w g _ hgbase)) (hS.upd hg (by simp) (fun b _ _ hb => hkeep b fun e => hb (by rw [hF, e]; simp [R.own])) (by rw [hF]; simp [R.own]) (fun b hb => .inl hb) hB.size fun w'' hk => ?_))
    · simp [execOp, hρ _ _ hx, hρ _ _ hy, Instr.storeAt, Instr.sureAddr, hst]
    · have hh := hk g (by rw [hF]; simp [R.own])
      refine (ownS_flat hf).2 (.inr ⟨g, cap, _, by simpa [seti] using hvv, by rw [hh, setRow_heap w g cur _ e.tid _ hgg], by simpa [seti] using hnn, hm, ?_, ?_, hF⟩)
      · rw [List.size_toArray, splice_len (by simp; omega)]
        simpa using hc
      · have hfl := flatten_splice (sz := e.sz) (css := l.map f) (fun c hc => by obtain ⟨x, _, rfl⟩ := List.mem_map.1 hc; exact hlf x) ix.toNat o vs (f u) (by simp [hl]) hle'
        rw [hu', ← List.map_set] at hfl
        simp only [seti]
        rw [← hfl, ← ht, List.toList_toArray, List.length_set]
        have hb2 : ix.toNat * e.sz + o + vs.length ≤ l.length * e.sz := by
          have : (ix.toNat + 1) * e.sz ≤ l.length * e.sz := Nat.mul_le_mul_right _ hlt
          rw [Nat.succ_mul] at this
          omega
        unfold splice
        rw [List.take_append, List.take_append, List.length_take, List.take_take, List.drop_take]
        have hcs : l.length * e.sz ≤ cur.toList.length := by simp [hc]; exact Nat.mul_le_mul_right _ hnn
        rw [Nat.min_eq_left (by omega : ix.toNat * e.sz + o ≤ cur.toList.length), List.take_take, List.take_of_length_le (l := vs) (by omega)]
        rw [Nat.min_eq_right (by omega), Nat.min_eq_left (by omega)]
        congr 2
        congr 1
        omega
/-! equality of structs -/
theorem wl_eqs {xs ys : Array Value} {b : Bool} {TB : TypeId} (hm : P.eqGuardType P.depth U = false) (hq : ∀ w, (Op.equalIn 10000 U (.agg xs) (.agg ys)).run P w = .ok b w) (hn : Nat.blt d n = true)
    (hx : eop σ x = some (.agg xs)) (hy : eop σ y = some (.agg ys)) (h : WL P n ds rest ((d, .bool b) :: σ) w Q) : WL P n ds (⟨some d, .binOp .eql U x y TB, T, pos, af, none⟩ :: rest) σ w Q :=
  wl_run hn (fun ρ hρ => by simp [execOp, hρ _ _ hx, hρ _ _ hy, run_eqGuard_agg w _ _ _ _ _ _ hm, run_eql_struct, hq]) h
theorem wl_nes {xs ys : Array Value} {b : Bool} {TB : TypeId} (hm : P.eqGuardType P.depth U = false) (hq : ∀ w, (Op.equalIn 10000 U (.agg xs) (.agg ys)).run P w = .ok b w) (hn : Nat.blt d n = true)
    (hx : eop σ x = some (.agg xs)) (hy : eop σ y = some (.agg ys)) (h : WL P n ds rest ((d, .bool (!b)) :: σ) w Q) : WL P n ds (⟨some d, .binOp .neq U x y TB, T, pos, af, none⟩ :: rest) σ w Q :=
  wl_run hn (fun ρ hρ => by simp [execOp, hρ _ _ hx, hρ _ _ hy, run_eqGuard_agg w _ _ _ _ _ _ hm, run_neq_struct, hq]) h
/-! results -/
def gRV (tmps : Array Value) : ResultVar → Sem Value
  | .tmp t => pure (tmps.getD t undef)
  | .cell ad T => do loadVar T (← asAddr (tmps.getD ad undef))
def RV (P : Program) (n : Nat) (σ : Env) (w : World) (rv : ResultVar) (v : Value) : Prop :=
  ∀ a, St n σ a → (gRV a.tmps rv).run P w = .ok v w
theorem rv_tmp {t : Tmp} {v : Value} (h : eget σ t = some v) : RV P n σ w (.tmp t) v := fun a ha => by
  simp [gRV, ha.get t v h]
theorem rv_cell {t : Tmp} {v : Value} {b i : Nat} {V : TypeId} {cs vs : List Value} (tf : TF P U sz agg zv) (h : eget σ t = some (.pointer (some ⟨b, 0, none⟩))) (hS : Sep w0.heap.size w L) (hg : lget L i = some (R.blk b V cs)) (hv : seg cs 0 sz = some vs) (hp : pk agg vs = v) :
    RV P n σ w (.cell t U) v := fun a ha => by
  have hok : w.heap[b]? = some (.cells cs.toArray V (0, 0)) := hS.ok hg
  have hl := run_loadVar_cells (w := w) tf ⟨b, 0, none⟩ cs vs (by simpa using blk_cells (o := 0) hok) hv tf.one
  rw [← hp]
  simp [gRV, ha.get t _ h, asAddr, hl]
theorem results_g {fn : Func} (tmps : Array Value) (w : World) : (results fn tmps).run P w = ((fn.results.mapM (gRV tmps)).run P w).andThen fun vs w' => .ok (if h : vs.size = 1 then vs[0] else .tuple vs) w' := by
  unfold results
  rw [Sem.run_bind]
  rfl
theorem mapM_g (tmps : Array Value) (w : World) : ∀ (rs : List ResultVar) (vs : List Value), rs.length = vs.length → (∀ (i : Nat) r v, rs[i]? = some r → vs[i]? = some v → (gRV tmps r).run P w = .ok v w) → (rs.mapM (gRV tmps)).run P w = .ok vs w
  | [], [], _, _ => by simp
  | r :: rs, v :: vs, hl, h => by
    rw [List.mapM_cons]
    have h0 := h 0 r v rfl rfl
    have ih := mapM_g tmps w rs vs (by simpa using hl) fun i r v hr hv => h (i + 1) r v (by simpa using hr) (by simpa using hv)
    simp only [Sem.run_bind, h0, ih, Result.andThen_ok, Sem.run_pure]
  | [], _ :: _, hl, _ => by simp at hl
  | _ :: _, [], hl, _ => by simp at hl
def tupV : List Value → Value
  | [v] => v
  | vs => .tuple vs.toArray
def RVs (P : Program) (n : Nat) (σ : Env) (w : World) : List ResultVar → List Value → Prop
  | [], [] => True
  | r :: rs, v :: vs => RV P n σ w r v ∧ RVs P n σ w rs vs
  | _, _ => False
theorem RVs.get : ∀ {rs : List ResultVar} {vs : List Value}, RVs P n σ w rs vs → rs.length = vs.length ∧ ∀ (i : Nat) r v, rs[i]? = some r → vs[i]? = some v → RV P n σ w r v
  | [], [], _ => ⟨rfl, fun i r v h => by simp at h⟩
  | r :: rs, v :: vs, h => by
    obtain ⟨h1, h2⟩ := RVs.get h.2
    refine ⟨by simp [h1], fun i r' v' hr hv => ?_⟩
    cases i with
    | zero =>
      simp at hr hv
      subst hr; subst hv
      exact h.1
    | succ i => exact h2 i r' v' (by simpa using hr) (by simpa using hv)
  | [], _ :: _, h => h.elim
  | _ :: _, [], h => h.elim
/-- The function hands back. -/
theorem rets {fn : Func} {R : Ending → World → Prop} {rs : List ResultVar} {vs : List Value} {Q : Exit → Act → World → Prop} (hQ : ∀ a w, bodyPost P fn R .ret a w → Q .ret a w) (hr : fn.results = rs.toArray) (h0 : RVs P n σ w rs vs) (h : R (.returned (tupV vs)) w) :
    ∀ a, St n σ a → Q .ret a w := fun a ha => hQ _ _ (by
  refine ⟨ha.defs, tupV vs, ?_, h⟩
  obtain ⟨h1, h2⟩ := h0.get
  have hm := mapM_g (P := P) a.tmps w rs vs h1 fun i r v hr hv => h2 i r v hr hv a ha
  rw [results_g, hr]
  have : (rs.toArray.mapM (gRV a.tmps)).run P w = .ok vs.toArray w := by
    rw [Array.mapM_eq_mapM_toList]
    simp only [Sem.run_map, List.toList_toArray, hm, Result.andThen_ok]
  rw [this, Result.andThen_ok]
  congr 1
  cases vs with
  | nil => simp [tupV]
  | cons v r =>
    cases r with
    | nil => simp [tupV]
    | cons u r => simp [tupV])
end
/-- What a panic leaves does not hang on the temporaries. -/
def PanicOk (Q : Exit → Act → World → Prop) : Prop := ∀ c a (d : Option Tmp) v w, Q (.panic c) (Act.put a d v) w → Q (.panic c) a w
theorem calls_mk' {f : FuncId} {fn : Func} {c : Code} {args : List Value} {w : World} {R : Ending → World → Prop} {n : Nat}
    (hf : P.funcs[f]? = some fn) (hb : fn.body = some c) (hn : fn.ntmps = n) (hl : args.length + (n - args.length) = n) {σ : Env} (hσ : σ = args.zipIdx.map (fun p => (p.2, p.1)))
    (h : ∀ Q : Exit → Act → World → Prop, (∀ a w, bodyPost P fn R .ret a w → Q .ret a w) → PanicOk Q → W P n c σ w Q) : Calls P f args.toArray w R :=
  calls_mk hf hb hn hl hσ (h _ (fun _ _ h => h) fun c a d v w h => by cases d <;> exact h)
theorem W.loopk {n : Nat} {σ : Env} {w : World} {Q : Exit → Act → World → Prop} {c : Code} (I : Nat → Act → World → Prop) (m0 : Nat) (h0 : ∀ a, St n σ a → I m0 a w)
    (hr : ∀ m a w, I m a w → ∀ KL : Act → World → Prop, (∀ a' w' m', m' < m → I m' a' w' → KL a' w') → c.wp P (Exit.then KL Q) a w) : W P n (.loop c) σ w Q :=
  W.loop I m0 h0 fun m a w hI => hr m a w hI _ fun _ _ m' hlt hI' => ⟨m', hlt, hI'⟩
theorem W.at {n : Nat} {σ : Env} {w : World} {Q : Exit → Act → World → Prop} {c : Code} {a : Act} (h : W P n c σ w Q) (ha : St n σ a) : c.wp P Q a w := h a ha
/-- Another's resources, handed over by a call. -/
theorem Sep.join {base : Nat} {w w' : World} {L M : List Res} (h : Sep base w L) (hb : Below w.heap.size w w') (hM : Sep w.heap.size w' M) (hbase : base ≤ w.heap.size) : Sep base w' (M ++ L) := by
  have h' := h.below hb
  refine ⟨fun r hr => ?_, List.pairwise_append.2 ⟨hM.2, h'.2, fun r hr s hs b hb hb' => ?_⟩⟩
  · rcases List.mem_append.1 hr with hr | hr
    · have := hM.1 r hr
      exact ⟨this.1, fun b hb => ⟨Nat.le_trans hbase (this.2.1 b hb).1, (this.2.1 b hb).2⟩, this.2.2⟩
    · exact h'.1 r hr
  · have h1 := ((hM.1 r hr).2.1 b hb).1
    have h2 := ((h.1 s hs).2.1 b hb').2
    omega
/-! ### The functions' own monad -/
theorem bindE {α β : Type} {o : Option α} {f : α → Option β} {r : β} (h : Option.bind o f = some r) : ∃ a, o = some a ∧ f a = some r := by
  cases o with
  | none => cases h
  | some a => exact ⟨a, rfl, h⟩
theorem noneE {α : Type} {r : α} {C : Prop} (h : none = some r) : C := by cases h
theorem jE0 {R : Type} {rest : Option R} {body : Option R → Option R} {r : R} (h : jK0 rest body = some r) : ∃ k, k = rest ∧ body k = some r := ⟨_, rfl, h⟩
theorem jE1 {A R : Type} {rest : A → Option R} {body : (A → Option R) → Option R} {r : R} (h : jK1 rest body = some r) : ∃ k, k = rest ∧ body k = some r := ⟨_, rfl, h⟩
theorem jE2 {A B R : Type} {rest : A → B → Option R} {body : (A → B → Option R) → Option R} {r : R} (h : jK2 rest body = some r) : ∃ k, k = rest ∧ body k = some r := ⟨_, rfl, h⟩
theorem jE3 {A B C R : Type} {rest : A → B → C → Option R} {body : (A → B → C → Option R) → Option R} {r : R} (h : jK3 rest body = some r) : ∃ k, k = rest ∧ body k = some r := ⟨_, rfl, h⟩
theorem jE4 {A B C D R : Type} {rest : A → B → C → D → Option R} {body : (A → B → C → D → Option R) → Option R} {r : R} (h : jK4 rest body = some r) : ∃ k, k = rest ∧ body k = some r := ⟨_, rfl, h⟩
theorem jE6 {A B C D E G R : Type} {rest : A → B → C → D → E → G → Option R} {body : (A → B → C → D → E → G → Option R) → Option R} {r : R} (h : jK6 rest body = some r) : ∃ k, k = rest ∧ body k = some r := ⟨_, rfl, h⟩
theorem ifP {c : Prop} [Decidable c] {α : Type} {A B : Option α} {r : α} (h : c) (hF : (if c then A else B) = some r) : A = some r := by rwa [if_pos h] at hF
theorem ifNP {c : Prop} [Decidable c] {α : Type} {A B : Option α} {r : α} (h : ¬ c) (hF : (if c then A else B) = some r) : B = some r := by rwa [if_neg h] at hF
theorem ifN {b : Bool} {α : Type} {A B : Option α} {r : α} (h : b = false) (hF : (if b = true then A else B) = some r) : B = some r := by rw [h] at hF; exact hF
theorem bE (b : Bool) : b = true ∨ b = false := by cases b <;> simp
theorem rdS_nil {α : Type} {e : Ty P α} {S : Nat → Prop} {w : World} : rdS e S w (.slice none 0 0) ([] : List α) := ⟨none, 0, rfl, Nat.le_refl _, .inl rfl⟩
end Go.Proofs.Ytmkignciedkidaa
