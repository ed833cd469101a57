/-
  CORE, 3: rules for operations that look at memory or make it. Over any program.
-/
import Derived.Test.YtejhnpimhjmpdaaDoorCore2
namespace Go.Proofs.YtejhnpimhjmpdaaDoor
open Go Go.RowKit
/-- What the rules ask of a type: its cells, whether it is a struct, its zero value. -/
structure TF (P : Program) (T : TypeId) (sz : Nat) (agg : Bool) (z : Value) : Prop where
  hsize : ∀ w, (sizeOf T).run P w = .ok sz w
  hagg : ∀ w, (isAgg T).run P w = .ok agg w
  hzero : ∀ w, (zeroValue T).run P w = .ok z w
  pos : 0 < sz
  one : agg = false → sz = 1
def pk : Bool → List Value → Value
  | true, vs => .agg vs.toArray
  | false, [v] => v
  | false, _ => undef
def seg (cs : List Value) (off sz : Nat) : Option (List Value) := bif Nat.ble (off + sz) cs.length then some ((cs.drop off).take sz) else none
def splice (cs : List Value) (off : Nat) (vs : List Value) : List Value := cs.take off ++ (vs ++ cs.drop (off + vs.length))
def Ones : List Value → Prop
  | [] => True
  | v :: r => v.oneCell' = true ∧ Ones r
theorem Ones.all : ∀ {vs : List Value}, Ones vs → ∀ v ∈ vs, v.oneCell' = true
  | _ :: _, h, _, .head _ => h.1
  | _ :: _, h, _, .tail _ hv => Ones.all h.2 _ hv
theorem Ones.of : ∀ {vs : List Value}, (∀ v ∈ vs, v.oneCell' = true) → Ones vs
  | [], _ => trivial
  | v :: r, h => ⟨h v (by simp), Ones.of fun u hu => h u (by simp [hu])⟩
variable {P : Program} {α : Type}
theorem rdS.one {e : Ty P α} {S : Nat → Prop} {w : World} {v : Value} {l : List α} (h : rdS e S w v l) : v.oneCell' = true := by
  obtain ⟨a, cap, rfl, _⟩ := h
  rfl
theorem ownS.one {e : Ty P α} {F : List Nat} {w : World} {v : Value} {l : List α} (h : ownS e F w v l) : v.oneCell' = true := h.rd.one
/-- Cells at an address, in blocks of S. -/
def EAt (S : Nat → Prop) (w : World) (p : Addr) (cs : List Value) : Prop := S p.block ∧ ∀ (j : Nat) c, cs[j]? = some c → w.cell? (p.add j) = some c
theorem EAt.add {S : Nat → Prop} {w : World} {p : Addr} {cs : List Value} (h : EAt S w p cs) (o : Nat) : EAt S w (p.add o) (cs.drop o) :=
  ⟨by rw [add_block]; exact h.1, fun j c hc => by
    rw [add_add]
    exact h.2 (o + j) c (by rwa [List.getElem?_drop] at hc)⟩
theorem EAt.ro {w0 w : World} {p : Addr} {cs : List Value} (h : EAt (· < w0.heap.size) w0 p cs) (hb : Below w0.heap.size w0 w) : EAt (· < w.heap.size) w p cs :=
  ⟨Nat.lt_of_lt_of_le h.1 hb.size, fun j c hc => by rw [hb.cell (p := p.add j) (by rw [add_block]; exact h.1)]; exact h.2 j c hc⟩
theorem Below.self (w : World) : Below w.heap.size w w := Below.refl _ _
theorem alloc_below (w : World) (o : Obj) : Below w.heap.size w (w.alloc o) := ⟨rfl, rfl, rfl, by simp, fun k hk => Below.heap_alloc w o k hk⟩
theorem setRow_below (w : World) (g : Nat) (cs : Array Value) {B : Nat} (hg : B ≤ g) : Below B w (w.setRow g cs) :=
  ⟨rfl, rfl, rfl, by simp, fun k hk => setRow_other w g k cs (by omega)⟩
theorem run_storeVar_cells (w : World) (g o : Nat) (t U : TypeId) (cs vs : List Value) (v : Value) (hv : v.cells = vs.toArray) (hU : ∀ w, (sizeOf U).run P w = .ok vs.length w)
    (hg : w.heap[g]? = some (.cells cs.toArray t (0, 0))) (hl : o + vs.length ≤ cs.length) (h1 : Ones vs) :
    (storeVar U ⟨g, o, none⟩ v).run P w = .ok () (w.setRow g (splice cs o vs).toArray) := by
  have h := run_storeCells_at P g o t vs 0 cs.toArray w hg (by simpa using hl) h1.all
  unfold storeVar
  simp only [Sem.run_bind, hU, Result.andThen_ok, hv, List.size_toArray, ne_eq, not_true_eq_false, if_false]
  rw [h]
  simp [splice]
section
variable {n : Nat} {σ : Env} {w w0 : World} {Q : Exit → Act → World → Prop} {L : List Res}
variable {ds : List (Option Tmp)} {d : Nat} {T U : TypeId} {pos : String} {af : Array Edge} {rest : List Oper} {x y z : Operand} {sz : Nat} {agg : Bool} {zv : Value}
theorem sep_alloc {b : Nat} (hS : Sep w0.heap.size w L) (hB : Below w0.heap.size w0 w) (cs : List Value) (U : TypeId) (hb : b = w.heap.size) :
    Sep w0.heap.size (w.alloc (.cells cs.toArray U)) (R.blk b U cs :: L) := by
  subst hb
  refine hS.push (alloc_below w _) (by simp [R.blk]) (fun b hb => ?_) hB.size (fun w'' hk => ?_)
  · simp [R.blk] at hb
    subst hb
    simp
  · have := hk w.heap.size (by simp [R.blk])
    show w''.heap[w.heap.size]? = _
    rw [this, heap_alloc_new]
theorem wl_box {v : Value} {cs : List Value} (hn : Nat.blt d n = true) (hx : eop σ x = some v) (hc : v.cells = cs.toArray) (hB : Below w0.heap.size w0 w) (hS : Sep w0.heap.size w L)
    (h : ∀ b w', Below w.heap.size w w' → Below w0.heap.size w0 w' → Sep w0.heap.size w' (R.blk b U cs :: L) → WL P n ds rest ((d, .pointer (some ⟨b, 0, none⟩)) :: σ) w' Q) :
    WL P n ds (⟨some d, .box U x, T, pos, af, none⟩ :: rest) σ w Q := by
  refine wl_run (w' := w.alloc (.cells cs.toArray U)) (v := .pointer (some ⟨w.heap.size, 0, none⟩)) hn (fun ρ hρ => ?_)
    (h _ _ (alloc_below w _) (hB.trans ((alloc_below w _).mono hB.size)) (sep_alloc hS hB cs U rfl))
  simp [execOp, hρ _ _ hx, Instr.box, newVar, newRow, hc]
theorem wl_alloc {cs : List Value} (tf : TF P U sz agg zv) (hn : Nat.blt d n = true) (hc : zv.cells = cs.toArray) (hB : Below w0.heap.size w0 w) (hS : Sep w0.heap.size w L)
    (h : ∀ b w', Below w.heap.size w w' → Below w0.heap.size w0 w' → Sep w0.heap.size w' (R.blk b U cs :: L) → WL P n ds rest ((d, .pointer (some ⟨b, 0, none⟩)) :: σ) w' Q) :
    WL P n ds (⟨some d, .alloc U, T, pos, af, none⟩ :: rest) σ w Q := by
  refine wl_run (w' := w.alloc (.cells cs.toArray U)) (v := .pointer (some ⟨w.heap.size, 0, none⟩)) hn (fun ρ hρ => ?_)
    (h _ _ (alloc_below w _) (hB.trans ((alloc_below w _).mono hB.size)) (sep_alloc hS hB cs U rfl))
  simp [execOp, Instr.alloc, newVar, newRow, hc, tf.hzero]
/-- A field of a struct type: its offset. -/
def FFb (P : Program) (U : TypeId) (f o : Nat) : Bool :=
  match P.underlying U with
  | some (.struct fs) => match fs[f]? with
    | some fd => Nat.beq fd.offset o && (match P.info? fd.type with
      | some i => !(Nat.beq i.size 0)
      | none => false)
    | none => false
  | _ => false
theorem run_fieldAt {f o : Nat} (hf : FFb P U f o = true) (p : Addr) : (Instr.fieldAt U (.pointer (some p)) f).run P w = .ok (.pointer (some (p.add o))) w := by
  unfold FFb at hf
  split at hf
  · rename_i fs hu
    split at hf
    · rename_i fd hfd
      rw [Bool.and_eq_true] at hf
      obtain ⟨h1, h2⟩ := hf
      split at h2
      · rename_i i hi
        have e1 : fd.offset = o := Nat.eq_of_beq_eq_true h1
        have e2 : i.size ≠ 0 := fun e => by rw [e] at h2; simp at h2
        simp [Instr.fieldAt, run_underlying hu, hfd, Instr.sureAddr, fieldPlace, sizeOf, typeInfo, hi, e2, e1]
      · cases h2
    · cases hf
  · cases hf
theorem wl_field {f o b off off' : Nat} (hf : FFb P U f o = true) (hn : Nat.blt d n = true) (hx : eop σ x = some (.pointer (some ⟨b, off, none⟩))) (ho : off + o = off')
    (h : WL P n ds rest ((d, .pointer (some ⟨b, off', none⟩)) :: σ) w Q) : WL P n ds (⟨some d, .fieldAddr U x f, T, pos, af, none⟩ :: rest) σ w Q :=
  wl_run hn (fun ρ hρ => by simp [execOp, hρ _ _ hx, run_fieldAt hf, Addr.add_lit, ho]) h
theorem wl_fieldp {f o : Nat} {p : Addr} (hf : FFb P U f o = true) (hn : Nat.blt d n = true) (hx : eop σ x = some (.pointer (some p)))
    (h : WL P n ds rest ((d, .pointer (some (p.add o))) :: σ) w Q) : WL P n ds (⟨some d, .fieldAddr U x f, T, pos, af, none⟩ :: rest) σ w Q :=
  wl_run hn (fun ρ hρ => by simp [execOp, hρ _ _ hx, run_fieldAt hf]) h
theorem run_loadVar_cells (tf : TF P U sz agg zv) (p : Addr) (cs vs : List Value) (hp : ∀ (j : Nat) c, cs[j]? = some c → w.cell? (p.add j) = some c) (hv : seg cs 0 sz = some vs) (h1 : agg = false → sz = 1) :
    (loadVar U p).run P w = .ok (pk agg vs) w := by
  have hle : sz ≤ cs.length := by
    unfold seg at hv
    cases hb : Nat.ble (0 + sz) cs.length with
    | true => simpa using Nat.le_of_ble_eq_true hb
    | false => rw [hb] at hv; cases hv
  have hvs : vs = cs.take sz := by
    unfold seg at hv
    have : Nat.ble (0 + sz) cs.length = true := by simpa using hle
    rw [this] at hv
    simpa using hv.symm
  unfold loadVar
  rw [Sem.run_bind, tf.hagg]
  simp only [Result.andThen_ok]
  cases agg with
  | true =>
    have hl : (loadCells p sz).run P w = .ok vs.toArray w := by
      have := run_loadCells_list (P := P) w p vs (fun j v hj => hp j v (by
        rw [hvs, List.getElem?_take] at hj
        split at hj
        · exact hj
        · cases hj))
      rwa [hvs, List.length_take, Nat.min_eq_left hle, ← hvs] at this
    simp [tf.hsize, hl, pk]
  | false =>
    have hs := h1 rfl
    subst hs
    cases cs with
    | nil => simp at hle
    | cons c r =>
      have h0 := hp 0 c rfl
      rw [Addr.add_zero'] at h0
      simp [load, Sem.run, h0, hvs, pk]
theorem blk_cells {b o : Nat} {cs : List Value} {V : TypeId} (hg : w.heap[b]? = some (.cells cs.toArray V (0, 0))) : ∀ (j : Nat) c, (cs.drop o)[j]? = some c → w.cell? ((⟨b, o, none⟩ : Addr).add j) = some c := by
  intro j c hc
  rw [Addr.add_lit, cell_of_row w b _ cs.toArray V (0, 0) hg]
  rw [List.getElem?_drop] at hc
  simpa using hc
theorem seg_drop {cs vs : List Value} {o s : Nat} (hv : seg cs o s = some vs) (hs : 0 < s) : seg (cs.drop o) 0 s = some vs := by
  unfold seg at hv ⊢
  cases hb : Nat.ble (o + s) cs.length with
  | false => rw [hb] at hv; cases hv
  | true =>
    rw [hb] at hv
    have hle := Nat.le_of_ble_eq_true hb
    have : Nat.ble (0 + s) (cs.drop o).length = true := by
      rw [Nat.ble_eq, List.length_drop]; omega
    rw [this]
    simpa using hv
theorem wl_load_blk {i b off : Nat} {V : TypeId} {cs vs : List Value} {v : Value} (tf : TF P U sz agg zv) (hn : Nat.blt d n = true)
    (hx : eop σ x = some (.pointer (some ⟨b, off, none⟩))) (hS : Sep w0.heap.size w L) (hg : lget L i = some (R.blk b V cs)) (hv : seg cs off sz = some vs) (hp : pk agg vs = v)
    (h : WL P n ds rest ((d, v) :: σ) w Q) : WL P n ds (⟨some d, .load U x, T, pos, af, none⟩ :: rest) σ w Q := by
  refine wl_run hn (fun ρ hρ => ?_) h
  have hok : w.heap[b]? = some (.cells cs.toArray V (0, 0)) := hS.ok hg
  have hl := run_loadVar_cells (w := w) tf ⟨b, off, none⟩ (cs.drop off) vs (blk_cells hok) (seg_drop hv tf.pos) tf.one
  rw [← hp]
  simp [execOp, hρ _ _ hx, Instr.loadAt, Instr.sureAddr, hl]
theorem wl_load_p {S : Nat → Prop} {p : Addr} {cs vs : List Value} {v : Value} (tf : TF P U sz agg zv) (hn : Nat.blt d n = true)
    (hx : eop σ x = some (.pointer (some p))) (hp : EAt S w p cs) (hv : seg cs 0 sz = some vs) (hpk : pk agg vs = v)
    (h : WL P n ds rest ((d, v) :: σ) w Q) : WL P n ds (⟨some d, .load U x, T, pos, af, none⟩ :: rest) σ w Q := by
  refine wl_run hn (fun ρ hρ => ?_) h
  have hl := run_loadVar_cells (w := w) tf p cs vs hp.2 hv tf.one
  rw [← hpk]
  simp [execOp, hρ _ _ hx, Instr.loadAt, Instr.sureAddr, hl]
theorem splice_len {cs vs : List Value} {off : Nat} (h : off + vs.length ≤ cs.length) : (splice cs off vs).length = cs.length := by
  unfold splice
  simp
  omega
/-- A store into a block of known cells. -/
theorem wl_store_blk {i b off : Nat} {V : TypeId} {cs cs' vs : List Value} {v : Value} (tf : TF P U sz agg zv)
    (hx : eop σ x = some (.pointer (some ⟨b, off, none⟩))) (hy : eop σ y = some v) (hv : v.cells = vs.toArray) (hsz : vs.length = sz) (hB : Below w0.heap.size w0 w) (hS : Sep w0.heap.size w L)
    (hg : lget L i = some (R.blk b V cs)) (hl : Nat.ble (off + vs.length) cs.length = true) (h1 : Ones vs) (hc : splice cs off vs = cs')
    (h : ∀ w', (w.heap.size ≤ w'.heap.size ∧ (∀ k, k < w.heap.size → k ∉ [b] → w'.heap[k]? = w.heap[k]?) ∧ ∀ k ∈ [b], k ∈ [b] ∨ w.heap.size ≤ k) → Below w0.heap.size w0 w' → Sep w0.heap.size w' (lset L i (R.blk b V cs')) → WL P n ds rest σ w' Q) :
    WL P n ds (⟨none, .store U x y, T, pos, af, none⟩ :: rest) σ w Q := by
  have hok : w.heap[b]? = some (.cells cs.toArray V (0, 0)) := hS.ok hg
  have hle := Nat.le_of_ble_eq_true hl
  have hbb := (hS.get hg).2.1 b (by simp [R.blk])
  subst hc
  refine wl_u (w' := w.setRow b (splice cs off vs).toArray) (fun ρ hρ => ?_) (h _ ⟨by simp, fun k _ hk => setRow_other w b k _ (by simpa using hk), fun k hk => .inl hk⟩ (hB.trans (setRow_below w b _ hbb.1)) ?_)
  · have hs := run_storeVar_cells (P := P) w b off V U cs vs v hv (fun w => by rw [hsz]; exact tf.hsize w) hok hle h1
    simp [execOp, hρ _ _ hx, hρ _ _ hy, Instr.storeAt, Instr.sureAddr, hs]
  · refine hS.upd hg (by simp) (fun k _ _ hk => setRow_other w b k _ (by intro e; exact hk (by simp [R.blk, e]))) (by simp [R.blk]) (fun k hk => .inl hk) hB.size (fun w'' hk => ?_)
    have := hk b (by simp [R.blk])
    show w''.heap[b]? = _
    rw [this, setRow_heap w b _ _ V (0, 0) hok]
/-! slices that are read -/
theorem idx_some {l : List α} {i : Int} {u : α} (h : idx l i = some u) : 0 ≤ i ∧ l[i.toNat]? = some u ∧ i.toNat < l.length := by
  unfold idx at h
  split at h
  · rename_i h0
    exact ⟨h0, h, (List.getElem?_eq_some_iff.1 h).1⟩
  · cases h
theorem run_indexAt_some {e : Ty P α} {S : Nat → Prop} {w1 : World} {v : Value} {l : List α} {k : IntKind} {ix : Int} {u : α} (hu : P.underlying U = some (.slice e.tid)) (hr : rdS e S w1 v l) (hi : idx l ix = some u) :
    ∃ p, (∀ w, (Instr.indexAt U v (.int k ix)).run P w = .ok (.pointer (some p)) w) ∧ ElemAt e S w1 p u := by
  obtain ⟨a, cap, rfl, hcap, h⟩ := hr
  obtain ⟨h0, hl, hlt⟩ := idx_some hi
  rcases h with rfl | ⟨ad, rfl, hel⟩
  · simp at hlt
  · obtain ⟨i, z, hinfo, hsz, _⟩ := e.info
    refine ⟨ad.add (ix.toNat * e.sz), fun w => ?_, hel _ _ hl⟩
    have hc : 0 ≤ ix ∧ ix < (l.length : Int) := ⟨h0, by omega⟩
    simp [Instr.indexAt, asIntOf, run_underlying hu, sizeOf, typeInfo, hinfo, hsz, hc]
theorem wl_index {e : Ty P α} {S : Nat → Prop} {w1 : World} {v : Value} {l : List α} {k : IntKind} {ix : Int} {u : α} (hu : P.underlying U = some (.slice e.tid)) (hn : Nat.blt d n = true)
    (hx : eop σ x = some v) (hy : eop σ y = some (.int k ix)) (hr : rdS e S w1 v l) (hi : idx l ix = some u)
    (h : ∀ p cs, e.rd S w1 cs u → EAt S w1 p cs → WL P n ds rest ((d, .pointer (some p)) :: σ) w Q) : WL P n ds (⟨some d, .indexAddr U x y, T, pos, af, none⟩ :: rest) σ w Q := by
  obtain ⟨p, hrun, hS, cs, hcs, hc⟩ := run_indexAt_some (k := k) hu hr hi
  exact wl_run hn (fun ρ hρ => by simp [execOp, hρ _ _ hx, hρ _ _ hy, hrun]) (h p cs hcs ⟨hS, hc⟩)
theorem wl_len {v : Value} {a : Option Addr} {l c : Nat} {ts : TypeId} {e : TypeId} (hu : P.underlying ts = some (.slice e)) (hn : Nat.blt d n = true) (hx : eop σ x = some v) (hv : v = .slice a l c)
    (h : WL P n ds rest ((d, .int .i64 (l : Int)) :: σ) w Q) : WL P n ds (⟨some d, .call ⟨.builtin .len, #[x], #[ts]⟩, T, pos, af, none⟩ :: rest) σ w Q := by
  subst hv
  exact wl_run hn (fun ρ hρ => by simp [execOp, resolve, invoke, builtin, hρ _ _ hx, Builtin.len_, run_underlying hu, goInt]) h
theorem wl_lenr {e : Ty P α} {S : Nat → Prop} {w1 : World} {v : Value} {l : List α} {ts : TypeId} (hu : P.underlying ts = some (.slice e.tid)) (hn : Nat.blt d n = true) (hx : eop σ x = some v) (hr : rdS e S w1 v l)
    (h : WL P n ds rest ((d, .int .i64 (l.length : Int)) :: σ) w Q) : WL P n ds (⟨some d, .call ⟨.builtin .len, #[x], #[ts]⟩, T, pos, af, none⟩ :: rest) σ w Q := by
  obtain ⟨a, cap, hv, _⟩ := hr
  exact wl_len hu hn hx hv h
theorem run_slice_rd {e : Ty P α} {S : Nat → Prop} {w1 : World} {v : Value} {l m : List α} {lo hi : Int} (hu : P.underlying U = some (.slice e.tid)) (hr : rdS e S w1 v l) (hm : sl l lo hi = some m) :
    ∃ v', (∀ (vlo vhi : Option Value) w, ((vlo = none ∧ lo = 0) ∨ ∃ k, vlo = some (.int k lo)) → ((vhi = none ∧ hi = l.length) ∨ ∃ k, vhi = some (.int k hi)) → (Instr.sliceAt U v vlo vhi none).run P w = .ok v' w) ∧ rdS e S w1 v' m := by
  obtain ⟨a, cap, rfl, hcap, h⟩ := hr
  unfold sl at hm
  split at hm
  case isFalse => cases hm
  rename_i hb
  obtain ⟨h0, h1, h2⟩ := hb
  cases hm
  obtain ⟨i, z, hinfo, hsz, _⟩ := e.info
  have hlen : ((l.take hi.toNat).drop lo.toNat).length = hi.toNat - lo.toNat := by simp; omega
  refine ⟨.slice (if cap = lo.toNat then a else a.map (·.add (lo.toNat * e.sz))) (hi.toNat - lo.toNat) (cap - lo.toNat), fun vlo vhi w hlo hhi => ?_, ?_⟩
  · have key : (Instr.sliceBounds true l.length cap vlo vhi none).run P w = .ok (lo.toNat, hi.toNat, cap) w := by
      have hh : 0 ≤ hi ∧ hi ≤ (cap : Int) := ⟨by omega, by omega⟩
      rcases hhi with ⟨rfl, rfl⟩ | ⟨k, rfl⟩
      · rcases hlo with ⟨rfl, rfl⟩ | ⟨k', rfl⟩
        · simp [Instr.sliceBounds]
        · have hlo' : 0 ≤ lo ∧ lo ≤ (l.length : Int) := ⟨h0, h1⟩
          simp [Instr.sliceBounds, Instr.sliceBound, asIntOf, hlo']
      · rcases hlo with ⟨rfl, rfl⟩ | ⟨k', rfl⟩
        · simp [Instr.sliceBounds, Instr.sliceBound, asIntOf, hh]
        · have e1 : ((hi.toNat : Nat) : Int) = hi := by omega
          have hlo' : 0 ≤ lo ∧ lo ≤ ((hi.toNat : Nat) : Int) := ⟨h0, by omega⟩
          simp only [Instr.sliceBounds, Instr.sliceBound, asIntOf, Sem.run_bind, Sem.run_pure, Result.andThen_ok, hh, and_self, if_true, hlo', Option.isSome_none]
    simp [Instr.sliceAt, Instr.slice, run_underlying hu, key, sizeOf, typeInfo, hinfo, hsz]
  · refine ⟨_, cap - lo.toNat, by rw [hlen], by rw [hlen]; omega, ?_⟩
    by_cases hem : (l.take hi.toNat).drop lo.toNat = []
    · exact .inl hem
    · rcases h with rfl | ⟨ad, rfl, hel⟩
      · simp at hem
      · have hlt : lo.toNat < hi.toNat := by
          rcases Nat.lt_or_ge lo.toNat hi.toNat with h | h
          · exact h
          · exact absurd (List.eq_nil_of_length_eq_zero (by rw [hlen]; omega)) hem
        refine .inr ⟨ad.add (lo.toNat * e.sz), by rw [if_neg (by omega)]; rfl, fun j x hx => ?_⟩
        rw [add_add, ← Nat.add_mul]
        refine hel _ x ?_
        rw [List.getElem?_drop, List.getElem?_take] at hx
        split at hx
        · exact hx
        · cases hx
theorem wl_slice {e : Ty P α} {S : Nat → Prop} {w1 : World} {v : Value} {l m : List α} {lo hi : Int} {olo ohi : Option Operand} (hu : P.underlying U = some (.slice e.tid)) (hn : Nat.blt d n = true)
    (hx : eop σ x = some v) (hr : rdS e S w1 v l) (hm : sl l lo hi = some m)
    (hlo : (olo = none ∧ lo = 0) ∨ ∃ o k, olo = some o ∧ eop σ o = some (.int k lo)) (hhi : (ohi = none ∧ hi = l.length) ∨ ∃ o k, ohi = some o ∧ eop σ o = some (.int k hi))
    (h : ∀ v', rdS e S w1 v' m → WL P n ds rest ((d, v') :: σ) w Q) : WL P n ds (⟨some d, .slice U x olo ohi none, T, pos, af, none⟩ :: rest) σ w Q := by
  obtain ⟨v', hrun, hr'⟩ := run_slice_rd hu hr hm
  refine wl_run hn (fun ρ hρ => ?_) (h v' hr')
  have := hrun (olo.map ρ) (ohi.map ρ) w (hlo.imp (fun ⟨h, h'⟩ => ⟨by rw [h]; rfl, h'⟩) fun ⟨o, k, h, h'⟩ => ⟨k, by rw [h]; simp [hρ _ _ h']⟩)
    (hhi.imp (fun ⟨h, h'⟩ => ⟨by rw [h]; rfl, h'⟩) fun ⟨o, k, h, h'⟩ => ⟨k, by rw [h]; simp [hρ _ _ h']⟩)
  simp [execOp, hρ _ _ hx, this]
end
end Go.Proofs.YtejhnpimhjmpdaaDoor
