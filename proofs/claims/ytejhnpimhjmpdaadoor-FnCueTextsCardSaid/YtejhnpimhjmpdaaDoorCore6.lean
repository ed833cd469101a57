/-
  CORE, 6: regions that draw their order. Over any program.
-/
import Derived.Test.YtejhnpimhjmpdaaDoorCore5
import Derived.OrdersHeld
set_option linter.unusedSimpArgs false
set_option linter.unusedVariables false
namespace Go.Proofs.YtejhnpimhjmpdaaDoor
open Go Go.RowKit
variable {P : Program} {α : Type}
/-- The blocks that stood are as they stood, but for those of X. -/
structure KeepX (wS : World) (X : List Nat) (w : World) : Prop where
  size : wS.heap.size ≤ w.heap.size
  blk : ∀ b, b < wS.heap.size → b ∉ X → w.heap[b]? = wS.heap[b]?
theorem KeepX.refl (w : World) (X : List Nat) : KeepX w X w := ⟨Nat.le_refl _, fun _ _ _ => rfl⟩
theorem KeepX.ext {wS w w' : World} {X : List Nat} (h : KeepX wS X w) (hb : Below w.heap.size w w') : KeepX wS X w' :=
  ⟨Nat.le_trans h.size hb.size, fun b hlt hx => (hb.block b (Nat.lt_of_lt_of_le hlt h.size)).trans (h.blk b hlt hx)⟩
/-- An operation that only looks. -/
def PR (P : Program) (n : Nat) (σ : Env) (S : World → Prop) (d : Nat) (op : Op) (T : TypeId) (v : Value) : Prop :=
  Nat.blt d n = true ∧ ∀ ρ : Operand → Value, (∀ x v, eop σ x = some v → ρ x = v) → ∀ w, S w → ∀ dst pos af gd, (execOp ρ ⟨dst, op, T, pos, af, gd⟩).run P w = .ok (.value v) w
section
variable {n : Nat} {σ : Env} {S : World → Prop} {G : Value → Prop} {d : Nat} {T TB U : TypeId} {x y z : Operand} {k : IntKind} {a b : Int} {p q : Bool} {sz : Nat} {agg : Bool} {zv : Value} {wS w0 : World} {X : List Nat} {L : List Res}
theorem pr_move {v : Value} (hn : Nat.blt d n = true) (hx : eop σ x = some v) (h : G (v)) : ∃ v, PR P n σ S d (.move x) T v ∧ G v :=
  ⟨_, ⟨hn, fun ρ hρ w _ dst pos af gd => by simp [execOp, hρ _ _ hx]⟩, h⟩
theorem pr_assign {v : Value} (hn : Nat.blt d n = true) (hx : eop σ x = some v) (h : G (v)) : ∃ v, PR P n σ S d (.assign x) T v ∧ G v :=
  ⟨_, ⟨hn, fun ρ hρ w _ dst pos af gd => by simp [execOp, hρ _ _ hx]⟩, h⟩
theorem pr_pick_t {v : Value} {b : Bool} (hn : Nat.blt d n = true) (hx : eop σ x = some (.bool b)) (hb : b = true) (hy : eop σ y = some v) (h : G (v)) : ∃ v, PR P n σ S d (.pick x y z) T v ∧ G v :=
  ⟨_, ⟨hn, fun ρ hρ w _ dst pos af gd => by subst hb; simp [execOp, hρ _ _ hx, hρ _ _ hy, asBool]⟩, h⟩
theorem pr_pick_f {v : Value} {b : Bool} (hn : Nat.blt d n = true) (hx : eop σ x = some (.bool b)) (hb : b = false) (hy : eop σ z = some v) (h : G (v)) : ∃ v, PR P n σ S d (.pick x y z) T v ∧ G v :=
  ⟨_, ⟨hn, fun ρ hρ w _ dst pos af gd => by subst hb; simp [execOp, hρ _ _ hx, hρ _ _ hy, asBool]⟩, h⟩
theorem pr_add (hn : Nat.blt d n = true) (hx : eop σ x = some (.int k a)) (hy : eop σ y = some (.int k b)) (h : G (.int k (k.wrap (a + b)))) : ∃ v, PR P n σ S d (.binOp .add T x y U) T v ∧ G v :=
  ⟨_, ⟨hn, fun ρ hρ w _ dst pos af gd => by simp [execOp, hρ _ _ hx, hρ _ _ hy, eqGuard, binOp, Op.intArith]⟩, h⟩
theorem pr_sub (hn : Nat.blt d n = true) (hx : eop σ x = some (.int k a)) (hy : eop σ y = some (.int k b)) (h : G (.int k (k.wrap (a - b)))) : ∃ v, PR P n σ S d (.binOp .sub T x y U) T v ∧ G v :=
  ⟨_, ⟨hn, fun ρ hρ w _ dst pos af gd => by simp [execOp, hρ _ _ hx, hρ _ _ hy, eqGuard, binOp, Op.intArith]⟩, h⟩
theorem pr_mul (hn : Nat.blt d n = true) (hx : eop σ x = some (.int k a)) (hy : eop σ y = some (.int k b)) (h : G (.int k (k.wrap (a * b)))) : ∃ v, PR P n σ S d (.binOp .mul T x y U) T v ∧ G v :=
  ⟨_, ⟨hn, fun ρ hρ w _ dst pos af gd => by simp [execOp, hρ _ _ hx, hρ _ _ hy, eqGuard, binOp, Op.intArith]⟩, h⟩
theorem pr_quo (hn : Nat.blt d n = true) (hx : eop σ x = some (.int k a)) (hy : eop σ y = some (.int k b)) (hb : b ≠ 0) (h : G (.int k (k.wrap (a.tdiv b)))) : ∃ v, PR P n σ S d (.binOp .quo T x y U) T v ∧ G v :=
  ⟨_, ⟨hn, fun ρ hρ w _ dst pos af gd => by simp [execOp, hρ _ _ hx, hρ _ _ hy, eqGuard, binOp, Op.intDiv, hb]⟩, h⟩
theorem pr_rem (hn : Nat.blt d n = true) (hx : eop σ x = some (.int k a)) (hy : eop σ y = some (.int k b)) (hb : b ≠ 0) (h : G (.int k (a.tmod b))) : ∃ v, PR P n σ S d (.binOp .rem T x y U) T v ∧ G v :=
  ⟨_, ⟨hn, fun ρ hρ w _ dst pos af gd => by simp [execOp, hρ _ _ hx, hρ _ _ hy, eqGuard, binOp, Op.intDiv, hb]⟩, h⟩
theorem pr_lss (hn : Nat.blt d n = true) (hx : eop σ x = some (.int k a)) (hy : eop σ y = some (.int k b)) (h : G (.bool (decide (a < b)))) : ∃ v, PR P n σ S d (.binOp .lss T x y U) TB v ∧ G v :=
  ⟨_, ⟨hn, fun ρ hρ w _ dst pos af gd => by simp [execOp, hρ _ _ hx, hρ _ _ hy, eqGuard, binOp, Op.intCmp]⟩, h⟩
theorem pr_leq (hn : Nat.blt d n = true) (hx : eop σ x = some (.int k a)) (hy : eop σ y = some (.int k b)) (h : G (.bool (decide (a ≤ b)))) : ∃ v, PR P n σ S d (.binOp .leq T x y U) TB v ∧ G v :=
  ⟨_, ⟨hn, fun ρ hρ w _ dst pos af gd => by simp [execOp, hρ _ _ hx, hρ _ _ hy, eqGuard, binOp, Op.intCmp]⟩, h⟩
theorem pr_gtr (hn : Nat.blt d n = true) (hx : eop σ x = some (.int k a)) (hy : eop σ y = some (.int k b)) (h : G (.bool (decide (b < a)))) : ∃ v, PR P n σ S d (.binOp .gtr T x y U) TB v ∧ G v :=
  ⟨_, ⟨hn, fun ρ hρ w _ dst pos af gd => by simp [execOp, hρ _ _ hx, hρ _ _ hy, eqGuard, binOp, Op.intCmp]⟩, h⟩
theorem pr_geq (hn : Nat.blt d n = true) (hx : eop σ x = some (.int k a)) (hy : eop σ y = some (.int k b)) (h : G (.bool (decide (b ≤ a)))) : ∃ v, PR P n σ S d (.binOp .geq T x y U) TB v ∧ G v :=
  ⟨_, ⟨hn, fun ρ hρ w _ dst pos af gd => by simp [execOp, hρ _ _ hx, hρ _ _ hy, eqGuard, binOp, Op.intCmp]⟩, h⟩
theorem pr_neq (hn : Nat.blt d n = true) (hx : eop σ x = some (.int k a)) (hy : eop σ y = some (.int k b)) (h : G (.bool (a != b))) : ∃ v, PR P n σ S d (.binOp .neq T x y U) TB v ∧ G v :=
  ⟨_, ⟨hn, fun ρ hρ w _ dst pos af gd => by simp [execOp, hρ _ _ hx, hρ _ _ hy, eqGuard, binOp, Op.intCmp]⟩, h⟩
theorem pr_not (hn : Nat.blt d n = true) (hx : eop σ x = some (.bool p)) (h : G (.bool (!p))) : ∃ v, PR P n σ S d (.unOp .not T x) TB v ∧ G v :=
  ⟨_, ⟨hn, fun ρ hρ w _ dst pos af gd => by simp [execOp, hρ _ _ hx, Op.unary]⟩, h⟩
theorem pr_extract {vs : Array Value} {i : Nat} {v : Value} (hn : Nat.blt d n = true) (hx : eop σ x = some (.tuple vs)) (hv : vs[i]? = some v) (h : G (v)) : ∃ v, PR P n σ S d (.extract x i) T v ∧ G v :=
  ⟨_, ⟨hn, fun ρ hρ w _ dst pos af gd => by simp [execOp, hρ _ _ hx, Instr.extract, hv]⟩, h⟩
theorem pr_field {f o b off off' : Nat} (hf : FFb P U f o = true) (hn : Nat.blt d n = true) (hx : eop σ x = some (.pointer (some ⟨b, off, none⟩))) (ho : off + o = off')
    (h : G (.pointer (some ⟨b, off', none⟩))) : ∃ v, PR P n σ S d (.fieldAddr U x f) T v ∧ G v :=
  ⟨_, ⟨hn, fun ρ hρ w _ dst pos af gd => by simp [execOp, hρ _ _ hx, run_fieldAt hf, Addr.add_lit, ho]⟩, h⟩
theorem pr_fieldp {f o : Nat} {p : Addr} (hf : FFb P U f o = true) (hn : Nat.blt d n = true) (hx : eop σ x = some (.pointer (some p)))
    (h : G (.pointer (some (p.add o)))) : ∃ v, PR P n σ S d (.fieldAddr U x f) T v ∧ G v :=
  ⟨_, ⟨hn, fun ρ hρ w _ dst pos af gd => by simp [execOp, hρ _ _ hx, run_fieldAt hf]⟩, h⟩
theorem pr_load_blk {i b off : Nat} {V : TypeId} {cs vs : List Value} {v : Value} (tf : TF P U sz agg zv) (hn : Nat.blt d n = true)
    (hx : eop σ x = some (.pointer (some ⟨b, off, none⟩))) (hS : Sep w0.heap.size wS L) (hg : lget L i = some (R.blk b V cs)) (hv : seg cs off sz = some vs) (hp : pk agg vs = v) (hX : b ∉ X)
    (h : G v) : ∃ v, PR P n σ (KeepX wS X) d (.load U x) T v ∧ G v := by
  refine ⟨_, ⟨hn, fun ρ hρ w hw dst pos af gd => ?_⟩, h⟩
  have hok : wS.heap[b]? = some (.cells cs.toArray V (0, 0)) := hS.ok hg
  have hb := ((hS.get hg).2.1 b (by simp [R.blk])).2
  have hl := run_loadVar_cells (w := w) tf ⟨b, off, none⟩ (cs.drop off) vs (blk_cells ((hw.blk b hb hX).trans hok)) (seg_drop hv tf.pos) tf.one
  rw [← hp]
  simp [execOp, hρ _ _ hx, Instr.loadAt, Instr.sureAddr, hl]
theorem pr_load_p {S' : Nat → Prop} {p : Addr} {cs vs : List Value} {v : Value} (tf : TF P U sz agg zv) (hn : Nat.blt d n = true)
    (hx : eop σ x = some (.pointer (some p))) (hp : ∀ w, S w → EAt S' w p cs) (hv : seg cs 0 sz = some vs) (hpk : pk agg vs = v)
    (h : G v) : ∃ v, PR P n σ S d (.load U x) T v ∧ G v := by
  refine ⟨_, ⟨hn, fun ρ hρ w hw dst pos af gd => ?_⟩, h⟩
  have hl := run_loadVar_cells (w := w) tf p cs vs (hp w hw).2 hv tf.one
  rw [← hpk]
  simp [execOp, hρ _ _ hx, Instr.loadAt, Instr.sureAddr, hl]
theorem EAt.kx {p : Addr} {cs : List Value} (h : EAt (· < w0.heap.size) w0 p cs) (hB : Below w0.heap.size w0 wS) (hX : ∀ b ∈ X, w0.heap.size ≤ b) : ∀ w, KeepX wS X w → EAt (· < w0.heap.size) w p cs := fun w hw =>
  ⟨h.1, fun j c hc => by
    have hb : p.block < w0.heap.size := h.1
    rw [cell_keep (w := w0) (w' := w) (a := p.add j) (by rw [add_block, hw.blk _ (Nat.lt_of_lt_of_le hb hB.size) (fun hx => by have := hX _ hx; omega), hB.block _ hb])]
    exact h.2 j c hc⟩
theorem EAt.kx0 {p : Addr} {cs : List Value} (h : EAt (· < wS.heap.size) wS p cs) : ∀ w, KeepX wS [] w → EAt (· < wS.heap.size) w p cs := fun w hw =>
  ⟨h.1, fun j c hc => by
    have hb : p.block < wS.heap.size := h.1
    rw [cell_keep (w := wS) (w' := w) (a := p.add j) (by rw [add_block, hw.blk _ hb (by simp)])]
    exact h.2 j c hc⟩
theorem EAt.addk {S' : Nat → Prop} {p : Addr} {cs : List Value} (h : ∀ w, S w → EAt S' w p cs) (o : Nat) : ∀ w, S w → EAt S' w (p.add o) (cs.drop o) := fun w hw => (h w hw).add o
theorem pr_index {e : Ty P α} {S1 : Nat → Prop} {w1 : World} {v : Value} {l : List α} {k : IntKind} {ix : Int} {u : α} (hu : P.underlying U = some (.slice e.tid)) (hn : Nat.blt d n = true)
    (hx : eop σ x = some v) (hy : eop σ y = some (.int k ix)) (hr : rdS e S1 w1 v l) (hi : idx l ix = some u)
    (h : ∀ p cs, e.rd S1 w1 cs u → EAt S1 w1 p cs → G (.pointer (some p))) : ∃ v, PR P n σ S d (.indexAddr U x y) T v ∧ G v := by
  obtain ⟨p, hrun, hS, cs, hcs, hc⟩ := run_indexAt_some (k := k) hu hr hi
  exact ⟨_, ⟨hn, fun ρ hρ w _ dst pos af gd => by simp [execOp, hρ _ _ hx, hρ _ _ hy, hrun]⟩, h p cs hcs ⟨hS, hc⟩⟩
theorem pr_indexo {e : Ty P α} {F : List Nat} {v : Value} {l : List α} {k : IntKind} {ix : Int} {u : α} {i : Nat} {w : World} (hu : P.underlying U = some (.slice e.tid)) (hn : Nat.blt d n = true)
    (hx : eop σ x = some v) (hy : eop σ y = some (.int k ix)) (hS : Sep w0.heap.size w L) (hg : lget L i = some (R.own e F v l)) (hi : idx l ix = some u)
    (h : ∀ p cs, e.rd (· < w.heap.size) w cs u → EAt (· < w.heap.size) w p cs → OPtr e.sz v p ix.toNat 0 → G (.pointer (some p))) : ∃ v, PR P n σ S d (.indexAddr U x y) T v ∧ G v := by
  have ho : ownS e F w v l := hS.ok hg
  have hr := hS.own_ro hg
  obtain ⟨h0, hl, hlt⟩ := idx_some hi
  rcases ho with ⟨_, rfl, _⟩ | ⟨g, cap, cur, css, Fs, hv, hgg, hnn, hm, hc, ht, hz, hF⟩
  · simp at hlt
  · subst hv
    obtain ⟨a, cap', he, hcap, hel⟩ := hr
    injection he with ha hl' hc'
    rcases hel with rfl | ⟨ad, rfl, hel⟩
    · simp at hlt
    · injection ha with ha
      subst ha
      obtain ⟨ii, zz, hinfo, hsz, _⟩ := e.info
      obtain ⟨hb, cs, hcs, hcc⟩ := hel _ _ hl
      have hc2 : 0 ≤ ix ∧ ix < (l.length : Int) := ⟨h0, by omega⟩
      refine ⟨_, ⟨hn, fun ρ hρ w _ dst pos af gd => ?_⟩, h _ cs hcs ⟨hb, hcc⟩ ⟨g, _, _, rfl, by rw [Addr.add_lit, Nat.zero_add, Nat.add_zero]⟩⟩
      simp [execOp, hρ _ _ hx, hρ _ _ hy, Instr.indexAt, asIntOf, run_underlying hu, sizeOf, typeInfo, hinfo, hsz, hc2]
theorem pr_len {v : Value} {a : Option Addr} {l c : Nat} {ts : TypeId} {e : TypeId} (hu : P.underlying ts = some (.slice e)) (hn : Nat.blt d n = true) (hx : eop σ x = some v) (hv : v = .slice a l c)
    (h : G (.int .i64 (l : Int))) : ∃ v, PR P n σ S d (.call ⟨.builtin .len, #[x], #[ts]⟩) T v ∧ G v := by
  subst hv
  exact ⟨_, ⟨hn, fun ρ hρ w _ dst pos af gd => by simp [execOp, resolve, invoke, builtin, hρ _ _ hx, Builtin.len_, run_underlying hu, goInt]⟩, h⟩
theorem pr_lenr {e : Ty P α} {S1 : Nat → Prop} {w1 : World} {v : Value} {l : List α} {ts : TypeId} (hu : P.underlying ts = some (.slice e.tid)) (hn : Nat.blt d n = true) (hx : eop σ x = some v) (hr : rdS e S1 w1 v l)
    (h : G (.int .i64 (l.length : Int))) : ∃ v, PR P n σ S d (.call ⟨.builtin .len, #[x], #[ts]⟩) T v ∧ G v := by
  obtain ⟨a, cap, hv, _⟩ := hr
  exact pr_len hu hn hx hv h
theorem pr_slice {e : Ty P α} {S1 : Nat → Prop} {w1 : World} {v : Value} {l m : List α} {lo hi : Int} {olo ohi : Option Operand} (hu : P.underlying U = some (.slice e.tid)) (hn : Nat.blt d n = true)
    (hx : eop σ x = some v) (hr : rdS e S1 w1 v l) (hm : sl l lo hi = some m)
    (hlo : (olo = none ∧ lo = 0) ∨ ∃ o k, olo = some o ∧ eop σ o = some (.int k lo)) (hhi : (ohi = none ∧ hi = l.length) ∨ ∃ o k, ohi = some o ∧ eop σ o = some (.int k hi))
    (h : ∀ v', rdS e S1 w1 v' m → G v') : ∃ v, PR P n σ S d (.slice U x olo ohi none) T v ∧ G v := by
  obtain ⟨v', hrun, hr'⟩ := run_slice_rd hu hr hm
  refine ⟨_, ⟨hn, fun ρ hρ w _ dst pos af gd => ?_⟩, h v' hr'⟩
  have := hrun (olo.map ρ) (ohi.map ρ) w (hlo.imp (fun ⟨h, h'⟩ => ⟨by rw [h]; rfl, h'⟩) fun ⟨o, k, h, h'⟩ => ⟨k, by rw [h]; simp [hρ _ _ h']⟩)
    (hhi.imp (fun ⟨h, h'⟩ => ⟨by rw [h]; rfl, h'⟩) fun ⟨o, k, h, h'⟩ => ⟨k, by rw [h]; simp [hρ _ _ h']⟩)
  simp [execOp, hρ _ _ hx, this]
theorem pr_nes {xs ys : Array Value} {b : Bool} (hm : P.eqGuardType P.depth U = false) (hq : ∀ w, (Op.equalIn 10000 U (.agg xs) (.agg ys)).run P w = .ok b w) (hn : Nat.blt d n = true)
    (hx : eop σ x = some (.agg xs)) (hy : eop σ y = some (.agg ys)) (h : G (.bool (!b))) : ∃ v, PR P n σ S d (.binOp .neq U x y TB) T v ∧ G v :=
  ⟨_, ⟨hn, fun ρ hρ w _ dst pos af gd => by simp [execOp, hρ _ _ hx, hρ _ _ hy, run_eqGuard_agg w _ _ _ _ _ _ hm, run_neq_struct, hq]⟩, h⟩
end
/-- In whatever order. -/
def WH (P : Program) (n : Nat) (ops : List Oper) (S : World → Prop) (fuel : Nat) (li : List Bool) (σ : Env) (w : World) (Q : Exit → Act → World → Prop) : Prop :=
  ∀ a, St n σ a → wpAnyH P .any ops.toArray Q S fuel li.toArray a w
section
variable {n : Nat} {σ : Env} {S : World → Prop} {Q : Exit → Act → World → Prop} {w w0 : World} {ops : List Oper} {fuel : Nat} {li : List Bool} {L : List Res} {X : List Nat}
theorem drew_below (w : World) : Below w.heap.size w w.drew := ⟨rfl, rfl, rfl, Nat.le_refl _, fun _ _ => rfl⟩
theorem W.regionH {id : Nat} (hm : P.follows .mixedOrders = true) (X : List Nat) (hB : Below w0.heap.size w0 w) (hS : Sep w0.heap.size w L)
    (h : ∀ w', Below w.heap.size w w' → Below w0.heap.size w0 w' → Sep w0.heap.size w' L → WH P n ops (KeepX w' X) ops.length (List.replicate ops.length false) σ w' Q) : W P n (.region id ops.toArray true) σ w Q := by
  intro a ha
  refine wp_region_held (S := KeepX w.drew X) hm ?_
  have hb := drew_below w
  have := h w.drew hb (hB.trans (hb.mono hB.size)) (hS.below hb) a ha
  simpa using this
theorem wantedOn {g : Nat} {s : Tmp} {b want : Bool} {a : Act} (ha : St n σ a) (hs : (ops.map (·.dst))[g]? = some (some s)) (hv : eget σ s = some (.bool b)) : yielded ops.toArray a.tmps g = some b := by
  unfold yielded
  have : (ops.toArray[g]?).bind (·.dst) = some s := by
    simp only [List.getElem?_map] at hs
    cases h : ops[g]? with
    | none => rw [h] at hs; cases hs
    | some o => rw [h] at hs; simp [h]; simpa using hs
  rw [this]
  simp [ha.get s _ hv]
variable {d : Nat} {op : Op} {T : TypeId} {pos : String} {af : Array Edge}
theorem WH.takex {i : Nat} (hi : ops[i]? = some ⟨some d, op, T, pos, af, none⟩) (hs : Region.noSelect ops.toArray = true) (hf : Region.free .any ops.toArray li.toArray i = true) (hr : (Region.ready .any ops.toArray li.toArray).contains i = true)
    (hQ : PanicOk Q) (hw : S w) (h : ∃ v, PR P n σ S d op T v ∧ WH P n ops S fuel (li.set i true) ((d, v) :: σ) w Q) : WH P n ops S (fuel + 1) li σ w Q := by
  intro a ha
  obtain ⟨v, ⟨hn, hpr⟩, h⟩ := h
  refine wpAnyH_take (i := i) (oi := ⟨some d, op, T, pos, af, none⟩) (v := v) (by simpa using hi) hs hf hr (fun c a w => hQ c a _ _ w) (.inl ⟨by simp [Region.wanted], fun w hw => hpr a.eval (fun x v hx => ha.eval hx) w hw _ _ _ _⟩) hw ?_
  have := h _ (ha.put v hn)
  simpa using this
theorem WH.takexg {i g : Nat} {s : Tmp} {b want : Bool} (hi : ops[i]? = some ⟨some d, op, T, pos, af, some (g, want)⟩) (hs : Region.noSelect ops.toArray = true) (hf : Region.free .any ops.toArray li.toArray i = true) (hr : (Region.ready .any ops.toArray li.toArray).contains i = true)
    (hQ : PanicOk Q) (hgs : (ops.map (·.dst))[g]? = some (some s)) (hgv : eget σ s = some (.bool b)) (hgb : b = want) (hw : S w) (h : ∃ v, PR P n σ S d op T v ∧ WH P n ops S fuel (li.set i true) ((d, v) :: σ) w Q) : WH P n ops S (fuel + 1) li σ w Q := by
  intro a ha
  obtain ⟨v, ⟨hn, hpr⟩, h⟩ := h
  refine wpAnyH_take (i := i) (oi := ⟨some d, op, T, pos, af, some (g, want)⟩) (v := v) (by simpa using hi) hs hf hr (fun c a w => hQ c a _ _ w) (.inl ⟨by simp [Region.wanted, wantedOn (want := want) ha hgs hgv, hgb], fun w hw => hpr a.eval (fun x v hx => ha.eval hx) w hw _ _ _ _⟩) hw ?_
  have := h _ (ha.put v hn)
  simpa using this
theorem WH.off {i g : Nat} {s : Tmp} {b want : Bool} (hi : ops[i]? = some ⟨some d, op, T, pos, af, some (g, want)⟩) (hs : Region.noSelect ops.toArray = true) (hf : Region.free .any ops.toArray li.toArray i = true) (hr : (Region.ready .any ops.toArray li.toArray).contains i = true)
    (hQ : PanicOk Q) (hgs : (ops.map (·.dst))[g]? = some (some s)) (hgv : eget σ s = some (.bool b)) (hgb : b = !want) (hn : Nat.blt d n = true) (hw : S w) (h : WH P n ops S fuel (li.set i true) ((d, undef) :: σ) w Q) : WH P n ops S (fuel + 1) li σ w Q := by
  intro a ha
  refine wpAnyH_take (i := i) (oi := ⟨some d, op, T, pos, af, some (g, want)⟩) (v := undef) (by simpa using hi) hs hf hr (fun c a w => hQ c a _ _ w) (.inr ⟨by simp [Region.wanted, wantedOn (want := want) ha hgs hgv, hgb], rfl⟩) hw ?_
  have := h _ (ha.put undef hn)
  simpa using this
theorem WH.offu {i g : Nat} {s : Tmp} {want : Bool} (hi : ops[i]? = some ⟨some d, op, T, pos, af, some (g, want)⟩) (hs : Region.noSelect ops.toArray = true) (hf : Region.free .any ops.toArray li.toArray i = true) (hr : (Region.ready .any ops.toArray li.toArray).contains i = true)
    (hQ : PanicOk Q) (hgs : (ops.map (·.dst))[g]? = some (some s)) (hgv : eget σ s = some undef) (hn : Nat.blt d n = true) (hw : S w) (h : WH P n ops S fuel (li.set i true) ((d, undef) :: σ) w Q) : WH P n ops S (fuel + 1) li σ w Q := by
  intro a ha
  have hy : yielded ops.toArray a.tmps g = none := by
    unfold yielded
    have : (ops.toArray[g]?).bind (·.dst) = some s := by
      simp only [List.getElem?_map] at hgs
      cases h : ops[g]? with
      | none => rw [h] at hgs; cases hgs
      | some o => rw [h] at hgs; simp [h]; simpa using hgs
    rw [this]
    simp [ha.get s _ hgv, undef]
  refine wpAnyH_take (i := i) (oi := ⟨some d, op, T, pos, af, some (g, want)⟩) (v := undef) (by simpa using hi) hs hf hr (fun c a w => hQ c a _ _ w) (.inr ⟨by simp [Region.wanted, hy], rfl⟩) hw ?_
  have := h _ (ha.put undef hn)
  simpa using this
/-- One operation alone may come up: by the rules of a region in the order of the text. -/
theorem wpOp_of_WL {i : Nat} {o : Oper} {K : Act → World → Prop} {a : Act} (hi : ops[i]? = some o) (h : WL P n (ops.map (·.dst)) [o] σ w (Exit.then K Q)) (ha : St n σ a) : wpOp P ops.toArray Q i K a w := by
  have hl := h ops.toArray (by simp [dsts]) a ha
  unfold wpOp
  have hi' : ops.toArray[i]? = some o := by simpa using hi
  simp only [hi']
  unfold wpList at hl
  split
  · rename_i hw
    rw [if_pos hw] at hl
    rcases hl with hl | ⟨h1, a', w', h2⟩
    · left
      unfold Oper.wp Oper.upon at hl ⊢
      generalize (execOp a.eval o).run P w = r at hl
      cases r with
      | ok x w' => cases x <;> exact hl
      | halt x w' => cases x <;> exact hl
    · exact .inr ⟨h1, a', w', h2⟩
  · rename_i hw
    rw [if_neg hw] at hl
    exact hl
theorem WH.one {i : Nat} {o : Oper} (hr : Region.ready .any ops.toArray li.toArray = [i]) (hi : ops[i]? = some o)
    (h : WL P n (ops.map (·.dst)) [o] σ w (Exit.then (fun a w => S w ∧ wpAnyH P .any ops.toArray Q S fuel (li.set i true).toArray a w) Q)) : WH P n ops S (fuel + 1) li σ w Q := by
  intro a ha
  refine wpAnyH_all hr (by simp) fun j hj => ?_
  simp at hj
  subst hj
  have := wpOp_of_WL hi h ha
  simpa using this
theorem WH.two {i j : Nat} {o o' : Oper} (hr : Region.ready .any ops.toArray li.toArray = [i, j]) (hi : ops[i]? = some o) (hj : ops[j]? = some o')
    (h : WL P n (ops.map (·.dst)) [o] σ w (Exit.then (fun a w => S w ∧ wpAnyH P .any ops.toArray Q S fuel (li.set i true).toArray a w) Q))
    (h' : WL P n (ops.map (·.dst)) [o'] σ w (Exit.then (fun a w => S w ∧ wpAnyH P .any ops.toArray Q S fuel (li.set j true).toArray a w) Q)) : WH P n ops S (fuel + 1) li σ w Q := by
  intro a ha
  refine wpAnyH_all hr (by simp) fun k hk => ?_
  simp at hk
  rcases hk with rfl | rfl
  · have := wpOp_of_WL hi h ha
    simpa using this
  · have := wpOp_of_WL hj h' ha
    simpa using this
theorem WH.ret (hw : S w) (h : WH P n ops S fuel li σ w Q) : ∀ a, St n σ a → Exit.then (fun a w => S w ∧ wpAnyH P .any ops.toArray Q S fuel li.toArray a w) Q .normal a w :=
  fun a ha => ⟨hw, h a ha⟩
theorem WH.done (hr : Region.ready .any ops.toArray li.toArray = []) (h : ∀ a, St n σ a → Q .normal a w) : WH P n ops S fuel li σ w Q :=
  fun a ha => wpAnyH_done hr (h a ha) fuel
end
end Go.Proofs.YtejhnpimhjmpdaaDoor
