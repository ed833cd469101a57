/-
  CORE, 1: states by known slots; a judgement for regions and codes; rules for operations that look at no memory. Over any program.
-/
import Derived.Test.YtejhnpimhjmpdaaDoorRows
import Derived.Test.YtejhnpimhjmpdaaDoorCore0
import Derived.WalkKit
import Derived.Laws.StructEq
namespace Go.Proofs.YtejhnpimhjmpdaaDoor
open Go

abbrev Env := List (Nat × Value)
def eget : Env → Nat → Option Value
  | [], _ => none
  | (k, v) :: r, i => bif Nat.beq k i then some v else eget r i
structure St (n : Nat) (σ : Env) (a : Act) : Prop where
  size : a.tmps.size = n
  defs : a.defers = []
  get : ∀ i v, eget σ i = some v → a.tmps[i]? = some v
def eop (σ : Env) : Operand → Option Value
  | .tmp t => eget σ t
  | .const v => some v
  | .global g => some (.pointer (some ⟨g, 0, none⟩))
  | .func f => some (.func (.func f) #[] #[])
theorem St.eval {n : Nat} {σ : Env} {a : Act} (h : St n σ a) {x : Operand} {v : Value} (hx : eop σ x = some v) : a.eval x = v := by
  cases x with
  | tmp t =>
    have := h.get t v hx
    simp [Act.eval, this]
  | const u => exact Option.some.inj hx
  | global g => exact Option.some.inj hx
  | func f => exact Option.some.inj hx
theorem St.put {n : Nat} {σ : Env} {a : Act} (h : St n σ a) {d : Nat} (v : Value) (hd : Nat.blt d n = true) : St n ((d, v) :: σ) (a.put (some d) v) := by
  have hd' : d < n := by simpa using hd
  refine ⟨by simp [Act.put, h.size], h.defs, fun i u hi => ?_⟩
  simp only [Act.put]
  rw [eget] at hi
  by_cases e : d = i
  · subst e
    simp [cond] at hi
    rw [Array.getElem?_setIfInBounds_self_of_lt (by rw [h.size]; exact hd'), hi]
  · have : Nat.beq d i = false := by
      cases hb : Nat.beq d i with
      | false => rfl
      | true => exact absurd (Nat.eq_of_beq_eq_true hb) e
    simp [this] at hi
    rw [Array.getElem?_setIfInBounds_ne e]
    exact h.get i u hi
/-- Every known slot of the second is known in the first. -/
def Sub (σ : Env) : Env → Prop
  | [] => True
  | (i, v) :: r => eget σ i = some v ∧ Sub σ r
theorem Sub.get {σ : Env} : ∀ {τ : Env}, Sub σ τ → ∀ i v, eget τ i = some v → eget σ i = some v
  | [], _, i, v, h => by simp [eget] at h
  | (k, u) :: r, hs, i, v, h => by
    rw [eget] at h
    cases hb : Nat.beq k i with
    | true =>
      simp [hb] at h
      have e : k = i := Nat.eq_of_beq_eq_true hb
      rw [← e, ← h]
      exact hs.1
    | false =>
      simp [hb] at h
      exact Sub.get hs.2 i v h
theorem St.sub {n : Nat} {σ τ : Env} {a : Act} (h : St n σ a) (hs : Sub σ τ) : St n τ a :=
  ⟨h.size, h.defs, fun i v hi => h.get i v (hs.get i v hi)⟩
theorem St.init {n : Nat} {args : List Value} {σ : Env} (hn : args.length + (n - args.length) = n) (hσ : σ = args.zipIdx.map (fun p => (p.2, p.1))) :
    St n σ { tmps := args.toArray ++ Array.replicate (n - args.toArray.size) undef, defers := [] } := by
  subst hσ
  refine ⟨by simp; omega, rfl, fun i v h => ?_⟩
  have key : ∀ (l : List Value) (k : Nat), eget ((l.zipIdx k).map (fun p => (p.2, p.1))) i = some v → k ≤ i ∧ l[i - k]? = some v := by
    intro l
    induction l with
    | nil => intro k h; simp [eget] at h
    | cons x r ih =>
      intro k hk
      simp only [List.zipIdx_cons, List.map_cons, eget] at hk
      cases hb : Nat.beq k i with
      | true =>
        simp only [hb, cond_true, Option.some.injEq] at hk
        have e : k = i := Nat.eq_of_beq_eq_true hb
        subst e
        simp [hk]
      | false =>
        simp [hb] at hk
        obtain ⟨h1, h2⟩ := ih (k + 1) hk
        refine ⟨by omega, ?_⟩
        rw [show i - k = (i - (k + 1)) + 1 by omega, List.getElem?_cons_succ]
        exact h2
  have h2 := (key args 0 h).2
  simp only [Nat.sub_zero] at h2
  have hlt : i < args.length := by
    rcases Nat.lt_or_ge i args.length with hl | hl
    · exact hl
    · rw [List.getElem?_eq_none hl] at h2; cases h2
  show (args.toArray ++ Array.replicate (n - args.toArray.size) undef)[i]? = some v
  rw [Array.getElem?_append_left (by simpa using hlt)]
  simpa using h2

/-- The operations' own temporaries. -/
def dsts (ops : Array Oper) : List (Option Tmp) := ops.toList.map (·.dst)
def WL (P : Program) (n : Nat) (ds : List (Option Tmp)) (l : List Oper) (σ : Env) (w : World) (Q : Exit → Act → World → Prop) : Prop :=
  ∀ ops, dsts ops = ds → ∀ a, St n σ a → wpList P ops Q l a w
def W (P : Program) (n : Nat) (c : Code) (σ : Env) (w : World) (Q : Exit → Act → World → Prop) : Prop :=
  ∀ a, St n σ a → c.wp P Q a w
section
variable {P : Program} {n : Nat} {σ : Env} {w : World} {Q : Exit → Act → World → Prop}

theorem W.seq {x y : Code} (h : ∀ K : Act → World → Prop, (∀ σ w, W P n y σ w Q → ∀ a, St n σ a → K a w) → W P n x σ w (Exit.then K Q)) : W P n (.seq x y) σ w Q :=
  fun a ha => wp_seq (h _ (fun _ _ hW a ha => hW a ha) a ha)
theorem W.region {id : Nat} {l : List Oper} (h : WL P n (l.map (·.dst)) l σ w Q) : W P n (.region id l.toArray false) σ w Q :=
  fun a ha => wp_region_lit (h l.toArray (by simp [dsts]) a ha)
theorem W.cond {c : Operand} {x y : Code} {t : Bool} (hc : eop σ c = some (.bool t)) (ht : t = true → W P n x σ w Q) (hf : t = false → W P n y σ w Q) :
    W P n (.cond c x y) σ w Q :=
  fun a ha => wp_cond_split (ha.eval hc) (fun h => ht h a ha) (fun h => hf h a ha)
theorem W.block {id : Nat} {c : Code} (h : W P n c σ w (Exit.inBlock id Q)) : W P n (.block id c) σ w Q :=
  fun a ha => wp_block (h a ha)
theorem W.skip (h : ∀ a, St n σ a → Q .normal a w) : W P n .skip σ w Q := fun a ha => wp_skip (h a ha)
theorem W.exit {id : Nat} (h : ∀ a, St n σ a → Q (.exit id) a w) : W P n (.exit id) σ w Q := fun a ha => wp_exit (h a ha)
theorem W.ret (h : ∀ a, St n σ a → Q .ret a w) : W P n .ret σ w Q := fun a ha => wp_ret (h a ha)
theorem WL.nil {ds : List (Option Tmp)} (h : ∀ a, St n σ a → Q .normal a w) : WL P n ds [] σ w Q := fun _ _ a ha => wpList_nil (h a ha)

open Classical in
/-- A loop, by a relation that bears its own fuel. -/
theorem W.loop {c : Code} (I : Nat → Act → World → Prop) (m0 : Nat) (h0 : ∀ a, St n σ a → I m0 a w)
    (hr : ∀ m a w, I m a w → c.wp P (Exit.then (fun a' w' => ∃ m', m' < m ∧ I m' a' w') Q) a w) : W P n (.loop c) σ w Q := by
  intro a ha
  have least : ∀ a w, (∃ m, I m a w) → ∃ m, I m a w ∧ ∀ k, I k a w → m ≤ k := by
    intro a w ⟨m, hm⟩
    induction m using Nat.strongRecOn with
    | _ m ih =>
      by_cases hk : ∃ k, k < m ∧ I k a w
      · obtain ⟨k, hlt, hI⟩ := hk
        exact ih k hlt hI
      · exact ⟨m, hm, fun k hI => Nat.le_of_not_lt fun hlt => hk ⟨k, hlt, hI⟩⟩
  refine wp_loop (fun a w => ∃ m, I m a w) (fun a w => if h : ∃ m, I m a w then Classical.choose (least a w h) else 0) ⟨m0, h0 a ha⟩ ?_
  intro a w hI
  have hs := Classical.choose_spec (least a w hI)
  refine Code.wp_mono (fun e a' w' hq => ?_) (hr _ a w hs.1)
  cases e with
  | normal =>
    obtain ⟨m', hlt, hI'⟩ := hq
    refine ⟨⟨m', hI'⟩, ?_⟩
    rw [dif_pos hI, dif_pos (⟨m', hI'⟩ : ∃ m, I m a' w')]
    have hs' := Classical.choose_spec (least a' w' ⟨m', hI'⟩)
    exact Nat.lt_of_le_of_lt (hs'.2 m' hI') hlt
  | _ => exact hq

/-! ### Operations -/
variable {ds : List (Option Tmp)} {d : Nat} {T : TypeId} {pos : String} {af : Array Edge} {rest : List Oper} {x y z : Operand}
theorem wl_run {op : Op} {v : Value} {w' : World} (hn : Nat.blt d n = true)
    (hr : ∀ ρ : Operand → Value, (∀ x v, eop σ x = some v → ρ x = v) → (execOp ρ ⟨some d, op, T, pos, af, none⟩).run P w = .ok (.value v) w')
    (h : WL P n ds rest ((d, v) :: σ) w' Q) : WL P n ds (⟨some d, op, T, pos, af, none⟩ :: rest) σ w Q := by
  intro ops ho a ha
  refine wpList_plain rfl fun K hK => ?_
  unfold Oper.wp
  rw [hr a.eval (fun x v hx => ha.eval hx)]
  exact hK _ _ (h ops ho _ (ha.put v hn))
theorem wl_u {op : Op} {w' : World}
    (hr : ∀ ρ : Operand → Value, (∀ x v, eop σ x = some v → ρ x = v) → (execOp ρ ⟨none, op, T, pos, af, none⟩).run P w = .ok .skip w')
    (h : WL P n ds rest σ w' Q) : WL P n ds (⟨none, op, T, pos, af, none⟩ :: rest) σ w Q := by
  intro ops ho a ha
  refine wpList_plain rfl fun K hK => ?_
  unfold Oper.wp
  rw [hr a.eval (fun x v hx => ha.eval hx)]
  exact hK _ _ (h ops ho _ ha)
theorem wl_move {v : Value} (hn : Nat.blt d n = true) (hx : eop σ x = some v) (h : WL P n ds rest ((d, v) :: σ) w Q) :
    WL P n ds (⟨some d, .move x, T, pos, af, none⟩ :: rest) σ w Q :=
  wl_run hn (fun ρ hρ => by simp [execOp, hρ _ _ hx]) h
theorem wl_assign {v : Value} (hn : Nat.blt d n = true) (hx : eop σ x = some v) (h : WL P n ds rest ((d, v) :: σ) w Q) :
    WL P n ds (⟨some d, .assign x, T, pos, af, none⟩ :: rest) σ w Q :=
  wl_run hn (fun ρ hρ => by simp [execOp, hρ _ _ hx]) h
theorem wl_pick_t {v : Value} {b : Bool} (hn : Nat.blt d n = true) (hx : eop σ x = some (.bool b)) (hb : b = true) (hy : eop σ y = some v) (h : WL P n ds rest ((d, v) :: σ) w Q) :
    WL P n ds (⟨some d, .pick x y z, T, pos, af, none⟩ :: rest) σ w Q :=
  wl_run hn (fun ρ hρ => by subst hb; simp [execOp, hρ _ _ hx, hρ _ _ hy, asBool]) h
theorem wl_pick_f {v : Value} {b : Bool} (hn : Nat.blt d n = true) (hx : eop σ x = some (.bool b)) (hb : b = false) (hy : eop σ z = some v) (h : WL P n ds rest ((d, v) :: σ) w Q) :
    WL P n ds (⟨some d, .pick x y z, T, pos, af, none⟩ :: rest) σ w Q :=
  wl_run hn (fun ρ hρ => by subst hb; simp [execOp, hρ _ _ hx, hρ _ _ hy, asBool]) h
/-- A guarded operation that is carried out. -/
theorem wl_on {g : Nat} {s : Tmp} {b want : Bool} {dst : Option Tmp} {op : Op} (hs : ds[g]? = some (some s)) (hv : eget σ s = some (.bool b)) (hb : b = want)
    (h : WL P n ds (⟨dst, op, T, pos, af, none⟩ :: rest) σ w Q) : WL P n ds (⟨dst, op, T, pos, af, some (g, want)⟩ :: rest) σ w Q := by
  intro ops ho a ha
  have hd : (ops[g]?).bind (·.dst) = some s := by
    rw [← ho] at hs
    simp only [dsts, List.getElem?_map, Array.getElem?_toList] at hs
    cases hg : ops[g]? with
    | none => rw [hg] at hs; cases hs
    | some o' => rw [hg] at hs; simpa using hs
  have hy : yielded ops a.tmps g = some want := by
    unfold yielded
    rw [hd]
    simp [ha.get s _ hv, hb]
  have hh := h ops ho a ha
  unfold wpList at hh ⊢
  simp only [Region.wanted, hy, if_true, beq_self_eq_true] at hh ⊢
  rcases hh with hh | hh
  · exact .inl hh
  · exact .inr hh
/-- A guarded operation that is passed over. -/
theorem wl_off {g : Nat} {s : Tmp} {b want : Bool} {op : Op} (hn : Nat.blt d n = true) (hs : ds[g]? = some (some s)) (hv : eget σ s = some (.bool b)) (hb : b = !want)
    (h : WL P n ds rest ((d, undef) :: σ) w Q) : WL P n ds (⟨some d, op, T, pos, af, some (g, want)⟩ :: rest) σ w Q := by
  intro ops ho a ha
  have hd : (ops[g]?).bind (·.dst) = some s := by
    rw [← ho] at hs
    simp only [dsts, List.getElem?_map, Array.getElem?_toList] at hs
    cases hg : ops[g]? with
    | none => rw [hg] at hs; cases hs
    | some o' => rw [hg] at hs; simpa using hs
  have hy : yielded ops a.tmps g = some (!want) := by
    unfold yielded
    rw [hd]
    simp [ha.get s _ hv, hb]
  unfold wpList
  rw [if_neg (by simp [Region.wanted, hy])]
  exact h ops ho _ (ha.put undef hn)
/-! integers, bools -/
variable {k : IntKind} {a b : Int} {U : TypeId}
theorem wl_add (hn : Nat.blt d n = true) (hx : eop σ x = some (.int k a)) (hy : eop σ y = some (.int k b)) (h : WL P n ds rest ((d, .int k (k.wrap (a + b))) :: σ) w Q) :
    WL P n ds (⟨some d, .binOp .add T x y U, T, pos, af, none⟩ :: rest) σ w Q :=
  wl_run hn (fun ρ hρ => by simp [execOp, hρ _ _ hx, hρ _ _ hy, eqGuard, binOp, Op.intArith]) h
theorem wl_sub (hn : Nat.blt d n = true) (hx : eop σ x = some (.int k a)) (hy : eop σ y = some (.int k b)) (h : WL P n ds rest ((d, .int k (k.wrap (a - b))) :: σ) w Q) :
    WL P n ds (⟨some d, .binOp .sub T x y U, T, pos, af, none⟩ :: rest) σ w Q :=
  wl_run hn (fun ρ hρ => by simp [execOp, hρ _ _ hx, hρ _ _ hy, eqGuard, binOp, Op.intArith]) h
theorem wl_mul (hn : Nat.blt d n = true) (hx : eop σ x = some (.int k a)) (hy : eop σ y = some (.int k b)) (h : WL P n ds rest ((d, .int k (k.wrap (a * b))) :: σ) w Q) :
    WL P n ds (⟨some d, .binOp .mul T x y U, T, pos, af, none⟩ :: rest) σ w Q :=
  wl_run hn (fun ρ hρ => by simp [execOp, hρ _ _ hx, hρ _ _ hy, eqGuard, binOp, Op.intArith]) h
theorem wl_quo (hn : Nat.blt d n = true) (hx : eop σ x = some (.int k a)) (hy : eop σ y = some (.int k b)) (hb : b ≠ 0) (h : WL P n ds rest ((d, .int k (k.wrap (a.tdiv b))) :: σ) w Q) :
    WL P n ds (⟨some d, .binOp .quo T x y U, T, pos, af, none⟩ :: rest) σ w Q :=
  wl_run hn (fun ρ hρ => by simp [execOp, hρ _ _ hx, hρ _ _ hy, eqGuard, binOp, Op.intDiv, hb]) h
theorem wl_rem (hn : Nat.blt d n = true) (hx : eop σ x = some (.int k a)) (hy : eop σ y = some (.int k b)) (hb : b ≠ 0) (h : WL P n ds rest ((d, .int k (a.tmod b)) :: σ) w Q) :
    WL P n ds (⟨some d, .binOp .rem T x y U, T, pos, af, none⟩ :: rest) σ w Q :=
  wl_run hn (fun ρ hρ => by simp [execOp, hρ _ _ hx, hρ _ _ hy, eqGuard, binOp, Op.intDiv, hb]) h
variable {TB : TypeId}
theorem wl_lss (hn : Nat.blt d n = true) (hx : eop σ x = some (.int k a)) (hy : eop σ y = some (.int k b)) (h : WL P n ds rest ((d, .bool (decide (a < b))) :: σ) w Q) :
    WL P n ds (⟨some d, .binOp .lss T x y U, TB, pos, af, none⟩ :: rest) σ w Q :=
  wl_run hn (fun ρ hρ => by simp [execOp, hρ _ _ hx, hρ _ _ hy, eqGuard, binOp, Op.intCmp]) h
theorem wl_leq (hn : Nat.blt d n = true) (hx : eop σ x = some (.int k a)) (hy : eop σ y = some (.int k b)) (h : WL P n ds rest ((d, .bool (decide (a ≤ b))) :: σ) w Q) :
    WL P n ds (⟨some d, .binOp .leq T x y U, TB, pos, af, none⟩ :: rest) σ w Q :=
  wl_run hn (fun ρ hρ => by simp [execOp, hρ _ _ hx, hρ _ _ hy, eqGuard, binOp, Op.intCmp]) h
theorem wl_gtr (hn : Nat.blt d n = true) (hx : eop σ x = some (.int k a)) (hy : eop σ y = some (.int k b)) (h : WL P n ds rest ((d, .bool (decide (b < a))) :: σ) w Q) :
    WL P n ds (⟨some d, .binOp .gtr T x y U, TB, pos, af, none⟩ :: rest) σ w Q :=
  wl_run hn (fun ρ hρ => by simp [execOp, hρ _ _ hx, hρ _ _ hy, eqGuard, binOp, Op.intCmp]) h
theorem wl_geq (hn : Nat.blt d n = true) (hx : eop σ x = some (.int k a)) (hy : eop σ y = some (.int k b)) (h : WL P n ds rest ((d, .bool (decide (b ≤ a))) :: σ) w Q) :
    WL P n ds (⟨some d, .binOp .geq T x y U, TB, pos, af, none⟩ :: rest) σ w Q :=
  wl_run hn (fun ρ hρ => by simp [execOp, hρ _ _ hx, hρ _ _ hy, eqGuard, binOp, Op.intCmp]) h
theorem wl_eql (hn : Nat.blt d n = true) (hx : eop σ x = some (.int k a)) (hy : eop σ y = some (.int k b)) (h : WL P n ds rest ((d, .bool (a == b)) :: σ) w Q) :
    WL P n ds (⟨some d, .binOp .eql T x y U, TB, pos, af, none⟩ :: rest) σ w Q :=
  wl_run hn (fun ρ hρ => by simp [execOp, hρ _ _ hx, hρ _ _ hy, eqGuard, binOp, Op.intCmp]) h
theorem wl_neq (hn : Nat.blt d n = true) (hx : eop σ x = some (.int k a)) (hy : eop σ y = some (.int k b)) (h : WL P n ds rest ((d, .bool (a != b)) :: σ) w Q) :
    WL P n ds (⟨some d, .binOp .neq T x y U, TB, pos, af, none⟩ :: rest) σ w Q :=
  wl_run hn (fun ρ hρ => by simp [execOp, hρ _ _ hx, hρ _ _ hy, eqGuard, binOp, Op.intCmp]) h
variable {p q : Bool}
theorem wl_not (hn : Nat.blt d n = true) (hx : eop σ x = some (.bool p)) (h : WL P n ds rest ((d, .bool (!p)) :: σ) w Q) :
    WL P n ds (⟨some d, .unOp .not T x, TB, pos, af, none⟩ :: rest) σ w Q :=
  wl_run hn (fun ρ hρ => by simp [execOp, hρ _ _ hx, Op.unary]) h
theorem run_equal_bool (hT : P.underlying T = some .bool) : (Op.equal T (.bool p) (.bool q)).run P w = .ok (p == q) w := by
  unfold Op.equal Op.maxDepth
  rw [Op.equalIn]
  simp only [Sem.run_bind, run_underlying hT, Result.andThen_ok, Sem.run_pure]
theorem wl_neqb (hT : P.underlying T = some .bool) (hn : Nat.blt d n = true) (hx : eop σ x = some (.bool p)) (hy : eop σ y = some (.bool q)) (h : WL P n ds rest ((d, .bool (p != q)) :: σ) w Q) :
    WL P n ds (⟨some d, .binOp .neq T x y U, TB, pos, af, none⟩ :: rest) σ w Q :=
  wl_run hn (fun ρ hρ => by simp only [execOp, hρ _ _ hx, hρ _ _ hy, eqGuard_at_bool, binOp, Sem.run_bind, Sem.run_pure, run_equal_bool hT, Result.andThen_ok, bne]) h
theorem wl_extract {vs : Array Value} {i : Nat} {v : Value} (hn : Nat.blt d n = true) (hx : eop σ x = some (.tuple vs)) (hv : vs[i]? = some v) (h : WL P n ds rest ((d, v) :: σ) w Q) :
    WL P n ds (⟨some d, .extract x i, T, pos, af, none⟩ :: rest) σ w Q :=
  wl_run hn (fun ρ hρ => by simp [execOp, hρ _ _ hx, Instr.extract, hv]) h
/-! calls -/
theorem eops_eval {xs : List Operand} {vs : List Value} (hx : xs.map (eop σ) = vs.map some) (ρ : Operand → Value) (hρ : ∀ x v, eop σ x = some v → ρ x = v) : xs.map ρ = vs := by
  induction xs generalizing vs with
  | nil => cases vs <;> simp_all
  | cons x r ih =>
    cases vs with
    | nil => simp at hx
    | cons v s =>
      simp only [List.map_cons, List.cons.injEq] at hx ⊢
      exact ⟨hρ _ _ hx.1, ih hx.2⟩
theorem wl_call {f : FuncId} {xs : List Operand} {ts : Array TypeId} {vs : List Value} {R : Ending → World → Prop} (hn : Nat.blt d n = true)
    (hcf : ∀ args w, (callFunc f args).run P w = .ok (.enter f args) w) (hc : Calls P f vs.toArray w R) (hx : xs.map (eop σ) = vs.map some)
    (h : ∀ e w', R e w' → ∃ v, e = .returned v ∧ WL P n ds rest ((d, v) :: σ) w' Q) :
    WL P n ds (⟨some d, .call ⟨.value (.func f), xs.toArray, ts⟩, T, pos, af, none⟩ :: rest) σ w Q := by
  intro ops ho a ha
  refine wpList_plain rfl fun K hK => ?_
  unfold Oper.wp
  have he : (execOp a.eval ⟨some d, .call ⟨.value (.func f), xs.toArray, ts⟩, T, pos, af, none⟩).run P w = .ok (.enter f vs.toArray) w := by
    have hxs := eops_eval hx a.eval (fun x v hx => ha.eval hx)
    simp [execOp, resolve, Deferred.ofValue, invoke, hcf, hxs, Act.eval]
  rw [he]
  simp only [Oper.upon]
  refine hc.mono fun e w' hR => ?_
  obtain ⟨v, rfl, hv⟩ := h e w' hR
  exact hK _ _ (hv ops ho _ (ha.put v hn))
end
/-- A function's own contract out of its code. -/
theorem calls_mk {P : Program} {f : FuncId} {fn : Func} {c : Code} {args : List Value} {w : World} {R : Ending → World → Prop} {n : Nat}
    (hf : P.funcs[f]? = some fn) (hb : fn.body = some c) (hn : fn.ntmps = n) (hl : args.length + (n - args.length) = n) {σ : Env} (hσ : σ = args.zipIdx.map (fun p => (p.2, p.1)))
    (h : W P n c σ w (bodyPost P fn R)) : Calls P f args.toArray w R := by
  subst hn
  exact calls_of_wp hf hb (h _ (St.init hl hσ))
end Go.Proofs.YtejhnpimhjmpdaaDoor
