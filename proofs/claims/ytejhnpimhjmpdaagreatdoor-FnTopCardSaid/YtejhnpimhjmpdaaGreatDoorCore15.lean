/-
  CORE, 15: slices of slices of one's own: prefixes that are appended to, tails that are cleared. Over any program.
-/
import Derived.Test.YtejhnpimhjmpdaaGreatDoorCore14
set_option linter.unusedSimpArgs false
set_option linter.unusedVariables false
namespace Go.Proofs.YtejhnpimhjmpdaaGreatDoor
open Go Go.RowKit
variable {P : Program} {α : Type} {n : Nat} {ds : List (Option Tmp)} {d : Nat} {T U : TypeId} {pos : String} {af : Array Edge} {rest : List Oper} {x y z : Operand} {σ : Env} {w w0 : World} {Q : Exit → Act → World → Prop} {L M : List Res} {S : World → Prop} {G : Value → Prop}
/-- 'v[lo:hi]' as a value. -/
def SlOf (sz : Nat) (v v' : Value) (lo hi : Nat) : Prop := ∃ a n c, v = .slice a n c ∧ v' = .slice (if c = lo then a else a.map (·.add (lo * sz))) (hi - lo) (c - lo)
theorem sl_le {l u : List α} {lo hi : Int} (h : sl l lo hi = some u) : hi.toNat ≤ l.length ∧ u = (l.take hi.toNat).drop lo.toNat := by
  unfold sl at h
  split at h
  · exact ⟨by omega, (Option.some.inj h).symm⟩
  · cases h
theorem Sep.shrink {base : Nat} {w : World} {M : List Res} {r r' : Res} (h : Sep base w (r :: M)) (hnd : r'.fp.Nodup) (hsub : ∀ b ∈ r'.fp, b ∈ r.fp) (hok : ∀ w', (∀ b ∈ r'.fp, w'.heap[b]? = w.heap[b]?) → r'.ok w') : Sep base w (r' :: M) := by
  obtain ⟨h1, h2⟩ := h
  cases h2 with
  | cons hd ht =>
    refine ⟨fun s hs => ?_, .cons (fun s hs b hb => hd s hs b (hsub b hb)) ht⟩
    cases hs with
    | head =>
      have hg := h1 r (by simp)
      exact ⟨hnd, fun b hb => hg.2.1 b (hsub b hb), hok⟩
    | tail _ hs => exact h1 s (.tail _ hs)
theorem run_sliceOf {e : Ty P α} {a : Option Addr} {len cap : Nat} {lo hi : Int} (hu : P.underlying U = some (.slice e.tid)) (h0 : 0 ≤ lo) (h1 : lo ≤ hi) (h2 : hi ≤ (cap : Int)) (hlc : len ≤ cap) (vlo vhi vmax : Option Value) (w : World)
    (hlo : (vlo = none ∧ lo = 0) ∨ ∃ k, vlo = some (.int k lo)) (hhi : (vhi = none ∧ hi = len) ∨ ∃ k, vhi = some (.int k hi)) (hm : vmax = none) :
    (Instr.sliceAt U (.slice a len cap) vlo vhi vmax).run P w = .ok (.slice (if cap = lo.toNat then a else a.map (·.add (lo.toNat * e.sz))) (hi.toNat - lo.toNat) (cap - lo.toNat)) w := by
  subst hm
  obtain ⟨i, z, hinfo, hsz, _⟩ := e.info
  have key : (Instr.sliceBounds true len cap vlo vhi none).run P w = .ok (lo.toNat, hi.toNat, cap) w := by
    have hh : 0 ≤ hi ∧ hi ≤ (cap : Int) := ⟨by omega, h2⟩
    rcases hhi with ⟨rfl, rfl⟩ | ⟨k, rfl⟩
    · rcases hlo with ⟨rfl, rfl⟩ | ⟨k', rfl⟩
      · simp [Instr.sliceBounds]
      · have hlo' : 0 ≤ lo ∧ lo ≤ (len : Int) := ⟨h0, h1⟩
        simp [Instr.sliceBounds, Instr.sliceBound, asIntOf, hlo']
    · rcases hlo with ⟨rfl, rfl⟩ | ⟨k', rfl⟩
      · simp [Instr.sliceBounds, Instr.sliceBound, asIntOf, hh]
      · have e1 : ((hi.toNat : Nat) : Int) = hi := by omega
        have hlo' : 0 ≤ lo ∧ lo ≤ ((hi.toNat : Nat) : Int) := ⟨h0, by omega⟩
        simp only [Instr.sliceBounds, Instr.sliceBound, asIntOf, Sem.run_bind, Sem.run_pure, Result.andThen_ok, hh, and_self, if_true, hlo', Option.isSome_none]
  simp [Instr.sliceAt, Instr.slice, run_underlying hu, key, sizeOf, typeInfo, hinfo, hsz]
/-- 'v[lo:hi]' within the length, with what it reads and what it is. -/
theorem wl_sliceof {e : Ty P α} {S1 : Nat → Prop} {w1 : World} {v : Value} {l m : List α} {lo hi : Int} {olo ohi : Option Operand} (hu : P.underlying U = some (.slice e.tid)) (hn : Nat.blt d n = true)
    (hx : eop σ x = some v) (hr : rdS e S1 w1 v l) (hm : sl l lo hi = some m)
    (hlo : (olo = none ∧ lo = 0) ∨ ∃ o k, olo = some o ∧ eop σ o = some (.int k lo)) (hhi : (ohi = none ∧ hi = l.length) ∨ ∃ o k, ohi = some o ∧ eop σ o = some (.int k hi))
    (h : ∀ v', rdS e S1 w1 v' m → SlOf e.sz v v' lo.toNat hi.toNat → WL P n ds rest ((d, v') :: σ) w Q) : WL P n ds (⟨some d, .slice U x olo ohi none, T, pos, af, none⟩ :: rest) σ w Q := by
  obtain ⟨v', hrun, hr'⟩ := run_slice_rd hu hr hm
  obtain ⟨a, cap, hv, hc, _⟩ := hr
  unfold sl at hm
  split at hm
  case isFalse => cases hm
  rename_i hb
  have hlo' : (olo.map (fun _ => Value.int .i64 lo) = none ∧ lo = 0) ∨ ∃ k, olo.map (fun _ => Value.int .i64 lo) = some (.int k lo) := by
    rcases hlo with ⟨h, h'⟩ | ⟨o, k, h, _⟩
    · exact .inl ⟨by rw [h]; rfl, h'⟩
    · exact .inr ⟨.i64, by rw [h]; rfl⟩
  have hhi' : (ohi.map (fun _ => Value.int .i64 hi) = none ∧ hi = l.length) ∨ ∃ k, ohi.map (fun _ => Value.int .i64 hi) = some (.int k hi) := by
    rcases hhi with ⟨h, h'⟩ | ⟨o, k, h, _⟩
    · exact .inl ⟨by rw [h]; rfl, h'⟩
    · exact .inr ⟨.i64, by rw [h]; rfl⟩
  have h1 := hrun _ _ w hlo' hhi'
  have h2 := run_sliceOf (P := P) (e := e) (a := a) (len := l.length) (cap := cap) hu hb.1 hb.2.1 (by omega) hc _ _ none w hlo' hhi' rfl
  rw [hv] at h1
  rw [h1] at h2
  injection h2 with h2 _
  refine wl_run hn (fun ρ hρ => ?_) (h v' hr' ⟨a, l.length, cap, hv, h2⟩)
  have := hrun (olo.map ρ) (ohi.map ρ) w (hlo.imp (fun ⟨h, h'⟩ => ⟨by rw [h]; rfl, h'⟩) fun ⟨o, k, h, h'⟩ => ⟨k, by rw [h]; simp [hρ _ _ h']⟩)
    (hhi.imp (fun ⟨h, h'⟩ => ⟨by rw [h]; rfl, h'⟩) fun ⟨o, k, h, h'⟩ => ⟨k, by rw [h]; simp [hρ _ _ h']⟩)
  simp [execOp, hρ _ _ hx, this]
theorem SlOf.inv {sz : Nat} {a : Option Addr} {n c lo hi : Nat} {v' : Value} (h : SlOf sz (.slice a n c) v' lo hi) : v' = .slice (if c = lo then a else a.map (·.add (lo * sz))) (hi - lo) (c - lo) := by
  obtain ⟨a', n', c', e, h⟩ := h
  cases e
  exact h
theorem sub_flatten {Fs Gs : List (List Nat)} (h : Gs.Sublist Fs) : Gs.flatten.Sublist Fs.flatten := by
  induction h with
  | slnil => exact .slnil
  | cons a _ ih => rw [List.flatten_cons]; exact List.Sublist.trans ih (List.sublist_append_right _ _)
  | cons_cons a _ ih => rw [List.flatten_cons, List.flatten_cons]; exact List.Sublist.append (List.Sublist.refl _) ih
theorem Z3.take {R : List Nat → List Value → α → Prop} : ∀ (k : Nat) {Fs : List (List Nat)} {css : List (List Value)} {l : List α}, Z3 R Fs css l → Z3 R (Fs.take k) (css.take k) (l.take k)
  | 0, _, _, _, _ => by simp only [List.take_zero]; trivial
  | k + 1, [], [], [], h => by simp only [List.take_nil]; trivial
  | k + 1, _ :: _, _ :: _, _ :: _, h => by simp only [List.take_succ_cons]; exact ⟨h.1, Z3.take k h.2⟩
theorem Z3.drop {R : List Nat → List Value → α → Prop} : ∀ (k : Nat) {Fs : List (List Nat)} {css : List (List Value)} {l : List α}, Z3 R Fs css l → Z3 R (Fs.drop k) (css.drop k) (l.drop k)
  | 0, _, _, _, h => by simpa only [List.drop_zero] using h
  | k + 1, [], [], [], h => by simp only [List.drop_nil]; trivial
  | k + 1, _ :: _, _ :: _, _ :: _, h => by simp only [List.drop_succ_cons]; exact Z3.drop k h.2
theorem flatten_take {sz : Nat} : ∀ (css : List (List Value)) (k : Nat), (∀ c ∈ css, c.length = sz) → k ≤ css.length → css.flatten.take (k * sz) = (css.take k).flatten
  | css, 0, _, _ => by simp
  | [], k + 1, _, h => by simp at h
  | c :: css, k + 1, hc, h => by
    have h1 := hc c (by simp)
    rw [List.flatten_cons, List.take_succ_cons, List.flatten_cons, Nat.succ_mul, Nat.add_comm, ← h1, List.take_length_add_append, h1, flatten_take css k (fun c hc' => hc c (by simp [hc'])) (by simpa using h)]
/-- A prefix of what is owned is owned. -/
theorem own_pre {e : Ty P α} {F : List Nat} {v v' : Value} {l : List α} {k : Nat} (ho : ownS e F w v l) (hnd : F.Nodup) (hs : SlOf e.sz v v' 0 k) (hk : k ≤ l.length) : ∃ F', ownS e F' w v' (l.take k) ∧ F'.Nodup ∧ ∀ b ∈ F', b ∈ F := by
  rcases ho with ⟨rfl, rfl, rfl⟩ | ⟨g, cap, cur, css, Fs, rfl, hg, hn, hm, hc, ht, hz, rfl⟩
  · have hv := hs.inv
    simp at hk
    subst hk
    exact ⟨[], .inl ⟨by simpa using hv, by simp, rfl⟩, .nil, fun _ h => h⟩
  · have hv := hs.inv
    have hv' : v' = .slice (some ⟨g, 0, none⟩) k cap := by
      rw [hv]
      by_cases h0 : cap = 0
      · simp [h0]
      · simp [h0, Addr.add_zero']
    obtain ⟨n1, n2⟩ := hz.len
    refine ⟨g :: (Fs.take k).flatten, .inr ⟨g, cap, cur, css.take k, Fs.take k, by rw [hv', List.length_take, Nat.min_eq_left hk], hg, by rw [List.length_take]; omega, hm, hc, ?_, Z3.take k hz, rfl⟩, ?_, fun b hb => ?_⟩
    · rw [List.length_take, Nat.min_eq_left hk, ← flatten_take css k hz.sz (by omega), ← ht, List.take_take, Nat.min_eq_left (Nat.mul_le_mul_right _ hk)]
    · exact List.Nodup.sublist (List.Sublist.cons_cons g (sub_flatten (List.take_sublist k Fs))) hnd
    · exact (List.Sublist.cons_cons g (sub_flatten (List.take_sublist k Fs))).subset hb
/-- A function without results. -/
theorem calls_mkn' {f : FuncId} {fn : Func} {c : Code} {args : List Value} {w : World} {R : Ending → World → Prop} {n : Nat}
    (hf : P.funcs[f]? = some fn) (hb : fn.body = some c) (hn : fn.ntmps = n) (hl : args.length + (n - args.length) = n) {σ : Env} (hσ : σ = args.zipIdx.map (fun p => (p.2, p.1)))
    (h : ∀ Q : Exit → Act → World → Prop, (∀ a w, bodyPost P fn R .normal a w → Q .normal a w) → (∀ a w, bodyPost P fn R .ret a w → Q .ret a w) → PanicOk Q → W P n c σ w Q) : Calls P f args.toArray w R :=
  calls_mk hf hb hn hl hσ (h _ (fun _ _ h => h) (fun _ _ h => h) fun c a d v w h => by cases d <;> exact h)
theorem retsn {fn : Func} {R : Ending → World → Prop} {rs : List ResultVar} {vs : List Value} {Q : Exit → Act → World → Prop} (hQ : ∀ a w, bodyPost P fn R .normal a w → Q .normal a w) (hr : fn.results = rs.toArray) (h0 : RVs P n σ w rs vs) (h : R (.returned (tupV vs)) w) :
    ∀ a, St n σ a → Q .normal a w :=
  rets (Q := fun _ a w => Q .normal a w) (fun a w h => hQ a w h) hr h0 h
/-- Outside of what is lent: old memory that a function which writes only reads. -/
def Out (X : List Nat) (w : World) (b : Nat) : Prop := b < w.heap.size ∧ b ∉ X
theorem rest_ok {base i : Nat} {X : List Nat} (hS : Sep base w L) (hg : lget L i = some (R.rest w0 X)) : (∀ b, Out X w0 b → w.heap[b]? = w0.heap[b]?) ∧ ∀ b, Out X w0 b → b < w.heap.size :=
  ⟨fun b hb => (hS.ok hg : ∀ b, b < w0.heap.size → b ∉ X → w.heap[b]? = w0.heap[b]?) b hb.1 hb.2, fun b hb => ((hS.get hg).2.1 b (rest_fp.2 hb)).2⟩
theorem rdS.rst {e : Ty P α} {base i : Nat} {X : List Nat} {v : Value} {l : List α} (h : rdS e (Out X w0) w0 v l) (hS : Sep base w L) (hg : lget L i = some (R.rest w0 X)) : rdS e (· < w.heap.size) w v l :=
  (h.keep (rest_ok hS hg).1).mono (rest_ok hS hg).2
theorem EAt.keepS {S S' : Nat → Prop} {p : Addr} {cs : List Value} {w w' : World} (h : EAt S w p cs) (hk : ∀ b, S b → w'.heap[b]? = w.heap[b]?) (hm : ∀ b, S b → S' b) : EAt S' w' p cs :=
  ⟨hm _ h.1, fun j c hc => by
    rw [cell_keep (w := w) (w' := w') (a := p.add j) (by rw [add_block]; exact hk _ h.1)]
    exact h.2 j c hc⟩
theorem EAt.rst {base i : Nat} {X : List Nat} {p : Addr} {cs : List Value} (h : EAt (Out X w0) w0 p cs) (hS : Sep base w L) (hg : lget L i = some (R.rest w0 X)) : EAt (· < w.heap.size) w p cs :=
  h.keepS (rest_ok hS hg).1 (rest_ok hS hg).2
theorem out_rest {base : Nat} {X : List Nat} (hS : Sep base w (R.rest w0 X :: M)) : ∀ b, Out X w0 b → Out (fps M) w b := fun b hb =>
  ⟨(rest_ok (i := 0) hS rfl).2 b hb, fun hm => by
    obtain ⟨s, hs, hb'⟩ := mem_fps.1 hm
    have hd := hS.2
    cases hd with
    | cons h1 _ => exact h1 s hs b (rest_fp.2 hb) hb'⟩
theorem rdS.rsto {e : Ty P α} {base : Nat} {X : List Nat} {v : Value} {l : List α} (h : rdS e (Out X w0) w0 v l) (hS : Sep base w (R.rest w0 X :: M)) : rdS e (Out (fps M) w) w v l :=
  (h.keep (rest_ok (i := 0) hS rfl).1).mono (out_rest hS)
theorem EAt.rsto {base : Nat} {X : List Nat} {p : Addr} {cs : List Value} (h : EAt (Out X w0) w0 p cs) (hS : Sep base w (R.rest w0 X :: M)) : EAt (Out (fps M) w) w p cs :=
  h.keepS (rest_ok (i := 0) hS rfl).1 (out_rest hS)
theorem old_out (hS : Sep w0.heap.size w M) (hB : Below w0.heap.size w0 w) : ∀ b, b < w0.heap.size → Out (fps M) w b := fun b hb =>
  ⟨Nat.lt_of_lt_of_le hb hB.size, fun hm => by
    obtain ⟨s, hs, hb'⟩ := mem_fps.1 hm
    have := ((hS.1 s hs).2.1 b hb').1
    omega⟩
theorem rdS.oldo {e : Ty P α} {v : Value} {l : List α} (h : rdS e (· < w0.heap.size) w0 v l) (hB : Below w0.heap.size w0 w) (hS : Sep w0.heap.size w M) : rdS e (Out (fps M) w) w v l :=
  (h.keep fun b hlt => hB.block b hlt).mono (old_out hS hB)
theorem EAt.oldo {p : Addr} {cs : List Value} (h : EAt (· < w0.heap.size) w0 p cs) (hB : Below w0.heap.size w0 w) (hS : Sep w0.heap.size w M) : EAt (Out (fps M) w) w p cs :=
  h.keepS (fun b hlt => hB.block b hlt) (old_out hS hB)
theorem fp_out {base : Nat} {r : Res} (hS : Sep base w (r :: M)) : ∀ b ∈ r.fp, Out (fps M) w b := fun b hb =>
  ⟨((hS.get (i := 0) rfl).2.1 b hb).2, fun hm => by
    obtain ⟨s, hs, hb'⟩ := mem_fps.1 hm
    have hd := hS.2
    cases hd with
    | cons h1 _ => exact h1 s hs b hb hb'⟩
theorem own_out {e : Ty P α} {base : Nat} {F : List Nat} {v : Value} {l : List α} (hS : Sep base w (R.own e F v l :: M)) : rdS e (Out (fps M) w) w v l :=
  (hS.ok (i := 0) rfl : ownS e F w v l).rd.mono (fp_out hS)
end Go.Proofs.YtejhnpimhjmpdaaGreatDoor
