/-
  CORE, 2: data in memory: shapes of data, what is read, what is owned; separated resources. Over any program.
-/
import Derived.Test.YtmkignciedkidaaCore1
namespace Go.Proofs.Ytmkignciedkidaa
open Go Go.RowKit

/-! ### Three lists side by side -/
def Z3 {A B C : Type} (R : A → B → C → Prop) : List A → List B → List C → Prop
  | [], [], [] => True
  | a :: xs, b :: ys, c :: zs => R a b c ∧ Z3 R xs ys zs
  | _, _, _ => False
section
variable {A B C : Type} {R R' : A → B → C → Prop}
theorem Z3.mono (h : ∀ a b c, R a b c → R' a b c) : ∀ {xs : List A} {ys : List B} {zs : List C}, Z3 R xs ys zs → Z3 R' xs ys zs
  | [], [], [], _ => trivial
  | _ :: _, _ :: _, _ :: _, hz => ⟨h _ _ _ hz.1, Z3.mono h hz.2⟩
  | [], [], _ :: _, hz => hz.elim
  | [], _ :: _, _, hz => hz.elim
  | _ :: _, [], _, hz => hz.elim
  | _ :: _, _ :: _, [], hz => hz.elim
theorem Z3.len : ∀ {xs : List A} {ys : List B} {zs : List C}, Z3 R xs ys zs → xs.length = zs.length ∧ ys.length = zs.length
  | [], [], [], _ => ⟨rfl, rfl⟩
  | _ :: _, _ :: _, _ :: _, hz => by
    have := Z3.len hz.2
    simp [this.1, this.2]
  | [], [], _ :: _, hz => hz.elim
  | [], _ :: _, _, hz => hz.elim
  | _ :: _, [], _, hz => hz.elim
  | _ :: _, _ :: _, [], hz => hz.elim
theorem Z3.get : ∀ {xs : List A} {ys : List B} {zs : List C}, Z3 R xs ys zs → ∀ (i : Nat) c, zs[i]? = some c → ∃ a b, xs[i]? = some a ∧ ys[i]? = some b ∧ R a b c
  | [], [], [], _, i, c, hc => by simp at hc
  | a :: xs, b :: ys, c0 :: zs, hz, 0, c, hc => by
    simp at hc
    subst hc
    exact ⟨a, b, rfl, rfl, hz.1⟩
  | a :: xs, b :: ys, c0 :: zs, hz, i + 1, c, hc => by
    simp at hc
    obtain ⟨a', b', h1, h2, h3⟩ := Z3.get hz.2 i c hc
    exact ⟨a', b', by simpa using h1, by simpa using h2, h3⟩
  | [], [], _ :: _, hz, _, _, _ => hz.elim
  | [], _ :: _, _, hz, _, _, _ => hz.elim
  | _ :: _, [], _, hz, _, _, _ => hz.elim
  | _ :: _, _ :: _, [], hz, _, _, _ => hz.elim
theorem Z3.app : ∀ {xs : List A} {ys : List B} {zs : List C} {xs2 : List A} {ys2 : List B} {zs2 : List C}, Z3 R xs ys zs → Z3 R xs2 ys2 zs2 → Z3 R (xs ++ xs2) (ys ++ ys2) (zs ++ zs2)
  | [], [], [], _, _, _, _, h => h
  | _ :: _, _ :: _, _ :: _, _, _, _, hz, h => ⟨hz.1, Z3.app hz.2 h⟩
  | [], [], _ :: _, _, _, _, hz, _ => hz.elim
  | [], _ :: _, _, _, _, _, hz, _ => hz.elim
  | _ :: _, [], _, _, _, _, hz, _ => hz.elim
  | _ :: _, _ :: _, [], _, _, _, hz, _ => hz.elim
theorem Z3.set : ∀ {xs : List A} {ys : List B} {zs : List C}, Z3 R xs ys zs → ∀ (i : Nat) a b c, i < zs.length → R a b c → Z3 R (xs.set i a) (ys.set i b) (zs.set i c)
  | [], [], [], _, i, _, _, _, hi, _ => by simp at hi
  | _ :: _, _ :: _, _ :: _, hz, 0, _, _, _, _, h => ⟨h, hz.2⟩
  | _ :: _, _ :: _, _ :: _, hz, i + 1, a, b, c, hi, h => ⟨hz.1, Z3.set hz.2 i a b c (by simpa using hi) h⟩
  | [], [], _ :: _, hz, _, _, _, _, _, _ => hz.elim
  | [], _ :: _, _, hz, _, _, _, _, _, _ => hz.elim
  | _ :: _, [], _, hz, _, _, _, _, _, _ => hz.elim
  | _ :: _, _ :: _, [], hz, _, _, _, _, _, _ => hz.elim
theorem Z3.of : ∀ {xs : List A} {ys : List B} {zs : List C}, xs.length = zs.length → ys.length = zs.length → (∀ (i : Nat) a b c, xs[i]? = some a → ys[i]? = some b → zs[i]? = some c → R a b c) → Z3 R xs ys zs
  | [], [], [], _, _, _ => trivial
  | a :: xs, b :: ys, c :: zs, h1, h2, h => ⟨h 0 a b c rfl rfl rfl, Z3.of (by simpa using h1) (by simpa using h2) fun i a b c ha hb hc => h (i + 1) a b c (by simpa using ha) (by simpa using hb) (by simpa using hc)⟩
  | [], _, _ :: _, h1, _, _ => by simp at h1
  | _ :: _, _, [], h1, _, _ => by simp at h1
  | [], _ :: _, [], _, h2, _ => by simp at h2
  | _ :: _, [], _ :: _, _, h2, _ => by simp at h2
end

/-! ### Shapes -/
/-- What a datum of a type is in memory: its cells as read ('rd': by blocks in 'S' alone), as owned ('own': by just the blocks of 'F'). -/
structure Sh (α : Type) where
  sz : Nat
  zero : List Value
  dflt : α
  rd : (Nat → Prop) → World → List Value → α → Prop
  own : List Nat → World → List Value → α → Prop
  rd_len : ∀ {S w cs x}, rd S w cs x → cs.length = sz
  rd_one : ∀ {S w cs x}, rd S w cs x → ∀ c ∈ cs, c.oneCell' = true
  rd_keep : ∀ {S w w' cs x}, rd S w cs x → (∀ b, S b → w'.heap[b]? = w.heap[b]?) → rd S w' cs x
  rd_mono : ∀ {S S' w cs x}, rd S w cs x → (∀ b, S b → S' b) → rd S' w cs x
  own_keep : ∀ {F w w' cs x}, own F w cs x → (∀ b ∈ F, w'.heap[b]? = w.heap[b]?) → own F w' cs x
  own_rd : ∀ {F w cs x}, own F w cs x → rd (· ∈ F) w cs x
  own_lt : ∀ {F w cs x}, own F w cs x → ∀ b ∈ F, b < w.heap.size
  zero_own : ∀ w, own [] w zero dflt
def isAggD : TypeDesc → Bool
  | .struct _ | .array _ _ => true
  | _ => false
/-- A Go type of the program with its shape. -/
structure Ty (P : Program) (α : Type) extends Sh α where
  tid : TypeId
  bts : Nat
  agg : Bool
  sz_pos : 0 < sz
  bts_le : bts ≤ 65536
  info : ∃ i z, P.info? tid = some i ∧ i.size = sz ∧ i.bytes = bts ∧ i.zero = some z ∧ z.cells = zero.toArray
  und : ∃ d, P.underlying tid = some d ∧ isAggD d = agg
  one1 : agg = false → sz = 1
def Sh.flat {α : Type} (f : α → List Value) (sz : Nat) (dflt : α) (hl : ∀ x, (f x).length = sz) (h1 : ∀ x, ∀ c ∈ f x, c.oneCell' = true) : Sh α where
  sz := sz
  zero := f dflt
  dflt := dflt
  rd := fun _ _ cs x => cs = f x
  own := fun F _ cs x => F = [] ∧ cs = f x
  rd_len := fun h => by rw [h]; exact hl _
  rd_one := fun h => by rw [h]; exact h1 _
  rd_keep := fun h _ => h
  rd_mono := fun h _ => h
  own_keep := fun h _ => h
  own_rd := fun h => h.2
  own_lt := fun h b hb => by rw [h.1] at hb; cases hb
  zero_own := fun _ => ⟨rfl, rfl⟩
def Sh.prod {α β : Type} (s : Sh α) (t : Sh β) : Sh (α × β) where
  sz := s.sz + t.sz
  zero := s.zero ++ t.zero
  dflt := (s.dflt, t.dflt)
  rd := fun S w cs x => ∃ a b, cs = a ++ b ∧ s.rd S w a x.1 ∧ t.rd S w b x.2
  own := fun F w cs x => ∃ a b Fa Fb, cs = a ++ b ∧ F = Fa ++ Fb ∧ s.own Fa w a x.1 ∧ t.own Fb w b x.2
  rd_len := fun ⟨a, b, h, ha, hb⟩ => by rw [h, List.length_append, s.rd_len ha, t.rd_len hb]
  rd_one := fun ⟨a, b, h, ha, hb⟩ c hc => by
    rw [h] at hc
    rcases List.mem_append.1 hc with hc | hc
    · exact s.rd_one ha c hc
    · exact t.rd_one hb c hc
  rd_keep := fun ⟨a, b, h, ha, hb⟩ hk => ⟨a, b, h, s.rd_keep ha hk, t.rd_keep hb hk⟩
  rd_mono := fun ⟨a, b, h, ha, hb⟩ hk => ⟨a, b, h, s.rd_mono ha hk, t.rd_mono hb hk⟩
  own_keep := fun ⟨a, b, Fa, Fb, h, hF, ha, hb⟩ hk => ⟨a, b, Fa, Fb, h, hF, s.own_keep ha fun x hx => hk x (by rw [hF]; exact List.mem_append_left _ hx), t.own_keep hb fun x hx => hk x (by rw [hF]; exact List.mem_append_right _ hx)⟩
  own_rd := fun ⟨a, b, Fa, Fb, h, hF, ha, hb⟩ => ⟨a, b, h, s.rd_mono (s.own_rd ha) fun x hx => by rw [hF]; exact List.mem_append_left _ hx, t.rd_mono (t.own_rd hb) fun x hx => by rw [hF]; exact List.mem_append_right _ hx⟩
  own_lt := fun ⟨a, b, Fa, Fb, h, hF, ha, hb⟩ x hx => by
    rw [hF] at hx
    rcases List.mem_append.1 hx with hx | hx
    · exact s.own_lt ha x hx
    · exact t.own_lt hb x hx
  zero_own := fun w => ⟨_, _, [], [], rfl, rfl, s.zero_own w, t.zero_own w⟩
variable {P : Program}
/-- An element's place. -/
def ElemAt {α : Type} (e : Ty P α) (S : Nat → Prop) (w : World) (p : Addr) (x : α) : Prop :=
  S p.block ∧ ∃ cs, e.rd S w cs x ∧ ∀ (j : Nat) c, cs[j]? = some c → w.cell? (p.add j) = some c
def rdS {α : Type} (e : Ty P α) (S : Nat → Prop) (w : World) (v : Value) (l : List α) : Prop :=
  ∃ a cap, v = .slice a l.length cap ∧ l.length ≤ cap ∧ (l = [] ∨ ∃ ad : Addr, a = some ad ∧ ∀ (i : Nat) x, l[i]? = some x → ElemAt e S w (ad.add (i * e.sz)) x)
def ownS {α : Type} (e : Ty P α) (F : List Nat) (w : World) (v : Value) (l : List α) : Prop :=
  (v = .slice none 0 0 ∧ l = [] ∧ F = []) ∨
  ∃ g cap cur css Fs, v = .slice (some ⟨g, 0, none⟩) l.length cap ∧ w.heap[g]? = some (.cells cur e.tid (0, 0)) ∧ l.length ≤ cap ∧ cap ≤ maxLen ∧ cur.size = cap * e.sz ∧
    cur.toList.take (l.length * e.sz) = css.flatten ∧ Z3 (fun F cs x => e.own F w cs x) Fs css l ∧ F = g :: Fs.flatten
theorem cell_keep {w w' : World} {a : Addr} (h : w'.heap[a.block]? = w.heap[a.block]?) : w'.cell? a = w.cell? a := World.cell?_of_block h
theorem add_block (a : Addr) (n : Nat) : (a.add n).block = a.block := by unfold Addr.add; split <;> rfl
theorem add_add (a : Addr) (n m : Nat) : (a.add n).add m = a.add (n + m) := by
  unfold Addr.add
  by_cases h1 : n = 0 <;> by_cases h2 : m = 0 <;> simp [h1, h2] <;> omega
theorem ElemAt.keep {α : Type} {e : Ty P α} {S : Nat → Prop} {w w' : World} {p : Addr} {x : α} (h : ElemAt e S w p x) (hk : ∀ b, S b → w'.heap[b]? = w.heap[b]?) : ElemAt e S w' p x := by
  obtain ⟨h1, cs, h2, h3⟩ := h
  refine ⟨h1, cs, e.rd_keep h2 hk, fun j c hc => ?_⟩
  exact (cell_keep (w := w) (w' := w') (a := p.add j) (by rw [add_block]; exact hk _ h1)).trans (h3 j c hc)
theorem ElemAt.mono {α : Type} {e : Ty P α} {S S' : Nat → Prop} {w : World} {p : Addr} {x : α} (h : ElemAt e S w p x) (hk : ∀ b, S b → S' b) : ElemAt e S' w p x := by
  obtain ⟨h1, cs, h2, h3⟩ := h
  exact ⟨hk _ h1, cs, e.rd_mono h2 hk, h3⟩
theorem flatten_get {cs : List (List Value)} {sz : Nat} (h : ∀ c ∈ cs, c.length = sz) : ∀ (i j : Nat) c, cs[i]? = some c → ∀ u, c[j]? = some u → cs.flatten[i * sz + j]? = some u := by
  induction cs with
  | nil => intro i j c hc; simp at hc
  | cons d r ih =>
    intro i j c hc u hu
    have hd : d.length = sz := h d (by simp)
    cases i with
    | zero =>
      simp at hc
      subst hc
      rw [List.flatten_cons, List.getElem?_append_left (by simp; exact (List.getElem?_eq_some_iff.1 hu).1)]
      simpa using hu
    | succ i =>
      simp at hc
      rw [List.flatten_cons, List.getElem?_append_right (by rw [hd, Nat.succ_mul]; omega), hd, show (i + 1) * sz + j - sz = i * sz + j by rw [Nat.succ_mul]; omega]
      exact ih (fun c hc => h c (by simp [hc])) i j c hc u hu
theorem Z3.sz {α : Type} {e : Ty P α} {w : World} {Fs : List (List Nat)} {css : List (List Value)} {l : List α} (hz : Z3 (fun F cs x => e.own F w cs x) Fs css l) : ∀ c ∈ css, c.length = e.sz := by
  intro c hc
  obtain ⟨i, hi⟩ := List.getElem?_of_mem hc
  have hlt : i < l.length := by rw [← hz.len.2]; exact (List.getElem?_eq_some_iff.1 hi).1
  obtain ⟨a, b, _, h2, h3⟩ := hz.get i l[i] (by simp [hlt])
  rw [hi] at h2
  cases h2
  exact e.rd_len (e.own_rd h3)
theorem flatten_len {cs : List (List Value)} {sz : Nat} (h : ∀ c ∈ cs, c.length = sz) : cs.flatten.length = cs.length * sz := by
  induction cs with
  | nil => simp
  | cons d r ih =>
    rw [List.flatten_cons, List.length_append, ih (fun c hc => h c (by simp [hc])), h d (by simp), List.length_cons, Nat.succ_mul, Nat.add_comm]
theorem ownS.rd {α : Type} {e : Ty P α} {F : List Nat} {w : World} {v : Value} {l : List α} (h : ownS e F w v l) : rdS e (· ∈ F) w v l := by
  rcases h with ⟨rfl, rfl, rfl⟩ | ⟨g, cap, cur, css, Fs, rfl, hg, hn, hm, hc, ht, hz, rfl⟩
  · exact ⟨none, 0, rfl, Nat.le_refl _, .inl rfl⟩
  · refine ⟨_, cap, rfl, hn, .inr ⟨⟨g, 0, none⟩, rfl, fun i x hx => ?_⟩⟩
    obtain ⟨a, b, h1, h2, h3⟩ := hz.get i x hx
    refine ⟨by rw [add_block]; simp, b, e.rd_mono (e.own_rd h3) fun y hy => ?_, fun j c hj => ?_⟩
    · simp only [List.mem_cons, List.mem_flatten]
      exact .inr ⟨a, List.mem_of_getElem? h1, hy⟩
    · rw [add_add, Addr.add_lit, cell_of_row w g _ cur e.tid (0, 0) hg]
      have hf := flatten_get hz.sz i j b h2 c hj
      rw [← ht, List.getElem?_take] at hf
      split at hf
      · simpa using hf
      · cases hf
theorem ownS.keep {α : Type} {e : Ty P α} {F : List Nat} {w w' : World} {v : Value} {l : List α} (h : ownS e F w v l) (hk : ∀ b ∈ F, w'.heap[b]? = w.heap[b]?) : ownS e F w' v l := by
  rcases h with h | ⟨g, cap, cur, css, Fs, hv, hg, hn, hm, hc, ht, hz, rfl⟩
  · exact .inl h
  · refine .inr ⟨g, cap, cur, css, Fs, hv, by rw [hk g (by simp)]; exact hg, hn, hm, hc, ht, ?_, rfl⟩
    refine Z3.of hz.len.1 hz.len.2 fun i a b c ha hb hc => ?_
    obtain ⟨a', b', h1, h2, h3⟩ := hz.get i c hc
    rw [ha] at h1; rw [hb] at h2
    cases h1; cases h2
    exact e.own_keep h3 fun y hy => hk y (by simp only [List.mem_cons, List.mem_flatten]; exact .inr ⟨a, List.mem_of_getElem? ha, hy⟩)
theorem ownS.lt {α : Type} {e : Ty P α} {F : List Nat} {w : World} {v : Value} {l : List α} (h : ownS e F w v l) : ∀ b ∈ F, b < w.heap.size := by
  rcases h with ⟨_, _, rfl⟩ | ⟨g, cap, cur, css, Fs, hv, hg, hn, hm, hc, ht, hz, rfl⟩
  · intro b hb; cases hb
  · intro b hb
    simp only [List.mem_cons, List.mem_flatten] at hb
    rcases hb with rfl | ⟨a, ha, hb⟩
    · exact (Array.getElem?_eq_some_iff.1 hg).1
    · obtain ⟨i, hi⟩ := List.getElem?_of_mem ha
      have hlt : i < l.length := by rw [← hz.len.1]; exact (List.getElem?_eq_some_iff.1 hi).1
      obtain ⟨a', b', h1, _, h3⟩ := hz.get i l[i] (by simp [hlt])
      rw [hi] at h1
      cases h1
      exact e.own_lt h3 b hb
theorem rdS.keep {α : Type} {e : Ty P α} {S : Nat → Prop} {w w' : World} {v : Value} {l : List α} (h : rdS e S w v l) (hk : ∀ b, S b → w'.heap[b]? = w.heap[b]?) : rdS e S w' v l := by
  obtain ⟨a, cap, hv, hn, h⟩ := h
  refine ⟨a, cap, hv, hn, h.imp id fun ⟨ad, ha, hel⟩ => ⟨ad, ha, fun i x hx => (hel i x hx).keep hk⟩⟩
theorem rdS.mono {α : Type} {e : Ty P α} {S S' : Nat → Prop} {w : World} {v : Value} {l : List α} (h : rdS e S w v l) (hk : ∀ b, S b → S' b) : rdS e S' w v l := by
  obtain ⟨a, cap, hv, hn, h⟩ := h
  refine ⟨a, cap, hv, hn, h.imp id fun ⟨ad, ha, hel⟩ => ⟨ad, ha, fun i x hx => (hel i x hx).mono hk⟩⟩
def Sh.slice {α : Type} (e : Ty P α) : Sh (List α) where
  sz := 1
  zero := [.slice none 0 0]
  dflt := []
  rd := fun S w cs l => ∃ v, cs = [v] ∧ rdS e S w v l
  own := fun F w cs l => ∃ v, cs = [v] ∧ ownS e F w v l
  rd_len := fun ⟨v, h, _⟩ => by rw [h]; rfl
  rd_one := fun ⟨v, h, hv⟩ c hc => by
    obtain ⟨a, cap, rfl, _⟩ := hv
    rw [h] at hc
    simp at hc
    rw [hc]
    rfl
  rd_keep := fun ⟨v, h, hv⟩ hk => ⟨v, h, hv.keep hk⟩
  rd_mono := fun ⟨v, h, hv⟩ hk => ⟨v, h, hv.mono hk⟩
  own_keep := fun ⟨v, h, hv⟩ hk => ⟨v, h, hv.keep hk⟩
  own_rd := fun ⟨v, h, hv⟩ => ⟨v, h, hv.rd⟩
  own_lt := fun ⟨v, h, hv⟩ => hv.lt
  zero_own := fun _ => ⟨_, rfl, .inl ⟨rfl, rfl, rfl⟩⟩

/-! ### Resources -/
structure Res where
  fp : List Nat
  ok : World → Prop
def Res.good (base : Nat) (w : World) (r : Res) : Prop :=
  r.fp.Nodup ∧ (∀ b ∈ r.fp, base ≤ b ∧ b < w.heap.size) ∧ ∀ w' : World, (∀ b ∈ r.fp, w'.heap[b]? = w.heap[b]?) → r.ok w'
def Sep (base : Nat) (w : World) (L : List Res) : Prop :=
  (∀ r ∈ L, r.good base w) ∧ L.Pairwise fun r s => ∀ b ∈ r.fp, b ∉ s.fp
/-- A block of known cells. -/
def R.blk (b : Nat) (T : TypeId) (cs : List Value) : Res := ⟨[b], fun w => w.heap[b]? = some (.cells cs.toArray T (0, 0))⟩
/-- A datum that is owned. -/
def R.own {α : Type} (e : Ty P α) (F : List Nat) (v : Value) (l : List α) : Res := ⟨F, fun w => ownS e F w v l⟩
def lget : List Res → Nat → Option Res
  | [], _ => none
  | r :: _, 0 => some r
  | _ :: L, i + 1 => lget L i
def lset : List Res → Nat → Res → List Res
  | [], _, _ => []
  | _ :: L, 0, r' => r' :: L
  | r :: L, i + 1, r' => r :: lset L i r'
theorem lget_eq : ∀ (L : List Res) (i : Nat), lget L i = L[i]?
  | [], _ => by simp [lget]
  | r :: L, 0 => by simp [lget]
  | r :: L, i + 1 => by simp [lget, lget_eq L i]
theorem lset_eq : ∀ (L : List Res) (i : Nat) (r : Res), lset L i r = L.set i r
  | [], _, _ => by simp [lset]
  | r :: L, 0, _ => by simp [lset]
  | r :: L, i + 1, r' => by simp [lset, lset_eq L i r']
section
variable {base : Nat} {w w' : World} {L : List Res} {r r' : Res}
theorem Res.good.ok (h : r.good base w) : r.ok w := h.2.2 w fun _ _ => rfl
theorem Res.good.keep (h : r.good base w) (hs : w.heap.size ≤ w'.heap.size) (hk : ∀ b ∈ r.fp, w'.heap[b]? = w.heap[b]?) : r.good base w' :=
  ⟨h.1, fun b hb => ⟨(h.2.1 b hb).1, Nat.lt_of_lt_of_le (h.2.1 b hb).2 hs⟩, fun w'' hk' => h.2.2 w'' fun b hb => (hk' b hb).trans (hk b hb)⟩
theorem Sep.nil (base : Nat) (w : World) : Sep base w [] := ⟨fun _ h => (by cases h), .nil⟩
theorem Sep.get (h : Sep base w L) {i : Nat} (hg : lget L i = some r) : r.good base w := h.1 r (List.mem_of_getElem? (by rw [← lget_eq]; exact hg))
theorem Sep.ok (h : Sep base w L) {i : Nat} (hg : lget L i = some r) : r.ok w := (h.get hg).ok
theorem Sep.keep (h : Sep base w L) (hs : w.heap.size ≤ w'.heap.size) (hk : ∀ b, base ≤ b → b < w.heap.size → w'.heap[b]? = w.heap[b]?) : Sep base w' L :=
  ⟨fun r hr => (h.1 r hr).keep hs fun b hb => hk b ((h.1 r hr).2.1 b hb).1 ((h.1 r hr).2.1 b hb).2, h.2⟩
theorem Sep.below (h : Sep base w L) (hb : Below w.heap.size w w') : Sep base w' L := h.keep hb.size fun b _ hlt => hb.block b hlt
/-- A new resource, in new memory. -/
theorem Sep.push (h : Sep base w L) (hb : Below w.heap.size w w') (hnd : r.fp.Nodup) (hf : ∀ b ∈ r.fp, w.heap.size ≤ b ∧ b < w'.heap.size) (hbase : base ≤ w.heap.size)
    (hok : ∀ w'' : World, (∀ b ∈ r.fp, w''.heap[b]? = w'.heap[b]?) → r.ok w'') : Sep base w' (r :: L) := by
  have h' := h.below hb
  refine ⟨fun s hs => ?_, List.Pairwise.cons (fun s hs b hb hb' => ?_) h'.2⟩
  · cases hs with
    | head => exact ⟨hnd, fun b hb => ⟨Nat.le_trans hbase (hf b hb).1, (hf b hb).2⟩, hok⟩
    | tail _ hs => exact h'.1 s hs
  · have h1 := (h.1 s hs).2.1 b hb'
    have h2 := hf b hb
    omega
/-- A resource without a place in memory. -/
theorem Sep.push0 (h : Sep base w L) (hf : r.fp = []) (hok : ∀ w'' : World, r.ok w'') : Sep base w (r :: L) := by
  refine ⟨fun s hs => ?_, List.Pairwise.cons (fun s hs b hb hb' => ?_) h.2⟩
  · cases hs with
    | head => exact ⟨(by rw [hf]; exact List.nodup_nil), (fun b hb => by rw [hf] at hb; exact (by cases hb)), fun w'' _ => hok w''⟩
    | tail _ hs => exact h.1 s hs
  · rw [hf] at hb; cases hb
theorem pairwise_get {R : Res → Res → Prop} (hsym : ∀ a b, R a b → R b a) : ∀ {L : List Res}, L.Pairwise R → ∀ (i j : Nat) a b, i ≠ j → L[i]? = some a → L[j]? = some b → R a b
  | [], _, i, _, _, _, _, h, _ => by simp at h
  | c :: L, .cons hc hL, 0, 0, _, _, hne, _, _ => absurd rfl hne
  | c :: L, .cons hc hL, 0, j + 1, a, b, _, ha, hb => by
    simp at ha hb
    subst ha
    exact hc b (List.mem_of_getElem? hb)
  | c :: L, .cons hc hL, i + 1, 0, a, b, _, ha, hb => by
    simp at ha hb
    subst hb
    exact hsym _ _ (hc a (List.mem_of_getElem? ha))
  | c :: L, .cons hc hL, i + 1, j + 1, a, b, hne, ha, hb => by
    simp at ha hb
    exact pairwise_get hsym hL i j a b (by omega) ha hb
theorem disj_symm (a b : Res) (h : ∀ x ∈ a.fp, x ∉ b.fp) : ∀ x ∈ b.fp, x ∉ a.fp := fun x hx hx' => h x hx' hx
theorem Sep.disj (h : Sep base w L) {i j : Nat} (hne : Nat.beq i j = false) (hi : lget L i = some r) (hj : lget L j = some r') : ∀ b ∈ r.fp, b ∉ r'.fp :=
  pairwise_get disj_symm h.2 i j r r' (fun e => by rw [e, Nat.beq_refl] at hne; cases hne) (by rw [← lget_eq]; exact hi) (by rw [← lget_eq]; exact hj)
theorem pairwise_of_get {R : Res → Res → Prop} : ∀ {L : List Res}, (∀ (i j : Nat) a b, i < j → L[i]? = some a → L[j]? = some b → R a b) → L.Pairwise R
  | [], _ => .nil
  | c :: L, h => .cons (fun b hb => by
      obtain ⟨j, hj⟩ := List.getElem?_of_mem hb
      exact h 0 (j + 1) c b (by omega) rfl (by simpa using hj)) (pairwise_of_get fun i j a b hij ha hb => h (i + 1) (j + 1) a b (by omega) (by simpa using ha) (by simpa using hb))
/-- Some of the resources, in an order of one's own. -/
def nodupB : List Nat → Bool
  | [] => true
  | i :: r => !(r.any fun j => Nat.beq i j) && nodupB r
def sel (L : List Res) : List Nat → List Res
  | [] => []
  | i :: r => match lget L i with
    | some x => x :: sel L r
    | none => sel L r
theorem sel_mem : ∀ {is : List Nat} {r : Res}, r ∈ sel L is → ∃ i ∈ is, lget L i = some r
  | [], _, h => by cases h
  | i :: is, r, h => by
    rw [sel] at h
    cases hg : lget L i with
    | none =>
      rw [hg] at h
      obtain ⟨j, hj, hr⟩ := sel_mem h
      exact ⟨j, by simp [hj], hr⟩
    | some x =>
      rw [hg] at h
      cases h with
      | head => exact ⟨i, by simp, hg⟩
      | tail _ h =>
        obtain ⟨j, hj, hr⟩ := sel_mem h
        exact ⟨j, by simp [hj], hr⟩
theorem Sep.sel (h : Sep base w L) (is : List Nat) (hnd : nodupB is = true) : Sep base w (sel L is) := by
  refine ⟨fun r hr => ?_, ?_⟩
  · obtain ⟨i, _, hi⟩ := sel_mem hr
    exact h.get hi
  · induction is with
    | nil => exact .nil
    | cons i is ih =>
      rw [nodupB, Bool.and_eq_true] at hnd
      have ih' := ih hnd.2
      rw [Ytmkignciedkidaa.sel]
      cases hg : lget L i with
      | none => exact ih'
      | some x =>
        refine .cons (fun s hs => ?_) ih'
        obtain ⟨j, hj, hs'⟩ := sel_mem hs
        have hne : Nat.beq i j = false := by
          have := hnd.1
          simp only [Bool.not_eq_true', List.any_eq_false] at this
          cases hb : Nat.beq i j with
          | false => rfl
          | true => exact absurd (Nat.eq_of_beq_eq_true hb) (by simpa using this j hj)
        exact h.disj hne hg hs'
/-- One resource is turned (its blocks, or new ones), nothing else is. -/
theorem Sep.upd (h : Sep base w L) {i : Nat} (hg : lget L i = some r) (hs : w.heap.size ≤ w'.heap.size)
    (hk : ∀ b, base ≤ b → b < w.heap.size → b ∉ r.fp → w'.heap[b]? = w.heap[b]?) (hnd : r'.fp.Nodup) (hf : ∀ b ∈ r'.fp, b ∈ r.fp ∨ (w.heap.size ≤ b ∧ b < w'.heap.size)) (hbase : base ≤ w.heap.size)
    (hok : ∀ w'' : World, (∀ b ∈ r'.fp, w''.heap[b]? = w'.heap[b]?) → r'.ok w'') : Sep base w' (lset L i r') := by
  have hlt : i < L.length := by
    rw [lget_eq] at hg
    exact (List.getElem?_eq_some_iff.1 hg).1
  have hg' : L[i]? = some r := by rw [← lget_eq]; exact hg
  have other : ∀ (j : Nat) s, j ≠ i → L[j]? = some s → ∀ b ∈ s.fp, b ∉ r.fp := fun j s hne hj => pairwise_get disj_symm h.2 j i s r hne hj hg'
  have good' : r'.good base w' := ⟨hnd, fun b hb => by
    rcases hf b hb with h1 | h1
    · have := (h.get hg).2.1 b h1
      exact ⟨this.1, Nat.lt_of_lt_of_le this.2 hs⟩
    · exact ⟨Nat.le_trans hbase h1.1, h1.2⟩, hok⟩
  have dis' : ∀ (j : Nat) s, j ≠ i → L[j]? = some s → ∀ b ∈ s.fp, b ∉ r'.fp := fun j s hne hj b hb hb' => by
    rcases hf b hb' with h1 | h1
    · exact other j s hne hj b hb h1
    · have := (h.1 s (List.mem_of_getElem? hj)).2.1 b hb
      omega
  rw [lset_eq]
  refine ⟨fun s hs' => ?_, pairwise_of_get fun j k a b hjk ha hb => ?_⟩
  · obtain ⟨j, hj⟩ := List.getElem?_of_mem hs'
    by_cases e : j = i
    · subst e
      rw [List.getElem?_set_self hlt] at hj
      cases hj
      exact good'
    · rw [List.getElem?_set_ne (Ne.symm e)] at hj
      have hgd := h.1 s (List.mem_of_getElem? hj)
      exact hgd.keep hs fun b hb => hk b (hgd.2.1 b hb).1 (hgd.2.1 b hb).2 (other j s e hj b hb)
  · by_cases e1 : j = i
    · subst e1
      rw [List.getElem?_set_self hlt] at ha
      cases ha
      rw [List.getElem?_set_ne (by omega)] at hb
      exact disj_symm _ _ (dis' k b (by omega) hb)
    · rw [List.getElem?_set_ne (Ne.symm e1)] at ha
      by_cases e2 : k = i
      · subst e2
        rw [List.getElem?_set_self hlt] at hb
        cases hb
        exact dis' j a (by omega) ha
      · rw [List.getElem?_set_ne (Ne.symm e2)] at hb
        exact pairwise_get disj_symm h.2 j k a b (by omega) ha hb
end
/-- Read memory of the call's beginning, later. -/
theorem rdS.ro {α : Type} {e : Ty P α} {w0 w : World} {v : Value} {l : List α} (h : rdS e (· < w0.heap.size) w0 v l) (hb : Below w0.heap.size w0 w) : rdS e (· < w.heap.size) w v l :=
  (h.keep fun b hlt => hb.block b hlt).mono fun b hlt => Nat.lt_of_lt_of_le hlt hb.size
theorem Sh.ro {α : Type} {e : Sh α} {w0 w : World} {cs : List Value} {l : α} (h : e.rd (· < w0.heap.size) w0 cs l) (hb : Below w0.heap.size w0 w) : e.rd (· < w.heap.size) w cs l :=
  e.rd_mono (e.rd_keep h fun b hlt => hb.block b hlt) fun b hlt => Nat.lt_of_lt_of_le hlt hb.size
theorem Sep.own_ro {α : Type} {e : Ty P α} {base : Nat} {w : World} {L : List Res} {F : List Nat} {v : Value} {l : List α} (h : Sep base w L) {i : Nat} (hg : lget L i = some (R.own e F v l)) : rdS e (· < w.heap.size) w v l :=
  (h.ok hg : ownS e F w v l).rd.mono fun b hb => ((h.get hg).2.1 b hb).2
end Go.Proofs.Ytmkignciedkidaa
