import Derived.Test.YtmkignciedkidaaCore0
import Derived.Test.YtmkignciedkidaaF
/-
  PLAIN BASE: lemmas on the words of Core0, on loops with fuel. No program.
-/
set_option linter.unusedSimpArgs false
set_option linter.unusedVariables false
namespace Go.Proofs.Ytmkignciedkidaa
open Go
theorem w64_eq {x : Int} (h1 : -9223372036854775808 ≤ x) (h2 : x ≤ 9223372036854775807) : w64 x = x := by
  unfold w64 IntKind.wrap
  simp only [IntKind.bits, IntKind.signed]
  simp only [ge_iff_le, Bool.true_and, decide_eq_true_eq]
  split <;> omega
theorem w64_succ {k : Nat} (h : k < 4611686018427387904) : w64 ((k : Int) + 1) = ((k + 1 : Nat) : Int) := by
  rw [w64_eq (by omega) (by omega)]; omega
theorem idx_nat {α : Type} (l : List α) (k : Nat) : idx l (k : Int) = l[k]? := by unfold idx; simp
theorem idx_zero {α : Type} (l : List α) : idx l 0 = l[0]? := by unfold idx; simp
theorem idx_int {α : Type} {l : List α} {i : Int} (h0 : 0 ≤ i) : idx l i = l[i.toNat]? := by unfold idx; rw [if_pos h0]
theorem FU_gt {n : Nat} (h : n < 4611686018427387904) : n < FU := h
theorem sl_take {α : Type} (l : List α) {k : Nat} (h : k ≤ l.length) : sl l 0 (k : Int) = some (l.take k) := by
  unfold sl
  rw [if_pos (by omega)]
  simp
/-- A loop over the numbers below n that ends early where p says no. -/
theorem loopR {R : Type} (f : Nat → Int → Option R) (n : Nat) (p : Nat → Bool) (rest bad : Option R) (hn : n < 4611686018427387904)
    (hs : ∀ m k, k < n → f (m + 1) (k : Int) = if p k = true then f m ((k + 1 : Nat) : Int) else bad) (he : ∀ m, f (m + 1) (n : Int) = rest) : f FU 0 = if (List.range n).all p = true then rest else bad := by
  have key : ∀ d k m, n - k = d → k ≤ n → n - k < m → f m (k : Int) = if (List.range' k (n - k)).all p = true then rest else bad := by
    intro d
    induction d with
    | zero =>
      intro k m hd hk hm
      have : k = n := by omega
      subst this
      cases m with
      | zero => omega
      | succ m => simp [he]
    | succ d ih =>
      intro k m hd hk hm
      cases m with
      | zero => omega
      | succ m =>
        rw [hs m k (by omega), hd, List.range'_succ, List.all_cons]
        cases hp : p k with
        | false => simp
        | true =>
          simp only [if_true, Bool.true_and]
          rw [ih (k + 1) m (by omega) (by omega) (by omega), show n - (k + 1) = d by omega]
  have := key n 0 FU (by omega) (by omega) (FU_gt (by omega))
  simpa [List.range_eq_range'] using this
theorem range_all {α : Type} (l : List α) (p : Nat → Bool) (q : α → Bool) (h : ∀ k x, l[k]? = some x → p k = q x) : (List.range l.length).all p = l.all q := by
  rw [Bool.eq_iff_iff, List.all_eq_true, List.all_eq_true]
  constructor
  · intro h1 x hx
    obtain ⟨k, hk⟩ := List.getElem?_of_mem hx
    rw [← h k x hk]
    exact h1 k (List.mem_range.2 (List.getElem?_eq_some_iff.1 hk).1)
  · intro h1 k hk
    have hk' := List.mem_range.1 hk
    rw [h k l[k] (by simp [hk'])]
    exact h1 _ (List.getElem_mem hk')
/-- A loop over a list that ends early where q says no. -/
theorem loopL {α R : Type} (f : Nat → Int → Option R) (l : List α) (q : α → Bool) (rest bad : Option R) (hn : l.length < 4611686018427387904)
    (hs : ∀ m k x, k < l.length → l[k]? = some x → f (m + 1) (k : Int) = if q x = true then f m ((k + 1 : Nat) : Int) else bad) (he : ∀ m, f (m + 1) (l.length : Int) = rest) : f FU 0 = if l.all q = true then rest else bad := by
  rw [loopR f l.length (fun k => match l[k]? with | some x => q x | none => true) rest bad hn (fun m k hk => ?_) he, range_all l _ q (fun k x hx => by simp [hx])]
  have hx : l[k]? = some l[k] := by simp [hk]
  rw [hs m k l[k] hk hx]
  simp [hx]
/-- A loop that carries a state through the numbers below n. -/
theorem loopS {R S : Type} (f : Nat → S → Int → Option R) (n : Nat) (step : Nat → S → S) (rest : S → Option R) (hn : n < 4611686018427387904)
    (I : Nat → S → Prop) (s0 : S) (h0 : I 0 s0) (hI : ∀ k s, k < n → I k s → I (k + 1) (step k s))
    (hs : ∀ m k s, k < n → I k s → f (m + 1) s (k : Int) = f m (step k s) ((k + 1 : Nat) : Int)) (he : ∀ m s, I n s → f (m + 1) s (n : Int) = rest s) :
    f FU s0 0 = rest ((List.range n).foldl (fun s k => step k s) s0) ∧ I n ((List.range n).foldl (fun s k => step k s) s0) := by
  have key : ∀ d k m s, n - k = d → k ≤ n → n - k < m → I k s → f m s (k : Int) = rest ((List.range' k (n - k)).foldl (fun s k => step k s) s) ∧ I n ((List.range' k (n - k)).foldl (fun s k => step k s) s) := by
    intro d
    induction d with
    | zero =>
      intro k m s hd hk hm hi
      have : k = n := by omega
      subst this
      cases m with
      | zero => omega
      | succ m => simp [he m s hi, hi]
    | succ d ih =>
      intro k m s hd hk hm hi
      cases m with
      | zero => omega
      | succ m =>
        rw [hs m k s (by omega) hi, hd, List.range'_succ, List.foldl_cons]
        have := ih (k + 1) m (step k s) (by omega) (by omega) (by omega) (hI k s (by omega) hi)
        rwa [show n - (k + 1) = d by omega] at this
  have := key n 0 FU s0 (by omega) (by omega) (FU_gt (by omega)) h0
  simpa [List.range_eq_range'] using this
/-! ### Sizes, copies, comparisons (the laws' own) -/
def Szd (o : Option Int) (n : Int) (Q : Prop) : Prop := ∃ r, o = some r ∧ (r < 0 ∨ (0 ≤ r ∧ r ≤ n ∧ Q))
def allS {α : Type} (S : α → Prop) (l : List α) : Prop := l.length ≤ 1048576 ∧ ∀ x ∈ l, S x
theorem idx_lt {α : Type} {l : List α} {k : Nat} (h : k < l.length) : idx l (k : Int) = some l[k] := by rw [idx_nat]; simp [h]
theorem Szd.imp {o : Option Int} {n : Int} {Q R : Prop} (h : Szd o n Q) (hi : Q → R) : Szd o n R := by
  obtain ⟨r, h1, h2⟩ := h
  exact ⟨r, h1, h2.imp id fun h => ⟨h.1, h.2.1, hi h.2.2⟩⟩
theorem eqL {α : Type} {S : α → Prop} (f : Nat → Int → Option Bool) (l : List α) (g : α → α → Option Bool)
    (hs : ∀ m k, f (m + 1) k = if (decide (k < (List.length l : Int))) = true then Option.bind (idx l k) fun u => Option.bind (idx l k) fun v => Option.bind (g u v) fun b => (if (!b) = true then some false else f m (w64 (k + 1))) else some true)
    (hg : ∀ x, S x → g x x = some true) (hl : allS S l) : (if ((List.length l : Int) != (List.length l : Int)) = true then some false else f FU 0) = some true := by
  have hl1 := hl.1
  rw [if_neg (by simp)]
  have := loopL f l (fun _ => true) (some true) (some false) (by omega) (fun m k x hk hx => ?_) (fun m => by rw [hs, if_neg (by simp)])
  · simpa using this
  · rw [hs, if_pos (by simp; omega), idx_nat, hx, Option.bind_some, Option.bind_some, hg x (hl.2 _ (List.mem_of_getElem? hx)), Option.bind_some, w64_succ (by omega)]
    rfl
theorem eqLB {α : Type} [BEq α] {S : α → Prop} (hn : ∀ x : α, (x != x) = false) (f : Nat → Int → Option Bool) (l : List α)
    (hs : ∀ m k, f (m + 1) k = if (decide (k < (List.length l : Int))) = true then Option.bind (idx l k) fun u => Option.bind (idx l k) fun v => (if (u != v) = true then some false else f m (w64 (k + 1))) else some true)
    (hl : allS S l) : (if ((List.length l : Int) != (List.length l : Int)) = true then some false else f FU 0) = some true := by
  have hl1 := hl.1
  rw [if_neg (by simp)]
  have := loopL f l (fun _ => true) (some true) (some false) (by omega) (fun m k x hk hx => ?_) (fun m => by rw [hs, if_neg (by simp)])
  · simpa using this
  · rw [hs, if_pos (by simp; omega), idx_nat, hx, Option.bind_some, Option.bind_some, if_neg (by rw [hn x]; exact Bool.false_ne_true), w64_succ (by omega), if_pos rfl]
theorem neI (x : Int) : (x != x) = false := by simp
/-- A loop over a list that carries a state. -/
theorem loopFold {α S R : Type} (f : Nat → S → Int → Option R) (l : List α) (step : S → α → S) (rest : S → Option R) (hn : l.length < 4611686018427387904)
    (hs : ∀ m s k x, k < l.length → l[k]? = some x → f (m + 1) s (k : Int) = f m (step s x) ((k + 1 : Nat) : Int)) (he : ∀ m s, f (m + 1) s (l.length : Int) = rest s) (s0 : S) : f FU s0 0 = rest (l.foldl step s0) := by
  have key : ∀ d k m s, l.length - k = d → k ≤ l.length → l.length - k < m → f m s (k : Int) = rest ((l.drop k).foldl step s) := by
    intro d
    induction d with
    | zero =>
      intro k m s hd hk hm
      have : k = l.length := by omega
      subst this
      cases m with
      | zero => omega
      | succ m => rw [he]; simp
    | succ d ih =>
      intro k m s hd hk hm
      cases m with
      | zero => omega
      | succ m =>
        have hk' : k < l.length := by omega
        rw [hs m s k l[k] hk' (by simp [hk']), ih (k + 1) m _ (by omega) (by omega) (by omega), List.drop_eq_getElem_cons hk', List.foldl_cons]
  have := key _ 0 FU s0 rfl (by omega) (FU_gt (by omega))
  simpa using this
end Go.Proofs.Ytmkignciedkidaa
/-
  DRAWS, PLAIN: numbers from bytes are there, in their bounds.
-/
set_option linter.unusedSimpArgs false
set_option linter.unusedVariables false
namespace Go.Proofs.Ytmkignciedkidaa
open Go
/-- There is a value, and it is as told. -/
def Tot {α : Type} (o : Option α) (P : α → Prop) : Prop := ∃ v, o = some v ∧ P v
section
variable {α β : Type}
theorem Tot.some {v : α} {P : α → Prop} (h : P v) : Tot (some v) P := ⟨v, rfl, h⟩
theorem Tot.bind {o : Option α} {f : α → Option β} {P : α → Prop} {Q : β → Prop} (h : Tot o P) (hf : ∀ v, P v → Tot (f v) Q) : Tot (Option.bind o f) Q := by
  obtain ⟨v, rfl, hv⟩ := h
  exact hf v hv
theorem Tot.bindE {o : Option α} {v : α} {f : α → Option β} {Q : β → Prop} (h : o = Option.some v) (hf : Tot (f v) Q) : Tot (Option.bind o f) Q := by
  rw [h]
  exact hf
theorem Tot.mono {o : Option α} {P Q : α → Prop} (h : Tot o P) (hf : ∀ v, P v → Q v) : Tot o Q := by
  obtain ⟨v, h1, hv⟩ := h
  exact ⟨v, h1, hf v hv⟩
theorem Tot.ite {c : Bool} {A B : Option α} {P : α → Prop} (h1 : c = true → Tot A P) (h2 : c = false → Tot B P) : Tot (if c = true then A else B) P := by
  cases c with
  | true => exact h1 rfl
  | false => exact h2 rfl
theorem Tot.j0 {rest : Option β} {body : Option β → Option β} {Q : β → Prop} (hr : Tot rest Q) (hb : ∀ k, Tot k Q → Tot (body k) Q) : Tot (jK0 rest body) Q := hb rest hr
theorem Tot.j1 {A : Type} {rest : A → Option β} {body : (A → Option β) → Option β} {Q : β → Prop} (P : A → Prop) (hr : ∀ a, P a → Tot (rest a) Q) (hb : ∀ k, (∀ a, P a → Tot (k a) Q) → Tot (body k) Q) : Tot (jK1 rest body) Q := hb rest hr
theorem Tot.of {o : Option Bool} (h : Tot o fun b => b = true) : o = Option.some true := by
  obtain ⟨v, h1, h2⟩ := h
  rw [h1, h2]
theorem Tot.loop {S R : Type} (f : Nat → S → Option R) (μ : S → Nat) (I : S → Prop) (Q : R → Prop) (step : ∀ m s, I s → (∀ s', I s' → μ s' < μ s → Tot (f m s') Q) → Tot (f (m + 1) s) Q) :
    ∀ m s, I s → μ s < m → Tot (f m s) Q := by
  intro m
  induction m with
  | zero => intro s _ h; omega
  | succ m ih => intro s hs h; exact step m s hs fun s' hs' hlt => ih s' hs' (by omega)
end
/-- Bytes, a place in them or behind, and so many steps before it leaves its range. -/
def Cu (c : List Int) (n a : Int) : Prop := (∀ b ∈ c, 0 ≤ b ∧ b ≤ 255) ∧ 0 ≤ a ∧ 0 ≤ n ∧ a + n ≤ 4000000000000000000
theorem Cu.mono {c : List Int} {n m a : Int} (h : Cu c n a) (h0 : 0 ≤ m) (hm : m ≤ n) : Cu c m a := ⟨h.1, h.2.1, h0, by have := h.2.2.2; omega⟩
/-- A value, and the place behind. -/
def Pk {α : Type} (c : List Int) (n : Int) (P : α → Prop) (v : α × List Int × Int × Int) : Prop := P v.1 ∧ v.2.1 = c ∧ Cu c n v.2.2.1
theorem Pk.imp {α : Type} {c : List Int} {n m : Int} {P Q : α → Prop} {v : α × List Int × Int × Int} (h : Pk c n P v) (hp : ∀ r, P r → Q r) (h0 : 0 ≤ m) (hm : m ≤ n) : Pk c m Q v := ⟨hp _ h.1, h.2.1, h.2.2.mono h0 hm⟩
abbrev Cur := List Int × Int × Int
theorem w64_byte {b : Int} (h : 0 ≤ b ∧ b ≤ 255) : w64 b = b := w64_eq (by omega) (by omega)
theorem and_byte (a : Int) : 0 ≤ w64 (andK .u64 a 255) ∧ w64 (andK .u64 a 255) ≤ 255 := by
  have h : andK .u64 a 255 = IntKind.wrap .u64 (((BitVec.ofInt 64 a &&& BitVec.ofInt 64 255).toNat : Nat) : Int) := rfl
  have h2 : (BitVec.ofInt 64 a &&& BitVec.ofInt 64 255).toNat ≤ 255 := by
    rw [BitVec.toNat_and]
    exact Nat.le_trans Nat.and_le_right (by decide)
  rw [h]
  generalize (BitVec.ofInt 64 a &&& BitVec.ofInt 64 255).toNat = v at *
  have e : IntKind.wrap .u64 (v : Int) = v := by
    unfold IntKind.wrap
    simp only [IntKind.bits, IntKind.signed]
    simp
    omega
  rw [e, w64_byte (by omega)]
  omega
theorem next_ok (x : Cur) {m : Int} (h : Cu x.1 m x.2.1) (hm : 1 ≤ m) : Tot (F_spec_l1Cur__next__mut__box x) (Pk x.1 (m - 1) fun r => 0 ≤ r ∧ r ≤ 255) := by
  obtain ⟨h1, h2, h3, h4⟩ := h
  unfold F_spec_l1Cur__next__mut__box jK1
  have e : w64 (x.2.1 + 1) = x.2.1 + 1 := w64_eq (by omega) (by omega)
  have cu : Cu x.1 (m - 1) (x.2.1 + 1) := ⟨h1, by omega, by omega, by omega⟩
  dsimp only
  rw [e]
  have fin : ∀ y : Int, (0 ≤ y ∧ y ≤ 255) → ∀ s1 s2 s3 : Int, Tot (if (decide (x.2.1 + 1 ≤ (List.length x.1 : Int))) = true then some (y, (x.1, x.2.1 + 1, s1)) else some ((w64 (andK .u64 s2 255)), (x.1, x.2.1 + 1, s3))) (Pk x.1 (m - 1) fun r => 0 ≤ r ∧ r ≤ 255) := by
    intro y hy s1 s2 s3
    refine Tot.ite (fun _ => Tot.some ⟨hy, rfl, cu⟩) fun _ => Tot.some ⟨and_byte _, rfl, cu⟩
  refine Tot.ite (fun hc => ?_) fun _ => fin 0 (by omega) _ _ _
  have hlt : x.2.1.toNat < x.1.length := by simp at hc; omega
  refine Tot.bindE (v := x.1[x.2.1.toNat]) (by rw [idx_int h2]; simp [hlt]) ?_
  have hb := h1 _ (List.getElem_mem hlt)
  exact fin _ (by rw [w64_byte hb]; exact hb) _ _ _
theorem pick_ok (x : Cur) (k : Int) {m : Int} (h : Cu x.1 m x.2.1) (hm : 2 ≤ m) : Tot (F_spec_l1Cur__pick__mut__box x k) (Pk x.1 (m - 2) fun r => 0 ≤ r ∧ (r < k ∨ r = 0)) := by
  unfold F_spec_l1Cur__pick__mut__box
  refine Tot.ite (fun _ => Tot.some ⟨⟨by simp, .inr rfl⟩, rfl, h.mono (by omega) (by omega)⟩) fun hk => ?_
  have hk' : 1 < k := by simpa using hk
  refine Tot.bind (next_ok x h (by omega)) fun u hu => ?_
  obtain ⟨hu1, hu2, hu3⟩ := hu
  have fin : ∀ (y a s : Int), 0 ≤ y → Cu x.1 (m - 2) a → Tot (if k = 0 then none else some ((Int.tmod y k), (x.1, a, s))) (Pk x.1 (m - 2) fun r => 0 ≤ r ∧ (r < k ∨ r = 0)) := by
    intro y a s hy ha
    rw [if_neg (by omega)]
    exact Tot.some ⟨⟨Int.tmod_nonneg _ hy, .inl (Int.tmod_lt_of_pos _ (by omega))⟩, rfl, ha⟩
  unfold jK3
  dsimp only
  refine Tot.ite (fun _ => ?_) fun _ => fin _ _ _ hu1.1 (hu3.mono (by omega) (by omega))
  refine Tot.bind (next_ok (x.1, u.2.2.1, u.2.2.2) hu3 (by omega)) fun v hv => ?_
  obtain ⟨hv1, hv2, hv3⟩ := hv
  refine fin _ _ _ ?_ (hv3.mono (by omega) (by omega))
  rw [w64_eq (x := u.1 * 256) (by omega) (by omega), w64_eq (by omega) (by omega)]
  omega
theorem one_ok (x : Cur) (k : Int) {m : Int} (h : Cu x.1 m x.2.1) (hm : 2 ≤ m) : Tot (F_spec_l1Cur__one__mut__box x k) (Pk x.1 (m - 2) fun _ => True) := by
  unfold F_spec_l1Cur__one__mut__box
  refine Tot.bind (pick_ok x k h hm) fun u hu => Tot.some ⟨trivial, rfl, hu.2.2⟩
theorem idx_pick {α : Type} (l : List α) {r : Int} (hl : l ≠ []) (h : 0 ≤ r ∧ (r < (l.length : Int) ∨ r = 0)) : ∃ v, idx l r = some v ∧ v ∈ l ∧ r.toNat < l.length := by
  have hpos : 0 < l.length := List.length_pos_iff.2 hl
  have hlt : r.toNat < l.length := by omega
  exact ⟨l[r.toNat], by rw [idx_int h.1]; simp [hlt], List.getElem_mem hlt, hlt⟩
theorem among_ok (x : Cur) (l : List Int) (P : Int → Prop) {m : Int} (h : Cu x.1 m x.2.1) (hm : 2 ≤ m) (hl : l ≠ []) (hp : ∀ v ∈ l, P v) : Tot (F_spec_l1Cur__among__mut__box x l) (Pk x.1 (m - 2) P) := by
  unfold F_spec_l1Cur__among__mut__box
  refine Tot.bind (pick_ok x _ h hm) fun u hu => ?_
  obtain ⟨v, hv, hmem, _⟩ := idx_pick l hl hu.1
  exact Tot.bindE hv (Tot.some ⟨hp v hmem, rfl, hu.2.2⟩)
theorem amongT (x : Cur) (l : List Int) {m : Int} (h : Cu x.1 m x.2.1) (hm : 2 ≤ m) (hl : l ≠ []) : Tot (F_spec_l1Cur__among__mut__box x l) (Pk x.1 (m - 2) fun _ => True) := among_ok x l _ h hm hl fun _ _ => trivial
end Go.Proofs.Ytmkignciedkidaa
/-
  SHOWS, PLAIN: what the program's and the reference's tests of spots, charts and shows answer.
-/
set_option linter.unusedSimpArgs false
set_option linter.unusedVariables false
namespace Go.Proofs.Ytmkignciedkidaa
open Go
def okIn (a lo hi : Int) : Bool := decide (lo ≤ a) && decide (a ≤ hi)
theorem spec_l1In (a lo hi : Int) : F_spec_l1In a lo hi = some (okIn a lo hi) := by
  unfold F_spec_l1In jK1 okIn
  by_cases h : lo ≤ a <;> simp [h]
theorem impl_within (a lo hi : Int) : F_impl_within a lo hi = some (okIn a lo hi) := by
  unfold F_impl_within jK1 okIn
  by_cases h : lo ≤ a <;> simp [h]
def okSpot (s : Int × Int) : Bool := okIn s.1 0 1280 && okIn s.2 0 672
theorem spec_stGood (s : Int × Int) : F_spec_stGood s = some (okSpot s) := by
  unfold F_spec_stGood jK1 okSpot
  dsimp only
  rw [spec_l1In, Option.bind_some, spec_l1In]
  cases okIn s.1 0 1280 <;> simp
theorem impl_IsSpot (s : Int × Int) : F_impl_IsSpot s = some (okSpot s) := by
  unfold F_impl_IsSpot jK1 okSpot
  dsimp only
  rw [impl_within, Option.bind_some, impl_within]
  cases okIn s.1 0 1280 <;> simp
theorem eqv_Spot_eq (x y : Int × Int) : eqv_Spot x y = decide (x = y) := by
  obtain ⟨a, b⟩ := x
  obtain ⟨c, d⟩ := y
  simp [eqv_Spot]
  by_cases h1 : a = c <;> by_cases h2 : b = d <;> simp [h1, h2]
/-- The spot at k is a spot and none of those before it. -/
def newAt (l : List (Int × Int)) (k : Nat) : Bool := match l[k]? with
  | some s => okSpot s && (l.take k).all (fun u => !decide (s = u))
  | none => true
theorem newAt_of {l : List (Int × Int)} {k : Nat} {s : Int × Int} (h : l[k]? = some s) : newAt l k = (okSpot s && (l.take k).all (fun u => !decide (s = u))) := by
  unfold newAt
  rw [h]
def okChart (l : List (Int × Int)) : Bool := okIn (l.length : Int) 1 12 && (List.range l.length).all (newAt l)
theorem spec_chGood (l : List (Int × Int)) (hl : l.length < 4611686018427387904) : F_spec_chGood l = some (okChart l) := by
  unfold F_spec_chGood
  rw [loopR (F_spec_chGood_L1 l) l.length (newAt l) (some (okIn (l.length : Int) 1 12)) (some false) hl (fun m k hk => ?_) (fun m => ?_)]
  · unfold okChart
    cases (List.range l.length).all (newAt l) <;> simp
  · obtain ⟨s, hs⟩ : ∃ s, l[k]? = some s := ⟨_, List.getElem?_eq_getElem hk⟩
    rw [F_spec_chGood_L1, if_pos (by simp; omega), idx_nat, hs, Option.bind_some, spec_stGood, Option.bind_some, newAt_of hs]
    cases okSpot s with
    | false => simp
    | true =>
      rw [if_neg (by simp), sl_take l (by omega), Option.bind_some, Bool.true_and]
      have hlen : (l.take k).length = k := by simp; omega
      rw [loopL (F_spec_chGood_L2 (l.take k) s (F_spec_chGood_L1 l m) (k : Int)) (l.take k) (fun u => !decide (s = u)) (F_spec_chGood_L1 l m ((k + 1 : Nat) : Int)) (some false) (by omega) (fun m' j x hj hx => ?_) (fun m' => ?_)]
      · rw [F_spec_chGood_L2, if_pos (by simp; omega), idx_nat, hx, Option.bind_some, eqv_Spot_eq, w64_succ (by omega)]
        by_cases hq : s = x <;> simp [hq]
      · rw [F_spec_chGood_L2, if_neg (by simp), w64_succ (by omega)]
  · rw [F_spec_chGood_L1, if_neg (by simp), spec_l1In]
    rfl
theorem contains_Spot (l : List (Int × Int)) (s : Int × Int) (hl : l.length < 4611686018427387904) : F_slices_Contains_impl_Spot_impl_Spot l s = some (!l.all (fun u => !decide (s = u))) := by
  unfold F_slices_Contains_impl_Spot_impl_Spot F_slices_Index_impl_Spot_impl_Spot
  have key : ∀ d k m, l.length - k = d → k ≤ l.length → l.length - k < m → ∃ i, F_slices_Index_impl_Spot_impl_Spot_L1 l s m (k : Int) = some i ∧ decide (0 ≤ i) = !(l.drop k).all (fun u => !decide (s = u)) := by
    intro d
    induction d with
    | zero =>
      intro k m hd hk hm
      cases m with
      | zero => omega
      | succ m =>
        rw [F_slices_Index_impl_Spot_impl_Spot_L1, if_neg (by simp; omega)]
        exact ⟨-1, rfl, by rw [List.drop_eq_nil_of_le (by omega)]; simp⟩
    | succ d ih =>
      intro k m hd hk hm
      cases m with
      | zero => omega
      | succ m =>
        have hk' : k < l.length := by omega
        rw [F_slices_Index_impl_Spot_impl_Spot_L1, if_pos (by simp; omega), idx_lt hk', Option.bind_some, eqv_Spot_eq, w64_succ (by omega), List.drop_eq_getElem_cons hk', List.all_cons]
        by_cases hq : s = l[k]
        · exact ⟨k, by simp [hq], by simp [hq]⟩
        · rw [if_neg (by simp [hq])]
          obtain ⟨i, h1, h2⟩ := ih (k + 1) m (by omega) (by omega) (by omega)
          exact ⟨i, h1, by simp [hq, h2]⟩
  obtain ⟨i, h1, h2⟩ := key _ 0 FU rfl (by omega) (FU_gt (by omega))
  rw [show ((0 : Nat) : Int) = 0 from rfl] at h1
  rw [h1, Option.bind_some, h2]
  simp
theorem impl_IsChart (l : List (Int × Int)) (hl : l.length < 4611686018427387904) : F_impl_IsChart l = some (okChart l) := by
  unfold F_impl_IsChart okChart
  rw [impl_within, Option.bind_some]
  cases hi : okIn (l.length : Int) 1 12 with
  | false => simp
  | true =>
    rw [if_neg (by simp), loopR (F_impl_IsChart_L1 l) l.length (newAt l) (some true) (some false) hl (fun m k hk => ?_) (fun m => ?_)]
    · cases (List.range l.length).all (newAt l) <;> simp
    · obtain ⟨s, hs⟩ : ∃ s, l[k]? = some s := ⟨_, List.getElem?_eq_getElem hk⟩
      rw [F_impl_IsChart_L1, if_pos (by simp; omega), idx_nat, hs, Option.bind_some]
      unfold jK1
      dsimp only
      rw [newAt_of hs, impl_IsSpot, Option.bind_some]
      rw [sl_take l (by omega), Option.bind_some, contains_Spot _ _ (by simp; omega), Option.bind_some, w64_succ (by omega)]
      cases okSpot s with
      | false => simp
      | true => simp only [Bool.not_true, Bool.false_eq_true, if_false, Bool.true_and]; cases (List.take k l).all (fun u => !decide (s = u)) <;> simp
    · rw [F_impl_IsChart_L1, if_neg (by simp)]
def okCounts (l : List Int) : Bool := l.all fun u => okIn u 1 64
theorem spec_l1All (l : List Int) (hl : l.length < 4611686018427387904) : F_spec_l1All l 1 64 = some (okCounts l) := by
  unfold F_spec_l1All
  rw [loopL (F_spec_l1All_L1 l 1 64) l (fun u => okIn u 1 64) (some true) (some false) hl (fun m k x hk hx => ?_) (fun m => ?_)]
  · unfold okCounts
    cases l.all (fun u => okIn u 1 64) <;> simp
  · rw [F_spec_l1All_L1, if_pos (by simp; omega), idx_nat, hx, Option.bind_some, spec_l1In, Option.bind_some, w64_succ (by omega)]
    cases okIn x 1 64 <;> simp
  · rw [F_spec_l1All_L1, if_neg (by simp)]
theorem spec_apDistance (x : Int) : F_spec_apDistance x = some (okIn x 0 80) := by
  unfold F_spec_apDistance
  rw [spec_l1In]; rfl
theorem spec_mvStep (x : Int) : F_spec_mvStep x = some (okIn x 1 24) := by
  unfold F_spec_mvStep
  rw [spec_l1In]; rfl
theorem impl_isLeast (x : Int) : F_impl_isLeast x = some (okIn x 0 80) := by
  unfold F_impl_isLeast
  rw [impl_within]; rfl
/-- All charts are charts, as long as the first. -/
def sameLong (cs : List (List (Int × Int))) : Bool := cs.all fun c => okChart c && (match cs[0]? with | some d => decide (c.length = d.length) | none => true)
abbrev ShowT := (List (List (Int × Int))) × (List Int) × Int × Int
def okShow (x : ShowT) : Bool := okIn (x.1.length : Int) 2 8 && decide (x.2.1.length + 1 = x.1.length) && sameLong x.1 && okCounts x.2.1 && okIn x.2.2.1 0 80 && okIn x.2.2.2 1 24
theorem spec_swGood (x : ShowT) (h1 : x.1.length < 4611686018427387904) (h2 : ∀ c ∈ x.1, c.length < 4611686018427387904) (h3 : x.2.1.length < 4611686018427387904) : F_spec_swGood x = some (okShow x) := by
  unfold F_spec_swGood
  rw [loopL (F_spec_swGood_L1 x) x.1 (fun c => okChart c && (match x.1[0]? with | some d => decide (c.length = d.length) | none => true)) (some (okIn (x.1.length : Int) 2 8 && decide (x.2.1.length + 1 = x.1.length) && okCounts x.2.1 && okIn x.2.2.1 0 80 && okIn x.2.2.2 1 24)) (some false) h1 (fun m k c hk hc => ?_) (fun m => ?_)]
  · unfold okShow sameLong
    cases x.1.all (fun c => okChart c && (match x.1[0]? with | some d => decide (c.length = d.length) | none => true)) <;> simp
  · rw [F_spec_swGood_L1, if_pos (by simp; omega), idx_nat, hc, Option.bind_some]
    unfold jK1
    dsimp only
    rw [spec_chGood c (h2 c (List.mem_of_getElem? hc)), Option.bind_some, idx_zero, w64_succ (by omega)]
    have h0 : 0 < x.1.length := by omega
    rw [List.getElem?_eq_getElem h0]
    cases okChart c with
    | false => simp
    | true =>
      simp only [Bool.not_true, Bool.false_eq_true, if_false, Bool.true_and, Option.bind_some]
      by_cases hq : c.length = x.1[0].length <;> simp [hq]
      omega
  · rw [F_spec_swGood_L1, if_neg (by simp)]
    unfold jK1
    dsimp only
    rw [spec_l1In, Option.bind_some, spec_l1All _ h3, Option.bind_some, spec_apDistance, Option.bind_some, spec_mvStep, Option.bind_some]
    cases hA : okIn (x.1.length : Int) 2 8 with
    | false => simp
    | true =>
      have h8 : 2 ≤ x.1.length ∧ x.1.length ≤ 8 := by
        simp [okIn] at hA
        omega
      rw [w64_eq (by omega) (by omega)]
      by_cases hq : x.2.1.length + 1 = x.1.length
      · have hq' : ((x.2.1.length : Int) == (x.1.length : Int) - 1) = true := by simp; omega
        simp only [hq', hq, if_true, Bool.true_and, decide_true]
        cases okCounts x.2.1 <;> cases okIn x.2.2.1 0 80 <;> simp
      · have hq' : ((x.2.1.length : Int) == (x.1.length : Int) - 1) = false := by simp; omega
        simp [hq', hq]
theorem impl_areCharts (cs : List (List (Int × Int))) (ns : List Int) (h1 : cs.length < 4611686018427387904) (h2 : ∀ c ∈ cs, c.length < 4611686018427387904) (h3 : ns.length < 4611686018427387904) :
    F_impl_areCharts cs ns = some (okIn (cs.length : Int) 1 9 && decide (ns.length + 1 = cs.length) && sameLong cs && okCounts ns) := by
  unfold F_impl_areCharts jK1
  dsimp only
  rw [impl_within, Option.bind_some]
  have hw : w64 ((cs.length : Int) - 1) = (cs.length : Int) - 1 := w64_eq (by omega) (by omega)
  rw [hw]
  cases hA : okIn (cs.length : Int) 1 9 with
  | false => simp
  | true =>
    by_cases hq : ns.length + 1 = cs.length
    · have hq' : ((ns.length : Int) != (cs.length : Int) - 1) = false := by simp; omega
      simp only [hq', hq, Bool.not_true, Bool.false_eq_true, if_false, decide_true, Bool.true_and]
      have hin : F_impl_areCharts_L2 ns FU 0 = some (okCounts ns) := by
        rw [loopL (F_impl_areCharts_L2 ns) ns (fun u => okIn u 1 64) (some true) (some false) h3 (fun m k x hk hx => ?_) (fun m => ?_)]
        · unfold okCounts
          cases ns.all (fun u => okIn u 1 64) <;> simp
        · rw [F_impl_areCharts_L2, if_pos (by simp; omega), idx_nat, hx, Option.bind_some, impl_within, Option.bind_some, w64_succ (by omega)]
          cases okIn x 1 64 <;> simp
        · rw [F_impl_areCharts_L2, if_neg (by simp)]
      rw [loopL (F_impl_areCharts_L1 cs ns) cs (fun c => okChart c && (match cs[0]? with | some d => decide (c.length = d.length) | none => true)) (some (okCounts ns)) (some false) h1 (fun m k c hk hc => ?_) (fun m => ?_)]
      · unfold sameLong
        cases cs.all (fun c => okChart c && (match cs[0]? with | some d => decide (c.length = d.length) | none => true)) <;> simp
      · rw [F_impl_areCharts_L1, if_pos (by simp; omega), idx_nat, hc, Option.bind_some]
        unfold jK1
        dsimp only
        rw [impl_IsChart c (h2 c (List.mem_of_getElem? hc)), Option.bind_some, idx_zero, w64_succ (by omega)]
        have h0 : 0 < cs.length := by omega
        rw [List.getElem?_eq_getElem h0]
        cases okChart c with
        | false => simp
        | true =>
          simp only [Bool.not_true, Bool.false_eq_true, if_false, Bool.true_and, Option.bind_some]
          by_cases hq : c.length = cs[0].length <;> simp [hq]
          omega
      · rw [F_impl_areCharts_L1, if_neg (by simp), hin]
    · have hq' : ((ns.length : Int) != (cs.length : Int) - 1) = true := by simp; omega
      simp [hq', hq]
theorem impl_IsShow (x : ShowT) (h1 : x.1.length < 4611686018427387904) (h2 : ∀ c ∈ x.1, c.length < 4611686018427387904) (h3 : x.2.1.length < 4611686018427387904) : F_impl_IsShow x = some (okShow x) := by
  unfold F_impl_IsShow jK1
  dsimp only
  rw [impl_within, Option.bind_some, impl_areCharts _ _ h1 h2 h3, Option.bind_some, impl_isLeast, Option.bind_some, impl_within, Option.bind_some]
  unfold okShow
  cases hA : okIn (x.1.length : Int) 2 8 with
  | false => simp
  | true =>
    have hB : okIn (x.1.length : Int) 1 9 = true := by
      simp [okIn] at hA ⊢
      omega
    rw [hB]
    simp only [if_true, Bool.true_and]
    cases decide (x.2.1.length + 1 = x.1.length) <;> cases sameLong x.1 <;> cases okCounts x.2.1 <;> cases okIn x.2.2.1 0 80 <;> simp
end Go.Proofs.Ytmkignciedkidaa
/-
  SHOWS COMPARED, PLAIN.
-/
set_option linter.unusedSimpArgs false
set_option linter.unusedVariables false
namespace Go.Proofs.Ytmkignciedkidaa
open Go
theorem okIn_iff {a lo hi : Int} : okIn a lo hi = true ↔ lo ≤ a ∧ a ≤ hi := by simp [okIn]
structure ShowFacts (x : ShowT) : Prop where
  n0 : 2 ≤ x.1.length
  n1 : x.1.length ≤ 8
  nc : x.2.1.length + 1 = x.1.length
  ch : ∀ c ∈ x.1, okChart c = true
  cl : ∀ c ∈ x.1, 1 ≤ c.length ∧ c.length ≤ 12
  ce : ∀ c ∈ x.1, ∀ d, x.1[0]? = some d → c.length = d.length
  cn : ∀ u ∈ x.2.1, 1 ≤ u ∧ u ≤ 64
  le : 0 ≤ x.2.2.1 ∧ x.2.2.1 ≤ 80
  st : 1 ≤ x.2.2.2 ∧ x.2.2.2 ≤ 24
theorem okChart_len {c : List (Int × Int)} (h : okChart c = true) : 1 ≤ c.length ∧ c.length ≤ 12 := by
  unfold okChart at h
  rw [Bool.and_eq_true, okIn_iff] at h
  omega
theorem facts {x : ShowT} (h : okShow x = true) : ShowFacts x := by
  unfold okShow sameLong okCounts at h
  simp only [Bool.and_eq_true, okIn_iff, decide_eq_true_eq, List.all_eq_true] at h
  obtain ⟨⟨⟨⟨⟨h1, h2⟩, h3⟩, h4⟩, h5⟩, h6⟩ := h
  refine ⟨by omega, by omega, h2, fun c hc => (h3 c hc).1, fun c hc => okChart_len (h3 c hc).1, fun c hc d hd => ?_, h4, h5, h6⟩
  have := (h3 c hc).2
  rw [hd] at this
  simpa using this
/-- The numbers below n that p takes. -/
def filt (p : Nat → Bool) (n : Nat) : List Int := ((List.range n).filter p).map fun (k : Nat) => (k : Int)
theorem filt_succ (p : Nat → Bool) (n : Nat) : filt p (n + 1) = if p n then filt p n ++ [(n : Int)] else filt p n := by
  unfold filt
  rw [List.range_succ, List.filter_append, List.map_append]
  cases h : p n <;> simp [h]
theorem filt_len (p : Nat → Bool) (n : Nat) : (filt p n).length ≤ n := by
  unfold filt
  rw [List.length_map]
  exact Nat.le_trans (List.length_filter_le _ _) (by simp)
theorem loopFilter {R : Type} (f : Nat → List Int → Int → Option R) (n : Nat) (p : Nat → Bool) (rest : List Int → Option R) (hn : n < 4611686018427387904)
    (hs : ∀ m s k, k < n → s.length ≤ k → f (m + 1) s (k : Int) = f m (if p k then s ++ [(k : Int)] else s) ((k + 1 : Nat) : Int)) (he : ∀ m s, f (m + 1) s (n : Int) = rest s) : f FU [] 0 = rest (filt p n) := by
  have h := loopS f n (fun k s => if p k then s ++ [(k : Int)] else s) rest hn (fun k s => s = filt p k) [] (by simp [filt]) (fun k s hk hi => by rw [filt_succ, hi]) (fun m k s hk hi => hs m s k hk (by rw [hi]; exact filt_len p k)) (fun m s hi => he m s)
  rw [h.1, h.2]
theorem app_ok {α : Type} {l m : List α} (h : l.length + m.length ≤ 1073741824) : app l m = some (l ++ m) := by
  unfold app
  rw [if_pos h]
theorem chart_len {x : ShowT} (f : ShowFacts x) {k : Nat} {c d : List (Int × Int)} (hc : x.1[k]? = some c) (hd : x.1[0]? = some d) : c.length = d.length := f.ce c (List.mem_of_getElem? hc) d hd
def lensOk (x : ShowT) : Prop := x.1.length < 4611686018427387904 ∧ (∀ c ∈ x.1, c.length < 4611686018427387904) ∧ x.2.1.length < 4611686018427387904
end Go.Proofs.Ytmkignciedkidaa
/-
  CUES, PLAIN: what the tests of music and cues answer; times.
-/
set_option linter.unusedSimpArgs false
set_option linter.unusedVariables false
namespace Go.Proofs.Ytmkignciedkidaa
open Go
abbrev MusicT := List (Int × Int)
abbrev CueT := Int × (List UInt8)
/-! names -/
/-! cues -/
/-- What the walks' loops need of the lengths. -/
structure CueLens (x : MusicT) (l : List CueT) : Prop where
  hx : x.length < 4611686018427387904
  hl : l.length < 1073741824
  hn : ∀ c ∈ l, c.2.length < 4611686018427387904
theorem CueLens.hl' {x : MusicT} {l : List CueT} (h : CueLens x l) : l.length < 4611686018427387904 := by have := h.hl; omega
/-! times -/
/-- A loop that appends the image of each element. -/
theorem loopMapL {α β R : Type} (f : Nat → List β → Int → Option R) (l : List α) (g : α → β) (rest : List β → Option R) (hn : l.length < 4611686018427387904)
    (hs : ∀ m s k x, k < l.length → l[k]? = some x → s.length = k → f (m + 1) s (k : Int) = f m (s ++ [g x]) ((k + 1 : Nat) : Int)) (he : ∀ m s, f (m + 1) s (l.length : Int) = rest s) : f FU [] 0 = rest (l.map g) := by
  have h := loopS f l.length (fun k s => match l[k]? with | some x => s ++ [g x] | none => s) rest hn (fun k s => s = (l.take k).map g) [] (by simp) (fun k s hk hi => ?_) (fun m k s hk hi => ?_) (fun m s hi => he m s)
  · rw [h.1, h.2, List.take_of_length_le (Nat.le_refl _)]
  · have hx : l[k]? = some l[k] := by simp [hk]
    simp only [hx]
    rw [hi, List.take_succ_eq_append_getElem hk, List.map_append]
    rfl
  · have hx : l[k]? = some l[k] := by simp [hk]
    simp only [hx]
    exact hs m s k l[k] hk hx (by rw [hi]; simp; omega)
end Go.Proofs.Ytmkignciedkidaa
/-
  CUES SHIFTED AND ADDED, PLAIN.
-/
set_option linter.unusedSimpArgs false
set_option linter.unusedVariables false
namespace Go.Proofs.Ytmkignciedkidaa
open Go
/-- A loop that looks for the first place where q does not hold. -/
theorem loopFind {α R : Type} (f : Nat → Int → Option R) (l : List α) (q : α → Bool) (rest : Nat → Option R) (hn : l.length < 4611686018427387904)
    (hs : ∀ m k x, k < l.length → l[k]? = some x → q x = true → f (m + 1) (k : Int) = f m ((k + 1 : Nat) : Int))
    (he : ∀ m k x, k < l.length → l[k]? = some x → q x = false → f (m + 1) (k : Int) = rest k) (hz : ∀ m, f (m + 1) (l.length : Int) = rest l.length) :
    f FU 0 = rest (l.takeWhile q).length := by
  have key : ∀ d k m, l.length - k = d → k ≤ l.length → l.length - k < m → f m (k : Int) = rest (k + ((l.drop k).takeWhile q).length) := by
    intro d
    induction d with
    | zero =>
      intro k m hd hk hm
      have : k = l.length := by omega
      subst this
      cases m with
      | zero => omega
      | succ m => rw [hz]; simp
    | succ d ih =>
      intro k m hd hk hm
      cases m with
      | zero => omega
      | succ m =>
        have hk' : k < l.length := by omega
        have hx : l[k]? = some l[k] := by simp [hk']
        rw [List.drop_eq_getElem_cons hk']
        cases hq : q l[k] with
        | true =>
          rw [hs m k _ hk' hx hq, ih (k + 1) m (by omega) (by omega) (by omega), List.takeWhile_cons_of_pos hq]
          congr 1
          simp
          omega
        | false =>
          rw [he m k _ hk' hx hq, List.takeWhile_cons_of_neg (by simp [hq])]
          simp
  have := key _ 0 FU rfl (by omega) (FU_gt (by omega))
  simpa using this
def addAt (l : List CueT) (c : CueT) : Nat := (l.takeWhile fun d => decide (d.1 < c.1)).length
def added (l : List CueT) (c : CueT) : List CueT := l.take (addAt l c) ++ [c] ++ l.drop (addAt l c)
/-! what comes back is small -/
end Go.Proofs.Ytmkignciedkidaa
/-
  THE MOVES OF A PART, PLAIN.
-/
set_option linter.unusedSimpArgs false
set_option linter.unusedVariables false
namespace Go.Proofs.Ytmkignciedkidaa
open Go
/-- A loop that puts one thing after another for the numbers below n. -/
theorem loopMap {β R : Type} (f : Nat → List β → Int → Option R) (n : Nat) (g : Nat → β) (rest : List β → Option R) (hn : n < 4611686018427387904)
    (hs : ∀ m s k, k < n → s.length = k → f (m + 1) s (k : Int) = f m (s ++ [g k]) ((k + 1 : Nat) : Int)) (he : ∀ m s, f (m + 1) s (n : Int) = rest s) : f FU [] 0 = rest ((List.range n).map g) := by
  have h := loopS f n (fun k s => s ++ [g k]) rest hn (fun k s => s = (List.range k).map g) [] (by simp) (fun k s hk hi => by rw [List.range_succ, List.map_append, hi]; simp) (fun m k s hk hi => hs m s k hk (by rw [hi]; simp)) (fun m s hi => he m s)
  rw [h.1, h.2]
abbrev MoveT := (Int × Int) × (Int × Int) × Int
def chartAt (x : ShowT) (p : Nat) : List (Int × Int) := (x.1[p]?).getD []
def countsAt (x : ShowT) (p : Nat) : Int := (x.2.1[p]?).getD 0
def movesOf (x : ShowT) (p : Nat) : List MoveT := (List.range (chartAt x p).length).map fun i => (((chartAt x p)[i]?).getD (0, 0), ((chartAt x (p + 1))[i]?).getD (0, 0), countsAt x p)
theorem chartAt_of {x : ShowT} {p : Nat} {c : List (Int × Int)} (h : x.1[p]? = some c) : chartAt x p = c := by unfold chartAt; rw [h]; rfl
theorem part_facts {x : ShowT} (f : ShowFacts x) {p : Nat} (hp : p < x.2.1.length) : ∃ a b n, x.1[p]? = some a ∧ x.1[p + 1]? = some b ∧ x.2.1[p]? = some n ∧ a.length = b.length ∧ 1 ≤ a.length ∧ a.length ≤ 12 ∧ 1 ≤ n ∧ n ≤ 64 := by
  have h1 := f.nc
  have h2 := f.n0
  obtain ⟨a, ha⟩ : ∃ c, x.1[p]? = some c := ⟨_, List.getElem?_eq_getElem (by omega)⟩
  obtain ⟨b, hb⟩ : ∃ c, x.1[p + 1]? = some c := ⟨_, List.getElem?_eq_getElem (by omega)⟩
  obtain ⟨n, hn⟩ : ∃ c, x.2.1[p]? = some c := ⟨_, List.getElem?_eq_getElem (by omega)⟩
  obtain ⟨c, hc⟩ : ∃ c, x.1[0]? = some c := ⟨_, List.getElem?_eq_getElem (by omega)⟩
  have l := f.cl a (List.mem_of_getElem? ha)
  have m := f.cn n (List.mem_of_getElem? hn)
  exact ⟨a, b, n, ha, hb, hn, by rw [chart_len f ha hc, chart_len f hb hc], l.1, l.2, m.1, m.2⟩
theorem moves_loop (F : Nat → List MoveT → Int → Option (List MoveT)) (x : ShowT) (f : ShowFacts x) (p : Nat) (hp : p < x.2.1.length) (a : List (Int × Int)) (ha : x.1[p]? = some a)
    (hs : ∀ m s y, F (m + 1) s y = if (decide (y < (List.length a : Int))) = true then Option.bind (idx a y) fun u => Option.bind (idx x.1 (w64 ((p : Int) + 1))) fun b => Option.bind (idx b y) fun v => Option.bind (idx x.2.1 (p : Int)) fun c =>
      Option.bind (app s [(u, v, c)]) fun z => F m z (w64 (y + 1)) else some s) : F FU [] 0 = some (movesOf x p) := by
  obtain ⟨a', b, n, h1, h2, h3, h4, h5, h6, h7, h8⟩ := part_facts f hp
  rw [ha] at h1
  cases h1
  have hp8 := f.n1
  have hpc := f.nc
  rw [loopMap F a.length (fun i => (((chartAt x p)[i]?).getD (0, 0), ((chartAt x (p + 1))[i]?).getD (0, 0), countsAt x p)) some (by omega) (fun m s k hk hsl => ?_) (fun m s => ?_)]
  · unfold movesOf
    rw [chartAt_of ha]
  · obtain ⟨u, hu⟩ : ∃ u, a[k]? = some u := ⟨_, List.getElem?_eq_getElem hk⟩
    obtain ⟨v, hv⟩ : ∃ v, b[k]? = some v := ⟨_, List.getElem?_eq_getElem (by omega)⟩
    have e : w64 ((p : Int) + 1) = ((p + 1 : Nat) : Int) := w64_succ (by omega)
    rw [hs, if_pos (by simp; omega), idx_nat, hu, Option.bind_some, e, idx_nat, h2, Option.bind_some, idx_nat, hv, Option.bind_some, idx_nat, h3, Option.bind_some, app_ok (by simp; omega), Option.bind_some, w64_succ (by omega)]
    rw [chartAt_of ha, chartAt_of h2, hu, hv]
    unfold countsAt
    rw [h3]
    rfl
  · rw [hs, if_neg (by simp)]
theorem spec_swMoves (x : ShowT) (f : ShowFacts x) (p : Nat) (hp : p < x.2.1.length) : F_spec_swMoves x (p : Int) = some (movesOf x p) := by
  obtain ⟨a, b, n, h1, _⟩ := part_facts f hp
  unfold F_spec_swMoves
  rw [idx_nat, h1, Option.bind_some]
  exact moves_loop (F_spec_swMoves_L1 a x (p : Int)) x f p hp a h1 fun m s y => rfl
theorem impl_showMoves (x : ShowT) (f : ShowFacts x) (p : Nat) (hp : p < x.2.1.length) : F_impl_showMoves x (p : Int) = some (movesOf x p) := by
  obtain ⟨a, b, n, h1, _⟩ := part_facts f hp
  unfold F_impl_showMoves
  rw [idx_nat, h1, Option.bind_some]
  exact moves_loop (F_impl_showMoves_L1 a x (p : Int)) x f p hp a h1 fun m s y => rfl
theorem moves_len (x : ShowT) (f : ShowFacts x) (p : Nat) (hp : p < x.2.1.length) : (movesOf x p).length ≤ 12 := by
  obtain ⟨a, b, n, h1, _, _, _, _, h6, _⟩ := part_facts f hp
  unfold movesOf
  rw [chartAt_of h1]
  simpa using h6
def sqOf (a b : Int × Int) : Int := w64 ((w64 ((w64 (a.1 - b.1)) * (w64 (a.1 - b.1)))) + (w64 ((w64 (a.2 - b.2)) * (w64 (a.2 - b.2)))))
def sqM (m : MoveT) : Int := sqOf m.1 m.2.1
end Go.Proofs.Ytmkignciedkidaa
/-
  THE LEAST STEP OF A SHOW, PLAIN.
-/
set_option linter.unusedSimpArgs false
set_option linter.unusedVariables false
namespace Go.Proofs.Ytmkignciedkidaa
open Go
def withinB (u : MoveT) (s : Int) : Bool := decide (sqM u ≤ (w64 ((w64 ((w64 (s * s)) * u.2.2)) * u.2.2)))
theorem spec_mvWithin (u : MoveT) (s : Int) : F_spec_mvWithin u s = some (withinB u s) := rfl
theorem impl_withinStep (u : MoveT) (s : Int) : F_impl_withinStep u s = some (withinB u s) := rfl
/-- The wide steps of a part. -/
def wideAt (x : ShowT) (p k : Nat) : Bool := match (movesOf x p)[k]? with
  | some u => !withinB u x.2.2.2
  | none => false
def widesOf (x : ShowT) (p : Nat) : List Int := filt (wideAt x p) (movesOf x p).length
theorem impl_wideSteps (x : ShowT) (f : ShowFacts x) (p : Nat) (hp : p < x.2.1.length) : F_impl_wideSteps x (p : Int) = some (widesOf x p) := by
  have hl := moves_len x f p hp
  unfold F_impl_wideSteps
  rw [impl_showMoves x f p hp, Option.bind_some, loopFilter (F_impl_wideSteps_L1 (movesOf x p) x) (movesOf x p).length (wideAt x p) some (by omega) (fun m s k hk hs => ?_) (fun m s => ?_)]
  · rfl
  · obtain ⟨u, hu⟩ : ∃ u, (movesOf x p)[k]? = some u := ⟨_, List.getElem?_eq_getElem hk⟩
    have e : wideAt x p k = !withinB u x.2.2.2 := by unfold wideAt; rw [hu]
    rw [F_impl_wideSteps_L1, if_pos (by simp; omega), e]
    unfold jK1
    dsimp only
    rw [idx_nat, hu, Option.bind_some, impl_withinStep, Option.bind_some, app_ok (by simp; omega), w64_succ (by omega)]
    cases withinB u x.2.2.2 <;> simp
  · rw [F_impl_wideSteps_L1, if_neg (by simp)]
end Go.Proofs.Ytmkignciedkidaa
/-
  PARTS OF A SHOW, PLAIN: moves, wide steps.
-/
set_option linter.unusedSimpArgs false
set_option linter.unusedVariables false
namespace Go.Proofs.Ytmkignciedkidaa
open Go
def okPart (x : ShowT) (p : Int) : Bool := okShow x && okIn p 0 ((x.2.1.length : Int) - 1)
theorem spec_swHas (x : ShowT) (p : Int) (h : lensOk x) : F_spec_swHas x p = some (okPart x p) := by
  unfold F_spec_swHas jK1 okPart
  have := h.2.2
  dsimp only
  rw [spec_swGood x h.1 h.2.1 h.2.2, Option.bind_some, w64_eq (by omega) (by omega), spec_l1In, Option.bind_some]
  cases okShow x <;> simp
theorem impl_isPart (x : ShowT) (p : Int) (h : lensOk x) : F_impl_isPart x p = some (okPart x p) := by
  unfold F_impl_isPart jK1 okPart
  have := h.2.2
  dsimp only
  rw [impl_IsShow x h.1 h.2.1 h.2.2, Option.bind_some, w64_eq (by omega) (by omega), impl_within, Option.bind_some]
  cases okShow x <;> simp
theorem part_of {x : ShowT} {p : Int} (h : okPart x p = true) : ShowFacts x ∧ p = ((p.toNat : Nat) : Int) ∧ p.toNat < x.2.1.length := by
  unfold okPart at h
  rw [Bool.and_eq_true, okIn_iff] at h
  exact ⟨facts h.1, by omega, by omega⟩
def movesAns (x : ShowT) (p : Int) : List MoveT × Bool := if okPart x p then (movesOf x p.toNat, true) else ([], false)
theorem spec_ShowMoves (x : ShowT) (p : Int) (h : lensOk x) : F_spec_ShowMoves x p = some (movesAns x p) := by
  unfold F_spec_ShowMoves movesAns
  rw [spec_swHas x p h, Option.bind_some]
  cases hp : okPart x p with
  | false => simp
  | true =>
    obtain ⟨f, e, hlt⟩ := part_of hp
    simp only [Bool.not_true, Bool.false_eq_true, if_false, if_true]
    rw [e, Int.toNat_natCast, spec_swMoves x f _ hlt]
    rfl
theorem impl_ShowMoves (x : ShowT) (p : Int) (h : lensOk x) : F_impl_ShowMoves x p = some (movesAns x p) := by
  unfold F_impl_ShowMoves movesAns
  rw [impl_isPart x p h, Option.bind_some]
  cases hp : okPart x p with
  | false => simp
  | true =>
    obtain ⟨f, e, hlt⟩ := part_of hp
    simp only [Bool.not_true, Bool.false_eq_true, if_false, if_true]
    rw [e, Int.toNat_natCast, impl_showMoves x f _ hlt]
    rfl
theorem movesAns_len (x : ShowT) (p : Int) : (movesAns x p).1.length ≤ 12 := by
  unfold movesAns
  cases hp : okPart x p with
  | false => simp
  | true =>
    obtain ⟨f, e, hlt⟩ := part_of hp
    exact moves_len x f _ hlt
theorem spec_swWide (x : ShowT) (f : ShowFacts x) (p : Nat) (hp : p < x.2.1.length) : F_spec_swWide x (p : Int) = some (widesOf x p) := by
  have hl := moves_len x f p hp
  unfold F_spec_swWide widesOf
  rw [spec_swMoves x f p hp, Option.bind_some, loopFilter (F_spec_swWide_L1 (movesOf x p) x) (movesOf x p).length (wideAt x p) some (by omega) (fun m s k hk hs => ?_) (fun m s => ?_)]
  · obtain ⟨u, hu⟩ : ∃ u, (movesOf x p)[k]? = some u := ⟨_, List.getElem?_eq_getElem hk⟩
    have e : wideAt x p k = !withinB u x.2.2.2 := by unfold wideAt; rw [hu]
    rw [F_spec_swWide_L1, if_pos (by simp; omega), e]
    unfold jK1
    dsimp only
    rw [idx_nat, hu, Option.bind_some, spec_mvWithin, Option.bind_some, app_ok (by simp; omega), w64_succ (by omega)]
    cases withinB u x.2.2.2 <;> simp
  · rw [F_spec_swWide_L1, if_neg (by simp)]
def wideAns (x : ShowT) (p : Int) : List Int × Bool := if okPart x p then (widesOf x p.toNat, true) else ([], false)
theorem spec_WideSteps (x : ShowT) (p : Int) (h : lensOk x) : F_spec_WideSteps x p = some (wideAns x p) := by
  unfold F_spec_WideSteps wideAns
  rw [spec_swHas x p h, Option.bind_some]
  cases hp : okPart x p with
  | false => simp
  | true =>
    obtain ⟨f, e, hlt⟩ := part_of hp
    simp only [Bool.not_true, Bool.false_eq_true, if_false, if_true]
    rw [e, Int.toNat_natCast, spec_swWide x f _ hlt]
    rfl
theorem impl_WideSteps (x : ShowT) (p : Int) (h : lensOk x) : F_impl_WideSteps x p = some (wideAns x p) := by
  unfold F_impl_WideSteps wideAns
  rw [impl_isPart x p h, Option.bind_some]
  cases hp : okPart x p with
  | false => simp
  | true =>
    obtain ⟨f, e, hlt⟩ := part_of hp
    simp only [Bool.not_true, Bool.false_eq_true, if_false, if_true]
    rw [e, Int.toNat_natCast, impl_wideSteps x f _ hlt]
    rfl
theorem wideAns_len (x : ShowT) (p : Int) : (wideAns x p).1.length ≤ 12 := by
  unfold wideAns
  cases hp : okPart x p with
  | false => simp
  | true =>
    obtain ⟨f, e, hlt⟩ := part_of hp
    exact Nat.le_trans (filt_len _ _) (moves_len x f _ hlt)
end Go.Proofs.Ytmkignciedkidaa
/-
  COPIES OF SHOWS, PLAIN; charts added, counts stretched.
-/
set_option linter.unusedSimpArgs false
set_option linter.unusedVariables false
namespace Go.Proofs.Ytmkignciedkidaa
open Go
theorem spec_chOwn (c : List (Int × Int)) (h : c.length ≤ 1048576) : F_spec_chOwn c = some c := by
  unfold F_spec_chOwn
  rw [app_ok (by simp; omega)]
  rfl
theorem impl_copyInts (c : List Int) (h : c.length ≤ 1048576) : F_impl_copyInts c = some c := by
  unfold F_impl_copyInts
  rw [app_ok (by simp; omega)]
  rfl
theorem impl_copyShow (x : ShowT) (f : ShowFacts x) : F_impl_copyShow x = some x := by
  have h1 := f.n1
  have h2 := f.nc
  unfold F_impl_copyShow jK4
  dsimp only
  rw [impl_copyInts _ (by omega), Option.bind_some, loopMapL (F_impl_copyShow_L1 x x.2.1 x.2.2.1 x.2.2.2) x.1 id (fun s => some (s, x.2.1, x.2.2.1, x.2.2.2)) (by omega) (fun m s k c hk hc hsl => ?_) (fun m s => ?_)]
  · simp
  · have hl := (f.cl c (List.mem_of_getElem? hc)).2
    rw [F_impl_copyShow_L1, if_pos (by simp; omega)]
    unfold jK1
    dsimp only
    rw [idx_nat, hc, Option.bind_some, app_ok (by simp; omega), Option.bind_some, List.nil_append, app_ok (by simp; omega), Option.bind_some, w64_succ (by omega)]
    rfl
  · rw [F_impl_copyShow_L1, if_neg (by simp)]
def stretched (x : ShowT) (p n : Int) : ShowT := (x.1, seti x.2.1 p n, x.2.2.1, x.2.2.2)
end Go.Proofs.Ytmkignciedkidaa
/-
  DRAWN SHOWS, PLAIN: they are there and short.
-/
set_option linter.unusedSimpArgs false
set_option linter.unusedVariables false
namespace Go.Proofs.Ytmkignciedkidaa
open Go
theorem app_tot' {α β : Type} {l m : List α} {f : List α → Option β} {Q : β → Prop} (h : l.length + m.length ≤ 1073741824) (hf : Tot (f (l ++ m)) Q) : Tot (Option.bind (app l m) f) Q := Tot.bindE (app_ok h) hf
theorem seti_len' {α : Type} (l : List α) (i : Int) (x : α) : (seti l i x).length = l.length := by unfold seti; simp
theorem spot_draw (x : Cur) {m : Int} (h : Cu x.1 m x.2.1) (hm : 12 ≤ m) : Tot (F_spec_l1Cur__spot__mut__box x) (Pk x.1 (m - 12) fun _ => True) := by
  unfold F_spec_l1Cur__spot__mut__box
  refine Tot.bind (pick_ok x _ h (by omega)) fun u1 h1 => ?_
  refine Tot.bind (pick_ok (x.1, u1.2.2.1, u1.2.2.2) _ h1.2.2 (by omega)) fun u2 h2 => ?_
  refine Tot.bind (amongT (x.1, u2.2.2.1, u2.2.2.2) _ h2.2.2 (by show 2 ≤ m - 2 - 2; omega) (by simp)) fun u3 h3 => ?_
  refine Tot.bind (pick_ok (x.1, u3.2.2.1, u3.2.2.2) _ h3.2.2 (by show 2 ≤ m - 2 - 2 - 2; omega)) fun u4 h4 => ?_
  refine Tot.bind (pick_ok (x.1, u4.2.2.1, u4.2.2.2) _ h4.2.2 (by show 2 ≤ m - 2 - 2 - 2 - 2; omega)) fun u5 h5 => ?_
  refine Tot.bind (amongT (x.1, u5.2.2.1, u5.2.2.2) _ h5.2.2 (by show 2 ≤ m - 2 - 2 - 2 - 2 - 2; omega) (by simp)) fun u6 h6 => ?_
  exact Tot.some ⟨trivial, rfl, h6.2.2.mono (by omega) (by show m - 12 ≤ m - 2 - 2 - 2 - 2 - 2 - 2; omega)⟩
theorem chFind_ok (l : List (Int × Int)) (s : Int × Int) (hl : l.length < 4611686018427387904) : ∃ r, F_spec_chFind l s = some r ∧ (decide (r < 0) = true ↔ s ∉ l) := by
  unfold F_spec_chFind
  have h := loopFind (F_spec_chFind_L1 l s) l (fun u => !eqv_Spot u s) (fun k => if k < l.length then some (k : Int) else some (-1)) hl (fun m k u hk hu hq => ?_) (fun m k u hk hu hq => ?_) (fun m => ?_)
  · rw [h]
    by_cases hlt : (l.takeWhile fun u => !eqv_Spot u s).length < l.length
    · rw [if_pos hlt]
      refine ⟨_, rfl, ?_⟩
      have : ¬ ((l.takeWhile fun u => !eqv_Spot u s).length : Int) < 0 := by omega
      simp only [this, decide_false, Bool.false_eq_true, false_iff, Classical.not_not]
      have key : ∀ (l : List (Int × Int)), (l.takeWhile fun u => !eqv_Spot u s).length < l.length → s ∈ l := by
        intro l
        induction l with
        | nil => intro h; simp at h
        | cons u l ih =>
          intro h
          cases hu : eqv_Spot u s with
          | true =>
            have : u = s := by
              unfold eqv_Spot at hu
              simp at hu
              exact Prod.ext hu.1 hu.2
            rw [this]; simp
          | false =>
            rw [List.takeWhile_cons_of_pos (by simp [hu])] at h
            exact List.mem_cons_of_mem _ (ih (by simpa using h))
      exact key l hlt
    · rw [if_neg hlt]
      refine ⟨_, rfl, ?_⟩
      simp only [show decide ((-1 : Int) < 0) = true by decide, true_iff]
      have key : ∀ (l : List (Int × Int)), ¬ (l.takeWhile fun u => !eqv_Spot u s).length < l.length → s ∉ l := by
        intro l
        induction l with
        | nil => intro _ h; simp at h
        | cons u l ih =>
          intro h hs
          cases hu : eqv_Spot u s with
          | true =>
            rw [List.takeWhile_cons_of_neg (by simp [hu])] at h
            simp at h
          | false =>
            rw [List.takeWhile_cons_of_pos (by simp [hu])] at h
            rcases List.mem_cons.1 hs with rfl | hs
            · simp [eqv_Spot] at hu
            · exact ih (by simpa using h) hs
      exact key l hlt
  · rw [F_spec_chFind_L1, if_pos (by simp; omega), idx_nat, hu, Option.bind_some, if_neg (by simpa using hq), w64_succ (by omega)]
  · rw [F_spec_chFind_L1, if_pos (by simp; omega), idx_nat, hu, Option.bind_some, if_pos (by simpa using hq), if_pos hk]
  · rw [F_spec_chFind_L1, if_neg (by simp)]
    simp
/-- How many spots are as far to the back as a later try. -/
def later (t : Int) : List (Int × Int) → Nat
  | [] => 0
  | e :: l => (if 7 + t ≤ e.2 then 1 else 0) + later t l
theorem later_le (t : Int) : ∀ l, later (t + 1) l ≤ later t l
  | [] => Nat.le_refl _
  | e :: l => by
    have := later_le t l
    unfold later
    split <;> split <;> omega
theorem later_mem (t a : Int) : ∀ l, (a, 7 + t) ∈ l → later (t + 1) l + 1 ≤ later t l
  | [], h => by cases h
  | e :: l, h => by
    have h2 := later_le t l
    unfold later
    rcases List.mem_cons.1 h with h | h
    · subst h
      rw [if_neg (by show ¬ 7 + (t + 1) ≤ 7 + t; omega), if_pos (by show 7 + t ≤ 7 + t; omega)]
      omega
    · have := later_mem t a l h
      split <;> split <;> omega
theorem later_app (t : Int) (e : Int × Int) : ∀ l, later t (l ++ [e]) ≤ later t l + 1 ∧ (e.2 < 7 + t → later t (l ++ [e]) = later t l)
  | [] => by
    simp only [List.nil_append, later]
    constructor
    · split <;> omega
    · intro h; rw [if_neg (by omega)]
  | d :: l => by
    have h1 := (later_app t e l).1
    have h2 := (later_app t e l).2
    simp only [List.cons_append, later]
    constructor
    · omega
    · intro h; rw [h2 h]
theorem least_tot {α : Type} {a b : Int} {f : Int → Option α} {Q : α → Prop} (h : ∀ v, Tot (f v) Q) : Tot (Option.bind (F_spec_l1Least a b) f) Q := by
  unfold F_spec_l1Least
  split <;> exact Tot.bindE rfl (h _)
def tries (n : Int) (t : Int) (l : List (Int × Int)) : Nat := 2 * (n - l.length).toNat + later t l + (61 - t).toNat
theorem chartOf_ok (x : Cur) (n : Int) (hn : n ≤ 13) {m : Int} (h : Cu x.1 m x.2.1) (hm : 2000 ≤ m) : Tot (F_spec_l1Cur__chartOf__mut__box x n) (Pk x.1 (m - 2000) fun l => l.length ≤ 13 ∧ n ≤ l.length) := by
  unfold F_spec_l1Cur__chartOf__mut__box
  refine Tot.loop (fun k (s : Int × Int × List (Int × Int) × Int) => F_spec_l1Cur__chartOf__mut__box_L1 n x k s.1 s.2.1 s.2.2.1 s.2.2.2) (fun s => tries n s.2.2.2 s.2.2.1)
    (fun s => s.2.2.1.length ≤ 13 ∧ 0 ≤ s.2.2.2 ∧ s.2.2.2 + tries n s.2.2.2 s.2.2.1 ≤ 87 ∧ Cu x.1 (m - 20 * s.2.2.2) s.1) (Pk x.1 (m - 2000) fun l => l.length ≤ 13 ∧ n ≤ l.length)
    (fun k s hs ih => ?_) FU (x.2.1, x.2.2, [], 0) ⟨by simp, by simp, by simp [tries, later]; omega, by simpa using h⟩ (by show _ < (4611686018427387904 : Nat); simp [tries, later]; omega)
  obtain ⟨a, sd, l, t⟩ := s
  obtain ⟨hl, ht0, ht, hc⟩ := hs
  dsimp only at hl ht0 ht hc ih ⊢
  rw [F_spec_l1Cur__chartOf__mut__box_L1]
  refine Tot.ite (fun hlt => ?_) fun hge => Tot.some ⟨by simp at hge; show l.length ≤ 13 ∧ n ≤ l.length; omega, rfl, hc.mono (by omega) (by omega)⟩
  have hlt' : (l.length : Int) < n := by simpa using hlt
  have et : w64 (t + 1) = t + 1 := w64_eq (by omega) (by omega)
  -- one more try
  have go : ∀ (y52 y53 y54 y55 : Int), Cu x.1 (m - 20 * (t + 1)) y52 →
      Tot (jK2 (fun (y62 : Int) (y63 : Int) => Option.bind (F_spec_chFind l (y62, y63)) fun u67 => (if (decide (u67 < 0)) = true then Option.bind (app l [(y62, y63)]) fun u80 => (F_spec_l1Cur__chartOf__mut__box_L1 n x k) (y52) (y53) (u80) ((w64 (t + 1))) else (F_spec_l1Cur__chartOf__mut__box_L1 n x k) (y52) (y53) (l) ((w64 (t + 1)))))
        (fun k64 => (if (decide (60 < t)) = true then k64 ((w64 (3 * (List.length l : Int)))) ((w64 (7 + t))) else k64 (y54) (y55)))) (Pk x.1 (m - 2000) fun l => l.length ≤ 13 ∧ n ≤ l.length) := by
    intro a s y54 y55 hc2
    unfold jK2
    dsimp only
    rw [et]
    have hll := later_le t l
    have no : (60 < t → ∃ b, (b, 7 + t) ∈ l) → Tot (F_spec_l1Cur__chartOf__mut__box_L1 n x k a s l (t + 1)) (Pk x.1 (m - 2000) fun l => l.length ≤ 13 ∧ n ≤ l.length) := by
      intro hb
      have hμ : tries n (t + 1) l + 1 ≤ tries n t l := by
        unfold tries
        by_cases h60 : 60 < t
        · obtain ⟨b, hb⟩ := hb h60
          have := later_mem t b l hb
          omega
        · omega
      exact ih (a, s, l, t + 1) ⟨hl, by show 0 ≤ t + 1; omega, by show t + 1 + (tries n (t + 1) l : Int) ≤ 87; omega, hc2⟩ (by show tries n (t + 1) l < tries n t l; omega)
    have yes : ∀ e : Int × Int, (60 < t → e.2 = 7 + t) → Tot (F_spec_l1Cur__chartOf__mut__box_L1 n x k a s (l ++ [e]) (t + 1)) (Pk x.1 (m - 2000) fun l => l.length ≤ 13 ∧ n ≤ l.length) := by
      intro e he
      have hla := later_app (t + 1) e l
      have hμ : tries n (t + 1) (l ++ [e]) + 1 ≤ tries n t l := by
        unfold tries
        rw [List.length_append]
        simp only [List.length_cons, List.length_nil]
        by_cases h60 : 60 < t
        · have := hla.2 (by rw [he h60]; omega)
          omega
        · have := hla.1
          omega
      exact ih (a, s, l ++ [e], t + 1) ⟨by simp; omega, by show 0 ≤ t + 1; omega, by show t + 1 + (tries n (t + 1) (l ++ [e]) : Int) ≤ 87; omega, hc2⟩ (by show tries n (t + 1) (l ++ [e]) < tries n t l; omega)
    refine Tot.ite (fun h60 => ?_) fun h60 => ?_
    · have h60' : 60 < t := by simpa using h60
      rw [w64_eq (x := 3 * (l.length : Int)) (by omega) (by omega), w64_eq (x := 7 + t) (by omega) (by omega)]
      obtain ⟨r, hr, hr2⟩ := chFind_ok l (3 * (l.length : Int), 7 + t) (by omega)
      refine Tot.bindE hr (Tot.ite (fun hq => app_tot' (by simp; omega) (yes _ fun _ => rfl)) fun hq => no fun _ => ⟨3 * (l.length : Int), ?_⟩)
      by_cases hn : (3 * (l.length : Int), 7 + t) ∈ l
      · exact hn
      · rw [hr2.2 hn] at hq
        cases hq
    · have h60' : ¬ 60 < t := by simpa using h60
      obtain ⟨r, hr, hr2⟩ := chFind_ok l (y54, y55) (by omega)
      exact Tot.bindE hr (Tot.ite (fun hq => app_tot' (by simp; omega) (yes _ fun h => absurd h h60')) fun hq => no fun h => absurd h h60')
  unfold jK3 jK4
  dsimp only
  refine Tot.bind (spot_draw (x.1, a, sd) hc (by omega)) fun u33 h33 => ?_
  have c33 : Cu x.1 (m - 20 * t - 12) u33.2.2.1 := h33.2.2
  refine Tot.ite (fun hpos => ?_) fun _ => ?_
  · refine Tot.bind (one_ok (x.1, u33.2.2.1, u33.2.2.2) _ c33 (by omega)) fun u350 h350 => ?_
    have c350 : Cu x.1 (m - 20 * t - 14) u350.2.2.1 := h350.2.2.mono (by omega) (by show _ ≤ m - 20 * t - 12 - 2; omega)
    refine Tot.ite (fun _ => ?_) fun _ => go _ _ _ _ (c350.mono (by omega) (by omega))
    refine Tot.bind (pick_ok (x.1, u350.2.2.1, u350.2.2.2) _ c350 (by omega)) fun u104 h104 => ?_
    obtain ⟨v, hv, hmem, _⟩ := idx_pick l (fun e => by rw [e] at hpos; simp at hpos) h104.1
    refine Tot.bindE hv ?_
    refine Tot.bind (amongT (x.1, u104.2.2.1, u104.2.2.2) _ h104.2.2 (by show 2 ≤ m - 20 * t - 14 - 2; omega) (by simp)) fun u140 h140 => least_tot fun w1 => ?_
    refine Tot.bind (amongT (x.1, u140.2.2.1, u140.2.2.2) _ h140.2.2 (by show 2 ≤ m - 20 * t - 14 - 2 - 2; omega) (by simp)) fun u168 h168 => least_tot fun w2 => ?_
    exact go _ _ _ _ (h168.2.2.mono (by omega) (by show _ ≤ m - 20 * t - 14 - 2 - 2 - 2; omega))
  · rw [if_neg (by simp)]
    exact go _ _ _ _ (c33.mono (by omega) (by omega))
theorem chart_draw (x : Cur) {m : Int} (h : Cu x.1 m x.2.1) (hm : 2010 ≤ m) : Tot (F_spec_l1Cur__chart__mut__box x) (Pk x.1 (m - 2010) fun l => l.length ≤ 13 ∧ 1 ≤ l.length) := by
  unfold F_spec_l1Cur__chart__mut__box
  refine Tot.bind (one_ok x _ h (by omega)) fun u4 h4 => Tot.ite (fun _ => ?_) fun _ => ?_
  · refine Tot.bind (chartOf_ok (x.1, u4.2.2.1, u4.2.2.2) 12 (by omega) h4.2.2 (by show 2000 ≤ m - 2; omega)) fun u hu => ?_
    have hu1 := hu.1
    exact Tot.some ⟨by show u.1.length ≤ 13 ∧ 1 ≤ u.1.length; omega, rfl, hu.2.2.mono (by omega) (by show _ ≤ m - 2 - 2000; omega)⟩
  · refine Tot.bind (pick_ok (x.1, u4.2.2.1, u4.2.2.2) _ h4.2.2 (by omega)) fun u21 h21 => ?_
    have h21' := h21.1
    refine Tot.bind (chartOf_ok (x.1, u21.2.2.1, u21.2.2.2) _ (by rw [w64_eq (by omega) (by omega)]; omega) h21.2.2 (by show 2000 ≤ m - 2 - 2; omega)) fun u hu => ?_
    have hu1 := hu.1
    rw [w64_eq (by omega) (by omega)] at hu1
    exact Tot.some ⟨by show u.1.length ≤ 13 ∧ 1 ≤ u.1.length; omega, rfl, hu.2.2.mono (by omega) (by show _ ≤ m - 2 - 2 - 2000; omega)⟩
theorem anySpot_draw (x : Cur) {m : Int} (h : Cu x.1 m x.2.1) (hm : 20 ≤ m) : Tot (F_spec_l1Cur__anySpot__mut__box x) (Pk x.1 (m - 20) fun _ => True) := by
  unfold F_spec_l1Cur__anySpot__mut__box jK4
  dsimp only
  refine Tot.bind (spot_draw x h (by omega)) fun u8 h8 => ?_
  refine Tot.bind (pick_ok (x.1, u8.2.2.1, u8.2.2.2) _ h8.2.2 (by omega)) fun u39 h39 => ?_
  have c39 : Cu x.1 (m - 14) u39.2.2.1 := h39.2.2.mono (by omega) (by show _ ≤ m - 12 - 2; omega)
  refine Tot.ite (fun _ => ?_) fun _ => Tot.ite (fun _ => ?_) fun _ => Tot.some ⟨trivial, rfl, c39.mono (by omega) (by omega)⟩
  · exact Tot.bind (amongT (x.1, u39.2.2.1, u39.2.2.2) _ c39 (by omega) (by simp)) fun u hu => Tot.some ⟨trivial, rfl, hu.2.2.mono (by omega) (by show _ ≤ m - 14 - 2; omega)⟩
  · exact Tot.bind (amongT (x.1, u39.2.2.1, u39.2.2.2) _ c39 (by omega) (by simp)) fun u hu => Tot.some ⟨trivial, rfl, hu.2.2.mono (by omega) (by show _ ≤ m - 14 - 2; omega)⟩
theorem anyChart_draw (x : Cur) {m : Int} (h : Cu x.1 m x.2.1) (hm : 5000 ≤ m) : Tot (F_spec_l1Cur__anyChart__mut__box x) (Pk x.1 (m - 5000) fun l => l.length ≤ 13) := by
  unfold F_spec_l1Cur__anyChart__mut__box jK3
  dsimp only
  refine Tot.bind (chart_draw x h (by omega)) fun u3 h3 => ?_
  have h31 := h3.1
  refine Tot.bind (pick_ok (x.1, u3.2.2.1, u3.2.2.2) _ h3.2.2 (by omega)) fun u12 h12 => ?_
  obtain ⟨v, hv, hmem, _⟩ := idx_pick u3.1 (fun e => by rw [e] at h31; simp at h31) h12.1
  refine Tot.bind (pick_ok (x.1, u12.2.2.1, u12.2.2.2) _ h12.2.2 (by show 2 ≤ m - 2010 - 2; omega)) fun u31 h31b => ?_
  have c31 : Cu x.1 (m - 2020) u31.2.2.1 := h31b.2.2.mono (by omega) (by show _ ≤ m - 2010 - 2 - 2; omega)
  have fin : ∀ (a s : Int) (l : List (Int × Int)), l.length ≤ 13 → Cu x.1 (m - 5000) a → Tot (some (l, (x.1, a, s))) (Pk x.1 (m - 5000) fun l => l.length ≤ 13) := fun a s l h1 h2 => Tot.some ⟨h1, rfl, h2⟩
  refine Tot.ite (fun _ => ?_) fun _ => Tot.ite (fun _ => ?_) fun _ => Tot.ite (fun _ => ?_) fun _ => Tot.ite (fun _ => ?_) fun _ => ?_
  · refine Tot.bind (anySpot_draw (x.1, u31.2.2.1, u31.2.2.2) c31 (by omega)) fun u hu => Tot.bindE hv (fin _ _ _ (by rw [seti_len']; omega) (hu.2.2.mono (by omega) (by show _ ≤ m - 2020 - 20; omega)))
  · have h0 : idx u3.1 0 = some u3.1[0] := by rw [idx_zero]; exact List.getElem?_eq_getElem (by omega)
    exact Tot.bindE h0 (Tot.bindE hv (fin _ _ _ (by rw [seti_len']; omega) (c31.mono (by omega) (by omega))))
  · exact fin _ _ _ (by simp) (c31.mono (by omega) (by omega))
  · refine Tot.bind (chartOf_ok (x.1, u31.2.2.1, u31.2.2.2) 13 (by omega) c31 (by omega)) fun u hu => fin _ _ _ hu.1.1 (hu.2.2.mono (by omega) (by show _ ≤ m - 2020 - 2000; omega))
  · exact fin _ _ _ (by omega) (c31.mono (by omega) (by omega))
/-- What drawn shows are. -/
def shortShow (s : ShowT) : Prop := s.1.length ≤ 9 ∧ (∀ c ∈ s.1, c.length ≤ 13) ∧ s.2.1.length ≤ 9
theorem shortShow.lens {s : ShowT} (h : shortShow s) : lensOk s := ⟨by have := h.1; omega, fun c hc => by have := h.2.1 c hc; omega, by have := h.2.2; omega⟩
theorem show_draw (x : Cur) {m : Int} (h : Cu x.1 m x.2.1) (hm : 50000 ≤ m) : Tot (F_spec_l1Cur__show__mut__box x) (Pk x.1 (m - 50000) shortShow) := by
  unfold F_spec_l1Cur__show__mut__box
  refine Tot.bind (pick_ok x _ h (by omega)) fun u8 h8 => ?_
  have h81 := h8.1
  have e8 : w64 (1 + u8.1) = 1 + u8.1 := w64_eq (by omega) (by omega)
  refine Tot.bind (chartOf_ok (x.1, u8.2.2.1, u8.2.2.2) _ (by rw [e8]; omega) h8.2.2 (by omega)) fun u15 h15 => ?_
  refine Tot.bind (amongT (x.1, u15.2.2.1, u15.2.2.2) _ h15.2.2 (by show 2 ≤ m - 2 - 2000; omega) (by simp)) fun u38 h38 => ?_
  refine Tot.bind (amongT (x.1, u38.2.2.1, u38.2.2.2) _ h38.2.2 (by show 2 ≤ m - 2 - 2000 - 2; omega) (by simp)) fun u50 h50 => ?_
  refine Tot.bind (pick_ok (x.1, u50.2.2.1, u50.2.2.2) _ h50.2.2 (by show 2 ≤ m - 2 - 2000 - 2 - 2; omega)) fun u66 h66 => ?_
  have h661 := h66.1
  have c66 : Cu x.1 (m - 2010) u66.2.2.1 := h66.2.2.mono (by omega) (by show _ ≤ m - 2 - 2000 - 2 - 2 - 2; omega)
  have loop : ∀ (a s many : Int), Cu x.1 (m - 2020) a → 2 ≤ many → many ≤ 9 → Tot (F_spec_l1Cur__show__mut__box_L1 many x u8 u50 u38 FU a s ([u15.1]) ([])) (Pk x.1 (m - 50000) shortShow) := by
    intro a0 s0 many ha hm1 hm2
    have h151 := h15.1
    refine Tot.loop (fun k (s : Int × Int × List (List (Int × Int)) × List Int) => F_spec_l1Cur__show__mut__box_L1 many x u8 u50 u38 k s.1 s.2.1 s.2.2.1 s.2.2.2) (fun s => 10 - s.2.2.1.length)
      (fun s => 1 ≤ s.2.2.1.length ∧ s.2.2.1.length ≤ 9 ∧ (∀ c ∈ s.2.2.1, c.length ≤ 13) ∧ s.2.2.2.length + 1 = s.2.2.1.length ∧ Cu x.1 (m - 3000 * s.2.2.1.length) s.1) (Pk x.1 (m - 50000) shortShow)
      (fun k s hs ih => ?_) FU (a0, s0, [u15.1], []) ⟨by simp, by simp, fun c hc => by rw [List.mem_singleton.1 hc]; exact h151.1, by simp, ha.mono (by show 0 ≤ m - 3000 * (1 : Int); omega) (by show m - 3000 * (1 : Int) ≤ m - 2020; omega)⟩ (by show _ < (4611686018427387904 : Nat); simp)
    obtain ⟨a, sd, l, ns⟩ := s
    obtain ⟨hl1, hl9, hlc, hns, hc⟩ := hs
    dsimp only at hl1 hl9 hlc hns hc ih ⊢
    rw [F_spec_l1Cur__show__mut__box_L1]
    have elast : idx l (w64 ((l.length : Int) - 1)) = some l[l.length - 1] := by
      rw [w64_eq (by omega) (by omega), idx_int (by omega), show ((l.length : Int) - 1).toNat = l.length - 1 by omega]
      exact List.getElem?_eq_getElem (by omega)
    have hlast : l[l.length - 1].length ≤ 13 := hlc _ (List.getElem_mem _)
    refine Tot.ite (fun hlt => ?_) fun hge => ?_
    · have hlt' : (l.length : Int) < many := by simpa using hlt
      refine Tot.bindE elast ?_
      refine Tot.bind (chartOf_ok (x.1, a, sd) _ (by rw [e8]; omega) hc (by omega)) fun u108 h108 => ?_
      have c108 : Cu x.1 (m - 3000 * l.length - 2000) u108.2.2.1 := h108.2.2
      have more : ∀ (a s : Int) (nl : List (Int × Int)), nl.length ≤ 13 → Cu x.1 (m - 3000 * l.length - 2500) a → Tot (Option.bind (app l [nl]) fun u137 =>
          Option.bind (F_spec_l1Cur__among__mut__box (x.1, a, s) [1, 4, 8, 16, 64]) fun u164 => Option.bind (app ns [u164.1]) fun u182 => (F_spec_l1Cur__show__mut__box_L1 many x u8 u50 u38 k) (u164.2.2.1) (u164.2.2.2) (u137) (u182)) (Pk x.1 (m - 50000) shortShow) := by
        intro a s nl hnl ha
        refine app_tot' (by simp; omega) (Tot.bind (amongT (x.1, a, s) _ ha (by omega) (by simp)) fun u164 h164 => app_tot' (by simp; omega) ?_)
        exact ih (u164.2.2.1, u164.2.2.2, l ++ [nl], ns ++ [u164.1]) ⟨by simp, by simp; omega, fun c hc => by rcases List.mem_append.1 hc with hc | hc; exact hlc c hc; rw [List.mem_singleton.1 hc]; exact hnl,
          by simp; omega, h164.2.2.mono (by simp; omega) (by simp; omega)⟩ (by simp; omega)
      unfold jK3
      dsimp only
      refine Tot.bind (one_ok (x.1, u108.2.2.1, u108.2.2.2) _ c108 (by omega)) fun u292 h292 => ?_
      have c292 : Cu x.1 (m - 3000 * l.length - 2002) u292.2.2.1 := h292.2.2.mono (by omega) (by show _ ≤ m - 3000 * (l.length : Int) - 2000 - 2; omega)
      refine Tot.ite (fun _ => ?_) fun _ => more _ _ _ h108.1.1 (c292.mono (by omega) (by omega))
      refine Tot.bindE (spec_chOwn _ (by omega)) ?_
      generalize l[l.length - 1] = last at hlast ⊢
      refine Tot.loop (fun k2 (s : Int × Int × List (Int × Int) × Int) => F_spec_l1Cur__show__mut__box_L2 last x last _ k2 s.1 s.2.1 s.2.2.1 s.2.2.2) (fun s => (last.length - s.2.2.2).toNat)
        (fun s => s.2.2.1.length = last.length ∧ 0 ≤ s.2.2.2 ∧ s.2.2.2 ≤ last.length ∧ Cu x.1 (m - 3000 * l.length - 2002 - 2 * s.2.2.2) s.1) _
        (fun k2 s hs ih2 => ?_) FU (u292.2.2.1, u292.2.2.2, last, 0) ⟨rfl, by simp, by simp, by simpa using c292⟩ (by show _ < (4611686018427387904 : Nat); simp; omega)
      obtain ⟨a2, s2, l2, y⟩ := s
      obtain ⟨hl2, hy0, hy, hc2⟩ := hs
      dsimp only at hl2 hy0 hy hc2 ih2 ⊢
      rw [F_spec_l1Cur__show__mut__box_L2]
      refine Tot.ite (fun hylt => ?_) fun _ => ?_
      · have hylt' : y < last.length := by simpa using hylt
        have ey : idx l2 y = some l2[y.toNat] := by rw [idx_int hy0]; exact List.getElem?_eq_getElem (by omega)
        unfold jK3
        dsimp only
        refine Tot.bindE ey (Tot.bind (amongT (x.1, a2, s2) _ hc2 (by omega) (by simp)) fun u361 h361 => least_tot fun w1 => Tot.bindE ey ?_)
        rw [w64_eq (x := y + 1) (by omega) (by omega)]
        exact ih2 (u361.2.2.1, u361.2.2.2, seti l2 y (w1, l2[y.toNat].2), y + 1) ⟨by rw [seti_len']; exact hl2, by show 0 ≤ y + 1; omega, by show y + 1 ≤ last.length; omega, h361.2.2.mono (by show 0 ≤ m - 3000 * (l.length : Int) - 2002 - 2 * (y + 1); omega) (by show m - 3000 * (l.length : Int) - 2002 - 2 * (y + 1) ≤ m - 3000 * (l.length : Int) - 2002 - 2 * y - 2; omega)⟩
          (by show ((last.length : Int) - (y + 1)).toNat < ((last.length : Int) - y).toNat; omega)
      · refine Tot.bindE (spec_chGood l2 (by omega)) (Tot.ite (fun _ => Tot.bindE (spec_chOwn _ (by omega)) (more _ _ _ hlast (hc2.mono (by omega) (by omega)))) fun _ => more _ _ _ (by omega) (hc2.mono (by omega) (by omega)))
    · have hge' : many ≤ (l.length : Int) := by simpa using hge
      have fin : ∀ (a s : Int) (cs : List (List (Int × Int))) (ns : List Int) (p q : Int), cs.length ≤ 9 → (∀ c ∈ cs, c.length ≤ 13) → ns.length ≤ 9 → Cu x.1 (m - 50000) a → Tot (some ((cs, ns, p, q), (x.1, a, s))) (Pk x.1 (m - 50000) shortShow) :=
        fun a s cs ns p q h1 h2 h3 h4 => Tot.some ⟨⟨h1, h2, h3⟩, rfl, h4⟩
      unfold jK6
      dsimp only
      refine Tot.bind (pick_ok (x.1, a, sd) _ hc (by omega)) fun u499 h499 => ?_
      have c499 : Cu x.1 (m - 30000) u499.2.2.1 := h499.2.2.mono (by omega) (by show _ ≤ m - 3000 * (l.length : Int) - 2; omega)
      have cend : Cu x.1 (m - 50000) u499.2.2.1 := c499.mono (by omega) (by omega)
      refine Tot.ite (fun _ => ?_) fun _ => Tot.ite (fun _ => ?_) fun _ => Tot.ite (fun _ => ?_) fun _ => Tot.ite (fun _ => ?_) fun _ => Tot.ite (fun _ => ?_) fun _ => Tot.ite (fun _ => ?_) fun _ => ?_
      · exact Tot.bind (amongT (x.1, u499.2.2.1, u499.2.2.2) _ c499 (by omega) (by simp)) fun u hu => fin _ _ _ _ _ _ hl9 hlc (by omega) (hu.2.2.mono (by omega) (by show _ ≤ m - 30000 - 2; omega))
      · exact Tot.bind (amongT (x.1, u499.2.2.1, u499.2.2.2) _ c499 (by omega) (by simp)) fun u hu => fin _ _ _ _ _ _ hl9 hlc (by omega) (hu.2.2.mono (by omega) (by show _ ≤ m - 30000 - 2; omega))
      · refine Tot.bind (amongT (x.1, u499.2.2.1, u499.2.2.2) _ c499 (by omega) (by simp)) fun u hu => ?_
        have e0 : idx ns 0 = some ns[0] := by rw [idx_zero]; exact List.getElem?_eq_getElem (by omega)
        exact Tot.bindE e0 (fin _ _ _ _ _ _ hl9 hlc (by rw [seti_len']; omega) (hu.2.2.mono (by omega) (by show _ ≤ m - 30000 - 2; omega)))
      · refine Tot.bind (anyChart_draw (x.1, u499.2.2.1, u499.2.2.2) c499 (by omega)) fun u hu => Tot.bindE elast (fin _ _ _ _ _ _ (by rw [seti_len']; exact hl9) (fun c hc => ?_) (by omega) (hu.2.2.mono (by omega) (by show _ ≤ m - 30000 - 5000; omega)))
        unfold seti at hc
        rcases List.mem_or_eq_of_mem_set hc with hc | rfl
        · exact hlc c hc
        · exact hu.1
      · exact app_tot' (by simp; omega) (fin _ _ _ _ _ _ hl9 hlc (by simp; omega) cend)
      · have esl : sl l 0 1 = some (l.take 1) := sl_take l (k := 1) hl1
        exact Tot.bindE esl (fin _ _ _ _ _ _ (by simp; omega) (fun c hc => hlc c (List.mem_of_mem_take hc)) (by simp) cend)
      · exact fin _ _ _ _ _ _ hl9 hlc (by omega) cend
  unfold jK3
  dsimp only
  refine Tot.bind (one_ok (x.1, u66.2.2.1, u66.2.2.2) _ c66 (by omega)) fun u786 h786 => Tot.ite (fun _ => ?_) fun _ => ?_
  · refine Tot.bind (pick_ok (x.1, u786.2.2.1, u786.2.2.2) _ h786.2.2 (by omega)) fun u793 h793 => ?_
    have := h793.1
    refine loop _ _ _ (h793.2.2.mono (by omega) (by show _ ≤ m - 2010 - 2 - 2; omega)) ?_ ?_
    · rw [w64_eq (by omega) (by omega)]; omega
    · rw [w64_eq (by omega) (by omega)]; omega
  · refine loop _ _ _ (h786.2.2.mono (by omega) (by show _ ≤ m - 2010 - 2; omega)) ?_ ?_
    · rw [w64_eq (by omega) (by omega)]; omega
    · rw [w64_eq (by omega) (by omega)]; omega
theorem partOf_draw (x : Cur) (s : ShowT) {m : Int} (h : Cu x.1 m x.2.1) (hm : 10 ≤ m) : Tot (F_spec_l1Cur__partOf__mut__box x s) (Pk x.1 (m - 10) fun _ => True) := by
  unfold F_spec_l1Cur__partOf__mut__box
  refine Tot.bind (pick_ok x _ h (by omega)) fun u1 h1 => ?_
  refine Tot.bind (pick_ok (x.1, u1.2.2.1, u1.2.2.2) _ h1.2.2 (by omega)) fun u2 h2 => ?_
  refine Tot.bind (pick_ok (x.1, u2.2.2.1, u2.2.2.2) _ h2.2.2 (by show 2 ≤ m - 2 - 2; omega)) fun u3 h3 => ?_
  exact Tot.some ⟨trivial, rfl, h3.2.2.mono (by omega) (by show m - 10 ≤ m - 2 - 2 - 2; omega)⟩
/-! what the laws draw -/
theorem Cu.begin {c : List Int} (h : allG inU8 c) : Cu c 100000000 0 := ⟨fun b hb => h.2 b hb, by omega, by omega, by omega⟩
section
variable (c : List Int) (h : Cu c 100000000 0)
include h
theorem draw_IsShow : Tot (F_spec_DrawIsShow c) shortShow := by
  unfold F_spec_DrawIsShow
  exact Tot.bind (show_draw (c, 0, 0) h (by omega)) fun u hu => Tot.some hu.1
theorem draw_PublishSheets : Tot (F_spec_DrawPublishSheets c) shortShow := by
  unfold F_spec_DrawPublishSheets
  exact Tot.bind (draw_IsShow c h) fun u hu => Tot.some hu
theorem draw_ShowMoves : Tot (F_spec_DrawShowMoves c) fun v => shortShow v.1 := by
  unfold F_spec_DrawShowMoves
  exact Tot.bind (show_draw (c, 0, 0) h (by omega)) fun u hu => Tot.bind (partOf_draw (c, u.2.2.1, u.2.2.2) u.1 hu.2.2 (by omega)) fun v hv => Tot.some hu.1
end
end Go.Proofs.Ytmkignciedkidaa
/-
  MARCHES, PLAIN: what the tests of marches answer.
-/
set_option linter.unusedSimpArgs false
set_option linter.unusedVariables false
namespace Go.Proofs.Ytmkignciedkidaa
open Go
end Go.Proofs.Ytmkignciedkidaa
/-
  THE MOST BEHIND, PLAIN.
-/
set_option linter.unusedSimpArgs false
set_option linter.unusedVariables false
namespace Go.Proofs.Ytmkignciedkidaa
open Go
end Go.Proofs.Ytmkignciedkidaa
/-
  ONE BEAT, PLAIN.
-/
set_option linter.unusedSimpArgs false
set_option linter.unusedVariables false
namespace Go.Proofs.Ytmkignciedkidaa
open Go
end Go.Proofs.Ytmkignciedkidaa
/-
  A HALT ENDS, PLAIN.
-/
set_option linter.unusedSimpArgs false
set_option linter.unusedVariables false
namespace Go.Proofs.Ytmkignciedkidaa
open Go
def without (l : List Int) (n : Int) : List Int := l.filter (fun u => u != n)
end Go.Proofs.Ytmkignciedkidaa
/-
  A PERFORMER HALTS, PLAIN: sorting by insertion.
-/
set_option linter.unusedSimpArgs false
set_option linter.unusedVariables false
namespace Go.Proofs.Ytmkignciedkidaa
open Go
end Go.Proofs.Ytmkignciedkidaa
/-
  BEATS ONE AFTER ANOTHER, PLAIN.
-/
set_option linter.unusedSimpArgs false
set_option linter.unusedVariables false
namespace Go.Proofs.Ytmkignciedkidaa
open Go
end Go.Proofs.Ytmkignciedkidaa
/-
  THE DRAWN LAWS' OWN COMPARISONS, PLAIN: a thing is the same as itself.
-/
set_option linter.unusedSimpArgs false
set_option linter.unusedVariables false
namespace Go.Proofs.Ytmkignciedkidaa
open Go
theorem p_Ints (x : List Int) (hs : x.length ≤ 1048576) : F_laws_sameInts x x = some true := eqLB neI (F_laws_sameInts_L1 x x) x (fun _ _ => rfl) (S := anyG) ⟨hs, fun _ _ => trivial⟩
theorem p_Lists (x : List (List Int)) (hs : x.length ≤ 1048576) (h : ∀ u ∈ x, u.length ≤ 1048576) : F_laws_sameLists x x = some true :=
  eqL (F_laws_sameLists_L1 x x) x F_laws_sameInts (fun _ _ => rfl) (S := fun u => u.length ≤ 1048576) (fun u hu => p_Ints u hu) ⟨hs, h⟩
theorem p_Spots (x : List (Int × Int)) (hs : x.length ≤ 1048576) : F_laws_pSameSpots x x = some true :=
  eqL (F_laws_pSameSpots_L1 x x) x (fun u v => some (eqv_Spot u v)) (fun _ _ => rfl) (S := anyG) (fun u _ => by simp [eqv_Spot]) ⟨hs, fun _ _ => trivial⟩
theorem p_Charts (x : List (List (Int × Int))) (hs : x.length ≤ 1048576) (h : ∀ u ∈ x, u.length ≤ 1048576) : F_laws_pSameCharts x x = some true :=
  eqL (F_laws_pSameCharts_L1 x x) x F_laws_pSameSpots (fun _ _ => rfl) (S := fun u => u.length ≤ 1048576) (fun u hu => p_Spots u hu) ⟨hs, h⟩
theorem p_Moves (x : List MoveT) (hs : x.length ≤ 1048576) : F_laws_pSameMoves x x = some true :=
  eqL (F_laws_pSameMoves_L1 x x) x (fun u v => some (eqv_Move u v)) (fun _ _ => rfl) (S := anyG) (fun u _ => by simp [eqv_Move]) ⟨hs, fun _ _ => trivial⟩
def smallShow (x : ShowT) : Prop := x.1.length ≤ 1048576 ∧ (∀ c ∈ x.1, c.length ≤ 1048576) ∧ x.2.1.length ≤ 1048576
theorem p_Show (x : ShowT) (h : smallShow x) : F_laws_pSameShow x x = some true := by
  unfold F_laws_pSameShow jK1
  dsimp only
  rw [p_Charts _ h.1 h.2.1, Option.bind_some, if_pos rfl, p_Ints _ h.2.2, Option.bind_some, if_pos rfl]
  simp
theorem small_ok {x : ShowT} (h : okShow x = true) : smallShow x := by
  have f := facts h
  have h1 := f.n1
  have h2 := f.nc
  exact ⟨by omega, fun c hc => by have := (f.cl c hc).2; omega, by omega⟩
theorem short_lens_of {x : ShowT} (h : okShow x = true) : lensOk x := by
  have s := small_ok h
  exact ⟨by have := s.1; omega, fun c hc => by have := s.2.1 c hc; omega, by have := s.2.2; omega⟩
theorem small_nil : smallShow (([], [], 0, 0) : ShowT) := by unfold smallShow; simp
theorem p_In (x : List Int) (n : Int) (hs : x.length < 4611686018427387904) : F_laws_pIn x n = some (decide (n ∈ x)) := by
  unfold F_laws_pIn
  rw [loopL (F_laws_pIn_L1 x n) x (fun u => u != n) (some false) (some true) hs (fun m k u hk hu => ?_) (fun m => ?_)]
  · by_cases h : n ∈ x
    · rw [if_neg (fun h2 => by have := List.all_eq_true.1 h2 n h; simp at this)]
      simp [h]
    · rw [if_pos (List.all_eq_true.2 fun u hu => by simp; intro e; exact h (e ▸ hu))]
      simp [h]
  · rw [F_laws_pIn_L1, if_pos (by simp; omega), idx_nat, hu, Option.bind_some, w64_succ (by omega)]
    by_cases e : u = n <;> simp [e]
  · rw [F_laws_pIn_L1, if_neg (by simp)]
theorem p_Sum (l : List Int) (h : l.length < 4611686018427387904) : F_laws_pSum l = some (l.foldl (fun a u => w64 (a + u)) 0) := by
  unfold F_laws_pSum
  rw [loopFold (F_laws_pSum_L1 l) l (fun a u => w64 (a + u)) some h (fun m s k u hk hu => ?_) (fun m s => ?_)]
  · rw [F_laws_pSum_L1, if_pos (by simp; omega), idx_nat, hu, Option.bind_some, w64_succ (by omega)]
  · rw [F_laws_pSum_L1, if_neg (by simp)]
theorem big_tot {β : Type} (x y : List Int) {f : Bool → Option β} {Q : β → Prop} (h : ∀ b, Tot (f b) Q) : Tot (Option.bind (F_laws_big x y) f) Q := by
  unfold F_laws_big jK1
  dsimp only
  refine Tot.bind (P := fun _ => True) ?_ fun b _ => h b
  split
  · exact Tot.some trivial
  · exact Tot.some trivial
theorem mem_filt {p : Nat → Bool} {n k : Nat} (hk : k < n) : (k : Int) ∈ filt p n ↔ p k = true := by
  unfold filt
  simp only [List.mem_map, List.mem_filter, List.mem_range]
  constructor
  · rintro ⟨j, ⟨h1, h2⟩, e⟩
    have : j = k := by omega
    rwa [← this]
  · intro h
    exact ⟨k, ⟨hk, h⟩, rfl⟩
end Go.Proofs.Ytmkignciedkidaa
/-
  HOW NEAR TWO MOVES COME, PLAIN.
-/
set_option linter.unusedSimpArgs false
set_option linter.unusedVariables false
namespace Go.Proofs.Ytmkignciedkidaa
open Go
theorem mulB {x y A B : Int} (h1 : -A ≤ x) (h2 : x ≤ A) (h3 : -B ≤ y) (h4 : y ≤ B) : -(A * B) ≤ x * y ∧ x * y ≤ A * B := by
  have h : (x * y).natAbs ≤ A.toNat * B.toNat := by rw [Int.natAbs_mul]; exact Nat.mul_le_mul (by omega) (by omega)
  have e : ((A.toNat * B.toNat : Nat) : Int) = A * B := by
    rw [Int.natCast_mul, Int.toNat_of_nonneg (by omega), Int.toNat_of_nonneg (by omega)]
  omega
/-- A fraction in lowest terms. -/
def low (a b : Int) : Int × Int := (w64 (Int.tdiv a (Nat.gcd a.toNat b.toNat : Int)), w64 (Int.tdiv b (Nat.gcd a.toNat b.toNat : Int)))
theorem gcd_loop : ∀ (y x m : Nat), y < m → F_impl_gcdOf_L1 m (x : Int) (y : Int) = some ((Nat.gcd x y : Nat) : Int) := by
  intro y
  induction y using Nat.strongRecOn with
  | _ y ih =>
    intro x m hm
    cases m with
    | zero => omega
    | succ m =>
      rw [F_impl_gcdOf_L1]
      by_cases h : y = 0
      · subst h
        simp
      · have hy : ((y : Int) != 0) = true := by simp; omega
        have hy' : ¬ (y : Int) = 0 := by omega
        rw [if_pos hy, if_neg hy', ← Int.ofNat_tmod, ih (x % y) (Nat.mod_lt _ (by omega)) y m (by have := Nat.mod_lt x (show 0 < y by omega); omega)]
        congr 2
        rw [Nat.gcd_comm x y, Nat.gcd_rec y x]
        exact Nat.gcd_comm _ _
theorem part_loop (a b : Int) : ∀ (y x m : Nat), y < m → 0 < Nat.gcd x y → F_spec_mvPart_L1 a b m (x : Int) (y : Int) = some (w64 (Int.tdiv a (Nat.gcd x y : Int)), w64 (Int.tdiv b (Nat.gcd x y : Int))) := by
  intro y
  induction y using Nat.strongRecOn with
  | _ y ih =>
    intro x m hm hg
    cases m with
    | zero => omega
    | succ m =>
      rw [F_spec_mvPart_L1]
      by_cases h : y = 0
      · subst h
        have hx : ¬ x = 0 := by simp at hg; omega
        simp [hx]
      · have hy : decide (0 < (y : Int)) = true := by simp; omega
        have hy' : ¬ (y : Int) = 0 := by omega
        have e : Nat.gcd x y = Nat.gcd y (x % y) := by rw [Nat.gcd_comm x y, Nat.gcd_rec y x]; exact Nat.gcd_comm _ _
        rw [if_pos hy, if_neg hy', ← Int.ofNat_tmod, ih (x % y) (Nat.mod_lt _ (by omega)) y m (by have := Nat.mod_lt x (show 0 < y by omega); omega) (by rw [← e]; exact hg), e]
theorem impl_lowestTerms (a b : Int) (ha : 0 ≤ a) (ha2 : a ≤ 1000000000000000) (hb : 0 < b) (hb2 : b ≤ 1000000000000000) : F_impl_lowestTerms a b = some (low a b) := by
  unfold F_impl_lowestTerms F_impl_gcdOf low
  have e1 : maxI a (w64 (0 - a)) = ((a.toNat : Nat) : Int) := by unfold maxI; rw [w64_eq (by omega) (by omega)]; split <;> omega
  have e2 : maxI b (w64 (0 - b)) = ((b.toNat : Nat) : Int) := by unfold maxI; rw [w64_eq (by omega) (by omega)]; split <;> omega
  rw [e1, e2, gcd_loop b.toNat a.toNat FU (FU_gt (by omega)), Option.bind_some]
  have hg : 0 < Nat.gcd a.toNat b.toNat := Nat.gcd_pos_of_pos_right _ (by omega)
  have hg' : ¬ ((Nat.gcd a.toNat b.toNat : Nat) : Int) = 0 := by omega
  rw [if_neg hg', if_neg hg']
theorem spec_mvPart (a b : Int) (ha : 0 ≤ a) (ha2 : a ≤ 1000000000000000) (hb : 0 < b) (hb2 : b ≤ 1000000000000000) : F_spec_mvPart a b = some (low a b) := by
  unfold F_spec_mvPart F_spec_l1Abs F_spec_l1Most low
  have e1 : (if decide (w64 (0 - a) < a) = true then some a else some (w64 (0 - a))) = some ((a.toNat : Nat) : Int) := by
    rw [w64_eq (by omega) (by omega)]
    by_cases h : 0 - a < a
    · rw [if_pos (by simp; omega)]; congr 1; omega
    · rw [if_neg (by simp; omega)]; congr 1; omega
  have e2 : b = ((b.toNat : Nat) : Int) := by omega
  rw [e1, Option.bind_some, Option.bind_some]
  have hg : 0 < Nat.gcd a.toNat b.toNat := Nat.gcd_pos_of_pos_right _ (by omega)
  have := part_loop a b b.toNat a.toNat FU (FU_gt (by omega)) hg
  rw [← e2] at this
  exact this
/-- The least square of a way from p to q and where it is. -/
def nearV (px py qx qy : Int) : Int × Int :=
  if 0 ≤ px * (qx - px) + py * (qy - py) then (px * px + py * py, 1)
  else if (qx - px) * (qx - px) + (qy - py) * (qy - py) ≤ 0 - (px * (qx - px) + py * (qy - py)) then (qx * qx + qy * qy, 1)
  else low ((px * qy - py * qx) * (px * qy - py * qx)) ((qx - px) * (qx - px) + (qy - py) * (qy - py))
def near (a b : MoveT) : Int × Int := nearV (a.1.1 - b.1.1) (a.1.2 - b.1.2) (a.2.1.1 - b.2.1.1) (a.2.1.2 - b.2.1.2)
structure InB (px py qx qy : Int) : Prop where
  a1 : -1280 ≤ px
  a2 : px ≤ 1280
  b1 : -672 ≤ py
  b2 : py ≤ 672
  c1 : -1280 ≤ qx
  c2 : qx ≤ 1280
  d1 : -672 ≤ qy
  d2 : qy ≤ 672
theorem sqB {x A : Int} (h1 : -A ≤ x) (h2 : x ≤ A) : 0 ≤ x * x ∧ x * x ≤ A * A := by
  have := mulB h1 h2 h1 h2
  refine ⟨?_, this.2⟩
  have : (0 : Int) ≤ ((x.natAbs * x.natAbs : Nat) : Int) := Int.natCast_nonneg _
  rwa [Int.natAbs_mul_self] at this
structure NearB (px py qx qy : Int) : Prop where
  m1 : -3276800 ≤ px * (qx - px) ∧ px * (qx - px) ≤ 3276800
  m2 : -903168 ≤ py * (qy - py) ∧ py * (qy - py) ≤ 903168
  m3 : 0 ≤ (qx - px) * (qx - px) ∧ (qx - px) * (qx - px) ≤ 6553600
  m4 : 0 ≤ (qy - py) * (qy - py) ∧ (qy - py) * (qy - py) ≤ 1806336
  m5 : 0 ≤ px * px ∧ px * px ≤ 1638400
  m6 : 0 ≤ py * py ∧ py * py ≤ 451584
  m7 : 0 ≤ qx * qx ∧ qx * qx ≤ 1638400
  m8 : 0 ≤ qy * qy ∧ qy * qy ≤ 451584
  m9 : -860160 ≤ px * qy ∧ px * qy ≤ 860160
  m10 : -860160 ≤ py * qx ∧ py * qx ≤ 860160
  m11 : 0 ≤ (px * qy - py * qx) * (px * qy - py * qx) ∧ (px * qy - py * qx) * (px * qy - py * qx) ≤ 2959500902400
theorem nearB {px py qx qy : Int} (h : InB px py qx qy) : NearB px py qx qy := by
  obtain ⟨a1, a2, b1, b2, c1, c2, d1, d2⟩ := h
  have m9 := mulB a1 a2 d1 d2
  have m10 := mulB b1 b2 c1 c2
  have m11 := sqB (x := px * qy - py * qx) (A := 1720320) (by omega) (by omega)
  exact ⟨mulB (A := 1280) (B := 2560) a1 a2 (by omega) (by omega), mulB (A := 672) (B := 1344) b1 b2 (by omega) (by omega), sqB (A := 2560) (by omega) (by omega), sqB (A := 1344) (by omega) (by omega), sqB a1 a2, sqB b1 b2, sqB c1 c2, sqB d1 d2, by omega, by omega, by omega⟩
theorem inB {a b : MoveT} (ha : okSpot a.1 = true) (ha2 : okSpot a.2.1 = true) (hb : okSpot b.1 = true) (hb2 : okSpot b.2.1 = true) : InB (a.1.1 - b.1.1) (a.1.2 - b.1.2) (a.2.1.1 - b.2.1.1) (a.2.1.2 - b.2.1.2) := by
  unfold okSpot at ha ha2 hb hb2
  rw [Bool.and_eq_true, okIn_iff, okIn_iff] at ha ha2 hb hb2
  refine ⟨by omega, by omega, by omega, by omega, by omega, by omega, by omega, by omega⟩
theorem impl_leastApart (a b : MoveT) (ha : okSpot a.1 = true) (ha2 : okSpot a.2.1 = true) (hb : okSpot b.1 = true) (hb2 : okSpot b.2.1 = true) : F_impl_leastApart a b = some (near a b) := by
  have hI := inB ha ha2 hb hb2
  unfold F_impl_leastApart F_impl_between F_impl_squareOf near
  generalize a.1.1 - b.1.1 = px at *
  generalize a.1.2 - b.1.2 = py at *
  generalize a.2.1.1 - b.2.1.1 = qx at *
  generalize a.2.1.2 - b.2.1.2 = qy at *
  obtain ⟨m1, m2, m3, m4, m5, m6, m7, m8, m9, m10, m11⟩ := nearB hI
  obtain ⟨a1, a2, b1, b2, c1, c2, d1, d2⟩ := hI
  have k : (px * (qy - py) - py * (qx - px)) = px * qy - py * qx := by
    rw [Int.mul_sub, Int.mul_sub, Int.mul_comm px py]; omega
  have kb1 := mulB (x := px) (y := qy - py) (A := 1280) (B := 1344) a1 a2 (by omega) (by omega)
  have kb2 := mulB (x := py) (y := qx - px) (A := 672) (B := 2560) b1 b2 (by omega) (by omega)
  simp only [Option.bind_some, w64_eq (x := px) (by omega) (by omega), w64_eq (x := py) (by omega) (by omega), w64_eq (x := qx) (by omega) (by omega), w64_eq (x := qy) (by omega) (by omega),
    w64_eq (x := qx - px) (by omega) (by omega), w64_eq (x := qy - py) (by omega) (by omega), w64_eq (x := px * (qx - px)) (by omega) (by omega), w64_eq (x := py * (qy - py)) (by omega) (by omega),
    w64_eq (x := px * (qx - px) + py * (qy - py)) (by omega) (by omega), w64_eq (x := 0 - (px * (qx - px) + py * (qy - py))) (by omega) (by omega),
    w64_eq (x := (qx - px) * (qx - px)) (by omega) (by omega), w64_eq (x := (qy - py) * (qy - py)) (by omega) (by omega), w64_eq (x := (qx - px) * (qx - px) + (qy - py) * (qy - py)) (by omega) (by omega),
    w64_eq (x := px * px) (by omega) (by omega), w64_eq (x := py * py) (by omega) (by omega), w64_eq (x := px * px + py * py) (by omega) (by omega),
    w64_eq (x := qx * qx) (by omega) (by omega), w64_eq (x := qy * qy) (by omega) (by omega), w64_eq (x := qx * qx + qy * qy) (by omega) (by omega),
    w64_eq (x := px * (qy - py)) (by omega) (by omega), w64_eq (x := py * (qx - px)) (by omega) (by omega), k, w64_eq (x := px * qy - py * qx) (by omega) (by omega), w64_eq (x := (px * qy - py * qx) * (px * qy - py * qx)) (by omega) (by omega)]
  unfold nearV
  by_cases h1 : 0 ≤ px * (qx - px) + py * (qy - py)
  · rw [if_pos (by simpa using h1), if_pos h1]
  · rw [if_neg (by simpa using h1), if_neg h1]
    by_cases h2 : (qx - px) * (qx - px) + (qy - py) * (qy - py) ≤ 0 - (px * (qx - px) + py * (qy - py))
    · rw [if_pos (by simpa using h2), if_pos h2]
    · rw [if_neg (by simpa using h2), if_neg h2, impl_lowestTerms _ _ (by omega) (by omega) (by omega) (by omega)]
      rfl
theorem spec_apLeast (a b : MoveT) (ha : okSpot a.1 = true) (ha2 : okSpot a.2.1 = true) (hb : okSpot b.1 = true) (hb2 : okSpot b.2.1 = true) : F_spec_apLeast a b = some (near a b) := by
  have hI := inB ha ha2 hb hb2
  unfold F_spec_apLeast F_spec_apInner F_spec_apEnds near jK1
  generalize a.1.1 - b.1.1 = px at *
  generalize a.1.2 - b.1.2 = py at *
  generalize a.2.1.1 - b.2.1.1 = qx at *
  generalize a.2.1.2 - b.2.1.2 = qy at *
  obtain ⟨m1, m2, m3, m4, m5, m6, m7, m8, m9, m10, m11⟩ := nearB hI
  obtain ⟨a1, a2, b1, b2, c1, c2, d1, d2⟩ := hI
  simp only [Option.bind_some, w64_eq (x := px) (by omega) (by omega), w64_eq (x := py) (by omega) (by omega), w64_eq (x := qx) (by omega) (by omega), w64_eq (x := qy) (by omega) (by omega),
    w64_eq (x := qx - px) (by omega) (by omega), w64_eq (x := qy - py) (by omega) (by omega), w64_eq (x := px * (qx - px)) (by omega) (by omega), w64_eq (x := py * (qy - py)) (by omega) (by omega),
    w64_eq (x := px * (qx - px) + py * (qy - py)) (by omega) (by omega), w64_eq (x := 0 - (px * (qx - px) + py * (qy - py))) (by omega) (by omega),
    w64_eq (x := (qx - px) * (qx - px)) (by omega) (by omega), w64_eq (x := (qy - py) * (qy - py)) (by omega) (by omega), w64_eq (x := (qx - px) * (qx - px) + (qy - py) * (qy - py)) (by omega) (by omega),
    w64_eq (x := px * px) (by omega) (by omega), w64_eq (x := py * py) (by omega) (by omega), w64_eq (x := px * px + py * py) (by omega) (by omega),
    w64_eq (x := qx * qx) (by omega) (by omega), w64_eq (x := qy * qy) (by omega) (by omega), w64_eq (x := qx * qx + qy * qy) (by omega) (by omega),
    w64_eq (x := px * qy) (by omega) (by omega), w64_eq (x := py * qx) (by omega) (by omega), w64_eq (x := px * qy - py * qx) (by omega) (by omega), w64_eq (x := (px * qy - py * qx) * (px * qy - py * qx)) (by omega) (by omega)]
  have q1 : qx * qx = px * px + 2 * (px * (qx - px)) + (qx - px) * (qx - px) := by
    have : qx * qx = (px + (qx - px)) * (px + (qx - px)) := by rw [show px + (qx - px) = qx by omega]
    rw [this, Int.add_mul, Int.mul_add, Int.mul_add, Int.mul_comm (qx - px) px]; omega
  have q2 : qy * qy = py * py + 2 * (py * (qy - py)) + (qy - py) * (qy - py) := by
    have : qy * qy = (py + (qy - py)) * (py + (qy - py)) := by rw [show py + (qy - py) = qy by omega]
    rw [this, Int.add_mul, Int.mul_add, Int.mul_add, Int.mul_comm (qy - py) py]; omega
  unfold nearV F_spec_l1Least
  generalize hd : px * (qx - px) + py * (qy - py) = dot at *
  generalize hz : (qx - px) * (qx - px) + (qy - py) * (qy - py) = size at *
  by_cases h1 : 0 ≤ dot
  · have h1' : 0 - dot ≤ 0 := by omega
    rw [if_pos h1]
    simp only [h1', decide_true, if_true, Option.bind_some]
    rw [if_neg (by simp)]
    by_cases h3 : px * px + py * py < qx * qx + qy * qy
    · rw [if_pos (by simpa using h3)]; rfl
    · rw [if_neg (by simpa using h3), Option.bind_some]
      have : qx * qx + qy * qy = px * px + py * py := by omega
      rw [this]
  · have h1' : ¬ 0 - dot ≤ 0 := by omega
    rw [if_neg h1]
    by_cases h2 : size ≤ 0 - dot
    · rw [if_pos h2]
      simp only [h1', h2, decide_true, decide_false, Bool.false_eq_true, if_false, if_true, Option.bind_some]
      rw [if_neg (by simp), if_neg (by simp; omega)]
      rfl
    · rw [if_neg h2]
      simp only [h1', h2, decide_true, decide_false, Bool.false_eq_true, if_false, if_true, Option.bind_some]
      rw [if_pos (by simp; omega), spec_mvPart _ _ (by omega) (by omega) (by omega) (by omega)]
      rfl
end Go.Proofs.Ytmkignciedkidaa
/-
  PAIRS THAT COME TOO CLOSE, PARTS THAT ARE NOT SAFE, PLAIN.
-/
set_option linter.unusedSimpArgs false
set_option linter.unusedVariables false
namespace Go.Proofs.Ytmkignciedkidaa
open Go
/-- A loop from k on that keeps what p takes. -/
theorem loopFrom {β R : Type} (f : Nat → List β → Int → Option R) (n B : Nat) (p : Nat → Bool) (g : Nat → β) (rest : List β → Option R) (hn : n < 4611686018427387904)
    (hs : ∀ m s k, k < n → s.length < B → f (m + 1) s (k : Int) = f m (if p k then s ++ [g k] else s) ((k + 1 : Nat) : Int)) (he : ∀ m s, f (m + 1) s (n : Int) = rest s) :
    ∀ (k : Nat) (s : List β), k ≤ n → s.length + (n - k) ≤ B → f FU s (k : Int) = rest (s ++ ((List.range' k (n - k)).filter p).map g) := by
  have key : ∀ d k m s, n - k = d → k ≤ n → n - k < m → s.length + (n - k) ≤ B → f m s (k : Int) = rest (s ++ ((List.range' k (n - k)).filter p).map g) := by
    intro d
    induction d with
    | zero =>
      intro k m s hd hk hm hb
      have : k = n := by omega
      subst this
      cases m with
      | zero => omega
      | succ m => rw [he]; simp
    | succ d ih =>
      intro k m s hd hk hm hb
      cases m with
      | zero => omega
      | succ m =>
        rw [hs m s k (by omega) (by omega), hd, List.range'_succ, List.filter_cons]
        cases hp : p k with
        | false =>
          simp only [Bool.false_eq_true, if_false]
          rw [ih (k + 1) m s (by omega) (by omega) (by omega) (by omega), show n - (k + 1) = d by omega]
        | true =>
          simp only [if_true, List.map_cons]
          rw [ih (k + 1) m (s ++ [g k]) (by omega) (by omega) (by omega) (by simp; omega), show n - (k + 1) = d by omega]
          simp
  exact fun k s hk hb => key _ k FU s rfl hk (FU_gt (by omega)) hb
def stay (u v : MoveT) (least : Int) : Bool := decide (w64 (w64 (least * least) * (near u v).2) ≤ (near u v).1)
def goodMove (u : MoveT) : Prop := okSpot u.1 = true ∧ okSpot u.2.1 = true
theorem impl_stayApart (u v : MoveT) (least : Int) (hu : goodMove u) (hv : goodMove v) : F_impl_stayApart u v least = some (stay u v least) := by
  unfold F_impl_stayApart stay
  rw [impl_leastApart u v hu.1 hu.2 hv.1 hv.2]
  rfl
theorem spec_apStay (u v : MoveT) (least : Int) (hu : goodMove u) (hv : goodMove v) : F_spec_apStay u v least = some (stay u v least) := by
  unfold F_spec_apStay stay
  rw [spec_apLeast u v hu.1 hu.2 hv.1 hv.2]
  rfl
def stayAt (ms : List MoveT) (least : Int) (i k : Nat) : Bool := match ms[i]?, ms[k]? with
  | some u, some v => stay u v least
  | _, _ => true
def closeRow (ms : List MoveT) (least : Int) (i : Nat) : List (List Int) := ((List.range' (i + 1) (ms.length - (i + 1))).filter fun k => !stayAt ms least i k).map fun (k : Nat) => [(i : Int), (k : Int)]
def closeOf (ms : List MoveT) (least : Int) : List (List Int) := (List.range ms.length).foldl (fun s i => s ++ closeRow ms least i) []
theorem closeRow_len (ms : List MoveT) (least : Int) (i : Nat) : (closeRow ms least i).length ≤ ms.length := by
  unfold closeRow
  rw [List.length_map]
  refine Nat.le_trans (List.length_filter_le _ _) ?_
  simp
theorem close_mem (ms : List MoveT) (least : Int) : ∀ q ∈ closeOf ms least, q.length = 2 := by
  have key : ∀ (is : List Nat) (s : List (List Int)), (∀ q ∈ s, q.length = 2) → ∀ q ∈ is.foldl (fun s i => s ++ closeRow ms least i) s, q.length = 2 := by
    intro is
    induction is with
    | nil => intro s h q hq; exact h q hq
    | cons i is ih =>
      intro s h q hq
      rw [List.foldl_cons] at hq
      refine ih _ (fun q hq => ?_) q hq
      rcases List.mem_append.1 hq with hq | hq
      · exact h q hq
      · unfold closeRow at hq
        obtain ⟨k, _, rfl⟩ := List.mem_map.1 hq
        rfl
  exact key _ [] (fun q hq => by cases hq)
theorem close_loop (f : Nat → List (List Int) → Int → Option (List (List Int))) (ms : List MoveT) (least : Int) (hl : ms.length ≤ 1000)
    (hs : ∀ m s i, i < ms.length → s.length ≤ 1000 * i → f (m + 1) s (i : Int) = f m (s ++ closeRow ms least i) ((i + 1 : Nat) : Int)) (he : ∀ m s, f (m + 1) s (ms.length : Int) = some s) :
    f FU [] 0 = some (closeOf ms least) ∧ (closeOf ms least).length ≤ 1000 * ms.length := by
  have := loopS f ms.length (fun i s => s ++ closeRow ms least i) some (by omega) (fun i s => s.length ≤ 1000 * i) [] (by simp) (fun i s hi h => by have := closeRow_len ms least i; rw [List.length_append]; omega) (fun m i s hi h => hs m s i hi h) (fun m s _ => he m s)
  exact this
theorem impl_pairsTooClose (ms : List MoveT) (least : Int) (hl : ms.length ≤ 1000) (hg : ∀ u ∈ ms, goodMove u) : F_impl_pairsTooClose ms least = some (closeOf ms least) := by
  unfold F_impl_pairsTooClose
  refine (close_loop (F_impl_pairsTooClose_L1 ms least) ms least hl (fun m s i hi hsl => ?_) (fun m s => ?_)).1
  · have hmul : 1000 * i ≤ 1000000 := by omega
    rw [F_impl_pairsTooClose_L1, if_pos (by simp; omega), w64_succ (by omega), loopFrom (F_impl_pairsTooClose_L2 ms (i : Int) least (F_impl_pairsTooClose_L1 ms least m)) ms.length 1073741823 (fun k => !stayAt ms least i k) (fun (k : Nat) => [(i : Int), (k : Int)])
      (fun s => F_impl_pairsTooClose_L1 ms least m s ((i + 1 : Nat) : Int)) (by omega) (fun m' s' k hk hs' => ?_) (fun m' s' => ?_) (i + 1) s (by omega) (by omega)]
    · rfl
    · obtain ⟨u, hu⟩ : ∃ u, ms[i]? = some u := ⟨_, List.getElem?_eq_getElem hi⟩
      obtain ⟨v, hv⟩ : ∃ v, ms[k]? = some v := ⟨_, List.getElem?_eq_getElem hk⟩
      have e : stayAt ms least i k = stay u v least := by unfold stayAt; rw [hu, hv]
      rw [F_impl_pairsTooClose_L2, if_pos (by simp; omega), e]
      unfold jK1
      dsimp only
      rw [idx_nat, hu, Option.bind_some, idx_nat, hv, Option.bind_some, impl_stayApart u v least (hg u (List.mem_of_getElem? hu)) (hg v (List.mem_of_getElem? hv)), Option.bind_some, app_ok (by simp; omega), w64_succ (k := k) (by omega)]
      cases stay u v least <;> simp
    · rw [F_impl_pairsTooClose_L2, if_neg (by simp), w64_succ (by omega)]
  · rw [F_impl_pairsTooClose_L1, if_neg (by simp)]
theorem closeOf_len (ms : List MoveT) (least : Int) (hl : ms.length ≤ 1000) (hg : ∀ u ∈ ms, goodMove u) : (closeOf ms least).length ≤ 1000 * ms.length := by
  have key : ∀ n, ((List.range n).foldl (fun s i => s ++ closeRow ms least i) []).length ≤ 1000 * n := by
    intro n
    induction n with
    | zero => simp
    | succ n ih =>
      have := closeRow_len ms least n
      rw [List.range_succ, List.foldl_append, List.foldl_cons, List.foldl_nil, List.length_append]
      omega
  exact key _
theorem spec_swClose (x : ShowT) (f : ShowFacts x) (p : Nat) (hp : p < x.2.1.length) (hg : ∀ u ∈ movesOf x p, goodMove u) : F_spec_swClose x (p : Int) = some (closeOf (movesOf x p) x.2.2.1) := by
  have hl := moves_len x f p hp
  unfold F_spec_swClose
  rw [spec_swMoves x f p hp, Option.bind_some]
  generalize movesOf x p = ms at *
  refine (close_loop (F_spec_swClose_L1 ms x) ms x.2.2.1 (by omega) (fun m s i hi hsl => ?_) (fun m s => ?_)).1
  · have hmul : 1000 * i ≤ 1000000 := by omega
    obtain ⟨u, hu⟩ : ∃ u, ms[i]? = some u := ⟨_, List.getElem?_eq_getElem hi⟩
    rw [F_spec_swClose_L1, if_pos (by simp; omega), idx_nat, hu, Option.bind_some, w64_succ (by omega), loopFrom (F_spec_swClose_L2 ms u x (i : Int) (F_spec_swClose_L1 ms x m)) ms.length 1073741823 (fun k => !stayAt ms x.2.2.1 i k) (fun (k : Nat) => [(i : Int), (k : Int)])
      (fun s => F_spec_swClose_L1 ms x m s ((i + 1 : Nat) : Int)) (by omega) (fun m' s' k hk hs' => ?_) (fun m' s' => ?_) (i + 1) s (by omega) (by omega)]
    · rfl
    · obtain ⟨v, hv⟩ : ∃ v, ms[k]? = some v := ⟨_, List.getElem?_eq_getElem hk⟩
      have e : stayAt ms x.2.2.1 i k = stay u v x.2.2.1 := by unfold stayAt; rw [hu, hv]
      rw [F_spec_swClose_L2, if_pos (by simp; omega), e]
      unfold jK1
      dsimp only
      rw [idx_nat, hv, Option.bind_some, spec_apStay u v x.2.2.1 (hg u (List.mem_of_getElem? hu)) (hg v (List.mem_of_getElem? hv)), Option.bind_some, app_ok (by simp; omega), w64_succ (k := k) (by omega)]
      cases stay u v x.2.2.1 <;> simp
    · rw [F_spec_swClose_L2, if_neg (by simp), w64_succ (by omega)]
  · rw [F_spec_swClose_L1, if_neg (by simp)]
theorem chart_spots {c : List (Int × Int)} (h : okChart c = true) : ∀ s ∈ c, okSpot s = true := by
  intro s hs
  unfold okChart at h
  rw [Bool.and_eq_true] at h
  obtain ⟨k, hk⟩ := List.getElem?_of_mem hs
  have := List.all_eq_true.1 h.2 k (List.mem_range.2 (List.getElem?_eq_some_iff.1 hk).1)
  rw [newAt_of hk, Bool.and_eq_true] at this
  exact this.1
theorem moves_good {x : ShowT} (f : ShowFacts x) {p : Nat} (hp : p < x.2.1.length) : ∀ u ∈ movesOf x p, goodMove u := by
  intro u hu
  obtain ⟨a, b, n, h1, h2, h3, h4, h5, h6, h7, h8⟩ := part_facts f hp
  unfold movesOf at hu
  rw [List.mem_map] at hu
  obtain ⟨i, hi, rfl⟩ := hu
  rw [chartAt_of h1, List.mem_range] at hi
  rw [chartAt_of h1, chartAt_of h2]
  refine ⟨?_, ?_⟩
  · dsimp only
    rw [List.getElem?_eq_getElem hi]
    exact chart_spots (f.ch a (List.mem_of_getElem? h1)) _ (List.getElem_mem hi)
  · dsimp only
    have hi' : i < b.length := by omega
    rw [List.getElem?_eq_getElem hi']
    exact chart_spots (f.ch b (List.mem_of_getElem? h2)) _ (List.getElem_mem hi')
def closeAns (x : ShowT) (p : Int) : List (List Int) × Bool := if okPart x p then (closeOf (movesOf x p.toNat) x.2.2.1, true) else ([], false)
theorem spec_ClosePairs (x : ShowT) (p : Int) (h : lensOk x) : F_spec_ClosePairs x p = some (closeAns x p) := by
  unfold F_spec_ClosePairs closeAns
  rw [spec_swHas x p h, Option.bind_some]
  cases hp : okPart x p with
  | false => simp
  | true =>
    obtain ⟨f, e, hlt⟩ := part_of hp
    simp only [Bool.not_true, Bool.false_eq_true, if_false, if_true]
    rw [e, Int.toNat_natCast, spec_swClose x f _ hlt (moves_good f hlt)]
    rfl
theorem impl_ClosePairs (x : ShowT) (p : Int) (h : lensOk x) : F_impl_ClosePairs x p = some (closeAns x p) := by
  unfold F_impl_ClosePairs closeAns
  rw [impl_isPart x p h, Option.bind_some]
  cases hp : okPart x p with
  | false => simp
  | true =>
    obtain ⟨f, e, hlt⟩ := part_of hp
    have hl := moves_len x f _ hlt
    simp only [Bool.not_true, Bool.false_eq_true, if_false, if_true]
    rw [e, Int.toNat_natCast, impl_showMoves x f _ hlt, Option.bind_some, impl_pairsTooClose _ _ (by omega) (moves_good f hlt)]
    rfl
theorem closeAns_len (x : ShowT) (p : Int) : (closeAns x p).1.length ≤ 12000 ∧ ∀ q ∈ (closeAns x p).1, q.length = 2 := by
  unfold closeAns
  cases hp : okPart x p with
  | false => simp
  | true =>
    obtain ⟨f, e, hlt⟩ := part_of hp
    have hl := moves_len x f _ hlt
    have := closeOf_len (movesOf x p.toNat) x.2.2.1 (by omega) (moves_good f hlt)
    simp only [if_true]
    exact ⟨by omega, close_mem _ _⟩
/-! parts that are not safe -/
def safeAt (x : ShowT) (k : Nat) : Bool := (closeOf (movesOf x k) x.2.2.1).isEmpty && (widesOf x k).isEmpty
def unsafs (x : ShowT) : List Int := filt (fun k => !safeAt x k) x.2.1.length
theorem spec_swUnsafe (x : ShowT) (f : ShowFacts x) : F_spec_swUnsafe x = some (unsafs x) := by
  have hn := f.n1
  have hc := f.nc
  unfold F_spec_swUnsafe unsafs
  rw [loopFilter (F_spec_swUnsafe_L1 x) x.2.1.length (fun k => !safeAt x k) some (by omega) (fun m s k hk hsl => ?_) (fun m s => ?_)]
  · have hl := moves_len x f k hk
    have h1 := closeOf_len (movesOf x k) x.2.2.1 (by omega) (moves_good f hk)
    have h2 : (widesOf x k).length ≤ 12 := Nat.le_trans (filt_len _ _) hl
    rw [F_spec_swUnsafe_L1, if_pos (by simp; omega)]
    unfold jK1
    dsimp only
    rw [spec_swClose x f k hk (moves_good f hk), Option.bind_some, spec_swWide x f k hk, Option.bind_some, w64_eq (x := _ + _) (by omega) (by omega), app_ok (by simp; omega), w64_succ (by omega)]
    unfold safeAt
    cases h3 : closeOf (movesOf x k) x.2.2.1 with
    | nil =>
      cases h4 : widesOf x k with
      | nil => simp
      | cons a l => rw [if_pos (by simp <;> omega)]; simp
    | cons a l => rw [if_pos (by simp <;> omega)]; simp
  · rw [F_spec_swUnsafe_L1, if_neg (by simp)]
theorem impl_unsafParts (x : ShowT) (f : ShowFacts x) : F_impl_unsafParts x = some (unsafs x) := by
  have hn := f.n1
  have hc := f.nc
  unfold F_impl_unsafParts unsafs
  rw [loopFilter (F_impl_unsafParts_L1 x) x.2.1.length (fun k => !safeAt x k) some (by omega) (fun m s k hk hsl => ?_) (fun m s => ?_)]
  · have hl := moves_len x f k hk
    rw [F_impl_unsafParts_L1, if_pos (by simp; omega)]
    unfold jK1
    dsimp only
    rw [impl_wideSteps x f k hk, Option.bind_some, impl_showMoves x f k hk, Option.bind_some, impl_pairsTooClose _ _ (by omega) (moves_good f hk), Option.bind_some, app_ok (by simp; omega), w64_succ (by omega)]
    unfold safeAt
    cases h4 : widesOf x k with
    | cons a l => rw [if_pos (by simp <;> omega)]; simp
    | nil =>
      rw [if_neg (by simp)]
      cases h3 : closeOf (movesOf x k) x.2.2.1 with
      | nil => simp
      | cons a l => rw [if_pos (by simp <;> omega)]; simp
  · rw [F_impl_unsafParts_L1, if_neg (by simp)]
def unsafAns (x : ShowT) : List Int × Bool := if okShow x then (unsafs x, true) else ([], false)
theorem spec_UnsafeParts (x : ShowT) (h : lensOk x) : F_spec_UnsafeParts x = some (unsafAns x) := by
  unfold F_spec_UnsafeParts unsafAns
  rw [spec_swGood x h.1 h.2.1 h.2.2, Option.bind_some]
  cases hs : okShow x with
  | false => simp
  | true => simp [spec_swUnsafe x (facts hs)]
theorem impl_UnsafeParts (x : ShowT) (h : lensOk x) : F_impl_UnsafeParts x = some (unsafAns x) := by
  unfold F_impl_UnsafeParts unsafAns
  rw [impl_IsShow x h.1 h.2.1 h.2.2, Option.bind_some]
  cases hs : okShow x with
  | false => simp
  | true => simp [impl_unsafParts x (facts hs)]
theorem unsafAns_len (x : ShowT) : (unsafAns x).1.length ≤ 8 := by
  unfold unsafAns
  cases hs : okShow x with
  | false => simp
  | true =>
    have f := facts hs
    have := f.n1
    have := f.nc
    have := filt_len (fun k => !safeAt x k) x.2.1.length
    simp only [if_true]
    unfold unsafs
    omega
def canAns (x : ShowT) : Bool × Bool := if okShow x then (((unsafs x).length : Int) == 0, true) else (false, false)
theorem spec_CanPublish (x : ShowT) (h : lensOk x) : F_spec_CanPublish x = some (canAns x) := by
  unfold F_spec_CanPublish canAns
  rw [spec_swGood x h.1 h.2.1 h.2.2, Option.bind_some]
  cases hs : okShow x with
  | false => simp
  | true => simp [spec_swUnsafe x (facts hs)]
theorem impl_CanPublish (x : ShowT) (h : lensOk x) : F_impl_CanPublish x = some (canAns x) := by
  unfold F_impl_CanPublish canAns
  rw [impl_IsShow x h.1 h.2.1 h.2.2, Option.bind_some]
  cases hs : okShow x with
  | false => simp
  | true => simp [impl_unsafParts x (facts hs)]
end Go.Proofs.Ytmkignciedkidaa
/-
  SHEETS, PLAIN: their rows and moves; the spot after a count.
-/
set_option linter.unusedSimpArgs false
set_option linter.unusedVariables false
namespace Go.Proofs.Ytmkignciedkidaa
open Go
abbrev RowT := Int × (Int × Int)
abbrev SheetT := Int × (Int × Int) × (List RowT)
def firstLen' (x : ShowT) : Nat := match x.1[0]? with | some c => c.length | none => 0
def spotAt (x : ShowT) (k i : Nat) : Int × Int := ((chartAt x k)[i]?).getD (0, 0)
def rowsOf (x : ShowT) (i : Nat) : List RowT := (List.range x.2.1.length).map fun k => (countsAt x k, spotAt x (k + 1) i)
def sheetOf (x : ShowT) (i : Nat) : SheetT := ((i : Int), spotAt x 0 i, rowsOf x i)
theorem show_first {x : ShowT} (f : ShowFacts x) : ∃ c, x.1[0]? = some c ∧ c.length = firstLen' x ∧ 1 ≤ firstLen' x ∧ firstLen' x ≤ 12 := by
  have := f.n0
  obtain ⟨c, hc⟩ : ∃ c, x.1[0]? = some c := ⟨_, List.getElem?_eq_getElem (by omega)⟩
  have hl := f.cl c (List.mem_of_getElem? hc)
  have e : c.length = firstLen' x := by unfold firstLen'; rw [hc]
  exact ⟨c, hc, e, by omega, by omega⟩
theorem sheet_loop (F : Nat → List RowT → Int → Option SheetT) (x : ShowT) (f : ShowFacts x) (i : Nat) (hi : i < firstLen' x) (st : Int × Int)
    (hs : ∀ m s y, F (m + 1) s y = if (decide (y < (List.length x.2.1 : Int))) = true then Option.bind (idx x.2.1 y) fun u => Option.bind (idx x.1 (w64 (y + 1))) fun v => Option.bind (idx v (i : Int)) fun w => Option.bind (app s [(u, w)]) fun z => F m z (w64 (y + 1)) else some ((i : Int), st, s)) :
    F FU [] 0 = some ((i : Int), st, rowsOf x i) := by
  have h1 := f.n1
  have h2 := f.nc
  obtain ⟨c, hc, he, _, _⟩ := show_first f
  rw [loopMap F x.2.1.length (fun k => (countsAt x k, spotAt x (k + 1) i)) (fun s => some ((i : Int), st, s)) (by omega) (fun m s k hk hsl => ?_) (fun m s => ?_)]
  · rfl
  · obtain ⟨a, b, n, g1, g2, g3, g4, _⟩ := part_facts f hk
    have hb : b.length = c.length := chart_len f g2 hc
    obtain ⟨w, hw⟩ : ∃ w, b[i]? = some w := ⟨_, List.getElem?_eq_getElem (by omega)⟩
    rw [hs, if_pos (by simp; omega), idx_nat, g3, Option.bind_some, w64_succ (by omega), idx_nat, g2, Option.bind_some, idx_nat, hw, Option.bind_some, app_ok (by simp; omega), Option.bind_some]
    unfold spotAt
    rw [chartAt_of g2, hw]
    unfold countsAt
    rw [g3]
    rfl
  · rw [hs, if_neg (by simp)]
theorem spec_shOf (x : ShowT) (f : ShowFacts x) (i : Nat) (hi : i < firstLen' x) : F_spec_shOf x.1 x.2.1 (i : Int) = some (sheetOf x i) := by
  obtain ⟨c, hc, he, _, _⟩ := show_first f
  obtain ⟨st, hst⟩ : ∃ w, c[i]? = some w := ⟨_, List.getElem?_eq_getElem (by omega)⟩
  unfold F_spec_shOf sheetOf
  rw [idx_zero, hc, Option.bind_some, idx_nat, hst, Option.bind_some]
  have e : spotAt x 0 i = st := by unfold spotAt; rw [chartAt_of hc, hst]; rfl
  rw [e]
  exact sheet_loop _ x f i hi st (fun m s y => by rw [F_spec_shOf_L1]; rfl)
theorem impl_sheetOf (x : ShowT) (f : ShowFacts x) (i : Nat) (hi : i < firstLen' x) : F_impl_sheetOf x.1 x.2.1 (i : Int) = some (sheetOf x i) := by
  obtain ⟨c, hc, he, _, _⟩ := show_first f
  obtain ⟨st, hst⟩ : ∃ w, c[i]? = some w := ⟨_, List.getElem?_eq_getElem (by omega)⟩
  unfold F_impl_sheetOf sheetOf
  rw [idx_zero, hc, Option.bind_some, idx_nat, hst, Option.bind_some]
  have e : spotAt x 0 i = st := by unfold spotAt; rw [chartAt_of hc, hst]; rfl
  rw [e]
  exact sheet_loop _ x f i hi st (fun m s y => by rw [F_impl_sheetOf_L1]; rfl)
/-! tests of sheets -/
def okRow (r : RowT) : Bool := okIn r.1 1 64 && okSpot r.2
def okSheet (s : SheetT) : Bool := okIn s.1 0 11 && okSpot s.2.1 && s.2.2.all okRow && decide (s.2.2.length ≤ 8)
theorem impl_IsSheet (s : SheetT) (h : s.2.2.length < 4611686018427387904) : F_impl_IsSheet s = some (okSheet s) := by
  unfold F_impl_IsSheet okSheet jK1
  dsimp only
  rw [impl_within, Option.bind_some, impl_IsSpot, Option.bind_some]
  have e : decide (8 < (s.2.2.length : Int)) = !decide (s.2.2.length ≤ 8) := by rw [Bool.eq_iff_iff]; simp; omega
  have hin : F_impl_IsSheet_L1 s FU 0 = some (s.2.2.all okRow) := by
    rw [loopL (F_impl_IsSheet_L1 s) s.2.2 okRow (some true) (some false) h (fun m k r hk hr => ?_) (fun m => ?_)]
    · cases s.2.2.all okRow <;> simp
    · rw [F_impl_IsSheet_L1, if_pos (by simp; omega), idx_nat, hr, Option.bind_some]
      unfold jK1 okRow
      dsimp only
      rw [impl_within, Option.bind_some, impl_IsSpot, Option.bind_some, w64_succ (by omega)]
      cases okIn r.1 1 64 <;> cases okSpot r.2 <;> simp
    · rw [F_impl_IsSheet_L1, if_neg (by simp)]
  rw [hin, e]
  cases okIn s.1 0 11 <;> cases okSpot s.2.1 <;> cases decide (s.2.2.length ≤ 8) <;> simp
/-! moves of a sheet -/
/-! rounding -/
def rd (x c : Int) : Int := Int.tdiv (2 * x + c) (2 * c)
/-! the spot after a count -/
end Go.Proofs.Ytmkignciedkidaa
/-
  PLAIN BASE, 2: the laws' marks: a mark is put into every place of a list and found there again. No program.
-/
set_option linter.unusedSimpArgs false
set_option linter.unusedVariables false
namespace Go.Proofs.Ytmkignciedkidaa
open Go
end Go.Proofs.Ytmkignciedkidaa
