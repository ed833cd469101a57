import Derived.Test.YtmkignciedkidaaCore0
import Derived.Test.YtmkignciedkidaaF
/-
  PLAIN BASE: lemmas on the words of Core0, on loops with fuel. No program.
-/
set_option linter.unusedSimpArgs false
set_option linter.unusedVariables false
namespace Go.Proofs.Ytmkignciedkidaa
open Go
theorem w64_eq {x : Int} (h1 : -9223372036854775808 ≤ x) (h2 : x ≤ 9223372036854775807) : w64 x = x := by
  unfold w64 IntKind.wrap
  simp only [IntKind.bits, IntKind.signed]
  simp only [ge_iff_le, Bool.true_and, decide_eq_true_eq]
  split <;> omega
theorem w64_succ {k : Nat} (h : k < 4611686018427387904) : w64 ((k : Int) + 1) = ((k + 1 : Nat) : Int) := by
  rw [w64_eq (by omega) (by omega)]; omega
theorem idx_nat {α : Type} (l : List α) (k : Nat) : idx l (k : Int) = l[k]? := by unfold idx; simp
theorem idx_zero {α : Type} (l : List α) : idx l 0 = l[0]? := by unfold idx; simp
theorem idx_int {α : Type} {l : List α} {i : Int} (h0 : 0 ≤ i) : idx l i = l[i.toNat]? := by unfold idx; rw [if_pos h0]
theorem FU_gt {n : Nat} (h : n < 4611686018427387904) : n < FU := h
theorem sl_take {α : Type} (l : List α) {k : Nat} (h : k ≤ l.length) : sl l 0 (k : Int) = some (l.take k) := by
  unfold sl
  rw [if_pos (by omega)]
  simp
/-- A loop over the numbers below n that ends early where p says no. -/
theorem loopR {R : Type} (f : Nat → Int → Option R) (n : Nat) (p : Nat → Bool) (rest bad : Option R) (hn : n < 4611686018427387904)
    (hs : ∀ m k, k < n → f (m + 1) (k : Int) = if p k = true then f m ((k + 1 : Nat) : Int) else bad) (he : ∀ m, f (m + 1) (n : Int) = rest) : f FU 0 = if (List.range n).all p = true then rest else bad := by
  have key : ∀ d k m, n - k = d → k ≤ n → n - k < m → f m (k : Int) = if (List.range' k (n - k)).all p = true then rest else bad := by
    intro d
    induction d with
    | zero =>
      intro k m hd hk hm
      have : k = n := by omega
      subst this
      cases m with
      | zero => omega
      | succ m => simp [he]
    | succ d ih =>
      intro k m hd hk hm
      cases m with
      | zero => omega
      | succ m =>
        rw [hs m k (by omega), hd, List.range'_succ, List.all_cons]
        cases hp : p k with
        | false => simp
        | true =>
          simp only [if_true, Bool.true_and]
          rw [ih (k + 1) m (by omega) (by omega) (by omega), show n - (k + 1) = d by omega]
  have := key n 0 FU (by omega) (by omega) (FU_gt (by omega))
  simpa [List.range_eq_range'] using this
theorem range_all {α : Type} (l : List α) (p : Nat → Bool) (q : α → Bool) (h : ∀ k x, l[k]? = some x → p k = q x) : (List.range l.length).all p = l.all q := by
  rw [Bool.eq_iff_iff, List.all_eq_true, List.all_eq_true]
  constructor
  · intro h1 x hx
    obtain ⟨k, hk⟩ := List.getElem?_of_mem hx
    rw [← h k x hk]
    exact h1 k (List.mem_range.2 (List.getElem?_eq_some_iff.1 hk).1)
  · intro h1 k hk
    have hk' := List.mem_range.1 hk
    rw [h k l[k] (by simp [hk'])]
    exact h1 _ (List.getElem_mem hk')
/-- A loop over a list that ends early where q says no. -/
theorem loopL {α R : Type} (f : Nat → Int → Option R) (l : List α) (q : α → Bool) (rest bad : Option R) (hn : l.length < 4611686018427387904)
    (hs : ∀ m k x, k < l.length → l[k]? = some x → f (m + 1) (k : Int) = if q x = true then f m ((k + 1 : Nat) : Int) else bad) (he : ∀ m, f (m + 1) (l.length : Int) = rest) : f FU 0 = if l.all q = true then rest else bad := by
  rw [loopR f l.length (fun k => match l[k]? with | some x => q x | none => true) rest bad hn (fun m k hk => ?_) he, range_all l _ q (fun k x hx => by simp [hx])]
  have hx : l[k]? = some l[k] := by simp [hk]
  rw [hs m k l[k] hk hx]
  simp [hx]
/-- A loop that carries a state through the numbers below n. -/
theorem loopS {R S : Type} (f : Nat → S → Int → Option R) (n : Nat) (step : Nat → S → S) (rest : S → Option R) (hn : n < 4611686018427387904)
    (I : Nat → S → Prop) (s0 : S) (h0 : I 0 s0) (hI : ∀ k s, k < n → I k s → I (k + 1) (step k s))
    (hs : ∀ m k s, k < n → I k s → f (m + 1) s (k : Int) = f m (step k s) ((k + 1 : Nat) : Int)) (he : ∀ m s, I n s → f (m + 1) s (n : Int) = rest s) :
    f FU s0 0 = rest ((List.range n).foldl (fun s k => step k s) s0) ∧ I n ((List.range n).foldl (fun s k => step k s) s0) := by
  have key : ∀ d k m s, n - k = d → k ≤ n → n - k < m → I k s → f m s (k : Int) = rest ((List.range' k (n - k)).foldl (fun s k => step k s) s) ∧ I n ((List.range' k (n - k)).foldl (fun s k => step k s) s) := by
    intro d
    induction d with
    | zero =>
      intro k m s hd hk hm hi
      have : k = n := by omega
      subst this
      cases m with
      | zero => omega
      | succ m => simp [he m s hi, hi]
    | succ d ih =>
      intro k m s hd hk hm hi
      cases m with
      | zero => omega
      | succ m =>
        rw [hs m k s (by omega) hi, hd, List.range'_succ, List.foldl_cons]
        have := ih (k + 1) m (step k s) (by omega) (by omega) (by omega) (hI k s (by omega) hi)
        rwa [show n - (k + 1) = d by omega] at this
  have := key n 0 FU s0 (by omega) (by omega) (FU_gt (by omega)) h0
  simpa [List.range_eq_range'] using this
/-! ### Sizes, copies, comparisons (the laws' own) -/
def Szd (o : Option Int) (n : Int) (Q : Prop) : Prop := ∃ r, o = some r ∧ (r < 0 ∨ (0 ≤ r ∧ r ≤ n ∧ Q))
def allS {α : Type} (S : α → Prop) (l : List α) : Prop := l.length ≤ 1048576 ∧ ∀ x ∈ l, S x
theorem idx_lt {α : Type} {l : List α} {k : Nat} (h : k < l.length) : idx l (k : Int) = some l[k] := by rw [idx_nat]; simp [h]
theorem seti_nat {α : Type} (l : List α) (k : Nat) (x : α) : seti l (k : Int) x = l.set k x := by unfold seti; simp
theorem Szd.imp {o : Option Int} {n : Int} {Q R : Prop} (h : Szd o n Q) (hi : Q → R) : Szd o n R := by
  obtain ⟨r, h1, h2⟩ := h
  exact ⟨r, h1, h2.imp id fun h => ⟨h.1, h.2.1, hi h.2.2⟩⟩
theorem mkL_nat {α : Type} {n : Nat} (h : n ≤ 1073741824) (z : α) : mkL (n : Int) z = some (List.replicate n z) := by
  unfold mkL
  rw [if_pos (by omega)]
  simp
theorem eqLB {α : Type} [BEq α] {S : α → Prop} (hn : ∀ x : α, (x != x) = false) (f : Nat → Int → Option Bool) (l : List α)
    (hs : ∀ m k, f (m + 1) k = if (decide (k < (List.length l : Int))) = true then Option.bind (idx l k) fun u => Option.bind (idx l k) fun v => (if (u != v) = true then some false else f m (w64 (k + 1))) else some true)
    (hl : allS S l) : (if ((List.length l : Int) != (List.length l : Int)) = true then some false else f FU 0) = some true := by
  have hl1 := hl.1
  rw [if_neg (by simp)]
  have := loopL f l (fun _ => true) (some true) (some false) (by omega) (fun m k x hk hx => ?_) (fun m => by rw [hs, if_neg (by simp)])
  · simpa using this
  · rw [hs, if_pos (by simp; omega), idx_nat, hx, Option.bind_some, Option.bind_some, if_neg (by rw [hn x]; exact Bool.false_ne_true), w64_succ (by omega), if_pos rfl]
theorem neI (x : Int) : (x != x) = false := by simp
/-- A loop over a list that carries a state. -/
theorem loopFold {α S R : Type} (f : Nat → S → Int → Option R) (l : List α) (step : S → α → S) (rest : S → Option R) (hn : l.length < 4611686018427387904)
    (hs : ∀ m s k x, k < l.length → l[k]? = some x → f (m + 1) s (k : Int) = f m (step s x) ((k + 1 : Nat) : Int)) (he : ∀ m s, f (m + 1) s (l.length : Int) = rest s) (s0 : S) : f FU s0 0 = rest (l.foldl step s0) := by
  have key : ∀ d k m s, l.length - k = d → k ≤ l.length → l.length - k < m → f m s (k : Int) = rest ((l.drop k).foldl step s) := by
    intro d
    induction d with
    | zero =>
      intro k m s hd hk hm
      have : k = l.length := by omega
      subst this
      cases m with
      | zero => omega
      | succ m => rw [he]; simp
    | succ d ih =>
      intro k m s hd hk hm
      cases m with
      | zero => omega
      | succ m =>
        have hk' : k < l.length := by omega
        rw [hs m s k l[k] hk' (by simp [hk']), ih (k + 1) m _ (by omega) (by omega) (by omega), List.drop_eq_getElem_cons hk', List.foldl_cons]
  have := key _ 0 FU s0 rfl (by omega) (FU_gt (by omega))
  simpa using this
end Go.Proofs.Ytmkignciedkidaa
/-
  DRAWS, PLAIN: numbers from bytes are there, in their bounds.
-/
set_option linter.unusedSimpArgs false
set_option linter.unusedVariables false
namespace Go.Proofs.Ytmkignciedkidaa
open Go
/-- There is a value, and it is as told. -/
def Tot {α : Type} (o : Option α) (P : α → Prop) : Prop := ∃ v, o = some v ∧ P v
section
variable {α β : Type}
theorem Tot.some {v : α} {P : α → Prop} (h : P v) : Tot (some v) P := ⟨v, rfl, h⟩
theorem Tot.bind {o : Option α} {f : α → Option β} {P : α → Prop} {Q : β → Prop} (h : Tot o P) (hf : ∀ v, P v → Tot (f v) Q) : Tot (Option.bind o f) Q := by
  obtain ⟨v, rfl, hv⟩ := h
  exact hf v hv
theorem Tot.bindE {o : Option α} {v : α} {f : α → Option β} {Q : β → Prop} (h : o = Option.some v) (hf : Tot (f v) Q) : Tot (Option.bind o f) Q := by
  rw [h]
  exact hf
theorem Tot.mono {o : Option α} {P Q : α → Prop} (h : Tot o P) (hf : ∀ v, P v → Q v) : Tot o Q := by
  obtain ⟨v, h1, hv⟩ := h
  exact ⟨v, h1, hf v hv⟩
theorem Tot.ite {c : Bool} {A B : Option α} {P : α → Prop} (h1 : c = true → Tot A P) (h2 : c = false → Tot B P) : Tot (if c = true then A else B) P := by
  cases c with
  | true => exact h1 rfl
  | false => exact h2 rfl
theorem Tot.j0 {rest : Option β} {body : Option β → Option β} {Q : β → Prop} (hr : Tot rest Q) (hb : ∀ k, Tot k Q → Tot (body k) Q) : Tot (jK0 rest body) Q := hb rest hr
theorem Tot.j1 {A : Type} {rest : A → Option β} {body : (A → Option β) → Option β} {Q : β → Prop} (P : A → Prop) (hr : ∀ a, P a → Tot (rest a) Q) (hb : ∀ k, (∀ a, P a → Tot (k a) Q) → Tot (body k) Q) : Tot (jK1 rest body) Q := hb rest hr
theorem Tot.j2 {A B : Type} {rest : A → B → Option β} {body : (A → B → Option β) → Option β} {Q : β → Prop} (P : A → B → Prop) (hr : ∀ a b, P a b → Tot (rest a b) Q) (hb : ∀ k, (∀ a b, P a b → Tot (k a b) Q) → Tot (body k) Q) : Tot (jK2 rest body) Q := hb rest hr
theorem Tot.of {o : Option Bool} (h : Tot o fun b => b = true) : o = Option.some true := by
  obtain ⟨v, h1, h2⟩ := h
  rw [h1, h2]
theorem Tot.loop {S R : Type} (f : Nat → S → Option R) (μ : S → Nat) (I : S → Prop) (Q : R → Prop) (step : ∀ m s, I s → (∀ s', I s' → μ s' < μ s → Tot (f m s') Q) → Tot (f (m + 1) s) Q) :
    ∀ m s, I s → μ s < m → Tot (f m s) Q := by
  intro m
  induction m with
  | zero => intro s _ h; omega
  | succ m ih => intro s hs h; exact step m s hs fun s' hs' hlt => ih s' hs' (by omega)
end
/-- Bytes, a place in them or behind, and so many steps before it leaves its range. -/
def Cu (c : List Int) (n a : Int) : Prop := (∀ b ∈ c, 0 ≤ b ∧ b ≤ 255) ∧ 0 ≤ a ∧ 0 ≤ n ∧ a + n ≤ 4000000000000000000
theorem Cu.mono {c : List Int} {n m a : Int} (h : Cu c n a) (h0 : 0 ≤ m) (hm : m ≤ n) : Cu c m a := ⟨h.1, h.2.1, h0, by have := h.2.2.2; omega⟩
/-- A value, and the place behind. -/
def Pk {α : Type} (c : List Int) (n : Int) (P : α → Prop) (v : α × List Int × Int × Int) : Prop := P v.1 ∧ v.2.1 = c ∧ Cu c n v.2.2.1
theorem Pk.imp {α : Type} {c : List Int} {n m : Int} {P Q : α → Prop} {v : α × List Int × Int × Int} (h : Pk c n P v) (hp : ∀ r, P r → Q r) (h0 : 0 ≤ m) (hm : m ≤ n) : Pk c m Q v := ⟨hp _ h.1, h.2.1, h.2.2.mono h0 hm⟩
abbrev Cur := List Int × Int × Int
theorem w64_byte {b : Int} (h : 0 ≤ b ∧ b ≤ 255) : w64 b = b := w64_eq (by omega) (by omega)
theorem and_byte (a : Int) : 0 ≤ w64 (andK .u64 a 255) ∧ w64 (andK .u64 a 255) ≤ 255 := by
  have h : andK .u64 a 255 = IntKind.wrap .u64 (((BitVec.ofInt 64 a &&& BitVec.ofInt 64 255).toNat : Nat) : Int) := rfl
  have h2 : (BitVec.ofInt 64 a &&& BitVec.ofInt 64 255).toNat ≤ 255 := by
    rw [BitVec.toNat_and]
    exact Nat.le_trans Nat.and_le_right (by decide)
  rw [h]
  generalize (BitVec.ofInt 64 a &&& BitVec.ofInt 64 255).toNat = v at *
  have e : IntKind.wrap .u64 (v : Int) = v := by
    unfold IntKind.wrap
    simp only [IntKind.bits, IntKind.signed]
    simp
    omega
  rw [e, w64_byte (by omega)]
  omega
theorem next_ok (x : Cur) {m : Int} (h : Cu x.1 m x.2.1) (hm : 1 ≤ m) : Tot (F_spec_l1Cur__next__mut__box x) (Pk x.1 (m - 1) fun r => 0 ≤ r ∧ r ≤ 255) := by
  obtain ⟨h1, h2, h3, h4⟩ := h
  unfold F_spec_l1Cur__next__mut__box jK1
  have e : w64 (x.2.1 + 1) = x.2.1 + 1 := w64_eq (by omega) (by omega)
  have cu : Cu x.1 (m - 1) (x.2.1 + 1) := ⟨h1, by omega, by omega, by omega⟩
  dsimp only
  rw [e]
  have fin : ∀ y : Int, (0 ≤ y ∧ y ≤ 255) → ∀ s1 s2 s3 : Int, Tot (if (decide (x.2.1 + 1 ≤ (List.length x.1 : Int))) = true then some (y, (x.1, x.2.1 + 1, s1)) else some ((w64 (andK .u64 s2 255)), (x.1, x.2.1 + 1, s3))) (Pk x.1 (m - 1) fun r => 0 ≤ r ∧ r ≤ 255) := by
    intro y hy s1 s2 s3
    refine Tot.ite (fun _ => Tot.some ⟨hy, rfl, cu⟩) fun _ => Tot.some ⟨and_byte _, rfl, cu⟩
  refine Tot.ite (fun hc => ?_) fun _ => fin 0 (by omega) _ _ _
  have hlt : x.2.1.toNat < x.1.length := by simp at hc; omega
  refine Tot.bindE (v := x.1[x.2.1.toNat]) (by rw [idx_int h2]; simp [hlt]) ?_
  have hb := h1 _ (List.getElem_mem hlt)
  exact fin _ (by rw [w64_byte hb]; exact hb) _ _ _
theorem pick_ok (x : Cur) (k : Int) {m : Int} (h : Cu x.1 m x.2.1) (hm : 2 ≤ m) : Tot (F_spec_l1Cur__pick__mut__box x k) (Pk x.1 (m - 2) fun r => 0 ≤ r ∧ (r < k ∨ r = 0)) := by
  unfold F_spec_l1Cur__pick__mut__box
  refine Tot.ite (fun _ => Tot.some ⟨⟨by simp, .inr rfl⟩, rfl, h.mono (by omega) (by omega)⟩) fun hk => ?_
  have hk' : 1 < k := by simpa using hk
  refine Tot.bind (next_ok x h (by omega)) fun u hu => ?_
  obtain ⟨hu1, hu2, hu3⟩ := hu
  have fin : ∀ (y a s : Int), 0 ≤ y → Cu x.1 (m - 2) a → Tot (if k = 0 then none else some ((Int.tmod y k), (x.1, a, s))) (Pk x.1 (m - 2) fun r => 0 ≤ r ∧ (r < k ∨ r = 0)) := by
    intro y a s hy ha
    rw [if_neg (by omega)]
    exact Tot.some ⟨⟨Int.tmod_nonneg _ hy, .inl (Int.tmod_lt_of_pos _ (by omega))⟩, rfl, ha⟩
  unfold jK3
  dsimp only
  refine Tot.ite (fun _ => ?_) fun _ => fin _ _ _ hu1.1 (hu3.mono (by omega) (by omega))
  refine Tot.bind (next_ok (x.1, u.2.2.1, u.2.2.2) hu3 (by omega)) fun v hv => ?_
  obtain ⟨hv1, hv2, hv3⟩ := hv
  refine fin _ _ _ ?_ (hv3.mono (by omega) (by omega))
  rw [w64_eq (x := u.1 * 256) (by omega) (by omega), w64_eq (by omega) (by omega)]
  omega
theorem one_ok (x : Cur) (k : Int) {m : Int} (h : Cu x.1 m x.2.1) (hm : 2 ≤ m) : Tot (F_spec_l1Cur__one__mut__box x k) (Pk x.1 (m - 2) fun _ => True) := by
  unfold F_spec_l1Cur__one__mut__box
  refine Tot.bind (pick_ok x k h hm) fun u hu => Tot.some ⟨trivial, rfl, hu.2.2⟩
theorem idx_pick {α : Type} (l : List α) {r : Int} (hl : l ≠ []) (h : 0 ≤ r ∧ (r < (l.length : Int) ∨ r = 0)) : ∃ v, idx l r = some v ∧ v ∈ l ∧ r.toNat < l.length := by
  have hpos : 0 < l.length := List.length_pos_iff.2 hl
  have hlt : r.toNat < l.length := by omega
  exact ⟨l[r.toNat], by rw [idx_int h.1]; simp [hlt], List.getElem_mem hlt, hlt⟩
theorem among_ok (x : Cur) (l : List Int) (P : Int → Prop) {m : Int} (h : Cu x.1 m x.2.1) (hm : 2 ≤ m) (hl : l ≠ []) (hp : ∀ v ∈ l, P v) : Tot (F_spec_l1Cur__among__mut__box x l) (Pk x.1 (m - 2) P) := by
  unfold F_spec_l1Cur__among__mut__box
  refine Tot.bind (pick_ok x _ h hm) fun u hu => ?_
  obtain ⟨v, hv, hmem, _⟩ := idx_pick l hl hu.1
  exact Tot.bindE hv (Tot.some ⟨hp v hmem, rfl, hu.2.2⟩)
theorem amongT (x : Cur) (l : List Int) {m : Int} (h : Cu x.1 m x.2.1) (hm : 2 ≤ m) (hl : l ≠ []) : Tot (F_spec_l1Cur__among__mut__box x l) (Pk x.1 (m - 2) fun _ => True) := among_ok x l _ h hm hl fun _ _ => trivial
end Go.Proofs.Ytmkignciedkidaa
/-
  SHOWS, PLAIN: what the program's and the reference's tests of spots, charts and shows answer.
-/
set_option linter.unusedSimpArgs false
set_option linter.unusedVariables false
namespace Go.Proofs.Ytmkignciedkidaa
open Go
def okIn (a lo hi : Int) : Bool := decide (lo ≤ a) && decide (a ≤ hi)
theorem spec_l1In (a lo hi : Int) : F_spec_l1In a lo hi = some (okIn a lo hi) := by
  unfold F_spec_l1In jK1 okIn
  by_cases h : lo ≤ a <;> simp [h]
theorem impl_within (a lo hi : Int) : F_impl_within a lo hi = some (okIn a lo hi) := by
  unfold F_impl_within jK1 okIn
  by_cases h : lo ≤ a <;> simp [h]
def okSpot (s : Int × Int) : Bool := okIn s.1 0 1280 && okIn s.2 0 672
theorem spec_stGood (s : Int × Int) : F_spec_stGood s = some (okSpot s) := by
  unfold F_spec_stGood jK1 okSpot
  dsimp only
  rw [spec_l1In, Option.bind_some, spec_l1In]
  cases okIn s.1 0 1280 <;> simp
theorem impl_IsSpot (s : Int × Int) : F_impl_IsSpot s = some (okSpot s) := by
  unfold F_impl_IsSpot jK1 okSpot
  dsimp only
  rw [impl_within, Option.bind_some, impl_within]
  cases okIn s.1 0 1280 <;> simp
theorem eqv_Spot_eq (x y : Int × Int) : eqv_Spot x y = decide (x = y) := by
  obtain ⟨a, b⟩ := x
  obtain ⟨c, d⟩ := y
  simp [eqv_Spot]
  by_cases h1 : a = c <;> by_cases h2 : b = d <;> simp [h1, h2]
/-- The spot at k is a spot and none of those before it. -/
def newAt (l : List (Int × Int)) (k : Nat) : Bool := match l[k]? with
  | some s => okSpot s && (l.take k).all (fun u => !decide (s = u))
  | none => true
theorem newAt_of {l : List (Int × Int)} {k : Nat} {s : Int × Int} (h : l[k]? = some s) : newAt l k = (okSpot s && (l.take k).all (fun u => !decide (s = u))) := by
  unfold newAt
  rw [h]
def okChart (l : List (Int × Int)) : Bool := okIn (l.length : Int) 1 12 && (List.range l.length).all (newAt l)
theorem spec_chGood (l : List (Int × Int)) (hl : l.length < 4611686018427387904) : F_spec_chGood l = some (okChart l) := by
  unfold F_spec_chGood
  rw [loopR (F_spec_chGood_L1 l) l.length (newAt l) (some (okIn (l.length : Int) 1 12)) (some false) hl (fun m k hk => ?_) (fun m => ?_)]
  · unfold okChart
    cases (List.range l.length).all (newAt l) <;> simp
  · obtain ⟨s, hs⟩ : ∃ s, l[k]? = some s := ⟨_, List.getElem?_eq_getElem hk⟩
    rw [F_spec_chGood_L1, if_pos (by simp; omega), idx_nat, hs, Option.bind_some, spec_stGood, Option.bind_some, newAt_of hs]
    cases okSpot s with
    | false => simp
    | true =>
      rw [if_neg (by simp), sl_take l (by omega), Option.bind_some, Bool.true_and]
      have hlen : (l.take k).length = k := by simp; omega
      rw [loopL (F_spec_chGood_L2 (l.take k) s (F_spec_chGood_L1 l m) (k : Int)) (l.take k) (fun u => !decide (s = u)) (F_spec_chGood_L1 l m ((k + 1 : Nat) : Int)) (some false) (by omega) (fun m' j x hj hx => ?_) (fun m' => ?_)]
      · rw [F_spec_chGood_L2, if_pos (by simp; omega), idx_nat, hx, Option.bind_some, eqv_Spot_eq, w64_succ (by omega)]
        by_cases hq : s = x <;> simp [hq]
      · rw [F_spec_chGood_L2, if_neg (by simp), w64_succ (by omega)]
  · rw [F_spec_chGood_L1, if_neg (by simp), spec_l1In]
    rfl
theorem contains_Spot (l : List (Int × Int)) (s : Int × Int) (hl : l.length < 4611686018427387904) : F_slices_Contains_impl_Spot_impl_Spot l s = some (!l.all (fun u => !decide (s = u))) := by
  unfold F_slices_Contains_impl_Spot_impl_Spot F_slices_Index_impl_Spot_impl_Spot
  have key : ∀ d k m, l.length - k = d → k ≤ l.length → l.length - k < m → ∃ i, F_slices_Index_impl_Spot_impl_Spot_L1 l s m (k : Int) = some i ∧ decide (0 ≤ i) = !(l.drop k).all (fun u => !decide (s = u)) := by
    intro d
    induction d with
    | zero =>
      intro k m hd hk hm
      cases m with
      | zero => omega
      | succ m =>
        rw [F_slices_Index_impl_Spot_impl_Spot_L1, if_neg (by simp; omega)]
        exact ⟨-1, rfl, by rw [List.drop_eq_nil_of_le (by omega)]; simp⟩
    | succ d ih =>
      intro k m hd hk hm
      cases m with
      | zero => omega
      | succ m =>
        have hk' : k < l.length := by omega
        rw [F_slices_Index_impl_Spot_impl_Spot_L1, if_pos (by simp; omega), idx_lt hk', Option.bind_some, eqv_Spot_eq, w64_succ (by omega), List.drop_eq_getElem_cons hk', List.all_cons]
        by_cases hq : s = l[k]
        · exact ⟨k, by simp [hq], by simp [hq]⟩
        · rw [if_neg (by simp [hq])]
          obtain ⟨i, h1, h2⟩ := ih (k + 1) m (by omega) (by omega) (by omega)
          exact ⟨i, h1, by simp [hq, h2]⟩
  obtain ⟨i, h1, h2⟩ := key _ 0 FU rfl (by omega) (FU_gt (by omega))
  rw [show ((0 : Nat) : Int) = 0 from rfl] at h1
  rw [h1, Option.bind_some, h2]
  simp
theorem impl_IsChart (l : List (Int × Int)) (hl : l.length < 4611686018427387904) : F_impl_IsChart l = some (okChart l) := by
  unfold F_impl_IsChart okChart
  rw [impl_within, Option.bind_some]
  cases hi : okIn (l.length : Int) 1 12 with
  | false => simp
  | true =>
    rw [if_neg (by simp), loopR (F_impl_IsChart_L1 l) l.length (newAt l) (some true) (some false) hl (fun m k hk => ?_) (fun m => ?_)]
    · cases (List.range l.length).all (newAt l) <;> simp
    · obtain ⟨s, hs⟩ : ∃ s, l[k]? = some s := ⟨_, List.getElem?_eq_getElem hk⟩
      rw [F_impl_IsChart_L1, if_pos (by simp; omega), idx_nat, hs, Option.bind_some]
      unfold jK1
      dsimp only
      rw [newAt_of hs, impl_IsSpot, Option.bind_some]
      rw [sl_take l (by omega), Option.bind_some, contains_Spot _ _ (by simp; omega), Option.bind_some, w64_succ (by omega)]
      cases okSpot s with
      | false => simp
      | true => simp only [Bool.not_true, Bool.false_eq_true, if_false, Bool.true_and]; cases (List.take k l).all (fun u => !decide (s = u)) <;> simp
    · rw [F_impl_IsChart_L1, if_neg (by simp)]
def okCounts (l : List Int) : Bool := l.all fun u => okIn u 1 64
theorem spec_l1All (l : List Int) (hl : l.length < 4611686018427387904) : F_spec_l1All l 1 64 = some (okCounts l) := by
  unfold F_spec_l1All
  rw [loopL (F_spec_l1All_L1 l 1 64) l (fun u => okIn u 1 64) (some true) (some false) hl (fun m k x hk hx => ?_) (fun m => ?_)]
  · unfold okCounts
    cases l.all (fun u => okIn u 1 64) <;> simp
  · rw [F_spec_l1All_L1, if_pos (by simp; omega), idx_nat, hx, Option.bind_some, spec_l1In, Option.bind_some, w64_succ (by omega)]
    cases okIn x 1 64 <;> simp
  · rw [F_spec_l1All_L1, if_neg (by simp)]
theorem spec_apDistance (x : Int) : F_spec_apDistance x = some (okIn x 0 80) := by
  unfold F_spec_apDistance
  rw [spec_l1In]; rfl
theorem spec_mvStep (x : Int) : F_spec_mvStep x = some (okIn x 1 24) := by
  unfold F_spec_mvStep
  rw [spec_l1In]; rfl
theorem impl_isLeast (x : Int) : F_impl_isLeast x = some (okIn x 0 80) := by
  unfold F_impl_isLeast
  rw [impl_within]; rfl
/-- All charts are charts, as long as the first. -/
def sameLong (cs : List (List (Int × Int))) : Bool := cs.all fun c => okChart c && (match cs[0]? with | some d => decide (c.length = d.length) | none => true)
abbrev ShowT := (List (List (Int × Int))) × (List Int) × Int × Int
def okShow (x : ShowT) : Bool := okIn (x.1.length : Int) 2 8 && decide (x.2.1.length + 1 = x.1.length) && sameLong x.1 && okCounts x.2.1 && okIn x.2.2.1 0 80 && okIn x.2.2.2 1 24
theorem spec_swGood (x : ShowT) (h1 : x.1.length < 4611686018427387904) (h2 : ∀ c ∈ x.1, c.length < 4611686018427387904) (h3 : x.2.1.length < 4611686018427387904) : F_spec_swGood x = some (okShow x) := by
  unfold F_spec_swGood
  rw [loopL (F_spec_swGood_L1 x) x.1 (fun c => okChart c && (match x.1[0]? with | some d => decide (c.length = d.length) | none => true)) (some (okIn (x.1.length : Int) 2 8 && decide (x.2.1.length + 1 = x.1.length) && okCounts x.2.1 && okIn x.2.2.1 0 80 && okIn x.2.2.2 1 24)) (some false) h1 (fun m k c hk hc => ?_) (fun m => ?_)]
  · unfold okShow sameLong
    cases x.1.all (fun c => okChart c && (match x.1[0]? with | some d => decide (c.length = d.length) | none => true)) <;> simp
  · rw [F_spec_swGood_L1, if_pos (by simp; omega), idx_nat, hc, Option.bind_some]
    unfold jK1
    dsimp only
    rw [spec_chGood c (h2 c (List.mem_of_getElem? hc)), Option.bind_some, idx_zero, w64_succ (by omega)]
    have h0 : 0 < x.1.length := by omega
    rw [List.getElem?_eq_getElem h0]
    cases okChart c with
    | false => simp
    | true =>
      simp only [Bool.not_true, Bool.false_eq_true, if_false, Bool.true_and, Option.bind_some]
      by_cases hq : c.length = x.1[0].length <;> simp [hq]
      omega
  · rw [F_spec_swGood_L1, if_neg (by simp)]
    unfold jK1
    dsimp only
    rw [spec_l1In, Option.bind_some, spec_l1All _ h3, Option.bind_some, spec_apDistance, Option.bind_some, spec_mvStep, Option.bind_some]
    cases hA : okIn (x.1.length : Int) 2 8 with
    | false => simp
    | true =>
      have h8 : 2 ≤ x.1.length ∧ x.1.length ≤ 8 := by
        simp [okIn] at hA
        omega
      rw [w64_eq (by omega) (by omega)]
      by_cases hq : x.2.1.length + 1 = x.1.length
      · have hq' : ((x.2.1.length : Int) == (x.1.length : Int) - 1) = true := by simp; omega
        simp only [hq', hq, if_true, Bool.true_and, decide_true]
        cases okCounts x.2.1 <;> cases okIn x.2.2.1 0 80 <;> simp
      · have hq' : ((x.2.1.length : Int) == (x.1.length : Int) - 1) = false := by simp; omega
        simp [hq', hq]
theorem impl_areCharts (cs : List (List (Int × Int))) (ns : List Int) (h1 : cs.length < 4611686018427387904) (h2 : ∀ c ∈ cs, c.length < 4611686018427387904) (h3 : ns.length < 4611686018427387904) :
    F_impl_areCharts cs ns = some (okIn (cs.length : Int) 1 9 && decide (ns.length + 1 = cs.length) && sameLong cs && okCounts ns) := by
  unfold F_impl_areCharts jK1
  dsimp only
  rw [impl_within, Option.bind_some]
  have hw : w64 ((cs.length : Int) - 1) = (cs.length : Int) - 1 := w64_eq (by omega) (by omega)
  rw [hw]
  cases hA : okIn (cs.length : Int) 1 9 with
  | false => simp
  | true =>
    by_cases hq : ns.length + 1 = cs.length
    · have hq' : ((ns.length : Int) != (cs.length : Int) - 1) = false := by simp; omega
      simp only [hq', hq, Bool.not_true, Bool.false_eq_true, if_false, decide_true, Bool.true_and]
      have hin : F_impl_areCharts_L2 ns FU 0 = some (okCounts ns) := by
        rw [loopL (F_impl_areCharts_L2 ns) ns (fun u => okIn u 1 64) (some true) (some false) h3 (fun m k x hk hx => ?_) (fun m => ?_)]
        · unfold okCounts
          cases ns.all (fun u => okIn u 1 64) <;> simp
        · rw [F_impl_areCharts_L2, if_pos (by simp; omega), idx_nat, hx, Option.bind_some, impl_within, Option.bind_some, w64_succ (by omega)]
          cases okIn x 1 64 <;> simp
        · rw [F_impl_areCharts_L2, if_neg (by simp)]
      rw [loopL (F_impl_areCharts_L1 cs ns) cs (fun c => okChart c && (match cs[0]? with | some d => decide (c.length = d.length) | none => true)) (some (okCounts ns)) (some false) h1 (fun m k c hk hc => ?_) (fun m => ?_)]
      · unfold sameLong
        cases cs.all (fun c => okChart c && (match cs[0]? with | some d => decide (c.length = d.length) | none => true)) <;> simp
      · rw [F_impl_areCharts_L1, if_pos (by simp; omega), idx_nat, hc, Option.bind_some]
        unfold jK1
        dsimp only
        rw [impl_IsChart c (h2 c (List.mem_of_getElem? hc)), Option.bind_some, idx_zero, w64_succ (by omega)]
        have h0 : 0 < cs.length := by omega
        rw [List.getElem?_eq_getElem h0]
        cases okChart c with
        | false => simp
        | true =>
          simp only [Bool.not_true, Bool.false_eq_true, if_false, Bool.true_and, Option.bind_some]
          by_cases hq : c.length = cs[0].length <;> simp [hq]
          omega
      · rw [F_impl_areCharts_L1, if_neg (by simp), hin]
    · have hq' : ((ns.length : Int) != (cs.length : Int) - 1) = true := by simp; omega
      simp [hq', hq]
theorem impl_IsShow (x : ShowT) (h1 : x.1.length < 4611686018427387904) (h2 : ∀ c ∈ x.1, c.length < 4611686018427387904) (h3 : x.2.1.length < 4611686018427387904) : F_impl_IsShow x = some (okShow x) := by
  unfold F_impl_IsShow jK1
  dsimp only
  rw [impl_within, Option.bind_some, impl_areCharts _ _ h1 h2 h3, Option.bind_some, impl_isLeast, Option.bind_some, impl_within, Option.bind_some]
  unfold okShow
  cases hA : okIn (x.1.length : Int) 2 8 with
  | false => simp
  | true =>
    have hB : okIn (x.1.length : Int) 1 9 = true := by
      simp [okIn] at hA ⊢
      omega
    rw [hB]
    simp only [if_true, Bool.true_and]
    cases decide (x.2.1.length + 1 = x.1.length) <;> cases sameLong x.1 <;> cases okCounts x.2.1 <;> cases okIn x.2.2.1 0 80 <;> simp
end Go.Proofs.Ytmkignciedkidaa
/-
  SHOWS COMPARED, PLAIN.
-/
set_option linter.unusedSimpArgs false
set_option linter.unusedVariables false
namespace Go.Proofs.Ytmkignciedkidaa
open Go
theorem okIn_iff {a lo hi : Int} : okIn a lo hi = true ↔ lo ≤ a ∧ a ≤ hi := by simp [okIn]
structure ShowFacts (x : ShowT) : Prop where
  n0 : 2 ≤ x.1.length
  n1 : x.1.length ≤ 8
  nc : x.2.1.length + 1 = x.1.length
  ch : ∀ c ∈ x.1, okChart c = true
  cl : ∀ c ∈ x.1, 1 ≤ c.length ∧ c.length ≤ 12
  ce : ∀ c ∈ x.1, ∀ d, x.1[0]? = some d → c.length = d.length
  cn : ∀ u ∈ x.2.1, 1 ≤ u ∧ u ≤ 64
  le : 0 ≤ x.2.2.1 ∧ x.2.2.1 ≤ 80
  st : 1 ≤ x.2.2.2 ∧ x.2.2.2 ≤ 24
theorem okChart_len {c : List (Int × Int)} (h : okChart c = true) : 1 ≤ c.length ∧ c.length ≤ 12 := by
  unfold okChart at h
  rw [Bool.and_eq_true, okIn_iff] at h
  omega
theorem facts {x : ShowT} (h : okShow x = true) : ShowFacts x := by
  unfold okShow sameLong okCounts at h
  simp only [Bool.and_eq_true, okIn_iff, decide_eq_true_eq, List.all_eq_true] at h
  obtain ⟨⟨⟨⟨⟨h1, h2⟩, h3⟩, h4⟩, h5⟩, h6⟩ := h
  refine ⟨by omega, by omega, h2, fun c hc => (h3 c hc).1, fun c hc => okChart_len (h3 c hc).1, fun c hc d hd => ?_, h4, h5, h6⟩
  have := (h3 c hc).2
  rw [hd] at this
  simpa using this
/-- The numbers below n that p takes. -/
def filt (p : Nat → Bool) (n : Nat) : List Int := ((List.range n).filter p).map fun (k : Nat) => (k : Int)
theorem filt_succ (p : Nat → Bool) (n : Nat) : filt p (n + 1) = if p n then filt p n ++ [(n : Int)] else filt p n := by
  unfold filt
  rw [List.range_succ, List.filter_append, List.map_append]
  cases h : p n <;> simp [h]
theorem filt_len (p : Nat → Bool) (n : Nat) : (filt p n).length ≤ n := by
  unfold filt
  rw [List.length_map]
  exact Nat.le_trans (List.length_filter_le _ _) (by simp)
theorem loopFilter {R : Type} (f : Nat → List Int → Int → Option R) (n : Nat) (p : Nat → Bool) (rest : List Int → Option R) (hn : n < 4611686018427387904)
    (hs : ∀ m s k, k < n → s.length ≤ k → f (m + 1) s (k : Int) = f m (if p k then s ++ [(k : Int)] else s) ((k + 1 : Nat) : Int)) (he : ∀ m s, f (m + 1) s (n : Int) = rest s) : f FU [] 0 = rest (filt p n) := by
  have h := loopS f n (fun k s => if p k then s ++ [(k : Int)] else s) rest hn (fun k s => s = filt p k) [] (by simp [filt]) (fun k s hk hi => by rw [filt_succ, hi]) (fun m k s hk hi => hs m s k hk (by rw [hi]; exact filt_len p k)) (fun m s hi => he m s)
  rw [h.1, h.2]
theorem app_ok {α : Type} {l m : List α} (h : l.length + m.length ≤ 1073741824) : app l m = some (l ++ m) := by
  unfold app
  rw [if_pos h]
theorem chart_len {x : ShowT} (f : ShowFacts x) {k : Nat} {c d : List (Int × Int)} (hc : x.1[k]? = some c) (hd : x.1[0]? = some d) : c.length = d.length := f.ce c (List.mem_of_getElem? hc) d hd
theorem filt_nil {p : Nat → Bool} {n : Nat} : filt p n = [] ↔ ∀ k, k < n → p k = false := by
  unfold filt
  rw [List.map_eq_nil_iff, List.filter_eq_nil_iff]
  constructor
  · intro h k hk
    simpa using h k (List.mem_range.2 hk)
  · intro h k hk
    simp [h k (List.mem_range.1 hk)]
def lensOk (x : ShowT) : Prop := x.1.length < 4611686018427387904 ∧ (∀ c ∈ x.1, c.length < 4611686018427387904) ∧ x.2.1.length < 4611686018427387904
end Go.Proofs.Ytmkignciedkidaa
/-
  CUES, PLAIN: what the tests of music and cues answer; times.
-/
set_option linter.unusedSimpArgs false
set_option linter.unusedVariables false
namespace Go.Proofs.Ytmkignciedkidaa
open Go
abbrev MusicT := List (Int × Int)
abbrev CueT := Int × (List UInt8)
/-! names -/
/-! cues -/
/-- What the walks' loops need of the lengths. -/
structure CueLens (x : MusicT) (l : List CueT) : Prop where
  hx : x.length < 4611686018427387904
  hl : l.length < 1073741824
  hn : ∀ c ∈ l, c.2.length < 4611686018427387904
theorem CueLens.hl' {x : MusicT} {l : List CueT} (h : CueLens x l) : l.length < 4611686018427387904 := by have := h.hl; omega
/-! times -/
end Go.Proofs.Ytmkignciedkidaa
/-
  CUES SHIFTED AND ADDED, PLAIN.
-/
set_option linter.unusedSimpArgs false
set_option linter.unusedVariables false
namespace Go.Proofs.Ytmkignciedkidaa
open Go
/-- A loop that looks for the first place where q does not hold. -/
theorem loopFind {α R : Type} (f : Nat → Int → Option R) (l : List α) (q : α → Bool) (rest : Nat → Option R) (hn : l.length < 4611686018427387904)
    (hs : ∀ m k x, k < l.length → l[k]? = some x → q x = true → f (m + 1) (k : Int) = f m ((k + 1 : Nat) : Int))
    (he : ∀ m k x, k < l.length → l[k]? = some x → q x = false → f (m + 1) (k : Int) = rest k) (hz : ∀ m, f (m + 1) (l.length : Int) = rest l.length) :
    f FU 0 = rest (l.takeWhile q).length := by
  have key : ∀ d k m, l.length - k = d → k ≤ l.length → l.length - k < m → f m (k : Int) = rest (k + ((l.drop k).takeWhile q).length) := by
    intro d
    induction d with
    | zero =>
      intro k m hd hk hm
      have : k = l.length := by omega
      subst this
      cases m with
      | zero => omega
      | succ m => rw [hz]; simp
    | succ d ih =>
      intro k m hd hk hm
      cases m with
      | zero => omega
      | succ m =>
        have hk' : k < l.length := by omega
        have hx : l[k]? = some l[k] := by simp [hk']
        rw [List.drop_eq_getElem_cons hk']
        cases hq : q l[k] with
        | true =>
          rw [hs m k _ hk' hx hq, ih (k + 1) m (by omega) (by omega) (by omega), List.takeWhile_cons_of_pos hq]
          congr 1
          simp
          omega
        | false =>
          rw [he m k _ hk' hx hq, List.takeWhile_cons_of_neg (by simp [hq])]
          simp
  have := key _ 0 FU rfl (by omega) (FU_gt (by omega))
  simpa using this
def addAt (l : List CueT) (c : CueT) : Nat := (l.takeWhile fun d => decide (d.1 < c.1)).length
def added (l : List CueT) (c : CueT) : List CueT := l.take (addAt l c) ++ [c] ++ l.drop (addAt l c)
theorem sl_drop {α : Type} (l : List α) {k : Nat} (h : k ≤ l.length) : sl l (k : Int) (List.length l : Int) = some (l.drop k) := by
  unfold sl
  rw [if_pos (by omega)]
  simp
/-! what comes back is small -/
end Go.Proofs.Ytmkignciedkidaa
/-
  THE MOVES OF A PART, PLAIN.
-/
set_option linter.unusedSimpArgs false
set_option linter.unusedVariables false
namespace Go.Proofs.Ytmkignciedkidaa
open Go
/-- A loop that puts one thing after another for the numbers below n. -/
theorem loopMap {β R : Type} (f : Nat → List β → Int → Option R) (n : Nat) (g : Nat → β) (rest : List β → Option R) (hn : n < 4611686018427387904)
    (hs : ∀ m s k, k < n → s.length = k → f (m + 1) s (k : Int) = f m (s ++ [g k]) ((k + 1 : Nat) : Int)) (he : ∀ m s, f (m + 1) s (n : Int) = rest s) : f FU [] 0 = rest ((List.range n).map g) := by
  have h := loopS f n (fun k s => s ++ [g k]) rest hn (fun k s => s = (List.range k).map g) [] (by simp) (fun k s hk hi => by rw [List.range_succ, List.map_append, hi]; simp) (fun m k s hk hi => hs m s k hk (by rw [hi]; simp)) (fun m s hi => he m s)
  rw [h.1, h.2]
theorem range_map_get {α β : Type} (l : List α) (g : Nat → β) (h : α → β) (hg : ∀ k x, l[k]? = some x → g k = h x) : (List.range l.length).map g = l.map h := by
  apply List.ext_getElem?
  intro i
  by_cases hi : i < l.length
  · have e : l[i]? = some l[i] := List.getElem?_eq_getElem hi
    simp [hi, hg i _ e]
  · rw [List.getElem?_eq_none (by simp; omega), List.getElem?_eq_none (by simp; omega)]
abbrev MoveT := (Int × Int) × (Int × Int) × Int
def chartAt (x : ShowT) (p : Nat) : List (Int × Int) := (x.1[p]?).getD []
def countsAt (x : ShowT) (p : Nat) : Int := (x.2.1[p]?).getD 0
def movesOf (x : ShowT) (p : Nat) : List MoveT := (List.range (chartAt x p).length).map fun i => (((chartAt x p)[i]?).getD (0, 0), ((chartAt x (p + 1))[i]?).getD (0, 0), countsAt x p)
theorem chartAt_of {x : ShowT} {p : Nat} {c : List (Int × Int)} (h : x.1[p]? = some c) : chartAt x p = c := by unfold chartAt; rw [h]; rfl
theorem part_facts {x : ShowT} (f : ShowFacts x) {p : Nat} (hp : p < x.2.1.length) : ∃ a b n, x.1[p]? = some a ∧ x.1[p + 1]? = some b ∧ x.2.1[p]? = some n ∧ a.length = b.length ∧ 1 ≤ a.length ∧ a.length ≤ 12 ∧ 1 ≤ n ∧ n ≤ 64 := by
  have h1 := f.nc
  have h2 := f.n0
  obtain ⟨a, ha⟩ : ∃ c, x.1[p]? = some c := ⟨_, List.getElem?_eq_getElem (by omega)⟩
  obtain ⟨b, hb⟩ : ∃ c, x.1[p + 1]? = some c := ⟨_, List.getElem?_eq_getElem (by omega)⟩
  obtain ⟨n, hn⟩ : ∃ c, x.2.1[p]? = some c := ⟨_, List.getElem?_eq_getElem (by omega)⟩
  obtain ⟨c, hc⟩ : ∃ c, x.1[0]? = some c := ⟨_, List.getElem?_eq_getElem (by omega)⟩
  have l := f.cl a (List.mem_of_getElem? ha)
  have m := f.cn n (List.mem_of_getElem? hn)
  exact ⟨a, b, n, ha, hb, hn, by rw [chart_len f ha hc, chart_len f hb hc], l.1, l.2, m.1, m.2⟩
theorem moves_loop (F : Nat → List MoveT → Int → Option (List MoveT)) (x : ShowT) (f : ShowFacts x) (p : Nat) (hp : p < x.2.1.length) (a : List (Int × Int)) (ha : x.1[p]? = some a)
    (hs : ∀ m s y, F (m + 1) s y = if (decide (y < (List.length a : Int))) = true then Option.bind (idx a y) fun u => Option.bind (idx x.1 (w64 ((p : Int) + 1))) fun b => Option.bind (idx b y) fun v => Option.bind (idx x.2.1 (p : Int)) fun c =>
      Option.bind (app s [(u, v, c)]) fun z => F m z (w64 (y + 1)) else some s) : F FU [] 0 = some (movesOf x p) := by
  obtain ⟨a', b, n, h1, h2, h3, h4, h5, h6, h7, h8⟩ := part_facts f hp
  rw [ha] at h1
  cases h1
  have hp8 := f.n1
  have hpc := f.nc
  rw [loopMap F a.length (fun i => (((chartAt x p)[i]?).getD (0, 0), ((chartAt x (p + 1))[i]?).getD (0, 0), countsAt x p)) some (by omega) (fun m s k hk hsl => ?_) (fun m s => ?_)]
  · unfold movesOf
    rw [chartAt_of ha]
  · obtain ⟨u, hu⟩ : ∃ u, a[k]? = some u := ⟨_, List.getElem?_eq_getElem hk⟩
    obtain ⟨v, hv⟩ : ∃ v, b[k]? = some v := ⟨_, List.getElem?_eq_getElem (by omega)⟩
    have e : w64 ((p : Int) + 1) = ((p + 1 : Nat) : Int) := w64_succ (by omega)
    rw [hs, if_pos (by simp; omega), idx_nat, hu, Option.bind_some, e, idx_nat, h2, Option.bind_some, idx_nat, hv, Option.bind_some, idx_nat, h3, Option.bind_some, app_ok (by simp; omega), Option.bind_some, w64_succ (by omega)]
    rw [chartAt_of ha, chartAt_of h2, hu, hv]
    unfold countsAt
    rw [h3]
    rfl
  · rw [hs, if_neg (by simp)]
theorem spec_swMoves (x : ShowT) (f : ShowFacts x) (p : Nat) (hp : p < x.2.1.length) : F_spec_swMoves x (p : Int) = some (movesOf x p) := by
  obtain ⟨a, b, n, h1, _⟩ := part_facts f hp
  unfold F_spec_swMoves
  rw [idx_nat, h1, Option.bind_some]
  exact moves_loop (F_spec_swMoves_L1 a x (p : Int)) x f p hp a h1 fun m s y => rfl
theorem impl_showMoves (x : ShowT) (f : ShowFacts x) (p : Nat) (hp : p < x.2.1.length) : F_impl_showMoves x (p : Int) = some (movesOf x p) := by
  obtain ⟨a, b, n, h1, _⟩ := part_facts f hp
  unfold F_impl_showMoves
  rw [idx_nat, h1, Option.bind_some]
  exact moves_loop (F_impl_showMoves_L1 a x (p : Int)) x f p hp a h1 fun m s y => rfl
theorem moves_len (x : ShowT) (f : ShowFacts x) (p : Nat) (hp : p < x.2.1.length) : (movesOf x p).length ≤ 12 := by
  obtain ⟨a, b, n, h1, _, _, _, _, h6, _⟩ := part_facts f hp
  unfold movesOf
  rw [chartAt_of h1]
  simpa using h6
def sqOf (a b : Int × Int) : Int := w64 ((w64 ((w64 (a.1 - b.1)) * (w64 (a.1 - b.1)))) + (w64 ((w64 (a.2 - b.2)) * (w64 (a.2 - b.2)))))
theorem spec_stSquare (a b : Int × Int) : F_spec_stSquare a b = some (sqOf a b) := rfl
theorem impl_squareOf (a b : Int × Int) : F_impl_squareOf a b = some (sqOf a b) := rfl
def sqM (m : MoveT) : Int := sqOf m.1 m.2.1
theorem spec_cpSquares (x : ShowT) (f : ShowFacts x) (p : Nat) (hp : p < x.2.1.length) : F_spec_cpSquares x (p : Int) = some ((movesOf x p).map sqM) := by
  have hl := moves_len x f p hp
  unfold F_spec_cpSquares
  rw [spec_swMoves x f p hp, Option.bind_some, loopMap (F_spec_cpSquares_L1 (movesOf x p)) (movesOf x p).length (fun k => match (movesOf x p)[k]? with | some u => sqM u | none => 0) some (by omega) (fun m s k hk hsl => ?_) (fun m s => ?_)]
  · rw [range_map_get _ _ sqM (fun k u hu => by rw [hu])]
  · obtain ⟨u, hu⟩ : ∃ u, (movesOf x p)[k]? = some u := ⟨_, List.getElem?_eq_getElem hk⟩
    rw [F_spec_cpSquares_L1, if_pos (by simp; omega), idx_nat, hu, Option.bind_some, spec_stSquare, Option.bind_some, app_ok (by simp; omega), Option.bind_some, w64_succ (by omega)]
    rfl
  · rw [F_spec_cpSquares_L1, if_neg (by simp)]
theorem spec_cpSum (l : List Int) (h : l.length < 4611686018427387904) : F_spec_cpSum l = some (l.foldl (fun a u => w64 (a + u)) 0) := by
  unfold F_spec_cpSum
  rw [loopFold (F_spec_cpSum_L1 l) l (fun a u => w64 (a + u)) some h (fun m s k u hk hu => ?_) (fun m s => ?_)]
  · rw [F_spec_cpSum_L1, if_pos (by simp; omega), idx_nat, hu, Option.bind_some, w64_succ (by omega)]
  · rw [F_spec_cpSum_L1, if_neg (by simp)]
end Go.Proofs.Ytmkignciedkidaa
/-
  THE LEAST STEP OF A SHOW, PLAIN.
-/
set_option linter.unusedSimpArgs false
set_option linter.unusedVariables false
namespace Go.Proofs.Ytmkignciedkidaa
open Go
def withinB (u : MoveT) (s : Int) : Bool := decide (sqM u ≤ (w64 ((w64 ((w64 (s * s)) * u.2.2)) * u.2.2)))
theorem spec_mvWithin (u : MoveT) (s : Int) : F_spec_mvWithin u s = some (withinB u s) := rfl
theorem impl_withinStep (u : MoveT) (s : Int) : F_impl_withinStep u s = some (withinB u s) := rfl
theorem moves_count {x : ShowT} (f : ShowFacts x) {p : Nat} (hp : p < x.2.1.length) {u : MoveT} (hu : u ∈ movesOf x p) : 1 ≤ u.2.2 ∧ u.2.2 ≤ 64 := by
  obtain ⟨a, b, n, h1, h2, h3, h4, h5, h6, h7, h8⟩ := part_facts f hp
  unfold movesOf at hu
  rw [List.mem_map] at hu
  obtain ⟨i, _, rfl⟩ := hu
  unfold countsAt
  rw [h3]
  exact ⟨h7, h8⟩
theorem within_iff {u : MoveT} {s : Int} (hu : 1 ≤ u.2.2 ∧ u.2.2 ≤ 64) (hs : 0 ≤ s ∧ s ≤ 25) : withinB u s = decide (sqM u ≤ s * s * u.2.2 * u.2.2) := by
  unfold withinB
  have h1 : 0 ≤ s * s := Int.mul_nonneg hs.1 hs.1
  have h2 : s * s ≤ 25 * 25 := Int.mul_le_mul hs.2 hs.2 hs.1 (by omega)
  have h3 : 0 ≤ s * s * u.2.2 := Int.mul_nonneg h1 (by omega)
  have h4 : s * s * u.2.2 ≤ 25 * 25 * 64 := Int.mul_le_mul h2 hu.2 (by omega) (by omega)
  have h5 : 0 ≤ s * s * u.2.2 * u.2.2 := Int.mul_nonneg h3 (by omega)
  have h6 : s * s * u.2.2 * u.2.2 ≤ 25 * 25 * 64 * 64 := Int.mul_le_mul h4 hu.2 (by omega) (by omega)
  rw [w64_eq (x := s * s) (by omega) (by omega), w64_eq (x := s * s * u.2.2) (by omega) (by omega), w64_eq (by omega) (by omega)]
theorem within_mono {u : MoveT} {s t : Int} (hu : 1 ≤ u.2.2 ∧ u.2.2 ≤ 64) (hs : 0 ≤ s) (ht : t ≤ 25) (h : s ≤ t) (hw : withinB u s = true) : withinB u t = true := by
  rw [within_iff hu ⟨hs, by omega⟩, decide_eq_true_eq] at hw
  rw [within_iff hu ⟨by omega, ht⟩, decide_eq_true_eq]
  have h1 : s * s ≤ t * t := Int.mul_le_mul h h hs (by omega)
  have h2 : s * s * u.2.2 ≤ t * t * u.2.2 := Int.mul_le_mul_of_nonneg_right h1 (by omega)
  have h3 : s * s * u.2.2 * u.2.2 ≤ t * t * u.2.2 * u.2.2 := Int.mul_le_mul_of_nonneg_right h2 (by omega)
  omega
/-- From a on, the first number that p takes, or a + d. -/
def upTo (p : Nat → Bool) : Nat → Nat → Nat
  | 0, a => a
  | d + 1, a => if p a then a else upTo p d (a + 1)
theorem upTo_spec (p : Nat → Bool) : ∀ d a, a ≤ upTo p d a ∧ upTo p d a ≤ a + d ∧ (upTo p d a < a + d → p (upTo p d a) = true) ∧ ∀ t, a ≤ t → t < upTo p d a → p t = false := by
  intro d
  induction d with
  | zero => intro a; unfold upTo; exact ⟨by omega, by omega, fun h => by omega, fun t h1 h2 => by omega⟩
  | succ d ih =>
    intro a
    unfold upTo
    cases hp : p a with
    | true => exact ⟨by simp, by simp, fun _ => by simpa using hp, fun t h1 h2 => by simp at h2; omega⟩
    | false =>
      obtain ⟨h1, h2, h3, h4⟩ := ih (a + 1)
      simp only [Bool.false_eq_true, if_false]
      refine ⟨by omega, by omega, fun h => h3 (by omega), fun t h5 h6 => ?_⟩
      by_cases ht : t = a
      · rw [ht]; exact hp
      · exact h4 t (by omega) h6
theorem loopUp {R : Type} (f : Nat → Int → Option R) (N : Nat) (p : Nat → Bool) (rest : Int → Option R) (a0 : Nat) (hN : N < 4611686018427387904)
    (hs : ∀ m a, a0 ≤ a → a < N → f (m + 1) (a : Int) = if p a = true then rest (a : Int) else f m ((a + 1 : Nat) : Int)) (he : ∀ m, f (m + 1) (N : Int) = rest (N : Int)) (ha : a0 ≤ N) : f FU (a0 : Int) = rest ((upTo p (N - a0) a0 : Nat) : Int) := by
  have key : ∀ d a m, a0 ≤ a → N - a = d → a ≤ N → d < m → f m (a : Int) = rest ((upTo p d a : Nat) : Int) := by
    intro d
    induction d with
    | zero =>
      intro a m h0 hd ha hm
      have : a = N := by omega
      subst this
      cases m with
      | zero => omega
      | succ m => exact he m
    | succ d ih =>
      intro a m h0 hd ha hm
      cases m with
      | zero => omega
      | succ m =>
        rw [hs m a h0 (by omega)]
        unfold upTo
        cases p a with
        | true => simp
        | false =>
          simp only [Bool.false_eq_true, if_false]
          exact ih (a + 1) m (by omega) (by omega) (by omega) (by omega)
  exact key _ a0 FU (Nat.le_refl _) rfl ha (FU_gt (by omega))
def stepUp (s : Nat) (u : MoveT) : Nat := upTo (fun t => withinB u (t : Int)) (25 - s) s
theorem fold_step (M : List MoveT) (hM : ∀ u ∈ M, 1 ≤ u.2.2 ∧ u.2.2 ≤ 64) : ∀ s, 1 ≤ s → s ≤ 25 →
    s ≤ M.foldl stepUp s ∧ M.foldl stepUp s ≤ 25 ∧ (M.foldl stepUp s ≤ 24 → ∀ u ∈ M, withinB u ((M.foldl stepUp s : Nat) : Int) = true) ∧ ∀ t, s ≤ t → t < M.foldl stepUp s → ∃ u ∈ M, withinB u (t : Int) = false := by
  induction M with
  | nil => intro s h1 h2; exact ⟨by simp, by simpa using h2, fun _ u hu => by simp at hu, fun t h3 h4 => by simp at h4; omega⟩
  | cons u M ih =>
    intro s h1 h2
    rw [List.foldl_cons]
    obtain ⟨a1, a2, a3, a4⟩ := upTo_spec (fun t => withinB u (t : Int)) (25 - s) s
    have e : stepUp s u = upTo (fun t => withinB u (t : Int)) (25 - s) s := rfl
    rw [← e] at a1 a2 a3 a4
    obtain ⟨b1, b2, b3, b4⟩ := ih (fun v hv => hM v (List.mem_cons_of_mem _ hv)) (stepUp s u) (by omega) (by omega)
    refine ⟨by omega, b2, fun h v hv => ?_, fun t h3 h4 => ?_⟩
    · rcases List.mem_cons.1 hv with rfl | hv
      · exact within_mono (hM v (by simp)) (by omega) (by omega) (Int.ofNat_le.2 b1) (a3 (by omega))
      · exact b3 h v hv
    · by_cases ht : t < stepUp s u
      · exact ⟨u, by simp, a4 t h3 ht⟩
      · obtain ⟨v, hv, hw⟩ := b4 t (by omega) h4
        exact ⟨v, List.mem_cons_of_mem _ hv, hw⟩
def allMoves (x : ShowT) : List MoveT := (List.range x.2.1.length).flatMap (movesOf x)
theorem allMoves_count {x : ShowT} (f : ShowFacts x) : ∀ u ∈ allMoves x, 1 ≤ u.2.2 ∧ u.2.2 ≤ 64 := by
  intro u hu
  unfold allMoves at hu
  rw [List.mem_flatMap] at hu
  obtain ⟨p, hp, hu⟩ := hu
  exact moves_count f (List.mem_range.1 hp) hu
def allIn' (x : ShowT) (s : Nat) : Bool := (allMoves x).all fun u => withinB u (s : Int)
def leastStep (x : ShowT) : Nat := upTo (allIn' x) 24 1
theorem least_eq {x : ShowT} (f : ShowFacts x) : (allMoves x).foldl stepUp 1 = leastStep x := by
  obtain ⟨a1, a2, a3, a4⟩ := fold_step (allMoves x) (allMoves_count f) 1 (by omega) (by omega)
  obtain ⟨b1, b2, b3, b4⟩ := upTo_spec (allIn' x) 24 1
  have e : leastStep x = upTo (allIn' x) 24 1 := rfl
  rw [← e] at b1 b2 b3 b4
  generalize (allMoves x).foldl stepUp 1 = r at a1 a2 a3 a4
  rcases Nat.lt_trichotomy r (leastStep x) with h | h | h
  · have := b4 r a1 h
    unfold allIn' at this
    rw [List.all_eq_true.2 (a3 (by omega))] at this
    cases this
  · exact h
  · obtain ⟨u, hu, hw⟩ := a4 (leastStep x) b1 h
    have := b3 (by omega)
    unfold allIn' at this
    rw [List.all_eq_true] at this
    rw [this u hu] at hw
    cases hw
def leastAns (x : ShowT) : Int × Bool := if 24 < leastStep x then (0, false) else ((leastStep x : Int), true)
theorem spec_LeastStepOf (x : ShowT) (h : lensOk x) : F_spec_LeastStepOf x = some (if okShow x then leastAns x else (0, false)) := by
  unfold F_spec_LeastStepOf
  rw [spec_swGood x h.1 h.2.1 h.2.2, Option.bind_some]
  cases hs : okShow x with
  | false => simp
  | true =>
    have f := facts hs
    have := f.n1
    have := f.nc
    rw [if_neg (by simp)]
    have hf := loopS (fun m (s : Nat) k => F_spec_LeastStepOf_L1 x m (s : Int) k) x.2.1.length (fun p s => (movesOf x p).foldl stepUp s) (fun s => (if (decide (24 < (s : Int))) = true then some (0, false) else some ((s : Int), true))) (by omega) (fun _ s => 1 ≤ s ∧ s ≤ 25) 1 ⟨by omega, by omega⟩
      (fun k s hk hi => by
        have := fold_step (movesOf x k) (fun u hu => moves_count f hk hu) s hi.1 hi.2
        exact ⟨by omega, this.2.1⟩) (fun m k s hk hi => ?_) (fun m s _ => ?_)
    · have e : (List.range x.2.1.length).foldl (fun s p => (movesOf x p).foldl stepUp s) 1 = leastStep x := by rw [← least_eq f, allMoves, List.foldl_flatMap]
      rw [e] at hf
      refine hf.1.trans ?_
      unfold leastAns
      by_cases hq : 24 < leastStep x
      · have : (24 : Int) < (leastStep x : Int) := by omega
        simp [hq, this]
      · have : ¬ (24 : Int) < (leastStep x : Int) := by omega
        simp [hq, this]
    · have hl := moves_len x f k hk
      rw [F_spec_LeastStepOf_L1, if_pos (by simp; omega), spec_swMoves x f k hk, Option.bind_some]
      have hg := loopS (fun m' (s : Nat) j => F_spec_LeastStepOf_L2 (movesOf x k) (F_spec_LeastStepOf_L1 x m) (k : Int) m' (s : Int) j) (movesOf x k).length (fun j s => match (movesOf x k)[j]? with | some u => stepUp s u | none => s)
        (fun s => F_spec_LeastStepOf_L1 x m (s : Int) ((k + 1 : Nat) : Int)) (by omega) (fun _ s => s ≤ 25) s hi.2 (fun j s hj hi => ?_) (fun m' j s hj hi => ?_) (fun m' s _ => ?_)
      · refine hg.1.trans ?_
        congr 2
        have key : ∀ (l : List MoveT) (s : Nat), (List.range l.length).foldl (fun s j => match l[j]? with | some u => stepUp s u | none => s) s = l.foldl stepUp s := by
          intro l
          induction l with
          | nil => intro s; rfl
          | cons v l ih =>
            intro s
            rw [List.length_cons, List.range_succ_eq_map, List.foldl_cons, List.foldl_map, List.foldl_cons]
            simpa using ih (stepUp s v)
        rw [key]
      · obtain ⟨u, hu⟩ : ∃ u, (movesOf x k)[j]? = some u := ⟨_, List.getElem?_eq_getElem hj⟩
        rw [hu]
        have := upTo_spec (fun t => withinB u (t : Int)) (25 - s) s
        show stepUp s u ≤ 25
        unfold stepUp
        omega
      · obtain ⟨u, hu⟩ : ∃ u, (movesOf x k)[j]? = some u := ⟨_, List.getElem?_eq_getElem hj⟩
        rw [F_spec_LeastStepOf_L2, if_pos (by simp; omega), idx_nat, hu, Option.bind_some, loopUp (F_spec_LeastStepOf_L3 (F_spec_LeastStepOf_L2 (movesOf x k) (F_spec_LeastStepOf_L1 x m) (k : Int) m') (j : Int) u) 25 (fun t => withinB u (t : Int))
          (fun y => F_spec_LeastStepOf_L2 (movesOf x k) (F_spec_LeastStepOf_L1 x m) (k : Int) m' y (w64 ((j : Int) + 1))) s (by omega) (fun m'' a _ ha => ?_) (fun m'' => ?_) hi, w64_succ (k := j) (by omega)]
        · rfl
        · rw [F_spec_LeastStepOf_L3]
          unfold jK1
          dsimp only
          rw [if_pos (by simp; omega), spec_mvWithin, Option.bind_some, w64_succ (k := a) (by omega)]
          cases withinB u (a : Int) <;> simp
        · rw [F_spec_LeastStepOf_L3]
          unfold jK1
          dsimp only
          rw [if_neg (by simp)]
          rfl
      · rw [F_spec_LeastStepOf_L2, if_neg (by simp), w64_succ (by omega)]
    · rw [F_spec_LeastStepOf_L1, if_neg (by simp)]
/-- The wide steps of a part. -/
def wideAt (x : ShowT) (p k : Nat) : Bool := match (movesOf x p)[k]? with
  | some u => !withinB u x.2.2.2
  | none => false
def widesOf (x : ShowT) (p : Nat) : List Int := filt (wideAt x p) (movesOf x p).length
theorem impl_wideSteps (x : ShowT) (f : ShowFacts x) (p : Nat) (hp : p < x.2.1.length) : F_impl_wideSteps x (p : Int) = some (widesOf x p) := by
  have hl := moves_len x f p hp
  unfold F_impl_wideSteps
  rw [impl_showMoves x f p hp, Option.bind_some, loopFilter (F_impl_wideSteps_L1 (movesOf x p) x) (movesOf x p).length (wideAt x p) some (by omega) (fun m s k hk hs => ?_) (fun m s => ?_)]
  · rfl
  · obtain ⟨u, hu⟩ : ∃ u, (movesOf x p)[k]? = some u := ⟨_, List.getElem?_eq_getElem hk⟩
    have e : wideAt x p k = !withinB u x.2.2.2 := by unfold wideAt; rw [hu]
    rw [F_impl_wideSteps_L1, if_pos (by simp; omega), e]
    unfold jK1
    dsimp only
    rw [idx_nat, hu, Option.bind_some, impl_withinStep, Option.bind_some, app_ok (by simp; omega), w64_succ (by omega)]
    cases withinB u x.2.2.2 <;> simp
  · rw [F_impl_wideSteps_L1, if_neg (by simp)]
theorem wides_none (x : ShowT) (p : Nat) : decide (0 < ((widesOf x p).length : Int)) = !(movesOf x p).all (fun u => withinB u x.2.2.2) := by
  rw [Bool.eq_iff_iff, decide_eq_true_eq, Bool.not_eq_true', List.all_eq_false]
  constructor
  · intro h
    have hn : widesOf x p ≠ [] := fun e => by rw [e] at h; simp at h
    by_cases hc : ∃ u ∈ movesOf x p, ¬withinB u x.2.2.2 = true
    · exact hc
    · exact absurd (filt_nil.2 fun k hk => by
        unfold wideAt
        rw [List.getElem?_eq_getElem hk]
        have := not_exists.1 hc (movesOf x p)[k]
        simp only [List.getElem_mem, true_and, Decidable.not_not] at this
        simp [this]) hn
  · intro ⟨u, hu, hw⟩
    obtain ⟨k, hk⟩ := List.getElem?_of_mem hu
    have hn : widesOf x p ≠ [] := fun e => by
      have := filt_nil.1 e k (List.getElem?_eq_some_iff.1 hk).1
      unfold wideAt at this
      rw [hk] at this
      simp at this
      exact hw this
    have := List.length_pos_iff.2 hn
    omega
theorem impl_LeastStepOf (x : ShowT) (h : lensOk x) : F_impl_LeastStepOf x = some (if okShow x then leastAns x else (0, false)) := by
  unfold F_impl_LeastStepOf
  rw [impl_IsShow x h.1 h.2.1 h.2.2, Option.bind_some]
  cases hs : okShow x with
  | false => simp
  | true =>
    have f := facts hs
    have := f.n1
    have := f.nc
    rw [if_neg (by simp), show (1 : Int) = ((1 : Nat) : Int) from rfl, loopUp (F_impl_LeastStepOf_L1 x) 25 (allIn' x) (fun y => if decide (24 < y) = true then some (0, false) else some (y, true)) 1 (by omega) (fun m a ha1 ha => ?_) (fun m => ?_) (by omega)]
    · have e : upTo (allIn' x) (25 - 1) 1 = leastStep x := rfl
      rw [e]
      unfold leastAns
      by_cases hq : 24 < leastStep x
      · have : (24 : Int) < (leastStep x : Int) := by omega
        simp [hq, this]
      · have : ¬ (24 : Int) < (leastStep x : Int) := by omega
        simp [hq, this]
    · rw [F_impl_LeastStepOf_L1, if_pos (by simp; omega)]
      have hg := loopS (fun m' (b : Bool) k => F_impl_LeastStepOf_L2 x (a : Int) (F_impl_LeastStepOf_L1 x m) m' b k) x.2.1.length (fun p b => b || !(movesOf x p).all (fun u => withinB u (a : Int)))
        (fun b => if (!b) = true then some ((a : Int), true) else F_impl_LeastStepOf_L1 x m (w64 ((a : Int) + 1))) (by omega) (fun _ _ => True) false trivial (fun _ _ _ _ => trivial) (fun m' k b hk _ => ?_) (fun m' b _ => ?_)
      · refine hg.1.trans ?_
        have e : (List.range x.2.1.length).foldl (fun b p => b || !(movesOf x p).all (fun u => withinB u (a : Int))) false = !allIn' x a := by
          unfold allIn' allMoves
          rw [List.all_flatMap]
          have key : ∀ (l : List Nat) (b : Bool), l.foldl (fun b p => b || !(movesOf x p).all (fun u => withinB u (a : Int))) b = (b || !l.all (fun p => (movesOf x p).all (fun u => withinB u (a : Int)))) := by
            intro l
            induction l with
            | nil => intro b; simp
            | cons p l ih => intro b; rw [List.foldl_cons, ih, List.all_cons, Bool.not_and, Bool.or_assoc]
          rw [key]
          simp
        rw [e, w64_succ (by omega)]
        have : ¬ (24 : Int) < (a : Int) := by omega
        cases allIn' x a <;> simp [this]
      · rw [F_impl_LeastStepOf_L2, if_pos (by simp; omega)]
        unfold jK1
        dsimp only
        rw [w64_succ (k := k) (by omega)]
        cases b with
        | true => simp
        | false =>
          have f' : ShowFacts (x.1, x.2.1, x.2.2.1, (a : Int)) := ⟨f.n0, f.n1, f.nc, f.ch, f.cl, f.ce, f.cn, f.le, ⟨by show 1 ≤ (a : Int); omega, by show (a : Int) ≤ 24; omega⟩⟩
          rw [if_neg (by simp), impl_wideSteps (x.1, x.2.1, x.2.2.1, (a : Int)) f' k hk, Option.bind_some, wides_none]
          rfl
      · rw [F_impl_LeastStepOf_L2, if_neg (by simp)]
    · rw [F_impl_LeastStepOf_L1, if_neg (by simp)]
      simp
end Go.Proofs.Ytmkignciedkidaa
/-
  PARTS OF A SHOW, PLAIN: moves, wide steps.
-/
set_option linter.unusedSimpArgs false
set_option linter.unusedVariables false
namespace Go.Proofs.Ytmkignciedkidaa
open Go
def okPart (x : ShowT) (p : Int) : Bool := okShow x && okIn p 0 ((x.2.1.length : Int) - 1)
theorem spec_swHas (x : ShowT) (p : Int) (h : lensOk x) : F_spec_swHas x p = some (okPart x p) := by
  unfold F_spec_swHas jK1 okPart
  have := h.2.2
  dsimp only
  rw [spec_swGood x h.1 h.2.1 h.2.2, Option.bind_some, w64_eq (by omega) (by omega), spec_l1In, Option.bind_some]
  cases okShow x <;> simp
theorem impl_isPart (x : ShowT) (p : Int) (h : lensOk x) : F_impl_isPart x p = some (okPart x p) := by
  unfold F_impl_isPart jK1 okPart
  have := h.2.2
  dsimp only
  rw [impl_IsShow x h.1 h.2.1 h.2.2, Option.bind_some, w64_eq (by omega) (by omega), impl_within, Option.bind_some]
  cases okShow x <;> simp
theorem part_of {x : ShowT} {p : Int} (h : okPart x p = true) : ShowFacts x ∧ p = ((p.toNat : Nat) : Int) ∧ p.toNat < x.2.1.length := by
  unfold okPart at h
  rw [Bool.and_eq_true, okIn_iff] at h
  exact ⟨facts h.1, by omega, by omega⟩
theorem spec_swWide (x : ShowT) (f : ShowFacts x) (p : Nat) (hp : p < x.2.1.length) : F_spec_swWide x (p : Int) = some (widesOf x p) := by
  have hl := moves_len x f p hp
  unfold F_spec_swWide widesOf
  rw [spec_swMoves x f p hp, Option.bind_some, loopFilter (F_spec_swWide_L1 (movesOf x p) x) (movesOf x p).length (wideAt x p) some (by omega) (fun m s k hk hs => ?_) (fun m s => ?_)]
  · obtain ⟨u, hu⟩ : ∃ u, (movesOf x p)[k]? = some u := ⟨_, List.getElem?_eq_getElem hk⟩
    have e : wideAt x p k = !withinB u x.2.2.2 := by unfold wideAt; rw [hu]
    rw [F_spec_swWide_L1, if_pos (by simp; omega), e]
    unfold jK1
    dsimp only
    rw [idx_nat, hu, Option.bind_some, spec_mvWithin, Option.bind_some, app_ok (by simp; omega), w64_succ (by omega)]
    cases withinB u x.2.2.2 <;> simp
  · rw [F_spec_swWide_L1, if_neg (by simp)]
def wideAns (x : ShowT) (p : Int) : List Int × Bool := if okPart x p then (widesOf x p.toNat, true) else ([], false)
theorem spec_WideSteps (x : ShowT) (p : Int) (h : lensOk x) : F_spec_WideSteps x p = some (wideAns x p) := by
  unfold F_spec_WideSteps wideAns
  rw [spec_swHas x p h, Option.bind_some]
  cases hp : okPart x p with
  | false => simp
  | true =>
    obtain ⟨f, e, hlt⟩ := part_of hp
    simp only [Bool.not_true, Bool.false_eq_true, if_false, if_true]
    rw [e, Int.toNat_natCast, spec_swWide x f _ hlt]
    rfl
theorem impl_WideSteps (x : ShowT) (p : Int) (h : lensOk x) : F_impl_WideSteps x p = some (wideAns x p) := by
  unfold F_impl_WideSteps wideAns
  rw [impl_isPart x p h, Option.bind_some]
  cases hp : okPart x p with
  | false => simp
  | true =>
    obtain ⟨f, e, hlt⟩ := part_of hp
    simp only [Bool.not_true, Bool.false_eq_true, if_false, if_true]
    rw [e, Int.toNat_natCast, impl_wideSteps x f _ hlt]
    rfl
theorem wideAns_len (x : ShowT) (p : Int) : (wideAns x p).1.length ≤ 12 := by
  unfold wideAns
  cases hp : okPart x p with
  | false => simp
  | true =>
    obtain ⟨f, e, hlt⟩ := part_of hp
    exact Nat.le_trans (filt_len _ _) (moves_len x f _ hlt)
end Go.Proofs.Ytmkignciedkidaa
/-
  COPIES OF SHOWS, PLAIN; charts added, counts stretched.
-/
set_option linter.unusedSimpArgs false
set_option linter.unusedVariables false
namespace Go.Proofs.Ytmkignciedkidaa
open Go
theorem spec_chOwn (c : List (Int × Int)) (h : c.length ≤ 1048576) : F_spec_chOwn c = some c := by
  unfold F_spec_chOwn
  rw [app_ok (by simp; omega)]
  rfl
theorem spec_l1Own (c : List Int) (h : c.length ≤ 1048576) : F_spec_l1Own c = some c := by
  unfold F_spec_l1Own
  rw [app_ok (by simp; omega)]
  rfl
def stretched (x : ShowT) (p n : Int) : ShowT := (x.1, seti x.2.1 p n, x.2.2.1, x.2.2.2)
end Go.Proofs.Ytmkignciedkidaa
/-
  DRAWN SHOWS, PLAIN: they are there and short.
-/
set_option linter.unusedSimpArgs false
set_option linter.unusedVariables false
namespace Go.Proofs.Ytmkignciedkidaa
open Go
theorem app_tot' {α β : Type} {l m : List α} {f : List α → Option β} {Q : β → Prop} (h : l.length + m.length ≤ 1073741824) (hf : Tot (f (l ++ m)) Q) : Tot (Option.bind (app l m) f) Q := Tot.bindE (app_ok h) hf
theorem seti_len' {α : Type} (l : List α) (i : Int) (x : α) : (seti l i x).length = l.length := by unfold seti; simp
theorem spot_draw (x : Cur) {m : Int} (h : Cu x.1 m x.2.1) (hm : 12 ≤ m) : Tot (F_spec_l1Cur__spot__mut__box x) (Pk x.1 (m - 12) fun _ => True) := by
  unfold F_spec_l1Cur__spot__mut__box
  refine Tot.bind (pick_ok x _ h (by omega)) fun u1 h1 => ?_
  refine Tot.bind (pick_ok (x.1, u1.2.2.1, u1.2.2.2) _ h1.2.2 (by omega)) fun u2 h2 => ?_
  refine Tot.bind (amongT (x.1, u2.2.2.1, u2.2.2.2) _ h2.2.2 (by show 2 ≤ m - 2 - 2; omega) (by simp)) fun u3 h3 => ?_
  refine Tot.bind (pick_ok (x.1, u3.2.2.1, u3.2.2.2) _ h3.2.2 (by show 2 ≤ m - 2 - 2 - 2; omega)) fun u4 h4 => ?_
  refine Tot.bind (pick_ok (x.1, u4.2.2.1, u4.2.2.2) _ h4.2.2 (by show 2 ≤ m - 2 - 2 - 2 - 2; omega)) fun u5 h5 => ?_
  refine Tot.bind (amongT (x.1, u5.2.2.1, u5.2.2.2) _ h5.2.2 (by show 2 ≤ m - 2 - 2 - 2 - 2 - 2; omega) (by simp)) fun u6 h6 => ?_
  exact Tot.some ⟨trivial, rfl, h6.2.2.mono (by omega) (by show m - 12 ≤ m - 2 - 2 - 2 - 2 - 2 - 2; omega)⟩
theorem chFind_ok (l : List (Int × Int)) (s : Int × Int) (hl : l.length < 4611686018427387904) : ∃ r, F_spec_chFind l s = some r ∧ (decide (r < 0) = true ↔ s ∉ l) := by
  unfold F_spec_chFind
  have h := loopFind (F_spec_chFind_L1 l s) l (fun u => !eqv_Spot u s) (fun k => if k < l.length then some (k : Int) else some (-1)) hl (fun m k u hk hu hq => ?_) (fun m k u hk hu hq => ?_) (fun m => ?_)
  · rw [h]
    by_cases hlt : (l.takeWhile fun u => !eqv_Spot u s).length < l.length
    · rw [if_pos hlt]
      refine ⟨_, rfl, ?_⟩
      have : ¬ ((l.takeWhile fun u => !eqv_Spot u s).length : Int) < 0 := by omega
      simp only [this, decide_false, Bool.false_eq_true, false_iff, Classical.not_not]
      have key : ∀ (l : List (Int × Int)), (l.takeWhile fun u => !eqv_Spot u s).length < l.length → s ∈ l := by
        intro l
        induction l with
        | nil => intro h; simp at h
        | cons u l ih =>
          intro h
          cases hu : eqv_Spot u s with
          | true =>
            have : u = s := by
              unfold eqv_Spot at hu
              simp at hu
              exact Prod.ext hu.1 hu.2
            rw [this]; simp
          | false =>
            rw [List.takeWhile_cons_of_pos (by simp [hu])] at h
            exact List.mem_cons_of_mem _ (ih (by simpa using h))
      exact key l hlt
    · rw [if_neg hlt]
      refine ⟨_, rfl, ?_⟩
      simp only [show decide ((-1 : Int) < 0) = true by decide, true_iff]
      have key : ∀ (l : List (Int × Int)), ¬ (l.takeWhile fun u => !eqv_Spot u s).length < l.length → s ∉ l := by
        intro l
        induction l with
        | nil => intro _ h; simp at h
        | cons u l ih =>
          intro h hs
          cases hu : eqv_Spot u s with
          | true =>
            rw [List.takeWhile_cons_of_neg (by simp [hu])] at h
            simp at h
          | false =>
            rw [List.takeWhile_cons_of_pos (by simp [hu])] at h
            rcases List.mem_cons.1 hs with rfl | hs
            · simp [eqv_Spot] at hu
            · exact ih (by simpa using h) hs
      exact key l hlt
  · rw [F_spec_chFind_L1, if_pos (by simp; omega), idx_nat, hu, Option.bind_some, if_neg (by simpa using hq), w64_succ (by omega)]
  · rw [F_spec_chFind_L1, if_pos (by simp; omega), idx_nat, hu, Option.bind_some, if_pos (by simpa using hq), if_pos hk]
  · rw [F_spec_chFind_L1, if_neg (by simp)]
    simp
/-- How many spots are as far to the back as a later try. -/
def later (t : Int) : List (Int × Int) → Nat
  | [] => 0
  | e :: l => (if 7 + t ≤ e.2 then 1 else 0) + later t l
theorem later_le (t : Int) : ∀ l, later (t + 1) l ≤ later t l
  | [] => Nat.le_refl _
  | e :: l => by
    have := later_le t l
    unfold later
    split <;> split <;> omega
theorem later_mem (t a : Int) : ∀ l, (a, 7 + t) ∈ l → later (t + 1) l + 1 ≤ later t l
  | [], h => by cases h
  | e :: l, h => by
    have h2 := later_le t l
    unfold later
    rcases List.mem_cons.1 h with h | h
    · subst h
      rw [if_neg (by show ¬ 7 + (t + 1) ≤ 7 + t; omega), if_pos (by show 7 + t ≤ 7 + t; omega)]
      omega
    · have := later_mem t a l h
      split <;> split <;> omega
theorem later_app (t : Int) (e : Int × Int) : ∀ l, later t (l ++ [e]) ≤ later t l + 1 ∧ (e.2 < 7 + t → later t (l ++ [e]) = later t l)
  | [] => by
    simp only [List.nil_append, later]
    constructor
    · split <;> omega
    · intro h; rw [if_neg (by omega)]
  | d :: l => by
    have h1 := (later_app t e l).1
    have h2 := (later_app t e l).2
    simp only [List.cons_append, later]
    constructor
    · omega
    · intro h; rw [h2 h]
theorem least_tot {α : Type} {a b : Int} {f : Int → Option α} {Q : α → Prop} (h : ∀ v, Tot (f v) Q) : Tot (Option.bind (F_spec_l1Least a b) f) Q := by
  unfold F_spec_l1Least
  split <;> exact Tot.bindE rfl (h _)
def tries (n : Int) (t : Int) (l : List (Int × Int)) : Nat := 2 * (n - l.length).toNat + later t l + (61 - t).toNat
theorem chartOf_ok (x : Cur) (n : Int) (hn : n ≤ 13) {m : Int} (h : Cu x.1 m x.2.1) (hm : 2000 ≤ m) : Tot (F_spec_l1Cur__chartOf__mut__box x n) (Pk x.1 (m - 2000) fun l => l.length ≤ 13 ∧ n ≤ l.length) := by
  unfold F_spec_l1Cur__chartOf__mut__box
  refine Tot.loop (fun k (s : Int × Int × List (Int × Int) × Int) => F_spec_l1Cur__chartOf__mut__box_L1 n x k s.1 s.2.1 s.2.2.1 s.2.2.2) (fun s => tries n s.2.2.2 s.2.2.1)
    (fun s => s.2.2.1.length ≤ 13 ∧ 0 ≤ s.2.2.2 ∧ s.2.2.2 + tries n s.2.2.2 s.2.2.1 ≤ 87 ∧ Cu x.1 (m - 20 * s.2.2.2) s.1) (Pk x.1 (m - 2000) fun l => l.length ≤ 13 ∧ n ≤ l.length)
    (fun k s hs ih => ?_) FU (x.2.1, x.2.2, [], 0) ⟨by simp, by simp, by simp [tries, later]; omega, by simpa using h⟩ (by show _ < (4611686018427387904 : Nat); simp [tries, later]; omega)
  obtain ⟨a, sd, l, t⟩ := s
  obtain ⟨hl, ht0, ht, hc⟩ := hs
  dsimp only at hl ht0 ht hc ih ⊢
  rw [F_spec_l1Cur__chartOf__mut__box_L1]
  refine Tot.ite (fun hlt => ?_) fun hge => Tot.some ⟨by simp at hge; show l.length ≤ 13 ∧ n ≤ l.length; omega, rfl, hc.mono (by omega) (by omega)⟩
  have hlt' : (l.length : Int) < n := by simpa using hlt
  have et : w64 (t + 1) = t + 1 := w64_eq (by omega) (by omega)
  -- one more try
  have go : ∀ (y52 y53 y54 y55 : Int), Cu x.1 (m - 20 * (t + 1)) y52 →
      Tot (jK2 (fun (y62 : Int) (y63 : Int) => Option.bind (F_spec_chFind l (y62, y63)) fun u67 => (if (decide (u67 < 0)) = true then Option.bind (app l [(y62, y63)]) fun u80 => (F_spec_l1Cur__chartOf__mut__box_L1 n x k) (y52) (y53) (u80) ((w64 (t + 1))) else (F_spec_l1Cur__chartOf__mut__box_L1 n x k) (y52) (y53) (l) ((w64 (t + 1)))))
        (fun k64 => (if (decide (60 < t)) = true then k64 ((w64 (3 * (List.length l : Int)))) ((w64 (7 + t))) else k64 (y54) (y55)))) (Pk x.1 (m - 2000) fun l => l.length ≤ 13 ∧ n ≤ l.length) := by
    intro a s y54 y55 hc2
    unfold jK2
    dsimp only
    rw [et]
    have hll := later_le t l
    have no : (60 < t → ∃ b, (b, 7 + t) ∈ l) → Tot (F_spec_l1Cur__chartOf__mut__box_L1 n x k a s l (t + 1)) (Pk x.1 (m - 2000) fun l => l.length ≤ 13 ∧ n ≤ l.length) := by
      intro hb
      have hμ : tries n (t + 1) l + 1 ≤ tries n t l := by
        unfold tries
        by_cases h60 : 60 < t
        · obtain ⟨b, hb⟩ := hb h60
          have := later_mem t b l hb
          omega
        · omega
      exact ih (a, s, l, t + 1) ⟨hl, by show 0 ≤ t + 1; omega, by show t + 1 + (tries n (t + 1) l : Int) ≤ 87; omega, hc2⟩ (by show tries n (t + 1) l < tries n t l; omega)
    have yes : ∀ e : Int × Int, (60 < t → e.2 = 7 + t) → Tot (F_spec_l1Cur__chartOf__mut__box_L1 n x k a s (l ++ [e]) (t + 1)) (Pk x.1 (m - 2000) fun l => l.length ≤ 13 ∧ n ≤ l.length) := by
      intro e he
      have hla := later_app (t + 1) e l
      have hμ : tries n (t + 1) (l ++ [e]) + 1 ≤ tries n t l := by
        unfold tries
        rw [List.length_append]
        simp only [List.length_cons, List.length_nil]
        by_cases h60 : 60 < t
        · have := hla.2 (by rw [he h60]; omega)
          omega
        · have := hla.1
          omega
      exact ih (a, s, l ++ [e], t + 1) ⟨by simp; omega, by show 0 ≤ t + 1; omega, by show t + 1 + (tries n (t + 1) (l ++ [e]) : Int) ≤ 87; omega, hc2⟩ (by show tries n (t + 1) (l ++ [e]) < tries n t l; omega)
    refine Tot.ite (fun h60 => ?_) fun h60 => ?_
    · have h60' : 60 < t := by simpa using h60
      rw [w64_eq (x := 3 * (l.length : Int)) (by omega) (by omega), w64_eq (x := 7 + t) (by omega) (by omega)]
      obtain ⟨r, hr, hr2⟩ := chFind_ok l (3 * (l.length : Int), 7 + t) (by omega)
      refine Tot.bindE hr (Tot.ite (fun hq => app_tot' (by simp; omega) (yes _ fun _ => rfl)) fun hq => no fun _ => ⟨3 * (l.length : Int), ?_⟩)
      by_cases hn : (3 * (l.length : Int), 7 + t) ∈ l
      · exact hn
      · rw [hr2.2 hn] at hq
        cases hq
    · have h60' : ¬ 60 < t := by simpa using h60
      obtain ⟨r, hr, hr2⟩ := chFind_ok l (y54, y55) (by omega)
      exact Tot.bindE hr (Tot.ite (fun hq => app_tot' (by simp; omega) (yes _ fun h => absurd h h60')) fun hq => no fun h => absurd h h60')
  unfold jK3 jK4
  dsimp only
  refine Tot.bind (spot_draw (x.1, a, sd) hc (by omega)) fun u33 h33 => ?_
  have c33 : Cu x.1 (m - 20 * t - 12) u33.2.2.1 := h33.2.2
  refine Tot.ite (fun hpos => ?_) fun _ => ?_
  · refine Tot.bind (one_ok (x.1, u33.2.2.1, u33.2.2.2) _ c33 (by omega)) fun u350 h350 => ?_
    have c350 : Cu x.1 (m - 20 * t - 14) u350.2.2.1 := h350.2.2.mono (by omega) (by show _ ≤ m - 20 * t - 12 - 2; omega)
    refine Tot.ite (fun _ => ?_) fun _ => go _ _ _ _ (c350.mono (by omega) (by omega))
    refine Tot.bind (pick_ok (x.1, u350.2.2.1, u350.2.2.2) _ c350 (by omega)) fun u104 h104 => ?_
    obtain ⟨v, hv, hmem, _⟩ := idx_pick l (fun e => by rw [e] at hpos; simp at hpos) h104.1
    refine Tot.bindE hv ?_
    refine Tot.bind (amongT (x.1, u104.2.2.1, u104.2.2.2) _ h104.2.2 (by show 2 ≤ m - 20 * t - 14 - 2; omega) (by simp)) fun u140 h140 => least_tot fun w1 => ?_
    refine Tot.bind (amongT (x.1, u140.2.2.1, u140.2.2.2) _ h140.2.2 (by show 2 ≤ m - 20 * t - 14 - 2 - 2; omega) (by simp)) fun u168 h168 => least_tot fun w2 => ?_
    exact go _ _ _ _ (h168.2.2.mono (by omega) (by show _ ≤ m - 20 * t - 14 - 2 - 2 - 2; omega))
  · rw [if_neg (by simp)]
    exact go _ _ _ _ (c33.mono (by omega) (by omega))
theorem chart_draw (x : Cur) {m : Int} (h : Cu x.1 m x.2.1) (hm : 2010 ≤ m) : Tot (F_spec_l1Cur__chart__mut__box x) (Pk x.1 (m - 2010) fun l => l.length ≤ 13 ∧ 1 ≤ l.length) := by
  unfold F_spec_l1Cur__chart__mut__box
  refine Tot.bind (one_ok x _ h (by omega)) fun u4 h4 => Tot.ite (fun _ => ?_) fun _ => ?_
  · refine Tot.bind (chartOf_ok (x.1, u4.2.2.1, u4.2.2.2) 12 (by omega) h4.2.2 (by show 2000 ≤ m - 2; omega)) fun u hu => ?_
    have hu1 := hu.1
    exact Tot.some ⟨by show u.1.length ≤ 13 ∧ 1 ≤ u.1.length; omega, rfl, hu.2.2.mono (by omega) (by show _ ≤ m - 2 - 2000; omega)⟩
  · refine Tot.bind (pick_ok (x.1, u4.2.2.1, u4.2.2.2) _ h4.2.2 (by omega)) fun u21 h21 => ?_
    have h21' := h21.1
    refine Tot.bind (chartOf_ok (x.1, u21.2.2.1, u21.2.2.2) _ (by rw [w64_eq (by omega) (by omega)]; omega) h21.2.2 (by show 2000 ≤ m - 2 - 2; omega)) fun u hu => ?_
    have hu1 := hu.1
    rw [w64_eq (by omega) (by omega)] at hu1
    exact Tot.some ⟨by show u.1.length ≤ 13 ∧ 1 ≤ u.1.length; omega, rfl, hu.2.2.mono (by omega) (by show _ ≤ m - 2 - 2 - 2000; omega)⟩
theorem anySpot_draw (x : Cur) {m : Int} (h : Cu x.1 m x.2.1) (hm : 20 ≤ m) : Tot (F_spec_l1Cur__anySpot__mut__box x) (Pk x.1 (m - 20) fun _ => True) := by
  unfold F_spec_l1Cur__anySpot__mut__box jK4
  dsimp only
  refine Tot.bind (spot_draw x h (by omega)) fun u8 h8 => ?_
  refine Tot.bind (pick_ok (x.1, u8.2.2.1, u8.2.2.2) _ h8.2.2 (by omega)) fun u39 h39 => ?_
  have c39 : Cu x.1 (m - 14) u39.2.2.1 := h39.2.2.mono (by omega) (by show _ ≤ m - 12 - 2; omega)
  refine Tot.ite (fun _ => ?_) fun _ => Tot.ite (fun _ => ?_) fun _ => Tot.some ⟨trivial, rfl, c39.mono (by omega) (by omega)⟩
  · exact Tot.bind (amongT (x.1, u39.2.2.1, u39.2.2.2) _ c39 (by omega) (by simp)) fun u hu => Tot.some ⟨trivial, rfl, hu.2.2.mono (by omega) (by show _ ≤ m - 14 - 2; omega)⟩
  · exact Tot.bind (amongT (x.1, u39.2.2.1, u39.2.2.2) _ c39 (by omega) (by simp)) fun u hu => Tot.some ⟨trivial, rfl, hu.2.2.mono (by omega) (by show _ ≤ m - 14 - 2; omega)⟩
theorem anyChart_draw (x : Cur) {m : Int} (h : Cu x.1 m x.2.1) (hm : 5000 ≤ m) : Tot (F_spec_l1Cur__anyChart__mut__box x) (Pk x.1 (m - 5000) fun l => l.length ≤ 13) := by
  unfold F_spec_l1Cur__anyChart__mut__box jK3
  dsimp only
  refine Tot.bind (chart_draw x h (by omega)) fun u3 h3 => ?_
  have h31 := h3.1
  refine Tot.bind (pick_ok (x.1, u3.2.2.1, u3.2.2.2) _ h3.2.2 (by omega)) fun u12 h12 => ?_
  obtain ⟨v, hv, hmem, _⟩ := idx_pick u3.1 (fun e => by rw [e] at h31; simp at h31) h12.1
  refine Tot.bind (pick_ok (x.1, u12.2.2.1, u12.2.2.2) _ h12.2.2 (by show 2 ≤ m - 2010 - 2; omega)) fun u31 h31b => ?_
  have c31 : Cu x.1 (m - 2020) u31.2.2.1 := h31b.2.2.mono (by omega) (by show _ ≤ m - 2010 - 2 - 2; omega)
  have fin : ∀ (a s : Int) (l : List (Int × Int)), l.length ≤ 13 → Cu x.1 (m - 5000) a → Tot (some (l, (x.1, a, s))) (Pk x.1 (m - 5000) fun l => l.length ≤ 13) := fun a s l h1 h2 => Tot.some ⟨h1, rfl, h2⟩
  refine Tot.ite (fun _ => ?_) fun _ => Tot.ite (fun _ => ?_) fun _ => Tot.ite (fun _ => ?_) fun _ => Tot.ite (fun _ => ?_) fun _ => ?_
  · refine Tot.bind (anySpot_draw (x.1, u31.2.2.1, u31.2.2.2) c31 (by omega)) fun u hu => Tot.bindE hv (fin _ _ _ (by rw [seti_len']; omega) (hu.2.2.mono (by omega) (by show _ ≤ m - 2020 - 20; omega)))
  · have h0 : idx u3.1 0 = some u3.1[0] := by rw [idx_zero]; exact List.getElem?_eq_getElem (by omega)
    exact Tot.bindE h0 (Tot.bindE hv (fin _ _ _ (by rw [seti_len']; omega) (c31.mono (by omega) (by omega))))
  · exact fin _ _ _ (by simp) (c31.mono (by omega) (by omega))
  · refine Tot.bind (chartOf_ok (x.1, u31.2.2.1, u31.2.2.2) 13 (by omega) c31 (by omega)) fun u hu => fin _ _ _ hu.1.1 (hu.2.2.mono (by omega) (by show _ ≤ m - 2020 - 2000; omega))
  · exact fin _ _ _ (by omega) (c31.mono (by omega) (by omega))
/-- What drawn shows are. -/
def shortShow (s : ShowT) : Prop := s.1.length ≤ 9 ∧ (∀ c ∈ s.1, c.length ≤ 13) ∧ s.2.1.length ≤ 9
theorem shortShow.lens {s : ShowT} (h : shortShow s) : lensOk s := ⟨by have := h.1; omega, fun c hc => by have := h.2.1 c hc; omega, by have := h.2.2; omega⟩
theorem show_draw (x : Cur) {m : Int} (h : Cu x.1 m x.2.1) (hm : 50000 ≤ m) : Tot (F_spec_l1Cur__show__mut__box x) (Pk x.1 (m - 50000) shortShow) := by
  unfold F_spec_l1Cur__show__mut__box
  refine Tot.bind (pick_ok x _ h (by omega)) fun u8 h8 => ?_
  have h81 := h8.1
  have e8 : w64 (1 + u8.1) = 1 + u8.1 := w64_eq (by omega) (by omega)
  refine Tot.bind (chartOf_ok (x.1, u8.2.2.1, u8.2.2.2) _ (by rw [e8]; omega) h8.2.2 (by omega)) fun u15 h15 => ?_
  refine Tot.bind (amongT (x.1, u15.2.2.1, u15.2.2.2) _ h15.2.2 (by show 2 ≤ m - 2 - 2000; omega) (by simp)) fun u38 h38 => ?_
  refine Tot.bind (amongT (x.1, u38.2.2.1, u38.2.2.2) _ h38.2.2 (by show 2 ≤ m - 2 - 2000 - 2; omega) (by simp)) fun u50 h50 => ?_
  refine Tot.bind (pick_ok (x.1, u50.2.2.1, u50.2.2.2) _ h50.2.2 (by show 2 ≤ m - 2 - 2000 - 2 - 2; omega)) fun u66 h66 => ?_
  have h661 := h66.1
  have c66 : Cu x.1 (m - 2010) u66.2.2.1 := h66.2.2.mono (by omega) (by show _ ≤ m - 2 - 2000 - 2 - 2 - 2; omega)
  have loop : ∀ (a s many : Int), Cu x.1 (m - 2020) a → 2 ≤ many → many ≤ 9 → Tot (F_spec_l1Cur__show__mut__box_L1 many x u8 u50 u38 FU a s ([u15.1]) ([])) (Pk x.1 (m - 50000) shortShow) := by
    intro a0 s0 many ha hm1 hm2
    have h151 := h15.1
    refine Tot.loop (fun k (s : Int × Int × List (List (Int × Int)) × List Int) => F_spec_l1Cur__show__mut__box_L1 many x u8 u50 u38 k s.1 s.2.1 s.2.2.1 s.2.2.2) (fun s => 10 - s.2.2.1.length)
      (fun s => 1 ≤ s.2.2.1.length ∧ s.2.2.1.length ≤ 9 ∧ (∀ c ∈ s.2.2.1, c.length ≤ 13) ∧ s.2.2.2.length + 1 = s.2.2.1.length ∧ Cu x.1 (m - 3000 * s.2.2.1.length) s.1) (Pk x.1 (m - 50000) shortShow)
      (fun k s hs ih => ?_) FU (a0, s0, [u15.1], []) ⟨by simp, by simp, fun c hc => by rw [List.mem_singleton.1 hc]; exact h151.1, by simp, ha.mono (by show 0 ≤ m - 3000 * (1 : Int); omega) (by show m - 3000 * (1 : Int) ≤ m - 2020; omega)⟩ (by show _ < (4611686018427387904 : Nat); simp)
    obtain ⟨a, sd, l, ns⟩ := s
    obtain ⟨hl1, hl9, hlc, hns, hc⟩ := hs
    dsimp only at hl1 hl9 hlc hns hc ih ⊢
    rw [F_spec_l1Cur__show__mut__box_L1]
    have elast : idx l (w64 ((l.length : Int) - 1)) = some l[l.length - 1] := by
      rw [w64_eq (by omega) (by omega), idx_int (by omega), show ((l.length : Int) - 1).toNat = l.length - 1 by omega]
      exact List.getElem?_eq_getElem (by omega)
    have hlast : l[l.length - 1].length ≤ 13 := hlc _ (List.getElem_mem _)
    refine Tot.ite (fun hlt => ?_) fun hge => ?_
    · have hlt' : (l.length : Int) < many := by simpa using hlt
      refine Tot.bindE elast ?_
      refine Tot.bind (chartOf_ok (x.1, a, sd) _ (by rw [e8]; omega) hc (by omega)) fun u108 h108 => ?_
      have c108 : Cu x.1 (m - 3000 * l.length - 2000) u108.2.2.1 := h108.2.2
      have more : ∀ (a s : Int) (nl : List (Int × Int)), nl.length ≤ 13 → Cu x.1 (m - 3000 * l.length - 2500) a → Tot (Option.bind (app l [nl]) fun u137 =>
          Option.bind (F_spec_l1Cur__among__mut__box (x.1, a, s) [1, 4, 8, 16, 64]) fun u164 => Option.bind (app ns [u164.1]) fun u182 => (F_spec_l1Cur__show__mut__box_L1 many x u8 u50 u38 k) (u164.2.2.1) (u164.2.2.2) (u137) (u182)) (Pk x.1 (m - 50000) shortShow) := by
        intro a s nl hnl ha
        refine app_tot' (by simp; omega) (Tot.bind (amongT (x.1, a, s) _ ha (by omega) (by simp)) fun u164 h164 => app_tot' (by simp; omega) ?_)
        exact ih (u164.2.2.1, u164.2.2.2, l ++ [nl], ns ++ [u164.1]) ⟨by simp, by simp; omega, fun c hc => by rcases List.mem_append.1 hc with hc | hc; exact hlc c hc; rw [List.mem_singleton.1 hc]; exact hnl,
          by simp; omega, h164.2.2.mono (by simp; omega) (by simp; omega)⟩ (by simp; omega)
      unfold jK3
      dsimp only
      refine Tot.bind (one_ok (x.1, u108.2.2.1, u108.2.2.2) _ c108 (by omega)) fun u292 h292 => ?_
      have c292 : Cu x.1 (m - 3000 * l.length - 2002) u292.2.2.1 := h292.2.2.mono (by omega) (by show _ ≤ m - 3000 * (l.length : Int) - 2000 - 2; omega)
      refine Tot.ite (fun _ => ?_) fun _ => more _ _ _ h108.1.1 (c292.mono (by omega) (by omega))
      refine Tot.bindE (spec_chOwn _ (by omega)) ?_
      generalize l[l.length - 1] = last at hlast ⊢
      refine Tot.loop (fun k2 (s : Int × Int × List (Int × Int) × Int) => F_spec_l1Cur__show__mut__box_L2 last x last _ k2 s.1 s.2.1 s.2.2.1 s.2.2.2) (fun s => (last.length - s.2.2.2).toNat)
        (fun s => s.2.2.1.length = last.length ∧ 0 ≤ s.2.2.2 ∧ s.2.2.2 ≤ last.length ∧ Cu x.1 (m - 3000 * l.length - 2002 - 2 * s.2.2.2) s.1) _
        (fun k2 s hs ih2 => ?_) FU (u292.2.2.1, u292.2.2.2, last, 0) ⟨rfl, by simp, by simp, by simpa using c292⟩ (by show _ < (4611686018427387904 : Nat); simp; omega)
      obtain ⟨a2, s2, l2, y⟩ := s
      obtain ⟨hl2, hy0, hy, hc2⟩ := hs
      dsimp only at hl2 hy0 hy hc2 ih2 ⊢
      rw [F_spec_l1Cur__show__mut__box_L2]
      refine Tot.ite (fun hylt => ?_) fun _ => ?_
      · have hylt' : y < last.length := by simpa using hylt
        have ey : idx l2 y = some l2[y.toNat] := by rw [idx_int hy0]; exact List.getElem?_eq_getElem (by omega)
        unfold jK3
        dsimp only
        refine Tot.bindE ey (Tot.bind (amongT (x.1, a2, s2) _ hc2 (by omega) (by simp)) fun u361 h361 => least_tot fun w1 => Tot.bindE ey ?_)
        rw [w64_eq (x := y + 1) (by omega) (by omega)]
        exact ih2 (u361.2.2.1, u361.2.2.2, seti l2 y (w1, l2[y.toNat].2), y + 1) ⟨by rw [seti_len']; exact hl2, by show 0 ≤ y + 1; omega, by show y + 1 ≤ last.length; omega, h361.2.2.mono (by show 0 ≤ m - 3000 * (l.length : Int) - 2002 - 2 * (y + 1); omega) (by show m - 3000 * (l.length : Int) - 2002 - 2 * (y + 1) ≤ m - 3000 * (l.length : Int) - 2002 - 2 * y - 2; omega)⟩
          (by show ((last.length : Int) - (y + 1)).toNat < ((last.length : Int) - y).toNat; omega)
      · refine Tot.bindE (spec_chGood l2 (by omega)) (Tot.ite (fun _ => Tot.bindE (spec_chOwn _ (by omega)) (more _ _ _ hlast (hc2.mono (by omega) (by omega)))) fun _ => more _ _ _ (by omega) (hc2.mono (by omega) (by omega)))
    · have hge' : many ≤ (l.length : Int) := by simpa using hge
      have fin : ∀ (a s : Int) (cs : List (List (Int × Int))) (ns : List Int) (p q : Int), cs.length ≤ 9 → (∀ c ∈ cs, c.length ≤ 13) → ns.length ≤ 9 → Cu x.1 (m - 50000) a → Tot (some ((cs, ns, p, q), (x.1, a, s))) (Pk x.1 (m - 50000) shortShow) :=
        fun a s cs ns p q h1 h2 h3 h4 => Tot.some ⟨⟨h1, h2, h3⟩, rfl, h4⟩
      unfold jK6
      dsimp only
      refine Tot.bind (pick_ok (x.1, a, sd) _ hc (by omega)) fun u499 h499 => ?_
      have c499 : Cu x.1 (m - 30000) u499.2.2.1 := h499.2.2.mono (by omega) (by show _ ≤ m - 3000 * (l.length : Int) - 2; omega)
      have cend : Cu x.1 (m - 50000) u499.2.2.1 := c499.mono (by omega) (by omega)
      refine Tot.ite (fun _ => ?_) fun _ => Tot.ite (fun _ => ?_) fun _ => Tot.ite (fun _ => ?_) fun _ => Tot.ite (fun _ => ?_) fun _ => Tot.ite (fun _ => ?_) fun _ => Tot.ite (fun _ => ?_) fun _ => ?_
      · exact Tot.bind (amongT (x.1, u499.2.2.1, u499.2.2.2) _ c499 (by omega) (by simp)) fun u hu => fin _ _ _ _ _ _ hl9 hlc (by omega) (hu.2.2.mono (by omega) (by show _ ≤ m - 30000 - 2; omega))
      · exact Tot.bind (amongT (x.1, u499.2.2.1, u499.2.2.2) _ c499 (by omega) (by simp)) fun u hu => fin _ _ _ _ _ _ hl9 hlc (by omega) (hu.2.2.mono (by omega) (by show _ ≤ m - 30000 - 2; omega))
      · refine Tot.bind (amongT (x.1, u499.2.2.1, u499.2.2.2) _ c499 (by omega) (by simp)) fun u hu => ?_
        have e0 : idx ns 0 = some ns[0] := by rw [idx_zero]; exact List.getElem?_eq_getElem (by omega)
        exact Tot.bindE e0 (fin _ _ _ _ _ _ hl9 hlc (by rw [seti_len']; omega) (hu.2.2.mono (by omega) (by show _ ≤ m - 30000 - 2; omega)))
      · refine Tot.bind (anyChart_draw (x.1, u499.2.2.1, u499.2.2.2) c499 (by omega)) fun u hu => Tot.bindE elast (fin _ _ _ _ _ _ (by rw [seti_len']; exact hl9) (fun c hc => ?_) (by omega) (hu.2.2.mono (by omega) (by show _ ≤ m - 30000 - 5000; omega)))
        unfold seti at hc
        rcases List.mem_or_eq_of_mem_set hc with hc | rfl
        · exact hlc c hc
        · exact hu.1
      · exact app_tot' (by simp; omega) (fin _ _ _ _ _ _ hl9 hlc (by simp; omega) cend)
      · have esl : sl l 0 1 = some (l.take 1) := sl_take l (k := 1) hl1
        exact Tot.bindE esl (fin _ _ _ _ _ _ (by simp; omega) (fun c hc => hlc c (List.mem_of_mem_take hc)) (by simp) cend)
      · exact fin _ _ _ _ _ _ hl9 hlc (by omega) cend
  unfold jK3
  dsimp only
  refine Tot.bind (one_ok (x.1, u66.2.2.1, u66.2.2.2) _ c66 (by omega)) fun u786 h786 => Tot.ite (fun _ => ?_) fun _ => ?_
  · refine Tot.bind (pick_ok (x.1, u786.2.2.1, u786.2.2.2) _ h786.2.2 (by omega)) fun u793 h793 => ?_
    have := h793.1
    refine loop _ _ _ (h793.2.2.mono (by omega) (by show _ ≤ m - 2010 - 2 - 2; omega)) ?_ ?_
    · rw [w64_eq (by omega) (by omega)]; omega
    · rw [w64_eq (by omega) (by omega)]; omega
  · refine loop _ _ _ (h786.2.2.mono (by omega) (by show _ ≤ m - 2010 - 2; omega)) ?_ ?_
    · rw [w64_eq (by omega) (by omega)]; omega
    · rw [w64_eq (by omega) (by omega)]; omega
/-! what the laws draw -/
theorem Cu.begin {c : List Int} (h : allG inU8 c) : Cu c 100000000 0 := ⟨fun b hb => h.2 b hb, by omega, by omega, by omega⟩
section
variable (c : List Int) (h : Cu c 100000000 0)
include h
theorem draw_WaySums : Tot (F_spec_DrawWaySums c) shortShow := by
  unfold F_spec_DrawWaySums
  exact Tot.bind (show_draw (c, 0, 0) h (by omega)) fun u hu => Tot.some hu.1
theorem draw_LeastCountsOf : Tot (F_spec_DrawLeastCountsOf c) shortShow := by
  unfold F_spec_DrawLeastCountsOf
  exact Tot.bind (draw_WaySums c h) fun u hu => Tot.some hu
end
end Go.Proofs.Ytmkignciedkidaa
/-
  TWO DRAWN SHOWS, PLAIN: they are there and short.
-/
set_option linter.unusedSimpArgs false
set_option linter.unusedVariables false
namespace Go.Proofs.Ytmkignciedkidaa
open Go
def PkT (c : List Int) (n : Int) (v : ShowT × ShowT × Cur) : Prop := shortShow v.1 ∧ shortShow v.2.1 ∧ v.2.2.1 = c ∧ Cu c n v.2.2.2.1
theorem two_draw (x : Cur) {m : Int} (h : Cu x.1 m x.2.1) (hm : 110000 ≤ m) : Tot (F_spec_l1Cur__showsTwo__mut__box x) (PkT x.1 (m - 110000)) := by
  unfold F_spec_l1Cur__showsTwo__mut__box
  refine Tot.bind (show_draw x h (by omega)) fun u13 h13 => ?_
  have hl := h13.1.lens
  have hsw := spec_swGood u13.1 hl.1 hl.2.1 hl.2.2
  have c13 : Cu x.1 (m - 50000) u13.2.2.1 := h13.2.2
  have yes : ∀ (a s : Int), Cu x.1 (m - 50010) a → Tot (Option.bind (F_spec_l1Cur__show__mut__box (x.1, a, s)) fun u49 => some (u13.1, u49.1, (x.1, u49.2.2.1, u49.2.2.2))) (PkT x.1 (m - 110000)) := fun a s ha =>
    Tot.bind (show_draw (x.1, a, s) ha (by omega)) fun u hu => Tot.some ⟨h13.1, hu.1, rfl, hu.2.2.mono (by omega) (by show _ ≤ m - 50010 - 50000; omega)⟩
  unfold jK3
  dsimp only
  refine Tot.bindE hsw ?_
  refine Tot.ite (fun _ => ?_) fun hok => ?_
  · rw [if_pos rfl]
    exact yes _ _ (c13.mono (by omega) (by omega))
  · have hok' : okShow u13.1 = true := by simpa using hok
    have f := facts hok'
    have n0 := f.n0
    have n1 := f.n1
    have nc := f.nc
    refine Tot.bind (one_ok (x.1, u13.2.2.1, u13.2.2.2) _ c13 (by omega)) fun u558 h558 => ?_
    have c558 : Cu x.1 (m - 50002) u558.2.2.1 := h558.2.2.mono (by omega) (by show _ ≤ m - 50000 - 2; omega)
    refine Tot.ite (fun _ => yes _ _ (c558.mono (by omega) (by omega))) fun _ => ?_
    refine Tot.bindE (spec_l1Own _ (by omega)) ?_
    have loop2 : ∀ (a s k0 : Int) (l : List (List (Int × Int))), l.length = u13.1.1.length → (∀ c ∈ l, 1 ≤ c.length ∧ c.length ≤ 12) → 0 ≤ k0 → k0 ≤ 2 → Cu x.1 (m - 50004) a →
        Tot (F_spec_l1Cur__showsTwo__mut__box_L2 x u13 u13.1.2.1 u13.1.2.2.1 u13.1.2.2.2 FU a s l k0) (PkT x.1 (m - 110000)) := by
      intro a s k0 l hl hlc h0 h2 ha
      refine Tot.loop (fun k (s : Int × Int × List (List (Int × Int)) × Int) => F_spec_l1Cur__showsTwo__mut__box_L2 x u13 u13.1.2.1 u13.1.2.2.1 u13.1.2.2.2 k s.1 s.2.1 s.2.2.1 s.2.2.2) (fun s => s.2.2.2.toNat)
        (fun s => 0 ≤ s.2.2.2 ∧ s.2.2.2 ≤ 2 ∧ s.2.2.1.length = u13.1.1.length ∧ (∀ c ∈ s.2.2.1, 1 ≤ c.length ∧ c.length ≤ 12) ∧ Cu x.1 (m - 50104 + 20 * s.2.2.2) s.1) (PkT x.1 (m - 110000))
        (fun k s hs ih => ?_) FU (a, s, l, k0) ⟨h0, h2, hl, hlc, ha.mono (by show 0 ≤ m - 50104 + 20 * k0; omega) (by show m - 50104 + 20 * k0 ≤ m - 50004; omega)⟩ (by show k0.toNat < 4611686018427387904; omega)
      obtain ⟨a, sd, l, y⟩ := s
      obtain ⟨hy0, hy2, hl, hlc, hc⟩ := hs
      dsimp only at hy0 hy2 hl hlc hc ih ⊢
      rw [F_spec_l1Cur__showsTwo__mut__box_L2]
      refine Tot.ite (fun hpos => ?_) fun _ => ?_
      · have hpos' : 0 < y := by simpa using hpos
        refine Tot.bind (pick_ok (x.1, a, sd) _ hc (by omega)) fun u281 h281 => ?_
        obtain ⟨v, hv, hmem, hvl⟩ := idx_pick l (fun e => by rw [e] at hl; simp at hl; omega) h281.1
        have hvc := hlc v hmem
        refine Tot.bindE hv ?_
        refine Tot.bind (pick_ok (x.1, u281.2.2.1, u281.2.2.2) _ h281.2.2 (by show 2 ≤ m - 50104 + 20 * y - 2; omega)) fun u296 h296 => ?_
        obtain ⟨v2, hv2, _, _⟩ := idx_pick v (fun e => by rw [e] at hvc; simp at hvc) h296.1
        refine Tot.bind (spot_draw (x.1, u296.2.2.1, u296.2.2.2) h296.2.2 (by show 12 ≤ m - 50104 + 20 * y - 2 - 2; omega)) fun u302 h302 => Tot.bindE hv2 ?_
        rw [w64_eq (x := y - 1) (by omega) (by omega)]
        refine ih (u302.2.2.1, u302.2.2.2, seti l u281.1 (seti v u296.1 u302.1), y - 1) ⟨by show 0 ≤ y - 1; omega, by show y - 1 ≤ 2; omega, by rw [seti_len']; exact hl, fun c hcm => ?_, h302.2.2.mono (by show 0 ≤ m - 50104 + 20 * (y - 1); omega) (by show m - 50104 + 20 * (y - 1) ≤ m - 50104 + 20 * y - 2 - 2 - 12; omega)⟩ (by show (y - 1).toNat < y.toNat; omega)
        dsimp only at hcm
        unfold seti at hcm
        rcases List.mem_or_eq_of_mem_set hcm with hcm | rfl
        · exact hlc c hcm
        · rw [List.length_set]; exact hvc
      · have c0 : Cu x.1 (m - 51000) a := hc.mono (by omega) (by omega)
        have fin : ∀ (a s : Int) (ns : List Int) (p q : Int), ns.length ≤ 9 → Cu x.1 (m - 110000) a → Tot (some (u13.1, (l, ns, p, q), (x.1, a, s))) (PkT x.1 (m - 110000)) := fun a s ns p q h1 h2 => Tot.some ⟨h13.1, ⟨by show l.length ≤ 9; omega, fun c hc => by have := (hlc c hc).2; omega, h1⟩, rfl, h2⟩
        unfold jK5
        dsimp only
        refine Tot.bind (pick_ok (x.1, a, sd) _ c0 (by omega)) fun u356 h356 => ?_
        have c356 : Cu x.1 (m - 51002) u356.2.2.1 := h356.2.2.mono (by omega) (by show _ ≤ m - 51000 - 2; omega)
        refine Tot.ite (fun _ => ?_) fun _ => Tot.ite (fun _ => ?_) fun _ => Tot.ite (fun _ => ?_) fun _ => fin _ _ _ _ _ (by omega) (c356.mono (by omega) (by omega))
        · refine Tot.bind (pick_ok (x.1, u356.2.2.1, u356.2.2.2) _ c356 (by omega)) fun u369 h369 => ?_
          obtain ⟨v, hv, _, _⟩ := idx_pick u13.1.2.1 (fun e => by rw [e] at nc; simp at nc; omega) h369.1
          exact Tot.bind (pick_ok (x.1, u369.2.2.1, u369.2.2.2) _ h369.2.2 (by show 2 ≤ m - 51002 - 2; omega)) fun u378 h378 => Tot.bindE hv (fin _ _ _ _ _ (by rw [seti_len']; omega) (h378.2.2.mono (by omega) (by show _ ≤ m - 51002 - 2 - 2; omega)))
        · exact Tot.bind (pick_ok (x.1, u356.2.2.1, u356.2.2.2) _ c356 (by omega)) fun u hu => fin _ _ _ _ _ (by omega) (hu.2.2.mono (by omega) (by show _ ≤ m - 51002 - 2; omega))
        · exact Tot.bind (pick_ok (x.1, u356.2.2.1, u356.2.2.2) _ c356 (by omega)) fun u hu => fin _ _ _ _ _ (by omega) (hu.2.2.mono (by omega) (by show _ ≤ m - 51002 - 2; omega))
    refine Tot.loop (fun k (s : List (List (Int × Int)) × Int) => F_spec_l1Cur__showsTwo__mut__box_L1 u13 x u558.2.2.1 u558.2.2.2 u13.1.2.1 u13.1.2.2.1 u13.1.2.2.2 k s.1 s.2) (fun s => (u13.1.1.length - s.2).toNat)
      (fun s => 0 ≤ s.2 ∧ s.2 ≤ u13.1.1.length ∧ (s.1.length : Int) = s.2 ∧ ∀ c ∈ s.1, 1 ≤ c.length ∧ c.length ≤ 12) (PkT x.1 (m - 110000))
      (fun k s hs ih => ?_) FU ([], 0) ⟨by simp, by simp, by simp, fun c hc => by cases hc⟩ (by show ((u13.1.1.length : Int) - 0).toNat < 4611686018427387904; omega)
    obtain ⟨l, y⟩ := s
    obtain ⟨hy0, hy, hl, hlc⟩ := hs
    dsimp only at hy0 hy hl hlc ih ⊢
    rw [F_spec_l1Cur__showsTwo__mut__box_L1]
    refine Tot.ite (fun hlt => ?_) fun hge => ?_
    · have hlt' : y < u13.1.1.length := by simpa using hlt
      have ey : idx u13.1.1 y = some u13.1.1[y.toNat] := by rw [idx_int hy0]; exact List.getElem?_eq_getElem (by omega)
      have hcl := f.cl _ (List.getElem_mem (l := u13.1.1) (n := y.toNat) (by omega))
      unfold jK1
      dsimp only
      refine Tot.bindE ey (Tot.bindE (spec_chOwn _ (by omega)) (app_tot' (by simp; omega) ?_))
      rw [w64_eq (by omega) (by omega)]
      exact ih (l ++ [u13.1.1[y.toNat]], y + 1) ⟨by show 0 ≤ y + 1; omega, by show y + 1 ≤ (u13.1.1.length : Int); omega, by simp; omega, fun c hc => by rcases List.mem_append.1 hc with hc | hc; exact hlc c hc; rw [List.mem_singleton.1 hc]; exact hcl⟩
        (by show ((u13.1.1.length : Int) - (y + 1)).toNat < ((u13.1.1.length : Int) - y).toNat; omega)
    · have hge' : (u13.1.1.length : Int) ≤ y := by simpa using hge
      refine Tot.bind (pick_ok (x.1, u558.2.2.1, u558.2.2.2) _ c558 (by omega)) fun u253 h253 => ?_
      have h2531 := h253.1
      exact loop2 _ _ _ _ (by omega) hlc h2531.1 (by omega) (h253.2.2.mono (by omega) (by show _ ≤ m - 50002 - 2; omega))
section
variable (c : List Int) (h : Cu c 100000000 0)
include h
theorem draw_SameShows : Tot (F_spec_DrawSameShows c) fun v => shortShow v.1 ∧ shortShow v.2 := by
  unfold F_spec_DrawSameShows
  exact Tot.bind (two_draw (c, 0, 0) h (by omega)) fun u hu => Tot.some ⟨hu.1, hu.2.1⟩
theorem draw_CompareDemand : Tot (F_spec_DrawCompareDemand c) fun v => shortShow v.1 ∧ shortShow v.2 := by
  unfold F_spec_DrawCompareDemand
  exact Tot.bind (draw_SameShows c h) fun u hu => Tot.some hu
end
end Go.Proofs.Ytmkignciedkidaa
/-
  THE DRAWN LAWS' OWN COMPARISONS (q..), PLAIN.
-/
set_option linter.unusedSimpArgs false
set_option linter.unusedVariables false
namespace Go.Proofs.Ytmkignciedkidaa
open Go
theorem qq_Ints (x : List Int) (hs : x.length ≤ 1048576) : F_laws_qInts x x = some true := eqLB neI (F_laws_qInts_L1 x x) x (fun _ _ => rfl) (S := anyG) ⟨hs, fun _ _ => trivial⟩
end Go.Proofs.Ytmkignciedkidaa
/-
  THE WIDEST PART, PLAIN.
-/
set_option linter.unusedSimpArgs false
set_option linter.unusedVariables false
namespace Go.Proofs.Ytmkignciedkidaa
open Go
def partSum (x : ShowT) (p : Nat) : Int := ((movesOf x p).map sqM).foldl (fun a u => w64 (a + u)) 0
def widest (x : ShowT) : Int × Int := (List.range x.2.1.length).foldl (fun s k => if s.2 < partSum x k then ((k : Int), partSum x k) else s) (0, -1)
end Go.Proofs.Ytmkignciedkidaa
/-
  SUMS OF WAYS, PLAIN; what shows demand.
-/
set_option linter.unusedSimpArgs false
set_option linter.unusedVariables false
namespace Go.Proofs.Ytmkignciedkidaa
open Go
def addStep (sq : List Int) (k : Nat) (s : List Int) : List Int := match s[k]?, sq[k]? with
  | some a, some u => s.set k (w64 (a + u))
  | _, _ => s
def addTo (sq s : List Int) : List Int := (List.range sq.length).foldl (fun s k => addStep sq k s) s
theorem addStep_len (sq : List Int) (k : Nat) (s : List Int) : (addStep sq k s).length = s.length := by
  unfold addStep
  split <;> simp
theorem add_loop {R : Type} (f : Nat → List Int → Int → Option R) (sq s0 : List Int) (rest : List Int → Option R) (hl : sq.length < 4611686018427387904) (h0 : s0.length = sq.length)
    (hs : ∀ m s k a u, k < sq.length → s[k]? = some a → sq[k]? = some u → f (m + 1) s (k : Int) = f m (s.set k (w64 (a + u))) ((k + 1 : Nat) : Int)) (he : ∀ m s, f (m + 1) s (sq.length : Int) = rest s) :
    f FU s0 0 = rest (addTo sq s0) ∧ (addTo sq s0).length = sq.length := by
  refine loopS f sq.length (fun k s => addStep sq k s) rest hl (fun _ s => s.length = sq.length) s0 h0 (fun k s hk hi => by rw [addStep_len]; exact hi) (fun m k s hk hi => ?_) (fun m s _ => he m s)
  have hx : s[k]? = some (s[k]'(by omega)) := List.getElem?_eq_getElem (by omega)
  have hy : sq[k]? = some sq[k] := List.getElem?_eq_getElem hk
  rw [hs m s k _ _ hk hx hy]
  unfold addStep
  rw [hx, hy]
def squaresOf (x : ShowT) (p : Nat) : List Int := (movesOf x p).map sqM
def waysOf (x : ShowT) : List Int := (List.range x.2.1.length).foldl (fun s p => addTo (squaresOf x p) s) (List.replicate (chartAt x 0).length 0)
theorem moves_len' {x : ShowT} (f : ShowFacts x) {p : Nat} (hp : p < x.2.1.length) : (movesOf x p).length = (chartAt x 0).length := by
  obtain ⟨a, b, n, h1, h2, h3, h4, h5, h6, h7, h8⟩ := part_facts f hp
  have := f.n0
  obtain ⟨c, hc⟩ : ∃ c, x.1[0]? = some c := ⟨_, List.getElem?_eq_getElem (by omega)⟩
  unfold movesOf
  rw [chartAt_of h1, chartAt_of hc, List.length_map, List.length_range]
  exact chart_len f h1 hc
theorem first_chart {x : ShowT} (f : ShowFacts x) : ∃ c, x.1[0]? = some c ∧ chartAt x 0 = c ∧ 1 ≤ c.length ∧ c.length ≤ 12 := by
  have := f.n0
  obtain ⟨c, hc⟩ : ∃ c, x.1[0]? = some c := ⟨_, List.getElem?_eq_getElem (by omega)⟩
  have := f.cl c (List.mem_of_getElem? hc)
  exact ⟨c, hc, chartAt_of hc, this.1, this.2⟩
theorem spec_cpWays (x : ShowT) (f : ShowFacts x) : F_spec_cpWays x = some (waysOf x) ∧ (waysOf x).length ≤ 12 := by
  have h1 := f.n1
  have h2 := f.nc
  obtain ⟨c, hc, he, hl, hu⟩ := first_chart f
  have := loopS (F_spec_cpWays_L1 x) x.2.1.length (fun p s => addTo (squaresOf x p) s) some (by omega) (fun _ s => s.length = (chartAt x 0).length) (List.replicate (chartAt x 0).length 0) (by simp) (fun p s hp hi => ?_) (fun m p s hp hi => ?_) (fun m s _ => ?_)
  · unfold F_spec_cpWays waysOf
    rw [idx_zero, hc, Option.bind_some, mkL_nat (by omega), Option.bind_some]
    rw [he] at this ⊢
    exact ⟨this.1, by rw [this.2]; exact hu⟩
  · have hlen := moves_len' f hp
    have hsq : (squaresOf x p).length = (chartAt x 0).length := by unfold squaresOf; rw [List.length_map, hlen]
    have key : ∀ (ks : List Nat) (s : List Int), (ks.foldl (fun s k => addStep (squaresOf x p) k s) s).length = s.length := by
      intro ks
      induction ks with
      | nil => intro s; rfl
      | cons k ks ih => intro s; rw [List.foldl_cons, ih, addStep_len]
    unfold addTo
    rw [key, hi]
  · have hlen := moves_len' f hp
    have hsq : (squaresOf x p).length = (chartAt x 0).length := by unfold squaresOf; rw [List.length_map, hlen]
    rw [F_spec_cpWays_L1, if_pos (by simp; omega), spec_cpSquares x f p hp, Option.bind_some]
    have := (add_loop (F_spec_cpWays_L2 (squaresOf x p) (F_spec_cpWays_L1 x m) (p : Int)) (squaresOf x p) s (fun s => F_spec_cpWays_L1 x m s ((p + 1 : Nat) : Int)) (by rw [hsq, he]; omega) (by omega) (fun m' s' k a u hk ha hu => ?_) (fun m' s' => ?_)).1
    · exact this
    · rw [F_spec_cpWays_L2, if_pos (by simp; omega), idx_nat, hu, Option.bind_some, idx_nat, ha, Option.bind_some, Option.bind_some, seti_nat, w64_succ (k := k) (by rw [hsq, he] at hk; omega)]
    · rw [F_spec_cpWays_L2, if_neg (by simp), w64_succ (by omega)]
  · rw [F_spec_cpWays_L1, if_neg (by simp)]
theorem impl_waySums (x : ShowT) (f : ShowFacts x) : F_impl_waySums x = some (waysOf x) := by
  have h1 := f.n1
  have h2 := f.nc
  obtain ⟨c, hc, he, hl, hu⟩ := first_chart f
  have := loopS (F_impl_waySums_L1 x) x.2.1.length (fun p s => addTo (squaresOf x p) s) some (by omega) (fun _ s => s.length = (chartAt x 0).length) (List.replicate (chartAt x 0).length 0) (by simp) (fun p s hp hi => ?_) (fun m p s hp hi => ?_) (fun m s _ => ?_)
  · unfold F_impl_waySums waysOf
    rw [idx_zero, hc, Option.bind_some, mkL_nat (by omega), Option.bind_some]
    rw [he] at this ⊢
    exact this.1
  · have hlen := moves_len' f hp
    have key : ∀ (ks : List Nat) (s : List Int), (ks.foldl (fun s k => addStep (squaresOf x p) k s) s).length = s.length := by
      intro ks
      induction ks with
      | nil => intro s; rfl
      | cons k ks ih => intro s; rw [List.foldl_cons, ih, addStep_len]
    unfold addTo
    rw [key, hi]
  · have hlen := moves_len' f hp
    have hsq : (squaresOf x p).length = (movesOf x p).length := by unfold squaresOf; rw [List.length_map]
    rw [F_impl_waySums_L1, if_pos (by simp; omega), impl_showMoves x f p hp, Option.bind_some]
    have := (add_loop (F_impl_waySums_L2 (movesOf x p) (F_impl_waySums_L1 x m) (p : Int)) (squaresOf x p) s (fun s => F_impl_waySums_L1 x m s ((p + 1 : Nat) : Int)) (by rw [hsq, hlen, he]; omega) (by omega) (fun m' s' k a u hk ha hu => ?_) (fun m' s' => ?_)).1
    · exact this
    · have hk' : k < (movesOf x p).length := by omega
      have hm : (movesOf x p)[k]? = some (movesOf x p)[k] := List.getElem?_eq_getElem hk'
      have hsm : u = sqM (movesOf x p)[k] := by
        unfold squaresOf at hu
        rw [List.getElem?_map, hm] at hu
        exact (Option.some.inj hu).symm
      rw [F_impl_waySums_L2, if_pos (by simp; omega)]
      unfold jK1
      dsimp only
      rw [idx_nat, hm, Option.bind_some, idx_nat, ha, Option.bind_some, impl_squareOf, Option.bind_some, Option.bind_some, seti_nat, w64_succ (k := k) (by rw [hlen, he] at hk'; omega), hsm]
      rfl
    · rw [hsq, F_impl_waySums_L2, if_neg (by simp), w64_succ (by omega)]
  · rw [F_impl_waySums_L1, if_neg (by simp)]
theorem waysOf_len {x : ShowT} (f : ShowFacts x) : (waysOf x).length ≤ 12 := by
  obtain ⟨c, hc, he, hl, hu⟩ := first_chart f
  have key : ∀ (sq : List Int) (ks : List Nat) (s : List Int), (ks.foldl (fun s k => addStep sq k s) s).length = s.length := by
    intro sq ks
    induction ks with
    | nil => intro s; rfl
    | cons k ks ih => intro s; rw [List.foldl_cons, ih, addStep_len]
  have key2 : ∀ (ps : List Nat) (s : List Int), (ps.foldl (fun s p => addTo (squaresOf x p) s) s).length = s.length := by
    intro ps
    induction ps with
    | nil => intro s; rfl
    | cons p ps ih => intro s; rw [List.foldl_cons, ih]; unfold addTo; rw [key]
  unfold waysOf
  rw [key2, List.length_replicate, he]
  exact hu
end Go.Proofs.Ytmkignciedkidaa
/-
  HOW NEAR TWO MOVES COME, PLAIN.
-/
set_option linter.unusedSimpArgs false
set_option linter.unusedVariables false
namespace Go.Proofs.Ytmkignciedkidaa
open Go
theorem mulB {x y A B : Int} (h1 : -A ≤ x) (h2 : x ≤ A) (h3 : -B ≤ y) (h4 : y ≤ B) : -(A * B) ≤ x * y ∧ x * y ≤ A * B := by
  have h : (x * y).natAbs ≤ A.toNat * B.toNat := by rw [Int.natAbs_mul]; exact Nat.mul_le_mul (by omega) (by omega)
  have e : ((A.toNat * B.toNat : Nat) : Int) = A * B := by
    rw [Int.natCast_mul, Int.toNat_of_nonneg (by omega), Int.toNat_of_nonneg (by omega)]
  omega
/-- A fraction in lowest terms. -/
def low (a b : Int) : Int × Int := (w64 (Int.tdiv a (Nat.gcd a.toNat b.toNat : Int)), w64 (Int.tdiv b (Nat.gcd a.toNat b.toNat : Int)))
theorem gcd_loop : ∀ (y x m : Nat), y < m → F_impl_gcdOf_L1 m (x : Int) (y : Int) = some ((Nat.gcd x y : Nat) : Int) := by
  intro y
  induction y using Nat.strongRecOn with
  | _ y ih =>
    intro x m hm
    cases m with
    | zero => omega
    | succ m =>
      rw [F_impl_gcdOf_L1]
      by_cases h : y = 0
      · subst h
        simp
      · have hy : ((y : Int) != 0) = true := by simp; omega
        have hy' : ¬ (y : Int) = 0 := by omega
        rw [if_pos hy, if_neg hy', ← Int.ofNat_tmod, ih (x % y) (Nat.mod_lt _ (by omega)) y m (by have := Nat.mod_lt x (show 0 < y by omega); omega)]
        congr 2
        rw [Nat.gcd_comm x y, Nat.gcd_rec y x]
        exact Nat.gcd_comm _ _
theorem part_loop (a b : Int) : ∀ (y x m : Nat), y < m → 0 < Nat.gcd x y → F_spec_mvPart_L1 a b m (x : Int) (y : Int) = some (w64 (Int.tdiv a (Nat.gcd x y : Int)), w64 (Int.tdiv b (Nat.gcd x y : Int))) := by
  intro y
  induction y using Nat.strongRecOn with
  | _ y ih =>
    intro x m hm hg
    cases m with
    | zero => omega
    | succ m =>
      rw [F_spec_mvPart_L1]
      by_cases h : y = 0
      · subst h
        have hx : ¬ x = 0 := by simp at hg; omega
        simp [hx]
      · have hy : decide (0 < (y : Int)) = true := by simp; omega
        have hy' : ¬ (y : Int) = 0 := by omega
        have e : Nat.gcd x y = Nat.gcd y (x % y) := by rw [Nat.gcd_comm x y, Nat.gcd_rec y x]; exact Nat.gcd_comm _ _
        rw [if_pos hy, if_neg hy', ← Int.ofNat_tmod, ih (x % y) (Nat.mod_lt _ (by omega)) y m (by have := Nat.mod_lt x (show 0 < y by omega); omega) (by rw [← e]; exact hg), e]
theorem impl_lowestTerms (a b : Int) (ha : 0 ≤ a) (ha2 : a ≤ 1000000000000000) (hb : 0 < b) (hb2 : b ≤ 1000000000000000) : F_impl_lowestTerms a b = some (low a b) := by
  unfold F_impl_lowestTerms F_impl_gcdOf low
  have e1 : maxI a (w64 (0 - a)) = ((a.toNat : Nat) : Int) := by unfold maxI; rw [w64_eq (by omega) (by omega)]; split <;> omega
  have e2 : maxI b (w64 (0 - b)) = ((b.toNat : Nat) : Int) := by unfold maxI; rw [w64_eq (by omega) (by omega)]; split <;> omega
  rw [e1, e2, gcd_loop b.toNat a.toNat FU (FU_gt (by omega)), Option.bind_some]
  have hg : 0 < Nat.gcd a.toNat b.toNat := Nat.gcd_pos_of_pos_right _ (by omega)
  have hg' : ¬ ((Nat.gcd a.toNat b.toNat : Nat) : Int) = 0 := by omega
  rw [if_neg hg', if_neg hg']
theorem spec_mvPart (a b : Int) (ha : 0 ≤ a) (ha2 : a ≤ 1000000000000000) (hb : 0 < b) (hb2 : b ≤ 1000000000000000) : F_spec_mvPart a b = some (low a b) := by
  unfold F_spec_mvPart F_spec_l1Abs F_spec_l1Most low
  have e1 : (if decide (w64 (0 - a) < a) = true then some a else some (w64 (0 - a))) = some ((a.toNat : Nat) : Int) := by
    rw [w64_eq (by omega) (by omega)]
    by_cases h : 0 - a < a
    · rw [if_pos (by simp; omega)]; congr 1; omega
    · rw [if_neg (by simp; omega)]; congr 1; omega
  have e2 : b = ((b.toNat : Nat) : Int) := by omega
  rw [e1, Option.bind_some, Option.bind_some]
  have hg : 0 < Nat.gcd a.toNat b.toNat := Nat.gcd_pos_of_pos_right _ (by omega)
  have := part_loop a b b.toNat a.toNat FU (FU_gt (by omega)) hg
  rw [← e2] at this
  exact this
/-- The least square of a way from p to q and where it is. -/
def nearV (px py qx qy : Int) : Int × Int :=
  if 0 ≤ px * (qx - px) + py * (qy - py) then (px * px + py * py, 1)
  else if (qx - px) * (qx - px) + (qy - py) * (qy - py) ≤ 0 - (px * (qx - px) + py * (qy - py)) then (qx * qx + qy * qy, 1)
  else low ((px * qy - py * qx) * (px * qy - py * qx)) ((qx - px) * (qx - px) + (qy - py) * (qy - py))
def near (a b : MoveT) : Int × Int := nearV (a.1.1 - b.1.1) (a.1.2 - b.1.2) (a.2.1.1 - b.2.1.1) (a.2.1.2 - b.2.1.2)
structure InB (px py qx qy : Int) : Prop where
  a1 : -1280 ≤ px
  a2 : px ≤ 1280
  b1 : -672 ≤ py
  b2 : py ≤ 672
  c1 : -1280 ≤ qx
  c2 : qx ≤ 1280
  d1 : -672 ≤ qy
  d2 : qy ≤ 672
theorem sqB {x A : Int} (h1 : -A ≤ x) (h2 : x ≤ A) : 0 ≤ x * x ∧ x * x ≤ A * A := by
  have := mulB h1 h2 h1 h2
  refine ⟨?_, this.2⟩
  have : (0 : Int) ≤ ((x.natAbs * x.natAbs : Nat) : Int) := Int.natCast_nonneg _
  rwa [Int.natAbs_mul_self] at this
structure NearB (px py qx qy : Int) : Prop where
  m1 : -3276800 ≤ px * (qx - px) ∧ px * (qx - px) ≤ 3276800
  m2 : -903168 ≤ py * (qy - py) ∧ py * (qy - py) ≤ 903168
  m3 : 0 ≤ (qx - px) * (qx - px) ∧ (qx - px) * (qx - px) ≤ 6553600
  m4 : 0 ≤ (qy - py) * (qy - py) ∧ (qy - py) * (qy - py) ≤ 1806336
  m5 : 0 ≤ px * px ∧ px * px ≤ 1638400
  m6 : 0 ≤ py * py ∧ py * py ≤ 451584
  m7 : 0 ≤ qx * qx ∧ qx * qx ≤ 1638400
  m8 : 0 ≤ qy * qy ∧ qy * qy ≤ 451584
  m9 : -860160 ≤ px * qy ∧ px * qy ≤ 860160
  m10 : -860160 ≤ py * qx ∧ py * qx ≤ 860160
  m11 : 0 ≤ (px * qy - py * qx) * (px * qy - py * qx) ∧ (px * qy - py * qx) * (px * qy - py * qx) ≤ 2959500902400
theorem nearB {px py qx qy : Int} (h : InB px py qx qy) : NearB px py qx qy := by
  obtain ⟨a1, a2, b1, b2, c1, c2, d1, d2⟩ := h
  have m9 := mulB a1 a2 d1 d2
  have m10 := mulB b1 b2 c1 c2
  have m11 := sqB (x := px * qy - py * qx) (A := 1720320) (by omega) (by omega)
  exact ⟨mulB (A := 1280) (B := 2560) a1 a2 (by omega) (by omega), mulB (A := 672) (B := 1344) b1 b2 (by omega) (by omega), sqB (A := 2560) (by omega) (by omega), sqB (A := 1344) (by omega) (by omega), sqB a1 a2, sqB b1 b2, sqB c1 c2, sqB d1 d2, by omega, by omega, by omega⟩
theorem inB {a b : MoveT} (ha : okSpot a.1 = true) (ha2 : okSpot a.2.1 = true) (hb : okSpot b.1 = true) (hb2 : okSpot b.2.1 = true) : InB (a.1.1 - b.1.1) (a.1.2 - b.1.2) (a.2.1.1 - b.2.1.1) (a.2.1.2 - b.2.1.2) := by
  unfold okSpot at ha ha2 hb hb2
  rw [Bool.and_eq_true, okIn_iff, okIn_iff] at ha ha2 hb hb2
  refine ⟨by omega, by omega, by omega, by omega, by omega, by omega, by omega, by omega⟩
theorem impl_leastApart (a b : MoveT) (ha : okSpot a.1 = true) (ha2 : okSpot a.2.1 = true) (hb : okSpot b.1 = true) (hb2 : okSpot b.2.1 = true) : F_impl_leastApart a b = some (near a b) := by
  have hI := inB ha ha2 hb hb2
  unfold F_impl_leastApart F_impl_between F_impl_squareOf near
  generalize a.1.1 - b.1.1 = px at *
  generalize a.1.2 - b.1.2 = py at *
  generalize a.2.1.1 - b.2.1.1 = qx at *
  generalize a.2.1.2 - b.2.1.2 = qy at *
  obtain ⟨m1, m2, m3, m4, m5, m6, m7, m8, m9, m10, m11⟩ := nearB hI
  obtain ⟨a1, a2, b1, b2, c1, c2, d1, d2⟩ := hI
  have k : (px * (qy - py) - py * (qx - px)) = px * qy - py * qx := by
    rw [Int.mul_sub, Int.mul_sub, Int.mul_comm px py]; omega
  have kb1 := mulB (x := px) (y := qy - py) (A := 1280) (B := 1344) a1 a2 (by omega) (by omega)
  have kb2 := mulB (x := py) (y := qx - px) (A := 672) (B := 2560) b1 b2 (by omega) (by omega)
  simp only [Option.bind_some, w64_eq (x := px) (by omega) (by omega), w64_eq (x := py) (by omega) (by omega), w64_eq (x := qx) (by omega) (by omega), w64_eq (x := qy) (by omega) (by omega),
    w64_eq (x := qx - px) (by omega) (by omega), w64_eq (x := qy - py) (by omega) (by omega), w64_eq (x := px * (qx - px)) (by omega) (by omega), w64_eq (x := py * (qy - py)) (by omega) (by omega),
    w64_eq (x := px * (qx - px) + py * (qy - py)) (by omega) (by omega), w64_eq (x := 0 - (px * (qx - px) + py * (qy - py))) (by omega) (by omega),
    w64_eq (x := (qx - px) * (qx - px)) (by omega) (by omega), w64_eq (x := (qy - py) * (qy - py)) (by omega) (by omega), w64_eq (x := (qx - px) * (qx - px) + (qy - py) * (qy - py)) (by omega) (by omega),
    w64_eq (x := px * px) (by omega) (by omega), w64_eq (x := py * py) (by omega) (by omega), w64_eq (x := px * px + py * py) (by omega) (by omega),
    w64_eq (x := qx * qx) (by omega) (by omega), w64_eq (x := qy * qy) (by omega) (by omega), w64_eq (x := qx * qx + qy * qy) (by omega) (by omega),
    w64_eq (x := px * (qy - py)) (by omega) (by omega), w64_eq (x := py * (qx - px)) (by omega) (by omega), k, w64_eq (x := px * qy - py * qx) (by omega) (by omega), w64_eq (x := (px * qy - py * qx) * (px * qy - py * qx)) (by omega) (by omega)]
  unfold nearV
  by_cases h1 : 0 ≤ px * (qx - px) + py * (qy - py)
  · rw [if_pos (by simpa using h1), if_pos h1]
  · rw [if_neg (by simpa using h1), if_neg h1]
    by_cases h2 : (qx - px) * (qx - px) + (qy - py) * (qy - py) ≤ 0 - (px * (qx - px) + py * (qy - py))
    · rw [if_pos (by simpa using h2), if_pos h2]
    · rw [if_neg (by simpa using h2), if_neg h2, impl_lowestTerms _ _ (by omega) (by omega) (by omega) (by omega)]
      rfl
theorem spec_apLeast (a b : MoveT) (ha : okSpot a.1 = true) (ha2 : okSpot a.2.1 = true) (hb : okSpot b.1 = true) (hb2 : okSpot b.2.1 = true) : F_spec_apLeast a b = some (near a b) := by
  have hI := inB ha ha2 hb hb2
  unfold F_spec_apLeast F_spec_apInner F_spec_apEnds near jK1
  generalize a.1.1 - b.1.1 = px at *
  generalize a.1.2 - b.1.2 = py at *
  generalize a.2.1.1 - b.2.1.1 = qx at *
  generalize a.2.1.2 - b.2.1.2 = qy at *
  obtain ⟨m1, m2, m3, m4, m5, m6, m7, m8, m9, m10, m11⟩ := nearB hI
  obtain ⟨a1, a2, b1, b2, c1, c2, d1, d2⟩ := hI
  simp only [Option.bind_some, w64_eq (x := px) (by omega) (by omega), w64_eq (x := py) (by omega) (by omega), w64_eq (x := qx) (by omega) (by omega), w64_eq (x := qy) (by omega) (by omega),
    w64_eq (x := qx - px) (by omega) (by omega), w64_eq (x := qy - py) (by omega) (by omega), w64_eq (x := px * (qx - px)) (by omega) (by omega), w64_eq (x := py * (qy - py)) (by omega) (by omega),
    w64_eq (x := px * (qx - px) + py * (qy - py)) (by omega) (by omega), w64_eq (x := 0 - (px * (qx - px) + py * (qy - py))) (by omega) (by omega),
    w64_eq (x := (qx - px) * (qx - px)) (by omega) (by omega), w64_eq (x := (qy - py) * (qy - py)) (by omega) (by omega), w64_eq (x := (qx - px) * (qx - px) + (qy - py) * (qy - py)) (by omega) (by omega),
    w64_eq (x := px * px) (by omega) (by omega), w64_eq (x := py * py) (by omega) (by omega), w64_eq (x := px * px + py * py) (by omega) (by omega),
    w64_eq (x := qx * qx) (by omega) (by omega), w64_eq (x := qy * qy) (by omega) (by omega), w64_eq (x := qx * qx + qy * qy) (by omega) (by omega),
    w64_eq (x := px * qy) (by omega) (by omega), w64_eq (x := py * qx) (by omega) (by omega), w64_eq (x := px * qy - py * qx) (by omega) (by omega), w64_eq (x := (px * qy - py * qx) * (px * qy - py * qx)) (by omega) (by omega)]
  have q1 : qx * qx = px * px + 2 * (px * (qx - px)) + (qx - px) * (qx - px) := by
    have : qx * qx = (px + (qx - px)) * (px + (qx - px)) := by rw [show px + (qx - px) = qx by omega]
    rw [this, Int.add_mul, Int.mul_add, Int.mul_add, Int.mul_comm (qx - px) px]; omega
  have q2 : qy * qy = py * py + 2 * (py * (qy - py)) + (qy - py) * (qy - py) := by
    have : qy * qy = (py + (qy - py)) * (py + (qy - py)) := by rw [show py + (qy - py) = qy by omega]
    rw [this, Int.add_mul, Int.mul_add, Int.mul_add, Int.mul_comm (qy - py) py]; omega
  unfold nearV F_spec_l1Least
  generalize hd : px * (qx - px) + py * (qy - py) = dot at *
  generalize hz : (qx - px) * (qx - px) + (qy - py) * (qy - py) = size at *
  by_cases h1 : 0 ≤ dot
  · have h1' : 0 - dot ≤ 0 := by omega
    rw [if_pos h1]
    simp only [h1', decide_true, if_true, Option.bind_some]
    rw [if_neg (by simp)]
    by_cases h3 : px * px + py * py < qx * qx + qy * qy
    · rw [if_pos (by simpa using h3)]; rfl
    · rw [if_neg (by simpa using h3), Option.bind_some]
      have : qx * qx + qy * qy = px * px + py * py := by omega
      rw [this]
  · have h1' : ¬ 0 - dot ≤ 0 := by omega
    rw [if_neg h1]
    by_cases h2 : size ≤ 0 - dot
    · rw [if_pos h2]
      simp only [h1', h2, decide_true, decide_false, Bool.false_eq_true, if_false, if_true, Option.bind_some]
      rw [if_neg (by simp), if_neg (by simp; omega)]
      rfl
    · rw [if_neg h2]
      simp only [h1', h2, decide_true, decide_false, Bool.false_eq_true, if_false, if_true, Option.bind_some]
      rw [if_pos (by simp; omega), spec_mvPart _ _ (by omega) (by omega) (by omega) (by omega)]
      rfl
end Go.Proofs.Ytmkignciedkidaa
/-
  PAIRS THAT COME TOO CLOSE, PARTS THAT ARE NOT SAFE, PLAIN.
-/
set_option linter.unusedSimpArgs false
set_option linter.unusedVariables false
namespace Go.Proofs.Ytmkignciedkidaa
open Go
/-- A loop from k on that keeps what p takes. -/
theorem loopFrom {β R : Type} (f : Nat → List β → Int → Option R) (n B : Nat) (p : Nat → Bool) (g : Nat → β) (rest : List β → Option R) (hn : n < 4611686018427387904)
    (hs : ∀ m s k, k < n → s.length < B → f (m + 1) s (k : Int) = f m (if p k then s ++ [g k] else s) ((k + 1 : Nat) : Int)) (he : ∀ m s, f (m + 1) s (n : Int) = rest s) :
    ∀ (k : Nat) (s : List β), k ≤ n → s.length + (n - k) ≤ B → f FU s (k : Int) = rest (s ++ ((List.range' k (n - k)).filter p).map g) := by
  have key : ∀ d k m s, n - k = d → k ≤ n → n - k < m → s.length + (n - k) ≤ B → f m s (k : Int) = rest (s ++ ((List.range' k (n - k)).filter p).map g) := by
    intro d
    induction d with
    | zero =>
      intro k m s hd hk hm hb
      have : k = n := by omega
      subst this
      cases m with
      | zero => omega
      | succ m => rw [he]; simp
    | succ d ih =>
      intro k m s hd hk hm hb
      cases m with
      | zero => omega
      | succ m =>
        rw [hs m s k (by omega) (by omega), hd, List.range'_succ, List.filter_cons]
        cases hp : p k with
        | false =>
          simp only [Bool.false_eq_true, if_false]
          rw [ih (k + 1) m s (by omega) (by omega) (by omega) (by omega), show n - (k + 1) = d by omega]
        | true =>
          simp only [if_true, List.map_cons]
          rw [ih (k + 1) m (s ++ [g k]) (by omega) (by omega) (by omega) (by simp; omega), show n - (k + 1) = d by omega]
          simp
  exact fun k s hk hb => key _ k FU s rfl hk (FU_gt (by omega)) hb
def stay (u v : MoveT) (least : Int) : Bool := decide (w64 (w64 (least * least) * (near u v).2) ≤ (near u v).1)
def goodMove (u : MoveT) : Prop := okSpot u.1 = true ∧ okSpot u.2.1 = true
theorem impl_stayApart (u v : MoveT) (least : Int) (hu : goodMove u) (hv : goodMove v) : F_impl_stayApart u v least = some (stay u v least) := by
  unfold F_impl_stayApart stay
  rw [impl_leastApart u v hu.1 hu.2 hv.1 hv.2]
  rfl
theorem spec_apStay (u v : MoveT) (least : Int) (hu : goodMove u) (hv : goodMove v) : F_spec_apStay u v least = some (stay u v least) := by
  unfold F_spec_apStay stay
  rw [spec_apLeast u v hu.1 hu.2 hv.1 hv.2]
  rfl
def stayAt (ms : List MoveT) (least : Int) (i k : Nat) : Bool := match ms[i]?, ms[k]? with
  | some u, some v => stay u v least
  | _, _ => true
def closeRow (ms : List MoveT) (least : Int) (i : Nat) : List (List Int) := ((List.range' (i + 1) (ms.length - (i + 1))).filter fun k => !stayAt ms least i k).map fun (k : Nat) => [(i : Int), (k : Int)]
def closeOf (ms : List MoveT) (least : Int) : List (List Int) := (List.range ms.length).foldl (fun s i => s ++ closeRow ms least i) []
theorem closeRow_len (ms : List MoveT) (least : Int) (i : Nat) : (closeRow ms least i).length ≤ ms.length := by
  unfold closeRow
  rw [List.length_map]
  refine Nat.le_trans (List.length_filter_le _ _) ?_
  simp
theorem close_loop (f : Nat → List (List Int) → Int → Option (List (List Int))) (ms : List MoveT) (least : Int) (hl : ms.length ≤ 1000)
    (hs : ∀ m s i, i < ms.length → s.length ≤ 1000 * i → f (m + 1) s (i : Int) = f m (s ++ closeRow ms least i) ((i + 1 : Nat) : Int)) (he : ∀ m s, f (m + 1) s (ms.length : Int) = some s) :
    f FU [] 0 = some (closeOf ms least) ∧ (closeOf ms least).length ≤ 1000 * ms.length := by
  have := loopS f ms.length (fun i s => s ++ closeRow ms least i) some (by omega) (fun i s => s.length ≤ 1000 * i) [] (by simp) (fun i s hi h => by have := closeRow_len ms least i; rw [List.length_append]; omega) (fun m i s hi h => hs m s i hi h) (fun m s _ => he m s)
  exact this
theorem impl_pairsTooClose (ms : List MoveT) (least : Int) (hl : ms.length ≤ 1000) (hg : ∀ u ∈ ms, goodMove u) : F_impl_pairsTooClose ms least = some (closeOf ms least) := by
  unfold F_impl_pairsTooClose
  refine (close_loop (F_impl_pairsTooClose_L1 ms least) ms least hl (fun m s i hi hsl => ?_) (fun m s => ?_)).1
  · have hmul : 1000 * i ≤ 1000000 := by omega
    rw [F_impl_pairsTooClose_L1, if_pos (by simp; omega), w64_succ (by omega), loopFrom (F_impl_pairsTooClose_L2 ms (i : Int) least (F_impl_pairsTooClose_L1 ms least m)) ms.length 1073741823 (fun k => !stayAt ms least i k) (fun (k : Nat) => [(i : Int), (k : Int)])
      (fun s => F_impl_pairsTooClose_L1 ms least m s ((i + 1 : Nat) : Int)) (by omega) (fun m' s' k hk hs' => ?_) (fun m' s' => ?_) (i + 1) s (by omega) (by omega)]
    · rfl
    · obtain ⟨u, hu⟩ : ∃ u, ms[i]? = some u := ⟨_, List.getElem?_eq_getElem hi⟩
      obtain ⟨v, hv⟩ : ∃ v, ms[k]? = some v := ⟨_, List.getElem?_eq_getElem hk⟩
      have e : stayAt ms least i k = stay u v least := by unfold stayAt; rw [hu, hv]
      rw [F_impl_pairsTooClose_L2, if_pos (by simp; omega), e]
      unfold jK1
      dsimp only
      rw [idx_nat, hu, Option.bind_some, idx_nat, hv, Option.bind_some, impl_stayApart u v least (hg u (List.mem_of_getElem? hu)) (hg v (List.mem_of_getElem? hv)), Option.bind_some, app_ok (by simp; omega), w64_succ (k := k) (by omega)]
      cases stay u v least <;> simp
    · rw [F_impl_pairsTooClose_L2, if_neg (by simp), w64_succ (by omega)]
  · rw [F_impl_pairsTooClose_L1, if_neg (by simp)]
theorem closeOf_len (ms : List MoveT) (least : Int) (hl : ms.length ≤ 1000) (hg : ∀ u ∈ ms, goodMove u) : (closeOf ms least).length ≤ 1000 * ms.length := by
  have key : ∀ n, ((List.range n).foldl (fun s i => s ++ closeRow ms least i) []).length ≤ 1000 * n := by
    intro n
    induction n with
    | zero => simp
    | succ n ih =>
      have := closeRow_len ms least n
      rw [List.range_succ, List.foldl_append, List.foldl_cons, List.foldl_nil, List.length_append]
      omega
  exact key _
theorem spec_swClose (x : ShowT) (f : ShowFacts x) (p : Nat) (hp : p < x.2.1.length) (hg : ∀ u ∈ movesOf x p, goodMove u) : F_spec_swClose x (p : Int) = some (closeOf (movesOf x p) x.2.2.1) := by
  have hl := moves_len x f p hp
  unfold F_spec_swClose
  rw [spec_swMoves x f p hp, Option.bind_some]
  generalize movesOf x p = ms at *
  refine (close_loop (F_spec_swClose_L1 ms x) ms x.2.2.1 (by omega) (fun m s i hi hsl => ?_) (fun m s => ?_)).1
  · have hmul : 1000 * i ≤ 1000000 := by omega
    obtain ⟨u, hu⟩ : ∃ u, ms[i]? = some u := ⟨_, List.getElem?_eq_getElem hi⟩
    rw [F_spec_swClose_L1, if_pos (by simp; omega), idx_nat, hu, Option.bind_some, w64_succ (by omega), loopFrom (F_spec_swClose_L2 ms u x (i : Int) (F_spec_swClose_L1 ms x m)) ms.length 1073741823 (fun k => !stayAt ms x.2.2.1 i k) (fun (k : Nat) => [(i : Int), (k : Int)])
      (fun s => F_spec_swClose_L1 ms x m s ((i + 1 : Nat) : Int)) (by omega) (fun m' s' k hk hs' => ?_) (fun m' s' => ?_) (i + 1) s (by omega) (by omega)]
    · rfl
    · obtain ⟨v, hv⟩ : ∃ v, ms[k]? = some v := ⟨_, List.getElem?_eq_getElem hk⟩
      have e : stayAt ms x.2.2.1 i k = stay u v x.2.2.1 := by unfold stayAt; rw [hu, hv]
      rw [F_spec_swClose_L2, if_pos (by simp; omega), e]
      unfold jK1
      dsimp only
      rw [idx_nat, hv, Option.bind_some, spec_apStay u v x.2.2.1 (hg u (List.mem_of_getElem? hu)) (hg v (List.mem_of_getElem? hv)), Option.bind_some, app_ok (by simp; omega), w64_succ (k := k) (by omega)]
      cases stay u v x.2.2.1 <;> simp
    · rw [F_spec_swClose_L2, if_neg (by simp), w64_succ (by omega)]
  · rw [F_spec_swClose_L1, if_neg (by simp)]
theorem chart_spots {c : List (Int × Int)} (h : okChart c = true) : ∀ s ∈ c, okSpot s = true := by
  intro s hs
  unfold okChart at h
  rw [Bool.and_eq_true] at h
  obtain ⟨k, hk⟩ := List.getElem?_of_mem hs
  have := List.all_eq_true.1 h.2 k (List.mem_range.2 (List.getElem?_eq_some_iff.1 hk).1)
  rw [newAt_of hk, Bool.and_eq_true] at this
  exact this.1
theorem moves_good {x : ShowT} (f : ShowFacts x) {p : Nat} (hp : p < x.2.1.length) : ∀ u ∈ movesOf x p, goodMove u := by
  intro u hu
  obtain ⟨a, b, n, h1, h2, h3, h4, h5, h6, h7, h8⟩ := part_facts f hp
  unfold movesOf at hu
  rw [List.mem_map] at hu
  obtain ⟨i, hi, rfl⟩ := hu
  rw [chartAt_of h1, List.mem_range] at hi
  rw [chartAt_of h1, chartAt_of h2]
  refine ⟨?_, ?_⟩
  · dsimp only
    rw [List.getElem?_eq_getElem hi]
    exact chart_spots (f.ch a (List.mem_of_getElem? h1)) _ (List.getElem_mem hi)
  · dsimp only
    have hi' : i < b.length := by omega
    rw [List.getElem?_eq_getElem hi']
    exact chart_spots (f.ch b (List.mem_of_getElem? h2)) _ (List.getElem_mem hi')
/-! parts that are not safe -/
def safeAt (x : ShowT) (k : Nat) : Bool := (closeOf (movesOf x k) x.2.2.1).isEmpty && (widesOf x k).isEmpty
def unsafs (x : ShowT) : List Int := filt (fun k => !safeAt x k) x.2.1.length
theorem spec_swUnsafe (x : ShowT) (f : ShowFacts x) : F_spec_swUnsafe x = some (unsafs x) := by
  have hn := f.n1
  have hc := f.nc
  unfold F_spec_swUnsafe unsafs
  rw [loopFilter (F_spec_swUnsafe_L1 x) x.2.1.length (fun k => !safeAt x k) some (by omega) (fun m s k hk hsl => ?_) (fun m s => ?_)]
  · have hl := moves_len x f k hk
    have h1 := closeOf_len (movesOf x k) x.2.2.1 (by omega) (moves_good f hk)
    have h2 : (widesOf x k).length ≤ 12 := Nat.le_trans (filt_len _ _) hl
    rw [F_spec_swUnsafe_L1, if_pos (by simp; omega)]
    unfold jK1
    dsimp only
    rw [spec_swClose x f k hk (moves_good f hk), Option.bind_some, spec_swWide x f k hk, Option.bind_some, w64_eq (x := _ + _) (by omega) (by omega), app_ok (by simp; omega), w64_succ (by omega)]
    unfold safeAt
    cases h3 : closeOf (movesOf x k) x.2.2.1 with
    | nil =>
      cases h4 : widesOf x k with
      | nil => simp
      | cons a l => rw [if_pos (by simp <;> omega)]; simp
    | cons a l => rw [if_pos (by simp <;> omega)]; simp
  · rw [F_spec_swUnsafe_L1, if_neg (by simp)]
theorem impl_unsafParts (x : ShowT) (f : ShowFacts x) : F_impl_unsafParts x = some (unsafs x) := by
  have hn := f.n1
  have hc := f.nc
  unfold F_impl_unsafParts unsafs
  rw [loopFilter (F_impl_unsafParts_L1 x) x.2.1.length (fun k => !safeAt x k) some (by omega) (fun m s k hk hsl => ?_) (fun m s => ?_)]
  · have hl := moves_len x f k hk
    rw [F_impl_unsafParts_L1, if_pos (by simp; omega)]
    unfold jK1
    dsimp only
    rw [impl_wideSteps x f k hk, Option.bind_some, impl_showMoves x f k hk, Option.bind_some, impl_pairsTooClose _ _ (by omega) (moves_good f hk), Option.bind_some, app_ok (by simp; omega), w64_succ (by omega)]
    unfold safeAt
    cases h4 : widesOf x k with
    | cons a l => rw [if_pos (by simp <;> omega)]; simp
    | nil =>
      rw [if_neg (by simp)]
      cases h3 : closeOf (movesOf x k) x.2.2.1 with
      | nil => simp
      | cons a l => rw [if_pos (by simp <;> omega)]; simp
  · rw [F_impl_unsafParts_L1, if_neg (by simp)]
def unsafAns (x : ShowT) : List Int × Bool := if okShow x then (unsafs x, true) else ([], false)
theorem spec_UnsafeParts (x : ShowT) (h : lensOk x) : F_spec_UnsafeParts x = some (unsafAns x) := by
  unfold F_spec_UnsafeParts unsafAns
  rw [spec_swGood x h.1 h.2.1 h.2.2, Option.bind_some]
  cases hs : okShow x with
  | false => simp
  | true => simp [spec_swUnsafe x (facts hs)]
end Go.Proofs.Ytmkignciedkidaa
/-
  SUMS OF SQUARES, PLAIN: of parts and of ways.
-/
set_option linter.unusedSimpArgs false
set_option linter.unusedVariables false
namespace Go.Proofs.Ytmkignciedkidaa
open Go
/-! squares and their sums -/
theorem sqM_bd {u : MoveT} (h : goodMove u) : 0 ≤ sqM u ∧ sqM u ≤ 2089984 := by
  have h1 := h.1
  have h2 := h.2
  unfold okSpot at h1 h2
  rw [Bool.and_eq_true, okIn_iff, okIn_iff] at h1 h2
  have a1 : 0 ≤ (u.1.1 - u.2.1.1) * (u.1.1 - u.2.1.1) ∧ (u.1.1 - u.2.1.1) * (u.1.1 - u.2.1.1) ≤ 1280 * 1280 := sqB (by omega) (by omega)
  have a2 : 0 ≤ (u.1.2 - u.2.1.2) * (u.1.2 - u.2.1.2) ∧ (u.1.2 - u.2.1.2) * (u.1.2 - u.2.1.2) ≤ 672 * 672 := sqB (by omega) (by omega)
  unfold sqM sqOf
  rw [w64_eq (x := u.1.1 - u.2.1.1) (by omega) (by omega), w64_eq (x := u.1.2 - u.2.1.2) (by omega) (by omega)]
  rw [w64_eq (x := (u.1.1 - u.2.1.1) * (u.1.1 - u.2.1.1)) (by omega) (by omega), w64_eq (x := (u.1.2 - u.2.1.2) * (u.1.2 - u.2.1.2)) (by omega) (by omega), w64_eq (by omega) (by omega)]
  omega
theorem fold_sum : ∀ (l : List Int) (a : Int), (∀ u ∈ l, 0 ≤ u ∧ u ≤ 20000000) → 0 ≤ a → a + l.length * 20000000 ≤ 1000000000000 → l.foldl (fun a u => w64 (a + u)) a = a + l.sum ∧ 0 ≤ l.sum ∧ l.sum ≤ l.length * 20000000
  | [], a, _, _, _ => by simp
  | u :: l, a, h, h0, h1 => by
    have hu := h u (by simp)
    simp only [List.length_cons] at h1
    have hw : w64 (a + u) = a + u := w64_eq (by omega) (by omega)
    obtain ⟨e1, e2, e3⟩ := fold_sum l (a + u) (fun v hv => h v (by simp [hv])) (by omega) (by omega)
    rw [List.foldl_cons, hw, e1, List.sum_cons, List.length_cons]
    refine ⟨by omega, by omega, by omega⟩
theorem addTo_zip (sq s : List Int) (h : s.length = sq.length) : addTo sq s = List.zipWith (fun a u => w64 (a + u)) s sq := by
  have key : ∀ n, n ≤ sq.length → ∀ j : Nat, ((List.range n).foldl (fun s k => addStep sq k s) s)[j]? = if j < n then (match s[j]?, sq[j]? with | some a, some u => some (w64 (a + u)) | _, _ => none) else s[j]? := by
    intro n
    induction n with
    | zero => intro _ j; simp
    | succ n ih =>
      intro hn j
      rw [List.range_succ, List.foldl_append, List.foldl_cons, List.foldl_nil]
      have ih' := ih (by omega)
      generalize (List.range n).foldl (fun s k => addStep sq k s) s = t at ih' ⊢
      have e1 := ih' n
      rw [if_neg (by omega)] at e1
      have ea : s[n]? = some (s[n]'(by omega)) := List.getElem?_eq_getElem (by omega)
      have eu : sq[n]? = some (sq[n]'(by omega)) := List.getElem?_eq_getElem (by omega)
      have tl : n < t.length := by rw [ea] at e1; exact (List.getElem?_eq_some_iff.1 e1).1
      unfold addStep
      rw [e1, ea, eu]
      dsimp only
      by_cases hj : j = n
      · subst hj
        rw [List.getElem?_set_self tl, if_pos (by omega), ea, eu]
      · rw [List.getElem?_set_ne (by omega), ih' j]
        by_cases hjn : j < n
        · rw [if_pos hjn, if_pos (by omega)]
        · rw [if_neg hjn, if_neg (by omega)]
  apply List.ext_getElem?
  intro j
  unfold addTo
  rw [key _ (Nat.le_refl _) j, List.getElem?_zipWith]
  by_cases hj : j < sq.length
  · rw [if_pos hj]
    cases s[j]? <;> cases sq[j]? <;> rfl
  · rw [if_neg hj, List.getElem?_eq_none (l := s) (by omega)]
theorem zip_sum : ∀ (s sq : List Int) (A : Int), s.length = sq.length → A ≤ 1000000000 → (∀ a ∈ s, 0 ≤ a ∧ a ≤ A) → (∀ u ∈ sq, 0 ≤ u ∧ u ≤ 2089984) →
    (List.zipWith (fun a u => w64 (a + u)) s sq).sum = s.sum + sq.sum ∧ ∀ v ∈ List.zipWith (fun a u => w64 (a + u)) s sq, 0 ≤ v ∧ v ≤ A + 2089984
  | [], [], A, _, _, _, _ => by simp
  | [], _ :: _, A, h, _, _, _ => by simp at h
  | _ :: _, [], A, h, _, _, _ => by simp at h
  | a :: s, u :: sq, A, h, hA, hs, hq => by
    have ha := hs a (by simp)
    have hu := hq u (by simp)
    obtain ⟨e1, e2⟩ := zip_sum s sq A (by simpa using h) hA (fun v hv => hs v (by simp [hv])) (fun v hv => hq v (by simp [hv]))
    rw [List.zipWith_cons_cons, w64_eq (x := a + u) (by omega) (by omega), List.sum_cons, List.sum_cons, List.sum_cons, e1]
    refine ⟨by omega, fun v hv => ?_⟩
    rcases List.mem_cons.1 hv with rfl | hv
    · omega
    · exact e2 v hv
theorem squares_bd {x : ShowT} (f : ShowFacts x) {p : Nat} (hp : p < x.2.1.length) : (squaresOf x p).length = (chartAt x 0).length ∧ ∀ u ∈ squaresOf x p, 0 ≤ u ∧ u ≤ 2089984 := by
  refine ⟨by unfold squaresOf; rw [List.length_map, moves_len' f hp], fun u hu => ?_⟩
  unfold squaresOf at hu
  obtain ⟨m, hm, rfl⟩ := List.mem_map.1 hu
  exact sqM_bd (moves_good f hp m hm)
theorem partSum_eq {x : ShowT} (f : ShowFacts x) {p : Nat} (hp : p < x.2.1.length) : partSum x p = (squaresOf x p).sum ∧ 0 ≤ partSum x p ∧ partSum x p ≤ 240000000 := by
  obtain ⟨h1, h2⟩ := squares_bd f hp
  obtain ⟨c, hc, he, hl, hu⟩ := first_chart f
  rw [he] at h1
  have := fold_sum (squaresOf x p) 0 (fun u hu => by have := h2 u hu; omega) (by omega) (by omega)
  have e : partSum x p = (squaresOf x p).foldl (fun a u => w64 (a + u)) 0 := rfl
  omega
/-- What the law sums and which part it finds widest, after the first n parts. -/
def sumT (x : ShowT) (n : Nat) : Int × Int := (List.range n).foldl (fun s p => (w64 (s.1 + partSum x p), if s.2 < partSum x p then partSum x p else s.2)) (0, 0)
theorem sumT_all {x : ShowT} (f : ShowFacts x) : ∀ n, n ≤ x.2.1.length →
    (∀ w, w = (List.range n).foldl (fun s p => addTo (squaresOf x p) s) (List.replicate (chartAt x 0).length 0) → w.length = (chartAt x 0).length ∧ (sumT x n).1 = w.sum ∧ ∀ v ∈ w, 0 ≤ v ∧ v ≤ n * 2089984) ∧ 0 ≤ (sumT x n).1 ∧ (sumT x n).1 ≤ n * 240000000 := by
  intro n
  have n1 := f.n1
  have nc := f.nc
  induction n with
  | zero =>
    intro _
    refine ⟨fun w hw => ?_, by unfold sumT; simp, by unfold sumT; simp⟩
    subst hw
    refine ⟨by simp, by unfold sumT; simp, fun v hv => ?_⟩
    have := List.eq_of_mem_replicate hv
    omega
  | succ n ih =>
    intro hn
    obtain ⟨ih1, ih2, ih3⟩ := ih (by omega)
    obtain ⟨e1, e2, e3⟩ := ih1 _ rfl
    obtain ⟨q1, q2⟩ := squares_bd f (p := n) (by omega)
    obtain ⟨p1, p2, p3⟩ := partSum_eq f (p := n) (by omega)
    have hs : (sumT x (n + 1)).1 = (sumT x n).1 + partSum x n := by
      unfold sumT
      rw [List.range_succ, List.foldl_append, List.foldl_cons, List.foldl_nil]
      show w64 ((sumT x n).1 + partSum x n) = (sumT x n).1 + partSum x n
      exact w64_eq (by omega) (by omega)
    refine ⟨fun w hw => ?_, by omega, by omega⟩
    rw [List.range_succ, List.foldl_append, List.foldl_cons, List.foldl_nil, addTo_zip _ _ (by rw [e1, q1])] at hw
    obtain ⟨z1, z2⟩ := zip_sum _ (squaresOf x n) (n * 2089984) (by rw [e1, q1]) (by omega) e3 q2
    rw [← hw] at z1 z2
    refine ⟨by rw [hw, List.length_zipWith, e1, q1]; exact Nat.min_self _, by omega, fun v hv => by have := z2 v hv; omega⟩
theorem ways_sum {x : ShowT} (f : ShowFacts x) : (waysOf x).foldl (fun a u => w64 (a + u)) 0 = (sumT x x.2.1.length).1 := by
  have n1 := f.n1
  have nc := f.nc
  obtain ⟨h1, h2, h3⟩ := sumT_all f _ (Nat.le_refl _)
  obtain ⟨e1, e2, e3⟩ := h1 (waysOf x) rfl
  have hl := waysOf_len f
  have := (fold_sum (waysOf x) 0 (fun u hu => by have := e3 u hu; omega) (by omega) (by omega)).1
  omega
end Go.Proofs.Ytmkignciedkidaa
/-
  THE COUNTS OF A SHOW, PLAIN.
-/
set_option linter.unusedSimpArgs false
set_option linter.unusedVariables false
namespace Go.Proofs.Ytmkignciedkidaa
open Go
def sumW (l : List Int) : Int := l.foldl (fun a u => w64 (a + u)) 0
theorem spec_swTotal (x : ShowT) (h : x.2.1.length < 4611686018427387904) : F_spec_swTotal x = some (sumW x.2.1) := by
  unfold F_spec_swTotal sumW
  rw [loopFold (F_spec_swTotal_L1 x) x.2.1 (fun a u => w64 (a + u)) some h (fun m s k u hk hu => ?_) (fun m s => ?_)]
  · rw [F_spec_swTotal_L1, if_pos (by simp; omega), idx_nat, hu, Option.bind_some, w64_succ (by omega)]
  · rw [F_spec_swTotal_L1, if_neg (by simp)]
theorem impl_totalCounts (x : ShowT) (h : x.2.1.length < 4611686018427387904) : F_impl_totalCounts x = some (sumW x.2.1) := by
  unfold F_impl_totalCounts sumW
  rw [loopFold (F_impl_totalCounts_L1 x) x.2.1 (fun a u => w64 (a + u)) some h (fun m s k u hk hu => ?_) (fun m s => ?_)]
  · rw [F_impl_totalCounts_L1, if_pos (by simp; omega), idx_nat, hu, Option.bind_some, w64_succ (by omega)]
  · rw [F_impl_totalCounts_L1, if_neg (by simp)]
end Go.Proofs.Ytmkignciedkidaa
/-
  WHAT TWO SHOWS DEMAND, COMPARED, PLAIN.
-/
set_option linter.unusedSimpArgs false
set_option linter.unusedVariables false
namespace Go.Proofs.Ytmkignciedkidaa
open Go
theorem w64_mod (x : Int) : w64 x = (x + 9223372036854775808) % 18446744073709551616 - 9223372036854775808 := by
  unfold w64 IntKind.wrap
  simp only [IntKind.bits, IntKind.signed]
  simp only [ge_iff_le, Bool.true_and, decide_eq_true_eq]
  split <;> omega
theorem w64_addW (a b : Int) : w64 (w64 a + b) = w64 (a + b) := by rw [w64_mod, w64_mod a, w64_mod (a + b)]; omega
theorem w64_subW (a b : Int) : w64 (w64 a - b) = w64 (a - b) := by rw [w64_mod, w64_mod a, w64_mod (a - b)]; omega
theorem w64_subR (a b : Int) : w64 (a - w64 b) = w64 (a - b) := by rw [w64_mod, w64_mod b, w64_mod (a - b)]; omega
theorem foldl_addW (l : List Int) : ∀ a, l.foldl (fun a u => w64 (a + u)) (w64 a) = w64 (a + l.sum) := by
  induction l with
  | nil => intro a; simp
  | cons u l ih => intro a; rw [List.foldl_cons, w64_addW, ih, List.sum_cons, Int.add_assoc]
theorem foldl_subW (l : List Int) : ∀ a, l.foldl (fun a u => w64 (a - u)) (w64 a) = w64 (a - l.sum) := by
  induction l with
  | nil => intro a; simp
  | cons u l ih => intro a; rw [List.foldl_cons, w64_subW, ih, List.sum_cons, show a - u - l.sum = a - (u + l.sum) by omega]
theorem sumW_eq (l : List Int) : sumW l = w64 l.sum := by
  have := foldl_addW l 0
  rw [Int.zero_add] at this
  exact this
theorem sub_sum (l m : List Int) : m.foldl (fun a u => w64 (a - u)) (sumW l) = w64 (sumW l - sumW m) := by
  rw [sumW_eq l, sumW_eq m, foldl_subW, w64_subW, w64_subR]
def signI (n : Int) : Int := if 0 < n then 1 else if n < 0 then -1 else 0
theorem spec_l1Sign (n : Int) : F_spec_l1Sign n = some (signI n) := by
  unfold F_spec_l1Sign signI
  by_cases h : 0 < n
  · simp [h]
  · by_cases h2 : n < 0 <;> simp [h, h2]
theorem impl_sideOf (n : Int) : F_impl_sideOf n = some (signI n) := by
  unfold F_impl_sideOf signI
  by_cases h : 0 < n
  · simp [h]
  · by_cases h2 : n < 0 <;> simp [h, h2]
def demand (x y : ShowT) : Int :=
  if (unsafs x).length = (unsafs y).length then
    (if sumW x.2.1 = sumW y.2.1 then signI (w64 (sumW (waysOf x) - sumW (waysOf y))) else signI (w64 (sumW y.2.1 - sumW x.2.1)))
  else signI (w64 (((unsafs x).length : Int) - ((unsafs y).length : Int)))
theorem spec_cpCompare (x y : ShowT) (hx : lensOk x) (hy : lensOk y) (sx : okShow x = true) (sy : okShow y = true) : F_spec_cpCompare x y = some (demand x y) := by
  have fx := facts sx
  have fy := facts sy
  have lx := waysOf_len fx
  have ly := waysOf_len fy
  have ux : unsafAns x = (unsafs x, true) := by unfold unsafAns; rw [sx]; rfl
  have uy : unsafAns y = (unsafs y, true) := by unfold unsafAns; rw [sy]; rfl
  unfold F_spec_cpCompare demand
  rw [spec_UnsafeParts x hx, ux, Option.bind_some, spec_UnsafeParts y hy, uy, Option.bind_some]
  by_cases h1 : (unsafs x).length = (unsafs y).length
  · rw [if_neg (by simp [h1]), if_pos h1, spec_swTotal x hx.2.2, Option.bind_some, spec_swTotal y hy.2.2, Option.bind_some]
    by_cases h2 : sumW x.2.1 = sumW y.2.1
    · rw [if_neg (by simp [h2]), if_pos h2, (spec_cpWays x fx).1, Option.bind_some, spec_cpSum _ (by omega), Option.bind_some, (spec_cpWays y fy).1, Option.bind_some, spec_cpSum _ (by omega), Option.bind_some, spec_l1Sign]
      rfl
    · rw [if_pos (by simp [h2]), if_neg h2, Option.bind_some, Option.bind_some, spec_l1Sign]
      rfl
  · rw [if_pos (by simp; omega), if_neg h1, spec_l1Sign]
    rfl
theorem impl_compareDemand (x y : ShowT) (hx : lensOk x) (hy : lensOk y) (sx : okShow x = true) (sy : okShow y = true) : F_impl_compareDemand x y = some (demand x y) := by
  have fx := facts sx
  have fy := facts sy
  have lx := waysOf_len fx
  have ly := waysOf_len fy
  unfold F_impl_compareDemand demand
  rw [impl_unsafParts x fx, Option.bind_some, impl_unsafParts y fy, Option.bind_some]
  by_cases h1 : (unsafs x).length = (unsafs y).length
  · rw [if_neg (by simp [h1]), if_pos h1, impl_totalCounts x hx.2.2, Option.bind_some, impl_totalCounts y hy.2.2, Option.bind_some]
    by_cases h2 : sumW x.2.1 = sumW y.2.1
    · rw [if_neg (by simp [h2]), if_pos h2, impl_waySums x fx, Option.bind_some,
        loopFold (F_impl_compareDemand_L1 (waysOf x) y) (waysOf x) (fun a u => w64 (a + u)) (fun s => Option.bind (F_impl_waySums y) fun u106 => F_impl_compareDemand_L2 u106 FU s 0) (by omega) (fun m s k u hk hu => ?_) (fun m s => ?_)]
      · rw [impl_waySums y fy, Option.bind_some, loopFold (F_impl_compareDemand_L2 (waysOf y)) (waysOf y) (fun a u => w64 (a - u)) (fun s => some (signI s)) (by omega) (fun m s k u hk hu => ?_) (fun m s => ?_)]
        · have := sub_sum (waysOf x) (waysOf y)
          unfold sumW at this ⊢
          rw [this]
        · rw [F_impl_compareDemand_L2, if_pos (by simp; omega), idx_nat, hu, Option.bind_some, w64_succ (by omega)]
        · rw [F_impl_compareDemand_L2, if_neg (by simp), impl_sideOf]
          rfl
      · rw [F_impl_compareDemand_L1, if_pos (by simp; omega), idx_nat, hu, Option.bind_some, w64_succ (by omega)]
      · rw [F_impl_compareDemand_L1, if_neg (by simp)]
    · rw [if_pos (by simp [h2]), if_neg h2, impl_sideOf]
      rfl
  · rw [if_pos (by simp; omega), if_neg h1, impl_sideOf]
    rfl
def cmpAns (x y : ShowT) : Int × Bool := if okShow x && okShow y then (demand x y, true) else (0, false)
theorem spec_CompareDemand (x y : ShowT) (hx : lensOk x) (hy : lensOk y) : F_spec_CompareDemand x y = some (cmpAns x y) := by
  unfold F_spec_CompareDemand jK1 cmpAns
  dsimp only
  rw [spec_swGood x hx.1 hx.2.1 hx.2.2, Option.bind_some, spec_swGood y hy.1 hy.2.1 hy.2.2, Option.bind_some]
  cases sx : okShow x with
  | false => simp
  | true =>
    cases sy : okShow y with
    | false => simp
    | true => simp [spec_cpCompare x y hx hy sx sy]
theorem impl_CompareDemand (x y : ShowT) (hx : lensOk x) (hy : lensOk y) : F_impl_CompareDemand x y = some (cmpAns x y) := by
  unfold F_impl_CompareDemand jK1 cmpAns
  dsimp only
  rw [impl_IsShow x hx.1 hx.2.1 hx.2.2, Option.bind_some, impl_IsShow y hy.1 hy.2.1 hy.2.2, Option.bind_some]
  cases sx : okShow x with
  | false => simp
  | true =>
    cases sy : okShow y with
    | false => simp
    | true => simp [impl_compareDemand x y hx hy sx sy]
end Go.Proofs.Ytmkignciedkidaa
/-
  PLAIN BASE, 2: the laws' marks: a mark is put into every place of a list and found there again. No program.
-/
set_option linter.unusedSimpArgs false
set_option linter.unusedVariables false
namespace Go.Proofs.Ytmkignciedkidaa
open Go
end Go.Proofs.Ytmkignciedkidaa
