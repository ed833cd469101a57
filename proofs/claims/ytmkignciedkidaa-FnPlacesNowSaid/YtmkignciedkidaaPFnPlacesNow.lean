import Derived.Test.YtmkignciedkidaaCore0
import Derived.Test.YtmkignciedkidaaF
/-
  PLAIN BASE: lemmas on the words of Core0, on loops with fuel. No program.
-/
set_option linter.unusedSimpArgs false
set_option linter.unusedVariables false
namespace Go.Proofs.Ytmkignciedkidaa
open Go
theorem w64_eq {x : Int} (h1 : -9223372036854775808 ≤ x) (h2 : x ≤ 9223372036854775807) : w64 x = x := by
  unfold w64 IntKind.wrap
  simp only [IntKind.bits, IntKind.signed]
  simp only [ge_iff_le, Bool.true_and, decide_eq_true_eq]
  split <;> omega
theorem w64_succ {k : Nat} (h : k < 4611686018427387904) : w64 ((k : Int) + 1) = ((k + 1 : Nat) : Int) := by
  rw [w64_eq (by omega) (by omega)]; omega
theorem idx_nat {α : Type} (l : List α) (k : Nat) : idx l (k : Int) = l[k]? := by unfold idx; simp
theorem idx_zero {α : Type} (l : List α) : idx l 0 = l[0]? := by unfold idx; simp
theorem idx_int {α : Type} {l : List α} {i : Int} (h0 : 0 ≤ i) : idx l i = l[i.toNat]? := by unfold idx; rw [if_pos h0]
theorem FU_gt {n : Nat} (h : n < 4611686018427387904) : n < FU := h
theorem sl_take {α : Type} (l : List α) {k : Nat} (h : k ≤ l.length) : sl l 0 (k : Int) = some (l.take k) := by
  unfold sl
  rw [if_pos (by omega)]
  simp
/-- A loop over the numbers below n that ends early where p says no. -/
theorem loopR {R : Type} (f : Nat → Int → Option R) (n : Nat) (p : Nat → Bool) (rest bad : Option R) (hn : n < 4611686018427387904)
    (hs : ∀ m k, k < n → f (m + 1) (k : Int) = if p k = true then f m ((k + 1 : Nat) : Int) else bad) (he : ∀ m, f (m + 1) (n : Int) = rest) : f FU 0 = if (List.range n).all p = true then rest else bad := by
  have key : ∀ d k m, n - k = d → k ≤ n → n - k < m → f m (k : Int) = if (List.range' k (n - k)).all p = true then rest else bad := by
    intro d
    induction d with
    | zero =>
      intro k m hd hk hm
      have : k = n := by omega
      subst this
      cases m with
      | zero => omega
      | succ m => simp [he]
    | succ d ih =>
      intro k m hd hk hm
      cases m with
      | zero => omega
      | succ m =>
        rw [hs m k (by omega), hd, List.range'_succ, List.all_cons]
        cases hp : p k with
        | false => simp
        | true =>
          simp only [if_true, Bool.true_and]
          rw [ih (k + 1) m (by omega) (by omega) (by omega), show n - (k + 1) = d by omega]
  have := key n 0 FU (by omega) (by omega) (FU_gt (by omega))
  simpa [List.range_eq_range'] using this
theorem range_all {α : Type} (l : List α) (p : Nat → Bool) (q : α → Bool) (h : ∀ k x, l[k]? = some x → p k = q x) : (List.range l.length).all p = l.all q := by
  rw [Bool.eq_iff_iff, List.all_eq_true, List.all_eq_true]
  constructor
  · intro h1 x hx
    obtain ⟨k, hk⟩ := List.getElem?_of_mem hx
    rw [← h k x hk]
    exact h1 k (List.mem_range.2 (List.getElem?_eq_some_iff.1 hk).1)
  · intro h1 k hk
    have hk' := List.mem_range.1 hk
    rw [h k l[k] (by simp [hk'])]
    exact h1 _ (List.getElem_mem hk')
/-- A loop over a list that ends early where q says no. -/
theorem loopL {α R : Type} (f : Nat → Int → Option R) (l : List α) (q : α → Bool) (rest bad : Option R) (hn : l.length < 4611686018427387904)
    (hs : ∀ m k x, k < l.length → l[k]? = some x → f (m + 1) (k : Int) = if q x = true then f m ((k + 1 : Nat) : Int) else bad) (he : ∀ m, f (m + 1) (l.length : Int) = rest) : f FU 0 = if l.all q = true then rest else bad := by
  rw [loopR f l.length (fun k => match l[k]? with | some x => q x | none => true) rest bad hn (fun m k hk => ?_) he, range_all l _ q (fun k x hx => by simp [hx])]
  have hx : l[k]? = some l[k] := by simp [hk]
  rw [hs m k l[k] hk hx]
  simp [hx]
/-- A loop that carries a state through the numbers below n. -/
theorem loopS {R S : Type} (f : Nat → S → Int → Option R) (n : Nat) (step : Nat → S → S) (rest : S → Option R) (hn : n < 4611686018427387904)
    (I : Nat → S → Prop) (s0 : S) (h0 : I 0 s0) (hI : ∀ k s, k < n → I k s → I (k + 1) (step k s))
    (hs : ∀ m k s, k < n → I k s → f (m + 1) s (k : Int) = f m (step k s) ((k + 1 : Nat) : Int)) (he : ∀ m s, I n s → f (m + 1) s (n : Int) = rest s) :
    f FU s0 0 = rest ((List.range n).foldl (fun s k => step k s) s0) ∧ I n ((List.range n).foldl (fun s k => step k s) s0) := by
  have key : ∀ d k m s, n - k = d → k ≤ n → n - k < m → I k s → f m s (k : Int) = rest ((List.range' k (n - k)).foldl (fun s k => step k s) s) ∧ I n ((List.range' k (n - k)).foldl (fun s k => step k s) s) := by
    intro d
    induction d with
    | zero =>
      intro k m s hd hk hm hi
      have : k = n := by omega
      subst this
      cases m with
      | zero => omega
      | succ m => simp [he m s hi, hi]
    | succ d ih =>
      intro k m s hd hk hm hi
      cases m with
      | zero => omega
      | succ m =>
        rw [hs m k s (by omega) hi, hd, List.range'_succ, List.foldl_cons]
        have := ih (k + 1) m (step k s) (by omega) (by omega) (by omega) (hI k s (by omega) hi)
        rwa [show n - (k + 1) = d by omega] at this
  have := key n 0 FU s0 (by omega) (by omega) (FU_gt (by omega)) h0
  simpa [List.range_eq_range'] using this
/-! ### Sizes, copies, comparisons (the laws' own) -/
def Szd (o : Option Int) (n : Int) (Q : Prop) : Prop := ∃ r, o = some r ∧ (r < 0 ∨ (0 ≤ r ∧ r ≤ n ∧ Q))
def allS {α : Type} (S : α → Prop) (l : List α) : Prop := l.length ≤ 1048576 ∧ ∀ x ∈ l, S x
theorem idx_lt {α : Type} {l : List α} {k : Nat} (h : k < l.length) : idx l (k : Int) = some l[k] := by rw [idx_nat]; simp [h]
theorem Szd.imp {o : Option Int} {n : Int} {Q R : Prop} (h : Szd o n Q) (hi : Q → R) : Szd o n R := by
  obtain ⟨r, h1, h2⟩ := h
  exact ⟨r, h1, h2.imp id fun h => ⟨h.1, h.2.1, hi h.2.2⟩⟩
theorem mkL_nat {α : Type} {n : Nat} (h : n ≤ 1073741824) (z : α) : mkL (n : Int) z = some (List.replicate n z) := by
  unfold mkL
  rw [if_pos (by omega)]
  simp
theorem eqL {α : Type} {S : α → Prop} (f : Nat → Int → Option Bool) (l : List α) (g : α → α → Option Bool)
    (hs : ∀ m k, f (m + 1) k = if (decide (k < (List.length l : Int))) = true then Option.bind (idx l k) fun u => Option.bind (idx l k) fun v => Option.bind (g u v) fun b => (if (!b) = true then some false else f m (w64 (k + 1))) else some true)
    (hg : ∀ x, S x → g x x = some true) (hl : allS S l) : (if ((List.length l : Int) != (List.length l : Int)) = true then some false else f FU 0) = some true := by
  have hl1 := hl.1
  rw [if_neg (by simp)]
  have := loopL f l (fun _ => true) (some true) (some false) (by omega) (fun m k x hk hx => ?_) (fun m => by rw [hs, if_neg (by simp)])
  · simpa using this
  · rw [hs, if_pos (by simp; omega), idx_nat, hx, Option.bind_some, Option.bind_some, hg x (hl.2 _ (List.mem_of_getElem? hx)), Option.bind_some, w64_succ (by omega)]
    rfl
theorem eqLB {α : Type} [BEq α] {S : α → Prop} (hn : ∀ x : α, (x != x) = false) (f : Nat → Int → Option Bool) (l : List α)
    (hs : ∀ m k, f (m + 1) k = if (decide (k < (List.length l : Int))) = true then Option.bind (idx l k) fun u => Option.bind (idx l k) fun v => (if (u != v) = true then some false else f m (w64 (k + 1))) else some true)
    (hl : allS S l) : (if ((List.length l : Int) != (List.length l : Int)) = true then some false else f FU 0) = some true := by
  have hl1 := hl.1
  rw [if_neg (by simp)]
  have := loopL f l (fun _ => true) (some true) (some false) (by omega) (fun m k x hk hx => ?_) (fun m => by rw [hs, if_neg (by simp)])
  · simpa using this
  · rw [hs, if_pos (by simp; omega), idx_nat, hx, Option.bind_some, Option.bind_some, if_neg (by rw [hn x]; exact Bool.false_ne_true), w64_succ (by omega), if_pos rfl]
theorem neI (x : Int) : (x != x) = false := by simp
/-- A loop over a list that carries a state. -/
theorem loopFold {α S R : Type} (f : Nat → S → Int → Option R) (l : List α) (step : S → α → S) (rest : S → Option R) (hn : l.length < 4611686018427387904)
    (hs : ∀ m s k x, k < l.length → l[k]? = some x → f (m + 1) s (k : Int) = f m (step s x) ((k + 1 : Nat) : Int)) (he : ∀ m s, f (m + 1) s (l.length : Int) = rest s) (s0 : S) : f FU s0 0 = rest (l.foldl step s0) := by
  have key : ∀ d k m s, l.length - k = d → k ≤ l.length → l.length - k < m → f m s (k : Int) = rest ((l.drop k).foldl step s) := by
    intro d
    induction d with
    | zero =>
      intro k m s hd hk hm
      have : k = l.length := by omega
      subst this
      cases m with
      | zero => omega
      | succ m => rw [he]; simp
    | succ d ih =>
      intro k m s hd hk hm
      cases m with
      | zero => omega
      | succ m =>
        have hk' : k < l.length := by omega
        rw [hs m s k l[k] hk' (by simp [hk']), ih (k + 1) m _ (by omega) (by omega) (by omega), List.drop_eq_getElem_cons hk', List.foldl_cons]
  have := key _ 0 FU s0 rfl (by omega) (FU_gt (by omega))
  simpa using this
end Go.Proofs.Ytmkignciedkidaa
/-
  DRAWS, PLAIN: numbers from bytes are there, in their bounds.
-/
set_option linter.unusedSimpArgs false
set_option linter.unusedVariables false
namespace Go.Proofs.Ytmkignciedkidaa
open Go
/-- There is a value, and it is as told. -/
def Tot {α : Type} (o : Option α) (P : α → Prop) : Prop := ∃ v, o = some v ∧ P v
section
variable {α β : Type}
theorem Tot.some {v : α} {P : α → Prop} (h : P v) : Tot (some v) P := ⟨v, rfl, h⟩
theorem Tot.bind {o : Option α} {f : α → Option β} {P : α → Prop} {Q : β → Prop} (h : Tot o P) (hf : ∀ v, P v → Tot (f v) Q) : Tot (Option.bind o f) Q := by
  obtain ⟨v, rfl, hv⟩ := h
  exact hf v hv
theorem Tot.bindE {o : Option α} {v : α} {f : α → Option β} {Q : β → Prop} (h : o = Option.some v) (hf : Tot (f v) Q) : Tot (Option.bind o f) Q := by
  rw [h]
  exact hf
theorem Tot.mono {o : Option α} {P Q : α → Prop} (h : Tot o P) (hf : ∀ v, P v → Q v) : Tot o Q := by
  obtain ⟨v, h1, hv⟩ := h
  exact ⟨v, h1, hf v hv⟩
theorem Tot.ite {c : Bool} {A B : Option α} {P : α → Prop} (h1 : c = true → Tot A P) (h2 : c = false → Tot B P) : Tot (if c = true then A else B) P := by
  cases c with
  | true => exact h1 rfl
  | false => exact h2 rfl
theorem Tot.j0 {rest : Option β} {body : Option β → Option β} {Q : β → Prop} (hr : Tot rest Q) (hb : ∀ k, Tot k Q → Tot (body k) Q) : Tot (jK0 rest body) Q := hb rest hr
theorem Tot.j1 {A : Type} {rest : A → Option β} {body : (A → Option β) → Option β} {Q : β → Prop} (P : A → Prop) (hr : ∀ a, P a → Tot (rest a) Q) (hb : ∀ k, (∀ a, P a → Tot (k a) Q) → Tot (body k) Q) : Tot (jK1 rest body) Q := hb rest hr
theorem Tot.of {o : Option Bool} (h : Tot o fun b => b = true) : o = Option.some true := by
  obtain ⟨v, h1, h2⟩ := h
  rw [h1, h2]
theorem Tot.loop {S R : Type} (f : Nat → S → Option R) (μ : S → Nat) (I : S → Prop) (Q : R → Prop) (step : ∀ m s, I s → (∀ s', I s' → μ s' < μ s → Tot (f m s') Q) → Tot (f (m + 1) s) Q) :
    ∀ m s, I s → μ s < m → Tot (f m s) Q := by
  intro m
  induction m with
  | zero => intro s _ h; omega
  | succ m ih => intro s hs h; exact step m s hs fun s' hs' hlt => ih s' hs' (by omega)
end
/-- Bytes, a place in them or behind, and so many steps before it leaves its range. -/
def Cu (c : List Int) (n a : Int) : Prop := (∀ b ∈ c, 0 ≤ b ∧ b ≤ 255) ∧ 0 ≤ a ∧ 0 ≤ n ∧ a + n ≤ 4000000000000000000
theorem Cu.mono {c : List Int} {n m a : Int} (h : Cu c n a) (h0 : 0 ≤ m) (hm : m ≤ n) : Cu c m a := ⟨h.1, h.2.1, h0, by have := h.2.2.2; omega⟩
/-- A value, and the place behind. -/
def Pk {α : Type} (c : List Int) (n : Int) (P : α → Prop) (v : α × List Int × Int × Int) : Prop := P v.1 ∧ v.2.1 = c ∧ Cu c n v.2.2.1
theorem Pk.imp {α : Type} {c : List Int} {n m : Int} {P Q : α → Prop} {v : α × List Int × Int × Int} (h : Pk c n P v) (hp : ∀ r, P r → Q r) (h0 : 0 ≤ m) (hm : m ≤ n) : Pk c m Q v := ⟨hp _ h.1, h.2.1, h.2.2.mono h0 hm⟩
abbrev Cur := List Int × Int × Int
theorem w64_byte {b : Int} (h : 0 ≤ b ∧ b ≤ 255) : w64 b = b := w64_eq (by omega) (by omega)
theorem and_byte (a : Int) : 0 ≤ w64 (andK .u64 a 255) ∧ w64 (andK .u64 a 255) ≤ 255 := by
  have h : andK .u64 a 255 = IntKind.wrap .u64 (((BitVec.ofInt 64 a &&& BitVec.ofInt 64 255).toNat : Nat) : Int) := rfl
  have h2 : (BitVec.ofInt 64 a &&& BitVec.ofInt 64 255).toNat ≤ 255 := by
    rw [BitVec.toNat_and]
    exact Nat.le_trans Nat.and_le_right (by decide)
  rw [h]
  generalize (BitVec.ofInt 64 a &&& BitVec.ofInt 64 255).toNat = v at *
  have e : IntKind.wrap .u64 (v : Int) = v := by
    unfold IntKind.wrap
    simp only [IntKind.bits, IntKind.signed]
    simp
    omega
  rw [e, w64_byte (by omega)]
  omega
theorem next_ok (x : Cur) {m : Int} (h : Cu x.1 m x.2.1) (hm : 1 ≤ m) : Tot (F_spec_l1Cur__next__mut__box x) (Pk x.1 (m - 1) fun r => 0 ≤ r ∧ r ≤ 255) := by
  obtain ⟨h1, h2, h3, h4⟩ := h
  unfold F_spec_l1Cur__next__mut__box jK1
  have e : w64 (x.2.1 + 1) = x.2.1 + 1 := w64_eq (by omega) (by omega)
  have cu : Cu x.1 (m - 1) (x.2.1 + 1) := ⟨h1, by omega, by omega, by omega⟩
  dsimp only
  rw [e]
  have fin : ∀ y : Int, (0 ≤ y ∧ y ≤ 255) → ∀ s1 s2 s3 : Int, Tot (if (decide (x.2.1 + 1 ≤ (List.length x.1 : Int))) = true then some (y, (x.1, x.2.1 + 1, s1)) else some ((w64 (andK .u64 s2 255)), (x.1, x.2.1 + 1, s3))) (Pk x.1 (m - 1) fun r => 0 ≤ r ∧ r ≤ 255) := by
    intro y hy s1 s2 s3
    refine Tot.ite (fun _ => Tot.some ⟨hy, rfl, cu⟩) fun _ => Tot.some ⟨and_byte _, rfl, cu⟩
  refine Tot.ite (fun hc => ?_) fun _ => fin 0 (by omega) _ _ _
  have hlt : x.2.1.toNat < x.1.length := by simp at hc; omega
  refine Tot.bindE (v := x.1[x.2.1.toNat]) (by rw [idx_int h2]; simp [hlt]) ?_
  have hb := h1 _ (List.getElem_mem hlt)
  exact fin _ (by rw [w64_byte hb]; exact hb) _ _ _
theorem pick_ok (x : Cur) (k : Int) {m : Int} (h : Cu x.1 m x.2.1) (hm : 2 ≤ m) : Tot (F_spec_l1Cur__pick__mut__box x k) (Pk x.1 (m - 2) fun r => 0 ≤ r ∧ (r < k ∨ r = 0)) := by
  unfold F_spec_l1Cur__pick__mut__box
  refine Tot.ite (fun _ => Tot.some ⟨⟨by simp, .inr rfl⟩, rfl, h.mono (by omega) (by omega)⟩) fun hk => ?_
  have hk' : 1 < k := by simpa using hk
  refine Tot.bind (next_ok x h (by omega)) fun u hu => ?_
  obtain ⟨hu1, hu2, hu3⟩ := hu
  have fin : ∀ (y a s : Int), 0 ≤ y → Cu x.1 (m - 2) a → Tot (if k = 0 then none else some ((Int.tmod y k), (x.1, a, s))) (Pk x.1 (m - 2) fun r => 0 ≤ r ∧ (r < k ∨ r = 0)) := by
    intro y a s hy ha
    rw [if_neg (by omega)]
    exact Tot.some ⟨⟨Int.tmod_nonneg _ hy, .inl (Int.tmod_lt_of_pos _ (by omega))⟩, rfl, ha⟩
  unfold jK3
  dsimp only
  refine Tot.ite (fun _ => ?_) fun _ => fin _ _ _ hu1.1 (hu3.mono (by omega) (by omega))
  refine Tot.bind (next_ok (x.1, u.2.2.1, u.2.2.2) hu3 (by omega)) fun v hv => ?_
  obtain ⟨hv1, hv2, hv3⟩ := hv
  refine fin _ _ _ ?_ (hv3.mono (by omega) (by omega))
  rw [w64_eq (x := u.1 * 256) (by omega) (by omega), w64_eq (by omega) (by omega)]
  omega
theorem one_ok (x : Cur) (k : Int) {m : Int} (h : Cu x.1 m x.2.1) (hm : 2 ≤ m) : Tot (F_spec_l1Cur__one__mut__box x k) (Pk x.1 (m - 2) fun _ => True) := by
  unfold F_spec_l1Cur__one__mut__box
  refine Tot.bind (pick_ok x k h hm) fun u hu => Tot.some ⟨trivial, rfl, hu.2.2⟩
theorem idx_pick {α : Type} (l : List α) {r : Int} (hl : l ≠ []) (h : 0 ≤ r ∧ (r < (l.length : Int) ∨ r = 0)) : ∃ v, idx l r = some v ∧ v ∈ l ∧ r.toNat < l.length := by
  have hpos : 0 < l.length := List.length_pos_iff.2 hl
  have hlt : r.toNat < l.length := by omega
  exact ⟨l[r.toNat], by rw [idx_int h.1]; simp [hlt], List.getElem_mem hlt, hlt⟩
theorem among_ok (x : Cur) (l : List Int) (P : Int → Prop) {m : Int} (h : Cu x.1 m x.2.1) (hm : 2 ≤ m) (hl : l ≠ []) (hp : ∀ v ∈ l, P v) : Tot (F_spec_l1Cur__among__mut__box x l) (Pk x.1 (m - 2) P) := by
  unfold F_spec_l1Cur__among__mut__box
  refine Tot.bind (pick_ok x _ h hm) fun u hu => ?_
  obtain ⟨v, hv, hmem, _⟩ := idx_pick l hl hu.1
  exact Tot.bindE hv (Tot.some ⟨hp v hmem, rfl, hu.2.2⟩)
theorem amongT (x : Cur) (l : List Int) {m : Int} (h : Cu x.1 m x.2.1) (hm : 2 ≤ m) (hl : l ≠ []) : Tot (F_spec_l1Cur__among__mut__box x l) (Pk x.1 (m - 2) fun _ => True) := among_ok x l _ h hm hl fun _ _ => trivial
end Go.Proofs.Ytmkignciedkidaa
/-
  SHOWS, PLAIN: what the program's and the reference's tests of spots, charts and shows answer.
-/
set_option linter.unusedSimpArgs false
set_option linter.unusedVariables false
namespace Go.Proofs.Ytmkignciedkidaa
open Go
def okIn (a lo hi : Int) : Bool := decide (lo ≤ a) && decide (a ≤ hi)
theorem spec_l1In (a lo hi : Int) : F_spec_l1In a lo hi = some (okIn a lo hi) := by
  unfold F_spec_l1In jK1 okIn
  by_cases h : lo ≤ a <;> simp [h]
theorem impl_within (a lo hi : Int) : F_impl_within a lo hi = some (okIn a lo hi) := by
  unfold F_impl_within jK1 okIn
  by_cases h : lo ≤ a <;> simp [h]
def okSpot (s : Int × Int) : Bool := okIn s.1 0 1280 && okIn s.2 0 672
theorem spec_stGood (s : Int × Int) : F_spec_stGood s = some (okSpot s) := by
  unfold F_spec_stGood jK1 okSpot
  dsimp only
  rw [spec_l1In, Option.bind_some, spec_l1In]
  cases okIn s.1 0 1280 <;> simp
theorem impl_IsSpot (s : Int × Int) : F_impl_IsSpot s = some (okSpot s) := by
  unfold F_impl_IsSpot jK1 okSpot
  dsimp only
  rw [impl_within, Option.bind_some, impl_within]
  cases okIn s.1 0 1280 <;> simp
theorem eqv_Spot_eq (x y : Int × Int) : eqv_Spot x y = decide (x = y) := by
  obtain ⟨a, b⟩ := x
  obtain ⟨c, d⟩ := y
  simp [eqv_Spot]
  by_cases h1 : a = c <;> by_cases h2 : b = d <;> simp [h1, h2]
/-- The spot at k is a spot and none of those before it. -/
def newAt (l : List (Int × Int)) (k : Nat) : Bool := match l[k]? with
  | some s => okSpot s && (l.take k).all (fun u => !decide (s = u))
  | none => true
theorem newAt_of {l : List (Int × Int)} {k : Nat} {s : Int × Int} (h : l[k]? = some s) : newAt l k = (okSpot s && (l.take k).all (fun u => !decide (s = u))) := by
  unfold newAt
  rw [h]
def okChart (l : List (Int × Int)) : Bool := okIn (l.length : Int) 1 12 && (List.range l.length).all (newAt l)
theorem spec_chGood (l : List (Int × Int)) (hl : l.length < 4611686018427387904) : F_spec_chGood l = some (okChart l) := by
  unfold F_spec_chGood
  rw [loopR (F_spec_chGood_L1 l) l.length (newAt l) (some (okIn (l.length : Int) 1 12)) (some false) hl (fun m k hk => ?_) (fun m => ?_)]
  · unfold okChart
    cases (List.range l.length).all (newAt l) <;> simp
  · obtain ⟨s, hs⟩ : ∃ s, l[k]? = some s := ⟨_, List.getElem?_eq_getElem hk⟩
    rw [F_spec_chGood_L1, if_pos (by simp; omega), idx_nat, hs, Option.bind_some, spec_stGood, Option.bind_some, newAt_of hs]
    cases okSpot s with
    | false => simp
    | true =>
      rw [if_neg (by simp), sl_take l (by omega), Option.bind_some, Bool.true_and]
      have hlen : (l.take k).length = k := by simp; omega
      rw [loopL (F_spec_chGood_L2 (l.take k) s (F_spec_chGood_L1 l m) (k : Int)) (l.take k) (fun u => !decide (s = u)) (F_spec_chGood_L1 l m ((k + 1 : Nat) : Int)) (some false) (by omega) (fun m' j x hj hx => ?_) (fun m' => ?_)]
      · rw [F_spec_chGood_L2, if_pos (by simp; omega), idx_nat, hx, Option.bind_some, eqv_Spot_eq, w64_succ (by omega)]
        by_cases hq : s = x <;> simp [hq]
      · rw [F_spec_chGood_L2, if_neg (by simp), w64_succ (by omega)]
  · rw [F_spec_chGood_L1, if_neg (by simp), spec_l1In]
    rfl
theorem contains_Spot (l : List (Int × Int)) (s : Int × Int) (hl : l.length < 4611686018427387904) : F_slices_Contains_impl_Spot_impl_Spot l s = some (!l.all (fun u => !decide (s = u))) := by
  unfold F_slices_Contains_impl_Spot_impl_Spot F_slices_Index_impl_Spot_impl_Spot
  have key : ∀ d k m, l.length - k = d → k ≤ l.length → l.length - k < m → ∃ i, F_slices_Index_impl_Spot_impl_Spot_L1 l s m (k : Int) = some i ∧ decide (0 ≤ i) = !(l.drop k).all (fun u => !decide (s = u)) := by
    intro d
    induction d with
    | zero =>
      intro k m hd hk hm
      cases m with
      | zero => omega
      | succ m =>
        rw [F_slices_Index_impl_Spot_impl_Spot_L1, if_neg (by simp; omega)]
        exact ⟨-1, rfl, by rw [List.drop_eq_nil_of_le (by omega)]; simp⟩
    | succ d ih =>
      intro k m hd hk hm
      cases m with
      | zero => omega
      | succ m =>
        have hk' : k < l.length := by omega
        rw [F_slices_Index_impl_Spot_impl_Spot_L1, if_pos (by simp; omega), idx_lt hk', Option.bind_some, eqv_Spot_eq, w64_succ (by omega), List.drop_eq_getElem_cons hk', List.all_cons]
        by_cases hq : s = l[k]
        · exact ⟨k, by simp [hq], by simp [hq]⟩
        · rw [if_neg (by simp [hq])]
          obtain ⟨i, h1, h2⟩ := ih (k + 1) m (by omega) (by omega) (by omega)
          exact ⟨i, h1, by simp [hq, h2]⟩
  obtain ⟨i, h1, h2⟩ := key _ 0 FU rfl (by omega) (FU_gt (by omega))
  rw [show ((0 : Nat) : Int) = 0 from rfl] at h1
  rw [h1, Option.bind_some, h2]
  simp
theorem impl_IsChart (l : List (Int × Int)) (hl : l.length < 4611686018427387904) : F_impl_IsChart l = some (okChart l) := by
  unfold F_impl_IsChart okChart
  rw [impl_within, Option.bind_some]
  cases hi : okIn (l.length : Int) 1 12 with
  | false => simp
  | true =>
    rw [if_neg (by simp), loopR (F_impl_IsChart_L1 l) l.length (newAt l) (some true) (some false) hl (fun m k hk => ?_) (fun m => ?_)]
    · cases (List.range l.length).all (newAt l) <;> simp
    · obtain ⟨s, hs⟩ : ∃ s, l[k]? = some s := ⟨_, List.getElem?_eq_getElem hk⟩
      rw [F_impl_IsChart_L1, if_pos (by simp; omega), idx_nat, hs, Option.bind_some]
      unfold jK1
      dsimp only
      rw [newAt_of hs, impl_IsSpot, Option.bind_some]
      rw [sl_take l (by omega), Option.bind_some, contains_Spot _ _ (by simp; omega), Option.bind_some, w64_succ (by omega)]
      cases okSpot s with
      | false => simp
      | true => simp only [Bool.not_true, Bool.false_eq_true, if_false, Bool.true_and]; cases (List.take k l).all (fun u => !decide (s = u)) <;> simp
    · rw [F_impl_IsChart_L1, if_neg (by simp)]
def okCounts (l : List Int) : Bool := l.all fun u => okIn u 1 64
theorem spec_l1All (l : List Int) (hl : l.length < 4611686018427387904) : F_spec_l1All l 1 64 = some (okCounts l) := by
  unfold F_spec_l1All
  rw [loopL (F_spec_l1All_L1 l 1 64) l (fun u => okIn u 1 64) (some true) (some false) hl (fun m k x hk hx => ?_) (fun m => ?_)]
  · unfold okCounts
    cases l.all (fun u => okIn u 1 64) <;> simp
  · rw [F_spec_l1All_L1, if_pos (by simp; omega), idx_nat, hx, Option.bind_some, spec_l1In, Option.bind_some, w64_succ (by omega)]
    cases okIn x 1 64 <;> simp
  · rw [F_spec_l1All_L1, if_neg (by simp)]
theorem spec_apDistance (x : Int) : F_spec_apDistance x = some (okIn x 0 80) := by
  unfold F_spec_apDistance
  rw [spec_l1In]; rfl
theorem spec_mvStep (x : Int) : F_spec_mvStep x = some (okIn x 1 24) := by
  unfold F_spec_mvStep
  rw [spec_l1In]; rfl
theorem impl_isLeast (x : Int) : F_impl_isLeast x = some (okIn x 0 80) := by
  unfold F_impl_isLeast
  rw [impl_within]; rfl
/-- All charts are charts, as long as the first. -/
def sameLong (cs : List (List (Int × Int))) : Bool := cs.all fun c => okChart c && (match cs[0]? with | some d => decide (c.length = d.length) | none => true)
abbrev ShowT := (List (List (Int × Int))) × (List Int) × Int × Int
def okShow (x : ShowT) : Bool := okIn (x.1.length : Int) 2 8 && decide (x.2.1.length + 1 = x.1.length) && sameLong x.1 && okCounts x.2.1 && okIn x.2.2.1 0 80 && okIn x.2.2.2 1 24
theorem spec_swGood (x : ShowT) (h1 : x.1.length < 4611686018427387904) (h2 : ∀ c ∈ x.1, c.length < 4611686018427387904) (h3 : x.2.1.length < 4611686018427387904) : F_spec_swGood x = some (okShow x) := by
  unfold F_spec_swGood
  rw [loopL (F_spec_swGood_L1 x) x.1 (fun c => okChart c && (match x.1[0]? with | some d => decide (c.length = d.length) | none => true)) (some (okIn (x.1.length : Int) 2 8 && decide (x.2.1.length + 1 = x.1.length) && okCounts x.2.1 && okIn x.2.2.1 0 80 && okIn x.2.2.2 1 24)) (some false) h1 (fun m k c hk hc => ?_) (fun m => ?_)]
  · unfold okShow sameLong
    cases x.1.all (fun c => okChart c && (match x.1[0]? with | some d => decide (c.length = d.length) | none => true)) <;> simp
  · rw [F_spec_swGood_L1, if_pos (by simp; omega), idx_nat, hc, Option.bind_some]
    unfold jK1
    dsimp only
    rw [spec_chGood c (h2 c (List.mem_of_getElem? hc)), Option.bind_some, idx_zero, w64_succ (by omega)]
    have h0 : 0 < x.1.length := by omega
    rw [List.getElem?_eq_getElem h0]
    cases okChart c with
    | false => simp
    | true =>
      simp only [Bool.not_true, Bool.false_eq_true, if_false, Bool.true_and, Option.bind_some]
      by_cases hq : c.length = x.1[0].length <;> simp [hq]
      omega
  · rw [F_spec_swGood_L1, if_neg (by simp)]
    unfold jK1
    dsimp only
    rw [spec_l1In, Option.bind_some, spec_l1All _ h3, Option.bind_some, spec_apDistance, Option.bind_some, spec_mvStep, Option.bind_some]
    cases hA : okIn (x.1.length : Int) 2 8 with
    | false => simp
    | true =>
      have h8 : 2 ≤ x.1.length ∧ x.1.length ≤ 8 := by
        simp [okIn] at hA
        omega
      rw [w64_eq (by omega) (by omega)]
      by_cases hq : x.2.1.length + 1 = x.1.length
      · have hq' : ((x.2.1.length : Int) == (x.1.length : Int) - 1) = true := by simp; omega
        simp only [hq', hq, if_true, Bool.true_and, decide_true]
        cases okCounts x.2.1 <;> cases okIn x.2.2.1 0 80 <;> simp
      · have hq' : ((x.2.1.length : Int) == (x.1.length : Int) - 1) = false := by simp; omega
        simp [hq', hq]
theorem impl_areCharts (cs : List (List (Int × Int))) (ns : List Int) (h1 : cs.length < 4611686018427387904) (h2 : ∀ c ∈ cs, c.length < 4611686018427387904) (h3 : ns.length < 4611686018427387904) :
    F_impl_areCharts cs ns = some (okIn (cs.length : Int) 1 9 && decide (ns.length + 1 = cs.length) && sameLong cs && okCounts ns) := by
  unfold F_impl_areCharts jK1
  dsimp only
  rw [impl_within, Option.bind_some]
  have hw : w64 ((cs.length : Int) - 1) = (cs.length : Int) - 1 := w64_eq (by omega) (by omega)
  rw [hw]
  cases hA : okIn (cs.length : Int) 1 9 with
  | false => simp
  | true =>
    by_cases hq : ns.length + 1 = cs.length
    · have hq' : ((ns.length : Int) != (cs.length : Int) - 1) = false := by simp; omega
      simp only [hq', hq, Bool.not_true, Bool.false_eq_true, if_false, decide_true, Bool.true_and]
      have hin : F_impl_areCharts_L2 ns FU 0 = some (okCounts ns) := by
        rw [loopL (F_impl_areCharts_L2 ns) ns (fun u => okIn u 1 64) (some true) (some false) h3 (fun m k x hk hx => ?_) (fun m => ?_)]
        · unfold okCounts
          cases ns.all (fun u => okIn u 1 64) <;> simp
        · rw [F_impl_areCharts_L2, if_pos (by simp; omega), idx_nat, hx, Option.bind_some, impl_within, Option.bind_some, w64_succ (by omega)]
          cases okIn x 1 64 <;> simp
        · rw [F_impl_areCharts_L2, if_neg (by simp)]
      rw [loopL (F_impl_areCharts_L1 cs ns) cs (fun c => okChart c && (match cs[0]? with | some d => decide (c.length = d.length) | none => true)) (some (okCounts ns)) (some false) h1 (fun m k c hk hc => ?_) (fun m => ?_)]
      · unfold sameLong
        cases cs.all (fun c => okChart c && (match cs[0]? with | some d => decide (c.length = d.length) | none => true)) <;> simp
      · rw [F_impl_areCharts_L1, if_pos (by simp; omega), idx_nat, hc, Option.bind_some]
        unfold jK1
        dsimp only
        rw [impl_IsChart c (h2 c (List.mem_of_getElem? hc)), Option.bind_some, idx_zero, w64_succ (by omega)]
        have h0 : 0 < cs.length := by omega
        rw [List.getElem?_eq_getElem h0]
        cases okChart c with
        | false => simp
        | true =>
          simp only [Bool.not_true, Bool.false_eq_true, if_false, Bool.true_and, Option.bind_some]
          by_cases hq : c.length = cs[0].length <;> simp [hq]
          omega
      · rw [F_impl_areCharts_L1, if_neg (by simp), hin]
    · have hq' : ((ns.length : Int) != (cs.length : Int) - 1) = true := by simp; omega
      simp [hq', hq]
theorem impl_IsShow (x : ShowT) (h1 : x.1.length < 4611686018427387904) (h2 : ∀ c ∈ x.1, c.length < 4611686018427387904) (h3 : x.2.1.length < 4611686018427387904) : F_impl_IsShow x = some (okShow x) := by
  unfold F_impl_IsShow jK1
  dsimp only
  rw [impl_within, Option.bind_some, impl_areCharts _ _ h1 h2 h3, Option.bind_some, impl_isLeast, Option.bind_some, impl_within, Option.bind_some]
  unfold okShow
  cases hA : okIn (x.1.length : Int) 2 8 with
  | false => simp
  | true =>
    have hB : okIn (x.1.length : Int) 1 9 = true := by
      simp [okIn] at hA ⊢
      omega
    rw [hB]
    simp only [if_true, Bool.true_and]
    cases decide (x.2.1.length + 1 = x.1.length) <;> cases sameLong x.1 <;> cases okCounts x.2.1 <;> cases okIn x.2.2.1 0 80 <;> simp
end Go.Proofs.Ytmkignciedkidaa
/-
  SHOWS COMPARED, PLAIN.
-/
set_option linter.unusedSimpArgs false
set_option linter.unusedVariables false
namespace Go.Proofs.Ytmkignciedkidaa
open Go
theorem okIn_iff {a lo hi : Int} : okIn a lo hi = true ↔ lo ≤ a ∧ a ≤ hi := by simp [okIn]
structure ShowFacts (x : ShowT) : Prop where
  n0 : 2 ≤ x.1.length
  n1 : x.1.length ≤ 8
  nc : x.2.1.length + 1 = x.1.length
  ch : ∀ c ∈ x.1, okChart c = true
  cl : ∀ c ∈ x.1, 1 ≤ c.length ∧ c.length ≤ 12
  ce : ∀ c ∈ x.1, ∀ d, x.1[0]? = some d → c.length = d.length
  cn : ∀ u ∈ x.2.1, 1 ≤ u ∧ u ≤ 64
  le : 0 ≤ x.2.2.1 ∧ x.2.2.1 ≤ 80
  st : 1 ≤ x.2.2.2 ∧ x.2.2.2 ≤ 24
theorem okChart_len {c : List (Int × Int)} (h : okChart c = true) : 1 ≤ c.length ∧ c.length ≤ 12 := by
  unfold okChart at h
  rw [Bool.and_eq_true, okIn_iff] at h
  omega
theorem facts {x : ShowT} (h : okShow x = true) : ShowFacts x := by
  unfold okShow sameLong okCounts at h
  simp only [Bool.and_eq_true, okIn_iff, decide_eq_true_eq, List.all_eq_true] at h
  obtain ⟨⟨⟨⟨⟨h1, h2⟩, h3⟩, h4⟩, h5⟩, h6⟩ := h
  refine ⟨by omega, by omega, h2, fun c hc => (h3 c hc).1, fun c hc => okChart_len (h3 c hc).1, fun c hc d hd => ?_, h4, h5, h6⟩
  have := (h3 c hc).2
  rw [hd] at this
  simpa using this
/-- The numbers below n that p takes. -/
def filt (p : Nat → Bool) (n : Nat) : List Int := ((List.range n).filter p).map fun (k : Nat) => (k : Int)
theorem filt_succ (p : Nat → Bool) (n : Nat) : filt p (n + 1) = if p n then filt p n ++ [(n : Int)] else filt p n := by
  unfold filt
  rw [List.range_succ, List.filter_append, List.map_append]
  cases h : p n <;> simp [h]
theorem filt_len (p : Nat → Bool) (n : Nat) : (filt p n).length ≤ n := by
  unfold filt
  rw [List.length_map]
  exact Nat.le_trans (List.length_filter_le _ _) (by simp)
theorem loopFilter {R : Type} (f : Nat → List Int → Int → Option R) (n : Nat) (p : Nat → Bool) (rest : List Int → Option R) (hn : n < 4611686018427387904)
    (hs : ∀ m s k, k < n → s.length ≤ k → f (m + 1) s (k : Int) = f m (if p k then s ++ [(k : Int)] else s) ((k + 1 : Nat) : Int)) (he : ∀ m s, f (m + 1) s (n : Int) = rest s) : f FU [] 0 = rest (filt p n) := by
  have h := loopS f n (fun k s => if p k then s ++ [(k : Int)] else s) rest hn (fun k s => s = filt p k) [] (by simp [filt]) (fun k s hk hi => by rw [filt_succ, hi]) (fun m k s hk hi => hs m s k hk (by rw [hi]; exact filt_len p k)) (fun m s hi => he m s)
  rw [h.1, h.2]
theorem app_ok {α : Type} {l m : List α} (h : l.length + m.length ≤ 1073741824) : app l m = some (l ++ m) := by
  unfold app
  rw [if_pos h]
theorem chart_len {x : ShowT} (f : ShowFacts x) {k : Nat} {c d : List (Int × Int)} (hc : x.1[k]? = some c) (hd : x.1[0]? = some d) : c.length = d.length := f.ce c (List.mem_of_getElem? hc) d hd
def lensOk (x : ShowT) : Prop := x.1.length < 4611686018427387904 ∧ (∀ c ∈ x.1, c.length < 4611686018427387904) ∧ x.2.1.length < 4611686018427387904
end Go.Proofs.Ytmkignciedkidaa
/-
  CUES, PLAIN: what the tests of music and cues answer; times.
-/
set_option linter.unusedSimpArgs false
set_option linter.unusedVariables false
namespace Go.Proofs.Ytmkignciedkidaa
open Go
abbrev MusicT := List (Int × Int)
abbrev CueT := Int × (List UInt8)
/-! names -/
/-! cues -/
/-- What the walks' loops need of the lengths. -/
structure CueLens (x : MusicT) (l : List CueT) : Prop where
  hx : x.length < 4611686018427387904
  hl : l.length < 1073741824
  hn : ∀ c ∈ l, c.2.length < 4611686018427387904
theorem CueLens.hl' {x : MusicT} {l : List CueT} (h : CueLens x l) : l.length < 4611686018427387904 := by have := h.hl; omega
/-! times -/
/-- A loop that appends the image of each element. -/
theorem loopMapL {α β R : Type} (f : Nat → List β → Int → Option R) (l : List α) (g : α → β) (rest : List β → Option R) (hn : l.length < 4611686018427387904)
    (hs : ∀ m s k x, k < l.length → l[k]? = some x → s.length = k → f (m + 1) s (k : Int) = f m (s ++ [g x]) ((k + 1 : Nat) : Int)) (he : ∀ m s, f (m + 1) s (l.length : Int) = rest s) : f FU [] 0 = rest (l.map g) := by
  have h := loopS f l.length (fun k s => match l[k]? with | some x => s ++ [g x] | none => s) rest hn (fun k s => s = (l.take k).map g) [] (by simp) (fun k s hk hi => ?_) (fun m k s hk hi => ?_) (fun m s hi => he m s)
  · rw [h.1, h.2, List.take_of_length_le (Nat.le_refl _)]
  · have hx : l[k]? = some l[k] := by simp [hk]
    simp only [hx]
    rw [hi, List.take_succ_eq_append_getElem hk, List.map_append]
    rfl
  · have hx : l[k]? = some l[k] := by simp [hk]
    simp only [hx]
    exact hs m s k l[k] hk hx (by rw [hi]; simp; omega)
end Go.Proofs.Ytmkignciedkidaa
/-
  CUES SHIFTED AND ADDED, PLAIN.
-/
set_option linter.unusedSimpArgs false
set_option linter.unusedVariables false
namespace Go.Proofs.Ytmkignciedkidaa
open Go
/-- A loop that looks for the first place where q does not hold. -/
theorem loopFind {α R : Type} (f : Nat → Int → Option R) (l : List α) (q : α → Bool) (rest : Nat → Option R) (hn : l.length < 4611686018427387904)
    (hs : ∀ m k x, k < l.length → l[k]? = some x → q x = true → f (m + 1) (k : Int) = f m ((k + 1 : Nat) : Int))
    (he : ∀ m k x, k < l.length → l[k]? = some x → q x = false → f (m + 1) (k : Int) = rest k) (hz : ∀ m, f (m + 1) (l.length : Int) = rest l.length) :
    f FU 0 = rest (l.takeWhile q).length := by
  have key : ∀ d k m, l.length - k = d → k ≤ l.length → l.length - k < m → f m (k : Int) = rest (k + ((l.drop k).takeWhile q).length) := by
    intro d
    induction d with
    | zero =>
      intro k m hd hk hm
      have : k = l.length := by omega
      subst this
      cases m with
      | zero => omega
      | succ m => rw [hz]; simp
    | succ d ih =>
      intro k m hd hk hm
      cases m with
      | zero => omega
      | succ m =>
        have hk' : k < l.length := by omega
        have hx : l[k]? = some l[k] := by simp [hk']
        rw [List.drop_eq_getElem_cons hk']
        cases hq : q l[k] with
        | true =>
          rw [hs m k _ hk' hx hq, ih (k + 1) m (by omega) (by omega) (by omega), List.takeWhile_cons_of_pos hq]
          congr 1
          simp
          omega
        | false =>
          rw [he m k _ hk' hx hq, List.takeWhile_cons_of_neg (by simp [hq])]
          simp
  have := key _ 0 FU rfl (by omega) (FU_gt (by omega))
  simpa using this
def addAt (l : List CueT) (c : CueT) : Nat := (l.takeWhile fun d => decide (d.1 < c.1)).length
def added (l : List CueT) (c : CueT) : List CueT := l.take (addAt l c) ++ [c] ++ l.drop (addAt l c)
theorem sl_drop {α : Type} (l : List α) {k : Nat} (h : k ≤ l.length) : sl l (k : Int) (List.length l : Int) = some (l.drop k) := by
  unfold sl
  rw [if_pos (by omega)]
  simp
/-! what comes back is small -/
end Go.Proofs.Ytmkignciedkidaa
/-
  THE MOVES OF A PART, PLAIN.
-/
set_option linter.unusedSimpArgs false
set_option linter.unusedVariables false
namespace Go.Proofs.Ytmkignciedkidaa
open Go
/-- A loop that puts one thing after another for the numbers below n. -/
theorem loopMap {β R : Type} (f : Nat → List β → Int → Option R) (n : Nat) (g : Nat → β) (rest : List β → Option R) (hn : n < 4611686018427387904)
    (hs : ∀ m s k, k < n → s.length = k → f (m + 1) s (k : Int) = f m (s ++ [g k]) ((k + 1 : Nat) : Int)) (he : ∀ m s, f (m + 1) s (n : Int) = rest s) : f FU [] 0 = rest ((List.range n).map g) := by
  have h := loopS f n (fun k s => s ++ [g k]) rest hn (fun k s => s = (List.range k).map g) [] (by simp) (fun k s hk hi => by rw [List.range_succ, List.map_append, hi]; simp) (fun m k s hk hi => hs m s k hk (by rw [hi]; simp)) (fun m s hi => he m s)
  rw [h.1, h.2]
abbrev MoveT := (Int × Int) × (Int × Int) × Int
def chartAt (x : ShowT) (p : Nat) : List (Int × Int) := (x.1[p]?).getD []
def countsAt (x : ShowT) (p : Nat) : Int := (x.2.1[p]?).getD 0
theorem chartAt_of {x : ShowT} {p : Nat} {c : List (Int × Int)} (h : x.1[p]? = some c) : chartAt x p = c := by unfold chartAt; rw [h]; rfl
theorem part_facts {x : ShowT} (f : ShowFacts x) {p : Nat} (hp : p < x.2.1.length) : ∃ a b n, x.1[p]? = some a ∧ x.1[p + 1]? = some b ∧ x.2.1[p]? = some n ∧ a.length = b.length ∧ 1 ≤ a.length ∧ a.length ≤ 12 ∧ 1 ≤ n ∧ n ≤ 64 := by
  have h1 := f.nc
  have h2 := f.n0
  obtain ⟨a, ha⟩ : ∃ c, x.1[p]? = some c := ⟨_, List.getElem?_eq_getElem (by omega)⟩
  obtain ⟨b, hb⟩ : ∃ c, x.1[p + 1]? = some c := ⟨_, List.getElem?_eq_getElem (by omega)⟩
  obtain ⟨n, hn⟩ : ∃ c, x.2.1[p]? = some c := ⟨_, List.getElem?_eq_getElem (by omega)⟩
  obtain ⟨c, hc⟩ : ∃ c, x.1[0]? = some c := ⟨_, List.getElem?_eq_getElem (by omega)⟩
  have l := f.cl a (List.mem_of_getElem? ha)
  have m := f.cn n (List.mem_of_getElem? hn)
  exact ⟨a, b, n, ha, hb, hn, by rw [chart_len f ha hc, chart_len f hb hc], l.1, l.2, m.1, m.2⟩
def sqOf (a b : Int × Int) : Int := w64 ((w64 ((w64 (a.1 - b.1)) * (w64 (a.1 - b.1)))) + (w64 ((w64 (a.2 - b.2)) * (w64 (a.2 - b.2)))))
theorem spec_stSquare (a b : Int × Int) : F_spec_stSquare a b = some (sqOf a b) := rfl
theorem impl_squareOf (a b : Int × Int) : F_impl_squareOf a b = some (sqOf a b) := rfl
end Go.Proofs.Ytmkignciedkidaa
/-
  THE LEAST STEP OF A SHOW, PLAIN.
-/
set_option linter.unusedSimpArgs false
set_option linter.unusedVariables false
namespace Go.Proofs.Ytmkignciedkidaa
open Go
end Go.Proofs.Ytmkignciedkidaa
/-
  PARTS OF A SHOW, PLAIN: moves, wide steps.
-/
set_option linter.unusedSimpArgs false
set_option linter.unusedVariables false
namespace Go.Proofs.Ytmkignciedkidaa
open Go
end Go.Proofs.Ytmkignciedkidaa
/-
  COPIES OF SHOWS, PLAIN; charts added, counts stretched.
-/
set_option linter.unusedSimpArgs false
set_option linter.unusedVariables false
namespace Go.Proofs.Ytmkignciedkidaa
open Go
theorem spec_chOwn (c : List (Int × Int)) (h : c.length ≤ 1048576) : F_spec_chOwn c = some c := by
  unfold F_spec_chOwn
  rw [app_ok (by simp; omega)]
  rfl
theorem spec_l1Own (c : List Int) (h : c.length ≤ 1048576) : F_spec_l1Own c = some c := by
  unfold F_spec_l1Own
  rw [app_ok (by simp; omega)]
  rfl
theorem spec_swOwn (x : ShowT) (f : ShowFacts x) : F_spec_swOwn x = some x := by
  have h1 := f.n1
  have h2 := f.nc
  unfold F_spec_swOwn jK3
  dsimp only
  rw [spec_l1Own _ (by omega), Option.bind_some, loopMapL (F_spec_swOwn_L1 x x.2.1 x.2.2.1 x.2.2.2) x.1 id (fun s => some (s, x.2.1, x.2.2.1, x.2.2.2)) (by omega) (fun m s k c hk hc hsl => ?_) (fun m s => ?_)]
  · simp
  · have hl := (f.cl c (List.mem_of_getElem? hc)).2
    rw [F_spec_swOwn_L1, if_pos (by simp; omega)]
    unfold jK1
    dsimp only
    rw [idx_nat, hc, Option.bind_some, spec_chOwn c (by omega), Option.bind_some, app_ok (by simp; omega), Option.bind_some, w64_succ (by omega)]
    rfl
  · rw [F_spec_swOwn_L1, if_neg (by simp)]
def stretched (x : ShowT) (p n : Int) : ShowT := (x.1, seti x.2.1 p n, x.2.2.1, x.2.2.2)
end Go.Proofs.Ytmkignciedkidaa
/-
  DRAWN SHOWS, PLAIN: they are there and short.
-/
set_option linter.unusedSimpArgs false
set_option linter.unusedVariables false
namespace Go.Proofs.Ytmkignciedkidaa
open Go
theorem app_tot' {α β : Type} {l m : List α} {f : List α → Option β} {Q : β → Prop} (h : l.length + m.length ≤ 1073741824) (hf : Tot (f (l ++ m)) Q) : Tot (Option.bind (app l m) f) Q := Tot.bindE (app_ok h) hf
theorem seti_len' {α : Type} (l : List α) (i : Int) (x : α) : (seti l i x).length = l.length := by unfold seti; simp
theorem spot_draw (x : Cur) {m : Int} (h : Cu x.1 m x.2.1) (hm : 12 ≤ m) : Tot (F_spec_l1Cur__spot__mut__box x) (Pk x.1 (m - 12) fun _ => True) := by
  unfold F_spec_l1Cur__spot__mut__box
  refine Tot.bind (pick_ok x _ h (by omega)) fun u1 h1 => ?_
  refine Tot.bind (pick_ok (x.1, u1.2.2.1, u1.2.2.2) _ h1.2.2 (by omega)) fun u2 h2 => ?_
  refine Tot.bind (amongT (x.1, u2.2.2.1, u2.2.2.2) _ h2.2.2 (by show 2 ≤ m - 2 - 2; omega) (by simp)) fun u3 h3 => ?_
  refine Tot.bind (pick_ok (x.1, u3.2.2.1, u3.2.2.2) _ h3.2.2 (by show 2 ≤ m - 2 - 2 - 2; omega)) fun u4 h4 => ?_
  refine Tot.bind (pick_ok (x.1, u4.2.2.1, u4.2.2.2) _ h4.2.2 (by show 2 ≤ m - 2 - 2 - 2 - 2; omega)) fun u5 h5 => ?_
  refine Tot.bind (amongT (x.1, u5.2.2.1, u5.2.2.2) _ h5.2.2 (by show 2 ≤ m - 2 - 2 - 2 - 2 - 2; omega) (by simp)) fun u6 h6 => ?_
  exact Tot.some ⟨trivial, rfl, h6.2.2.mono (by omega) (by show m - 12 ≤ m - 2 - 2 - 2 - 2 - 2 - 2; omega)⟩
theorem chFind_ok (l : List (Int × Int)) (s : Int × Int) (hl : l.length < 4611686018427387904) : ∃ r, F_spec_chFind l s = some r ∧ (decide (r < 0) = true ↔ s ∉ l) := by
  unfold F_spec_chFind
  have h := loopFind (F_spec_chFind_L1 l s) l (fun u => !eqv_Spot u s) (fun k => if k < l.length then some (k : Int) else some (-1)) hl (fun m k u hk hu hq => ?_) (fun m k u hk hu hq => ?_) (fun m => ?_)
  · rw [h]
    by_cases hlt : (l.takeWhile fun u => !eqv_Spot u s).length < l.length
    · rw [if_pos hlt]
      refine ⟨_, rfl, ?_⟩
      have : ¬ ((l.takeWhile fun u => !eqv_Spot u s).length : Int) < 0 := by omega
      simp only [this, decide_false, Bool.false_eq_true, false_iff, Classical.not_not]
      have key : ∀ (l : List (Int × Int)), (l.takeWhile fun u => !eqv_Spot u s).length < l.length → s ∈ l := by
        intro l
        induction l with
        | nil => intro h; simp at h
        | cons u l ih =>
          intro h
          cases hu : eqv_Spot u s with
          | true =>
            have : u = s := by
              unfold eqv_Spot at hu
              simp at hu
              exact Prod.ext hu.1 hu.2
            rw [this]; simp
          | false =>
            rw [List.takeWhile_cons_of_pos (by simp [hu])] at h
            exact List.mem_cons_of_mem _ (ih (by simpa using h))
      exact key l hlt
    · rw [if_neg hlt]
      refine ⟨_, rfl, ?_⟩
      simp only [show decide ((-1 : Int) < 0) = true by decide, true_iff]
      have key : ∀ (l : List (Int × Int)), ¬ (l.takeWhile fun u => !eqv_Spot u s).length < l.length → s ∉ l := by
        intro l
        induction l with
        | nil => intro _ h; simp at h
        | cons u l ih =>
          intro h hs
          cases hu : eqv_Spot u s with
          | true =>
            rw [List.takeWhile_cons_of_neg (by simp [hu])] at h
            simp at h
          | false =>
            rw [List.takeWhile_cons_of_pos (by simp [hu])] at h
            rcases List.mem_cons.1 hs with rfl | hs
            · simp [eqv_Spot] at hu
            · exact ih (by simpa using h) hs
      exact key l hlt
  · rw [F_spec_chFind_L1, if_pos (by simp; omega), idx_nat, hu, Option.bind_some, if_neg (by simpa using hq), w64_succ (by omega)]
  · rw [F_spec_chFind_L1, if_pos (by simp; omega), idx_nat, hu, Option.bind_some, if_pos (by simpa using hq), if_pos hk]
  · rw [F_spec_chFind_L1, if_neg (by simp)]
    simp
/-- How many spots are as far to the back as a later try. -/
def later (t : Int) : List (Int × Int) → Nat
  | [] => 0
  | e :: l => (if 7 + t ≤ e.2 then 1 else 0) + later t l
theorem later_le (t : Int) : ∀ l, later (t + 1) l ≤ later t l
  | [] => Nat.le_refl _
  | e :: l => by
    have := later_le t l
    unfold later
    split <;> split <;> omega
theorem later_mem (t a : Int) : ∀ l, (a, 7 + t) ∈ l → later (t + 1) l + 1 ≤ later t l
  | [], h => by cases h
  | e :: l, h => by
    have h2 := later_le t l
    unfold later
    rcases List.mem_cons.1 h with h | h
    · subst h
      rw [if_neg (by show ¬ 7 + (t + 1) ≤ 7 + t; omega), if_pos (by show 7 + t ≤ 7 + t; omega)]
      omega
    · have := later_mem t a l h
      split <;> split <;> omega
theorem later_app (t : Int) (e : Int × Int) : ∀ l, later t (l ++ [e]) ≤ later t l + 1 ∧ (e.2 < 7 + t → later t (l ++ [e]) = later t l)
  | [] => by
    simp only [List.nil_append, later]
    constructor
    · split <;> omega
    · intro h; rw [if_neg (by omega)]
  | d :: l => by
    have h1 := (later_app t e l).1
    have h2 := (later_app t e l).2
    simp only [List.cons_append, later]
    constructor
    · omega
    · intro h; rw [h2 h]
theorem least_tot {α : Type} {a b : Int} {f : Int → Option α} {Q : α → Prop} (h : ∀ v, Tot (f v) Q) : Tot (Option.bind (F_spec_l1Least a b) f) Q := by
  unfold F_spec_l1Least
  split <;> exact Tot.bindE rfl (h _)
theorem most_tot {α : Type} {a b : Int} {f : Int → Option α} {Q : α → Prop} (h : ∀ v, (v = a ∨ v = b) → Tot (f v) Q) : Tot (Option.bind (F_spec_l1Most a b) f) Q := by
  unfold F_spec_l1Most
  split <;> exact Tot.bindE rfl (h _ (by simp))
def tries (n : Int) (t : Int) (l : List (Int × Int)) : Nat := 2 * (n - l.length).toNat + later t l + (61 - t).toNat
theorem chartOf_ok (x : Cur) (n : Int) (hn : n ≤ 13) {m : Int} (h : Cu x.1 m x.2.1) (hm : 2000 ≤ m) : Tot (F_spec_l1Cur__chartOf__mut__box x n) (Pk x.1 (m - 2000) fun l => l.length ≤ 13 ∧ n ≤ l.length) := by
  unfold F_spec_l1Cur__chartOf__mut__box
  refine Tot.loop (fun k (s : Int × Int × List (Int × Int) × Int) => F_spec_l1Cur__chartOf__mut__box_L1 n x k s.1 s.2.1 s.2.2.1 s.2.2.2) (fun s => tries n s.2.2.2 s.2.2.1)
    (fun s => s.2.2.1.length ≤ 13 ∧ 0 ≤ s.2.2.2 ∧ s.2.2.2 + tries n s.2.2.2 s.2.2.1 ≤ 87 ∧ Cu x.1 (m - 20 * s.2.2.2) s.1) (Pk x.1 (m - 2000) fun l => l.length ≤ 13 ∧ n ≤ l.length)
    (fun k s hs ih => ?_) FU (x.2.1, x.2.2, [], 0) ⟨by simp, by simp, by simp [tries, later]; omega, by simpa using h⟩ (by show _ < (4611686018427387904 : Nat); simp [tries, later]; omega)
  obtain ⟨a, sd, l, t⟩ := s
  obtain ⟨hl, ht0, ht, hc⟩ := hs
  dsimp only at hl ht0 ht hc ih ⊢
  rw [F_spec_l1Cur__chartOf__mut__box_L1]
  refine Tot.ite (fun hlt => ?_) fun hge => Tot.some ⟨by simp at hge; show l.length ≤ 13 ∧ n ≤ l.length; omega, rfl, hc.mono (by omega) (by omega)⟩
  have hlt' : (l.length : Int) < n := by simpa using hlt
  have et : w64 (t + 1) = t + 1 := w64_eq (by omega) (by omega)
  -- one more try
  have go : ∀ (y52 y53 y54 y55 : Int), Cu x.1 (m - 20 * (t + 1)) y52 →
      Tot (jK2 (fun (y62 : Int) (y63 : Int) => Option.bind (F_spec_chFind l (y62, y63)) fun u67 => (if (decide (u67 < 0)) = true then Option.bind (app l [(y62, y63)]) fun u80 => (F_spec_l1Cur__chartOf__mut__box_L1 n x k) (y52) (y53) (u80) ((w64 (t + 1))) else (F_spec_l1Cur__chartOf__mut__box_L1 n x k) (y52) (y53) (l) ((w64 (t + 1)))))
        (fun k64 => (if (decide (60 < t)) = true then k64 ((w64 (3 * (List.length l : Int)))) ((w64 (7 + t))) else k64 (y54) (y55)))) (Pk x.1 (m - 2000) fun l => l.length ≤ 13 ∧ n ≤ l.length) := by
    intro a s y54 y55 hc2
    unfold jK2
    dsimp only
    rw [et]
    have hll := later_le t l
    have no : (60 < t → ∃ b, (b, 7 + t) ∈ l) → Tot (F_spec_l1Cur__chartOf__mut__box_L1 n x k a s l (t + 1)) (Pk x.1 (m - 2000) fun l => l.length ≤ 13 ∧ n ≤ l.length) := by
      intro hb
      have hμ : tries n (t + 1) l + 1 ≤ tries n t l := by
        unfold tries
        by_cases h60 : 60 < t
        · obtain ⟨b, hb⟩ := hb h60
          have := later_mem t b l hb
          omega
        · omega
      exact ih (a, s, l, t + 1) ⟨hl, by show 0 ≤ t + 1; omega, by show t + 1 + (tries n (t + 1) l : Int) ≤ 87; omega, hc2⟩ (by show tries n (t + 1) l < tries n t l; omega)
    have yes : ∀ e : Int × Int, (60 < t → e.2 = 7 + t) → Tot (F_spec_l1Cur__chartOf__mut__box_L1 n x k a s (l ++ [e]) (t + 1)) (Pk x.1 (m - 2000) fun l => l.length ≤ 13 ∧ n ≤ l.length) := by
      intro e he
      have hla := later_app (t + 1) e l
      have hμ : tries n (t + 1) (l ++ [e]) + 1 ≤ tries n t l := by
        unfold tries
        rw [List.length_append]
        simp only [List.length_cons, List.length_nil]
        by_cases h60 : 60 < t
        · have := hla.2 (by rw [he h60]; omega)
          omega
        · have := hla.1
          omega
      exact ih (a, s, l ++ [e], t + 1) ⟨by simp; omega, by show 0 ≤ t + 1; omega, by show t + 1 + (tries n (t + 1) (l ++ [e]) : Int) ≤ 87; omega, hc2⟩ (by show tries n (t + 1) (l ++ [e]) < tries n t l; omega)
    refine Tot.ite (fun h60 => ?_) fun h60 => ?_
    · have h60' : 60 < t := by simpa using h60
      rw [w64_eq (x := 3 * (l.length : Int)) (by omega) (by omega), w64_eq (x := 7 + t) (by omega) (by omega)]
      obtain ⟨r, hr, hr2⟩ := chFind_ok l (3 * (l.length : Int), 7 + t) (by omega)
      refine Tot.bindE hr (Tot.ite (fun hq => app_tot' (by simp; omega) (yes _ fun _ => rfl)) fun hq => no fun _ => ⟨3 * (l.length : Int), ?_⟩)
      by_cases hn : (3 * (l.length : Int), 7 + t) ∈ l
      · exact hn
      · rw [hr2.2 hn] at hq
        cases hq
    · have h60' : ¬ 60 < t := by simpa using h60
      obtain ⟨r, hr, hr2⟩ := chFind_ok l (y54, y55) (by omega)
      exact Tot.bindE hr (Tot.ite (fun hq => app_tot' (by simp; omega) (yes _ fun h => absurd h h60')) fun hq => no fun h => absurd h h60')
  unfold jK3 jK4
  dsimp only
  refine Tot.bind (spot_draw (x.1, a, sd) hc (by omega)) fun u33 h33 => ?_
  have c33 : Cu x.1 (m - 20 * t - 12) u33.2.2.1 := h33.2.2
  refine Tot.ite (fun hpos => ?_) fun _ => ?_
  · refine Tot.bind (one_ok (x.1, u33.2.2.1, u33.2.2.2) _ c33 (by omega)) fun u350 h350 => ?_
    have c350 : Cu x.1 (m - 20 * t - 14) u350.2.2.1 := h350.2.2.mono (by omega) (by show _ ≤ m - 20 * t - 12 - 2; omega)
    refine Tot.ite (fun _ => ?_) fun _ => go _ _ _ _ (c350.mono (by omega) (by omega))
    refine Tot.bind (pick_ok (x.1, u350.2.2.1, u350.2.2.2) _ c350 (by omega)) fun u104 h104 => ?_
    obtain ⟨v, hv, hmem, _⟩ := idx_pick l (fun e => by rw [e] at hpos; simp at hpos) h104.1
    refine Tot.bindE hv ?_
    refine Tot.bind (amongT (x.1, u104.2.2.1, u104.2.2.2) _ h104.2.2 (by show 2 ≤ m - 20 * t - 14 - 2; omega) (by simp)) fun u140 h140 => least_tot fun w1 => ?_
    refine Tot.bind (amongT (x.1, u140.2.2.1, u140.2.2.2) _ h140.2.2 (by show 2 ≤ m - 20 * t - 14 - 2 - 2; omega) (by simp)) fun u168 h168 => least_tot fun w2 => ?_
    exact go _ _ _ _ (h168.2.2.mono (by omega) (by show _ ≤ m - 20 * t - 14 - 2 - 2 - 2; omega))
  · rw [if_neg (by simp)]
    exact go _ _ _ _ (c33.mono (by omega) (by omega))
theorem chart_draw (x : Cur) {m : Int} (h : Cu x.1 m x.2.1) (hm : 2010 ≤ m) : Tot (F_spec_l1Cur__chart__mut__box x) (Pk x.1 (m - 2010) fun l => l.length ≤ 13 ∧ 1 ≤ l.length) := by
  unfold F_spec_l1Cur__chart__mut__box
  refine Tot.bind (one_ok x _ h (by omega)) fun u4 h4 => Tot.ite (fun _ => ?_) fun _ => ?_
  · refine Tot.bind (chartOf_ok (x.1, u4.2.2.1, u4.2.2.2) 12 (by omega) h4.2.2 (by show 2000 ≤ m - 2; omega)) fun u hu => ?_
    have hu1 := hu.1
    exact Tot.some ⟨by show u.1.length ≤ 13 ∧ 1 ≤ u.1.length; omega, rfl, hu.2.2.mono (by omega) (by show _ ≤ m - 2 - 2000; omega)⟩
  · refine Tot.bind (pick_ok (x.1, u4.2.2.1, u4.2.2.2) _ h4.2.2 (by omega)) fun u21 h21 => ?_
    have h21' := h21.1
    refine Tot.bind (chartOf_ok (x.1, u21.2.2.1, u21.2.2.2) _ (by rw [w64_eq (by omega) (by omega)]; omega) h21.2.2 (by show 2000 ≤ m - 2 - 2; omega)) fun u hu => ?_
    have hu1 := hu.1
    rw [w64_eq (by omega) (by omega)] at hu1
    exact Tot.some ⟨by show u.1.length ≤ 13 ∧ 1 ≤ u.1.length; omega, rfl, hu.2.2.mono (by omega) (by show _ ≤ m - 2 - 2 - 2000; omega)⟩
theorem anySpot_draw (x : Cur) {m : Int} (h : Cu x.1 m x.2.1) (hm : 20 ≤ m) : Tot (F_spec_l1Cur__anySpot__mut__box x) (Pk x.1 (m - 20) fun _ => True) := by
  unfold F_spec_l1Cur__anySpot__mut__box jK4
  dsimp only
  refine Tot.bind (spot_draw x h (by omega)) fun u8 h8 => ?_
  refine Tot.bind (pick_ok (x.1, u8.2.2.1, u8.2.2.2) _ h8.2.2 (by omega)) fun u39 h39 => ?_
  have c39 : Cu x.1 (m - 14) u39.2.2.1 := h39.2.2.mono (by omega) (by show _ ≤ m - 12 - 2; omega)
  refine Tot.ite (fun _ => ?_) fun _ => Tot.ite (fun _ => ?_) fun _ => Tot.some ⟨trivial, rfl, c39.mono (by omega) (by omega)⟩
  · exact Tot.bind (amongT (x.1, u39.2.2.1, u39.2.2.2) _ c39 (by omega) (by simp)) fun u hu => Tot.some ⟨trivial, rfl, hu.2.2.mono (by omega) (by show _ ≤ m - 14 - 2; omega)⟩
  · exact Tot.bind (amongT (x.1, u39.2.2.1, u39.2.2.2) _ c39 (by omega) (by simp)) fun u hu => Tot.some ⟨trivial, rfl, hu.2.2.mono (by omega) (by show _ ≤ m - 14 - 2; omega)⟩
theorem anyChart_draw (x : Cur) {m : Int} (h : Cu x.1 m x.2.1) (hm : 5000 ≤ m) : Tot (F_spec_l1Cur__anyChart__mut__box x) (Pk x.1 (m - 5000) fun l => l.length ≤ 13) := by
  unfold F_spec_l1Cur__anyChart__mut__box jK3
  dsimp only
  refine Tot.bind (chart_draw x h (by omega)) fun u3 h3 => ?_
  have h31 := h3.1
  refine Tot.bind (pick_ok (x.1, u3.2.2.1, u3.2.2.2) _ h3.2.2 (by omega)) fun u12 h12 => ?_
  obtain ⟨v, hv, hmem, _⟩ := idx_pick u3.1 (fun e => by rw [e] at h31; simp at h31) h12.1
  refine Tot.bind (pick_ok (x.1, u12.2.2.1, u12.2.2.2) _ h12.2.2 (by show 2 ≤ m - 2010 - 2; omega)) fun u31 h31b => ?_
  have c31 : Cu x.1 (m - 2020) u31.2.2.1 := h31b.2.2.mono (by omega) (by show _ ≤ m - 2010 - 2 - 2; omega)
  have fin : ∀ (a s : Int) (l : List (Int × Int)), l.length ≤ 13 → Cu x.1 (m - 5000) a → Tot (some (l, (x.1, a, s))) (Pk x.1 (m - 5000) fun l => l.length ≤ 13) := fun a s l h1 h2 => Tot.some ⟨h1, rfl, h2⟩
  refine Tot.ite (fun _ => ?_) fun _ => Tot.ite (fun _ => ?_) fun _ => Tot.ite (fun _ => ?_) fun _ => Tot.ite (fun _ => ?_) fun _ => ?_
  · refine Tot.bind (anySpot_draw (x.1, u31.2.2.1, u31.2.2.2) c31 (by omega)) fun u hu => Tot.bindE hv (fin _ _ _ (by rw [seti_len']; omega) (hu.2.2.mono (by omega) (by show _ ≤ m - 2020 - 20; omega)))
  · have h0 : idx u3.1 0 = some u3.1[0] := by rw [idx_zero]; exact List.getElem?_eq_getElem (by omega)
    exact Tot.bindE h0 (Tot.bindE hv (fin _ _ _ (by rw [seti_len']; omega) (c31.mono (by omega) (by omega))))
  · exact fin _ _ _ (by simp) (c31.mono (by omega) (by omega))
  · refine Tot.bind (chartOf_ok (x.1, u31.2.2.1, u31.2.2.2) 13 (by omega) c31 (by omega)) fun u hu => fin _ _ _ hu.1.1 (hu.2.2.mono (by omega) (by show _ ≤ m - 2020 - 2000; omega))
  · exact fin _ _ _ (by omega) (c31.mono (by omega) (by omega))
/-- What drawn shows are. -/
def shortShow (s : ShowT) : Prop := s.1.length ≤ 9 ∧ (∀ c ∈ s.1, c.length ≤ 13) ∧ s.2.1.length ≤ 9
theorem shortShow.lens {s : ShowT} (h : shortShow s) : lensOk s := ⟨by have := h.1; omega, fun c hc => by have := h.2.1 c hc; omega, by have := h.2.2; omega⟩
theorem show_draw (x : Cur) {m : Int} (h : Cu x.1 m x.2.1) (hm : 50000 ≤ m) : Tot (F_spec_l1Cur__show__mut__box x) (Pk x.1 (m - 50000) shortShow) := by
  unfold F_spec_l1Cur__show__mut__box
  refine Tot.bind (pick_ok x _ h (by omega)) fun u8 h8 => ?_
  have h81 := h8.1
  have e8 : w64 (1 + u8.1) = 1 + u8.1 := w64_eq (by omega) (by omega)
  refine Tot.bind (chartOf_ok (x.1, u8.2.2.1, u8.2.2.2) _ (by rw [e8]; omega) h8.2.2 (by omega)) fun u15 h15 => ?_
  refine Tot.bind (amongT (x.1, u15.2.2.1, u15.2.2.2) _ h15.2.2 (by show 2 ≤ m - 2 - 2000; omega) (by simp)) fun u38 h38 => ?_
  refine Tot.bind (amongT (x.1, u38.2.2.1, u38.2.2.2) _ h38.2.2 (by show 2 ≤ m - 2 - 2000 - 2; omega) (by simp)) fun u50 h50 => ?_
  refine Tot.bind (pick_ok (x.1, u50.2.2.1, u50.2.2.2) _ h50.2.2 (by show 2 ≤ m - 2 - 2000 - 2 - 2; omega)) fun u66 h66 => ?_
  have h661 := h66.1
  have c66 : Cu x.1 (m - 2010) u66.2.2.1 := h66.2.2.mono (by omega) (by show _ ≤ m - 2 - 2000 - 2 - 2 - 2; omega)
  have loop : ∀ (a s many : Int), Cu x.1 (m - 2020) a → 2 ≤ many → many ≤ 9 → Tot (F_spec_l1Cur__show__mut__box_L1 many x u8 u50 u38 FU a s ([u15.1]) ([])) (Pk x.1 (m - 50000) shortShow) := by
    intro a0 s0 many ha hm1 hm2
    have h151 := h15.1
    refine Tot.loop (fun k (s : Int × Int × List (List (Int × Int)) × List Int) => F_spec_l1Cur__show__mut__box_L1 many x u8 u50 u38 k s.1 s.2.1 s.2.2.1 s.2.2.2) (fun s => 10 - s.2.2.1.length)
      (fun s => 1 ≤ s.2.2.1.length ∧ s.2.2.1.length ≤ 9 ∧ (∀ c ∈ s.2.2.1, c.length ≤ 13) ∧ s.2.2.2.length + 1 = s.2.2.1.length ∧ Cu x.1 (m - 3000 * s.2.2.1.length) s.1) (Pk x.1 (m - 50000) shortShow)
      (fun k s hs ih => ?_) FU (a0, s0, [u15.1], []) ⟨by simp, by simp, fun c hc => by rw [List.mem_singleton.1 hc]; exact h151.1, by simp, ha.mono (by show 0 ≤ m - 3000 * (1 : Int); omega) (by show m - 3000 * (1 : Int) ≤ m - 2020; omega)⟩ (by show _ < (4611686018427387904 : Nat); simp)
    obtain ⟨a, sd, l, ns⟩ := s
    obtain ⟨hl1, hl9, hlc, hns, hc⟩ := hs
    dsimp only at hl1 hl9 hlc hns hc ih ⊢
    rw [F_spec_l1Cur__show__mut__box_L1]
    have elast : idx l (w64 ((l.length : Int) - 1)) = some l[l.length - 1] := by
      rw [w64_eq (by omega) (by omega), idx_int (by omega), show ((l.length : Int) - 1).toNat = l.length - 1 by omega]
      exact List.getElem?_eq_getElem (by omega)
    have hlast : l[l.length - 1].length ≤ 13 := hlc _ (List.getElem_mem _)
    refine Tot.ite (fun hlt => ?_) fun hge => ?_
    · have hlt' : (l.length : Int) < many := by simpa using hlt
      refine Tot.bindE elast ?_
      refine Tot.bind (chartOf_ok (x.1, a, sd) _ (by rw [e8]; omega) hc (by omega)) fun u108 h108 => ?_
      have c108 : Cu x.1 (m - 3000 * l.length - 2000) u108.2.2.1 := h108.2.2
      have more : ∀ (a s : Int) (nl : List (Int × Int)), nl.length ≤ 13 → Cu x.1 (m - 3000 * l.length - 2500) a → Tot (Option.bind (app l [nl]) fun u137 =>
          Option.bind (F_spec_l1Cur__among__mut__box (x.1, a, s) [1, 4, 8, 16, 64]) fun u164 => Option.bind (app ns [u164.1]) fun u182 => (F_spec_l1Cur__show__mut__box_L1 many x u8 u50 u38 k) (u164.2.2.1) (u164.2.2.2) (u137) (u182)) (Pk x.1 (m - 50000) shortShow) := by
        intro a s nl hnl ha
        refine app_tot' (by simp; omega) (Tot.bind (amongT (x.1, a, s) _ ha (by omega) (by simp)) fun u164 h164 => app_tot' (by simp; omega) ?_)
        exact ih (u164.2.2.1, u164.2.2.2, l ++ [nl], ns ++ [u164.1]) ⟨by simp, by simp; omega, fun c hc => by rcases List.mem_append.1 hc with hc | hc; exact hlc c hc; rw [List.mem_singleton.1 hc]; exact hnl,
          by simp; omega, h164.2.2.mono (by simp; omega) (by simp; omega)⟩ (by simp; omega)
      unfold jK3
      dsimp only
      refine Tot.bind (one_ok (x.1, u108.2.2.1, u108.2.2.2) _ c108 (by omega)) fun u292 h292 => ?_
      have c292 : Cu x.1 (m - 3000 * l.length - 2002) u292.2.2.1 := h292.2.2.mono (by omega) (by show _ ≤ m - 3000 * (l.length : Int) - 2000 - 2; omega)
      refine Tot.ite (fun _ => ?_) fun _ => more _ _ _ h108.1.1 (c292.mono (by omega) (by omega))
      refine Tot.bindE (spec_chOwn _ (by omega)) ?_
      generalize l[l.length - 1] = last at hlast ⊢
      refine Tot.loop (fun k2 (s : Int × Int × List (Int × Int) × Int) => F_spec_l1Cur__show__mut__box_L2 last x last _ k2 s.1 s.2.1 s.2.2.1 s.2.2.2) (fun s => (last.length - s.2.2.2).toNat)
        (fun s => s.2.2.1.length = last.length ∧ 0 ≤ s.2.2.2 ∧ s.2.2.2 ≤ last.length ∧ Cu x.1 (m - 3000 * l.length - 2002 - 2 * s.2.2.2) s.1) _
        (fun k2 s hs ih2 => ?_) FU (u292.2.2.1, u292.2.2.2, last, 0) ⟨rfl, by simp, by simp, by simpa using c292⟩ (by show _ < (4611686018427387904 : Nat); simp; omega)
      obtain ⟨a2, s2, l2, y⟩ := s
      obtain ⟨hl2, hy0, hy, hc2⟩ := hs
      dsimp only at hl2 hy0 hy hc2 ih2 ⊢
      rw [F_spec_l1Cur__show__mut__box_L2]
      refine Tot.ite (fun hylt => ?_) fun _ => ?_
      · have hylt' : y < last.length := by simpa using hylt
        have ey : idx l2 y = some l2[y.toNat] := by rw [idx_int hy0]; exact List.getElem?_eq_getElem (by omega)
        unfold jK3
        dsimp only
        refine Tot.bindE ey (Tot.bind (amongT (x.1, a2, s2) _ hc2 (by omega) (by simp)) fun u361 h361 => least_tot fun w1 => Tot.bindE ey ?_)
        rw [w64_eq (x := y + 1) (by omega) (by omega)]
        exact ih2 (u361.2.2.1, u361.2.2.2, seti l2 y (w1, l2[y.toNat].2), y + 1) ⟨by rw [seti_len']; exact hl2, by show 0 ≤ y + 1; omega, by show y + 1 ≤ last.length; omega, h361.2.2.mono (by show 0 ≤ m - 3000 * (l.length : Int) - 2002 - 2 * (y + 1); omega) (by show m - 3000 * (l.length : Int) - 2002 - 2 * (y + 1) ≤ m - 3000 * (l.length : Int) - 2002 - 2 * y - 2; omega)⟩
          (by show ((last.length : Int) - (y + 1)).toNat < ((last.length : Int) - y).toNat; omega)
      · refine Tot.bindE (spec_chGood l2 (by omega)) (Tot.ite (fun _ => Tot.bindE (spec_chOwn _ (by omega)) (more _ _ _ hlast (hc2.mono (by omega) (by omega)))) fun _ => more _ _ _ (by omega) (hc2.mono (by omega) (by omega)))
    · have hge' : many ≤ (l.length : Int) := by simpa using hge
      have fin : ∀ (a s : Int) (cs : List (List (Int × Int))) (ns : List Int) (p q : Int), cs.length ≤ 9 → (∀ c ∈ cs, c.length ≤ 13) → ns.length ≤ 9 → Cu x.1 (m - 50000) a → Tot (some ((cs, ns, p, q), (x.1, a, s))) (Pk x.1 (m - 50000) shortShow) :=
        fun a s cs ns p q h1 h2 h3 h4 => Tot.some ⟨⟨h1, h2, h3⟩, rfl, h4⟩
      unfold jK6
      dsimp only
      refine Tot.bind (pick_ok (x.1, a, sd) _ hc (by omega)) fun u499 h499 => ?_
      have c499 : Cu x.1 (m - 30000) u499.2.2.1 := h499.2.2.mono (by omega) (by show _ ≤ m - 3000 * (l.length : Int) - 2; omega)
      have cend : Cu x.1 (m - 50000) u499.2.2.1 := c499.mono (by omega) (by omega)
      refine Tot.ite (fun _ => ?_) fun _ => Tot.ite (fun _ => ?_) fun _ => Tot.ite (fun _ => ?_) fun _ => Tot.ite (fun _ => ?_) fun _ => Tot.ite (fun _ => ?_) fun _ => Tot.ite (fun _ => ?_) fun _ => ?_
      · exact Tot.bind (amongT (x.1, u499.2.2.1, u499.2.2.2) _ c499 (by omega) (by simp)) fun u hu => fin _ _ _ _ _ _ hl9 hlc (by omega) (hu.2.2.mono (by omega) (by show _ ≤ m - 30000 - 2; omega))
      · exact Tot.bind (amongT (x.1, u499.2.2.1, u499.2.2.2) _ c499 (by omega) (by simp)) fun u hu => fin _ _ _ _ _ _ hl9 hlc (by omega) (hu.2.2.mono (by omega) (by show _ ≤ m - 30000 - 2; omega))
      · refine Tot.bind (amongT (x.1, u499.2.2.1, u499.2.2.2) _ c499 (by omega) (by simp)) fun u hu => ?_
        have e0 : idx ns 0 = some ns[0] := by rw [idx_zero]; exact List.getElem?_eq_getElem (by omega)
        exact Tot.bindE e0 (fin _ _ _ _ _ _ hl9 hlc (by rw [seti_len']; omega) (hu.2.2.mono (by omega) (by show _ ≤ m - 30000 - 2; omega)))
      · refine Tot.bind (anyChart_draw (x.1, u499.2.2.1, u499.2.2.2) c499 (by omega)) fun u hu => Tot.bindE elast (fin _ _ _ _ _ _ (by rw [seti_len']; exact hl9) (fun c hc => ?_) (by omega) (hu.2.2.mono (by omega) (by show _ ≤ m - 30000 - 5000; omega)))
        unfold seti at hc
        rcases List.mem_or_eq_of_mem_set hc with hc | rfl
        · exact hlc c hc
        · exact hu.1
      · exact app_tot' (by simp; omega) (fin _ _ _ _ _ _ hl9 hlc (by simp; omega) cend)
      · have esl : sl l 0 1 = some (l.take 1) := sl_take l (k := 1) hl1
        exact Tot.bindE esl (fin _ _ _ _ _ _ (by simp; omega) (fun c hc => hlc c (List.mem_of_mem_take hc)) (by simp) cend)
      · exact fin _ _ _ _ _ _ hl9 hlc (by omega) cend
  unfold jK3
  dsimp only
  refine Tot.bind (one_ok (x.1, u66.2.2.1, u66.2.2.2) _ c66 (by omega)) fun u786 h786 => Tot.ite (fun _ => ?_) fun _ => ?_
  · refine Tot.bind (pick_ok (x.1, u786.2.2.1, u786.2.2.2) _ h786.2.2 (by omega)) fun u793 h793 => ?_
    have := h793.1
    refine loop _ _ _ (h793.2.2.mono (by omega) (by show _ ≤ m - 2010 - 2 - 2; omega)) ?_ ?_
    · rw [w64_eq (by omega) (by omega)]; omega
    · rw [w64_eq (by omega) (by omega)]; omega
  · refine loop _ _ _ (h786.2.2.mono (by omega) (by show _ ≤ m - 2010 - 2; omega)) ?_ ?_
    · rw [w64_eq (by omega) (by omega)]; omega
    · rw [w64_eq (by omega) (by omega)]; omega
/-! what the laws draw -/
theorem Cu.begin {c : List Int} (h : allG inU8 c) : Cu c 100000000 0 := ⟨fun b hb => h.2 b hb, by omega, by omega, by omega⟩
section
variable (c : List Int) (h : Cu c 100000000 0)
include h
end
end Go.Proofs.Ytmkignciedkidaa
/-
  MARCHES, PLAIN: what the tests of marches answer.
-/
set_option linter.unusedSimpArgs false
set_option linter.unusedVariables false
namespace Go.Proofs.Ytmkignciedkidaa
open Go
/-- At k the list lies in its bounds and has risen. -/
def riseAt (l : List Int) (lo hi : Int) (k : Nat) : Bool := match l[k]? with
  | some u => okIn u lo hi && (match l[k - 1]? with | some v => decide (k = 0) || decide (v < u) | none => true)
  | none => true
theorem riseAt_0 {l : List Int} {lo hi u : Int} (h : l[0]? = some u) : riseAt l lo hi 0 = okIn u lo hi := by
  unfold riseAt
  rw [h]
  simp [h]
theorem riseAt_s {l : List Int} {lo hi u v : Int} {k : Nat} (h : l[k + 1]? = some u) (h' : l[k]? = some v) : riseAt l lo hi (k + 1) = (okIn u lo hi && decide (v < u)) := by
  unfold riseAt
  rw [h]
  simp [h']
def rises (l : List Int) (lo hi : Int) : Bool := (List.range l.length).all (riseAt l lo hi)
theorem rise_loop (f : Nat → Int → Option Bool) (l : List Int) (lo hi : Int) (hn : l.length < 4611686018427387904)
    (hs : ∀ m y, f (m + 1) y = if (decide (y < (List.length l : Int))) = true then Option.bind (idx l y) fun u =>
      (if (!(okIn u lo hi)) = true then (if true = true then some false else f m (w64 (y + 1))) else (if (decide (0 < y)) = true then Option.bind (idx l (w64 (y - 1))) fun v => (if (decide (u ≤ v)) = true then some false else f m (w64 (y + 1))) else (if false = true then some false else f m (w64 (y + 1))))) else some true) :
    f FU 0 = some (rises l lo hi) := by
  rw [loopR f l.length (riseAt l lo hi) (some true) (some false) hn (fun m k hk => ?_) (fun m => ?_)]
  · unfold rises
    cases (List.range l.length).all (riseAt l lo hi) <;> simp
  · obtain ⟨u, hu⟩ : ∃ u, l[k]? = some u := ⟨_, List.getElem?_eq_getElem hk⟩
    rw [hs, if_pos (by simp; omega), idx_nat, hu, Option.bind_some, w64_succ (by omega)]
    cases k with
    | zero =>
      rw [riseAt_0 hu]
      cases okIn u lo hi <;> simp
    | succ j =>
      obtain ⟨v, hv⟩ : ∃ v, l[j]? = some v := ⟨_, List.getElem?_eq_getElem (by omega)⟩
      rw [riseAt_s hu hv]
      have e : w64 (((j + 1 : Nat) : Int) - 1) = (j : Int) := by rw [w64_eq (by omega) (by omega)]; omega
      rw [e, idx_nat, hv, Option.bind_some, if_pos (show decide (0 < ((j + 1 : Nat) : Int)) = true by simp)]
      cases okIn u lo hi with
      | false => simp
      | true =>
        by_cases hq : v < u
        · have : ¬ u ≤ v := by omega
          simp [hq, this]
        · have : u ≤ v := by omega
          simp [hq, this]
  · rw [hs, if_neg (by simp)]
theorem spec_l1Rising (l : List Int) (lo hi : Int) (hn : l.length < 4611686018427387904) : F_spec_l1Rising l lo hi = some (rises l lo hi) := by
  unfold F_spec_l1Rising
  refine rise_loop (F_spec_l1Rising_L1 l lo hi) l lo hi hn fun m y => ?_
  rw [F_spec_l1Rising_L1]
  simp only [jK1, spec_l1In, Option.bind_some]
theorem impl_arePerformers (l : List Int) (n : Int) (hn : l.length < 4611686018427387904) : F_impl_arePerformers l n = some (rises l 0 (w64 (n - 1))) := by
  unfold F_impl_arePerformers
  refine rise_loop (F_impl_arePerformers_L1 l n) l 0 (w64 (n - 1)) hn fun m y => ?_
  rw [F_impl_arePerformers_L1]
  simp only [jK1, impl_within, Option.bind_some]
def allIn (l : List Int) (lo hi : Int) : Bool := l.all fun u => okIn u lo hi
theorem spec_l1All' (l : List Int) (lo hi : Int) (hl : l.length < 4611686018427387904) : F_spec_l1All l lo hi = some (allIn l lo hi) := by
  unfold F_spec_l1All
  rw [loopL (F_spec_l1All_L1 l lo hi) l (fun u => okIn u lo hi) (some true) (some false) hl (fun m k x hk hx => ?_) (fun m => ?_)]
  · unfold allIn
    cases l.all (fun u => okIn u lo hi) <;> simp
  · rw [F_spec_l1All_L1, if_pos (by simp; omega), idx_nat, hx, Option.bind_some, spec_l1In, Option.bind_some, w64_succ (by omega)]
    cases okIn x lo hi <;> simp
  · rw [F_spec_l1All_L1, if_neg (by simp)]
abbrev MarchT := ShowT × Int × (List Int) × (List Int)
def firstLen (x : ShowT) : Nat := match x.1[0]? with | some c => c.length | none => 0
def okMarch (x : MarchT) : Bool := okShow x.1 && okIn x.2.1 0 1000 && rises x.2.2.1 0 ((firstLen x.1 : Int) - 1) && decide (x.2.2.2.length = firstLen x.1) && allIn x.2.2.2 0 x.2.1
theorem firstLen_of {x : ShowT} (h : lensOk x) (hs : okShow x = true) : ∃ c, x.1[0]? = some c ∧ c.length = firstLen x ∧ 1 ≤ firstLen x ∧ firstLen x ≤ 12 := by
  have f := facts hs
  have := f.n0
  obtain ⟨c, hc⟩ : ∃ c, x.1[0]? = some c := ⟨_, List.getElem?_eq_getElem (by omega)⟩
  have hl := f.cl c (List.mem_of_getElem? hc)
  have e : c.length = firstLen x := by unfold firstLen; rw [hc]
  exact ⟨c, hc, e, by omega, by omega⟩
theorem spec_mnGood (x : MarchT) (h : lensOk x.1) (h1 : x.2.2.1.length < 4611686018427387904) (h2 : x.2.2.2.length < 4611686018427387904) : F_spec_mnGood x = some (okMarch x) := by
  unfold F_spec_mnGood jK1 okMarch
  dsimp only
  rw [spec_swGood x.1 h.1 h.2.1 h.2.2, Option.bind_some, spec_l1In, Option.bind_some]
  cases hs : okShow x.1 with
  | false => simp
  | true =>
    obtain ⟨c, hc, he, hl, hu⟩ := firstLen_of h hs
    rw [idx_zero, hc, Option.bind_some, he, w64_eq (by omega) (by omega), spec_l1Rising _ _ _ h1, Option.bind_some, spec_l1All' _ _ _ h2, Option.bind_some]
    cases okIn x.2.1 0 1000 with
    | false => simp
    | true =>
      cases rises x.2.2.1 0 ((firstLen x.1 : Int) - 1) with
      | false => simp
      | true =>
        by_cases hq : x.2.2.2.length = firstLen x.1 <;> simp [hq]
        omega
theorem impl_IsMarch (x : MarchT) (h : lensOk x.1) (h1 : x.2.2.1.length < 4611686018427387904) (h2 : x.2.2.2.length < 4611686018427387904) : F_impl_IsMarch x = some (okMarch x) := by
  unfold F_impl_IsMarch jK1 okMarch
  dsimp only
  rw [impl_IsShow x.1 h.1 h.2.1 h.2.2, Option.bind_some, impl_within, Option.bind_some]
  have hin : F_impl_IsMarch_L1 x FU 0 = some (allIn x.2.2.2 0 x.2.1) := by
    rw [loopL (F_impl_IsMarch_L1 x) x.2.2.2 (fun u => okIn u 0 x.2.1) (some true) (some false) h2 (fun m k u hk hu => ?_) (fun m => ?_)]
    · unfold allIn
      cases x.2.2.2.all (fun u => okIn u 0 x.2.1) <;> simp
    · rw [F_impl_IsMarch_L1, if_pos (by simp; omega), idx_nat, hu, Option.bind_some, impl_within, Option.bind_some, w64_succ (by omega)]
      cases okIn u 0 x.2.1 <;> simp
    · rw [F_impl_IsMarch_L1, if_neg (by simp)]
  rw [hin]
  cases hs : okShow x.1 with
  | false => simp
  | true =>
    obtain ⟨c, hc, he, hl, hu⟩ := firstLen_of h hs
    rw [idx_zero, hc, Option.bind_some, Option.bind_some, he, impl_arePerformers _ _ h1, Option.bind_some, w64_eq (by omega) (by omega)]
    cases okIn x.2.1 0 1000 with
    | false => simp
    | true =>
      cases rises x.2.2.1 0 ((firstLen x.1 : Int) - 1) with
      | false => simp
      | true =>
        by_cases hq : x.2.2.2.length = firstLen x.1 <;> simp [hq]
        omega
end Go.Proofs.Ytmkignciedkidaa
/-
  THE MOST BEHIND, PLAIN.
-/
set_option linter.unusedSimpArgs false
set_option linter.unusedVariables false
namespace Go.Proofs.Ytmkignciedkidaa
open Go
def lensM (x : MarchT) : Prop := lensOk x.1 ∧ x.2.2.1.length < 4611686018427387904 ∧ x.2.2.2.length < 4611686018427387904
def bestAt (l : List Int) : Int := (List.range l.length).foldl (fun s (k : Nat) => match l[k]?, l[s.toNat]? with | some u, some v => if v < u then (k : Int) else s | _, _ => s) 0
theorem best_loop (f : Nat → Int → Int → Option (Int × Bool)) (l : List Int) (hl : l.length < 4611686018427387904) (h0 : 0 < l.length)
    (hs : ∀ m s y, f (m + 1) s y = if (decide (y < (List.length l : Int))) = true then Option.bind (idx l y) fun u => Option.bind (idx l s) fun v => (if (decide (v < u)) = true then f m y (w64 (y + 1)) else f m s (w64 (y + 1))) else some (s, true)) :
    f FU 0 0 = some (bestAt l, true) := by
  have := loopS f l.length (fun (k : Nat) s => match l[k]?, l[s.toNat]? with | some u, some v => if v < u then (k : Int) else s | _, _ => s) (fun s => some (s, true)) hl (fun _ s => 0 ≤ s ∧ s < l.length) 0 (by omega) (fun k s hk hi => ?_)
    (fun m k s hk hi => ?_) (fun m s _ => ?_)
  · exact this.1
  · split
    · split <;> omega
    · exact hi
  · obtain ⟨u, hu⟩ : ∃ u, l[k]? = some u := ⟨_, List.getElem?_eq_getElem hk⟩
    obtain ⟨v, hv⟩ : ∃ v, l[s.toNat]? = some v := ⟨_, List.getElem?_eq_getElem (by omega)⟩
    rw [hs, if_pos (by simp; omega), idx_nat, hu, Option.bind_some, idx_int hi.1, hv, Option.bind_some, w64_succ (by omega)]
    by_cases hq : v < u <;> simp [hq]
  · rw [hs, if_neg (by simp)]
theorem march_behind {x : MarchT} (h : lensM x) (hm : okMarch x = true) : 1 ≤ x.2.2.2.length ∧ x.2.2.2.length ≤ 12 ∧ okShow x.1 = true ∧ x.2.2.2.length = firstLen x.1 := by
  unfold okMarch at hm
  simp only [Bool.and_eq_true, decide_eq_true_eq] at hm
  obtain ⟨⟨⟨⟨h1, h2⟩, h3⟩, h4⟩, h5⟩ := hm
  obtain ⟨c, hc, he, hl, hu⟩ := firstLen_of h.1 h1
  exact ⟨by omega, by omega, h1, h4⟩
def behindAns (x : MarchT) : Int × Bool := if okMarch x then (bestAt x.2.2.2, true) else (0, false)
theorem spec_MostBehind (x : MarchT) (h : lensM x) : F_spec_MostBehind x = some (behindAns x) := by
  unfold F_spec_MostBehind behindAns
  rw [spec_mnGood x h.1 h.2.1 h.2.2, Option.bind_some]
  cases hm : okMarch x with
  | false => simp
  | true =>
    have hb := march_behind h hm
    simp only [Bool.not_true, Bool.false_eq_true, if_false, if_true]
    exact best_loop (F_spec_MostBehind_L1 x) x.2.2.2 h.2.2 (by omega) (fun m s y => by rw [F_spec_MostBehind_L1]; rfl)
theorem impl_MostBehind (x : MarchT) (h : lensM x) : F_impl_MostBehind x = some (behindAns x) := by
  unfold F_impl_MostBehind behindAns
  rw [impl_IsMarch x h.1 h.2.1 h.2.2, Option.bind_some]
  cases hm : okMarch x with
  | false => simp
  | true =>
    have hb := march_behind h hm
    simp only [Bool.not_true, Bool.false_eq_true, if_false, if_true]
    exact best_loop (F_impl_MostBehind_L1 x) x.2.2.2 h.2.2 (by omega) (fun m s y => by rw [F_impl_MostBehind_L1]; rfl)
end Go.Proofs.Ytmkignciedkidaa
/-
  NEW MARCHES, PLAIN.
-/
set_option linter.unusedSimpArgs false
set_option linter.unusedVariables false
namespace Go.Proofs.Ytmkignciedkidaa
open Go
def newAns (x : ShowT) : MarchT × Bool := if okShow x then ((x, 0, [], List.replicate (firstLen x) 0), true) else ((([], [], 0, 0), 0, [], []), false)
theorem spec_NewMarch (x : ShowT) (h : lensOk x) : F_spec_NewMarch x = some (newAns x) := by
  unfold F_spec_NewMarch jK6 newAns
  rw [spec_swGood x h.1 h.2.1 h.2.2, Option.bind_some]
  cases hs : okShow x with
  | false => simp
  | true =>
    have f := facts hs
    obtain ⟨c, hc, he, hl, hu⟩ := firstLen_of h hs
    simp only [Bool.not_true, Bool.false_eq_true, if_false, if_true]
    rw [idx_zero, hc, Option.bind_some, spec_swOwn x f, Option.bind_some, he, mkL_nat (by omega), Option.bind_some]
end Go.Proofs.Ytmkignciedkidaa
/-
  ONE BEAT, PLAIN.
-/
set_option linter.unusedSimpArgs false
set_option linter.unusedVariables false
namespace Go.Proofs.Ytmkignciedkidaa
open Go
theorem spec_mnOwn (x : MarchT) (f : ShowFacts x.1) (h1 : x.2.2.1.length ≤ 1048576) (h2 : x.2.2.2.length ≤ 1048576) : F_spec_mnOwn x = some x := by
  unfold F_spec_mnOwn
  rw [spec_swOwn x.1 f, Option.bind_some, spec_l1Own _ h1, Option.bind_some, spec_l1Own _ h2, Option.bind_some]
theorem spec_l1Has (l : List Int) (n : Int) (h : l.length < 4611686018427387904) : F_spec_l1Has l n = some (l.any (· == n)) := by
  unfold F_spec_l1Has
  rw [loopL (F_spec_l1Has_L1 l n) l (fun u => !(u == n)) (some false) (some true) h (fun m k u hk hu => ?_) (fun m => ?_)]
  · have : l.any (· == n) = !l.all (fun u => !(u == n)) := by simp [List.any_eq_not_all_not]
    rw [this]
    cases l.all (fun u => !(u == n)) <;> simp
  · rw [F_spec_l1Has_L1, if_pos (by simp; omega), idx_nat, hu, Option.bind_some, w64_succ (by omega)]
    cases u == n <;> simp
  · rw [F_spec_l1Has_L1, if_neg (by simp)]
def bump (hs : List Int) (k : Nat) (s : List Int) : List Int := match hs[k]? with
  | some u => (match s[u.toNat]? with | some a => s.set u.toNat (w64 (a + 1)) | none => s)
  | none => s
def bumped (hs s : List Int) : List Int := (List.range hs.length).foldl (fun s k => bump hs k s) s
theorem bump_len (hs : List Int) (k : Nat) (s : List Int) : (bump hs k s).length = s.length := by
  unfold bump
  split
  · split <;> simp
  · rfl
theorem bumped_len (hs s : List Int) : (bumped hs s).length = s.length := by
  unfold bumped
  have key : ∀ (ks : List Nat) (s : List Int), (ks.foldl (fun s k => bump hs k s) s).length = s.length := by
    intro ks
    induction ks with
    | nil => intro s; rfl
    | cons k ks ih => intro s; rw [List.foldl_cons, ih, bump_len]
  exact key _ _
theorem bump_loop {R : Type} (f : Nat → List Int → Int → Option R) (hs s0 : List Int) (rest : List Int → Option R) (hl : hs.length < 4611686018427387904) (hr : ∀ u ∈ hs, 0 ≤ u ∧ u < s0.length)
    (hst : ∀ m s y, f (m + 1) s y = if (decide (y < (List.length hs : Int))) = true then Option.bind (idx hs y) fun u => Option.bind (idx s u) fun a => Option.bind (idx s u) fun b => f m (seti s u (w64 (a + 1))) (w64 (y + 1)) else rest s) : f FU s0 0 = rest (bumped hs s0) := by
  refine (loopS f hs.length (fun k s => bump hs k s) rest hl (fun _ s => s.length = s0.length) s0 rfl (fun k s hk hi => by rw [bump_len]; exact hi) (fun m k s hk hi => ?_) (fun m s _ => ?_)).1
  · have hx : hs[k]? = some hs[k] := List.getElem?_eq_getElem hk
    have hu := hr hs[k] (List.getElem_mem hk)
    have hy : s[hs[k].toNat]? = some (s[hs[k].toNat]'(by omega)) := List.getElem?_eq_getElem (by omega)
    rw [hst, if_pos (by simp; omega), idx_nat, hx, Option.bind_some, idx_int hu.1, hy, Option.bind_some, Option.bind_some, w64_succ (by omega)]
    unfold bump seti
    rw [hx]
    dsimp only
    rw [hy]
  · rw [hst, if_neg (by simp)]
theorem rises_in {l : List Int} {lo hi : Int} (h : rises l lo hi = true) : ∀ u ∈ l, lo ≤ u ∧ u ≤ hi := by
  intro u hu
  obtain ⟨k, hk⟩ := List.getElem?_of_mem hu
  unfold rises at h
  have := List.all_eq_true.1 h k (List.mem_range.2 (List.getElem?_eq_some_iff.1 hk).1)
  unfold riseAt at this
  rw [hk] at this
  simp only [Bool.and_eq_true, okIn_iff] at this
  exact this.1
theorem march_halted {x : MarchT} (h : lensM x) (hm : okMarch x = true) : (∀ u ∈ x.2.2.1, 0 ≤ u ∧ u < x.2.2.2.length) ∧ 0 ≤ x.2.1 ∧ x.2.1 ≤ 1000 := by
  have hb := march_behind h hm
  unfold okMarch at hm
  simp only [Bool.and_eq_true, decide_eq_true_eq, okIn_iff] at hm
  obtain ⟨⟨⟨⟨h1, h2⟩, h3⟩, h4⟩, h5⟩ := hm
  exact ⟨fun u hu => by have := rises_in h3 u hu; omega, h2⟩
abbrev noMarch : MarchT := (([], [], 0, 0), 0, [], [])
def beatAns (x : MarchT) : MarchT × Bool := if okMarch x && decide (x.2.1 < 1000) then ((x.1, x.2.1 + 1, x.2.2.1, bumped x.2.2.1 x.2.2.2), true) else (noMarch, false)
end Go.Proofs.Ytmkignciedkidaa
/-
  A HALT ENDS, PLAIN.
-/
set_option linter.unusedSimpArgs false
set_option linter.unusedVariables false
namespace Go.Proofs.Ytmkignciedkidaa
open Go
theorem rises_lt {l : List Int} {lo hi : Int} (h : rises l lo hi = true) : ∀ (j i : Nat) (hj : j < l.length) (hij : i < j), l[i] < l[j] := by
  have st : ∀ k (hk : k + 1 < l.length), l[k] < l[k + 1] := by
    intro k hk
    unfold rises at h
    have := List.all_eq_true.1 h (k + 1) (List.mem_range.2 hk)
    rw [riseAt_s (List.getElem?_eq_getElem hk) (List.getElem?_eq_getElem (show k < l.length by omega)), Bool.and_eq_true, decide_eq_true_eq] at this
    exact this.2
  intro j
  induction j with
  | zero => intro i _ h; omega
  | succ j ih =>
    intro i hj hij
    by_cases e : i = j
    · subst e; exact st i hj
    · have := ih i (by omega) (by omega)
      have := st j hj
      omega
def without (l : List Int) (n : Int) : List Int := l.filter (fun u => u != n)
theorem without_len (l : List Int) (n : Int) : (without l n).length ≤ l.length := List.length_filter_le _ _
theorem without_loop {R : Type} (f : Nat → List Int → Int → Option R) (l : List Int) (n : Int) (rest : List Int → Option R) (hl : l.length ≤ 1048576)
    (hst : ∀ m s y, f (m + 1) s y = if (decide (y < (List.length l : Int))) = true then Option.bind (idx l y) fun u => (if (u != n) = true then Option.bind (app s [u]) fun v => f m v (w64 (y + 1)) else f m s (w64 (y + 1))) else rest s) : f FU [] 0 = rest (without l n) := by
  have h := loopS f l.length (fun k s => match l[k]? with | some u => if (u != n) = true then s ++ [u] else s | none => s) rest (by omega) (fun k s => s = without (l.take k) n) [] (by simp [without]) (fun k s hk hs => ?_) (fun m k s hk hs => ?_) (fun m s _ => ?_)
  · rw [h.1, h.2, List.take_length]
  · rw [List.getElem?_eq_getElem hk, hs]
    dsimp only
    unfold without
    rw [List.take_add_one, List.getElem?_eq_getElem hk, List.filter_append]
    by_cases e : l[k] = n <;> simp [e]
  · have hx := List.getElem?_eq_getElem hk
    have hs2 : s.length ≤ k := by rw [hs]; have := without_len (l.take k) n; have := List.length_take_le k l; omega
    rw [hst, if_pos (by simp; omega), idx_nat, hx, Option.bind_some, app_ok (by simp; omega), Option.bind_some, w64_succ (by omega)]
    dsimp only
    by_cases e : l[k] = n <;> simp [e]
  · rw [hst, if_neg (by simp)]
def goAns (x : MarchT) (i : Int) : MarchT × Bool := if okMarch x && okIn i 0 ((x.2.2.2.length : Int) - 1) && x.2.2.1.any (· == i) then ((x.1, x.2.1, without x.2.2.1 i, x.2.2.2), true) else (noMarch, false)
end Go.Proofs.Ytmkignciedkidaa
/-
  A PERFORMER HALTS, PLAIN: sorting by insertion.
-/
set_option linter.unusedSimpArgs false
set_option linter.unusedVariables false
namespace Go.Proofs.Ytmkignciedkidaa
open Go
theorem at_mid {α : Type} (P T : List α) (x : α) : (P ++ x :: T)[P.length]? = some x := by simp
def putIn (l : List Int) (n : Int) : List Int := l.takeWhile (fun u => decide (u < n)) ++ n :: l.dropWhile (fun u => decide (u < n))
theorem split_of {l : List Int} {n : Int} (hp : l.Pairwise (· < ·)) (hn : n ∉ l) : (∀ a ∈ l.takeWhile (fun u => decide (u < n)), a < n) ∧ ∀ b ∈ l.dropWhile (fun u => decide (u < n)), n < b := by
  induction l with
  | nil => exact ⟨fun a ha => by simp at ha, fun a ha => by simp at ha⟩
  | cons c l ih =>
    rw [List.pairwise_cons] at hp
    simp only [List.mem_cons, not_or] at hn
    have h := ih hp.2 hn.2
    by_cases hc : c < n
    · rw [List.takeWhile_cons_of_pos (by simpa using hc), List.dropWhile_cons_of_pos (by simpa using hc)]
      refine ⟨fun a ha => ?_, h.2⟩
      rcases List.mem_cons.1 ha with rfl | ha
      · exact hc
      · exact h.1 a ha
    · rw [List.takeWhile_cons_of_neg (by simpa using hc), List.dropWhile_cons_of_neg (by simpa using hc)]
      refine ⟨fun a ha => by simp at ha, fun b hb => ?_⟩
      rcases List.mem_cons.1 hb with rfl | hb
      · omega
      · have := hp.1 b hb; omega
theorem pair_of {l : List Int} (hs : ∀ (j i : Nat) (hj : j < l.length) (hij : i < j), l[i] < l[j]) : l.Pairwise (· < ·) := List.pairwise_iff_getElem.2 fun i j _ hj hij => hs j i hj hij
theorem rise_len : ∀ {l : List Int} {lo hi : Int}, l.Pairwise (· < ·) → (∀ u ∈ l, lo ≤ u ∧ u ≤ hi) → lo ≤ hi + 1 → (l.length : Int) ≤ hi - lo + 1 := by
  intro l
  induction l with
  | nil => intro lo hi _ _ h; simp; omega
  | cons a l ih =>
    intro lo hi hp hb h
    rw [List.pairwise_cons] at hp
    have ha := hb a (by simp)
    have := ih (lo := a + 1) (hi := hi) hp.2 (fun u hu => ⟨by have := hp.1 u hu; omega, (hb u (by simp [hu])).2⟩) (by omega)
    simp
    omega
theorem put_loop (H : List Int) (n : Int) (A B : List Int) (e : H = A ++ B) (hA : ∀ a ∈ A, a < n) (hB : ∀ b ∈ B, n < b) (hl : H.length ≤ 1048576) : F_spec_l1Put__take H n = some (A ++ n :: B) := by
  unfold F_spec_l1Put__take
  have key : ∀ (d k m : Nat), A.length - k = d → k ≤ A.length → d < m → F_spec_l1Put__take_L1 H n m (k : Int) = some (A ++ n :: B) := by
    intro d
    induction d with
    | zero =>
      intro k m hd hk hm
      have : k = A.length := by omega
      subst this
      cases m with
      | zero => omega
      | succ m =>
        have hAl : H.length = A.length + B.length := by rw [e]; simp
        rw [F_spec_l1Put__take_L1]
        unfold jK1
        dsimp only
        have ht : H.take A.length = A := by rw [e]; simp
        have hd' : H.drop A.length = B := by rw [e]; simp
        have h1 : ∀ {f : List Int → Option (List Int)}, (Option.bind (sl H 0 (A.length : Int)) f) = f A := by intro f; rw [sl_take H (by omega), ht]; rfl
        have h2 : ∀ {f : List Int → Option (List Int)}, (Option.bind (sl H (A.length : Int) (List.length H : Int)) f) = f B := by intro f; rw [sl_drop H (by omega), hd']; rfl
        rw [h1, app_ok (by simp; omega), Option.bind_some, app_ok (by simp; omega), Option.bind_some, h2, app_ok (by simp; omega), Option.bind_some]
        cases hb : B with
        | nil =>
          rw [if_neg (c := decide ((A.length : Int) < (H.length : Int)) = true) (by rw [hAl, hb]; simp), if_neg Bool.false_ne_true, if_neg (by rw [hAl, hb]; simp)]
          simp
        | cons b B' =>
          have hbn := hB b (by rw [hb]; simp)
          have hx : H[A.length]? = some b := by rw [e, hb]; simp
          have : ¬ b < n := by omega
          have h3 : ¬ b = n := by omega
          rw [if_pos (by rw [hAl, hb]; simp; omega), idx_nat, hx, Option.bind_some, if_neg (by simpa using this), if_pos (by rw [hAl, hb]; simp; omega), Option.bind_some, if_neg (by simpa using h3)]
          simp
    | succ d ih =>
      intro k m hd hk hm
      cases m with
      | zero => omega
      | succ m =>
        have hAl : H.length = A.length + B.length := by rw [e]; simp
        have hx : H[k]? = some (A[k]'(by omega)) := by rw [e, List.getElem?_append_left (by omega)]; exact List.getElem?_eq_getElem (by omega)
        have ha := hA (A[k]'(by omega)) (List.getElem_mem _)
        rw [F_spec_l1Put__take_L1]
        unfold jK1
        dsimp only
        rw [if_pos (by simp; omega), idx_nat, hx, Option.bind_some, if_pos (by simpa using ha), w64_succ (by omega), ih (k + 1) m (by omega) (by omega) (by omega)]
  exact key A.length 0 FU rfl (by omega) (FU_gt (by rw [e] at hl; simp at hl; omega))
def haltAns (x : MarchT) (i : Int) : MarchT × Bool := if okMarch x && okIn i 0 ((x.2.2.2.length : Int) - 1) && !x.2.2.1.any (· == i) then ((x.1, x.2.1, putIn x.2.2.1 i, x.2.2.2), true) else (noMarch, false)
theorem march_rises {x : MarchT} (hm : okMarch x = true) : rises x.2.2.1 0 ((firstLen x.1 : Int) - 1) = true := by
  unfold okMarch at hm
  simp only [Bool.and_eq_true, decide_eq_true_eq, okIn_iff] at hm
  exact hm.1.1.2
theorem halt_facts {x : MarchT} {i : Int} (h : lensM x) (hm : okMarch x = true) (hi : okIn i 0 ((x.2.2.2.length : Int) - 1) = true) (hn : x.2.2.1.any (· == i) = false) :
    i ∉ x.2.2.1 ∧ x.2.2.1.Pairwise (· < ·) ∧ x.2.2.1.length ≤ 11 := by
  have hr := march_rises hm
  have hb := march_behind h hm
  have hh := march_halted h hm
  have hp := pair_of (rises_lt hr)
  have hnm : i ∉ x.2.2.1 := fun hx => by
    rw [List.any_eq_false] at hn
    have := hn i hx
    simp at this
  refine ⟨hnm, hp, ?_⟩
  have hs := split_of hp hnm
  rw [okIn_iff] at hi
  have e := List.takeWhile_append_dropWhile (p := fun u => decide (u < i)) (l := x.2.2.1)
  have l1 := rise_len (l := x.2.2.1.takeWhile (fun u => decide (u < i))) (lo := 0) (hi := i - 1) (hp.sublist (List.takeWhile_sublist _)) (fun u hu => ⟨(hh.1 u ((List.takeWhile_sublist _).subset hu)).1, by have := hs.1 u hu; omega⟩) (by omega)
  have l2 := rise_len (l := x.2.2.1.dropWhile (fun u => decide (u < i))) (lo := i + 1) (hi := (x.2.2.2.length : Int) - 1) (hp.sublist (List.dropWhile_sublist _)) (fun u hu => ⟨by have := hs.2 u hu; omega, by have := (hh.1 u ((List.dropWhile_sublist _).subset hu)).2; omega⟩) (by omega)
  have : x.2.2.1.length = (x.2.2.1.takeWhile (fun u => decide (u < i))).length + (x.2.2.1.dropWhile (fun u => decide (u < i))).length := by
    rw [← List.length_append, e]
  omega
end Go.Proofs.Ytmkignciedkidaa
/-
  BEATS ONE AFTER ANOTHER, PLAIN.
-/
set_option linter.unusedSimpArgs false
set_option linter.unusedVariables false
namespace Go.Proofs.Ytmkignciedkidaa
open Go
theorem rises_of {l : List Int} {lo hi : Int} (hp : l.Pairwise (· < ·)) (hb : ∀ u ∈ l, lo ≤ u ∧ u ≤ hi) : rises l lo hi = true := by
  unfold rises
  rw [List.all_eq_true]
  intro k hk
  have hk' : k < l.length := List.mem_range.1 hk
  have hu := hb l[k] (List.getElem_mem hk')
  cases k with
  | zero => rw [riseAt_0 (List.getElem?_eq_getElem hk'), okIn_iff]; exact hu
  | succ k =>
    rw [riseAt_s (List.getElem?_eq_getElem hk') (List.getElem?_eq_getElem (show k < l.length by omega)), Bool.and_eq_true, okIn_iff, decide_eq_true_eq]
    exact ⟨hu, List.pairwise_iff_getElem.1 hp k (k + 1) (by omega) hk' (by omega)⟩
def bump1 (s : List Int) (u : Int) : List Int := match s[u.toNat]? with | some a => s.set u.toNat (w64 (a + 1)) | none => s
theorem bumped_eq (hs s : List Int) : bumped hs s = hs.foldl bump1 s := by
  have key : ∀ (suf pre : List Int) (s : List Int), hs = pre ++ suf → (List.range' pre.length suf.length).foldl (fun s k => bump hs k s) s = suf.foldl bump1 s := by
    intro suf
    induction suf with
    | nil => intro pre s _; rfl
    | cons a suf ih =>
      intro pre s e
      rw [List.length_cons, List.range'_succ, List.foldl_cons, List.foldl_cons]
      have := ih (pre ++ [a]) (bump1 s a) (by rw [e]; simp)
      rw [List.length_append, List.length_singleton] at this
      rw [show bump hs pre.length s = bump1 s a by unfold bump bump1; rw [e, at_mid] <;> rfl]
      exact this
  unfold bumped
  have := key hs [] s rfl
  rw [List.range_eq_range']
  simpa using this
theorem bump1_fold (c : Int) (hc : c ≤ 1000) : ∀ (hs s : List Int), hs.Pairwise (· < ·) → (∀ u ∈ hs, 0 ≤ u) → (∀ (j : Nat) (v : Int), s[j]? = some v → 0 ≤ v ∧ v ≤ c + 1) → (∀ u ∈ hs, ∀ v : Int, s[u.toNat]? = some v → v ≤ c) →
    ∀ (j : Nat) (v : Int), (hs.foldl bump1 s)[j]? = some v → 0 ≤ v ∧ v ≤ c + 1 := by
  intro hs
  induction hs with
  | nil => intro s _ _ h _ j v hj; exact h j v hj
  | cons a hs ih =>
    intro s hp hn h h2
    rw [List.pairwise_cons] at hp
    rw [List.foldl_cons]
    have ha := hn a (by simp)
    refine ih (bump1 s a) hp.2 (fun u hu => hn u (by simp [hu])) (fun j v hj => ?_) (fun u hu v hv => ?_)
    · unfold bump1 at hj
      cases ea : s[a.toNat]? with
      | none => rw [ea] at hj; exact h j v hj
      | some w =>
        rw [ea] at hj
        dsimp only at hj
        have h3 := h2 a (by simp) w ea
        have h4 := h _ _ ea
        by_cases e : j = a.toNat
        · subst e
          have hlt : a.toNat < s.length := (List.getElem?_eq_some_iff.1 ea).1
          rw [List.getElem?_set_self hlt] at hj
          have := Option.some.inj hj
          rw [w64_eq (by omega) (by omega)] at this
          omega
        · rw [List.getElem?_set_ne (Ne.symm e)] at hj
          exact h j v hj
    · have hau := hp.1 u hu
      have hu0 := hn u (by simp [hu])
      unfold bump1 at hv
      cases ea : s[a.toNat]? with
      | none => rw [ea] at hv; exact h2 u (by simp [hu]) v hv
      | some w =>
        rw [ea] at hv
        dsimp only at hv
        rw [List.getElem?_set_ne (by omega)] at hv
        exact h2 u (by simp [hu]) v hv
structure MarchInv (x : MarchT) : Prop where
  ok : okMarch x = true
  ls : lensM x
  l1 : x.2.2.1.length ≤ 12
  l2 : x.2.2.2.length ≤ 12
theorem inv_of {x : MarchT} (h : lensOk x.1) (hm : okMarch x = true) : MarchInv x := by
  have hr := march_rises hm
  have hm' := hm
  unfold okMarch at hm'
  simp only [Bool.and_eq_true, decide_eq_true_eq] at hm'
  obtain ⟨⟨⟨⟨a1, a2⟩, a3⟩, a4⟩, a5⟩ := hm'
  obtain ⟨c, hc, he, hl, hu⟩ := firstLen_of h a1
  have := rise_len (pair_of (rises_lt hr)) (rises_in hr) (by omega)
  exact ⟨hm, ⟨h, by omega, by omega⟩, by omega, by omega⟩
theorem beat_inv {x : MarchT} (h : MarchInv x) (hb : (beatAns x).2 = true) : MarchInv (beatAns x).1 := by
  unfold beatAns at hb ⊢
  rw [h.ok, Bool.true_and] at hb ⊢
  by_cases hc : x.2.1 < 1000
  · rw [if_pos (by simpa using hc)]
    refine inv_of h.ls.1 ?_
    have hm := h.ok
    unfold okMarch at hm ⊢
    simp only [Bool.and_eq_true, decide_eq_true_eq, okIn_iff, allIn, List.all_eq_true] at hm ⊢
    obtain ⟨⟨⟨⟨a1, a2⟩, a3⟩, a4⟩, a5⟩ := hm
    refine ⟨⟨⟨⟨a1, by omega, by omega⟩, a3⟩, by rw [bumped_len]; exact a4⟩, fun v hv => ?_⟩
    obtain ⟨j, hj⟩ := List.getElem?_of_mem hv
    rw [bumped_eq] at hj
    exact bump1_fold x.2.1 (by omega) x.2.2.1 x.2.2.2 (pair_of (rises_lt a3)) (fun u hu => (rises_in a3 u hu).1) (fun j v hj => by have := a5 v (List.mem_of_getElem? hj); omega) (fun u _ v hv => (a5 v (List.mem_of_getElem? hv)).2) j v hj
  · rw [if_neg (by simpa using hc)] at hb; simp at hb
theorem halt_inv {x : MarchT} {i : Int} (h : MarchInv x) (hb : (haltAns x i).2 = true) : MarchInv (haltAns x i).1 := by
  unfold haltAns at hb ⊢
  rw [h.ok, Bool.true_and] at hb ⊢
  cases hi : okIn i 0 ((x.2.2.2.length : Int) - 1) with
  | false => rw [hi] at hb; simp at hb
  | true =>
    cases hh : x.2.2.1.any (· == i) with
    | true => rw [hi, hh] at hb; simp at hb
    | false =>
      rw [Bool.not_false, Bool.and_self, if_pos rfl]
      obtain ⟨hn, hp, hl⟩ := halt_facts h.ls h.ok hi hh
      have hs := split_of hp hn
      refine inv_of h.ls.1 ?_
      have hm := h.ok
      have hbe := march_behind h.ls h.ok
      unfold okMarch at hm ⊢
      rw [okIn_iff] at hi
      simp only [Bool.and_eq_true] at hm ⊢
      refine ⟨⟨⟨hm.1.1.1, rises_of ?_ fun u hu => ?_⟩, hm.1.2⟩, hm.2⟩
      · unfold putIn
        rw [List.pairwise_append]
        refine ⟨hp.sublist (List.takeWhile_sublist _), List.pairwise_cons.2 ⟨hs.2, hp.sublist (List.dropWhile_sublist _)⟩, fun a ha b hb => ?_⟩
        have := hs.1 a ha
        rcases List.mem_cons.1 hb with rfl | hb
        · exact this
        · have := hs.2 b hb; omega
      · have hr := rises_in hm.1.1.2
        unfold putIn at hu
        rcases List.mem_append.1 hu with hu | hu
        · exact hr u ((List.takeWhile_sublist _).subset hu)
        · rcases List.mem_cons.1 hu with rfl | hu
          · omega
          · exact hr u ((List.dropWhile_sublist _).subset hu)
theorem go_inv {x : MarchT} {i : Int} (h : MarchInv x) (hb : (goAns x i).2 = true) : MarchInv (goAns x i).1 := by
  unfold goAns at hb ⊢
  rw [h.ok, Bool.true_and] at hb ⊢
  cases hi : (okIn i 0 ((x.2.2.2.length : Int) - 1) && x.2.2.1.any (· == i)) with
  | false => rw [hi] at hb; simp at hb
  | true =>
    rw [if_pos rfl]
    refine inv_of h.ls.1 ?_
    have hm := h.ok
    unfold okMarch at hm ⊢
    simp only [Bool.and_eq_true] at hm ⊢
    exact ⟨⟨⟨hm.1.1.1, rises_of ((pair_of (rises_lt hm.1.1.2)).sublist List.filter_sublist) fun u hu => rises_in hm.1.1.2 u (List.filter_sublist.subset hu)⟩, hm.1.2⟩, hm.2⟩
def stepAns (x : MarchT) (b : Int × Int) : MarchT × Bool := if b.1 = 1 then (if b.2 = 0 then beatAns x else (noMarch, false)) else if b.1 = 2 then haltAns x b.2 else if b.1 = 3 then goAns x b.2 else (noMarch, false)
theorem step_inv {x : MarchT} {b : Int × Int} (h : MarchInv x) (hb : (stepAns x b).2 = true) : MarchInv (stepAns x b).1 := by
  unfold stepAns at hb ⊢
  split
  · rename_i h1
    rw [if_pos h1] at hb
    split
    · rename_i h2
      rw [if_pos h2] at hb
      exact beat_inv h hb
    · rename_i h2
      rw [if_neg h2] at hb; simp at hb
  · rename_i h1
    rw [if_neg h1] at hb
    split
    · rename_i h2
      rw [if_pos h2] at hb
      exact halt_inv h hb
    · rename_i h2
      rw [if_neg h2] at hb
      split
      · rename_i h3
        rw [if_pos h3] at hb
        exact go_inv h hb
      · rename_i h3
        rw [if_neg h3] at hb; simp at hb
end Go.Proofs.Ytmkignciedkidaa
/-
  ONE STEP OF A MARCH THAT IS ONE, PLAIN.
-/
set_option linter.unusedSimpArgs false
set_option linter.unusedVariables false
namespace Go.Proofs.Ytmkignciedkidaa
open Go
theorem step_beat (x : MarchT) (hi : MarchInv x) : F_spec_mnStep x (1, 0) = some (beatAns x) := by
  have h := hi.ls
  have hm := hi.ok
  have h1 : x.2.2.1.length ≤ 1048576 := by have := hi.l1; omega
  have h2 : x.2.2.2.length ≤ 1048576 := by have := hi.l2; omega
  have hb := march_behind h hm
  have hh := march_halted h hm
  have f := facts hb.2.2.1
  unfold F_spec_mnStep jK1 jK3 beatAns
  dsimp only
  have e0 : okIn 0 0 ((x.2.2.2.length : Int) - 1) = true := by rw [okIn_iff]; omega
  rw [hm, w64_eq (by omega) (by omega), spec_l1In, Option.bind_some, e0, spec_mnOwn x f h1 h2, Option.bind_some, spec_l1Has _ _ h.2.1, Option.bind_some]
  by_cases hc : x.2.1 < 1000
  · simp only [Bool.not_true, Bool.false_eq_true, if_false, beq_self_eq_true, if_true, hc, decide_true, Bool.and_self]
    rw [bump_loop (F_spec_mnStep_L1 x _ x) x.2.2.1 x.2.2.2 _ h.2.1 hh.1 (fun m s y => by rw [F_spec_mnStep_L1]), w64_eq (by omega) (by omega)]
  · simp [hc]
theorem step_go (x : MarchT) (i : Int) (hv : MarchInv x) : F_spec_mnStep x (3, i) = some (goAns x i) := by
  have h := hv.ls
  have hm := hv.ok
  have h1 : x.2.2.1.length ≤ 1048576 := by have := hv.l1; omega
  have h2 : x.2.2.2.length ≤ 1048576 := by have := hv.l2; omega
  have hb := march_behind h hm
  have f := facts hb.2.2.1
  unfold F_spec_mnStep jK1 jK3 goAns
  dsimp only
  rw [hm, w64_eq (by omega) (by omega), spec_l1In, Option.bind_some, Bool.true_and]
  cases hi : okIn i 0 ((x.2.2.2.length : Int) - 1) with
  | false => simp
  | true =>
    rw [spec_mnOwn x f h1 h2, Bool.not_true, if_neg (by simp), Option.bind_some, spec_l1Has _ _ h.2.1, Option.bind_some]
    cases hh : x.2.2.1.any (· == i) with
    | false => simp
    | true =>
      simp only [show ((3 : Int) == 1) = false by decide, show ((3 : Int) == 2) = false by decide, Bool.false_eq_true, if_false, beq_self_eq_true, if_true, Bool.and_self]
      rw [without_loop (F_spec_mnStep_L2 x _ _ x) x.2.2.1 i _ h1 (fun m s y => by rw [F_spec_mnStep_L2]; rfl)]
theorem step_halt (x : MarchT) (i : Int) (hv : MarchInv x) : F_spec_mnStep x (2, i) = some (haltAns x i) := by
  have h := hv.ls
  have hm := hv.ok
  have h1 : x.2.2.1.length ≤ 1048576 := by have := hv.l1; omega
  have h2 : x.2.2.2.length ≤ 1048576 := by have := hv.l2; omega
  have hb := march_behind h hm
  have f := facts hb.2.2.1
  unfold F_spec_mnStep jK1 jK3 haltAns
  dsimp only
  rw [hm, w64_eq (by omega) (by omega), spec_l1In, Option.bind_some, Bool.true_and]
  cases hi : okIn i 0 ((x.2.2.2.length : Int) - 1) with
  | false => simp
  | true =>
    rw [spec_mnOwn x f h1 h2, Bool.not_true, if_neg (by simp), Option.bind_some, spec_l1Has _ _ h.2.1, Option.bind_some]
    cases hh : x.2.2.1.any (· == i) with
    | true => simp
    | false =>
      obtain ⟨hn, hp, hl⟩ := halt_facts h hm hi hh
      have hs := split_of hp hn
      simp only [show ((2 : Int) == 1) = false by decide, Bool.false_eq_true, if_false, beq_self_eq_true, if_true, Bool.and_self, Bool.not_false]
      rw [put_loop x.2.2.1 i _ _ (List.takeWhile_append_dropWhile (p := fun u => decide (u < i))).symm hs.1 hs.2 h1]
      rfl
theorem step_all (x : MarchT) (b : Int × Int) (h : MarchInv x) : F_spec_mnStep x b = some (stepAns x b) := by
  have q1 : x.2.2.1.length ≤ 1048576 := by have := h.l1; omega
  have q2 : x.2.2.2.length ≤ 1048576 := by have := h.l2; omega
  obtain ⟨k, i⟩ := b
  unfold stepAns
  dsimp only
  by_cases k2 : k = 2
  · subst k2; rw [step_halt x i h]; simp
  · by_cases k3 : k = 3
    · subst k3; rw [step_go x i h]; simp
    · by_cases k1 : k = 1 ∧ i = 0
      · obtain ⟨rfl, rfl⟩ := k1; rw [step_beat x h]; simp
      · have hb := march_behind h.ls h.ok
        have f := facts hb.2.2.1
        unfold F_spec_mnStep jK1 jK3
        dsimp only
        rw [w64_eq (by omega) (by omega), spec_l1In, Option.bind_some, spec_mnOwn x f q1 q2, Option.bind_some, spec_l1Has _ _ h.ls.2.1, Option.bind_some]
        by_cases e1 : k = 1
        · have e2 : ¬ i = 0 := fun e => k1 ⟨e1, e⟩
          subst e1
          simp [e2]
        · simp [e1, k2, k3]
end Go.Proofs.Ytmkignciedkidaa
/-
  DRAWN MARCHES AND BEATS, PLAIN: they are there and short.
-/
set_option linter.unusedSimpArgs false
set_option linter.unusedVariables false
namespace Go.Proofs.Ytmkignciedkidaa
open Go
theorem beats_draw (x : Cur) (n : Int) {m : Int} (h : Cu x.1 m x.2.1) (hm : 200 ≤ m) : Tot (F_spec_l1Cur__beats__mut__box x n) (Pk x.1 (m - 200) fun l => l.length ≤ 11) := by
  unfold F_spec_l1Cur__beats__mut__box
  refine Tot.bind (pick_ok x _ h (by omega)) fun u5 h5 => ?_
  have h51 := h5.1
  refine Tot.loop (fun k (s : Int × Int × List (Int × Int) × Int) => F_spec_l1Cur__beats__mut__box_L1 x n k s.1 s.2.1 s.2.2.1 s.2.2.2) (fun s => s.2.2.2.toNat) (fun s => 0 ≤ s.2.2.2 ∧ s.2.2.1.length + s.2.2.2 ≤ 11 ∧ Cu x.1 (m - 2 - 6 * s.2.2.1.length) s.1)
    (Pk x.1 (m - 200) fun l => l.length ≤ 11) (fun k s hs ih => ?_) FU (u5.2.2.1, u5.2.2.2, [], u5.1) ⟨h51.1, by simp; omega, by simpa using h5.2.2⟩ (by show u5.1.toNat < 4611686018427387904; omega)
  obtain ⟨a, sd, l, y⟩ := s
  obtain ⟨hy, hl, hc⟩ := hs
  dsimp only at hy hl hc ih ⊢
  rw [F_spec_l1Cur__beats__mut__box_L1]
  refine Tot.ite (fun hlt => ?_) fun _ => ?_
  · have hlt' : 0 < y := by simpa using hlt
    have more : ∀ (a s p q : Int), Cu x.1 (m - 2 - 6 * (l.length + 1)) a → Tot (Option.bind (app l [(p, q)]) fun u54 => (F_spec_l1Cur__beats__mut__box_L1 x n k) a s (u54) ((w64 (y - 1)))) (Pk x.1 (m - 200) fun l => l.length ≤ 11) := by
      intro a s p q ha
      refine app_tot' (by simp; omega) ?_
      rw [w64_eq (by omega) (by omega)]
      exact ih (a, s, l ++ [(p, q)], y - 1) ⟨by show 0 ≤ y - 1; omega, by simp; omega, by simpa using ha⟩ (by show (y - 1).toNat < y.toNat; omega)
    unfold jK4
    dsimp only
    refine Tot.bind (one_ok (x.1, a, sd) _ hc (by omega)) fun u62 h62 => Tot.ite (fun _ => ?_) fun _ => more _ _ _ _ (h62.2.2.mono (by omega) (by show _ ≤ m - 2 - 6 * (l.length : Int) - 2; omega))
    refine Tot.bind (amongT (x.1, u62.2.2.1, u62.2.2.2) _ h62.2.2 (by show 2 ≤ m - 2 - 6 * (l.length : Int) - 2; omega) (by simp)) fun u75 h75 => most_tot fun v _ => ?_
    exact Tot.bind (pick_ok (x.1, u75.2.2.1, u75.2.2.2) _ h75.2.2 (by show 2 ≤ m - 2 - 6 * (l.length : Int) - 2 - 2; omega)) fun u87 h87 => more _ _ _ _ (h87.2.2.mono (by omega) (by show _ ≤ m - 2 - 6 * (l.length : Int) - 2 - 2 - 2; omega))
  · have c0 : Cu x.1 (m - 100) a := hc.mono (by omega) (by omega)
    have fin : ∀ (a s : Int) (l : List (Int × Int)), l.length ≤ 11 → Cu x.1 (m - 200) a → Tot (some (l, (x.1, a, s))) (Pk x.1 (m - 200) fun l => l.length ≤ 11) := fun a s l h1 h2 => Tot.some ⟨h1, rfl, h2⟩
    unfold jK3
    dsimp only
    refine Tot.ite (fun hpos => ?_) fun _ => fin _ _ _ (by omega) (c0.mono (by omega) (by omega))
    refine Tot.bind (pick_ok (x.1, a, sd) _ c0 (by omega)) fun u112 h112 => ?_
    obtain ⟨v, hv, hmem, _⟩ := idx_pick l (fun e => by rw [e] at hpos; simp at hpos) h112.1
    refine Tot.bindE hv (Tot.bind (pick_ok (x.1, u112.2.2.1, u112.2.2.2) _ h112.2.2 (by omega)) fun u123 h123 => ?_)
    have c123 : Cu x.1 (m - 110) u123.2.2.1 := h123.2.2.mono (by omega) (by show _ ≤ m - 100 - 2 - 2; omega)
    refine Tot.ite (fun _ => ?_) fun _ => Tot.ite (fun _ => ?_) fun _ => fin _ _ _ (by omega) (c123.mono (by omega) (by omega))
    · exact Tot.bind (amongT (x.1, u123.2.2.1, u123.2.2.2) _ c123 (by omega) (by simp)) fun u hu => fin _ _ _ (by rw [seti_len']; omega) (hu.2.2.mono (by omega) (by show _ ≤ m - 110 - 2; omega))
    · exact Tot.bind (amongT (x.1, u123.2.2.1, u123.2.2.2) _ c123 (by omega) (by simp)) fun u hu => fin _ _ _ (by rw [seti_len']; omega) (hu.2.2.mono (by omega) (by show _ ≤ m - 110 - 2; omega))
/-- What drawn marches are. -/
def shortMarch (s : MarchT) : Prop := shortShow s.1 ∧ s.2.2.1.length ≤ 13 ∧ s.2.2.2.length ≤ 13
theorem shortMarch.lens {s : MarchT} (h : shortMarch s) : lensM s := ⟨h.1.lens, by have := h.2.1; omega, by have := h.2.2; omega⟩
theorem short_of_ok {x : ShowT} (h : okShow x = true) : shortShow x := by
  have f := facts h
  have h1 := f.n1
  have h2 := f.nc
  exact ⟨by omega, fun c hc => by have := (f.cl c hc).2; omega, by omega⟩
theorem march_draw (x : Cur) {m : Int} (h : Cu x.1 m x.2.1) (hm : 60000 ≤ m) : Tot (F_spec_l1Cur__march__mut__box x) (Pk x.1 (m - 60000) shortMarch) := by
  unfold F_spec_l1Cur__march__mut__box
  refine Tot.bind (show_draw x h (by omega)) fun u8 h8 => ?_
  refine Tot.bindE (spec_NewMarch _ h8.1.lens) ?_
  unfold newAns
  cases hok : okShow u8.1 with
  | false => exact Tot.ite (fun _ => Tot.some ⟨⟨h8.1, by simp, by simp⟩, rfl, h8.2.2.mono (by omega) (by omega)⟩) fun h => by simp at h
  | true =>
    rw [if_neg (by simp)]
    refine Tot.bind (beats_draw (x.1, u8.2.2.1, u8.2.2.2) _ h8.2.2 (by show 200 ≤ m - 50000; omega)) fun u63 h63 => ?_
    have h631 := h63.1
    have c63 : Cu x.1 (m - 51000) u63.2.2.1 := h63.2.2.mono (by omega) (by show _ ≤ m - 50000 - 200; omega)
    obtain ⟨c0, hc0, hce, hcl, hcu⟩ := firstLen_of h8.1.lens hok
    have inv0 : MarchInv (u8.1, 0, [], List.replicate (firstLen u8.1) 0) := by
      refine inv_of h8.1.lens ?_
      unfold okMarch
      simp only [hok, Bool.true_and, Bool.and_eq_true, decide_eq_true_eq, List.length_replicate]
      refine ⟨⟨⟨by decide, by unfold rises; simp⟩, trivial⟩, ?_⟩
      unfold allIn
      rw [List.all_eq_true]
      intro u hu
      rw [List.eq_of_mem_replicate hu]
      decide
    refine Tot.loop (fun k (s : MarchT × Int) => F_spec_l1Cur__march__mut__box_L1 u63 x k s.1.1.1 s.1.1.2.1 s.1.1.2.2.1 s.1.1.2.2.2 s.1.2.1 s.1.2.2.1 s.1.2.2.2 s.2) (fun s => (u63.1.length - s.2).toNat) (fun s => MarchInv s.1 ∧ 0 ≤ s.2 ∧ s.2 ≤ u63.1.length)
      (Pk x.1 (m - 60000) shortMarch) (fun k s hs ih => ?_) FU ((u8.1, 0, [], List.replicate (firstLen u8.1) 0), 0) ⟨inv0, by simp, by simp⟩ (by show ((u63.1.length : Int) - 0).toNat < 4611686018427387904; omega)
    obtain ⟨M, y⟩ := s
    obtain ⟨hi, hy0, hy⟩ := hs
    dsimp only at hi hy0 hy ih ⊢
    rw [F_spec_l1Cur__march__mut__box_L1]
    refine Tot.ite (fun hlt => ?_) fun _ => ?_
    · have hlt' : y < u63.1.length := by simpa using hlt
      have e0 : idx u63.1 y = some u63.1[y.toNat] := by rw [idx_int hy0]; exact List.getElem?_eq_getElem (by omega)
      unfold jK7
      dsimp only
      refine Tot.bindE e0 (Tot.bindE (step_all M _ hi) ?_)
      rw [w64_eq (x := y + 1) (by omega) (by omega)]
      refine Tot.ite (fun hb => ?_) fun _ => ?_
      · exact ih ((stepAns M u63.1[y.toNat]).1, y + 1) ⟨step_inv hi hb, by show 0 ≤ y + 1; omega, by show y + 1 ≤ (u63.1.length : Int); omega⟩ (by show ((u63.1.length : Int) - (y + 1)).toNat < ((u63.1.length : Int) - y).toNat; omega)
      · exact ih (M, y + 1) ⟨hi, by show 0 ≤ y + 1; omega, by show y + 1 ≤ (u63.1.length : Int); omega⟩ (by show ((u63.1.length : Int) - (y + 1)).toNat < ((u63.1.length : Int) - y).toNat; omega)
    · have hb := march_behind hi.ls hi.ok
      have hl1 := hi.l1
      have hl2 := hi.l2
      have hsh := short_of_ok hb.2.2.1
      refine Tot.bindE (spec_mnOwn M (facts hb.2.2.1) (by omega) (by omega)) ?_
      have fin : ∀ (a s c : Int) (h b : List Int), h.length ≤ 13 → b.length ≤ 13 → Cu x.1 (m - 60000) a → Tot (some ((M.1, c, h, b), (x.1, a, s))) (Pk x.1 (m - 60000) shortMarch) := fun a s c h b h1 h2 h3 => Tot.some ⟨⟨hsh, h1, h2⟩, rfl, h3⟩
      unfold jK5 jK1
      dsimp only
      refine Tot.bind (pick_ok (x.1, u63.2.2.1, u63.2.2.2) _ c63 (by omega)) fun u202 h202 => ?_
      have c202 : Cu x.1 (m - 52000) u202.2.2.1 := h202.2.2.mono (by omega) (by show _ ≤ m - 51000 - 2; omega)
      have cend : Cu x.1 (m - 60000) u202.2.2.1 := c202.mono (by omega) (by omega)
      refine Tot.ite (fun _ => ?_) fun _ => Tot.ite (fun _ => ?_) fun _ => Tot.ite (fun _ => ?_) fun _ => Tot.ite (fun _ => ?_) fun _ => ?_
      · exact Tot.bind (amongT (x.1, u202.2.2.1, u202.2.2.2) _ c202 (by omega) (by simp)) fun u hu => fin _ _ _ _ _ (by omega) (by omega) (hu.2.2.mono (by omega) (by show _ ≤ m - 52000 - 2; omega))
      · exact Tot.bind (amongT (x.1, u202.2.2.1, u202.2.2.2) _ c202 (by omega) (by simp)) fun u hu => app_tot' (by simp; omega) (fin _ _ _ _ _ (by simp; omega) (by omega) (hu.2.2.mono (by omega) (by show _ ≤ m - 52000 - 2; omega)))
      · refine Tot.bind (amongT (x.1, u202.2.2.1, u202.2.2.2) _ c202 (by omega) (by simp)) fun u hu => ?_
        have e0 : idx M.2.2.2 0 = some M.2.2.2[0] := by rw [idx_zero]; exact List.getElem?_eq_getElem (by have := hb.1; omega)
        exact Tot.bindE e0 (fin _ _ _ _ _ (by omega) (by rw [seti_len']; omega) (hu.2.2.mono (by omega) (by show _ ≤ m - 52000 - 2; omega)))
      · exact app_tot' (by simp; omega) (fin _ _ _ _ _ (by omega) (by simp; omega) cend)
      · refine Tot.ite (fun _ => Tot.ite (fun _ => ?_) fun _ => ?_) fun _ => Tot.ite (fun _ => ?_) fun _ => ?_
        all_goals exact fin _ _ _ _ _ (by omega) (by omega) cend
section
variable (c : List Int) (h : Cu c 100000000 0)
include h
theorem draw_IsMarch : Tot (F_spec_DrawIsMarch c) shortMarch := by
  unfold F_spec_DrawIsMarch
  exact Tot.bind (march_draw (c, 0, 0) h (by omega)) fun u hu => Tot.some hu.1
theorem draw_PlacesNow : Tot (F_spec_DrawPlacesNow c) shortMarch := by
  unfold F_spec_DrawPlacesNow
  exact Tot.bind (draw_IsMarch c h) fun u hu => Tot.some hu
theorem draw_HaltPerformer : Tot (F_spec_DrawHaltPerformer c) fun v => shortMarch v.1 := by
  unfold F_spec_DrawHaltPerformer
  refine Tot.bind (march_draw (c, 0, 0) h (by omega)) fun u hu => ?_
  refine Tot.bind (pick_ok (c, u.2.2.1, u.2.2.2) _ hu.2.2 (by omega)) fun u1 h1 => ?_
  refine Tot.bind (pick_ok (c, u1.2.2.1, u1.2.2.2) _ h1.2.2 (by show (2 : Int) ≤ 100000000 - 60000 - 2; omega)) fun u2 h2 => ?_
  exact Tot.bind (pick_ok (c, u2.2.2.1, u2.2.2.2) _ h2.2.2 (by show (2 : Int) ≤ 100000000 - 60000 - 2 - 2; omega)) fun u3 h3 => Tot.some hu.1
theorem draw_WhereNow : Tot (F_spec_DrawWhereNow c) fun v => shortMarch v.1 := by
  unfold F_spec_DrawWhereNow
  exact Tot.bind (draw_HaltPerformer c h) fun u hu => Tot.some hu
end
end Go.Proofs.Ytmkignciedkidaa
/-
  THE DRAWN LAWS' OWN COMPARISONS, PLAIN: a thing is the same as itself.
-/
set_option linter.unusedSimpArgs false
set_option linter.unusedVariables false
namespace Go.Proofs.Ytmkignciedkidaa
open Go
theorem p_Ints (x : List Int) (hs : x.length ≤ 1048576) : F_laws_sameInts x x = some true := eqLB neI (F_laws_sameInts_L1 x x) x (fun _ _ => rfl) (S := anyG) ⟨hs, fun _ _ => trivial⟩
theorem p_Lists (x : List (List Int)) (hs : x.length ≤ 1048576) (h : ∀ u ∈ x, u.length ≤ 1048576) : F_laws_sameLists x x = some true :=
  eqL (F_laws_sameLists_L1 x x) x F_laws_sameInts (fun _ _ => rfl) (S := fun u => u.length ≤ 1048576) (fun u hu => p_Ints u hu) ⟨hs, h⟩
theorem p_Spots (x : List (Int × Int)) (hs : x.length ≤ 1048576) : F_laws_pSameSpots x x = some true :=
  eqL (F_laws_pSameSpots_L1 x x) x (fun u v => some (eqv_Spot u v)) (fun _ _ => rfl) (S := anyG) (fun u _ => by simp [eqv_Spot]) ⟨hs, fun _ _ => trivial⟩
theorem p_In (x : List Int) (n : Int) (hs : x.length < 4611686018427387904) : F_laws_pIn x n = some (decide (n ∈ x)) := by
  unfold F_laws_pIn
  rw [loopL (F_laws_pIn_L1 x n) x (fun u => u != n) (some false) (some true) hs (fun m k u hk hu => ?_) (fun m => ?_)]
  · by_cases h : n ∈ x
    · rw [if_neg (fun h2 => by have := List.all_eq_true.1 h2 n h; simp at this)]
      simp [h]
    · rw [if_pos (List.all_eq_true.2 fun u hu => by simp; intro e; exact h (e ▸ hu))]
      simp [h]
  · rw [F_laws_pIn_L1, if_pos (by simp; omega), idx_nat, hu, Option.bind_some, w64_succ (by omega)]
    by_cases e : u = n <;> simp [e]
  · rw [F_laws_pIn_L1, if_neg (by simp)]
theorem big_tot {β : Type} (x y : List Int) {f : Bool → Option β} {Q : β → Prop} (h : ∀ b, Tot (f b) Q) : Tot (Option.bind (F_laws_big x y) f) Q := by
  unfold F_laws_big jK1
  dsimp only
  refine Tot.bind (P := fun _ => True) ?_ fun b _ => h b
  split
  · exact Tot.some trivial
  · exact Tot.some trivial
theorem mem_filt {p : Nat → Bool} {n k : Nat} (hk : k < n) : (k : Int) ∈ filt p n ↔ p k = true := by
  unfold filt
  simp only [List.mem_map, List.mem_filter, List.mem_range]
  constructor
  · rintro ⟨j, ⟨h1, h2⟩, e⟩
    have : j = k := by omega
    rwa [← this]
  · intro h
    exact ⟨k, ⟨hk, h⟩, rfl⟩
end Go.Proofs.Ytmkignciedkidaa
/-
  HOW NEAR TWO MOVES COME, PLAIN.
-/
set_option linter.unusedSimpArgs false
set_option linter.unusedVariables false
namespace Go.Proofs.Ytmkignciedkidaa
open Go
end Go.Proofs.Ytmkignciedkidaa
/-
  PAIRS THAT COME TOO CLOSE, PARTS THAT ARE NOT SAFE, PLAIN.
-/
set_option linter.unusedSimpArgs false
set_option linter.unusedVariables false
namespace Go.Proofs.Ytmkignciedkidaa
open Go
/-- A loop from k on that keeps what p takes. -/
theorem loopFrom {β R : Type} (f : Nat → List β → Int → Option R) (n B : Nat) (p : Nat → Bool) (g : Nat → β) (rest : List β → Option R) (hn : n < 4611686018427387904)
    (hs : ∀ m s k, k < n → s.length < B → f (m + 1) s (k : Int) = f m (if p k then s ++ [g k] else s) ((k + 1 : Nat) : Int)) (he : ∀ m s, f (m + 1) s (n : Int) = rest s) :
    ∀ (k : Nat) (s : List β), k ≤ n → s.length + (n - k) ≤ B → f FU s (k : Int) = rest (s ++ ((List.range' k (n - k)).filter p).map g) := by
  have key : ∀ d k m s, n - k = d → k ≤ n → n - k < m → s.length + (n - k) ≤ B → f m s (k : Int) = rest (s ++ ((List.range' k (n - k)).filter p).map g) := by
    intro d
    induction d with
    | zero =>
      intro k m s hd hk hm hb
      have : k = n := by omega
      subst this
      cases m with
      | zero => omega
      | succ m => rw [he]; simp
    | succ d ih =>
      intro k m s hd hk hm hb
      cases m with
      | zero => omega
      | succ m =>
        rw [hs m s k (by omega) (by omega), hd, List.range'_succ, List.filter_cons]
        cases hp : p k with
        | false =>
          simp only [Bool.false_eq_true, if_false]
          rw [ih (k + 1) m s (by omega) (by omega) (by omega) (by omega), show n - (k + 1) = d by omega]
        | true =>
          simp only [if_true, List.map_cons]
          rw [ih (k + 1) m (s ++ [g k]) (by omega) (by omega) (by omega) (by simp; omega), show n - (k + 1) = d by omega]
          simp
  exact fun k s hk hb => key _ k FU s rfl hk (FU_gt (by omega)) hb
def goodMove (u : MoveT) : Prop := okSpot u.1 = true ∧ okSpot u.2.1 = true
theorem chart_spots {c : List (Int × Int)} (h : okChart c = true) : ∀ s ∈ c, okSpot s = true := by
  intro s hs
  unfold okChart at h
  rw [Bool.and_eq_true] at h
  obtain ⟨k, hk⟩ := List.getElem?_of_mem hs
  have := List.all_eq_true.1 h.2 k (List.mem_range.2 (List.getElem?_eq_some_iff.1 hk).1)
  rw [newAt_of hk, Bool.and_eq_true] at this
  exact this.1
/-! parts that are not safe -/
end Go.Proofs.Ytmkignciedkidaa
/-
  SHEETS, PLAIN: their rows and moves; the spot after a count.
-/
set_option linter.unusedSimpArgs false
set_option linter.unusedVariables false
namespace Go.Proofs.Ytmkignciedkidaa
open Go
abbrev RowT := Int × (Int × Int)
abbrev SheetT := Int × (Int × Int) × (List RowT)
def firstLen' (x : ShowT) : Nat := match x.1[0]? with | some c => c.length | none => 0
def spotAt (x : ShowT) (k i : Nat) : Int × Int := ((chartAt x k)[i]?).getD (0, 0)
def rowsOf (x : ShowT) (i : Nat) : List RowT := (List.range x.2.1.length).map fun k => (countsAt x k, spotAt x (k + 1) i)
def sheetOf (x : ShowT) (i : Nat) : SheetT := ((i : Int), spotAt x 0 i, rowsOf x i)
theorem show_first {x : ShowT} (f : ShowFacts x) : ∃ c, x.1[0]? = some c ∧ c.length = firstLen' x ∧ 1 ≤ firstLen' x ∧ firstLen' x ≤ 12 := by
  have := f.n0
  obtain ⟨c, hc⟩ : ∃ c, x.1[0]? = some c := ⟨_, List.getElem?_eq_getElem (by omega)⟩
  have hl := f.cl c (List.mem_of_getElem? hc)
  have e : c.length = firstLen' x := by unfold firstLen'; rw [hc]
  exact ⟨c, hc, e, by omega, by omega⟩
theorem sheet_loop (F : Nat → List RowT → Int → Option SheetT) (x : ShowT) (f : ShowFacts x) (i : Nat) (hi : i < firstLen' x) (st : Int × Int)
    (hs : ∀ m s y, F (m + 1) s y = if (decide (y < (List.length x.2.1 : Int))) = true then Option.bind (idx x.2.1 y) fun u => Option.bind (idx x.1 (w64 (y + 1))) fun v => Option.bind (idx v (i : Int)) fun w => Option.bind (app s [(u, w)]) fun z => F m z (w64 (y + 1)) else some ((i : Int), st, s)) :
    F FU [] 0 = some ((i : Int), st, rowsOf x i) := by
  have h1 := f.n1
  have h2 := f.nc
  obtain ⟨c, hc, he, _, _⟩ := show_first f
  rw [loopMap F x.2.1.length (fun k => (countsAt x k, spotAt x (k + 1) i)) (fun s => some ((i : Int), st, s)) (by omega) (fun m s k hk hsl => ?_) (fun m s => ?_)]
  · rfl
  · obtain ⟨a, b, n, g1, g2, g3, g4, _⟩ := part_facts f hk
    have hb : b.length = c.length := chart_len f g2 hc
    obtain ⟨w, hw⟩ : ∃ w, b[i]? = some w := ⟨_, List.getElem?_eq_getElem (by omega)⟩
    rw [hs, if_pos (by simp; omega), idx_nat, g3, Option.bind_some, w64_succ (by omega), idx_nat, g2, Option.bind_some, idx_nat, hw, Option.bind_some, app_ok (by simp; omega), Option.bind_some]
    unfold spotAt
    rw [chartAt_of g2, hw]
    unfold countsAt
    rw [g3]
    rfl
  · rw [hs, if_neg (by simp)]
theorem spec_shOf (x : ShowT) (f : ShowFacts x) (i : Nat) (hi : i < firstLen' x) : F_spec_shOf x.1 x.2.1 (i : Int) = some (sheetOf x i) := by
  obtain ⟨c, hc, he, _, _⟩ := show_first f
  obtain ⟨st, hst⟩ : ∃ w, c[i]? = some w := ⟨_, List.getElem?_eq_getElem (by omega)⟩
  unfold F_spec_shOf sheetOf
  rw [idx_zero, hc, Option.bind_some, idx_nat, hst, Option.bind_some]
  have e : spotAt x 0 i = st := by unfold spotAt; rw [chartAt_of hc, hst]; rfl
  rw [e]
  exact sheet_loop _ x f i hi st (fun m s y => by rw [F_spec_shOf_L1]; rfl)
theorem impl_sheetOf (x : ShowT) (f : ShowFacts x) (i : Nat) (hi : i < firstLen' x) : F_impl_sheetOf x.1 x.2.1 (i : Int) = some (sheetOf x i) := by
  obtain ⟨c, hc, he, _, _⟩ := show_first f
  obtain ⟨st, hst⟩ : ∃ w, c[i]? = some w := ⟨_, List.getElem?_eq_getElem (by omega)⟩
  unfold F_impl_sheetOf sheetOf
  rw [idx_zero, hc, Option.bind_some, idx_nat, hst, Option.bind_some]
  have e : spotAt x 0 i = st := by unfold spotAt; rw [chartAt_of hc, hst]; rfl
  rw [e]
  exact sheet_loop _ x f i hi st (fun m s y => by rw [F_impl_sheetOf_L1]; rfl)
/-! tests of sheets -/
def okRow (r : RowT) : Bool := okIn r.1 1 64 && okSpot r.2
def okSheet (s : SheetT) : Bool := okIn s.1 0 11 && okSpot s.2.1 && s.2.2.all okRow && decide (s.2.2.length ≤ 8)
theorem spec_shGood (s : SheetT) (h : s.2.2.length < 4611686018427387904) : F_spec_shGood s = some (okSheet s) := by
  unfold F_spec_shGood okSheet
  rw [loopL (F_spec_shGood_L1 s) s.2.2 okRow (some (okIn s.1 0 11 && okSpot s.2.1 && decide (s.2.2.length ≤ 8))) (some false) h (fun m k r hk hr => ?_) (fun m => ?_)]
  · cases s.2.2.all okRow <;> simp
  · rw [F_spec_shGood_L1, if_pos (by simp; omega), idx_nat, hr, Option.bind_some]
    unfold jK1 okRow
    dsimp only
    rw [spec_l1In, Option.bind_some, spec_stGood, Option.bind_some, w64_succ (by omega)]
    cases okIn r.1 1 64 <;> cases okSpot r.2 <;> simp
  · rw [F_spec_shGood_L1, if_neg (by simp)]
    unfold jK1
    dsimp only
    rw [spec_l1In, Option.bind_some, spec_stGood, Option.bind_some]
    have e : decide ((s.2.2.length : Int) ≤ 8) = decide (s.2.2.length ≤ 8) := by rw [Bool.eq_iff_iff]; simp; omega
    rw [e]
    cases okIn s.1 0 11 <;> cases okSpot s.2.1 <;> simp
theorem impl_IsSheet (s : SheetT) (h : s.2.2.length < 4611686018427387904) : F_impl_IsSheet s = some (okSheet s) := by
  unfold F_impl_IsSheet okSheet jK1
  dsimp only
  rw [impl_within, Option.bind_some, impl_IsSpot, Option.bind_some]
  have e : decide (8 < (s.2.2.length : Int)) = !decide (s.2.2.length ≤ 8) := by rw [Bool.eq_iff_iff]; simp; omega
  have hin : F_impl_IsSheet_L1 s FU 0 = some (s.2.2.all okRow) := by
    rw [loopL (F_impl_IsSheet_L1 s) s.2.2 okRow (some true) (some false) h (fun m k r hk hr => ?_) (fun m => ?_)]
    · cases s.2.2.all okRow <;> simp
    · rw [F_impl_IsSheet_L1, if_pos (by simp; omega), idx_nat, hr, Option.bind_some]
      unfold jK1 okRow
      dsimp only
      rw [impl_within, Option.bind_some, impl_IsSpot, Option.bind_some, w64_succ (by omega)]
      cases okIn r.1 1 64 <;> cases okSpot r.2 <;> simp
    · rw [F_impl_IsSheet_L1, if_neg (by simp)]
  rw [hin, e]
  cases okIn s.1 0 11 <;> cases okSpot s.2.1 <;> cases decide (s.2.2.length ≤ 8) <;> simp
/-! moves of a sheet -/
def rowMoves : Int × Int → List RowT → List MoveT
  | _, [] => []
  | st, r :: rs => (st, r.2, r.1) :: rowMoves r.2 rs
def lastOf : Int × Int → List RowT → Int × Int
  | st, [] => st
  | _, r :: rs => lastOf r.2 rs
theorem rowMoves_append (st : Int × Int) (l m : List RowT) : rowMoves st (l ++ m) = rowMoves st l ++ rowMoves (lastOf st l) m := by
  induction l generalizing st with
  | nil => rfl
  | cons r l ih => simp [rowMoves, lastOf, ih]
theorem lastOf_append (st : Int × Int) (l m : List RowT) : lastOf st (l ++ m) = lastOf (lastOf st l) m := by
  induction l generalizing st with
  | nil => rfl
  | cons r l ih => simp [lastOf, ih]
theorem rowMoves_len (st : Int × Int) (l : List RowT) : (rowMoves st l).length = l.length := by
  induction l generalizing st with
  | nil => rfl
  | cons r l ih => simp [rowMoves, ih]
theorem rows_loop (F : Nat → List MoveT → Int → Int → Int → Option (List MoveT)) (rs : List RowT) (st : Int × Int) (hl : rs.length < 1073741824)
    (hs : ∀ m l a b y, F (m + 1) l a b y = if (decide (y < (List.length rs : Int))) = true then Option.bind (idx rs y) fun u => Option.bind (app l [((a, b), u.2, u.1)]) fun z => F m z u.2.1 u.2.2 (w64 (y + 1)) else some l) :
    F FU [] st.1 st.2 0 = some (rowMoves st rs) := by
  have := loopS (fun m (s : List MoveT × Int × Int) y => F m s.1 s.2.1 s.2.2 y) rs.length (fun k s => match rs[k]? with | some u => (s.1 ++ [((s.2.1, s.2.2), u.2, u.1)], u.2.1, u.2.2) | none => s) (fun s => some s.1) (by omega)
    (fun k s => s = (rowMoves st (rs.take k), (lastOf st (rs.take k)).1, (lastOf st (rs.take k)).2)) ([], st.1, st.2) (by simp [rowMoves, lastOf]) (fun k s hk hi => ?_) (fun m k s hk hi => ?_) (fun m s hi => ?_)
  · have h2 := this.2
    have h1 := this.1
    rw [h2] at h1
    simpa using h1
  · have hx : rs[k]? = some rs[k] := by simp [hk]
    simp only [hx]
    rw [hi, List.take_succ_eq_append_getElem hk, rowMoves_append, lastOf_append]
    rfl
  · have hx : rs[k]? = some rs[k] := by simp [hk]
    simp only [hx]
    have hlen : s.1.length = k := by rw [hi, rowMoves_len]; simp; omega
    rw [hs, if_pos (by simp; omega), idx_nat, hx, Option.bind_some, app_ok (by simp; omega), Option.bind_some, w64_succ (by omega)]
  · rw [hs, if_neg (by simp)]
theorem spec_shRows (s : SheetT) (h : s.2.2.length < 1073741824) : F_spec_shRows s = some (rowMoves s.2.1 s.2.2) := by
  unfold F_spec_shRows
  exact rows_loop (F_spec_shRows_L1 s) s.2.2 s.2.1 h fun m l a b y => by rw [F_spec_shRows_L1]
theorem impl_sheetMoves (s : SheetT) (h : s.2.2.length < 1073741824) : F_impl_sheetMoves s = some (rowMoves s.2.1 s.2.2) := by
  unfold F_impl_sheetMoves jK3
  exact rows_loop (F_impl_sheetMoves_L1 s) s.2.2 s.2.1 h fun m l a b y => by rw [F_impl_sheetMoves_L1]
/-! rounding -/
def rd (x c : Int) : Int := Int.tdiv (2 * x + c) (2 * c)
def roundM (u : MoveT) (k : Int) : Int × Int := (rd (u.1.1 * u.2.2 + (u.2.1.1 - u.1.1) * k) u.2.2, rd (u.1.2 * u.2.2 + (u.2.1.2 - u.1.2) * k) u.2.2)
theorem rd_bounds {x c : Int} (hx : 0 ≤ x) (hx2 : x ≤ 1000000) (hc : 1 ≤ c) (hc2 : c ≤ 64) : 0 ≤ rd x c ∧ rd x c ≤ 3000000 := by
  unfold rd
  rw [Int.tdiv_eq_ediv_of_nonneg (by omega)]
  refine ⟨Int.ediv_nonneg (by omega) (by omega), ?_⟩
  exact Int.le_trans (Int.ediv_le_self _ (by omega)) (by omega)
/-- A place on the way, times the counts, lies between. -/
theorem place_bounds {a b c k B : Int} (ha : 0 ≤ a) (ha2 : a ≤ B) (hb : 0 ≤ b) (hb2 : b ≤ B) (hB : B ≤ 1280) (hc : 1 ≤ c) (hc2 : c ≤ 64) (hk : 0 ≤ k) (hk2 : k ≤ c) :
    0 ≤ a * c + (b - a) * k ∧ a * c + (b - a) * k ≤ 81920 ∧ -81920 ≤ (b - a) * k ∧ (b - a) * k ≤ 81920 ∧ 0 ≤ a * c ∧ a * c ≤ 81920 := by
  have h1 : a * c + (b - a) * k = a * (c - k) + b * k := by rw [Int.sub_mul, Int.mul_sub]; omega
  have h2 : 0 ≤ a * (c - k) := Int.mul_nonneg ha (by omega)
  have h3 : 0 ≤ b * k := Int.mul_nonneg hb hk
  have h4 : a * (c - k) ≤ 1280 * (c - k) := Int.mul_le_mul_of_nonneg_right (by omega) (by omega)
  have h5 : b * k ≤ 1280 * k := Int.mul_le_mul_of_nonneg_right (by omega) hk
  have h6 : 0 ≤ a * c := Int.mul_nonneg ha (by omega)
  have h7 : a * c ≤ 1280 * c := Int.mul_le_mul_of_nonneg_right (by omega) (by omega)
  refine ⟨by omega, by omega, by omega, by omega, h6, by omega⟩
theorem spec_mvRound (u : MoveT) (k : Int) (hg : goodMove u) (hc : 1 ≤ u.2.2 ∧ u.2.2 ≤ 64) (hk : 0 ≤ k ∧ k ≤ u.2.2) : F_spec_mvRound u k = some (roundM u k) := by
  obtain ⟨g1, g2⟩ := hg
  unfold okSpot at g1 g2
  rw [Bool.and_eq_true, okIn_iff, okIn_iff] at g1 g2
  have hX := place_bounds (a := u.1.1) (b := u.2.1.1) (B := 1280) g1.1.1 g1.1.2 g2.1.1 g2.1.2 (by omega) hc.1 hc.2 hk.1 hk.2
  have hY := place_bounds (a := u.1.2) (b := u.2.1.2) (B := 672) g1.2.1 g1.2.2 g2.2.1 g2.2.2 (by omega) hc.1 hc.2 hk.1 hk.2
  unfold F_spec_mvRound F_spec_mvAt roundM
  have b1 := rd_bounds (c := u.2.2) hX.1 (by omega) hc.1 hc.2
  have b2 := rd_bounds (c := u.2.2) hY.1 (by omega) hc.1 hc.2
  unfold rd at b1 b2 ⊢
  rw [Option.bind_some]
  dsimp only
  rw [w64_eq (x := u.2.1.1 - u.1.1) (by omega) (by omega), w64_eq (x := u.2.1.2 - u.1.2) (by omega) (by omega), w64_eq (x := u.1.1 * u.2.2) (by omega) (by omega), w64_eq (x := u.1.2 * u.2.2) (by omega) (by omega),
    w64_eq (x := (u.2.1.1 - u.1.1) * k) (by omega) (by omega), w64_eq (x := (u.2.1.2 - u.1.2) * k) (by omega) (by omega), w64_eq (x := u.1.1 * u.2.2 + (u.2.1.1 - u.1.1) * k) (by omega) (by omega), w64_eq (x := u.1.2 * u.2.2 + (u.2.1.2 - u.1.2) * k) (by omega) (by omega),
    w64_eq (x := 2 * u.2.2) (by omega) (by omega), if_neg (by omega), if_neg (by omega), w64_eq (x := 2 * (u.1.1 * u.2.2 + (u.2.1.1 - u.1.1) * k)) (by omega) (by omega), w64_eq (x := 2 * (u.1.2 * u.2.2 + (u.2.1.2 - u.1.2) * k)) (by omega) (by omega),
    w64_eq (x := 2 * (u.1.1 * u.2.2 + (u.2.1.1 - u.1.1) * k) + u.2.2) (by omega) (by omega), w64_eq (x := 2 * (u.1.2 * u.2.2 + (u.2.1.2 - u.1.2) * k) + u.2.2) (by omega) (by omega), w64_eq (by omega) (by omega), w64_eq (by omega) (by omega)]
theorem impl_roundDiv (x c : Int) (hx : 0 ≤ x) (hx2 : x ≤ 1000000) (hc : 1 ≤ c) (hc2 : c ≤ 64) : F_impl_roundDiv x c = some (rd x c) := by
  have b := rd_bounds hx hx2 hc hc2
  unfold F_impl_roundDiv F_impl_floorDiv jK1
  rw [w64_eq (x := 2 * x) (by omega) (by omega), w64_eq (x := 2 * x + c) (by omega) (by omega), w64_eq (x := 2 * c) (by omega) (by omega), if_neg (by omega)]
  dsimp only
  rw [if_neg (by omega)]
  have h0 : 0 ≤ Int.tmod (2 * x + c) (2 * c) := Int.tmod_nonneg _ (by omega)
  rw [if_neg (by simp; omega)]
  unfold rd at b ⊢
  rw [w64_eq (by omega) (by omega)]
  rfl
theorem impl_roundedAt (u : MoveT) (k : Int) (hg : goodMove u) (hc : 1 ≤ u.2.2 ∧ u.2.2 ≤ 64) (hk : 0 ≤ k ∧ k ≤ u.2.2) : F_impl_roundedAt u k = some (roundM u k) := by
  obtain ⟨g1, g2⟩ := hg
  unfold okSpot at g1 g2
  rw [Bool.and_eq_true, okIn_iff, okIn_iff] at g1 g2
  have hX := place_bounds (a := u.1.1) (b := u.2.1.1) (B := 1280) g1.1.1 g1.1.2 g2.1.1 g2.1.2 (by omega) hc.1 hc.2 hk.1 hk.2
  have hY := place_bounds (a := u.1.2) (b := u.2.1.2) (B := 672) g1.2.1 g1.2.2 g2.2.1 g2.2.2 (by omega) hc.1 hc.2 hk.1 hk.2
  unfold F_impl_roundedAt F_impl_placeAt roundM
  rw [Option.bind_some]
  dsimp only
  rw [w64_eq (x := u.2.1.1 - u.1.1) (by omega) (by omega), w64_eq (x := u.2.1.2 - u.1.2) (by omega) (by omega), w64_eq (x := u.1.1 * u.2.2) (by omega) (by omega), w64_eq (x := u.1.2 * u.2.2) (by omega) (by omega),
    Int.mul_comm k, Int.mul_comm k, w64_eq (x := (u.2.1.1 - u.1.1) * k) (by omega) (by omega), w64_eq (x := (u.2.1.2 - u.1.2) * k) (by omega) (by omega), w64_eq (x := u.1.1 * u.2.2 + (u.2.1.1 - u.1.1) * k) (by omega) (by omega), w64_eq (x := u.1.2 * u.2.2 + (u.2.1.2 - u.1.2) * k) (by omega) (by omega),
    impl_roundDiv _ _ hX.1 (by omega) hc.1 hc.2, Option.bind_some, impl_roundDiv _ _ hY.1 (by omega) hc.1 hc.2, Option.bind_some]
theorem round_zero (u : MoveT) (hg : goodMove u) (hc : 1 ≤ u.2.2 ∧ u.2.2 ≤ 64) : roundM u 0 = u.1 := by
  obtain ⟨g1, g2⟩ := hg
  unfold okSpot at g1
  rw [Bool.and_eq_true, okIn_iff, okIn_iff] at g1
  have key : ∀ a : Int, 0 ≤ a → rd (a * u.2.2 + 0) u.2.2 = a := by
    intro a ha
    unfold rd
    have h0 : 0 ≤ a * u.2.2 := Int.mul_nonneg ha (by omega)
    rw [Int.tdiv_eq_ediv_of_nonneg (by omega), show 2 * (a * u.2.2 + 0) + u.2.2 = u.2.2 + (2 * u.2.2) * a by rw [Int.add_zero, Int.mul_comm a, ← Int.mul_assoc]; omega, Int.add_mul_ediv_left _ _ (by omega), Int.ediv_eq_zero_of_lt (by omega) (by omega)]
    omega
  unfold roundM
  rw [Int.mul_zero, Int.mul_zero, key _ g1.1.1, key _ g1.2.1]
/-! the spot after a count -/
def afterM : List MoveT → Int → (Int × Int) × Bool
  | [], _ => ((0, 0), false)
  | u :: ms, c => if c ≤ u.2.2 then (roundM u c, true) else afterM ms (c - u.2.2)
def fineMoves (ms : List MoveT) : Prop := ∀ u ∈ ms, goodMove u ∧ 1 ≤ u.2.2 ∧ u.2.2 ≤ 64
theorem rowMoves_fine {st : Int × Int} {rs : List RowT} (h0 : okSpot st = true) (h : rs.all okRow = true) : fineMoves (rowMoves st rs) := by
  induction rs generalizing st with
  | nil => intro u hu; cases hu
  | cons r rs ih =>
    rw [List.all_cons, Bool.and_eq_true] at h
    have hr := h.1
    unfold okRow at hr
    rw [Bool.and_eq_true, okIn_iff] at hr
    intro u hu
    rcases List.mem_cons.1 hu with rfl | hu
    · exact ⟨⟨h0, hr.2⟩, hr.1⟩
    · exact ih hr.2 h.2 u hu
def spotAns (s : SheetT) (c : Int) : (Int × Int) × Bool := if okSheet s && decide (0 ≤ c) then (if c = 0 then (s.2.1, true) else afterM (rowMoves s.2.1 s.2.2) c) else ((0, 0), false)
theorem after_loop (F : Nat → Int → Int → Option ((Int × Int) × Bool)) (ms : List MoveT) (hf : fineMoves ms) (hl : ms.length < 4611686018427387904) (rnd : MoveT → Int → Option (Int × Int)) (fin : Int → Option ((Int × Int) × Bool))
    (hr : ∀ u ∈ ms, ∀ k, 0 ≤ k → k ≤ u.2.2 → rnd u k = some (roundM u k)) (hfin : ∀ c, 0 < c → fin c = some ((0, 0), false))
    (hs : ∀ m c y, F (m + 1) c y = if (decide (y < (List.length ms : Int))) = true then Option.bind (idx ms y) fun u => (if (decide (c ≤ u.2.2)) = true then Option.bind (rnd u c) fun z => some (z, true) else F m (w64 (c - u.2.2)) (w64 (y + 1))) else fin c) :
    ∀ c, 0 < c → c ≤ 9223372036854775807 → F FU c 0 = some (afterM ms c) := by
  have key : ∀ d k m c, ms.length - k = d → k ≤ ms.length → ms.length - k < m → 0 < c → c ≤ 9223372036854775807 → F m c (k : Int) = some (afterM (ms.drop k) c) := by
    intro d
    induction d with
    | zero =>
      intro k m c hd hk hm h0 h1
      have : k = ms.length := by omega
      subst this
      cases m with
      | zero => omega
      | succ m => rw [hs, if_neg (by simp), hfin c h0]; simp [afterM]
    | succ d ih =>
      intro k m c hd hk hm h0 h1
      cases m with
      | zero => omega
      | succ m =>
        have hk' : k < ms.length := by omega
        have hmem := List.getElem_mem hk'
        obtain ⟨hg, hc1, hc2⟩ := hf _ hmem
        rw [hs, if_pos (by simp; omega), idx_lt hk', Option.bind_some, List.drop_eq_getElem_cons hk', afterM]
        by_cases hq : c ≤ ms[k].2.2
        · rw [if_pos (by simpa using hq), if_pos hq, hr _ hmem c (by omega) hq]
          rfl
        · rw [if_neg (by simpa using hq), if_neg hq, w64_eq (x := c - ms[k].2.2) (by omega) (by omega), w64_succ (by omega)]
          exact ih (k + 1) m _ (by omega) (by omega) (by omega) (by omega) (by omega)
  intro c h0 h1
  have := key _ 0 FU c rfl (by omega) (FU_gt (by omega)) h0 h1
  simpa using this
theorem spec_SpotAfter (s : SheetT) (c : Int) (h : s.2.2.length < 1073741824) (hc : c ≤ 9223372036854775807) : F_spec_SpotAfter s c = some (spotAns s c) := by
  unfold F_spec_SpotAfter jK1 spotAns
  dsimp only
  rw [spec_shGood s (by omega), Option.bind_some]
  cases hs : okSheet s with
  | false => simp
  | true =>
    by_cases h0 : c < 0
    · have : ¬ 0 ≤ c := by omega
      simp [h0, this]
    · have h0' : 0 ≤ c := by omega
      by_cases hz : c = 0
      · subst hz; simp
      · have hz' : (c == 0) = false := by simpa using hz
        have hok := hs
        unfold okSheet at hok
        simp only [Bool.and_eq_true] at hok
        have hf := rowMoves_fine hok.1.1.2 hok.1.2
        simp only [h0, h0', hz, hz', Bool.not_true, Bool.false_eq_true, if_false, decide_false, decide_true, Bool.and_self, if_true]
        rw [spec_shRows s h, Option.bind_some]
        exact after_loop (F_spec_SpotAfter_L1 (rowMoves s.2.1 s.2.2)) _ hf (by rw [rowMoves_len]; omega) F_spec_mvRound (fun _ => some ((0, 0), false)) (fun u hu k hk hk2 => spec_mvRound u k (hf u hu).1 (hf u hu).2 ⟨hk, hk2⟩) (fun _ _ => rfl) (fun m c y => by rw [F_spec_SpotAfter_L1]) c (by omega) hc
theorem impl_SpotAfter (s : SheetT) (c : Int) (h : s.2.2.length < 1073741824) (hc : c ≤ 9223372036854775807) : F_impl_SpotAfter s c = some (spotAns s c) := by
  unfold F_impl_SpotAfter jK1 spotAns
  dsimp only
  rw [impl_IsSheet s (by omega), Option.bind_some]
  cases hs : okSheet s with
  | false => simp
  | true =>
    by_cases h0 : c < 0
    · have : ¬ 0 ≤ c := by omega
      simp [h0, this]
    · have h0' : 0 ≤ c := by omega
      have hok := hs
      unfold okSheet at hok
      simp only [Bool.and_eq_true] at hok
      have hf := rowMoves_fine hok.1.1.2 hok.1.2
      simp only [h0, h0', Bool.not_true, Bool.false_eq_true, if_false, decide_false, decide_true, Bool.and_self, if_true]
      rw [impl_sheetMoves s h, Option.bind_some]
      by_cases hz : c = 0
      · subst hz
        obtain ⟨m, hm⟩ : ∃ m, FU = m + 1 := ⟨4611686018427387903, rfl⟩
        rw [if_pos rfl, hm, F_impl_SpotAfter_L1]
        cases hrs : s.2.2 with
        | nil => simp [rowMoves]
        | cons r rs =>
          have hu : (rowMoves s.2.1 (r :: rs))[0]? = some (s.2.1, r.2, r.1) := rfl
          have hfu := hf (s.2.1, r.2, r.1) (by rw [hrs]; exact List.mem_of_getElem? hu)
          have hr1 : 1 ≤ r.1 := hfu.2.1
          have hr0 : 0 ≤ r.1 := by omega
          rw [if_pos (by simp [rowMoves]), idx_zero, hu, Option.bind_some, if_pos (by simpa using hr0), impl_roundedAt _ _ hfu.1 hfu.2 ⟨by omega, hr0⟩, round_zero _ hfu.1 hfu.2]
          rfl
      · rw [if_neg hz]
        exact after_loop (F_impl_SpotAfter_L1 (rowMoves s.2.1 s.2.2) s) _ hf (by rw [rowMoves_len]; omega) F_impl_roundedAt (fun c => if (decide (0 < c)) = true then some ((0, 0), false) else some (s.2.1, true)) (fun u hu k hk hk2 => impl_roundedAt u k (hf u hu).1 (hf u hu).2 ⟨hk, hk2⟩) (fun c h => by simp [h]) (fun m c y => by rw [F_impl_SpotAfter_L1]) c (by omega) hc
end Go.Proofs.Ytmkignciedkidaa
/-
  THE COUNTS OF A SHOW, PLAIN.
-/
set_option linter.unusedSimpArgs false
set_option linter.unusedVariables false
namespace Go.Proofs.Ytmkignciedkidaa
open Go
def sumW (l : List Int) : Int := l.foldl (fun a u => w64 (a + u)) 0
theorem spec_swTotal (x : ShowT) (h : x.2.1.length < 4611686018427387904) : F_spec_swTotal x = some (sumW x.2.1) := by
  unfold F_spec_swTotal sumW
  rw [loopFold (F_spec_swTotal_L1 x) x.2.1 (fun a u => w64 (a + u)) some h (fun m s k u hk hu => ?_) (fun m s => ?_)]
  · rw [F_spec_swTotal_L1, if_pos (by simp; omega), idx_nat, hu, Option.bind_some, w64_succ (by omega)]
  · rw [F_spec_swTotal_L1, if_neg (by simp)]
theorem impl_totalCounts (x : ShowT) (h : x.2.1.length < 4611686018427387904) : F_impl_totalCounts x = some (sumW x.2.1) := by
  unfold F_impl_totalCounts sumW
  rw [loopFold (F_impl_totalCounts_L1 x) x.2.1 (fun a u => w64 (a + u)) some h (fun m s k u hk hu => ?_) (fun m s => ?_)]
  · rw [F_impl_totalCounts_L1, if_pos (by simp; omega), idx_nat, hu, Option.bind_some, w64_succ (by omega)]
  · rw [F_impl_totalCounts_L1, if_neg (by simp)]
end Go.Proofs.Ytmkignciedkidaa
/-
  WHO IS STILL GOING, PLAIN.
-/
set_option linter.unusedSimpArgs false
set_option linter.unusedVariables false
namespace Go.Proofs.Ytmkignciedkidaa
open Go
def ownC (x : MarchT) (b : Int) : Int := minI (w64 (x.2.1 - b)) (sumW x.1.2.1)
theorem least_two (a b : Int) : F_spec_l1Least a b = some (minI b a) := by
  unfold F_spec_l1Least minI
  by_cases h : a < b <;> simp [h]
theorem spec_mnCount (x : MarchT) (h : lensM x) {i : Int} {b : Int} (hb : idx x.2.2.2 i = some b) : F_spec_mnCount x i = some (ownC x b) := by
  unfold F_spec_mnCount ownC
  rw [hb, Option.bind_some, spec_swTotal x.1 h.1.2.2, Option.bind_some, least_two]
  rfl
theorem impl_ownCount (x : MarchT) (h : lensM x) {i : Int} {b : Int} (hb : idx x.2.2.2 i = some b) : F_impl_ownCount x i = some (ownC x b) := by
  unfold F_impl_ownCount ownC
  rw [hb, Option.bind_some, impl_totalCounts x.1 h.1.2.2, Option.bind_some]
def goesAt (x : MarchT) (k : Nat) : Bool := match x.2.2.2[k]? with
  | some b => decide (ownC x b < sumW x.1.2.1)
  | none => false
def goingAns (x : MarchT) : List Int × Bool := if okMarch x then (filt (goesAt x) x.2.2.2.length, true) else ([], false)
theorem spec_StillGoing (x : MarchT) (h : lensM x) : F_spec_StillGoing x = some (goingAns x) := by
  unfold F_spec_StillGoing goingAns
  rw [spec_mnGood x h.1 h.2.1 h.2.2, Option.bind_some]
  cases hm : okMarch x with
  | false => simp
  | true =>
    have hb := march_behind h hm
    simp only [Bool.not_true, Bool.false_eq_true, if_false, if_true]
    rw [loopFilter (F_spec_StillGoing_L1 x) x.2.2.2.length (goesAt x) (fun s => some (s, true)) (by omega) (fun m s k hk hsl => ?_) (fun m s => ?_)]
    · obtain ⟨b, hbk⟩ : ∃ b, x.2.2.2[k]? = some b := ⟨_, List.getElem?_eq_getElem hk⟩
      have e : goesAt x k = decide (ownC x b < sumW x.1.2.1) := by unfold goesAt; rw [hbk]
      rw [F_spec_StillGoing_L1, if_pos (by simp; omega)]
      unfold jK1
      dsimp only
      rw [spec_mnCount x h (by rw [idx_nat]; exact hbk), Option.bind_some, spec_swTotal x.1 h.1.2.2, Option.bind_some, e, app_ok (by simp; omega), w64_succ (by omega)]
      by_cases hq : ownC x b < sumW x.1.2.1 <;> simp [hq]
    · rw [F_spec_StillGoing_L1, if_neg (by simp)]
theorem impl_StillGoing (x : MarchT) (h : lensM x) : F_impl_StillGoing x = some (goingAns x) := by
  unfold F_impl_StillGoing goingAns
  rw [impl_IsMarch x h.1 h.2.1 h.2.2, Option.bind_some]
  cases hm : okMarch x with
  | false => simp
  | true =>
    have hb := march_behind h hm
    simp only [Bool.not_true, Bool.false_eq_true, if_false, if_true]
    rw [loopFilter (F_impl_StillGoing_L1 x) x.2.2.2.length (goesAt x) (fun s => some (s, true)) (by omega) (fun m s k hk hsl => ?_) (fun m s => ?_)]
    · obtain ⟨b, hbk⟩ : ∃ b, x.2.2.2[k]? = some b := ⟨_, List.getElem?_eq_getElem hk⟩
      have e : goesAt x k = decide (ownC x b < sumW x.1.2.1) := by unfold goesAt; rw [hbk]
      rw [F_impl_StillGoing_L1, if_pos (by simp; omega)]
      unfold jK1
      dsimp only
      rw [impl_ownCount x h (by rw [idx_nat]; exact hbk), Option.bind_some, impl_totalCounts x.1 h.1.2.2, Option.bind_some, e, app_ok (by simp; omega), w64_succ (by omega)]
      by_cases hq : ownC x b < sumW x.1.2.1 <;> simp [hq]
    · rw [F_impl_StillGoing_L1, if_neg (by simp)]
theorem goingAns_len (x : MarchT) (h : lensM x) : (goingAns x).1.length ≤ 12 := by
  unfold goingAns
  cases hm : okMarch x with
  | false => simp
  | true => exact Nat.le_trans (filt_len _ _) (march_behind h hm).2.1
end Go.Proofs.Ytmkignciedkidaa
/-
  WHERE PERFORMERS ARE NOW, PLAIN; who is too close.
-/
set_option linter.unusedSimpArgs false
set_option linter.unusedVariables false
namespace Go.Proofs.Ytmkignciedkidaa
open Go
def hereOf (x : MarchT) (i : Nat) (b : Int) : Int × Int := (spotAns (sheetOf x.1 i) (ownC x b)).1
def hereAt (x : MarchT) (i : Nat) : Int × Int := match x.2.2.2[i]? with
  | some b => hereOf x i b
  | none => (0, 0)
theorem hereAt_of {x : MarchT} {i : Nat} {b : Int} (h : x.2.2.2[i]? = some b) : hereAt x i = hereOf x i b := by unfold hereAt; rw [h]
theorem march_own {x : MarchT} (hm : okMarch x = true) {i : Nat} {b : Int} (hb : x.2.2.2[i]? = some b) : ownC x b ≤ 1000 := by
  unfold okMarch at hm
  simp only [Bool.and_eq_true, decide_eq_true_eq, okIn_iff] at hm
  obtain ⟨⟨⟨⟨h1, h2⟩, h3⟩, h4⟩, h5⟩ := hm
  unfold allIn at h5
  have := List.all_eq_true.1 h5 b (List.mem_of_getElem? hb)
  rw [okIn_iff] at this
  unfold ownC minI
  rw [w64_eq (by omega) (by omega)]
  split <;> omega
theorem spec_mnWhere (x : MarchT) (h : lensM x) (hm : okMarch x = true) (i : Nat) (b : Int) (hb : x.2.2.2[i]? = some b) : F_spec_mnWhere x (i : Int) = some (hereOf x i b) := by
  obtain ⟨l1, l2, hs, l3⟩ := march_behind h hm
  have f := facts hs
  have hi := (List.getElem?_eq_some_iff.1 hb).1
  have hi' : i < firstLen' x.1 := by have : firstLen' x.1 = firstLen x.1 := rfl; omega
  have hr : (sheetOf x.1 i).2.2.length < 1073741824 := by have := f.n1; have := f.nc; unfold sheetOf rowsOf; simp; omega
  have hown := march_own hm hb
  unfold F_spec_mnWhere jK2 hereOf
  dsimp only
  rw [spec_shOf x.1 f i hi', Option.bind_some, spec_mnCount x h (by rw [idx_nat]; exact hb), Option.bind_some, spec_SpotAfter _ _ hr (by omega), Option.bind_some]
theorem impl_whereNow (x : MarchT) (h : lensM x) (hm : okMarch x = true) (i : Nat) (b : Int) (hb : x.2.2.2[i]? = some b) : F_impl_whereNow x (i : Int) = some (hereOf x i b) := by
  obtain ⟨l1, l2, hs, l3⟩ := march_behind h hm
  have f := facts hs
  have hi := (List.getElem?_eq_some_iff.1 hb).1
  have hi' : i < firstLen' x.1 := by have : firstLen' x.1 = firstLen x.1 := rfl; omega
  have hr : (sheetOf x.1 i).2.2.length < 1073741824 := by have := f.n1; have := f.nc; unfold sheetOf rowsOf; simp; omega
  have hown := march_own hm hb
  unfold F_impl_whereNow jK2 hereOf
  dsimp only
  rw [impl_sheetOf x.1 f i hi', Option.bind_some, impl_ownCount x h (by rw [idx_nat]; exact hb), Option.bind_some, impl_SpotAfter _ _ hr (by omega), Option.bind_some]
def okPerf (x : MarchT) (i : Int) : Bool := okMarch x && okIn i 0 ((x.2.2.2.length : Int) - 1)
theorem spec_mnHas (x : MarchT) (i : Int) (h : lensM x) : F_spec_mnHas x i = some (okPerf x i) := by
  unfold F_spec_mnHas jK1 okPerf
  have := h.2.2
  dsimp only
  rw [spec_mnGood x h.1 h.2.1 h.2.2, Option.bind_some, w64_eq (by omega) (by omega), spec_l1In, Option.bind_some]
  cases okMarch x <;> simp
theorem impl_hasPerf (x : MarchT) (i : Int) (h : lensM x) : F_impl_hasPerformer x i = some (okPerf x i) := by
  unfold F_impl_hasPerformer jK1 okPerf
  have := h.2.2
  dsimp only
  rw [impl_IsMarch x h.1 h.2.1 h.2.2, Option.bind_some, w64_eq (by omega) (by omega), impl_within, Option.bind_some]
  cases okMarch x <;> simp
theorem perf_of {x : MarchT} {i : Int} (h : okPerf x i = true) : okMarch x = true ∧ i = ((i.toNat : Nat) : Int) ∧ ∃ b, x.2.2.2[i.toNat]? = some b := by
  unfold okPerf at h
  rw [Bool.and_eq_true, okIn_iff] at h
  exact ⟨h.1, by omega, _, List.getElem?_eq_getElem (by omega)⟩
def whereAns (x : MarchT) (i : Int) : (Int × Int) × Bool := if okPerf x i then (hereAt x i.toNat, true) else ((0, 0), false)
theorem spec_WhereNow (x : MarchT) (i : Int) (h : lensM x) : F_spec_WhereNow x i = some (whereAns x i) := by
  unfold F_spec_WhereNow whereAns
  rw [spec_mnHas x i h, Option.bind_some]
  cases hp : okPerf x i with
  | false => simp
  | true =>
    obtain ⟨hm, e, b, hb⟩ := perf_of hp
    simp only [Bool.not_true, Bool.false_eq_true, if_false, if_true]
    rw [e, Int.toNat_natCast, spec_mnWhere x h hm _ b hb, hereAt_of hb]
    rfl
theorem impl_WhereNow (x : MarchT) (i : Int) (h : lensM x) : F_impl_WhereNow x i = some (whereAns x i) := by
  unfold F_impl_WhereNow whereAns
  rw [impl_hasPerf x i h, Option.bind_some]
  cases hp : okPerf x i with
  | false => simp
  | true =>
    obtain ⟨hm, e, b, hb⟩ := perf_of hp
    simp only [Bool.not_true, Bool.false_eq_true, if_false, if_true]
    rw [e, Int.toNat_natCast, impl_whereNow x h hm _ b hb, hereAt_of hb]
    rfl
def placesOf (x : MarchT) : List (Int × Int) := (List.range x.2.2.2.length).map (hereAt x)
theorem spec_mnPlaces (x : MarchT) (h : lensM x) (hm : okMarch x = true) : F_spec_mnPlaces x = some (placesOf x) := by
  have hb := march_behind h hm
  unfold F_spec_mnPlaces placesOf
  rw [loopMap (F_spec_mnPlaces_L1 x) x.2.2.2.length (hereAt x) some (by omega) (fun m s k hk hsl => ?_) (fun m s => ?_)]
  · obtain ⟨b, hbk⟩ : ∃ b, x.2.2.2[k]? = some b := ⟨_, List.getElem?_eq_getElem hk⟩
    rw [F_spec_mnPlaces_L1, if_pos (by simp; omega), spec_mnWhere x h hm k b hbk, Option.bind_some, app_ok (by simp; omega), Option.bind_some, w64_succ (by omega), hereAt_of hbk]
  · rw [F_spec_mnPlaces_L1, if_neg (by simp)]
theorem impl_placesNow (x : MarchT) (h : lensM x) (hm : okMarch x = true) : F_impl_placesNow x = some (placesOf x) := by
  have hb := march_behind h hm
  unfold F_impl_placesNow placesOf
  rw [loopMap (F_impl_placesNow_L1 x) x.2.2.2.length (hereAt x) some (by omega) (fun m s k hk hsl => ?_) (fun m s => ?_)]
  · obtain ⟨b, hbk⟩ : ∃ b, x.2.2.2[k]? = some b := ⟨_, List.getElem?_eq_getElem hk⟩
    rw [F_impl_placesNow_L1, if_pos (by simp; omega), impl_whereNow x h hm k b hbk, Option.bind_some, app_ok (by simp; omega), Option.bind_some, w64_succ (by omega), hereAt_of hbk]
  · rw [F_impl_placesNow_L1, if_neg (by simp)]
def placesAns (x : MarchT) : List (Int × Int) × Bool := if okMarch x then (placesOf x, true) else ([], false)
theorem spec_PlacesNow (x : MarchT) (h : lensM x) : F_spec_PlacesNow x = some (placesAns x) := by
  unfold F_spec_PlacesNow placesAns
  rw [spec_mnGood x h.1 h.2.1 h.2.2, Option.bind_some]
  cases hm : okMarch x with
  | false => simp
  | true => simp [spec_mnPlaces x h hm]
theorem impl_PlacesNow (x : MarchT) (h : lensM x) : F_impl_PlacesNow x = some (placesAns x) := by
  unfold F_impl_PlacesNow placesAns
  rw [impl_IsMarch x h.1 h.2.1 h.2.2, Option.bind_some]
  cases hm : okMarch x with
  | false => simp
  | true => simp [impl_placesNow x h hm]
theorem placesOf_len {x : MarchT} (h : lensM x) (hm : okMarch x = true) : (placesOf x).length ≤ 12 := by
  have hb := march_behind h hm
  unfold placesOf
  simp
  omega
theorem placesAns_len (x : MarchT) (h : lensM x) : (placesAns x).1.length ≤ 12 := by
  unfold placesAns
  cases hm : okMarch x with
  | false => simp
  | true => exact placesOf_len h hm
/-! pairs below n that p takes -/
def pairRow (n : Nat) (p : Nat → Nat → Bool) (i : Nat) : List (List Int) := ((List.range' (i + 1) (n - (i + 1))).filter (p i)).map fun (k : Nat) => [(i : Int), (k : Int)]
def pairsOf (n : Nat) (p : Nat → Nat → Bool) : List (List Int) := (List.range n).foldl (fun s i => s ++ pairRow n p i) []
theorem pairRow_len (n : Nat) (p : Nat → Nat → Bool) (i : Nat) : (pairRow n p i).length ≤ n := by
  unfold pairRow
  rw [List.length_map]
  refine Nat.le_trans (List.length_filter_le _ _) ?_
  simp
theorem pairs_len (n : Nat) (p : Nat → Nat → Bool) (hn : n ≤ 1000) : (pairsOf n p).length ≤ 1000 * n := by
  have key : ∀ m, ((List.range m).foldl (fun s i => s ++ pairRow n p i) []).length ≤ 1000 * m := by
    intro m
    induction m with
    | zero => simp
    | succ m ih =>
      have := pairRow_len n p m
      rw [List.range_succ, List.foldl_append, List.foldl_cons, List.foldl_nil, List.length_append]
      omega
  exact key n
theorem pairs_mem (n : Nat) (p : Nat → Nat → Bool) : ∀ q ∈ pairsOf n p, q.length = 2 := by
  have key : ∀ (is : List Nat) (s : List (List Int)), (∀ q ∈ s, q.length = 2) → ∀ q ∈ is.foldl (fun s i => s ++ pairRow n p i) s, q.length = 2 := by
    intro is
    induction is with
    | nil => intro s h q hq; exact h q hq
    | cons i is ih =>
      intro s h q hq
      rw [List.foldl_cons] at hq
      refine ih _ (fun q hq => ?_) q hq
      rcases List.mem_append.1 hq with hq | hq
      · exact h q hq
      · unfold pairRow at hq
        obtain ⟨k, _, rfl⟩ := List.mem_map.1 hq
        rfl
  exact key _ [] (fun q hq => by cases hq)
theorem pairs_loop {R : Type} (f : Nat → List (List Int) → Int → Option R) (n : Nat) (p : Nat → Nat → Bool) (rest : List (List Int) → Option R) (hl : n ≤ 1000)
    (hs : ∀ m s i, i < n → s.length ≤ 1000 * i → f (m + 1) s (i : Int) = f m (s ++ pairRow n p i) ((i + 1 : Nat) : Int)) (he : ∀ m s, f (m + 1) s (n : Int) = rest s) : f FU [] 0 = rest (pairsOf n p) :=
  (loopS f n (fun i s => s ++ pairRow n p i) rest (by omega) (fun i s => s.length ≤ 1000 * i) [] (by simp) (fun i s hi h => by have := pairRow_len n p i; rw [List.length_append]; omega) (fun m i s hi h => hs m s i hi h) (fun m s _ => he m s)).1
def nearNow (ps : List (Int × Int)) (least : Int) (i k : Nat) : Bool := match ps[i]?, ps[k]? with
  | some a, some b => decide (sqOf a b < w64 (least * least))
  | _, _ => false
def tooAns (x : MarchT) : List (List Int) × Bool := if okMarch x then (pairsOf (placesOf x).length (nearNow (placesOf x) x.1.2.2.1), true) else ([], false)
theorem spec_TooCloseNow (x : MarchT) (h : lensM x) : F_spec_TooCloseNow x = some (tooAns x) := by
  unfold F_spec_TooCloseNow tooAns
  rw [spec_mnGood x h.1 h.2.1 h.2.2, Option.bind_some]
  cases hm : okMarch x with
  | false => simp
  | true =>
    have hl := placesOf_len h hm
    simp only [Bool.not_true, Bool.false_eq_true, if_false, if_true]
    rw [spec_mnPlaces x h hm, Option.bind_some]
    generalize placesOf x = ps at *
    refine pairs_loop (F_spec_TooCloseNow_L1 ps x) ps.length (nearNow ps x.1.2.2.1) (fun s => some (s, true)) (by omega) (fun m s i hi hsl => ?_) (fun m s => ?_)
    · obtain ⟨a, ha⟩ : ∃ a, ps[i]? = some a := ⟨_, List.getElem?_eq_getElem hi⟩
      rw [F_spec_TooCloseNow_L1, if_pos (by simp; omega), idx_nat, ha, Option.bind_some, w64_succ (by omega), loopFrom (F_spec_TooCloseNow_L2 ps a x (i : Int) (F_spec_TooCloseNow_L1 ps x m)) ps.length 1073741823 (nearNow ps x.1.2.2.1 i) (fun (k : Nat) => [(i : Int), (k : Int)])
        (fun s => F_spec_TooCloseNow_L1 ps x m s ((i + 1 : Nat) : Int)) (by omega) (fun m' s' k hk hs' => ?_) (fun m' s' => ?_) (i + 1) s (by omega) (by omega)]
      · rfl
      · obtain ⟨b, hb⟩ : ∃ b, ps[k]? = some b := ⟨_, List.getElem?_eq_getElem hk⟩
        have e : nearNow ps x.1.2.2.1 i k = decide (sqOf a b < w64 (x.1.2.2.1 * x.1.2.2.1)) := by unfold nearNow; rw [ha, hb]
        rw [F_spec_TooCloseNow_L2, if_pos (by simp; omega), e]
        unfold jK1
        dsimp only
        rw [idx_nat, hb, Option.bind_some, spec_stSquare, Option.bind_some, app_ok (by simp; omega), w64_succ (k := k) (by omega)]
        by_cases hq : sqOf a b < w64 (x.1.2.2.1 * x.1.2.2.1) <;> simp [hq]
      · rw [F_spec_TooCloseNow_L2, if_neg (by simp), w64_succ (by omega)]
    · rw [F_spec_TooCloseNow_L1, if_neg (by simp)]
theorem impl_TooCloseNow (x : MarchT) (h : lensM x) : F_impl_TooCloseNow x = some (tooAns x) := by
  unfold F_impl_TooCloseNow tooAns
  rw [impl_IsMarch x h.1 h.2.1 h.2.2, Option.bind_some]
  cases hm : okMarch x with
  | false => simp
  | true =>
    have hl := placesOf_len h hm
    simp only [Bool.not_true, Bool.false_eq_true, if_false, if_true]
    rw [impl_placesNow x h hm, Option.bind_some]
    generalize placesOf x = ps at *
    refine pairs_loop (F_impl_TooCloseNow_L1 ps x) ps.length (nearNow ps x.1.2.2.1) (fun s => some (s, true)) (by omega) (fun m s i hi hsl => ?_) (fun m s => ?_)
    · obtain ⟨a, ha⟩ : ∃ a, ps[i]? = some a := ⟨_, List.getElem?_eq_getElem hi⟩
      rw [F_impl_TooCloseNow_L1, if_pos (by simp; omega), w64_succ (by omega), loopFrom (F_impl_TooCloseNow_L2 ps (i : Int) x (F_impl_TooCloseNow_L1 ps x m)) ps.length 1073741823 (nearNow ps x.1.2.2.1 i) (fun (k : Nat) => [(i : Int), (k : Int)])
        (fun s => F_impl_TooCloseNow_L1 ps x m s ((i + 1 : Nat) : Int)) (by omega) (fun m' s' k hk hs' => ?_) (fun m' s' => ?_) (i + 1) s (by omega) (by omega)]
      · rfl
      · obtain ⟨b, hb⟩ : ∃ b, ps[k]? = some b := ⟨_, List.getElem?_eq_getElem hk⟩
        have e : nearNow ps x.1.2.2.1 i k = decide (sqOf a b < w64 (x.1.2.2.1 * x.1.2.2.1)) := by unfold nearNow; rw [ha, hb]
        rw [F_impl_TooCloseNow_L2, if_pos (by simp; omega), e]
        unfold jK1
        dsimp only
        rw [idx_nat, ha, Option.bind_some, idx_nat, hb, Option.bind_some, impl_squareOf, Option.bind_some, app_ok (by simp; omega), w64_succ (k := k) (by omega)]
        by_cases hq : sqOf a b < w64 (x.1.2.2.1 * x.1.2.2.1) <;> simp [hq]
      · rw [F_impl_TooCloseNow_L2, if_neg (by simp), w64_succ (by omega)]
    · rw [F_impl_TooCloseNow_L1, if_neg (by simp)]
theorem tooAns_len (x : MarchT) (h : lensM x) : (tooAns x).1.length ≤ 12000 ∧ ∀ q ∈ (tooAns x).1, q.length = 2 := by
  unfold tooAns
  cases hm : okMarch x with
  | false => simp
  | true =>
    have hl := placesOf_len h hm
    have := pairs_len (placesOf x).length (nearNow (placesOf x) x.1.2.2.1) (by omega)
    simp only [if_true]
    exact ⟨by omega, pairs_mem _ _⟩
end Go.Proofs.Ytmkignciedkidaa
/-
  THE SUM OF COUNTS OF A SHOW, PLAIN.
-/
set_option linter.unusedSimpArgs false
set_option linter.unusedVariables false
namespace Go.Proofs.Ytmkignciedkidaa
open Go
/-! the sums of counts -/
def totalAns (x : ShowT) : Int × Bool := if okShow x then (sumW x.2.1, true) else (0, false)
theorem impl_TotalCounts (x : ShowT) (h : lensOk x) : F_impl_TotalCounts x = some (totalAns x) := by
  unfold F_impl_TotalCounts totalAns
  rw [impl_IsShow x h.1 h.2.1 h.2.2, Option.bind_some, impl_totalCounts x h.2.2]
  cases okShow x <;> rfl
theorem sumW_eq (l : List Int) (h : ∀ u ∈ l, 1 ≤ u ∧ u ≤ 64) (hl : l.length ≤ 1000) : sumW l = l.sum ∧ 0 ≤ l.sum := by
  have key : ∀ (l : List Int) (a : Int), (∀ u ∈ l, 1 ≤ u ∧ u ≤ 64) → 0 ≤ a → a + 64 * l.length ≤ 1000000 → l.foldl (fun a u => w64 (a + u)) a = a + l.sum ∧ 0 ≤ l.sum := by
    intro l
    induction l with
    | nil => intro a _ _ _; simp
    | cons u l ih =>
      intro a h h0 h1
      have hu := h u (by simp)
      simp only [List.length_cons] at h1
      rw [List.foldl_cons, w64_eq (by omega) (by omega)]
      obtain ⟨e1, e2⟩ := ih (a + u) (fun v hv => h v (by simp [hv])) (by omega) (by omega)
      rw [e1, List.sum_cons]
      omega
  have := key l 0 h (by omega) (by omega)
  unfold sumW
  simpa using this
theorem spec_TotalCounts (x : ShowT) (h : lensOk x) : F_spec_TotalCounts x = some (totalAns x) := by
  unfold F_spec_TotalCounts totalAns
  rw [spec_swGood x h.1 h.2.1 h.2.2, Option.bind_some, spec_swTotal x h.2.2]
  cases okShow x <;> rfl
end Go.Proofs.Ytmkignciedkidaa
/-
  SHEETS OF VALID SHOWS: the spots after counts, PLAIN.
-/
set_option linter.unusedSimpArgs false
set_option linter.unusedVariables false
namespace Go.Proofs.Ytmkignciedkidaa
open Go
theorem areCharts_ok {x : ShowT} (f : ShowFacts x) : F_impl_areCharts x.1 x.2.1 = some true := by
  have n0 := f.n0
  have n1 := f.n1
  have nc := f.nc
  obtain ⟨c0, hc0⟩ : ∃ c, x.1[0]? = some c := ⟨_, List.getElem?_eq_getElem (by omega)⟩
  unfold F_impl_areCharts jK1
  dsimp only
  have hin : okIn (x.1.length : Int) 1 9 = true := by rw [okIn_iff]; omega
  rw [impl_within, Option.bind_some, hin, w64_eq (by omega) (by omega), if_neg (by simp), if_neg (by simp; omega)]
  rw [loopL (F_impl_areCharts_L1 x.1 x.2.1) x.1 (fun _ => true) (F_impl_areCharts_L2 x.2.1 FU 0) (some false) (by omega) (fun m k c hk hc => ?_) (fun m => by rw [F_impl_areCharts_L1, if_neg (by simp)])]
  · rw [if_pos (by simp), loopL (F_impl_areCharts_L2 x.2.1) x.2.1 (fun _ => true) (some true) (some false) (by omega) (fun m k u hk hu => ?_) (fun m => by rw [F_impl_areCharts_L2, if_neg (by simp)])]
    · simp
    · have hu2 := f.cn u (List.mem_of_getElem? hu)
      have : okIn u 1 64 = true := by rw [okIn_iff]; exact hu2
      rw [F_impl_areCharts_L2, if_pos (by simp; omega), idx_nat, hu, Option.bind_some, impl_within, Option.bind_some, this, w64_succ (by omega)]
      simp
  · have hm := List.mem_of_getElem? hc
    have hl := (f.cl c hm).2
    rw [F_impl_areCharts_L1, if_pos (by simp; omega), idx_nat, hc, Option.bind_some]
    unfold jK1
    dsimp only
    rw [impl_IsChart c (by omega), Option.bind_some, f.ch c hm, if_neg (by simp), idx_zero, hc0, Option.bind_some, f.ce c hm c0 hc0, w64_succ (by omega)]
    simp
theorem impl_SheetOf {x : ShowT} (f : ShowFacts x) (i : Nat) (hi : i < firstLen' x) : F_impl_SheetOf x.1 x.2.1 (i : Int) = some (sheetOf x i, true) := by
  obtain ⟨c, hc, he, _, h12⟩ := show_first f
  have hin : okIn (i : Int) 0 ((c.length : Int) - 1) = true := by rw [okIn_iff]; omega
  unfold F_impl_SheetOf jK1
  dsimp only
  rw [areCharts_ok f, Option.bind_some, if_neg (by simp), idx_zero, hc, Option.bind_some, w64_eq (by omega) (by omega), impl_within, Option.bind_some, hin, if_neg (by simp), impl_sheetOf x f i hi]
  rfl
theorem spot_ok {x : ShowT} (f : ShowFacts x) {k i : Nat} (hk : k < x.1.length) (hi : i < firstLen' x) : okSpot (spotAt x k i) = true := by
  obtain ⟨c0, hc0, he, _, _⟩ := show_first f
  obtain ⟨c, hc⟩ : ∃ c, x.1[k]? = some c := ⟨_, List.getElem?_eq_getElem hk⟩
  have hl := chart_len f hc hc0
  unfold spotAt
  rw [chartAt_of hc, List.getElem?_eq_getElem (show i < c.length by omega)]
  exact chart_spots (f.ch c (List.mem_of_getElem? hc)) _ (List.getElem_mem _)
theorem counts_ok {x : ShowT} (f : ShowFacts x) {k : Nat} (hk : k < x.2.1.length) : 1 ≤ countsAt x k ∧ countsAt x k ≤ 64 := by
  have e : x.2.1[k]? = some x.2.1[k] := List.getElem?_eq_getElem hk
  unfold countsAt
  rw [e]
  exact f.cn _ (List.getElem_mem hk)
theorem rows_ok {x : ShowT} (f : ShowFacts x) {i : Nat} (hi : i < firstLen' x) : (rowsOf x i).all okRow = true := by
  have nc := f.nc
  rw [List.all_eq_true]
  intro r hr
  unfold rowsOf at hr
  obtain ⟨k, hk, rfl⟩ := List.mem_map.1 hr
  have hk' := List.mem_range.1 hk
  unfold okRow
  rw [Bool.and_eq_true, okIn_iff]
  exact ⟨counts_ok f hk', spot_ok f (by omega) hi⟩
theorem sheet_ok {x : ShowT} (f : ShowFacts x) {i : Nat} (hi : i < firstLen' x) : okSheet (sheetOf x i) = true := by
  obtain ⟨c, hc, he, h1, h12⟩ := show_first f
  have n1 := f.n1
  have nc := f.nc
  unfold okSheet sheetOf
  simp only [Bool.and_eq_true, decide_eq_true_eq, okIn_iff]
  refine ⟨⟨⟨by omega, spot_ok f (by omega) hi⟩, rows_ok f hi⟩, by unfold rowsOf; simp; omega⟩
theorem rows_sum {x : ShowT} (f : ShowFacts x) (i : Nat) : ((rowsOf x i).map (·.1)).sum = sumW x.2.1 := by
  have n1 := f.n1
  have nc := f.nc
  rw [(sumW_eq x.2.1 f.cn (by omega)).1]
  congr 1
  unfold rowsOf
  rw [List.map_map]
  apply List.ext_getElem?
  intro k
  by_cases hk : k < x.2.1.length
  · have e : x.2.1[k]? = some x.2.1[k] := List.getElem?_eq_getElem hk
    simp [hk, countsAt, e]
  · rw [List.getElem?_eq_none (by simp; omega), List.getElem?_eq_none (by omega)]
theorem rows_last {x : ShowT} (f : ShowFacts x) (i : Nat) (st : Int × Int) : lastOf st (rowsOf x i) = spotAt x x.2.1.length i := by
  have n0 := f.n0
  have nc := f.nc
  obtain ⟨n, hn⟩ : ∃ n, x.2.1.length = n + 1 := ⟨x.2.1.length - 1, by omega⟩
  unfold rowsOf
  rw [hn, List.range_succ, List.map_append, lastOf_append]
  rfl
/-! rounding stays between -/
theorem rd_mid {p c B : Int} (h0 : 0 ≤ p) (h1 : p ≤ B * c) (hc : 1 ≤ c) (hB : 0 ≤ B) : 0 ≤ rd p c ∧ rd p c ≤ B := by
  unfold rd
  rw [Int.tdiv_eq_ediv_of_nonneg (by omega)]
  refine ⟨Int.ediv_nonneg (by omega) (by omega), ?_⟩
  have : (2 * p + c) / (2 * c) < B + 1 := Int.ediv_lt_of_lt_mul (by omega) (by
    rw [Int.add_mul, Int.one_mul]
    have e : B * (2 * c) = 2 * (B * c) := by rw [Int.mul_left_comm]
    omega)
  omega
theorem rd_full (b c : Int) (hb : 0 ≤ b) (hc : 1 ≤ c) : rd (b * c) c = b := by
  unfold rd
  have h0 : 0 ≤ b * c := Int.mul_nonneg hb (by omega)
  rw [Int.tdiv_eq_ediv_of_nonneg (by omega), show 2 * (b * c) + c = c + (2 * c) * b by rw [Int.mul_assoc, Int.mul_comm c b]; omega, Int.add_mul_ediv_left _ _ (by omega), Int.ediv_eq_zero_of_lt (by omega) (by omega)]
  omega
theorem way_mid {a b c k B : Int} (ha : 0 ≤ a ∧ a ≤ B) (hb : 0 ≤ b ∧ b ≤ B) (hc : 1 ≤ c) (hk : 0 ≤ k ∧ k ≤ c) : 0 ≤ a * c + (b - a) * k ∧ a * c + (b - a) * k ≤ B * c := by
  have h1 : a * c + (b - a) * k = a * (c - k) + b * k := by rw [Int.sub_mul, Int.mul_sub]; omega
  have h2 : 0 ≤ a * (c - k) := Int.mul_nonneg ha.1 (by omega)
  have h3 : 0 ≤ b * k := Int.mul_nonneg hb.1 hk.1
  have h4 : a * (c - k) ≤ B * (c - k) := Int.mul_le_mul_of_nonneg_right ha.2 (by omega)
  have h5 : b * k ≤ B * k := Int.mul_le_mul_of_nonneg_right hb.2 hk.1
  have h6 : B * (c - k) + B * k = B * c := by rw [Int.mul_sub]; omega
  omega
theorem round_ok (u : MoveT) (k : Int) (hg : goodMove u) (hc : 1 ≤ u.2.2) (hk : 0 ≤ k ∧ k ≤ u.2.2) : okSpot (roundM u k) = true := by
  obtain ⟨g1, g2⟩ := hg
  unfold okSpot at g1 g2 ⊢
  rw [Bool.and_eq_true, okIn_iff, okIn_iff] at g1 g2 ⊢
  have hX := way_mid (c := u.2.2) (k := k) g1.1 g2.1 hc hk
  have hY := way_mid (c := u.2.2) (k := k) g1.2 g2.2 hc hk
  unfold roundM
  exact ⟨rd_mid hX.1 hX.2 hc (by omega), rd_mid hY.1 hY.2 hc (by omega)⟩
theorem round_full (u : MoveT) (hg : goodMove u) (hc : 1 ≤ u.2.2) : roundM u u.2.2 = u.2.1 := by
  obtain ⟨g1, g2⟩ := hg
  unfold okSpot at g2
  rw [Bool.and_eq_true, okIn_iff, okIn_iff] at g2
  have e : ∀ a b : Int, a * u.2.2 + (b - a) * u.2.2 = b * u.2.2 := fun a b => by rw [Int.sub_mul]; omega
  unfold roundM
  rw [e, e, rd_full _ _ g2.1.1 hc, rd_full _ _ g2.2.1 hc]
theorem after_rows : ∀ (rs : List RowT) (st : Int × Int) (c : Int), okSpot st = true → rs.all okRow = true → 0 < c → c ≤ (rs.map (·.1)).sum →
    (afterM (rowMoves st rs) c).2 = true ∧ okSpot (afterM (rowMoves st rs) c).1 = true ∧ (c = (rs.map (·.1)).sum → (afterM (rowMoves st rs) c).1 = lastOf st rs) := by
  intro rs
  induction rs with
  | nil => intro st c _ _ h0 h1; simp at h1; omega
  | cons r rs ih =>
    intro st c hst hall h0 h1
    rw [List.all_cons, Bool.and_eq_true] at hall
    have hr := hall.1
    unfold okRow at hr
    rw [Bool.and_eq_true, okIn_iff] at hr
    rw [List.map_cons, List.sum_cons] at h1 ⊢
    have hg : goodMove (st, r.2, r.1) := ⟨hst, hr.2⟩
    have hnn : ∀ l : List RowT, l.all okRow = true → 0 ≤ (l.map (·.1)).sum ∧ ((l.map (·.1)).sum = 0 → l = []) := by
      intro l
      induction l with
      | nil => intro _; simp
      | cons q l ih2 =>
        intro h
        rw [List.all_cons, Bool.and_eq_true] at h
        have hq := h.1
        unfold okRow at hq
        rw [Bool.and_eq_true, okIn_iff] at hq
        have := (ih2 h.2).1
        rw [List.map_cons, List.sum_cons]
        exact ⟨by omega, fun h => by omega⟩
    have hn := hnn rs hall.2
    rw [rowMoves, afterM]
    dsimp only
    by_cases hq : c ≤ r.1
    · rw [if_pos hq]
      refine ⟨rfl, round_ok _ _ hg hr.1.1 ⟨by omega, hq⟩, fun e => ?_⟩
      have hz : rs = [] := hn.2 (by omega)
      subst hz
      have : c = r.1 := by simp at e; exact e
      rw [this]
      exact round_full (st, r.2, r.1) hg hr.1.1
    · rw [if_neg hq]
      obtain ⟨a1, a2, a3⟩ := ih r.2 (c - r.1) hr.2 hall.2 (by omega) (by omega)
      exact ⟨a1, a2, fun e => by rw [a3 (by omega)]; rfl⟩
theorem spot_after {x : ShowT} (f : ShowFacts x) {i : Nat} (hi : i < firstLen' x) {c : Int} (h0 : 0 ≤ c) (h1 : c ≤ sumW x.2.1) :
    (spotAns (sheetOf x i) c).2 = true ∧ okSpot (spotAns (sheetOf x i) c).1 = true ∧ (c = sumW x.2.1 → (spotAns (sheetOf x i) c).1 = spotAt x x.2.1.length i) := by
  have n0 := f.n0
  have nc := f.nc
  have hs := sheet_ok f hi
  have hsum := rows_sum f i
  have h00 : okSpot (spotAt x 0 i) = true := spot_ok f (by omega) hi
  have hall := rows_ok f hi
  unfold spotAns
  rw [hs, Bool.true_and, if_pos (by simpa using h0)]
  by_cases hz : c = 0
  · rw [if_pos hz]
    refine ⟨rfl, h00, fun e => ?_⟩
    have hp : 0 < sumW x.2.1 := by
      obtain ⟨u, l, hul⟩ : ∃ u l, x.2.1 = u :: l := by
        cases hh : x.2.1 with
        | nil => rw [hh] at nc; simp at nc; omega
        | cons u l => exact ⟨u, l, rfl⟩
      have n1 := f.n1
      rw [(sumW_eq x.2.1 f.cn (by omega)).1, hul, List.sum_cons]
      have := f.cn u (by rw [hul]; simp)
      have := (sumW_eq l (fun v hv => f.cn v (by rw [hul]; simp [hv])) (by rw [hul] at nc; simp at nc; omega)).2
      omega
    omega
  · rw [if_neg hz]
    obtain ⟨a1, a2, a3⟩ := after_rows (rowsOf x i) (spotAt x 0 i) c h00 hall (by omega) (by rw [hsum]; exact h1)
    exact ⟨a1, a2, fun e => by
      have := a3 (by rw [hsum]; exact e)
      rw [rows_last f i] at this
      exact this⟩
/-! places of a march -/
theorem own_facts {x : MarchT} (h : lensM x) (hm : okMarch x = true) {i : Nat} {b : Int} (hb : x.2.2.2[i]? = some b) : 0 ≤ ownC x b ∧ ownC x b ≤ sumW x.1.2.1 ∧ ownC x b = minI (x.2.1 - b) (sumW x.1.2.1) ∧ 0 ≤ b ∧ b ≤ x.2.1 ∧ x.2.1 ≤ 1000 := by
  have hbh := march_behind h hm
  have f := facts hbh.2.2.1
  have n1 := f.n1
  have nc := f.nc
  have hs := sumW_eq x.1.2.1 f.cn (by omega)
  unfold okMarch at hm
  simp only [Bool.and_eq_true, decide_eq_true_eq, okIn_iff] at hm
  obtain ⟨⟨⟨⟨h1, h2⟩, h3⟩, h4⟩, h5⟩ := hm
  unfold allIn at h5
  have hb5 := List.all_eq_true.1 h5 b (List.mem_of_getElem? hb)
  rw [okIn_iff] at hb5
  have e : ownC x b = minI (x.2.1 - b) (sumW x.1.2.1) := by unfold ownC; rw [w64_eq (by omega) (by omega)]
  refine ⟨?_, ?_, e, hb5.1, hb5.2, h2.2⟩
  · rw [e]; unfold minI; split <;> omega
  · rw [e]; unfold minI; split <;> omega
theorem here_facts {x : MarchT} (h : lensM x) (hm : okMarch x = true) {i : Nat} {b : Int} (hb : x.2.2.2[i]? = some b) :
    spotAns (sheetOf x.1 i) (ownC x b) = (hereAt x i, true) ∧ okSpot (hereAt x i) = true ∧ (ownC x b = sumW x.1.2.1 → hereAt x i = spotAt x.1 x.1.2.1.length i) := by
  have hbh := march_behind h hm
  have f := facts hbh.2.2.1
  have hi : i < firstLen' x.1 := by have : firstLen' x.1 = firstLen x.1 := rfl; have := (List.getElem?_eq_some_iff.1 hb).1; omega
  obtain ⟨o1, o2, _⟩ := own_facts h hm hb
  obtain ⟨a1, a2, a3⟩ := spot_after f hi o1 o2
  have e := hereAt_of hb
  unfold hereOf at e
  rw [← e] at a2 a3
  refine ⟨?_, a2, a3⟩
  rw [e]
  exact Prod.ext rfl a1
theorem bestAt_max (l : List Int) (h0 : 0 < l.length) : 0 ≤ bestAt l ∧ (bestAt l).toNat < l.length ∧ ∀ (k : Nat) (u v : Int), l[k]? = some u → l[(bestAt l).toNat]? = some v → u ≤ v := by
  have key : ∀ n, 0 < n → n ≤ l.length → let s := (List.range n).foldl (fun s (k : Nat) => match l[k]?, l[s.toNat]? with | some u, some v => if v < u then (k : Int) else s | _, _ => s) 0
      0 ≤ s ∧ s.toNat < n ∧ ∀ (k : Nat) (u v : Int), k < n → l[k]? = some u → l[s.toNat]? = some v → u ≤ v := by
    intro n
    induction n with
    | zero => intro h; omega
    | succ n ih =>
      intro _ hn
      dsimp only
      rw [List.range_succ, List.foldl_append, List.foldl_cons, List.foldl_nil]
      by_cases h00 : n = 0
      · subst h00
        have e0 : l[0]? = some l[0] := List.getElem?_eq_getElem (by omega)
        rw [List.range_zero, List.foldl_nil]
        rw [show ((0 : Int).toNat) = 0 from rfl, e0]
        dsimp only
        rw [if_neg (by omega)]
        refine ⟨by omega, by simp, fun k u v hk hu hv => ?_⟩
        have : k = 0 := by omega
        subst this
        rw [show ((0 : Int).toNat) = 0 from rfl] at hv
        rw [hu] at hv; cases hv; exact Int.le_refl _
      · obtain ⟨i1, i2, i3⟩ := ih (by omega) (by omega)
        generalize (List.range n).foldl (fun s (k : Nat) => match l[k]?, l[s.toNat]? with | some u, some v => if v < u then (k : Int) else s | _, _ => s) 0 = s at *
        have en : l[n]? = some l[n] := List.getElem?_eq_getElem (by omega)
        have es : l[s.toNat]? = some l[s.toNat] := List.getElem?_eq_getElem (by omega)
        rw [en, es]
        dsimp only
        by_cases hq : l[s.toNat] < l[n]
        · rw [if_pos hq]
          refine ⟨by omega, by omega, fun k u v hk hu hv => ?_⟩
          rw [Int.toNat_natCast, en] at hv
          cases hv
          by_cases hkn : k = n
          · subst hkn; rw [en] at hu; cases hu; exact Int.le_refl _
          · have := i3 k u _ (by omega) hu es; omega
        · rw [if_neg hq]
          refine ⟨i1, by omega, fun k u v hk hu hv => ?_⟩
          by_cases hkn : k = n
          · subst hkn; rw [en] at hu; cases hu; rw [es] at hv; cases hv; omega
          · exact i3 k u v (by omega) hu hv
  have := key l.length h0 (Nat.le_refl _)
  unfold bestAt
  exact ⟨this.1, this.2.1, fun k u v hu hv => this.2.2 k u v (List.getElem?_eq_some_iff.1 hu).1 hu hv⟩
/-! pairs -/
theorem pairs_of {n : Nat} {p : Nat → Nat → Bool} {q : List Int} (h : q ∈ pairsOf n p) : ∃ i k : Nat, q = [(i : Int), (k : Int)] ∧ i < k ∧ k < n ∧ p i k = true := by
  have key : ∀ (is : List Nat) (s : List (List Int)), (∀ i ∈ is, i < n) → (∀ q ∈ s, ∃ i k : Nat, q = [(i : Int), (k : Int)] ∧ i < k ∧ k < n ∧ p i k = true) →
      ∀ q ∈ is.foldl (fun s i => s ++ pairRow n p i) s, ∃ i k : Nat, q = [(i : Int), (k : Int)] ∧ i < k ∧ k < n ∧ p i k = true := by
    intro is
    induction is with
    | nil => intro s _ h q hq; exact h q hq
    | cons i is ih =>
      intro s hi h q hq
      rw [List.foldl_cons] at hq
      refine ih _ (fun j hj => hi j (by simp [hj])) (fun q hq => ?_) q hq
      rcases List.mem_append.1 hq with hq | hq
      · exact h q hq
      · unfold pairRow at hq
        obtain ⟨k, hk, rfl⟩ := List.mem_map.1 hq
        rw [List.mem_filter, List.mem_range'_1] at hk
        have := hi i (by simp)
        exact ⟨i, k, rfl, by omega, by omega, hk.2⟩
  exact key (List.range n) [] (fun i hi => List.mem_range.1 hi) (fun q hq => by cases hq) q h
theorem impl_SquareOf (a b : Int × Int) (ha : okSpot a = true) (hb : okSpot b = true) : F_impl_SquareOf a b = some (sqOf a b, true) := by
  unfold F_impl_SquareOf jK1
  dsimp only
  rw [impl_IsSpot, Option.bind_some, ha, impl_IsSpot, Option.bind_some, hb, impl_squareOf]
  rfl
end Go.Proofs.Ytmkignciedkidaa
/-
  THE LAW FnPlacesNow, PLAIN: it answers true.
-/
set_option linter.unusedSimpArgs false
set_option linter.unusedVariables false
namespace Go.Proofs.Ytmkignciedkidaa
open Go
theorem P_laws_FnPlacesNow (x0 x1 : List Int) (g0 : (allG inU8) x0) (g1 : (allG inU8) x1) : F_laws_FnPlacesNow x0 x1 = some true := by
  refine Tot.of ?_
  unfold F_laws_FnPlacesNow
  refine big_tot _ _ fun b => Tot.ite (fun _ => Tot.some rfl) fun _ => ?_
  refine Tot.bind (draw_PlacesNow x0 (Cu.begin g0)) fun m hm => ?_
  have hl := hm.lens
  refine Tot.bindE (impl_PlacesNow _ hl) (Tot.bindE (spec_PlacesNow _ hl) (Tot.bindE (impl_TooCloseNow _ hl) (Tot.bindE (spec_TooCloseNow _ hl) ?_)))
  refine Tot.bindE (impl_StillGoing _ hl) (Tot.bindE (spec_StillGoing _ hl) (Tot.bindE (impl_MostBehind _ hl) (Tot.bindE (spec_MostBehind _ hl) ?_)))
  have q1 := p_Spots (placesAns m).1 (by have := placesAns_len m hl; omega)
  have hto := tooAns_len m hl
  have q2 := p_Lists (tooAns m).1 (by omega) fun u hu => by have := hto.2 u hu; omega
  have q3 := p_Ints (goingAns m).1 (by have := goingAns_len m hl; omega)
  refine Tot.j1 (fun y => y = false) (fun y hy => ?_) fun k hk => ?_
  rotate_left
  · simp only [bne_self_eq_false, Bool.false_eq_true, if_false, q1, q2, q3, Option.bind_some, Bool.not_true]
    unfold tooAns goingAns behindAns placesAns
    cases hok : okMarch m with
    | false =>
      simp only [bne_self_eq_false, Bool.false_eq_true, if_false]
      exact Tot.bindE (impl_IsMarch _ hl.1 hl.2.1 hl.2.2) (hk _ (by rw [hok]; rfl))
    | true =>
      simp only [bne_self_eq_false, Bool.false_eq_true, if_false, if_true]
      exact Tot.bindE (impl_IsMarch _ hl.1 hl.2.1 hl.2.2) (hk _ (by rw [hok]; rfl))
  subst hy
  simp only [Bool.false_eq_true, if_false]
  refine Tot.j0 ?_ fun k hk => ?_
  · refine Tot.bind (draw_WhereNow x1 (Cu.begin g1)) fun u hu => ?_
    refine Tot.bindE (impl_WhereNow _ _ hu.lens) (Tot.bindE (spec_WhereNow _ _ hu.lens) ?_)
    refine Tot.j1 (fun y => y = true) (fun y hy => Tot.some hy) fun k hk => ?_
    rw [if_pos (by simp)]
    exact hk _ (by simp [eqv_Spot])
  · unfold placesAns tooAns goingAns behindAns
    cases hok : okMarch m with
    | false => exact hk
    | true =>
      have hb := march_behind hl hok
      have f := facts hb.2.2.1
      have n1 := f.n1
      have nc := f.nc
      have hplen : (placesOf m).length = m.2.2.2.length := by unfold placesOf; simp
      simp only [if_true]
      refine Tot.bindE (impl_TotalCounts _ hl.1) (Tot.bindE (spec_TotalCounts _ hl.1) ?_)
      have ht : totalAns m.1 = (sumW m.1.2.1, true) := by unfold totalAns; rw [hb.2.2.1]; rfl
      rw [ht]
      refine Tot.j1 (fun y => y = false) (fun y hy => ?_) fun k2 hk2 => ?_
      rotate_left
      · simp only [Bool.not_true, Bool.false_eq_true, if_false, bne_self_eq_false]
        exact hk2 _ (by rw [hplen]; simp)
      subst hy
      simp only [Bool.false_eq_true, if_false]
      obtain ⟨v, hv, hv2⟩ := hk
      rw [hv]
      -- the pairs
      have hpairs : F_laws_FnPlacesNow_L2 (pairsOf (placesOf m).length (nearNow (placesOf m) m.1.2.2.1), true) (placesOf m, true) m (some v) FU 0 = some v := by
        have hpl := pairs_len (placesOf m).length (nearNow (placesOf m) m.1.2.2.1) (by omega)
        rw [loopL (F_laws_FnPlacesNow_L2 (pairsOf (placesOf m).length (nearNow (placesOf m) m.1.2.2.1), true) (placesOf m, true) m (some v)) (pairsOf (placesOf m).length (nearNow (placesOf m) m.1.2.2.1)) (fun _ => true) (some v) (some false) (by omega) (fun j q pr hq hpr => ?_) (fun j => by rw [F_laws_FnPlacesNow_L2, if_neg (by simp)])]
        · simp
        · obtain ⟨i, k, rfl, hik, hkn, hnear⟩ := pairs_of (List.mem_of_getElem? hpr)
          obtain ⟨bi, hbi⟩ : ∃ b, m.2.2.2[i]? = some b := ⟨_, List.getElem?_eq_getElem (by omega)⟩
          obtain ⟨bk, hbk⟩ : ∃ b, m.2.2.2[k]? = some b := ⟨_, List.getElem?_eq_getElem (by omega)⟩
          have ei : (placesOf m)[i]? = some (hereAt m i) := by unfold placesOf; rw [List.getElem?_map, List.getElem?_range (by omega)]; rfl
          have ek : (placesOf m)[k]? = some (hereAt m k) := by unfold placesOf; rw [List.getElem?_map, List.getElem?_range (by omega)]; rfl
          unfold nearNow at hnear
          rw [ei, ek] at hnear
          rw [F_laws_FnPlacesNow_L2, if_pos (by simp; omega), idx_nat]
          dsimp only
          rw [hpr, Option.bind_some, show idx [(i : Int), (k : Int)] 0 = some (i : Int) from rfl, Option.bind_some, idx_nat, ei, Option.bind_some, show idx [(i : Int), (k : Int)] 1 = some (k : Int) from rfl, Option.bind_some, idx_nat, ek, Option.bind_some,
            impl_SquareOf _ _ (here_facts hl hok hbi).2.1 (here_facts hl hok hbk).2.1, Option.bind_some]
          unfold jK1
          dsimp only
          rw [w64_succ (by omega)]
          have hn : ¬ w64 (m.1.2.2.1 * m.1.2.2.1) ≤ sqOf (hereAt m i) (hereAt m k) := by simp at hnear; omega
          simp [hn]
      rw [loopL (F_laws_FnPlacesNow_L1 (placesOf m, true) m (sumW m.1.2.1, true) (filt (goesAt m) m.2.2.2.length, true) (bestAt m.2.2.2, true) (pairsOf (placesOf m).length (nearNow (placesOf m) m.1.2.2.1), true) (some v)) (placesOf m) (fun _ => true) (some v) (some false) (by omega) (fun j i a hi ha => ?_) (fun j => ?_)]
      · exact ⟨v, by simp, hv2⟩
      · obtain ⟨b, hbi⟩ : ∃ b, m.2.2.2[i]? = some b := ⟨_, List.getElem?_eq_getElem (by omega)⟩
        have hi' : i < firstLen' m.1 := by have : firstLen' m.1 = firstLen m.1 := rfl; omega
        have ea : a = hereAt m i := by
          unfold placesOf at ha
          rw [List.getElem?_map, List.getElem?_range (by omega)] at ha
          exact (Option.some.inj ha).symm
        obtain ⟨o1, o2, o3, o4, o5, o6⟩ := own_facts hl hok hbi
        obtain ⟨s1, s2, s3⟩ := here_facts hl hok hbi
        have hper : okPerf m (i : Int) = true := by unfold okPerf; rw [hok, Bool.true_and, okIn_iff]; omega
        have hwh : whereAns m (i : Int) = (hereAt m i, true) := by unfold whereAns; rw [hper]; rfl
        have hrl : (sheetOf m.1 i).2.2.length < 1073741824 := by unfold sheetOf rowsOf; simp; omega
        have hown := march_own hok hbi
        have hcnt : (if decide (sumW m.1.2.1 < m.2.1 - b) = true then sumW m.1.2.1 else m.2.1 - b) = ownC m b := by
          rw [o3]; unfold minI
          by_cases hq : sumW m.1.2.1 < m.2.1 - b <;> simp [hq]
        have hgo : decide ((i : Int) ∈ filt (goesAt m) m.2.2.2.length) = decide (ownC m b < sumW m.1.2.1) := by
          have h1 := mem_filt (p := goesAt m) (n := m.2.2.2.length) (k := i) (by omega)
          have h2 : goesAt m i = decide (ownC m b < sumW m.1.2.1) := by unfold goesAt; rw [hbi]
          rw [h2] at h1
          rw [Bool.eq_iff_iff, decide_eq_true_eq]
          exact h1
        obtain ⟨m1, m2, m3⟩ := bestAt_max m.2.2.2 (by omega)
        have ebest : m.2.2.2[(bestAt m.2.2.2).toNat]? = some m.2.2.2[(bestAt m.2.2.2).toNat] := List.getElem?_eq_getElem m2
        have hmax := m3 i b _ hbi ebest
        have hfl := filt_len (goesAt m) m.2.2.2.length
        rw [F_laws_FnPlacesNow_L1, if_pos (by simp; omega), idx_nat]
        dsimp only
        rw [ha, Option.bind_some, impl_WhereNow m _ hl, Option.bind_some, hwh, impl_SheetOf f i hi', Option.bind_some, idx_nat, hbi, Option.bind_some]
        have after : Option.bind (F_impl_SpotAfter (sheetOf m.1 i) (ownC m b)) (fun u289 => jK1 (fun (y309 : Bool) => (if y309 = true then some false else jK1 (fun (y318 : Bool) => (if y318 = true then some false else (F_laws_FnPlacesNow_L1 (placesOf m, true) m (sumW m.1.2.1, true) (filt (goesAt m) m.2.2.2.length, true) (bestAt m.2.2.2, true) (pairsOf (placesOf m).length (nearNow (placesOf m) m.1.2.2.1), true) (some v) j) ((w64 ((i : Int) + 1))))) (fun k319 => (if (ownC m b == sumW m.1.2.1) = true then Option.bind (idx m.1.1 (w64 ((List.length m.1.1 : Int) - 1))) fun u329 =>
            Option.bind (idx u329 (i : Int)) fun u335 => k319 ((!(eqv_Spot a u335))) else k319 (false))))) (fun k310 => (if (!true) = true then k310 (true) else (if (!(eqv_Spot (hereAt m i) a)) = true then k310 (true) else (if (!true) = true then k310 (true) else (if (!u289.2) = true then k310 (true) else (if (!(eqv_Spot u289.1 a)) = true then k310 (true) else Option.bind (F_laws_pIn (filt (goesAt m) m.2.2.2.length) (i : Int)) fun u348 =>
            (if (u348 != (decide (ownC m b < sumW m.1.2.1))) = true then k310 (true) else Option.bind (idx m.2.2.2 (i : Int)) fun u356 => Option.bind (idx m.2.2.2 (bestAt m.2.2.2)) fun u360 => k310 ((decide (u360 < u356))))))))))) =
            F_laws_FnPlacesNow_L1 (placesOf m, true) m (sumW m.1.2.1, true) (filt (goesAt m) m.2.2.2.length, true) (bestAt m.2.2.2, true) (pairsOf (placesOf m).length (nearNow (placesOf m) m.1.2.2.1), true) (some v) j (w64 ((i : Int) + 1)) := by
          rw [impl_SpotAfter _ _ hrl (by omega), Option.bind_some, s1]
          unfold jK1
          dsimp only
          have hself : ∀ s : Int × Int, eqv_Spot s s = true := fun s => by simp [eqv_Spot]
          subst ea
          rw [hself, p_In _ _ (by omega), Option.bind_some, hgo, idx_nat, hbi, Option.bind_some, idx_int m1, ebest, Option.bind_some]
          simp only [Bool.not_true, Bool.false_eq_true, if_false, bne_self_eq_false]
          rw [if_neg (by simp; exact hmax)]
          by_cases hq : ownC m b = sumW m.1.2.1
          · rw [if_pos (by simpa using hq)]
            have h3 := s3 hq
            obtain ⟨c, hc⟩ : ∃ c, m.1.1[m.1.2.1.length]? = some c := ⟨_, List.getElem?_eq_getElem (by omega)⟩
            obtain ⟨c0, hc0, he, _, _⟩ := show_first f
            have hcl := chart_len f hc hc0
            obtain ⟨s, hs⟩ : ∃ s, c[i]? = some s := ⟨_, List.getElem?_eq_getElem (by omega)⟩
            have hsp : spotAt m.1 m.1.2.1.length i = s := by unfold spotAt; rw [chartAt_of hc, hs]; rfl
            rw [w64_eq (by omega) (by omega), show ((m.1.1.length : Int) - 1) = ((m.1.2.1.length : Nat) : Int) by omega, idx_nat, hc, Option.bind_some, idx_nat, hs, Option.bind_some, h3, hsp, hself]
            try simp
          · rw [if_neg (by simpa using hq)]
            try simp
        have e1 : w64 (m.2.1 - b) = m.2.1 - b := w64_eq (by omega) (by omega)
        rw [e1]
        rw [w64_succ (k := i) (by omega)] at after
        show (jK1 _ fun k286 => (if (decide (sumW m.1.2.1 < m.2.1 - b)) = true then k286 (sumW m.1.2.1) else k286 (m.2.1 - b))) = _
        rw [show ∀ (rest : Int → Option Bool), (jK1 rest fun k286 => (if (decide (sumW m.1.2.1 < m.2.1 - b)) = true then k286 (sumW m.1.2.1) else k286 (m.2.1 - b))) = rest (ownC m b) from fun rest => by
          unfold jK1
          rw [← hcnt]
          by_cases hq : sumW m.1.2.1 < m.2.1 - b <;> simp [hq]]
        rw [w64_succ (k := i) (by omega), if_pos rfl]
        have e9 : idx m.2.2.2 (i : Int) = some b := by rw [idx_nat]; exact hbi
        rw [e9] at after
        exact after
      · rw [F_laws_FnPlacesNow_L1, if_neg (by simp)]
        exact hpairs
end Go.Proofs.Ytmkignciedkidaa
