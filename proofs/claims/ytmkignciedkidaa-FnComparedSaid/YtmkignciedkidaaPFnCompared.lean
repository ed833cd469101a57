import Derived.Test.YtmkignciedkidaaCore0
import Derived.Test.YtmkignciedkidaaF
import Derived.Lib.Mul64
/-
  PLAIN BASE: lemmas on the words of Core0, on loops with fuel. No program.
-/
set_option linter.unusedSimpArgs false
set_option linter.unusedVariables false
namespace Go.Proofs.Ytmkignciedkidaa
open Go
theorem w64_eq {x : Int} (h1 : -9223372036854775808 ≤ x) (h2 : x ≤ 9223372036854775807) : w64 x = x := by
  unfold w64 IntKind.wrap
  simp only [IntKind.bits, IntKind.signed]
  simp only [ge_iff_le, Bool.true_and, decide_eq_true_eq]
  split <;> omega
theorem w64_succ {k : Nat} (h : k < 4611686018427387904) : w64 ((k : Int) + 1) = ((k + 1 : Nat) : Int) := by
  rw [w64_eq (by omega) (by omega)]; omega
theorem idx_nat {α : Type} (l : List α) (k : Nat) : idx l (k : Int) = l[k]? := by unfold idx; simp
theorem idx_zero {α : Type} (l : List α) : idx l 0 = l[0]? := by unfold idx; simp
theorem idx_int {α : Type} {l : List α} {i : Int} (h0 : 0 ≤ i) : idx l i = l[i.toNat]? := by unfold idx; rw [if_pos h0]
theorem FU_gt {n : Nat} (h : n < 4611686018427387904) : n < FU := h
theorem sl_take {α : Type} (l : List α) {k : Nat} (h : k ≤ l.length) : sl l 0 (k : Int) = some (l.take k) := by
  unfold sl
  rw [if_pos (by omega)]
  simp
/-- A loop over the numbers below n that ends early where p says no. -/
theorem loopR {R : Type} (f : Nat → Int → Option R) (n : Nat) (p : Nat → Bool) (rest bad : Option R) (hn : n < 4611686018427387904)
    (hs : ∀ m k, k < n → f (m + 1) (k : Int) = if p k = true then f m ((k + 1 : Nat) : Int) else bad) (he : ∀ m, f (m + 1) (n : Int) = rest) : f FU 0 = if (List.range n).all p = true then rest else bad := by
  have key : ∀ d k m, n - k = d → k ≤ n → n - k < m → f m (k : Int) = if (List.range' k (n - k)).all p = true then rest else bad := by
    intro d
    induction d with
    | zero =>
      intro k m hd hk hm
      have : k = n := by omega
      subst this
      cases m with
      | zero => omega
      | succ m => simp [he]
    | succ d ih =>
      intro k m hd hk hm
      cases m with
      | zero => omega
      | succ m =>
        rw [hs m k (by omega), hd, List.range'_succ, List.all_cons]
        cases hp : p k with
        | false => simp
        | true =>
          simp only [if_true, Bool.true_and]
          rw [ih (k + 1) m (by omega) (by omega) (by omega), show n - (k + 1) = d by omega]
  have := key n 0 FU (by omega) (by omega) (FU_gt (by omega))
  simpa [List.range_eq_range'] using this
theorem range_all {α : Type} (l : List α) (p : Nat → Bool) (q : α → Bool) (h : ∀ k x, l[k]? = some x → p k = q x) : (List.range l.length).all p = l.all q := by
  rw [Bool.eq_iff_iff, List.all_eq_true, List.all_eq_true]
  constructor
  · intro h1 x hx
    obtain ⟨k, hk⟩ := List.getElem?_of_mem hx
    rw [← h k x hk]
    exact h1 k (List.mem_range.2 (List.getElem?_eq_some_iff.1 hk).1)
  · intro h1 k hk
    have hk' := List.mem_range.1 hk
    rw [h k l[k] (by simp [hk'])]
    exact h1 _ (List.getElem_mem hk')
/-- A loop over a list that ends early where q says no. -/
theorem loopL {α R : Type} (f : Nat → Int → Option R) (l : List α) (q : α → Bool) (rest bad : Option R) (hn : l.length < 4611686018427387904)
    (hs : ∀ m k x, k < l.length → l[k]? = some x → f (m + 1) (k : Int) = if q x = true then f m ((k + 1 : Nat) : Int) else bad) (he : ∀ m, f (m + 1) (l.length : Int) = rest) : f FU 0 = if l.all q = true then rest else bad := by
  rw [loopR f l.length (fun k => match l[k]? with | some x => q x | none => true) rest bad hn (fun m k hk => ?_) he, range_all l _ q (fun k x hx => by simp [hx])]
  have hx : l[k]? = some l[k] := by simp [hk]
  rw [hs m k l[k] hk hx]
  simp [hx]
/-- A loop that carries a state through the numbers below n. -/
theorem loopS {R S : Type} (f : Nat → S → Int → Option R) (n : Nat) (step : Nat → S → S) (rest : S → Option R) (hn : n < 4611686018427387904)
    (I : Nat → S → Prop) (s0 : S) (h0 : I 0 s0) (hI : ∀ k s, k < n → I k s → I (k + 1) (step k s))
    (hs : ∀ m k s, k < n → I k s → f (m + 1) s (k : Int) = f m (step k s) ((k + 1 : Nat) : Int)) (he : ∀ m s, I n s → f (m + 1) s (n : Int) = rest s) :
    f FU s0 0 = rest ((List.range n).foldl (fun s k => step k s) s0) ∧ I n ((List.range n).foldl (fun s k => step k s) s0) := by
  have key : ∀ d k m s, n - k = d → k ≤ n → n - k < m → I k s → f m s (k : Int) = rest ((List.range' k (n - k)).foldl (fun s k => step k s) s) ∧ I n ((List.range' k (n - k)).foldl (fun s k => step k s) s) := by
    intro d
    induction d with
    | zero =>
      intro k m s hd hk hm hi
      have : k = n := by omega
      subst this
      cases m with
      | zero => omega
      | succ m => simp [he m s hi, hi]
    | succ d ih =>
      intro k m s hd hk hm hi
      cases m with
      | zero => omega
      | succ m =>
        rw [hs m k s (by omega) hi, hd, List.range'_succ, List.foldl_cons]
        have := ih (k + 1) m (step k s) (by omega) (by omega) (by omega) (hI k s (by omega) hi)
        rwa [show n - (k + 1) = d by omega] at this
  have := key n 0 FU s0 (by omega) (by omega) (FU_gt (by omega)) h0
  simpa [List.range_eq_range'] using this
/-! ### Sizes, copies, comparisons (the laws' own) -/
def Szd (o : Option Int) (n : Int) (Q : Prop) : Prop := ∃ r, o = some r ∧ (r < 0 ∨ (0 ≤ r ∧ r ≤ n ∧ Q))
def allS {α : Type} (S : α → Prop) (l : List α) : Prop := l.length ≤ 1048576 ∧ ∀ x ∈ l, S x
theorem idx_lt {α : Type} {l : List α} {k : Nat} (h : k < l.length) : idx l (k : Int) = some l[k] := by rw [idx_nat]; simp [h]
theorem seti_nat {α : Type} (l : List α) (k : Nat) (x : α) : seti l (k : Int) x = l.set k x := by unfold seti; simp
theorem Szd.imp {o : Option Int} {n : Int} {Q R : Prop} (h : Szd o n Q) (hi : Q → R) : Szd o n R := by
  obtain ⟨r, h1, h2⟩ := h
  exact ⟨r, h1, h2.imp id fun h => ⟨h.1, h.2.1, hi h.2.2⟩⟩
theorem mkL_nat {α : Type} {n : Nat} (h : n ≤ 1073741824) (z : α) : mkL (n : Int) z = some (List.replicate n z) := by
  unfold mkL
  rw [if_pos (by omega)]
  simp
theorem eqLB {α : Type} [BEq α] {S : α → Prop} (hn : ∀ x : α, (x != x) = false) (f : Nat → Int → Option Bool) (l : List α)
    (hs : ∀ m k, f (m + 1) k = if (decide (k < (List.length l : Int))) = true then Option.bind (idx l k) fun u => Option.bind (idx l k) fun v => (if (u != v) = true then some false else f m (w64 (k + 1))) else some true)
    (hl : allS S l) : (if ((List.length l : Int) != (List.length l : Int)) = true then some false else f FU 0) = some true := by
  have hl1 := hl.1
  rw [if_neg (by simp)]
  have := loopL f l (fun _ => true) (some true) (some false) (by omega) (fun m k x hk hx => ?_) (fun m => by rw [hs, if_neg (by simp)])
  · simpa using this
  · rw [hs, if_pos (by simp; omega), idx_nat, hx, Option.bind_some, Option.bind_some, if_neg (by rw [hn x]; exact Bool.false_ne_true), w64_succ (by omega), if_pos rfl]
theorem neI (x : Int) : (x != x) = false := by simp
/-- A loop over a list that carries a state. -/
theorem loopFold {α S R : Type} (f : Nat → S → Int → Option R) (l : List α) (step : S → α → S) (rest : S → Option R) (hn : l.length < 4611686018427387904)
    (hs : ∀ m s k x, k < l.length → l[k]? = some x → f (m + 1) s (k : Int) = f m (step s x) ((k + 1 : Nat) : Int)) (he : ∀ m s, f (m + 1) s (l.length : Int) = rest s) (s0 : S) : f FU s0 0 = rest (l.foldl step s0) := by
  have key : ∀ d k m s, l.length - k = d → k ≤ l.length → l.length - k < m → f m s (k : Int) = rest ((l.drop k).foldl step s) := by
    intro d
    induction d with
    | zero =>
      intro k m s hd hk hm
      have : k = l.length := by omega
      subst this
      cases m with
      | zero => omega
      | succ m => rw [he]; simp
    | succ d ih =>
      intro k m s hd hk hm
      cases m with
      | zero => omega
      | succ m =>
        have hk' : k < l.length := by omega
        rw [hs m s k l[k] hk' (by simp [hk']), ih (k + 1) m _ (by omega) (by omega) (by omega), List.drop_eq_getElem_cons hk', List.foldl_cons]
  have := key _ 0 FU s0 rfl (by omega) (FU_gt (by omega))
  simpa using this
/-- Two lists of one length are compared. -/
theorem loopSame {α R : Type} [DecidableEq α] (f : Nat → Int → Option R) (l m : List α) (rest bad : Option R) (hn : l.length < 4611686018427387904) (hl : l.length = m.length)
    (hs : ∀ (j k : Nat) (x y : α), l[k]? = some x → m[k]? = some y → f (j + 1) (k : Int) = if x = y then f j ((k + 1 : Nat) : Int) else bad) (he : ∀ j, f (j + 1) (l.length : Int) = rest) : f FU 0 = if l = m then rest else bad := by
  rw [loopR f l.length (fun k => decide (l[k]? = m[k]?)) rest bad hn (fun j k hk => ?_) he]
  · have : (List.range l.length).all (fun k => decide (l[k]? = m[k]?)) = decide (l = m) := by
      rw [Bool.eq_iff_iff, List.all_eq_true, decide_eq_true_eq]
      constructor
      · intro h
        apply List.ext_getElem? 
        intro i
        by_cases hi : i < l.length
        · simpa using h i (List.mem_range.2 hi)
        · rw [List.getElem?_eq_none (by omega), List.getElem?_eq_none (by omega)]
      · intro h k _
        simp [h]
    rw [this]
    by_cases h : l = m <;> simp [h]
  · have e1 : l[k]? = some l[k] := by simp [hk]
    have e2 : m[k]? = some (m[k]'(by omega)) := List.getElem?_eq_getElem (by omega)
    rw [hs j k l[k] (m[k]'(by omega)) e1 e2]
    by_cases h : l[k] = m[k]'(by omega)
    · rw [if_pos h, if_pos (by rw [e1, e2, h]; simp)]
    · rw [if_neg h, if_neg (by rw [e1, e2]; simp [h])]
end Go.Proofs.Ytmkignciedkidaa
/-
  DRAWS, PLAIN: numbers from bytes are there, in their bounds.
-/
set_option linter.unusedSimpArgs false
set_option linter.unusedVariables false
namespace Go.Proofs.Ytmkignciedkidaa
open Go
/-- There is a value, and it is as told. -/
def Tot {α : Type} (o : Option α) (P : α → Prop) : Prop := ∃ v, o = some v ∧ P v
section
variable {α β : Type}
theorem Tot.some {v : α} {P : α → Prop} (h : P v) : Tot (some v) P := ⟨v, rfl, h⟩
theorem Tot.bind {o : Option α} {f : α → Option β} {P : α → Prop} {Q : β → Prop} (h : Tot o P) (hf : ∀ v, P v → Tot (f v) Q) : Tot (Option.bind o f) Q := by
  obtain ⟨v, rfl, hv⟩ := h
  exact hf v hv
theorem Tot.bindE {o : Option α} {v : α} {f : α → Option β} {Q : β → Prop} (h : o = Option.some v) (hf : Tot (f v) Q) : Tot (Option.bind o f) Q := by
  rw [h]
  exact hf
theorem Tot.mono {o : Option α} {P Q : α → Prop} (h : Tot o P) (hf : ∀ v, P v → Q v) : Tot o Q := by
  obtain ⟨v, h1, hv⟩ := h
  exact ⟨v, h1, hf v hv⟩
theorem Tot.ite {c : Bool} {A B : Option α} {P : α → Prop} (h1 : c = true → Tot A P) (h2 : c = false → Tot B P) : Tot (if c = true then A else B) P := by
  cases c with
  | true => exact h1 rfl
  | false => exact h2 rfl
theorem Tot.j0 {rest : Option β} {body : Option β → Option β} {Q : β → Prop} (hr : Tot rest Q) (hb : ∀ k, Tot k Q → Tot (body k) Q) : Tot (jK0 rest body) Q := hb rest hr
theorem Tot.j1 {A : Type} {rest : A → Option β} {body : (A → Option β) → Option β} {Q : β → Prop} (P : A → Prop) (hr : ∀ a, P a → Tot (rest a) Q) (hb : ∀ k, (∀ a, P a → Tot (k a) Q) → Tot (body k) Q) : Tot (jK1 rest body) Q := hb rest hr
theorem Tot.of {o : Option Bool} (h : Tot o fun b => b = true) : o = Option.some true := by
  obtain ⟨v, h1, h2⟩ := h
  rw [h1, h2]
theorem Tot.loop {S R : Type} (f : Nat → S → Option R) (μ : S → Nat) (I : S → Prop) (Q : R → Prop) (step : ∀ m s, I s → (∀ s', I s' → μ s' < μ s → Tot (f m s') Q) → Tot (f (m + 1) s) Q) :
    ∀ m s, I s → μ s < m → Tot (f m s) Q := by
  intro m
  induction m with
  | zero => intro s _ h; omega
  | succ m ih => intro s hs h; exact step m s hs fun s' hs' hlt => ih s' hs' (by omega)
end
/-- Bytes, a place in them or behind, and so many steps before it leaves its range. -/
def Cu (c : List Int) (n a : Int) : Prop := (∀ b ∈ c, 0 ≤ b ∧ b ≤ 255) ∧ 0 ≤ a ∧ 0 ≤ n ∧ a + n ≤ 4000000000000000000
theorem Cu.mono {c : List Int} {n m a : Int} (h : Cu c n a) (h0 : 0 ≤ m) (hm : m ≤ n) : Cu c m a := ⟨h.1, h.2.1, h0, by have := h.2.2.2; omega⟩
/-- A value, and the place behind. -/
def Pk {α : Type} (c : List Int) (n : Int) (P : α → Prop) (v : α × List Int × Int × Int) : Prop := P v.1 ∧ v.2.1 = c ∧ Cu c n v.2.2.1
theorem Pk.imp {α : Type} {c : List Int} {n m : Int} {P Q : α → Prop} {v : α × List Int × Int × Int} (h : Pk c n P v) (hp : ∀ r, P r → Q r) (h0 : 0 ≤ m) (hm : m ≤ n) : Pk c m Q v := ⟨hp _ h.1, h.2.1, h.2.2.mono h0 hm⟩
abbrev Cur := List Int × Int × Int
theorem w64_byte {b : Int} (h : 0 ≤ b ∧ b ≤ 255) : w64 b = b := w64_eq (by omega) (by omega)
theorem and_byte (a : Int) : 0 ≤ w64 (andK .u64 a 255) ∧ w64 (andK .u64 a 255) ≤ 255 := by
  have h : andK .u64 a 255 = IntKind.wrap .u64 (((BitVec.ofInt 64 a &&& BitVec.ofInt 64 255).toNat : Nat) : Int) := rfl
  have h2 : (BitVec.ofInt 64 a &&& BitVec.ofInt 64 255).toNat ≤ 255 := by
    rw [BitVec.toNat_and]
    exact Nat.le_trans Nat.and_le_right (by decide)
  rw [h]
  generalize (BitVec.ofInt 64 a &&& BitVec.ofInt 64 255).toNat = v at *
  have e : IntKind.wrap .u64 (v : Int) = v := by
    unfold IntKind.wrap
    simp only [IntKind.bits, IntKind.signed]
    simp
    omega
  rw [e, w64_byte (by omega)]
  omega
theorem next_ok (x : Cur) {m : Int} (h : Cu x.1 m x.2.1) (hm : 1 ≤ m) : Tot (F_spec_l1Cur__next__mut__box x) (Pk x.1 (m - 1) fun r => 0 ≤ r ∧ r ≤ 255) := by
  obtain ⟨h1, h2, h3, h4⟩ := h
  unfold F_spec_l1Cur__next__mut__box jK1
  have e : w64 (x.2.1 + 1) = x.2.1 + 1 := w64_eq (by omega) (by omega)
  have cu : Cu x.1 (m - 1) (x.2.1 + 1) := ⟨h1, by omega, by omega, by omega⟩
  dsimp only
  rw [e]
  have fin : ∀ y : Int, (0 ≤ y ∧ y ≤ 255) → ∀ s1 s2 s3 : Int, Tot (if (decide (x.2.1 + 1 ≤ (List.length x.1 : Int))) = true then some (y, (x.1, x.2.1 + 1, s1)) else some ((w64 (andK .u64 s2 255)), (x.1, x.2.1 + 1, s3))) (Pk x.1 (m - 1) fun r => 0 ≤ r ∧ r ≤ 255) := by
    intro y hy s1 s2 s3
    refine Tot.ite (fun _ => Tot.some ⟨hy, rfl, cu⟩) fun _ => Tot.some ⟨and_byte _, rfl, cu⟩
  refine Tot.ite (fun hc => ?_) fun _ => fin 0 (by omega) _ _ _
  have hlt : x.2.1.toNat < x.1.length := by simp at hc; omega
  refine Tot.bindE (v := x.1[x.2.1.toNat]) (by rw [idx_int h2]; simp [hlt]) ?_
  have hb := h1 _ (List.getElem_mem hlt)
  exact fin _ (by rw [w64_byte hb]; exact hb) _ _ _
theorem pick_ok (x : Cur) (k : Int) {m : Int} (h : Cu x.1 m x.2.1) (hm : 2 ≤ m) : Tot (F_spec_l1Cur__pick__mut__box x k) (Pk x.1 (m - 2) fun r => 0 ≤ r ∧ (r < k ∨ r = 0)) := by
  unfold F_spec_l1Cur__pick__mut__box
  refine Tot.ite (fun _ => Tot.some ⟨⟨by simp, .inr rfl⟩, rfl, h.mono (by omega) (by omega)⟩) fun hk => ?_
  have hk' : 1 < k := by simpa using hk
  refine Tot.bind (next_ok x h (by omega)) fun u hu => ?_
  obtain ⟨hu1, hu2, hu3⟩ := hu
  have fin : ∀ (y a s : Int), 0 ≤ y → Cu x.1 (m - 2) a → Tot (if k = 0 then none else some ((Int.tmod y k), (x.1, a, s))) (Pk x.1 (m - 2) fun r => 0 ≤ r ∧ (r < k ∨ r = 0)) := by
    intro y a s hy ha
    rw [if_neg (by omega)]
    exact Tot.some ⟨⟨Int.tmod_nonneg _ hy, .inl (Int.tmod_lt_of_pos _ (by omega))⟩, rfl, ha⟩
  unfold jK3
  dsimp only
  refine Tot.ite (fun _ => ?_) fun _ => fin _ _ _ hu1.1 (hu3.mono (by omega) (by omega))
  refine Tot.bind (next_ok (x.1, u.2.2.1, u.2.2.2) hu3 (by omega)) fun v hv => ?_
  obtain ⟨hv1, hv2, hv3⟩ := hv
  refine fin _ _ _ ?_ (hv3.mono (by omega) (by omega))
  rw [w64_eq (x := u.1 * 256) (by omega) (by omega), w64_eq (by omega) (by omega)]
  omega
theorem one_ok (x : Cur) (k : Int) {m : Int} (h : Cu x.1 m x.2.1) (hm : 2 ≤ m) : Tot (F_spec_l1Cur__one__mut__box x k) (Pk x.1 (m - 2) fun _ => True) := by
  unfold F_spec_l1Cur__one__mut__box
  refine Tot.bind (pick_ok x k h hm) fun u hu => Tot.some ⟨trivial, rfl, hu.2.2⟩
theorem idx_pick {α : Type} (l : List α) {r : Int} (hl : l ≠ []) (h : 0 ≤ r ∧ (r < (l.length : Int) ∨ r = 0)) : ∃ v, idx l r = some v ∧ v ∈ l ∧ r.toNat < l.length := by
  have hpos : 0 < l.length := List.length_pos_iff.2 hl
  have hlt : r.toNat < l.length := by omega
  exact ⟨l[r.toNat], by rw [idx_int h.1]; simp [hlt], List.getElem_mem hlt, hlt⟩
theorem among_ok (x : Cur) (l : List Int) (P : Int → Prop) {m : Int} (h : Cu x.1 m x.2.1) (hm : 2 ≤ m) (hl : l ≠ []) (hp : ∀ v ∈ l, P v) : Tot (F_spec_l1Cur__among__mut__box x l) (Pk x.1 (m - 2) P) := by
  unfold F_spec_l1Cur__among__mut__box
  refine Tot.bind (pick_ok x _ h hm) fun u hu => ?_
  obtain ⟨v, hv, hmem, _⟩ := idx_pick l hl hu.1
  exact Tot.bindE hv (Tot.some ⟨hp v hmem, rfl, hu.2.2⟩)
theorem amongT (x : Cur) (l : List Int) {m : Int} (h : Cu x.1 m x.2.1) (hm : 2 ≤ m) (hl : l ≠ []) : Tot (F_spec_l1Cur__among__mut__box x l) (Pk x.1 (m - 2) fun _ => True) := among_ok x l _ h hm hl fun _ _ => trivial
end Go.Proofs.Ytmkignciedkidaa
/-
  SHOWS, PLAIN: what the program's and the reference's tests of spots, charts and shows answer.
-/
set_option linter.unusedSimpArgs false
set_option linter.unusedVariables false
namespace Go.Proofs.Ytmkignciedkidaa
open Go
def okIn (a lo hi : Int) : Bool := decide (lo ≤ a) && decide (a ≤ hi)
theorem spec_l1In (a lo hi : Int) : F_spec_l1In a lo hi = some (okIn a lo hi) := by
  unfold F_spec_l1In jK1 okIn
  by_cases h : lo ≤ a <;> simp [h]
theorem impl_within (a lo hi : Int) : F_impl_within a lo hi = some (okIn a lo hi) := by
  unfold F_impl_within jK1 okIn
  by_cases h : lo ≤ a <;> simp [h]
def okSpot (s : Int × Int) : Bool := okIn s.1 0 1280 && okIn s.2 0 672
theorem spec_stGood (s : Int × Int) : F_spec_stGood s = some (okSpot s) := by
  unfold F_spec_stGood jK1 okSpot
  dsimp only
  rw [spec_l1In, Option.bind_some, spec_l1In]
  cases okIn s.1 0 1280 <;> simp
theorem impl_IsSpot (s : Int × Int) : F_impl_IsSpot s = some (okSpot s) := by
  unfold F_impl_IsSpot jK1 okSpot
  dsimp only
  rw [impl_within, Option.bind_some, impl_within]
  cases okIn s.1 0 1280 <;> simp
theorem eqv_Spot_eq (x y : Int × Int) : eqv_Spot x y = decide (x = y) := by
  obtain ⟨a, b⟩ := x
  obtain ⟨c, d⟩ := y
  simp [eqv_Spot]
  by_cases h1 : a = c <;> by_cases h2 : b = d <;> simp [h1, h2]
/-- The spot at k is a spot and none of those before it. -/
def newAt (l : List (Int × Int)) (k : Nat) : Bool := match l[k]? with
  | some s => okSpot s && (l.take k).all (fun u => !decide (s = u))
  | none => true
theorem newAt_of {l : List (Int × Int)} {k : Nat} {s : Int × Int} (h : l[k]? = some s) : newAt l k = (okSpot s && (l.take k).all (fun u => !decide (s = u))) := by
  unfold newAt
  rw [h]
def okChart (l : List (Int × Int)) : Bool := okIn (l.length : Int) 1 12 && (List.range l.length).all (newAt l)
theorem spec_chGood (l : List (Int × Int)) (hl : l.length < 4611686018427387904) : F_spec_chGood l = some (okChart l) := by
  unfold F_spec_chGood
  rw [loopR (F_spec_chGood_L1 l) l.length (newAt l) (some (okIn (l.length : Int) 1 12)) (some false) hl (fun m k hk => ?_) (fun m => ?_)]
  · unfold okChart
    cases (List.range l.length).all (newAt l) <;> simp
  · obtain ⟨s, hs⟩ : ∃ s, l[k]? = some s := ⟨_, List.getElem?_eq_getElem hk⟩
    rw [F_spec_chGood_L1, if_pos (by simp; omega), idx_nat, hs, Option.bind_some, spec_stGood, Option.bind_some, newAt_of hs]
    cases okSpot s with
    | false => simp
    | true =>
      rw [if_neg (by simp), sl_take l (by omega), Option.bind_some, Bool.true_and]
      have hlen : (l.take k).length = k := by simp; omega
      rw [loopL (F_spec_chGood_L2 (l.take k) s (F_spec_chGood_L1 l m) (k : Int)) (l.take k) (fun u => !decide (s = u)) (F_spec_chGood_L1 l m ((k + 1 : Nat) : Int)) (some false) (by omega) (fun m' j x hj hx => ?_) (fun m' => ?_)]
      · rw [F_spec_chGood_L2, if_pos (by simp; omega), idx_nat, hx, Option.bind_some, eqv_Spot_eq, w64_succ (by omega)]
        by_cases hq : s = x <;> simp [hq]
      · rw [F_spec_chGood_L2, if_neg (by simp), w64_succ (by omega)]
  · rw [F_spec_chGood_L1, if_neg (by simp), spec_l1In]
    rfl
theorem contains_Spot (l : List (Int × Int)) (s : Int × Int) (hl : l.length < 4611686018427387904) : F_slices_Contains_impl_Spot_impl_Spot l s = some (!l.all (fun u => !decide (s = u))) := by
  unfold F_slices_Contains_impl_Spot_impl_Spot F_slices_Index_impl_Spot_impl_Spot
  have key : ∀ d k m, l.length - k = d → k ≤ l.length → l.length - k < m → ∃ i, F_slices_Index_impl_Spot_impl_Spot_L1 l s m (k : Int) = some i ∧ decide (0 ≤ i) = !(l.drop k).all (fun u => !decide (s = u)) := by
    intro d
    induction d with
    | zero =>
      intro k m hd hk hm
      cases m with
      | zero => omega
      | succ m =>
        rw [F_slices_Index_impl_Spot_impl_Spot_L1, if_neg (by simp; omega)]
        exact ⟨-1, rfl, by rw [List.drop_eq_nil_of_le (by omega)]; simp⟩
    | succ d ih =>
      intro k m hd hk hm
      cases m with
      | zero => omega
      | succ m =>
        have hk' : k < l.length := by omega
        rw [F_slices_Index_impl_Spot_impl_Spot_L1, if_pos (by simp; omega), idx_lt hk', Option.bind_some, eqv_Spot_eq, w64_succ (by omega), List.drop_eq_getElem_cons hk', List.all_cons]
        by_cases hq : s = l[k]
        · exact ⟨k, by simp [hq], by simp [hq]⟩
        · rw [if_neg (by simp [hq])]
          obtain ⟨i, h1, h2⟩ := ih (k + 1) m (by omega) (by omega) (by omega)
          exact ⟨i, h1, by simp [hq, h2]⟩
  obtain ⟨i, h1, h2⟩ := key _ 0 FU rfl (by omega) (FU_gt (by omega))
  rw [show ((0 : Nat) : Int) = 0 from rfl] at h1
  rw [h1, Option.bind_some, h2]
  simp
theorem impl_IsChart (l : List (Int × Int)) (hl : l.length < 4611686018427387904) : F_impl_IsChart l = some (okChart l) := by
  unfold F_impl_IsChart okChart
  rw [impl_within, Option.bind_some]
  cases hi : okIn (l.length : Int) 1 12 with
  | false => simp
  | true =>
    rw [if_neg (by simp), loopR (F_impl_IsChart_L1 l) l.length (newAt l) (some true) (some false) hl (fun m k hk => ?_) (fun m => ?_)]
    · cases (List.range l.length).all (newAt l) <;> simp
    · obtain ⟨s, hs⟩ : ∃ s, l[k]? = some s := ⟨_, List.getElem?_eq_getElem hk⟩
      rw [F_impl_IsChart_L1, if_pos (by simp; omega), idx_nat, hs, Option.bind_some]
      unfold jK1
      dsimp only
      rw [newAt_of hs, impl_IsSpot, Option.bind_some]
      rw [sl_take l (by omega), Option.bind_some, contains_Spot _ _ (by simp; omega), Option.bind_some, w64_succ (by omega)]
      cases okSpot s with
      | false => simp
      | true => simp only [Bool.not_true, Bool.false_eq_true, if_false, Bool.true_and]; cases (List.take k l).all (fun u => !decide (s = u)) <;> simp
    · rw [F_impl_IsChart_L1, if_neg (by simp)]
def okCounts (l : List Int) : Bool := l.all fun u => okIn u 1 64
theorem spec_l1All (l : List Int) (hl : l.length < 4611686018427387904) : F_spec_l1All l 1 64 = some (okCounts l) := by
  unfold F_spec_l1All
  rw [loopL (F_spec_l1All_L1 l 1 64) l (fun u => okIn u 1 64) (some true) (some false) hl (fun m k x hk hx => ?_) (fun m => ?_)]
  · unfold okCounts
    cases l.all (fun u => okIn u 1 64) <;> simp
  · rw [F_spec_l1All_L1, if_pos (by simp; omega), idx_nat, hx, Option.bind_some, spec_l1In, Option.bind_some, w64_succ (by omega)]
    cases okIn x 1 64 <;> simp
  · rw [F_spec_l1All_L1, if_neg (by simp)]
theorem spec_apDistance (x : Int) : F_spec_apDistance x = some (okIn x 0 80) := by
  unfold F_spec_apDistance
  rw [spec_l1In]; rfl
theorem spec_mvStep (x : Int) : F_spec_mvStep x = some (okIn x 1 24) := by
  unfold F_spec_mvStep
  rw [spec_l1In]; rfl
theorem impl_isLeast (x : Int) : F_impl_isLeast x = some (okIn x 0 80) := by
  unfold F_impl_isLeast
  rw [impl_within]; rfl
/-- All charts are charts, as long as the first. -/
def sameLong (cs : List (List (Int × Int))) : Bool := cs.all fun c => okChart c && (match cs[0]? with | some d => decide (c.length = d.length) | none => true)
abbrev ShowT := (List (List (Int × Int))) × (List Int) × Int × Int
def okShow (x : ShowT) : Bool := okIn (x.1.length : Int) 2 8 && decide (x.2.1.length + 1 = x.1.length) && sameLong x.1 && okCounts x.2.1 && okIn x.2.2.1 0 80 && okIn x.2.2.2 1 24
theorem spec_swGood (x : ShowT) (h1 : x.1.length < 4611686018427387904) (h2 : ∀ c ∈ x.1, c.length < 4611686018427387904) (h3 : x.2.1.length < 4611686018427387904) : F_spec_swGood x = some (okShow x) := by
  unfold F_spec_swGood
  rw [loopL (F_spec_swGood_L1 x) x.1 (fun c => okChart c && (match x.1[0]? with | some d => decide (c.length = d.length) | none => true)) (some (okIn (x.1.length : Int) 2 8 && decide (x.2.1.length + 1 = x.1.length) && okCounts x.2.1 && okIn x.2.2.1 0 80 && okIn x.2.2.2 1 24)) (some false) h1 (fun m k c hk hc => ?_) (fun m => ?_)]
  · unfold okShow sameLong
    cases x.1.all (fun c => okChart c && (match x.1[0]? with | some d => decide (c.length = d.length) | none => true)) <;> simp
  · rw [F_spec_swGood_L1, if_pos (by simp; omega), idx_nat, hc, Option.bind_some]
    unfold jK1
    dsimp only
    rw [spec_chGood c (h2 c (List.mem_of_getElem? hc)), Option.bind_some, idx_zero, w64_succ (by omega)]
    have h0 : 0 < x.1.length := by omega
    rw [List.getElem?_eq_getElem h0]
    cases okChart c with
    | false => simp
    | true =>
      simp only [Bool.not_true, Bool.false_eq_true, if_false, Bool.true_and, Option.bind_some]
      by_cases hq : c.length = x.1[0].length <;> simp [hq]
      omega
  · rw [F_spec_swGood_L1, if_neg (by simp)]
    unfold jK1
    dsimp only
    rw [spec_l1In, Option.bind_some, spec_l1All _ h3, Option.bind_some, spec_apDistance, Option.bind_some, spec_mvStep, Option.bind_some]
    cases hA : okIn (x.1.length : Int) 2 8 with
    | false => simp
    | true =>
      have h8 : 2 ≤ x.1.length ∧ x.1.length ≤ 8 := by
        simp [okIn] at hA
        omega
      rw [w64_eq (by omega) (by omega)]
      by_cases hq : x.2.1.length + 1 = x.1.length
      · have hq' : ((x.2.1.length : Int) == (x.1.length : Int) - 1) = true := by simp; omega
        simp only [hq', hq, if_true, Bool.true_and, decide_true]
        cases okCounts x.2.1 <;> cases okIn x.2.2.1 0 80 <;> simp
      · have hq' : ((x.2.1.length : Int) == (x.1.length : Int) - 1) = false := by simp; omega
        simp [hq', hq]
theorem impl_areCharts (cs : List (List (Int × Int))) (ns : List Int) (h1 : cs.length < 4611686018427387904) (h2 : ∀ c ∈ cs, c.length < 4611686018427387904) (h3 : ns.length < 4611686018427387904) :
    F_impl_areCharts cs ns = some (okIn (cs.length : Int) 1 9 && decide (ns.length + 1 = cs.length) && sameLong cs && okCounts ns) := by
  unfold F_impl_areCharts jK1
  dsimp only
  rw [impl_within, Option.bind_some]
  have hw : w64 ((cs.length : Int) - 1) = (cs.length : Int) - 1 := w64_eq (by omega) (by omega)
  rw [hw]
  cases hA : okIn (cs.length : Int) 1 9 with
  | false => simp
  | true =>
    by_cases hq : ns.length + 1 = cs.length
    · have hq' : ((ns.length : Int) != (cs.length : Int) - 1) = false := by simp; omega
      simp only [hq', hq, Bool.not_true, Bool.false_eq_true, if_false, decide_true, Bool.true_and]
      have hin : F_impl_areCharts_L2 ns FU 0 = some (okCounts ns) := by
        rw [loopL (F_impl_areCharts_L2 ns) ns (fun u => okIn u 1 64) (some true) (some false) h3 (fun m k x hk hx => ?_) (fun m => ?_)]
        · unfold okCounts
          cases ns.all (fun u => okIn u 1 64) <;> simp
        · rw [F_impl_areCharts_L2, if_pos (by simp; omega), idx_nat, hx, Option.bind_some, impl_within, Option.bind_some, w64_succ (by omega)]
          cases okIn x 1 64 <;> simp
        · rw [F_impl_areCharts_L2, if_neg (by simp)]
      rw [loopL (F_impl_areCharts_L1 cs ns) cs (fun c => okChart c && (match cs[0]? with | some d => decide (c.length = d.length) | none => true)) (some (okCounts ns)) (some false) h1 (fun m k c hk hc => ?_) (fun m => ?_)]
      · unfold sameLong
        cases cs.all (fun c => okChart c && (match cs[0]? with | some d => decide (c.length = d.length) | none => true)) <;> simp
      · rw [F_impl_areCharts_L1, if_pos (by simp; omega), idx_nat, hc, Option.bind_some]
        unfold jK1
        dsimp only
        rw [impl_IsChart c (h2 c (List.mem_of_getElem? hc)), Option.bind_some, idx_zero, w64_succ (by omega)]
        have h0 : 0 < cs.length := by omega
        rw [List.getElem?_eq_getElem h0]
        cases okChart c with
        | false => simp
        | true =>
          simp only [Bool.not_true, Bool.false_eq_true, if_false, Bool.true_and, Option.bind_some]
          by_cases hq : c.length = cs[0].length <;> simp [hq]
          omega
      · rw [F_impl_areCharts_L1, if_neg (by simp), hin]
    · have hq' : ((ns.length : Int) != (cs.length : Int) - 1) = true := by simp; omega
      simp [hq', hq]
theorem impl_IsShow (x : ShowT) (h1 : x.1.length < 4611686018427387904) (h2 : ∀ c ∈ x.1, c.length < 4611686018427387904) (h3 : x.2.1.length < 4611686018427387904) : F_impl_IsShow x = some (okShow x) := by
  unfold F_impl_IsShow jK1
  dsimp only
  rw [impl_within, Option.bind_some, impl_areCharts _ _ h1 h2 h3, Option.bind_some, impl_isLeast, Option.bind_some, impl_within, Option.bind_some]
  unfold okShow
  cases hA : okIn (x.1.length : Int) 2 8 with
  | false => simp
  | true =>
    have hB : okIn (x.1.length : Int) 1 9 = true := by
      simp [okIn] at hA ⊢
      omega
    rw [hB]
    simp only [if_true, Bool.true_and]
    cases decide (x.2.1.length + 1 = x.1.length) <;> cases sameLong x.1 <;> cases okCounts x.2.1 <;> cases okIn x.2.2.1 0 80 <;> simp
end Go.Proofs.Ytmkignciedkidaa
/-
  SHOWS COMPARED, PLAIN.
-/
set_option linter.unusedSimpArgs false
set_option linter.unusedVariables false
namespace Go.Proofs.Ytmkignciedkidaa
open Go
theorem okIn_iff {a lo hi : Int} : okIn a lo hi = true ↔ lo ≤ a ∧ a ≤ hi := by simp [okIn]
structure ShowFacts (x : ShowT) : Prop where
  n0 : 2 ≤ x.1.length
  n1 : x.1.length ≤ 8
  nc : x.2.1.length + 1 = x.1.length
  ch : ∀ c ∈ x.1, okChart c = true
  cl : ∀ c ∈ x.1, 1 ≤ c.length ∧ c.length ≤ 12
  ce : ∀ c ∈ x.1, ∀ d, x.1[0]? = some d → c.length = d.length
  cn : ∀ u ∈ x.2.1, 1 ≤ u ∧ u ≤ 64
  le : 0 ≤ x.2.2.1 ∧ x.2.2.1 ≤ 80
  st : 1 ≤ x.2.2.2 ∧ x.2.2.2 ≤ 24
theorem okChart_len {c : List (Int × Int)} (h : okChart c = true) : 1 ≤ c.length ∧ c.length ≤ 12 := by
  unfold okChart at h
  rw [Bool.and_eq_true, okIn_iff] at h
  omega
theorem facts {x : ShowT} (h : okShow x = true) : ShowFacts x := by
  unfold okShow sameLong okCounts at h
  simp only [Bool.and_eq_true, okIn_iff, decide_eq_true_eq, List.all_eq_true] at h
  obtain ⟨⟨⟨⟨⟨h1, h2⟩, h3⟩, h4⟩, h5⟩, h6⟩ := h
  refine ⟨by omega, by omega, h2, fun c hc => (h3 c hc).1, fun c hc => okChart_len (h3 c hc).1, fun c hc d hd => ?_, h4, h5, h6⟩
  have := (h3 c hc).2
  rw [hd] at this
  simpa using this
theorem spec_mgSame (a b : List (Int × Int)) (h : a.length = b.length) (hn : a.length < 4611686018427387904) : F_spec_mgSame a b = some (decide (a = b)) := by
  unfold F_spec_mgSame
  rw [loopSame (F_spec_mgSame_L1 a b) a b (some true) (some false) hn h (fun j k x y hx hy => ?_) (fun j => ?_)]
  · by_cases hq : a = b <;> simp [hq]
  · have := (List.getElem?_eq_some_iff.1 hx).1
    rw [F_spec_mgSame_L1, if_pos (by simp; omega), idx_nat, hx, Option.bind_some, idx_nat, hy, Option.bind_some, eqv_Spot_eq, w64_succ (by omega)]
    by_cases hq : x = y <;> simp [hq]
  · rw [F_spec_mgSame_L1, if_neg (by simp)]
theorem eq_Spots (a b : List (Int × Int)) (hn : a.length < 4611686018427387904) : F_slices_Equal_impl_Spot_impl_Spot a b = some (decide (a = b)) := by
  unfold F_slices_Equal_impl_Spot_impl_Spot
  by_cases h : a.length = b.length
  · rw [if_neg (by simp; omega), loopSame (F_slices_Equal_impl_Spot_impl_Spot_L1 a b) a b (some true) (some false) hn h (fun j k x y hx hy => ?_) (fun j => ?_)]
    · by_cases hq : a = b <;> simp [hq]
    · have := (List.getElem?_eq_some_iff.1 hx).1
      rw [F_slices_Equal_impl_Spot_impl_Spot_L1, if_pos (by simp; omega), idx_nat, hx, Option.bind_some, idx_nat, hy, Option.bind_some, eqv_Spot_eq, w64_succ (by omega)]
      by_cases hq : x = y <;> simp [hq]
    · rw [F_slices_Equal_impl_Spot_impl_Spot_L1, if_neg (by simp)]
  · have : a ≠ b := fun e => h (by rw [e])
    rw [if_pos (by simp; omega)]
    simp [this]
theorem eq_Ints (a b : List Int) (hn : a.length < 4611686018427387904) : F_slices_Equal_int_int a b = some (decide (a = b)) := by
  unfold F_slices_Equal_int_int
  by_cases h : a.length = b.length
  · rw [if_neg (by simp; omega), loopSame (F_slices_Equal_int_int_L1 a b) a b (some true) (some false) hn h (fun j k x y hx hy => ?_) (fun j => ?_)]
    · by_cases hq : a = b <;> simp [hq]
    · have := (List.getElem?_eq_some_iff.1 hx).1
      rw [F_slices_Equal_int_int_L1, if_pos (by simp; omega), idx_nat, hx, Option.bind_some, idx_nat, hy, Option.bind_some, w64_succ (by omega)]
      by_cases hq : x = y <;> simp [hq]
    · rw [F_slices_Equal_int_int_L1, if_neg (by simp)]
  · have : a ≠ b := fun e => h (by rw [e])
    rw [if_pos (by simp; omega)]
    simp [this]
theorem spec_l1Same (a b : List Int) (hn : a.length < 4611686018427387904) : F_spec_l1Same a b = some (decide (a = b)) := by
  unfold F_spec_l1Same
  by_cases h : a.length = b.length
  · rw [if_neg (by simp; omega), loopSame (F_spec_l1Same_L1 a b) a b (some true) (some false) hn h (fun j k x y hx hy => ?_) (fun j => ?_)]
    · by_cases hq : a = b <;> simp [hq]
    · have := (List.getElem?_eq_some_iff.1 hx).1
      rw [F_spec_l1Same_L1, if_pos (by simp; omega), idx_nat, hx, Option.bind_some, idx_nat, hy, Option.bind_some, w64_succ (by omega)]
      by_cases hq : x = y <;> simp [hq]
    · rw [F_spec_l1Same_L1, if_neg (by simp)]
  · have : a ≠ b := fun e => h (by rw [e])
    rw [if_pos (by simp; omega)]
    simp [this]
/-- The numbers below n that p takes. -/
def filt (p : Nat → Bool) (n : Nat) : List Int := ((List.range n).filter p).map fun (k : Nat) => (k : Int)
theorem filt_succ (p : Nat → Bool) (n : Nat) : filt p (n + 1) = if p n then filt p n ++ [(n : Int)] else filt p n := by
  unfold filt
  rw [List.range_succ, List.filter_append, List.map_append]
  cases h : p n <;> simp [h]
theorem filt_len (p : Nat → Bool) (n : Nat) : (filt p n).length ≤ n := by
  unfold filt
  rw [List.length_map]
  exact Nat.le_trans (List.length_filter_le _ _) (by simp)
theorem loopFilter {R : Type} (f : Nat → List Int → Int → Option R) (n : Nat) (p : Nat → Bool) (rest : List Int → Option R) (hn : n < 4611686018427387904)
    (hs : ∀ m s k, k < n → s.length ≤ k → f (m + 1) s (k : Int) = f m (if p k then s ++ [(k : Int)] else s) ((k + 1 : Nat) : Int)) (he : ∀ m s, f (m + 1) s (n : Int) = rest s) : f FU [] 0 = rest (filt p n) := by
  have h := loopS f n (fun k s => if p k then s ++ [(k : Int)] else s) rest hn (fun k s => s = filt p k) [] (by simp [filt]) (fun k s hk hi => by rw [filt_succ, hi]) (fun m k s hk hi => hs m s k hk (by rw [hi]; exact filt_len p k)) (fun m s hi => he m s)
  rw [h.1, h.2]
theorem app_ok {α : Type} {l m : List α} (h : l.length + m.length ≤ 1073741824) : app l m = some (l ++ m) := by
  unfold app
  rw [if_pos h]
def diffAt (x y : ShowT) (k : Nat) : Bool := !decide (x.1[k]? = y.1[k]?)
theorem chart_len {x : ShowT} (f : ShowFacts x) {k : Nat} {c d : List (Int × Int)} (hc : x.1[k]? = some c) (hd : x.1[0]? = some d) : c.length = d.length := f.ce c (List.mem_of_getElem? hc) d hd
theorem spec_cpDifferent (x y : ShowT) (fx : ShowFacts x) (fy : ShowFacts y) (h : x.1.length = y.1.length) (h0 : ∀ c d, x.1[0]? = some c → y.1[0]? = some d → c.length = d.length) :
    F_spec_cpDifferent x y = some (filt (diffAt x y) x.1.length) := by
  have hb := fx.n1
  unfold F_spec_cpDifferent
  rw [loopFilter (F_spec_cpDifferent_L1 x y) x.1.length (diffAt x y) some (by omega) (fun m s k hk hs => ?_) (fun m s => ?_)]
  · obtain ⟨c, hc⟩ : ∃ c, x.1[k]? = some c := ⟨_, List.getElem?_eq_getElem hk⟩
    obtain ⟨d, hd⟩ : ∃ d, y.1[k]? = some d := ⟨_, List.getElem?_eq_getElem (by omega)⟩
    obtain ⟨c0, hc0⟩ : ∃ c, x.1[0]? = some c := ⟨_, List.getElem?_eq_getElem (by omega)⟩
    obtain ⟨d0, hd0⟩ : ∃ d, y.1[0]? = some d := ⟨_, List.getElem?_eq_getElem (by omega)⟩
    have hl : c.length = d.length := by rw [chart_len fx hc hc0, chart_len fy hd hd0, h0 _ _ hc0 hd0]
    have hc12 := (fx.cl c (List.mem_of_getElem? hc)).2
    have e : diffAt x y k = !decide (c = d) := by unfold diffAt; rw [hc, hd]; simp
    rw [F_spec_cpDifferent_L1, if_pos (by simp; omega), e]
    unfold jK1
    dsimp only
    rw [idx_nat, hc, Option.bind_some, idx_nat, hd, Option.bind_some, spec_mgSame c d hl (by omega), Option.bind_some, app_ok (by simp; omega), w64_succ (by omega)]
    by_cases hq : c = d <;> simp [hq]
  · rw [F_spec_cpDifferent_L1, if_neg (by simp)]
theorem filt_nil {p : Nat → Bool} {n : Nat} : filt p n = [] ↔ ∀ k, k < n → p k = false := by
  unfold filt
  rw [List.map_eq_nil_iff, List.filter_eq_nil_iff]
  constructor
  · intro h k hk
    simpa using h k (List.mem_range.2 hk)
  · intro h k hk
    simp [h k (List.mem_range.1 hk)]
theorem diff_nil {x y : ShowT} (h : x.1.length = y.1.length) : filt (diffAt x y) x.1.length = [] ↔ x.1 = y.1 := by
  rw [filt_nil]
  constructor
  · intro hk
    apply List.ext_getElem?
    intro i
    by_cases hi : i < x.1.length
    · simpa [diffAt] using hk i hi
    · rw [List.getElem?_eq_none (by omega), List.getElem?_eq_none (by omega)]
  · intro e k _
    simp [diffAt, e]
def lensOk (x : ShowT) : Prop := x.1.length < 4611686018427387904 ∧ (∀ c ∈ x.1, c.length < 4611686018427387904) ∧ x.2.1.length < 4611686018427387904
theorem show_ext {x y : ShowT} (h1 : x.1 = y.1) (h2 : x.2.1 = y.2.1) (h3 : x.2.2.1 = y.2.2.1) (h4 : x.2.2.2 = y.2.2.2) : x = y := by
  obtain ⟨a, b, c, d⟩ := x
  obtain ⟨a', b', c', d'⟩ := y
  simp_all
theorem spec_SameShows (x y : ShowT) (hx : lensOk x) (hy : lensOk y) : F_spec_SameShows x y = some (if okShow x && okShow y then (decide (x = y), true) else (false, false)) := by
  unfold F_spec_SameShows jK1
  dsimp only
  rw [spec_swGood x hx.1 hx.2.1 hx.2.2, Option.bind_some, spec_swGood y hy.1 hy.2.1 hy.2.2, Option.bind_some]
  cases h1 : okShow x with
  | false => simp
  | true =>
    cases h2 : okShow y with
    | false => simp
    | true =>
      have fx := facts h1
      have fy := facts h2
      have nx := fx.n0
      have ny := fy.n0
      obtain ⟨c0, hc0⟩ : ∃ c, x.1[0]? = some c := ⟨_, List.getElem?_eq_getElem (by omega)⟩
      obtain ⟨d0, hd0⟩ : ∃ d, y.1[0]? = some d := ⟨_, List.getElem?_eq_getElem (by omega)⟩
      simp only [Bool.not_true, Bool.false_eq_true, if_false, Bool.and_self, if_true]
      rw [idx_zero, hc0, Option.bind_some, idx_zero, hd0, Option.bind_some]
      by_cases hl : x.1.length = y.1.length
      · rw [if_neg (by simp; omega)]
        by_cases h0 : c0.length = d0.length
        · rw [if_neg (by simp; omega), spec_cpDifferent x y fx fy hl (fun c d hc hd => by rw [hc0] at hc; rw [hd0] at hd; cases hc; cases hd; exact h0), Option.bind_some, spec_l1Same _ _ hx.2.2, Option.bind_some]
          by_cases e1 : x.1 = y.1
          · have en := (diff_nil hl).2 e1
            rw [en, if_pos (by simp)]
            by_cases e2 : x.2.1 = y.2.1
            · by_cases e3 : x.2.2.1 = y.2.2.1
              · by_cases e4 : x.2.2.2 = y.2.2.2
                · have := show_ext e1 e2 e3 e4
                  simp [this]
                · have : x ≠ y := fun e => e4 (by rw [e])
                  simp [e2, e3, e4, this]
              · have : x ≠ y := fun e => e3 (by rw [e])
                simp [e2, e3, this]
            · have : x ≠ y := fun e => e2 (by rw [e])
              simp [e2, this]
          · have en : filt (diffAt x y) x.1.length ≠ [] := fun e => e1 ((diff_nil hl).1 e)
            have : x ≠ y := fun e => e1 (by rw [e])
            rw [if_neg (by simp; exact en)]
            simp [this]
        · have : x ≠ y := fun e => by subst e; rw [hc0] at hd0; cases hd0; exact h0 rfl
          rw [if_pos (by simp; omega)]
          simp [this]
      · have : x ≠ y := fun e => hl (by rw [e])
        rw [if_pos (by simp; omega)]
        simp [this]
theorem impl_SameShows (x y : ShowT) (hx : lensOk x) (hy : lensOk y) : F_impl_SameShows x y = some (if okShow x && okShow y then (decide (x = y), true) else (false, false)) := by
  unfold F_impl_SameShows jK1
  dsimp only
  rw [impl_IsShow x hx.1 hx.2.1 hx.2.2, Option.bind_some, impl_IsShow y hy.1 hy.2.1 hy.2.2, Option.bind_some]
  cases h1 : okShow x with
  | false => simp
  | true =>
    cases h2 : okShow y with
    | false => simp
    | true =>
      simp only [Bool.not_true, Bool.false_eq_true, if_false, Bool.and_self, if_true]
      rw [eq_Ints _ _ hx.2.2, Option.bind_some]
      by_cases hl : x.1.length = y.1.length
      · rw [if_neg (by simp; omega)]
        by_cases e2 : x.2.1 = y.2.1
        · by_cases e3 : x.2.2.1 = y.2.2.1
          · by_cases e4 : x.2.2.2 = y.2.2.2
            · rw [loopSame (F_impl_SameShows_L1 x y) x.1 y.1 (some (true, true)) (some (false, true)) hx.1 hl (fun j k a b ha hb => ?_) (fun j => ?_)]
              · by_cases e1 : x.1 = y.1
                · have := show_ext e1 e2 e3 e4
                  simp [this]
                · have : x ≠ y := fun e => e1 (by rw [e])
                  simp [e1, e2, e3, e4, this]
              · have := (List.getElem?_eq_some_iff.1 ha).1
                have := hx.1
                rw [F_impl_SameShows_L1, if_pos (by simp; omega), idx_nat, ha, Option.bind_some, idx_nat, hb, Option.bind_some, eq_Spots a b (hx.2.1 a (List.mem_of_getElem? ha)), Option.bind_some, w64_succ (by omega)]
                by_cases hq : a = b <;> simp [hq]
              · rw [F_impl_SameShows_L1, if_neg (by simp)]
            · have : x ≠ y := fun e => e4 (by rw [e])
              simp [e2, e3, e4, this]
          · have : x ≠ y := fun e => e3 (by rw [e])
            simp [e2, e3, this]
        · have : x ≠ y := fun e => e2 (by rw [e])
          simp [e2, this]
      · have : x ≠ y := fun e => hl (by rw [e])
        rw [if_pos (by simp; omega)]
        simp [this]
end Go.Proofs.Ytmkignciedkidaa
/-
  CUES, PLAIN: what the tests of music and cues answer; times.
-/
set_option linter.unusedSimpArgs false
set_option linter.unusedVariables false
namespace Go.Proofs.Ytmkignciedkidaa
open Go
abbrev MusicT := List (Int × Int)
abbrev CueT := Int × (List UInt8)
/-! names -/
/-! cues -/
/-- What the walks' loops need of the lengths. -/
structure CueLens (x : MusicT) (l : List CueT) : Prop where
  hx : x.length < 4611686018427387904
  hl : l.length < 1073741824
  hn : ∀ c ∈ l, c.2.length < 4611686018427387904
theorem CueLens.hl' {x : MusicT} {l : List CueT} (h : CueLens x l) : l.length < 4611686018427387904 := by have := h.hl; omega
/-! times -/
end Go.Proofs.Ytmkignciedkidaa
/-
  CUES SHIFTED AND ADDED, PLAIN.
-/
set_option linter.unusedSimpArgs false
set_option linter.unusedVariables false
namespace Go.Proofs.Ytmkignciedkidaa
open Go
/-- A loop that looks for the first place where q does not hold. -/
theorem loopFind {α R : Type} (f : Nat → Int → Option R) (l : List α) (q : α → Bool) (rest : Nat → Option R) (hn : l.length < 4611686018427387904)
    (hs : ∀ m k x, k < l.length → l[k]? = some x → q x = true → f (m + 1) (k : Int) = f m ((k + 1 : Nat) : Int))
    (he : ∀ m k x, k < l.length → l[k]? = some x → q x = false → f (m + 1) (k : Int) = rest k) (hz : ∀ m, f (m + 1) (l.length : Int) = rest l.length) :
    f FU 0 = rest (l.takeWhile q).length := by
  have key : ∀ d k m, l.length - k = d → k ≤ l.length → l.length - k < m → f m (k : Int) = rest (k + ((l.drop k).takeWhile q).length) := by
    intro d
    induction d with
    | zero =>
      intro k m hd hk hm
      have : k = l.length := by omega
      subst this
      cases m with
      | zero => omega
      | succ m => rw [hz]; simp
    | succ d ih =>
      intro k m hd hk hm
      cases m with
      | zero => omega
      | succ m =>
        have hk' : k < l.length := by omega
        have hx : l[k]? = some l[k] := by simp [hk']
        rw [List.drop_eq_getElem_cons hk']
        cases hq : q l[k] with
        | true =>
          rw [hs m k _ hk' hx hq, ih (k + 1) m (by omega) (by omega) (by omega), List.takeWhile_cons_of_pos hq]
          congr 1
          simp
          omega
        | false =>
          rw [he m k _ hk' hx hq, List.takeWhile_cons_of_neg (by simp [hq])]
          simp
  have := key _ 0 FU rfl (by omega) (FU_gt (by omega))
  simpa using this
def addAt (l : List CueT) (c : CueT) : Nat := (l.takeWhile fun d => decide (d.1 < c.1)).length
def added (l : List CueT) (c : CueT) : List CueT := l.take (addAt l c) ++ [c] ++ l.drop (addAt l c)
/-! what comes back is small -/
end Go.Proofs.Ytmkignciedkidaa
/-
  THE MOVES OF A PART, PLAIN.
-/
set_option linter.unusedSimpArgs false
set_option linter.unusedVariables false
namespace Go.Proofs.Ytmkignciedkidaa
open Go
/-- A loop that puts one thing after another for the numbers below n. -/
theorem loopMap {β R : Type} (f : Nat → List β → Int → Option R) (n : Nat) (g : Nat → β) (rest : List β → Option R) (hn : n < 4611686018427387904)
    (hs : ∀ m s k, k < n → s.length = k → f (m + 1) s (k : Int) = f m (s ++ [g k]) ((k + 1 : Nat) : Int)) (he : ∀ m s, f (m + 1) s (n : Int) = rest s) : f FU [] 0 = rest ((List.range n).map g) := by
  have h := loopS f n (fun k s => s ++ [g k]) rest hn (fun k s => s = (List.range k).map g) [] (by simp) (fun k s hk hi => by rw [List.range_succ, List.map_append, hi]; simp) (fun m k s hk hi => hs m s k hk (by rw [hi]; simp)) (fun m s hi => he m s)
  rw [h.1, h.2]
theorem range_map_get {α β : Type} (l : List α) (g : Nat → β) (h : α → β) (hg : ∀ k x, l[k]? = some x → g k = h x) : (List.range l.length).map g = l.map h := by
  apply List.ext_getElem?
  intro i
  by_cases hi : i < l.length
  · have e : l[i]? = some l[i] := List.getElem?_eq_getElem hi
    simp [hi, hg i _ e]
  · rw [List.getElem?_eq_none (by simp; omega), List.getElem?_eq_none (by simp; omega)]
abbrev MoveT := (Int × Int) × (Int × Int) × Int
def chartAt (x : ShowT) (p : Nat) : List (Int × Int) := (x.1[p]?).getD []
def countsAt (x : ShowT) (p : Nat) : Int := (x.2.1[p]?).getD 0
def movesOf (x : ShowT) (p : Nat) : List MoveT := (List.range (chartAt x p).length).map fun i => (((chartAt x p)[i]?).getD (0, 0), ((chartAt x (p + 1))[i]?).getD (0, 0), countsAt x p)
theorem chartAt_of {x : ShowT} {p : Nat} {c : List (Int × Int)} (h : x.1[p]? = some c) : chartAt x p = c := by unfold chartAt; rw [h]; rfl
theorem part_facts {x : ShowT} (f : ShowFacts x) {p : Nat} (hp : p < x.2.1.length) : ∃ a b n, x.1[p]? = some a ∧ x.1[p + 1]? = some b ∧ x.2.1[p]? = some n ∧ a.length = b.length ∧ 1 ≤ a.length ∧ a.length ≤ 12 ∧ 1 ≤ n ∧ n ≤ 64 := by
  have h1 := f.nc
  have h2 := f.n0
  obtain ⟨a, ha⟩ : ∃ c, x.1[p]? = some c := ⟨_, List.getElem?_eq_getElem (by omega)⟩
  obtain ⟨b, hb⟩ : ∃ c, x.1[p + 1]? = some c := ⟨_, List.getElem?_eq_getElem (by omega)⟩
  obtain ⟨n, hn⟩ : ∃ c, x.2.1[p]? = some c := ⟨_, List.getElem?_eq_getElem (by omega)⟩
  obtain ⟨c, hc⟩ : ∃ c, x.1[0]? = some c := ⟨_, List.getElem?_eq_getElem (by omega)⟩
  have l := f.cl a (List.mem_of_getElem? ha)
  have m := f.cn n (List.mem_of_getElem? hn)
  exact ⟨a, b, n, ha, hb, hn, by rw [chart_len f ha hc, chart_len f hb hc], l.1, l.2, m.1, m.2⟩
theorem moves_loop (F : Nat → List MoveT → Int → Option (List MoveT)) (x : ShowT) (f : ShowFacts x) (p : Nat) (hp : p < x.2.1.length) (a : List (Int × Int)) (ha : x.1[p]? = some a)
    (hs : ∀ m s y, F (m + 1) s y = if (decide (y < (List.length a : Int))) = true then Option.bind (idx a y) fun u => Option.bind (idx x.1 (w64 ((p : Int) + 1))) fun b => Option.bind (idx b y) fun v => Option.bind (idx x.2.1 (p : Int)) fun c =>
      Option.bind (app s [(u, v, c)]) fun z => F m z (w64 (y + 1)) else some s) : F FU [] 0 = some (movesOf x p) := by
  obtain ⟨a', b, n, h1, h2, h3, h4, h5, h6, h7, h8⟩ := part_facts f hp
  rw [ha] at h1
  cases h1
  have hp8 := f.n1
  have hpc := f.nc
  rw [loopMap F a.length (fun i => (((chartAt x p)[i]?).getD (0, 0), ((chartAt x (p + 1))[i]?).getD (0, 0), countsAt x p)) some (by omega) (fun m s k hk hsl => ?_) (fun m s => ?_)]
  · unfold movesOf
    rw [chartAt_of ha]
  · obtain ⟨u, hu⟩ : ∃ u, a[k]? = some u := ⟨_, List.getElem?_eq_getElem hk⟩
    obtain ⟨v, hv⟩ : ∃ v, b[k]? = some v := ⟨_, List.getElem?_eq_getElem (by omega)⟩
    have e : w64 ((p : Int) + 1) = ((p + 1 : Nat) : Int) := w64_succ (by omega)
    rw [hs, if_pos (by simp; omega), idx_nat, hu, Option.bind_some, e, idx_nat, h2, Option.bind_some, idx_nat, hv, Option.bind_some, idx_nat, h3, Option.bind_some, app_ok (by simp; omega), Option.bind_some, w64_succ (by omega)]
    rw [chartAt_of ha, chartAt_of h2, hu, hv]
    unfold countsAt
    rw [h3]
    rfl
  · rw [hs, if_neg (by simp)]
theorem spec_swMoves (x : ShowT) (f : ShowFacts x) (p : Nat) (hp : p < x.2.1.length) : F_spec_swMoves x (p : Int) = some (movesOf x p) := by
  obtain ⟨a, b, n, h1, _⟩ := part_facts f hp
  unfold F_spec_swMoves
  rw [idx_nat, h1, Option.bind_some]
  exact moves_loop (F_spec_swMoves_L1 a x (p : Int)) x f p hp a h1 fun m s y => rfl
theorem impl_showMoves (x : ShowT) (f : ShowFacts x) (p : Nat) (hp : p < x.2.1.length) : F_impl_showMoves x (p : Int) = some (movesOf x p) := by
  obtain ⟨a, b, n, h1, _⟩ := part_facts f hp
  unfold F_impl_showMoves
  rw [idx_nat, h1, Option.bind_some]
  exact moves_loop (F_impl_showMoves_L1 a x (p : Int)) x f p hp a h1 fun m s y => rfl
theorem moves_len (x : ShowT) (f : ShowFacts x) (p : Nat) (hp : p < x.2.1.length) : (movesOf x p).length ≤ 12 := by
  obtain ⟨a, b, n, h1, _, _, _, _, h6, _⟩ := part_facts f hp
  unfold movesOf
  rw [chartAt_of h1]
  simpa using h6
def sqOf (a b : Int × Int) : Int := w64 ((w64 ((w64 (a.1 - b.1)) * (w64 (a.1 - b.1)))) + (w64 ((w64 (a.2 - b.2)) * (w64 (a.2 - b.2)))))
theorem spec_stSquare (a b : Int × Int) : F_spec_stSquare a b = some (sqOf a b) := rfl
theorem impl_squareOf (a b : Int × Int) : F_impl_squareOf a b = some (sqOf a b) := rfl
def sqM (m : MoveT) : Int := sqOf m.1 m.2.1
theorem spec_cpSquares (x : ShowT) (f : ShowFacts x) (p : Nat) (hp : p < x.2.1.length) : F_spec_cpSquares x (p : Int) = some ((movesOf x p).map sqM) := by
  have hl := moves_len x f p hp
  unfold F_spec_cpSquares
  rw [spec_swMoves x f p hp, Option.bind_some, loopMap (F_spec_cpSquares_L1 (movesOf x p)) (movesOf x p).length (fun k => match (movesOf x p)[k]? with | some u => sqM u | none => 0) some (by omega) (fun m s k hk hsl => ?_) (fun m s => ?_)]
  · rw [range_map_get _ _ sqM (fun k u hu => by rw [hu])]
  · obtain ⟨u, hu⟩ : ∃ u, (movesOf x p)[k]? = some u := ⟨_, List.getElem?_eq_getElem hk⟩
    rw [F_spec_cpSquares_L1, if_pos (by simp; omega), idx_nat, hu, Option.bind_some, spec_stSquare, Option.bind_some, app_ok (by simp; omega), Option.bind_some, w64_succ (by omega)]
    rfl
  · rw [F_spec_cpSquares_L1, if_neg (by simp)]
theorem spec_cpSum (l : List Int) (h : l.length < 4611686018427387904) : F_spec_cpSum l = some (l.foldl (fun a u => w64 (a + u)) 0) := by
  unfold F_spec_cpSum
  rw [loopFold (F_spec_cpSum_L1 l) l (fun a u => w64 (a + u)) some h (fun m s k u hk hu => ?_) (fun m s => ?_)]
  · rw [F_spec_cpSum_L1, if_pos (by simp; omega), idx_nat, hu, Option.bind_some, w64_succ (by omega)]
  · rw [F_spec_cpSum_L1, if_neg (by simp)]
end Go.Proofs.Ytmkignciedkidaa
/-
  THE LEAST STEP OF A SHOW, PLAIN.
-/
set_option linter.unusedSimpArgs false
set_option linter.unusedVariables false
namespace Go.Proofs.Ytmkignciedkidaa
open Go
theorem moves_count {x : ShowT} (f : ShowFacts x) {p : Nat} (hp : p < x.2.1.length) {u : MoveT} (hu : u ∈ movesOf x p) : 1 ≤ u.2.2 ∧ u.2.2 ≤ 64 := by
  obtain ⟨a, b, n, h1, h2, h3, h4, h5, h6, h7, h8⟩ := part_facts f hp
  unfold movesOf at hu
  rw [List.mem_map] at hu
  obtain ⟨i, _, rfl⟩ := hu
  unfold countsAt
  rw [h3]
  exact ⟨h7, h8⟩
end Go.Proofs.Ytmkignciedkidaa
/-
  PARTS OF A SHOW, PLAIN: moves, wide steps.
-/
set_option linter.unusedSimpArgs false
set_option linter.unusedVariables false
namespace Go.Proofs.Ytmkignciedkidaa
open Go
def okPart (x : ShowT) (p : Int) : Bool := okShow x && okIn p 0 ((x.2.1.length : Int) - 1)
theorem impl_isPart (x : ShowT) (p : Int) (h : lensOk x) : F_impl_isPart x p = some (okPart x p) := by
  unfold F_impl_isPart jK1 okPart
  have := h.2.2
  dsimp only
  rw [impl_IsShow x h.1 h.2.1 h.2.2, Option.bind_some, w64_eq (by omega) (by omega), impl_within, Option.bind_some]
  cases okShow x <;> simp
theorem part_of {x : ShowT} {p : Int} (h : okPart x p = true) : ShowFacts x ∧ p = ((p.toNat : Nat) : Int) ∧ p.toNat < x.2.1.length := by
  unfold okPart at h
  rw [Bool.and_eq_true, okIn_iff] at h
  exact ⟨facts h.1, by omega, by omega⟩
def movesAns (x : ShowT) (p : Int) : List MoveT × Bool := if okPart x p then (movesOf x p.toNat, true) else ([], false)
theorem impl_ShowMoves (x : ShowT) (p : Int) (h : lensOk x) : F_impl_ShowMoves x p = some (movesAns x p) := by
  unfold F_impl_ShowMoves movesAns
  rw [impl_isPart x p h, Option.bind_some]
  cases hp : okPart x p with
  | false => simp
  | true =>
    obtain ⟨f, e, hlt⟩ := part_of hp
    simp only [Bool.not_true, Bool.false_eq_true, if_false, if_true]
    rw [e, Int.toNat_natCast, impl_showMoves x f _ hlt]
    rfl
end Go.Proofs.Ytmkignciedkidaa
/-
  COPIES OF SHOWS, PLAIN; charts added, counts stretched.
-/
set_option linter.unusedSimpArgs false
set_option linter.unusedVariables false
namespace Go.Proofs.Ytmkignciedkidaa
open Go
theorem spec_chOwn (c : List (Int × Int)) (h : c.length ≤ 1048576) : F_spec_chOwn c = some c := by
  unfold F_spec_chOwn
  rw [app_ok (by simp; omega)]
  rfl
theorem spec_l1Own (c : List Int) (h : c.length ≤ 1048576) : F_spec_l1Own c = some c := by
  unfold F_spec_l1Own
  rw [app_ok (by simp; omega)]
  rfl
def stretched (x : ShowT) (p n : Int) : ShowT := (x.1, seti x.2.1 p n, x.2.2.1, x.2.2.2)
end Go.Proofs.Ytmkignciedkidaa
/-
  DRAWN SHOWS, PLAIN: they are there and short.
-/
set_option linter.unusedSimpArgs false
set_option linter.unusedVariables false
namespace Go.Proofs.Ytmkignciedkidaa
open Go
theorem app_tot' {α β : Type} {l m : List α} {f : List α → Option β} {Q : β → Prop} (h : l.length + m.length ≤ 1073741824) (hf : Tot (f (l ++ m)) Q) : Tot (Option.bind (app l m) f) Q := Tot.bindE (app_ok h) hf
theorem seti_len' {α : Type} (l : List α) (i : Int) (x : α) : (seti l i x).length = l.length := by unfold seti; simp
theorem spot_draw (x : Cur) {m : Int} (h : Cu x.1 m x.2.1) (hm : 12 ≤ m) : Tot (F_spec_l1Cur__spot__mut__box x) (Pk x.1 (m - 12) fun _ => True) := by
  unfold F_spec_l1Cur__spot__mut__box
  refine Tot.bind (pick_ok x _ h (by omega)) fun u1 h1 => ?_
  refine Tot.bind (pick_ok (x.1, u1.2.2.1, u1.2.2.2) _ h1.2.2 (by omega)) fun u2 h2 => ?_
  refine Tot.bind (amongT (x.1, u2.2.2.1, u2.2.2.2) _ h2.2.2 (by show 2 ≤ m - 2 - 2; omega) (by simp)) fun u3 h3 => ?_
  refine Tot.bind (pick_ok (x.1, u3.2.2.1, u3.2.2.2) _ h3.2.2 (by show 2 ≤ m - 2 - 2 - 2; omega)) fun u4 h4 => ?_
  refine Tot.bind (pick_ok (x.1, u4.2.2.1, u4.2.2.2) _ h4.2.2 (by show 2 ≤ m - 2 - 2 - 2 - 2; omega)) fun u5 h5 => ?_
  refine Tot.bind (amongT (x.1, u5.2.2.1, u5.2.2.2) _ h5.2.2 (by show 2 ≤ m - 2 - 2 - 2 - 2 - 2; omega) (by simp)) fun u6 h6 => ?_
  exact Tot.some ⟨trivial, rfl, h6.2.2.mono (by omega) (by show m - 12 ≤ m - 2 - 2 - 2 - 2 - 2 - 2; omega)⟩
theorem chFind_ok (l : List (Int × Int)) (s : Int × Int) (hl : l.length < 4611686018427387904) : ∃ r, F_spec_chFind l s = some r ∧ (decide (r < 0) = true ↔ s ∉ l) := by
  unfold F_spec_chFind
  have h := loopFind (F_spec_chFind_L1 l s) l (fun u => !eqv_Spot u s) (fun k => if k < l.length then some (k : Int) else some (-1)) hl (fun m k u hk hu hq => ?_) (fun m k u hk hu hq => ?_) (fun m => ?_)
  · rw [h]
    by_cases hlt : (l.takeWhile fun u => !eqv_Spot u s).length < l.length
    · rw [if_pos hlt]
      refine ⟨_, rfl, ?_⟩
      have : ¬ ((l.takeWhile fun u => !eqv_Spot u s).length : Int) < 0 := by omega
      simp only [this, decide_false, Bool.false_eq_true, false_iff, Classical.not_not]
      have key : ∀ (l : List (Int × Int)), (l.takeWhile fun u => !eqv_Spot u s).length < l.length → s ∈ l := by
        intro l
        induction l with
        | nil => intro h; simp at h
        | cons u l ih =>
          intro h
          cases hu : eqv_Spot u s with
          | true =>
            have : u = s := by
              unfold eqv_Spot at hu
              simp at hu
              exact Prod.ext hu.1 hu.2
            rw [this]; simp
          | false =>
            rw [List.takeWhile_cons_of_pos (by simp [hu])] at h
            exact List.mem_cons_of_mem _ (ih (by simpa using h))
      exact key l hlt
    · rw [if_neg hlt]
      refine ⟨_, rfl, ?_⟩
      simp only [show decide ((-1 : Int) < 0) = true by decide, true_iff]
      have key : ∀ (l : List (Int × Int)), ¬ (l.takeWhile fun u => !eqv_Spot u s).length < l.length → s ∉ l := by
        intro l
        induction l with
        | nil => intro _ h; simp at h
        | cons u l ih =>
          intro h hs
          cases hu : eqv_Spot u s with
          | true =>
            rw [List.takeWhile_cons_of_neg (by simp [hu])] at h
            simp at h
          | false =>
            rw [List.takeWhile_cons_of_pos (by simp [hu])] at h
            rcases List.mem_cons.1 hs with rfl | hs
            · simp [eqv_Spot] at hu
            · exact ih (by simpa using h) hs
      exact key l hlt
  · rw [F_spec_chFind_L1, if_pos (by simp; omega), idx_nat, hu, Option.bind_some, if_neg (by simpa using hq), w64_succ (by omega)]
  · rw [F_spec_chFind_L1, if_pos (by simp; omega), idx_nat, hu, Option.bind_some, if_pos (by simpa using hq), if_pos hk]
  · rw [F_spec_chFind_L1, if_neg (by simp)]
    simp
/-- How many spots are as far to the back as a later try. -/
def later (t : Int) : List (Int × Int) → Nat
  | [] => 0
  | e :: l => (if 7 + t ≤ e.2 then 1 else 0) + later t l
theorem later_le (t : Int) : ∀ l, later (t + 1) l ≤ later t l
  | [] => Nat.le_refl _
  | e :: l => by
    have := later_le t l
    unfold later
    split <;> split <;> omega
theorem later_mem (t a : Int) : ∀ l, (a, 7 + t) ∈ l → later (t + 1) l + 1 ≤ later t l
  | [], h => by cases h
  | e :: l, h => by
    have h2 := later_le t l
    unfold later
    rcases List.mem_cons.1 h with h | h
    · subst h
      rw [if_neg (by show ¬ 7 + (t + 1) ≤ 7 + t; omega), if_pos (by show 7 + t ≤ 7 + t; omega)]
      omega
    · have := later_mem t a l h
      split <;> split <;> omega
theorem later_app (t : Int) (e : Int × Int) : ∀ l, later t (l ++ [e]) ≤ later t l + 1 ∧ (e.2 < 7 + t → later t (l ++ [e]) = later t l)
  | [] => by
    simp only [List.nil_append, later]
    constructor
    · split <;> omega
    · intro h; rw [if_neg (by omega)]
  | d :: l => by
    have h1 := (later_app t e l).1
    have h2 := (later_app t e l).2
    simp only [List.cons_append, later]
    constructor
    · omega
    · intro h; rw [h2 h]
theorem least_tot {α : Type} {a b : Int} {f : Int → Option α} {Q : α → Prop} (h : ∀ v, Tot (f v) Q) : Tot (Option.bind (F_spec_l1Least a b) f) Q := by
  unfold F_spec_l1Least
  split <;> exact Tot.bindE rfl (h _)
def tries (n : Int) (t : Int) (l : List (Int × Int)) : Nat := 2 * (n - l.length).toNat + later t l + (61 - t).toNat
theorem chartOf_ok (x : Cur) (n : Int) (hn : n ≤ 13) {m : Int} (h : Cu x.1 m x.2.1) (hm : 2000 ≤ m) : Tot (F_spec_l1Cur__chartOf__mut__box x n) (Pk x.1 (m - 2000) fun l => l.length ≤ 13 ∧ n ≤ l.length) := by
  unfold F_spec_l1Cur__chartOf__mut__box
  refine Tot.loop (fun k (s : Int × Int × List (Int × Int) × Int) => F_spec_l1Cur__chartOf__mut__box_L1 n x k s.1 s.2.1 s.2.2.1 s.2.2.2) (fun s => tries n s.2.2.2 s.2.2.1)
    (fun s => s.2.2.1.length ≤ 13 ∧ 0 ≤ s.2.2.2 ∧ s.2.2.2 + tries n s.2.2.2 s.2.2.1 ≤ 87 ∧ Cu x.1 (m - 20 * s.2.2.2) s.1) (Pk x.1 (m - 2000) fun l => l.length ≤ 13 ∧ n ≤ l.length)
    (fun k s hs ih => ?_) FU (x.2.1, x.2.2, [], 0) ⟨by simp, by simp, by simp [tries, later]; omega, by simpa using h⟩ (by show _ < (4611686018427387904 : Nat); simp [tries, later]; omega)
  obtain ⟨a, sd, l, t⟩ := s
  obtain ⟨hl, ht0, ht, hc⟩ := hs
  dsimp only at hl ht0 ht hc ih ⊢
  rw [F_spec_l1Cur__chartOf__mut__box_L1]
  refine Tot.ite (fun hlt => ?_) fun hge => Tot.some ⟨by simp at hge; show l.length ≤ 13 ∧ n ≤ l.length; omega, rfl, hc.mono (by omega) (by omega)⟩
  have hlt' : (l.length : Int) < n := by simpa using hlt
  have et : w64 (t + 1) = t + 1 := w64_eq (by omega) (by omega)
  -- one more try
  have go : ∀ (y52 y53 y54 y55 : Int), Cu x.1 (m - 20 * (t + 1)) y52 →
      Tot (jK2 (fun (y62 : Int) (y63 : Int) => Option.bind (F_spec_chFind l (y62, y63)) fun u67 => (if (decide (u67 < 0)) = true then Option.bind (app l [(y62, y63)]) fun u80 => (F_spec_l1Cur__chartOf__mut__box_L1 n x k) (y52) (y53) (u80) ((w64 (t + 1))) else (F_spec_l1Cur__chartOf__mut__box_L1 n x k) (y52) (y53) (l) ((w64 (t + 1)))))
        (fun k64 => (if (decide (60 < t)) = true then k64 ((w64 (3 * (List.length l : Int)))) ((w64 (7 + t))) else k64 (y54) (y55)))) (Pk x.1 (m - 2000) fun l => l.length ≤ 13 ∧ n ≤ l.length) := by
    intro a s y54 y55 hc2
    unfold jK2
    dsimp only
    rw [et]
    have hll := later_le t l
    have no : (60 < t → ∃ b, (b, 7 + t) ∈ l) → Tot (F_spec_l1Cur__chartOf__mut__box_L1 n x k a s l (t + 1)) (Pk x.1 (m - 2000) fun l => l.length ≤ 13 ∧ n ≤ l.length) := by
      intro hb
      have hμ : tries n (t + 1) l + 1 ≤ tries n t l := by
        unfold tries
        by_cases h60 : 60 < t
        · obtain ⟨b, hb⟩ := hb h60
          have := later_mem t b l hb
          omega
        · omega
      exact ih (a, s, l, t + 1) ⟨hl, by show 0 ≤ t + 1; omega, by show t + 1 + (tries n (t + 1) l : Int) ≤ 87; omega, hc2⟩ (by show tries n (t + 1) l < tries n t l; omega)
    have yes : ∀ e : Int × Int, (60 < t → e.2 = 7 + t) → Tot (F_spec_l1Cur__chartOf__mut__box_L1 n x k a s (l ++ [e]) (t + 1)) (Pk x.1 (m - 2000) fun l => l.length ≤ 13 ∧ n ≤ l.length) := by
      intro e he
      have hla := later_app (t + 1) e l
      have hμ : tries n (t + 1) (l ++ [e]) + 1 ≤ tries n t l := by
        unfold tries
        rw [List.length_append]
        simp only [List.length_cons, List.length_nil]
        by_cases h60 : 60 < t
        · have := hla.2 (by rw [he h60]; omega)
          omega
        · have := hla.1
          omega
      exact ih (a, s, l ++ [e], t + 1) ⟨by simp; omega, by show 0 ≤ t + 1; omega, by show t + 1 + (tries n (t + 1) (l ++ [e]) : Int) ≤ 87; omega, hc2⟩ (by show tries n (t + 1) (l ++ [e]) < tries n t l; omega)
    refine Tot.ite (fun h60 => ?_) fun h60 => ?_
    · have h60' : 60 < t := by simpa using h60
      rw [w64_eq (x := 3 * (l.length : Int)) (by omega) (by omega), w64_eq (x := 7 + t) (by omega) (by omega)]
      obtain ⟨r, hr, hr2⟩ := chFind_ok l (3 * (l.length : Int), 7 + t) (by omega)
      refine Tot.bindE hr (Tot.ite (fun hq => app_tot' (by simp; omega) (yes _ fun _ => rfl)) fun hq => no fun _ => ⟨3 * (l.length : Int), ?_⟩)
      by_cases hn : (3 * (l.length : Int), 7 + t) ∈ l
      · exact hn
      · rw [hr2.2 hn] at hq
        cases hq
    · have h60' : ¬ 60 < t := by simpa using h60
      obtain ⟨r, hr, hr2⟩ := chFind_ok l (y54, y55) (by omega)
      exact Tot.bindE hr (Tot.ite (fun hq => app_tot' (by simp; omega) (yes _ fun h => absurd h h60')) fun hq => no fun h => absurd h h60')
  unfold jK3 jK4
  dsimp only
  refine Tot.bind (spot_draw (x.1, a, sd) hc (by omega)) fun u33 h33 => ?_
  have c33 : Cu x.1 (m - 20 * t - 12) u33.2.2.1 := h33.2.2
  refine Tot.ite (fun hpos => ?_) fun _ => ?_
  · refine Tot.bind (one_ok (x.1, u33.2.2.1, u33.2.2.2) _ c33 (by omega)) fun u350 h350 => ?_
    have c350 : Cu x.1 (m - 20 * t - 14) u350.2.2.1 := h350.2.2.mono (by omega) (by show _ ≤ m - 20 * t - 12 - 2; omega)
    refine Tot.ite (fun _ => ?_) fun _ => go _ _ _ _ (c350.mono (by omega) (by omega))
    refine Tot.bind (pick_ok (x.1, u350.2.2.1, u350.2.2.2) _ c350 (by omega)) fun u104 h104 => ?_
    obtain ⟨v, hv, hmem, _⟩ := idx_pick l (fun e => by rw [e] at hpos; simp at hpos) h104.1
    refine Tot.bindE hv ?_
    refine Tot.bind (amongT (x.1, u104.2.2.1, u104.2.2.2) _ h104.2.2 (by show 2 ≤ m - 20 * t - 14 - 2; omega) (by simp)) fun u140 h140 => least_tot fun w1 => ?_
    refine Tot.bind (amongT (x.1, u140.2.2.1, u140.2.2.2) _ h140.2.2 (by show 2 ≤ m - 20 * t - 14 - 2 - 2; omega) (by simp)) fun u168 h168 => least_tot fun w2 => ?_
    exact go _ _ _ _ (h168.2.2.mono (by omega) (by show _ ≤ m - 20 * t - 14 - 2 - 2 - 2; omega))
  · rw [if_neg (by simp)]
    exact go _ _ _ _ (c33.mono (by omega) (by omega))
theorem chart_draw (x : Cur) {m : Int} (h : Cu x.1 m x.2.1) (hm : 2010 ≤ m) : Tot (F_spec_l1Cur__chart__mut__box x) (Pk x.1 (m - 2010) fun l => l.length ≤ 13 ∧ 1 ≤ l.length) := by
  unfold F_spec_l1Cur__chart__mut__box
  refine Tot.bind (one_ok x _ h (by omega)) fun u4 h4 => Tot.ite (fun _ => ?_) fun _ => ?_
  · refine Tot.bind (chartOf_ok (x.1, u4.2.2.1, u4.2.2.2) 12 (by omega) h4.2.2 (by show 2000 ≤ m - 2; omega)) fun u hu => ?_
    have hu1 := hu.1
    exact Tot.some ⟨by show u.1.length ≤ 13 ∧ 1 ≤ u.1.length; omega, rfl, hu.2.2.mono (by omega) (by show _ ≤ m - 2 - 2000; omega)⟩
  · refine Tot.bind (pick_ok (x.1, u4.2.2.1, u4.2.2.2) _ h4.2.2 (by omega)) fun u21 h21 => ?_
    have h21' := h21.1
    refine Tot.bind (chartOf_ok (x.1, u21.2.2.1, u21.2.2.2) _ (by rw [w64_eq (by omega) (by omega)]; omega) h21.2.2 (by show 2000 ≤ m - 2 - 2; omega)) fun u hu => ?_
    have hu1 := hu.1
    rw [w64_eq (by omega) (by omega)] at hu1
    exact Tot.some ⟨by show u.1.length ≤ 13 ∧ 1 ≤ u.1.length; omega, rfl, hu.2.2.mono (by omega) (by show _ ≤ m - 2 - 2 - 2000; omega)⟩
theorem anySpot_draw (x : Cur) {m : Int} (h : Cu x.1 m x.2.1) (hm : 20 ≤ m) : Tot (F_spec_l1Cur__anySpot__mut__box x) (Pk x.1 (m - 20) fun _ => True) := by
  unfold F_spec_l1Cur__anySpot__mut__box jK4
  dsimp only
  refine Tot.bind (spot_draw x h (by omega)) fun u8 h8 => ?_
  refine Tot.bind (pick_ok (x.1, u8.2.2.1, u8.2.2.2) _ h8.2.2 (by omega)) fun u39 h39 => ?_
  have c39 : Cu x.1 (m - 14) u39.2.2.1 := h39.2.2.mono (by omega) (by show _ ≤ m - 12 - 2; omega)
  refine Tot.ite (fun _ => ?_) fun _ => Tot.ite (fun _ => ?_) fun _ => Tot.some ⟨trivial, rfl, c39.mono (by omega) (by omega)⟩
  · exact Tot.bind (amongT (x.1, u39.2.2.1, u39.2.2.2) _ c39 (by omega) (by simp)) fun u hu => Tot.some ⟨trivial, rfl, hu.2.2.mono (by omega) (by show _ ≤ m - 14 - 2; omega)⟩
  · exact Tot.bind (amongT (x.1, u39.2.2.1, u39.2.2.2) _ c39 (by omega) (by simp)) fun u hu => Tot.some ⟨trivial, rfl, hu.2.2.mono (by omega) (by show _ ≤ m - 14 - 2; omega)⟩
theorem anyChart_draw (x : Cur) {m : Int} (h : Cu x.1 m x.2.1) (hm : 5000 ≤ m) : Tot (F_spec_l1Cur__anyChart__mut__box x) (Pk x.1 (m - 5000) fun l => l.length ≤ 13) := by
  unfold F_spec_l1Cur__anyChart__mut__box jK3
  dsimp only
  refine Tot.bind (chart_draw x h (by omega)) fun u3 h3 => ?_
  have h31 := h3.1
  refine Tot.bind (pick_ok (x.1, u3.2.2.1, u3.2.2.2) _ h3.2.2 (by omega)) fun u12 h12 => ?_
  obtain ⟨v, hv, hmem, _⟩ := idx_pick u3.1 (fun e => by rw [e] at h31; simp at h31) h12.1
  refine Tot.bind (pick_ok (x.1, u12.2.2.1, u12.2.2.2) _ h12.2.2 (by show 2 ≤ m - 2010 - 2; omega)) fun u31 h31b => ?_
  have c31 : Cu x.1 (m - 2020) u31.2.2.1 := h31b.2.2.mono (by omega) (by show _ ≤ m - 2010 - 2 - 2; omega)
  have fin : ∀ (a s : Int) (l : List (Int × Int)), l.length ≤ 13 → Cu x.1 (m - 5000) a → Tot (some (l, (x.1, a, s))) (Pk x.1 (m - 5000) fun l => l.length ≤ 13) := fun a s l h1 h2 => Tot.some ⟨h1, rfl, h2⟩
  refine Tot.ite (fun _ => ?_) fun _ => Tot.ite (fun _ => ?_) fun _ => Tot.ite (fun _ => ?_) fun _ => Tot.ite (fun _ => ?_) fun _ => ?_
  · refine Tot.bind (anySpot_draw (x.1, u31.2.2.1, u31.2.2.2) c31 (by omega)) fun u hu => Tot.bindE hv (fin _ _ _ (by rw [seti_len']; omega) (hu.2.2.mono (by omega) (by show _ ≤ m - 2020 - 20; omega)))
  · have h0 : idx u3.1 0 = some u3.1[0] := by rw [idx_zero]; exact List.getElem?_eq_getElem (by omega)
    exact Tot.bindE h0 (Tot.bindE hv (fin _ _ _ (by rw [seti_len']; omega) (c31.mono (by omega) (by omega))))
  · exact fin _ _ _ (by simp) (c31.mono (by omega) (by omega))
  · refine Tot.bind (chartOf_ok (x.1, u31.2.2.1, u31.2.2.2) 13 (by omega) c31 (by omega)) fun u hu => fin _ _ _ hu.1.1 (hu.2.2.mono (by omega) (by show _ ≤ m - 2020 - 2000; omega))
  · exact fin _ _ _ (by omega) (c31.mono (by omega) (by omega))
/-- What drawn shows are. -/
def shortShow (s : ShowT) : Prop := s.1.length ≤ 9 ∧ (∀ c ∈ s.1, c.length ≤ 13) ∧ s.2.1.length ≤ 9
theorem shortShow.lens {s : ShowT} (h : shortShow s) : lensOk s := ⟨by have := h.1; omega, fun c hc => by have := h.2.1 c hc; omega, by have := h.2.2; omega⟩
theorem show_draw (x : Cur) {m : Int} (h : Cu x.1 m x.2.1) (hm : 50000 ≤ m) : Tot (F_spec_l1Cur__show__mut__box x) (Pk x.1 (m - 50000) shortShow) := by
  unfold F_spec_l1Cur__show__mut__box
  refine Tot.bind (pick_ok x _ h (by omega)) fun u8 h8 => ?_
  have h81 := h8.1
  have e8 : w64 (1 + u8.1) = 1 + u8.1 := w64_eq (by omega) (by omega)
  refine Tot.bind (chartOf_ok (x.1, u8.2.2.1, u8.2.2.2) _ (by rw [e8]; omega) h8.2.2 (by omega)) fun u15 h15 => ?_
  refine Tot.bind (amongT (x.1, u15.2.2.1, u15.2.2.2) _ h15.2.2 (by show 2 ≤ m - 2 - 2000; omega) (by simp)) fun u38 h38 => ?_
  refine Tot.bind (amongT (x.1, u38.2.2.1, u38.2.2.2) _ h38.2.2 (by show 2 ≤ m - 2 - 2000 - 2; omega) (by simp)) fun u50 h50 => ?_
  refine Tot.bind (pick_ok (x.1, u50.2.2.1, u50.2.2.2) _ h50.2.2 (by show 2 ≤ m - 2 - 2000 - 2 - 2; omega)) fun u66 h66 => ?_
  have h661 := h66.1
  have c66 : Cu x.1 (m - 2010) u66.2.2.1 := h66.2.2.mono (by omega) (by show _ ≤ m - 2 - 2000 - 2 - 2 - 2; omega)
  have loop : ∀ (a s many : Int), Cu x.1 (m - 2020) a → 2 ≤ many → many ≤ 9 → Tot (F_spec_l1Cur__show__mut__box_L1 many x u8 u50 u38 FU a s ([u15.1]) ([])) (Pk x.1 (m - 50000) shortShow) := by
    intro a0 s0 many ha hm1 hm2
    have h151 := h15.1
    refine Tot.loop (fun k (s : Int × Int × List (List (Int × Int)) × List Int) => F_spec_l1Cur__show__mut__box_L1 many x u8 u50 u38 k s.1 s.2.1 s.2.2.1 s.2.2.2) (fun s => 10 - s.2.2.1.length)
      (fun s => 1 ≤ s.2.2.1.length ∧ s.2.2.1.length ≤ 9 ∧ (∀ c ∈ s.2.2.1, c.length ≤ 13) ∧ s.2.2.2.length + 1 = s.2.2.1.length ∧ Cu x.1 (m - 3000 * s.2.2.1.length) s.1) (Pk x.1 (m - 50000) shortShow)
      (fun k s hs ih => ?_) FU (a0, s0, [u15.1], []) ⟨by simp, by simp, fun c hc => by rw [List.mem_singleton.1 hc]; exact h151.1, by simp, ha.mono (by show 0 ≤ m - 3000 * (1 : Int); omega) (by show m - 3000 * (1 : Int) ≤ m - 2020; omega)⟩ (by show _ < (4611686018427387904 : Nat); simp)
    obtain ⟨a, sd, l, ns⟩ := s
    obtain ⟨hl1, hl9, hlc, hns, hc⟩ := hs
    dsimp only at hl1 hl9 hlc hns hc ih ⊢
    rw [F_spec_l1Cur__show__mut__box_L1]
    have elast : idx l (w64 ((l.length : Int) - 1)) = some l[l.length - 1] := by
      rw [w64_eq (by omega) (by omega), idx_int (by omega), show ((l.length : Int) - 1).toNat = l.length - 1 by omega]
      exact List.getElem?_eq_getElem (by omega)
    have hlast : l[l.length - 1].length ≤ 13 := hlc _ (List.getElem_mem _)
    refine Tot.ite (fun hlt => ?_) fun hge => ?_
    · have hlt' : (l.length : Int) < many := by simpa using hlt
      refine Tot.bindE elast ?_
      refine Tot.bind (chartOf_ok (x.1, a, sd) _ (by rw [e8]; omega) hc (by omega)) fun u108 h108 => ?_
      have c108 : Cu x.1 (m - 3000 * l.length - 2000) u108.2.2.1 := h108.2.2
      have more : ∀ (a s : Int) (nl : List (Int × Int)), nl.length ≤ 13 → Cu x.1 (m - 3000 * l.length - 2500) a → Tot (Option.bind (app l [nl]) fun u137 =>
          Option.bind (F_spec_l1Cur__among__mut__box (x.1, a, s) [1, 4, 8, 16, 64]) fun u164 => Option.bind (app ns [u164.1]) fun u182 => (F_spec_l1Cur__show__mut__box_L1 many x u8 u50 u38 k) (u164.2.2.1) (u164.2.2.2) (u137) (u182)) (Pk x.1 (m - 50000) shortShow) := by
        intro a s nl hnl ha
        refine app_tot' (by simp; omega) (Tot.bind (amongT (x.1, a, s) _ ha (by omega) (by simp)) fun u164 h164 => app_tot' (by simp; omega) ?_)
        exact ih (u164.2.2.1, u164.2.2.2, l ++ [nl], ns ++ [u164.1]) ⟨by simp, by simp; omega, fun c hc => by rcases List.mem_append.1 hc with hc | hc; exact hlc c hc; rw [List.mem_singleton.1 hc]; exact hnl,
          by simp; omega, h164.2.2.mono (by simp; omega) (by simp; omega)⟩ (by simp; omega)
      unfold jK3
      dsimp only
      refine Tot.bind (one_ok (x.1, u108.2.2.1, u108.2.2.2) _ c108 (by omega)) fun u292 h292 => ?_
      have c292 : Cu x.1 (m - 3000 * l.length - 2002) u292.2.2.1 := h292.2.2.mono (by omega) (by show _ ≤ m - 3000 * (l.length : Int) - 2000 - 2; omega)
      refine Tot.ite (fun _ => ?_) fun _ => more _ _ _ h108.1.1 (c292.mono (by omega) (by omega))
      refine Tot.bindE (spec_chOwn _ (by omega)) ?_
      generalize l[l.length - 1] = last at hlast ⊢
      refine Tot.loop (fun k2 (s : Int × Int × List (Int × Int) × Int) => F_spec_l1Cur__show__mut__box_L2 last x last _ k2 s.1 s.2.1 s.2.2.1 s.2.2.2) (fun s => (last.length - s.2.2.2).toNat)
        (fun s => s.2.2.1.length = last.length ∧ 0 ≤ s.2.2.2 ∧ s.2.2.2 ≤ last.length ∧ Cu x.1 (m - 3000 * l.length - 2002 - 2 * s.2.2.2) s.1) _
        (fun k2 s hs ih2 => ?_) FU (u292.2.2.1, u292.2.2.2, last, 0) ⟨rfl, by simp, by simp, by simpa using c292⟩ (by show _ < (4611686018427387904 : Nat); simp; omega)
      obtain ⟨a2, s2, l2, y⟩ := s
      obtain ⟨hl2, hy0, hy, hc2⟩ := hs
      dsimp only at hl2 hy0 hy hc2 ih2 ⊢
      rw [F_spec_l1Cur__show__mut__box_L2]
      refine Tot.ite (fun hylt => ?_) fun _ => ?_
      · have hylt' : y < last.length := by simpa using hylt
        have ey : idx l2 y = some l2[y.toNat] := by rw [idx_int hy0]; exact List.getElem?_eq_getElem (by omega)
        unfold jK3
        dsimp only
        refine Tot.bindE ey (Tot.bind (amongT (x.1, a2, s2) _ hc2 (by omega) (by simp)) fun u361 h361 => least_tot fun w1 => Tot.bindE ey ?_)
        rw [w64_eq (x := y + 1) (by omega) (by omega)]
        exact ih2 (u361.2.2.1, u361.2.2.2, seti l2 y (w1, l2[y.toNat].2), y + 1) ⟨by rw [seti_len']; exact hl2, by show 0 ≤ y + 1; omega, by show y + 1 ≤ last.length; omega, h361.2.2.mono (by show 0 ≤ m - 3000 * (l.length : Int) - 2002 - 2 * (y + 1); omega) (by show m - 3000 * (l.length : Int) - 2002 - 2 * (y + 1) ≤ m - 3000 * (l.length : Int) - 2002 - 2 * y - 2; omega)⟩
          (by show ((last.length : Int) - (y + 1)).toNat < ((last.length : Int) - y).toNat; omega)
      · refine Tot.bindE (spec_chGood l2 (by omega)) (Tot.ite (fun _ => Tot.bindE (spec_chOwn _ (by omega)) (more _ _ _ hlast (hc2.mono (by omega) (by omega)))) fun _ => more _ _ _ (by omega) (hc2.mono (by omega) (by omega)))
    · have hge' : many ≤ (l.length : Int) := by simpa using hge
      have fin : ∀ (a s : Int) (cs : List (List (Int × Int))) (ns : List Int) (p q : Int), cs.length ≤ 9 → (∀ c ∈ cs, c.length ≤ 13) → ns.length ≤ 9 → Cu x.1 (m - 50000) a → Tot (some ((cs, ns, p, q), (x.1, a, s))) (Pk x.1 (m - 50000) shortShow) :=
        fun a s cs ns p q h1 h2 h3 h4 => Tot.some ⟨⟨h1, h2, h3⟩, rfl, h4⟩
      unfold jK6
      dsimp only
      refine Tot.bind (pick_ok (x.1, a, sd) _ hc (by omega)) fun u499 h499 => ?_
      have c499 : Cu x.1 (m - 30000) u499.2.2.1 := h499.2.2.mono (by omega) (by show _ ≤ m - 3000 * (l.length : Int) - 2; omega)
      have cend : Cu x.1 (m - 50000) u499.2.2.1 := c499.mono (by omega) (by omega)
      refine Tot.ite (fun _ => ?_) fun _ => Tot.ite (fun _ => ?_) fun _ => Tot.ite (fun _ => ?_) fun _ => Tot.ite (fun _ => ?_) fun _ => Tot.ite (fun _ => ?_) fun _ => Tot.ite (fun _ => ?_) fun _ => ?_
      · exact Tot.bind (amongT (x.1, u499.2.2.1, u499.2.2.2) _ c499 (by omega) (by simp)) fun u hu => fin _ _ _ _ _ _ hl9 hlc (by omega) (hu.2.2.mono (by omega) (by show _ ≤ m - 30000 - 2; omega))
      · exact Tot.bind (amongT (x.1, u499.2.2.1, u499.2.2.2) _ c499 (by omega) (by simp)) fun u hu => fin _ _ _ _ _ _ hl9 hlc (by omega) (hu.2.2.mono (by omega) (by show _ ≤ m - 30000 - 2; omega))
      · refine Tot.bind (amongT (x.1, u499.2.2.1, u499.2.2.2) _ c499 (by omega) (by simp)) fun u hu => ?_
        have e0 : idx ns 0 = some ns[0] := by rw [idx_zero]; exact List.getElem?_eq_getElem (by omega)
        exact Tot.bindE e0 (fin _ _ _ _ _ _ hl9 hlc (by rw [seti_len']; omega) (hu.2.2.mono (by omega) (by show _ ≤ m - 30000 - 2; omega)))
      · refine Tot.bind (anyChart_draw (x.1, u499.2.2.1, u499.2.2.2) c499 (by omega)) fun u hu => Tot.bindE elast (fin _ _ _ _ _ _ (by rw [seti_len']; exact hl9) (fun c hc => ?_) (by omega) (hu.2.2.mono (by omega) (by show _ ≤ m - 30000 - 5000; omega)))
        unfold seti at hc
        rcases List.mem_or_eq_of_mem_set hc with hc | rfl
        · exact hlc c hc
        · exact hu.1
      · exact app_tot' (by simp; omega) (fin _ _ _ _ _ _ hl9 hlc (by simp; omega) cend)
      · have esl : sl l 0 1 = some (l.take 1) := sl_take l (k := 1) hl1
        exact Tot.bindE esl (fin _ _ _ _ _ _ (by simp; omega) (fun c hc => hlc c (List.mem_of_mem_take hc)) (by simp) cend)
      · exact fin _ _ _ _ _ _ hl9 hlc (by omega) cend
  unfold jK3
  dsimp only
  refine Tot.bind (one_ok (x.1, u66.2.2.1, u66.2.2.2) _ c66 (by omega)) fun u786 h786 => Tot.ite (fun _ => ?_) fun _ => ?_
  · refine Tot.bind (pick_ok (x.1, u786.2.2.1, u786.2.2.2) _ h786.2.2 (by omega)) fun u793 h793 => ?_
    have := h793.1
    refine loop _ _ _ (h793.2.2.mono (by omega) (by show _ ≤ m - 2010 - 2 - 2; omega)) ?_ ?_
    · rw [w64_eq (by omega) (by omega)]; omega
    · rw [w64_eq (by omega) (by omega)]; omega
  · refine loop _ _ _ (h786.2.2.mono (by omega) (by show _ ≤ m - 2010 - 2; omega)) ?_ ?_
    · rw [w64_eq (by omega) (by omega)]; omega
    · rw [w64_eq (by omega) (by omega)]; omega
/-! what the laws draw -/
theorem Cu.begin {c : List Int} (h : allG inU8 c) : Cu c 100000000 0 := ⟨fun b hb => h.2 b hb, by omega, by omega, by omega⟩
section
variable (c : List Int) (h : Cu c 100000000 0)
include h
theorem draw_WaySums : Tot (F_spec_DrawWaySums c) shortShow := by
  unfold F_spec_DrawWaySums
  exact Tot.bind (show_draw (c, 0, 0) h (by omega)) fun u hu => Tot.some hu.1
end
end Go.Proofs.Ytmkignciedkidaa
/-
  TWO DRAWN SHOWS, PLAIN: they are there and short.
-/
set_option linter.unusedSimpArgs false
set_option linter.unusedVariables false
namespace Go.Proofs.Ytmkignciedkidaa
open Go
def PkT (c : List Int) (n : Int) (v : ShowT × ShowT × Cur) : Prop := shortShow v.1 ∧ shortShow v.2.1 ∧ v.2.2.1 = c ∧ Cu c n v.2.2.2.1
theorem two_draw (x : Cur) {m : Int} (h : Cu x.1 m x.2.1) (hm : 110000 ≤ m) : Tot (F_spec_l1Cur__showsTwo__mut__box x) (PkT x.1 (m - 110000)) := by
  unfold F_spec_l1Cur__showsTwo__mut__box
  refine Tot.bind (show_draw x h (by omega)) fun u13 h13 => ?_
  have hl := h13.1.lens
  have hsw := spec_swGood u13.1 hl.1 hl.2.1 hl.2.2
  have c13 : Cu x.1 (m - 50000) u13.2.2.1 := h13.2.2
  have yes : ∀ (a s : Int), Cu x.1 (m - 50010) a → Tot (Option.bind (F_spec_l1Cur__show__mut__box (x.1, a, s)) fun u49 => some (u13.1, u49.1, (x.1, u49.2.2.1, u49.2.2.2))) (PkT x.1 (m - 110000)) := fun a s ha =>
    Tot.bind (show_draw (x.1, a, s) ha (by omega)) fun u hu => Tot.some ⟨h13.1, hu.1, rfl, hu.2.2.mono (by omega) (by show _ ≤ m - 50010 - 50000; omega)⟩
  unfold jK3
  dsimp only
  refine Tot.bindE hsw ?_
  refine Tot.ite (fun _ => ?_) fun hok => ?_
  · rw [if_pos rfl]
    exact yes _ _ (c13.mono (by omega) (by omega))
  · have hok' : okShow u13.1 = true := by simpa using hok
    have f := facts hok'
    have n0 := f.n0
    have n1 := f.n1
    have nc := f.nc
    refine Tot.bind (one_ok (x.1, u13.2.2.1, u13.2.2.2) _ c13 (by omega)) fun u558 h558 => ?_
    have c558 : Cu x.1 (m - 50002) u558.2.2.1 := h558.2.2.mono (by omega) (by show _ ≤ m - 50000 - 2; omega)
    refine Tot.ite (fun _ => yes _ _ (c558.mono (by omega) (by omega))) fun _ => ?_
    refine Tot.bindE (spec_l1Own _ (by omega)) ?_
    have loop2 : ∀ (a s k0 : Int) (l : List (List (Int × Int))), l.length = u13.1.1.length → (∀ c ∈ l, 1 ≤ c.length ∧ c.length ≤ 12) → 0 ≤ k0 → k0 ≤ 2 → Cu x.1 (m - 50004) a →
        Tot (F_spec_l1Cur__showsTwo__mut__box_L2 x u13 u13.1.2.1 u13.1.2.2.1 u13.1.2.2.2 FU a s l k0) (PkT x.1 (m - 110000)) := by
      intro a s k0 l hl hlc h0 h2 ha
      refine Tot.loop (fun k (s : Int × Int × List (List (Int × Int)) × Int) => F_spec_l1Cur__showsTwo__mut__box_L2 x u13 u13.1.2.1 u13.1.2.2.1 u13.1.2.2.2 k s.1 s.2.1 s.2.2.1 s.2.2.2) (fun s => s.2.2.2.toNat)
        (fun s => 0 ≤ s.2.2.2 ∧ s.2.2.2 ≤ 2 ∧ s.2.2.1.length = u13.1.1.length ∧ (∀ c ∈ s.2.2.1, 1 ≤ c.length ∧ c.length ≤ 12) ∧ Cu x.1 (m - 50104 + 20 * s.2.2.2) s.1) (PkT x.1 (m - 110000))
        (fun k s hs ih => ?_) FU (a, s, l, k0) ⟨h0, h2, hl, hlc, ha.mono (by show 0 ≤ m - 50104 + 20 * k0; omega) (by show m - 50104 + 20 * k0 ≤ m - 50004; omega)⟩ (by show k0.toNat < 4611686018427387904; omega)
      obtain ⟨a, sd, l, y⟩ := s
      obtain ⟨hy0, hy2, hl, hlc, hc⟩ := hs
      dsimp only at hy0 hy2 hl hlc hc ih ⊢
      rw [F_spec_l1Cur__showsTwo__mut__box_L2]
      refine Tot.ite (fun hpos => ?_) fun _ => ?_
      · have hpos' : 0 < y := by simpa using hpos
        refine Tot.bind (pick_ok (x.1, a, sd) _ hc (by omega)) fun u281 h281 => ?_
        obtain ⟨v, hv, hmem, hvl⟩ := idx_pick l (fun e => by rw [e] at hl; simp at hl; omega) h281.1
        have hvc := hlc v hmem
        refine Tot.bindE hv ?_
        refine Tot.bind (pick_ok (x.1, u281.2.2.1, u281.2.2.2) _ h281.2.2 (by show 2 ≤ m - 50104 + 20 * y - 2; omega)) fun u296 h296 => ?_
        obtain ⟨v2, hv2, _, _⟩ := idx_pick v (fun e => by rw [e] at hvc; simp at hvc) h296.1
        refine Tot.bind (spot_draw (x.1, u296.2.2.1, u296.2.2.2) h296.2.2 (by show 12 ≤ m - 50104 + 20 * y - 2 - 2; omega)) fun u302 h302 => Tot.bindE hv2 ?_
        rw [w64_eq (x := y - 1) (by omega) (by omega)]
        refine ih (u302.2.2.1, u302.2.2.2, seti l u281.1 (seti v u296.1 u302.1), y - 1) ⟨by show 0 ≤ y - 1; omega, by show y - 1 ≤ 2; omega, by rw [seti_len']; exact hl, fun c hcm => ?_, h302.2.2.mono (by show 0 ≤ m - 50104 + 20 * (y - 1); omega) (by show m - 50104 + 20 * (y - 1) ≤ m - 50104 + 20 * y - 2 - 2 - 12; omega)⟩ (by show (y - 1).toNat < y.toNat; omega)
        dsimp only at hcm
        unfold seti at hcm
        rcases List.mem_or_eq_of_mem_set hcm with hcm | rfl
        · exact hlc c hcm
        · rw [List.length_set]; exact hvc
      · have c0 : Cu x.1 (m - 51000) a := hc.mono (by omega) (by omega)
        have fin : ∀ (a s : Int) (ns : List Int) (p q : Int), ns.length ≤ 9 → Cu x.1 (m - 110000) a → Tot (some (u13.1, (l, ns, p, q), (x.1, a, s))) (PkT x.1 (m - 110000)) := fun a s ns p q h1 h2 => Tot.some ⟨h13.1, ⟨by show l.length ≤ 9; omega, fun c hc => by have := (hlc c hc).2; omega, h1⟩, rfl, h2⟩
        unfold jK5
        dsimp only
        refine Tot.bind (pick_ok (x.1, a, sd) _ c0 (by omega)) fun u356 h356 => ?_
        have c356 : Cu x.1 (m - 51002) u356.2.2.1 := h356.2.2.mono (by omega) (by show _ ≤ m - 51000 - 2; omega)
        refine Tot.ite (fun _ => ?_) fun _ => Tot.ite (fun _ => ?_) fun _ => Tot.ite (fun _ => ?_) fun _ => fin _ _ _ _ _ (by omega) (c356.mono (by omega) (by omega))
        · refine Tot.bind (pick_ok (x.1, u356.2.2.1, u356.2.2.2) _ c356 (by omega)) fun u369 h369 => ?_
          obtain ⟨v, hv, _, _⟩ := idx_pick u13.1.2.1 (fun e => by rw [e] at nc; simp at nc; omega) h369.1
          exact Tot.bind (pick_ok (x.1, u369.2.2.1, u369.2.2.2) _ h369.2.2 (by show 2 ≤ m - 51002 - 2; omega)) fun u378 h378 => Tot.bindE hv (fin _ _ _ _ _ (by rw [seti_len']; omega) (h378.2.2.mono (by omega) (by show _ ≤ m - 51002 - 2 - 2; omega)))
        · exact Tot.bind (pick_ok (x.1, u356.2.2.1, u356.2.2.2) _ c356 (by omega)) fun u hu => fin _ _ _ _ _ (by omega) (hu.2.2.mono (by omega) (by show _ ≤ m - 51002 - 2; omega))
        · exact Tot.bind (pick_ok (x.1, u356.2.2.1, u356.2.2.2) _ c356 (by omega)) fun u hu => fin _ _ _ _ _ (by omega) (hu.2.2.mono (by omega) (by show _ ≤ m - 51002 - 2; omega))
    refine Tot.loop (fun k (s : List (List (Int × Int)) × Int) => F_spec_l1Cur__showsTwo__mut__box_L1 u13 x u558.2.2.1 u558.2.2.2 u13.1.2.1 u13.1.2.2.1 u13.1.2.2.2 k s.1 s.2) (fun s => (u13.1.1.length - s.2).toNat)
      (fun s => 0 ≤ s.2 ∧ s.2 ≤ u13.1.1.length ∧ (s.1.length : Int) = s.2 ∧ ∀ c ∈ s.1, 1 ≤ c.length ∧ c.length ≤ 12) (PkT x.1 (m - 110000))
      (fun k s hs ih => ?_) FU ([], 0) ⟨by simp, by simp, by simp, fun c hc => by cases hc⟩ (by show ((u13.1.1.length : Int) - 0).toNat < 4611686018427387904; omega)
    obtain ⟨l, y⟩ := s
    obtain ⟨hy0, hy, hl, hlc⟩ := hs
    dsimp only at hy0 hy hl hlc ih ⊢
    rw [F_spec_l1Cur__showsTwo__mut__box_L1]
    refine Tot.ite (fun hlt => ?_) fun hge => ?_
    · have hlt' : y < u13.1.1.length := by simpa using hlt
      have ey : idx u13.1.1 y = some u13.1.1[y.toNat] := by rw [idx_int hy0]; exact List.getElem?_eq_getElem (by omega)
      have hcl := f.cl _ (List.getElem_mem (l := u13.1.1) (n := y.toNat) (by omega))
      unfold jK1
      dsimp only
      refine Tot.bindE ey (Tot.bindE (spec_chOwn _ (by omega)) (app_tot' (by simp; omega) ?_))
      rw [w64_eq (by omega) (by omega)]
      exact ih (l ++ [u13.1.1[y.toNat]], y + 1) ⟨by show 0 ≤ y + 1; omega, by show y + 1 ≤ (u13.1.1.length : Int); omega, by simp; omega, fun c hc => by rcases List.mem_append.1 hc with hc | hc; exact hlc c hc; rw [List.mem_singleton.1 hc]; exact hcl⟩
        (by show ((u13.1.1.length : Int) - (y + 1)).toNat < ((u13.1.1.length : Int) - y).toNat; omega)
    · have hge' : (u13.1.1.length : Int) ≤ y := by simpa using hge
      refine Tot.bind (pick_ok (x.1, u558.2.2.1, u558.2.2.2) _ c558 (by omega)) fun u253 h253 => ?_
      have h2531 := h253.1
      exact loop2 _ _ _ _ (by omega) hlc h2531.1 (by omega) (h253.2.2.mono (by omega) (by show _ ≤ m - 50002 - 2; omega))
section
variable (c : List Int) (h : Cu c 100000000 0)
include h
theorem draw_SameShows : Tot (F_spec_DrawSameShows c) fun v => shortShow v.1 ∧ shortShow v.2 := by
  unfold F_spec_DrawSameShows
  exact Tot.bind (two_draw (c, 0, 0) h (by omega)) fun u hu => Tot.some ⟨hu.1, hu.2.1⟩
theorem draw_DifferentCharts : Tot (F_spec_DrawDifferentCharts c) fun v => shortShow v.1 ∧ shortShow v.2 := by
  unfold F_spec_DrawDifferentCharts
  exact Tot.bind (draw_SameShows c h) fun u hu => Tot.some hu
end
end Go.Proofs.Ytmkignciedkidaa
/-
  THE DRAWN LAWS' OWN COMPARISONS (q..), PLAIN.
-/
set_option linter.unusedSimpArgs false
set_option linter.unusedVariables false
namespace Go.Proofs.Ytmkignciedkidaa
open Go
theorem qq_Ints (x : List Int) (hs : x.length ≤ 1048576) : F_laws_qInts x x = some true := eqLB neI (F_laws_qInts_L1 x x) x (fun _ _ => rfl) (S := anyG) ⟨hs, fun _ _ => trivial⟩
theorem qq_Has (x : List Int) (n : Int) (hs : x.length < 4611686018427387904) : F_laws_qHas x n = some (decide (n ∈ x)) := by
  unfold F_laws_qHas
  rw [loopL (F_laws_qHas_L1 x n) x (fun u => u != n) (some false) (some true) hs (fun m k u hk hu => ?_) (fun m => ?_)]
  · by_cases h : n ∈ x
    · rw [if_neg (fun h2 => by have := List.all_eq_true.1 h2 n h; simp at this)]
      simp [h]
    · rw [if_pos (List.all_eq_true.2 fun u hu => by simp; intro e; exact h (e ▸ hu))]
      simp [h]
  · rw [F_laws_qHas_L1, if_pos (by simp; omega), idx_nat, hu, Option.bind_some, w64_succ (by omega)]
    by_cases e : u = n <;> simp [e]
  · rw [F_laws_qHas_L1, if_neg (by simp)]
theorem qq_Spots (x y : List (Int × Int)) (hs : x.length < 4611686018427387904) (hy : y.length < 4611686018427387904) : F_laws_qSpots x y = some (decide (x = y)) := by
  unfold F_laws_qSpots
  by_cases hl : x.length = y.length
  · rw [if_neg (by simp [hl]), loopSame (F_laws_qSpots_L1 x y) x y (some true) (some false) hs hl (fun j k a b ha hb => ?_) (fun j => by rw [F_laws_qSpots_L1, if_neg (by simp)])]
    · by_cases e : x = y <;> simp [e]
    · have hk := (List.getElem?_eq_some_iff.1 ha).1
      rw [F_laws_qSpots_L1, if_pos (by simp; omega), idx_nat, ha, Option.bind_some, idx_nat, hb, Option.bind_some, w64_succ (by omega)]
      have e : eqv_Spot a b = decide (a = b) := by
        unfold eqv_Spot
        rw [Bool.eq_iff_iff]
        simp [Prod.ext_iff]
      rw [e]
      by_cases h : a = b <;> simp [h]
  · rw [if_pos (by simp; omega)]
    have : ¬ x = y := fun e => hl (by rw [e])
    simp [this]
theorem qq_Sum (l : List Int) (h : l.length < 4611686018427387904) : F_laws_qSum l = some (l.foldl (fun a u => w64 (a + u)) 0) := by
  unfold F_laws_qSum
  rw [loopFold (F_laws_qSum_L1 l) l (fun a u => w64 (a + u)) some h (fun m s k u hk hu => ?_) (fun m s => ?_)]
  · rw [F_laws_qSum_L1, if_pos (by simp; omega), idx_nat, hu, Option.bind_some, w64_succ (by omega)]
  · rw [F_laws_qSum_L1, if_neg (by simp)]
/-- Against a whole number. -/
theorem qq_Less (a b c : Int) (ha : 0 ≤ a) (ha2 : a ≤ 1000000000000000) (hb : 1 ≤ b) (hb2 : b ≤ 1000000000) (hc : 0 ≤ c) (hc2 : c ≤ 1000000) : F_laws_qLess a b c 1 = some (decide (a < c * b)) := by
  unfold F_laws_qLess
  have e1 : Int.tdiv a b = a / b := Int.tdiv_eq_ediv_of_nonneg ha
  have e2 : Int.tdiv c 1 = c := Int.tdiv_one c
  have e3 : Int.tmod a b = a % b := Int.tmod_eq_emod_of_nonneg ha
  have e4 : Int.tmod c 1 = 0 := by rw [Int.tmod_one]
  have h0 : 0 ≤ a / b := Int.ediv_nonneg ha (by omega)
  have h1 : a / b ≤ a := Int.ediv_le_self _ ha
  have h2 : 0 ≤ a % b := Int.emod_nonneg _ (by omega)
  have h3 : a % b < b := Int.emod_lt_of_pos _ (by omega)
  have hd : b * (a / b) + a % b = a := Int.mul_ediv_add_emod a b
  rw [if_neg (by omega), if_neg (by omega), e1, e2, e3, e4, Int.mul_one, Int.zero_mul, w64_eq (x := a / b) (by omega) (by omega), w64_eq (x := c) (by omega) (by omega), w64_eq (x := a % b) (by omega) (by omega), w64_eq (x := (0 : Int)) (by omega) (by omega)]
  by_cases h : a / b = c
  · rw [if_neg (by simp [h]), if_neg (by omega), if_neg (by omega)]
    have hh : ¬ a < c * b := by rw [← h, Int.mul_comm]; omega
    have h4 : ¬ a % b < 0 := by omega
    simp [hh, h4]
  · rw [if_pos (by simp [h]), if_neg (by omega), if_neg (by omega)]
    have key : a / b < c ↔ a < c * b := Int.ediv_lt_iff_lt_mul (by omega)
    congr 1
    rw [Bool.eq_iff_iff, decide_eq_true_eq, decide_eq_true_eq]
    exact key
theorem mem_filt' {p : Nat → Bool} {n k : Nat} (hk : k < n) : (k : Int) ∈ filt p n ↔ p k = true := by
  unfold filt
  simp only [List.mem_map, List.mem_filter, List.mem_range]
  constructor
  · rintro ⟨j, ⟨h1, h2⟩, e⟩
    have : j = k := by omega
    rwa [← this]
  · intro h
    exact ⟨k, ⟨hk, h⟩, rfl⟩
end Go.Proofs.Ytmkignciedkidaa
/-
  THE CHARTS THAT DIFFER, PLAIN.
-/
set_option linter.unusedSimpArgs false
set_option linter.unusedVariables false
namespace Go.Proofs.Ytmkignciedkidaa
open Go
/-- Two shows of one outline. -/
def fit (x y : ShowT) : Bool := okShow x && okShow y && decide (x.1.length = y.1.length) && (match x.1[0]?, y.1[0]? with | some c, some d => decide (c.length = d.length) | _, _ => true)
def diffAns (x y : ShowT) : (List Int) × Bool := if fit x y then (filt (diffAt x y) x.1.length, true) else ([], false)
theorem spec_DifferentCharts (x y : ShowT) (hx : lensOk x) (hy : lensOk y) : F_spec_DifferentCharts x y = some (diffAns x y) := by
  unfold F_spec_DifferentCharts jK1 diffAns fit
  dsimp only
  rw [spec_swGood x hx.1 hx.2.1 hx.2.2, Option.bind_some, spec_swGood y hy.1 hy.2.1 hy.2.2, Option.bind_some]
  cases h1 : okShow x with
  | false => simp
  | true =>
    cases h2 : okShow y with
    | false => simp
    | true =>
      have fx := facts h1
      have fy := facts h2
      have nx := fx.n0
      have ny := fy.n0
      obtain ⟨c0, hc0⟩ : ∃ c, x.1[0]? = some c := ⟨_, List.getElem?_eq_getElem (by omega)⟩
      obtain ⟨d0, hd0⟩ : ∃ d, y.1[0]? = some d := ⟨_, List.getElem?_eq_getElem (by omega)⟩
      simp only [Bool.not_true, Bool.false_eq_true, if_false, Bool.and_self]
      rw [idx_zero, hc0, Option.bind_some, idx_zero, hd0, Option.bind_some]
      by_cases hl : x.1.length = y.1.length
      · rw [if_neg (by simp; omega)]
        by_cases h0 : c0.length = d0.length
        · rw [if_neg (by simp; omega), spec_cpDifferent x y fx fy hl (fun c d hc hd => by rw [hc0] at hc; rw [hd0] at hd; cases hc; cases hd; exact h0)]
          simp [hl, h0]
        · rw [if_pos (by simp; omega)]
          simp [h0]
      · rw [if_pos (by simp; omega)]
        simp [hl]
theorem impl_DifferentCharts (x y : ShowT) (hx : lensOk x) (hy : lensOk y) : F_impl_DifferentCharts x y = some (diffAns x y) := by
  unfold F_impl_DifferentCharts jK1 diffAns fit
  dsimp only
  rw [impl_IsShow x hx.1 hx.2.1 hx.2.2, Option.bind_some, impl_IsShow y hy.1 hy.2.1 hy.2.2, Option.bind_some]
  cases h1 : okShow x with
  | false => simp
  | true =>
    cases h2 : okShow y with
    | false => simp
    | true =>
      have fx := facts h1
      have fy := facts h2
      have nx := fx.n0
      have nx1 := fx.n1
      have ny := fy.n0
      obtain ⟨c0, hc0⟩ : ∃ c, x.1[0]? = some c := ⟨_, List.getElem?_eq_getElem (by omega)⟩
      obtain ⟨d0, hd0⟩ : ∃ d, y.1[0]? = some d := ⟨_, List.getElem?_eq_getElem (by omega)⟩
      simp only [Bool.not_true, Bool.false_eq_true, if_false, Bool.and_self]
      rw [idx_zero, hc0, Option.bind_some, idx_zero, hd0, Option.bind_some]
      by_cases hl : x.1.length = y.1.length
      · rw [if_neg (by simp; omega)]
        by_cases h0 : c0.length = d0.length
        · rw [if_neg (by simp; omega), loopFilter (F_impl_DifferentCharts_L1 x y) x.1.length (diffAt x y) (fun l => some (l, true)) (by omega) (fun m s k hk hs => ?_) (fun m s => ?_)]
          · simp [hl, h0]
          · obtain ⟨c, hc⟩ : ∃ c, x.1[k]? = some c := ⟨_, List.getElem?_eq_getElem hk⟩
            obtain ⟨d, hd⟩ : ∃ d, y.1[k]? = some d := ⟨_, List.getElem?_eq_getElem (by omega)⟩
            have hc12 := (fx.cl c (List.mem_of_getElem? hc)).2
            have e : diffAt x y k = !decide (c = d) := by unfold diffAt; rw [hc, hd]; simp
            rw [F_impl_DifferentCharts_L1, if_pos (by simp; omega), e]
            unfold jK1
            dsimp only
            rw [idx_nat, hc, Option.bind_some, idx_nat, hd, Option.bind_some, eq_Spots c d (by omega), Option.bind_some, app_ok (by simp; omega), w64_succ (by omega)]
            by_cases hq : c = d <;> simp [hq]
          · rw [F_impl_DifferentCharts_L1, if_neg (by simp)]
        · rw [if_pos (by simp; omega)]
          simp [h0]
      · rw [if_pos (by simp; omega)]
        simp [hl]
theorem diffAns_len (x y : ShowT) (h : x.1.length ≤ 1048576) : (diffAns x y).1.length ≤ 1048576 := by
  unfold diffAns
  split
  · exact Nat.le_trans (filt_len _ _) h
  · simp
end Go.Proofs.Ytmkignciedkidaa
/-
  THE WIDEST PART, PLAIN.
-/
set_option linter.unusedSimpArgs false
set_option linter.unusedVariables false
namespace Go.Proofs.Ytmkignciedkidaa
open Go
def partSum (x : ShowT) (p : Nat) : Int := ((movesOf x p).map sqM).foldl (fun a u => w64 (a + u)) 0
def widest (x : ShowT) : Int × Int := (List.range x.2.1.length).foldl (fun s k => if s.2 < partSum x k then ((k : Int), partSum x k) else s) (0, -1)
theorem spec_WidestPart (x : ShowT) (h : lensOk x) : F_spec_WidestPart x = some (if okShow x then ((widest x).1, (widest x).2, true) else (0, 0, false)) := by
  unfold F_spec_WidestPart
  rw [spec_swGood x h.1 h.2.1 h.2.2, Option.bind_some]
  cases hs : okShow x with
  | false => simp
  | true =>
    have f := facts hs
    have := f.n1
    have := f.nc
    rw [if_neg (by simp)]
    have := loopS (fun m (s : Int × Int) k => F_spec_WidestPart_L1 x m s.1 s.2 k) x.2.1.length (fun k s => if s.2 < partSum x k then ((k : Int), partSum x k) else s) (fun s => some (s.1, s.2, true)) (by omega) (fun _ _ => True) (0, -1) trivial (fun _ _ _ _ => trivial) (fun m k s hk _ => ?_) (fun m s _ => ?_)
    · exact this.1
    · rw [F_spec_WidestPart_L1, if_pos (by simp; omega)]
      unfold jK2
      dsimp only
      have hl := moves_len x f k hk
      have e : F_spec_cpSum ((movesOf x k).map sqM) = some (partSum x k) := spec_cpSum _ (by simp; omega)
      rw [spec_cpSquares x f k hk, Option.bind_some, e, Option.bind_some, w64_succ (by omega)]
      by_cases hq : s.2 < partSum x k
      · rw [if_pos (show decide (s.2 < partSum x k) = true by simp [hq]), if_pos hq]
      · rw [if_neg (show ¬ decide (s.2 < partSum x k) = true by simp [hq]), if_neg hq]
    · rw [F_spec_WidestPart_L1, if_neg (by simp)]
theorem impl_WidestPart (x : ShowT) (h : lensOk x) : F_impl_WidestPart x = some (if okShow x then ((widest x).1, (widest x).2, true) else (0, 0, false)) := by
  unfold F_impl_WidestPart
  rw [impl_IsShow x h.1 h.2.1 h.2.2, Option.bind_some]
  cases hs : okShow x with
  | false => simp
  | true =>
    have f := facts hs
    have := f.n1
    have := f.nc
    rw [if_neg (by simp)]
    have := loopS (fun m (s : Int × Int) k => F_impl_WidestPart_L1 x m s.1 s.2 k) x.2.1.length (fun k s => if s.2 < partSum x k then ((k : Int), partSum x k) else s) (fun s => some (s.1, s.2, true)) (by omega) (fun _ _ => True) (0, -1) trivial (fun _ _ _ _ => trivial) (fun m k s hk _ => ?_) (fun m s _ => ?_)
    · exact this.1
    · rw [F_impl_WidestPart_L1, if_pos (by simp; omega)]
      unfold jK2
      dsimp only
      have hl := moves_len x f k hk
      rw [impl_showMoves x f k hk, Option.bind_some, loopFold (F_impl_WidestPart_L2 (movesOf x k) s.2 (fun y36 y37 => F_impl_WidestPart_L1 x m y36 y37 (w64 ((k : Int) + 1))) (k : Int) s.1) (movesOf x k) (fun a u => w64 (a + sqM u))
        (fun t => if (decide (s.2 < t)) = true then F_impl_WidestPart_L1 x m (k : Int) t (w64 ((k : Int) + 1)) else F_impl_WidestPart_L1 x m s.1 s.2 (w64 ((k : Int) + 1))) (by omega) (fun m' t j u hj hu => ?_) (fun m' t => ?_)]
      · have e : (movesOf x k).foldl (fun a u => w64 (a + sqM u)) 0 = partSum x k := by unfold partSum; rw [List.foldl_map]
        rw [e, w64_succ (by omega)]
        by_cases hq : s.2 < partSum x k
        · rw [if_pos (show decide (s.2 < partSum x k) = true by simp [hq]), if_pos hq]
        · rw [if_neg (show ¬ decide (s.2 < partSum x k) = true by simp [hq]), if_neg hq]
      · rw [F_impl_WidestPart_L2, if_pos (by simp; omega), idx_nat, hu, Option.bind_some, impl_squareOf, Option.bind_some, w64_succ (k := j) (by omega)]
        rfl
      · rw [F_impl_WidestPart_L2, if_neg (by simp)]
    · rw [F_impl_WidestPart_L1, if_neg (by simp)]
end Go.Proofs.Ytmkignciedkidaa
/-
  SUMS OF WAYS, PLAIN; what shows demand.
-/
set_option linter.unusedSimpArgs false
set_option linter.unusedVariables false
namespace Go.Proofs.Ytmkignciedkidaa
open Go
def addStep (sq : List Int) (k : Nat) (s : List Int) : List Int := match s[k]?, sq[k]? with
  | some a, some u => s.set k (w64 (a + u))
  | _, _ => s
def addTo (sq s : List Int) : List Int := (List.range sq.length).foldl (fun s k => addStep sq k s) s
theorem addStep_len (sq : List Int) (k : Nat) (s : List Int) : (addStep sq k s).length = s.length := by
  unfold addStep
  split <;> simp
theorem add_loop {R : Type} (f : Nat → List Int → Int → Option R) (sq s0 : List Int) (rest : List Int → Option R) (hl : sq.length < 4611686018427387904) (h0 : s0.length = sq.length)
    (hs : ∀ m s k a u, k < sq.length → s[k]? = some a → sq[k]? = some u → f (m + 1) s (k : Int) = f m (s.set k (w64 (a + u))) ((k + 1 : Nat) : Int)) (he : ∀ m s, f (m + 1) s (sq.length : Int) = rest s) :
    f FU s0 0 = rest (addTo sq s0) ∧ (addTo sq s0).length = sq.length := by
  refine loopS f sq.length (fun k s => addStep sq k s) rest hl (fun _ s => s.length = sq.length) s0 h0 (fun k s hk hi => by rw [addStep_len]; exact hi) (fun m k s hk hi => ?_) (fun m s _ => he m s)
  have hx : s[k]? = some (s[k]'(by omega)) := List.getElem?_eq_getElem (by omega)
  have hy : sq[k]? = some sq[k] := List.getElem?_eq_getElem hk
  rw [hs m s k _ _ hk hx hy]
  unfold addStep
  rw [hx, hy]
def squaresOf (x : ShowT) (p : Nat) : List Int := (movesOf x p).map sqM
def waysOf (x : ShowT) : List Int := (List.range x.2.1.length).foldl (fun s p => addTo (squaresOf x p) s) (List.replicate (chartAt x 0).length 0)
theorem moves_len' {x : ShowT} (f : ShowFacts x) {p : Nat} (hp : p < x.2.1.length) : (movesOf x p).length = (chartAt x 0).length := by
  obtain ⟨a, b, n, h1, h2, h3, h4, h5, h6, h7, h8⟩ := part_facts f hp
  have := f.n0
  obtain ⟨c, hc⟩ : ∃ c, x.1[0]? = some c := ⟨_, List.getElem?_eq_getElem (by omega)⟩
  unfold movesOf
  rw [chartAt_of h1, chartAt_of hc, List.length_map, List.length_range]
  exact chart_len f h1 hc
theorem first_chart {x : ShowT} (f : ShowFacts x) : ∃ c, x.1[0]? = some c ∧ chartAt x 0 = c ∧ 1 ≤ c.length ∧ c.length ≤ 12 := by
  have := f.n0
  obtain ⟨c, hc⟩ : ∃ c, x.1[0]? = some c := ⟨_, List.getElem?_eq_getElem (by omega)⟩
  have := f.cl c (List.mem_of_getElem? hc)
  exact ⟨c, hc, chartAt_of hc, this.1, this.2⟩
theorem spec_cpWays (x : ShowT) (f : ShowFacts x) : F_spec_cpWays x = some (waysOf x) ∧ (waysOf x).length ≤ 12 := by
  have h1 := f.n1
  have h2 := f.nc
  obtain ⟨c, hc, he, hl, hu⟩ := first_chart f
  have := loopS (F_spec_cpWays_L1 x) x.2.1.length (fun p s => addTo (squaresOf x p) s) some (by omega) (fun _ s => s.length = (chartAt x 0).length) (List.replicate (chartAt x 0).length 0) (by simp) (fun p s hp hi => ?_) (fun m p s hp hi => ?_) (fun m s _ => ?_)
  · unfold F_spec_cpWays waysOf
    rw [idx_zero, hc, Option.bind_some, mkL_nat (by omega), Option.bind_some]
    rw [he] at this ⊢
    exact ⟨this.1, by rw [this.2]; exact hu⟩
  · have hlen := moves_len' f hp
    have hsq : (squaresOf x p).length = (chartAt x 0).length := by unfold squaresOf; rw [List.length_map, hlen]
    have key : ∀ (ks : List Nat) (s : List Int), (ks.foldl (fun s k => addStep (squaresOf x p) k s) s).length = s.length := by
      intro ks
      induction ks with
      | nil => intro s; rfl
      | cons k ks ih => intro s; rw [List.foldl_cons, ih, addStep_len]
    unfold addTo
    rw [key, hi]
  · have hlen := moves_len' f hp
    have hsq : (squaresOf x p).length = (chartAt x 0).length := by unfold squaresOf; rw [List.length_map, hlen]
    rw [F_spec_cpWays_L1, if_pos (by simp; omega), spec_cpSquares x f p hp, Option.bind_some]
    have := (add_loop (F_spec_cpWays_L2 (squaresOf x p) (F_spec_cpWays_L1 x m) (p : Int)) (squaresOf x p) s (fun s => F_spec_cpWays_L1 x m s ((p + 1 : Nat) : Int)) (by rw [hsq, he]; omega) (by omega) (fun m' s' k a u hk ha hu => ?_) (fun m' s' => ?_)).1
    · exact this
    · rw [F_spec_cpWays_L2, if_pos (by simp; omega), idx_nat, hu, Option.bind_some, idx_nat, ha, Option.bind_some, Option.bind_some, seti_nat, w64_succ (k := k) (by rw [hsq, he] at hk; omega)]
    · rw [F_spec_cpWays_L2, if_neg (by simp), w64_succ (by omega)]
  · rw [F_spec_cpWays_L1, if_neg (by simp)]
theorem impl_waySums (x : ShowT) (f : ShowFacts x) : F_impl_waySums x = some (waysOf x) := by
  have h1 := f.n1
  have h2 := f.nc
  obtain ⟨c, hc, he, hl, hu⟩ := first_chart f
  have := loopS (F_impl_waySums_L1 x) x.2.1.length (fun p s => addTo (squaresOf x p) s) some (by omega) (fun _ s => s.length = (chartAt x 0).length) (List.replicate (chartAt x 0).length 0) (by simp) (fun p s hp hi => ?_) (fun m p s hp hi => ?_) (fun m s _ => ?_)
  · unfold F_impl_waySums waysOf
    rw [idx_zero, hc, Option.bind_some, mkL_nat (by omega), Option.bind_some]
    rw [he] at this ⊢
    exact this.1
  · have hlen := moves_len' f hp
    have key : ∀ (ks : List Nat) (s : List Int), (ks.foldl (fun s k => addStep (squaresOf x p) k s) s).length = s.length := by
      intro ks
      induction ks with
      | nil => intro s; rfl
      | cons k ks ih => intro s; rw [List.foldl_cons, ih, addStep_len]
    unfold addTo
    rw [key, hi]
  · have hlen := moves_len' f hp
    have hsq : (squaresOf x p).length = (movesOf x p).length := by unfold squaresOf; rw [List.length_map]
    rw [F_impl_waySums_L1, if_pos (by simp; omega), impl_showMoves x f p hp, Option.bind_some]
    have := (add_loop (F_impl_waySums_L2 (movesOf x p) (F_impl_waySums_L1 x m) (p : Int)) (squaresOf x p) s (fun s => F_impl_waySums_L1 x m s ((p + 1 : Nat) : Int)) (by rw [hsq, hlen, he]; omega) (by omega) (fun m' s' k a u hk ha hu => ?_) (fun m' s' => ?_)).1
    · exact this
    · have hk' : k < (movesOf x p).length := by omega
      have hm : (movesOf x p)[k]? = some (movesOf x p)[k] := List.getElem?_eq_getElem hk'
      have hsm : u = sqM (movesOf x p)[k] := by
        unfold squaresOf at hu
        rw [List.getElem?_map, hm] at hu
        exact (Option.some.inj hu).symm
      rw [F_impl_waySums_L2, if_pos (by simp; omega)]
      unfold jK1
      dsimp only
      rw [idx_nat, hm, Option.bind_some, idx_nat, ha, Option.bind_some, impl_squareOf, Option.bind_some, Option.bind_some, seti_nat, w64_succ (k := k) (by rw [hlen, he] at hk'; omega), hsm]
      rfl
    · rw [hsq, F_impl_waySums_L2, if_neg (by simp), w64_succ (by omega)]
  · rw [F_impl_waySums_L1, if_neg (by simp)]
def waysAns (x : ShowT) : List Int × Bool := if okShow x then (waysOf x, true) else ([], false)
theorem spec_WaySums (x : ShowT) (h : lensOk x) : F_spec_WaySums x = some (waysAns x) := by
  unfold F_spec_WaySums waysAns
  rw [spec_swGood x h.1 h.2.1 h.2.2, Option.bind_some]
  cases hs : okShow x with
  | false => simp
  | true => simp [(spec_cpWays x (facts hs)).1]
theorem impl_WaySums (x : ShowT) (h : lensOk x) : F_impl_WaySums x = some (waysAns x) := by
  unfold F_impl_WaySums waysAns
  rw [impl_IsShow x h.1 h.2.1 h.2.2, Option.bind_some]
  cases hs : okShow x with
  | false => simp
  | true => simp [impl_waySums x (facts hs)]
theorem waysOf_len {x : ShowT} (f : ShowFacts x) : (waysOf x).length ≤ 12 := by
  obtain ⟨c, hc, he, hl, hu⟩ := first_chart f
  have key : ∀ (sq : List Int) (ks : List Nat) (s : List Int), (ks.foldl (fun s k => addStep sq k s) s).length = s.length := by
    intro sq ks
    induction ks with
    | nil => intro s; rfl
    | cons k ks ih => intro s; rw [List.foldl_cons, ih, addStep_len]
  have key2 : ∀ (ps : List Nat) (s : List Int), (ps.foldl (fun s p => addTo (squaresOf x p) s) s).length = s.length := by
    intro ps
    induction ps with
    | nil => intro s; rfl
    | cons p ps ih => intro s; rw [List.foldl_cons, ih]; unfold addTo; rw [key]
  unfold waysOf
  rw [key2, List.length_replicate, he]
  exact hu
theorem waysAns_len (x : ShowT) : (waysAns x).1.length ≤ 12 := by
  unfold waysAns
  cases hs : okShow x with
  | false => simp
  | true => exact waysOf_len (facts hs)
end Go.Proofs.Ytmkignciedkidaa
/-
  HOW NEAR TWO MOVES COME, PLAIN.
-/
set_option linter.unusedSimpArgs false
set_option linter.unusedVariables false
namespace Go.Proofs.Ytmkignciedkidaa
open Go
theorem mulB {x y A B : Int} (h1 : -A ≤ x) (h2 : x ≤ A) (h3 : -B ≤ y) (h4 : y ≤ B) : -(A * B) ≤ x * y ∧ x * y ≤ A * B := by
  have h : (x * y).natAbs ≤ A.toNat * B.toNat := by rw [Int.natAbs_mul]; exact Nat.mul_le_mul (by omega) (by omega)
  have e : ((A.toNat * B.toNat : Nat) : Int) = A * B := by
    rw [Int.natCast_mul, Int.toNat_of_nonneg (by omega), Int.toNat_of_nonneg (by omega)]
  omega
/-- A fraction in lowest terms. -/
def low (a b : Int) : Int × Int := (w64 (Int.tdiv a (Nat.gcd a.toNat b.toNat : Int)), w64 (Int.tdiv b (Nat.gcd a.toNat b.toNat : Int)))
theorem gcd_loop : ∀ (y x m : Nat), y < m → F_impl_gcdOf_L1 m (x : Int) (y : Int) = some ((Nat.gcd x y : Nat) : Int) := by
  intro y
  induction y using Nat.strongRecOn with
  | _ y ih =>
    intro x m hm
    cases m with
    | zero => omega
    | succ m =>
      rw [F_impl_gcdOf_L1]
      by_cases h : y = 0
      · subst h
        simp
      · have hy : ((y : Int) != 0) = true := by simp; omega
        have hy' : ¬ (y : Int) = 0 := by omega
        rw [if_pos hy, if_neg hy', ← Int.ofNat_tmod, ih (x % y) (Nat.mod_lt _ (by omega)) y m (by have := Nat.mod_lt x (show 0 < y by omega); omega)]
        congr 2
        rw [Nat.gcd_comm x y, Nat.gcd_rec y x]
        exact Nat.gcd_comm _ _
theorem part_loop (a b : Int) : ∀ (y x m : Nat), y < m → 0 < Nat.gcd x y → F_spec_mvPart_L1 a b m (x : Int) (y : Int) = some (w64 (Int.tdiv a (Nat.gcd x y : Int)), w64 (Int.tdiv b (Nat.gcd x y : Int))) := by
  intro y
  induction y using Nat.strongRecOn with
  | _ y ih =>
    intro x m hm hg
    cases m with
    | zero => omega
    | succ m =>
      rw [F_spec_mvPart_L1]
      by_cases h : y = 0
      · subst h
        have hx : ¬ x = 0 := by simp at hg; omega
        simp [hx]
      · have hy : decide (0 < (y : Int)) = true := by simp; omega
        have hy' : ¬ (y : Int) = 0 := by omega
        have e : Nat.gcd x y = Nat.gcd y (x % y) := by rw [Nat.gcd_comm x y, Nat.gcd_rec y x]; exact Nat.gcd_comm _ _
        rw [if_pos hy, if_neg hy', ← Int.ofNat_tmod, ih (x % y) (Nat.mod_lt _ (by omega)) y m (by have := Nat.mod_lt x (show 0 < y by omega); omega) (by rw [← e]; exact hg), e]
theorem impl_lowestTerms (a b : Int) (ha : 0 ≤ a) (ha2 : a ≤ 1000000000000000) (hb : 0 < b) (hb2 : b ≤ 1000000000000000) : F_impl_lowestTerms a b = some (low a b) := by
  unfold F_impl_lowestTerms F_impl_gcdOf low
  have e1 : maxI a (w64 (0 - a)) = ((a.toNat : Nat) : Int) := by unfold maxI; rw [w64_eq (by omega) (by omega)]; split <;> omega
  have e2 : maxI b (w64 (0 - b)) = ((b.toNat : Nat) : Int) := by unfold maxI; rw [w64_eq (by omega) (by omega)]; split <;> omega
  rw [e1, e2, gcd_loop b.toNat a.toNat FU (FU_gt (by omega)), Option.bind_some]
  have hg : 0 < Nat.gcd a.toNat b.toNat := Nat.gcd_pos_of_pos_right _ (by omega)
  have hg' : ¬ ((Nat.gcd a.toNat b.toNat : Nat) : Int) = 0 := by omega
  rw [if_neg hg', if_neg hg']
theorem spec_mvPart (a b : Int) (ha : 0 ≤ a) (ha2 : a ≤ 1000000000000000) (hb : 0 < b) (hb2 : b ≤ 1000000000000000) : F_spec_mvPart a b = some (low a b) := by
  unfold F_spec_mvPart F_spec_l1Abs F_spec_l1Most low
  have e1 : (if decide (w64 (0 - a) < a) = true then some a else some (w64 (0 - a))) = some ((a.toNat : Nat) : Int) := by
    rw [w64_eq (by omega) (by omega)]
    by_cases h : 0 - a < a
    · rw [if_pos (by simp; omega)]; congr 1; omega
    · rw [if_neg (by simp; omega)]; congr 1; omega
  have e2 : b = ((b.toNat : Nat) : Int) := by omega
  rw [e1, Option.bind_some, Option.bind_some]
  have hg : 0 < Nat.gcd a.toNat b.toNat := Nat.gcd_pos_of_pos_right _ (by omega)
  have := part_loop a b b.toNat a.toNat FU (FU_gt (by omega)) hg
  rw [← e2] at this
  exact this
/-- The least square of a way from p to q and where it is. -/
def nearV (px py qx qy : Int) : Int × Int :=
  if 0 ≤ px * (qx - px) + py * (qy - py) then (px * px + py * py, 1)
  else if (qx - px) * (qx - px) + (qy - py) * (qy - py) ≤ 0 - (px * (qx - px) + py * (qy - py)) then (qx * qx + qy * qy, 1)
  else low ((px * qy - py * qx) * (px * qy - py * qx)) ((qx - px) * (qx - px) + (qy - py) * (qy - py))
def near (a b : MoveT) : Int × Int := nearV (a.1.1 - b.1.1) (a.1.2 - b.1.2) (a.2.1.1 - b.2.1.1) (a.2.1.2 - b.2.1.2)
structure InB (px py qx qy : Int) : Prop where
  a1 : -1280 ≤ px
  a2 : px ≤ 1280
  b1 : -672 ≤ py
  b2 : py ≤ 672
  c1 : -1280 ≤ qx
  c2 : qx ≤ 1280
  d1 : -672 ≤ qy
  d2 : qy ≤ 672
theorem sqB {x A : Int} (h1 : -A ≤ x) (h2 : x ≤ A) : 0 ≤ x * x ∧ x * x ≤ A * A := by
  have := mulB h1 h2 h1 h2
  refine ⟨?_, this.2⟩
  have : (0 : Int) ≤ ((x.natAbs * x.natAbs : Nat) : Int) := Int.natCast_nonneg _
  rwa [Int.natAbs_mul_self] at this
structure NearB (px py qx qy : Int) : Prop where
  m1 : -3276800 ≤ px * (qx - px) ∧ px * (qx - px) ≤ 3276800
  m2 : -903168 ≤ py * (qy - py) ∧ py * (qy - py) ≤ 903168
  m3 : 0 ≤ (qx - px) * (qx - px) ∧ (qx - px) * (qx - px) ≤ 6553600
  m4 : 0 ≤ (qy - py) * (qy - py) ∧ (qy - py) * (qy - py) ≤ 1806336
  m5 : 0 ≤ px * px ∧ px * px ≤ 1638400
  m6 : 0 ≤ py * py ∧ py * py ≤ 451584
  m7 : 0 ≤ qx * qx ∧ qx * qx ≤ 1638400
  m8 : 0 ≤ qy * qy ∧ qy * qy ≤ 451584
  m9 : -860160 ≤ px * qy ∧ px * qy ≤ 860160
  m10 : -860160 ≤ py * qx ∧ py * qx ≤ 860160
  m11 : 0 ≤ (px * qy - py * qx) * (px * qy - py * qx) ∧ (px * qy - py * qx) * (px * qy - py * qx) ≤ 2959500902400
theorem nearB {px py qx qy : Int} (h : InB px py qx qy) : NearB px py qx qy := by
  obtain ⟨a1, a2, b1, b2, c1, c2, d1, d2⟩ := h
  have m9 := mulB a1 a2 d1 d2
  have m10 := mulB b1 b2 c1 c2
  have m11 := sqB (x := px * qy - py * qx) (A := 1720320) (by omega) (by omega)
  exact ⟨mulB (A := 1280) (B := 2560) a1 a2 (by omega) (by omega), mulB (A := 672) (B := 1344) b1 b2 (by omega) (by omega), sqB (A := 2560) (by omega) (by omega), sqB (A := 1344) (by omega) (by omega), sqB a1 a2, sqB b1 b2, sqB c1 c2, sqB d1 d2, by omega, by omega, by omega⟩
theorem inB {a b : MoveT} (ha : okSpot a.1 = true) (ha2 : okSpot a.2.1 = true) (hb : okSpot b.1 = true) (hb2 : okSpot b.2.1 = true) : InB (a.1.1 - b.1.1) (a.1.2 - b.1.2) (a.2.1.1 - b.2.1.1) (a.2.1.2 - b.2.1.2) := by
  unfold okSpot at ha ha2 hb hb2
  rw [Bool.and_eq_true, okIn_iff, okIn_iff] at ha ha2 hb hb2
  refine ⟨by omega, by omega, by omega, by omega, by omega, by omega, by omega, by omega⟩
theorem impl_leastApart (a b : MoveT) (ha : okSpot a.1 = true) (ha2 : okSpot a.2.1 = true) (hb : okSpot b.1 = true) (hb2 : okSpot b.2.1 = true) : F_impl_leastApart a b = some (near a b) := by
  have hI := inB ha ha2 hb hb2
  unfold F_impl_leastApart F_impl_between F_impl_squareOf near
  generalize a.1.1 - b.1.1 = px at *
  generalize a.1.2 - b.1.2 = py at *
  generalize a.2.1.1 - b.2.1.1 = qx at *
  generalize a.2.1.2 - b.2.1.2 = qy at *
  obtain ⟨m1, m2, m3, m4, m5, m6, m7, m8, m9, m10, m11⟩ := nearB hI
  obtain ⟨a1, a2, b1, b2, c1, c2, d1, d2⟩ := hI
  have k : (px * (qy - py) - py * (qx - px)) = px * qy - py * qx := by
    rw [Int.mul_sub, Int.mul_sub, Int.mul_comm px py]; omega
  have kb1 := mulB (x := px) (y := qy - py) (A := 1280) (B := 1344) a1 a2 (by omega) (by omega)
  have kb2 := mulB (x := py) (y := qx - px) (A := 672) (B := 2560) b1 b2 (by omega) (by omega)
  simp only [Option.bind_some, w64_eq (x := px) (by omega) (by omega), w64_eq (x := py) (by omega) (by omega), w64_eq (x := qx) (by omega) (by omega), w64_eq (x := qy) (by omega) (by omega),
    w64_eq (x := qx - px) (by omega) (by omega), w64_eq (x := qy - py) (by omega) (by omega), w64_eq (x := px * (qx - px)) (by omega) (by omega), w64_eq (x := py * (qy - py)) (by omega) (by omega),
    w64_eq (x := px * (qx - px) + py * (qy - py)) (by omega) (by omega), w64_eq (x := 0 - (px * (qx - px) + py * (qy - py))) (by omega) (by omega),
    w64_eq (x := (qx - px) * (qx - px)) (by omega) (by omega), w64_eq (x := (qy - py) * (qy - py)) (by omega) (by omega), w64_eq (x := (qx - px) * (qx - px) + (qy - py) * (qy - py)) (by omega) (by omega),
    w64_eq (x := px * px) (by omega) (by omega), w64_eq (x := py * py) (by omega) (by omega), w64_eq (x := px * px + py * py) (by omega) (by omega),
    w64_eq (x := qx * qx) (by omega) (by omega), w64_eq (x := qy * qy) (by omega) (by omega), w64_eq (x := qx * qx + qy * qy) (by omega) (by omega),
    w64_eq (x := px * (qy - py)) (by omega) (by omega), w64_eq (x := py * (qx - px)) (by omega) (by omega), k, w64_eq (x := px * qy - py * qx) (by omega) (by omega), w64_eq (x := (px * qy - py * qx) * (px * qy - py * qx)) (by omega) (by omega)]
  unfold nearV
  by_cases h1 : 0 ≤ px * (qx - px) + py * (qy - py)
  · rw [if_pos (by simpa using h1), if_pos h1]
  · rw [if_neg (by simpa using h1), if_neg h1]
    by_cases h2 : (qx - px) * (qx - px) + (qy - py) * (qy - py) ≤ 0 - (px * (qx - px) + py * (qy - py))
    · rw [if_pos (by simpa using h2), if_pos h2]
    · rw [if_neg (by simpa using h2), if_neg h2, impl_lowestTerms _ _ (by omega) (by omega) (by omega) (by omega)]
      rfl
theorem spec_apLeast (a b : MoveT) (ha : okSpot a.1 = true) (ha2 : okSpot a.2.1 = true) (hb : okSpot b.1 = true) (hb2 : okSpot b.2.1 = true) : F_spec_apLeast a b = some (near a b) := by
  have hI := inB ha ha2 hb hb2
  unfold F_spec_apLeast F_spec_apInner F_spec_apEnds near jK1
  generalize a.1.1 - b.1.1 = px at *
  generalize a.1.2 - b.1.2 = py at *
  generalize a.2.1.1 - b.2.1.1 = qx at *
  generalize a.2.1.2 - b.2.1.2 = qy at *
  obtain ⟨m1, m2, m3, m4, m5, m6, m7, m8, m9, m10, m11⟩ := nearB hI
  obtain ⟨a1, a2, b1, b2, c1, c2, d1, d2⟩ := hI
  simp only [Option.bind_some, w64_eq (x := px) (by omega) (by omega), w64_eq (x := py) (by omega) (by omega), w64_eq (x := qx) (by omega) (by omega), w64_eq (x := qy) (by omega) (by omega),
    w64_eq (x := qx - px) (by omega) (by omega), w64_eq (x := qy - py) (by omega) (by omega), w64_eq (x := px * (qx - px)) (by omega) (by omega), w64_eq (x := py * (qy - py)) (by omega) (by omega),
    w64_eq (x := px * (qx - px) + py * (qy - py)) (by omega) (by omega), w64_eq (x := 0 - (px * (qx - px) + py * (qy - py))) (by omega) (by omega),
    w64_eq (x := (qx - px) * (qx - px)) (by omega) (by omega), w64_eq (x := (qy - py) * (qy - py)) (by omega) (by omega), w64_eq (x := (qx - px) * (qx - px) + (qy - py) * (qy - py)) (by omega) (by omega),
    w64_eq (x := px * px) (by omega) (by omega), w64_eq (x := py * py) (by omega) (by omega), w64_eq (x := px * px + py * py) (by omega) (by omega),
    w64_eq (x := qx * qx) (by omega) (by omega), w64_eq (x := qy * qy) (by omega) (by omega), w64_eq (x := qx * qx + qy * qy) (by omega) (by omega),
    w64_eq (x := px * qy) (by omega) (by omega), w64_eq (x := py * qx) (by omega) (by omega), w64_eq (x := px * qy - py * qx) (by omega) (by omega), w64_eq (x := (px * qy - py * qx) * (px * qy - py * qx)) (by omega) (by omega)]
  have q1 : qx * qx = px * px + 2 * (px * (qx - px)) + (qx - px) * (qx - px) := by
    have : qx * qx = (px + (qx - px)) * (px + (qx - px)) := by rw [show px + (qx - px) = qx by omega]
    rw [this, Int.add_mul, Int.mul_add, Int.mul_add, Int.mul_comm (qx - px) px]; omega
  have q2 : qy * qy = py * py + 2 * (py * (qy - py)) + (qy - py) * (qy - py) := by
    have : qy * qy = (py + (qy - py)) * (py + (qy - py)) := by rw [show py + (qy - py) = qy by omega]
    rw [this, Int.add_mul, Int.mul_add, Int.mul_add, Int.mul_comm (qy - py) py]; omega
  unfold nearV F_spec_l1Least
  generalize hd : px * (qx - px) + py * (qy - py) = dot at *
  generalize hz : (qx - px) * (qx - px) + (qy - py) * (qy - py) = size at *
  by_cases h1 : 0 ≤ dot
  · have h1' : 0 - dot ≤ 0 := by omega
    rw [if_pos h1]
    simp only [h1', decide_true, if_true, Option.bind_some]
    rw [if_neg (by simp)]
    by_cases h3 : px * px + py * py < qx * qx + qy * qy
    · rw [if_pos (by simpa using h3)]; rfl
    · rw [if_neg (by simpa using h3), Option.bind_some]
      have : qx * qx + qy * qy = px * px + py * py := by omega
      rw [this]
  · have h1' : ¬ 0 - dot ≤ 0 := by omega
    rw [if_neg h1]
    by_cases h2 : size ≤ 0 - dot
    · rw [if_pos h2]
      simp only [h1', h2, decide_true, decide_false, Bool.false_eq_true, if_false, if_true, Option.bind_some]
      rw [if_neg (by simp), if_neg (by simp; omega)]
      rfl
    · rw [if_neg h2]
      simp only [h1', h2, decide_true, decide_false, Bool.false_eq_true, if_false, if_true, Option.bind_some]
      rw [if_pos (by simp; omega), spec_mvPart _ _ (by omega) (by omega) (by omega) (by omega)]
      rfl
end Go.Proofs.Ytmkignciedkidaa
/-
  FRACTIONS COMPARED, PLAIN: by products of two words, and by quotients and rests.
-/
set_option linter.unusedSimpArgs false
set_option linter.unusedVariables false
namespace Go.Proofs.Ytmkignciedkidaa
open Go
theorem wu64_eq {x : Int} (h1 : 0 ≤ x) (h2 : x < 18446744073709551616) : wu64 x = x := by
  unfold wu64 IntKind.wrap
  simp only [IntKind.bits, IntKind.signed]
  simp only [ge_iff_le, Bool.false_and, Bool.false_eq_true, if_false]
  omega
theorem wu64_mod (x : Int) : wu64 x = x % 18446744073709551616 := by
  unfold wu64 IntKind.wrap
  simp only [IntKind.bits, IntKind.signed]
  simp only [ge_iff_le, Bool.false_and, Bool.false_eq_true, if_false]
  omega
theorem shr32 (n : Nat) : shrK .u64 (n : Int) 32 = ((n / 4294967296 : Nat) : Int) := by
  unfold shrK
  have e : (2 : Int) ^ (min (32 : Int).toNat IntKind.u64.bits) = 4294967296 := by decide
  rw [e, Int.fdiv_eq_ediv_of_nonneg _ (by decide)]
  omega
theorem and32 (n : Nat) (h : n < 18446744073709551616) : andK .u64 (n : Int) 4294967295 = ((n % 4294967296 : Nat) : Int) := by
  have e1 : BitVec.ofInt 64 (n : Int) = BitVec.ofNat 64 n := BitVec.ofInt_natCast ..
  have e2 : BitVec.ofInt 64 4294967295 = BitVec.ofNat 64 4294967295 := rfl
  have e3 : (BitVec.ofNat 64 n &&& BitVec.ofNat 64 4294967295).toNat = n % 4294967296 := by
    rw [BitVec.toNat_and, BitVec.toNat_ofNat, BitVec.toNat_ofNat, Nat.mod_eq_of_lt (show n < 2 ^ 64 by omega), Nat.mod_eq_of_lt (show 4294967295 < 2 ^ 64 by omega)]
    exact Nat.and_two_pow_sub_one_eq_mod n 32
  show wu64 ((BitVec.ofInt 64 (n : Int) &&& BitVec.ofInt 64 4294967295).toNat : Int) = _
  rw [e1, e2, e3, wu64_eq (by omega) (by omega)]
theorem bits_Mul64 (x y : Nat) (hx : x < 18446744073709551616) (hy : y < 18446744073709551616) : F_bits_Mul64 (x : Int) (y : Int) = some (((x * y / 18446744073709551616 : Nat) : Int), ((x * y % 18446744073709551616 : Nat) : Int)) := by
  obtain ⟨h1, h2, h3, h4⟩ := Go.Lib.mul64_hi x y hx hy
  have hlt : x * y / 18446744073709551616 < 18446744073709551616 := by
    have : x * y < 18446744073709551616 * 18446744073709551616 := Nat.mul_lt_mul'' hx hy
    omega
  unfold F_bits_Mul64
  rw [shr32, shr32, and32 x hx, and32 y hy]
  simp only [← Int.natCast_mul, wu64_eq (x := ((x % 4294967296 * (y % 4294967296) : Nat) : Int)) (by omega) (by omega), shr32]
  have ha := Go.Lib.half_mul_le (a := x / 4294967296) (b := y / 4294967296) (by omega) (by omega)
  have hb := Go.Lib.half_mul_le (a := x / 4294967296) (b := y % 4294967296) (by omega) (by omega)
  have hc := Go.Lib.half_mul_le (a := x % 4294967296) (b := y / 4294967296) (by omega) (by omega)
  rw [wu64_mod ((x * y : Nat) : Int)]
  generalize (x / 4294967296) * (y / 4294967296) = A at *
  generalize (x / 4294967296) * (y % 4294967296) = B at *
  generalize (x % 4294967296) * (y / 4294967296) = C at *
  generalize (x % 4294967296) * (y % 4294967296) = D at *
  rw [wu64_eq (x := (A : Int)) (by omega) (by omega), wu64_eq (x := (B : Int)) (by omega) (by omega), wu64_eq (x := (C : Int)) (by omega) (by omega)]
  simp only [← Int.natCast_add]
  rw [wu64_eq (x := ((B + D / 4294967296 : Nat) : Int)) (by omega) (by omega), shr32, and32 _ h2]
  simp only [← Int.natCast_add]
  rw [wu64_eq (x := (((B + D / 4294967296) % 4294967296 + C : Nat) : Int)) (by omega) (by omega), shr32, wu64_eq (x := ((A + (B + D / 4294967296) / 4294967296 : Nat) : Int)) (by omega) (by omega)]
  simp only [← Int.natCast_add]
  rw [wu64_eq (by omega) (by omega)]
  congr 2
  omega
theorem cmp128 (P Q : Nat) : (if decide (((P / 18446744073709551616 : Nat) : Int) < ((Q / 18446744073709551616 : Nat) : Int)) = true then some true
    else if (((P / 18446744073709551616 : Nat) : Int) == ((Q / 18446744073709551616 : Nat) : Int)) = true then some (decide (((P % 18446744073709551616 : Nat) : Int) < ((Q % 18446744073709551616 : Nat) : Int))) else some false) = some (decide ((P : Int) < (Q : Int))) := by
  by_cases h1 : P / 18446744073709551616 < Q / 18446744073709551616
  · rw [if_pos (by simp; omega)]
    congr 1
    symm
    simp
    omega
  · rw [if_neg (by simp; omega)]
    by_cases h2 : P / 18446744073709551616 = Q / 18446744073709551616
    · rw [if_pos (by simp; omega)]
      congr 1
      rw [Bool.eq_iff_iff]
      simp
      omega
    · rw [if_neg (by simp; omega)]
      congr 1
      symm
      simp
      omega
/-- a / b is less than c / d. -/
def lessF (a b c d : Int) : Bool := decide (a * d < c * b)
theorem impl_lessFraction (a b c d : Int) (ha : 0 ≤ a) (ha2 : a < 18446744073709551616) (hb : 0 ≤ b) (hb2 : b < 18446744073709551616) (hc : 0 ≤ c) (hc2 : c < 18446744073709551616) (hd : 0 ≤ d) (hd2 : d < 18446744073709551616) :
    F_impl_lessFraction a b c d = some (lessF a b c d) := by
  obtain ⟨a, rfl⟩ := Int.eq_ofNat_of_zero_le ha
  obtain ⟨b, rfl⟩ := Int.eq_ofNat_of_zero_le hb
  obtain ⟨c, rfl⟩ := Int.eq_ofNat_of_zero_le hc
  obtain ⟨d, rfl⟩ := Int.eq_ofNat_of_zero_le hd
  unfold F_impl_lessFraction jK1 lessF
  rw [wu64_eq ha ha2, wu64_eq hd hd2, wu64_eq hc hc2, wu64_eq hb hb2, bits_Mul64 a d (by omega) (by omega), Option.bind_some, bits_Mul64 c b (by omega) (by omega), Option.bind_some]
  simp only [← Int.natCast_mul]
  exact cmp128 _ _
theorem spec_apLess (a b c d : Int) (ha : 0 ≤ a) (ha2 : a ≤ 1000000000000000) (hb : 0 < b) (hb2 : b ≤ 1000000000) (hc : 0 ≤ c) (hc2 : c ≤ 1000000000000000) (hd : 0 < d) (hd2 : d ≤ 1000000000) :
    F_spec_apLess a b c d = some (lessF a b c d) := by
  have hb0 : ¬ b = 0 := by omega
  have hd0 : ¬ d = 0 := by omega
  unfold F_spec_apLess lessF
  rw [if_neg hb0, if_neg hd0, if_neg hb0, if_neg hd0, if_neg hb0, if_neg hd0, Int.tdiv_eq_ediv_of_nonneg ha, Int.tdiv_eq_ediv_of_nonneg hc, Int.tmod_eq_emod_of_nonneg ha, Int.tmod_eq_emod_of_nonneg hc]
  have e1 := Int.emod_add_mul_ediv a b
  have e2 := Int.emod_add_mul_ediv c d
  have r1 := Int.emod_nonneg a hb0
  have r2 := Int.emod_lt_of_pos a hb
  have r3 := Int.emod_nonneg c hd0
  have r4 := Int.emod_lt_of_pos c hd
  have q1 := Int.ediv_nonneg ha (Int.le_of_lt hb)
  have q2 := Int.ediv_nonneg hc (Int.le_of_lt hd)
  have q3 : a / b ≤ a := Int.ediv_le_self _ ha
  have q4 : c / d ≤ c := Int.ediv_le_self _ hc
  generalize a / b = p at *
  generalize c / d = q at *
  generalize a % b = r at *
  generalize c % d = s at *
  have hP : 0 < b * d := Int.mul_pos hb hd
  have hPm : b * d ≤ 1000000000 * 1000000000 := Int.mul_le_mul hb2 hd2 (by omega) (by omega)
  have f1 : a * d = r * d + b * d * p := by rw [← e1, Int.add_mul, Int.mul_assoc, Int.mul_assoc, Int.mul_comm p d]
  have f2 : c * b = s * b + b * d * q := by rw [← e2, Int.add_mul, Int.mul_comm b d, Int.mul_assoc, Int.mul_assoc, Int.mul_comm q b]
  have g1 : 0 ≤ r * d := Int.mul_nonneg r1 (by omega)
  have g2 : r * d < b * d := Int.mul_lt_mul_of_pos_right r2 hd
  have g3 : 0 ≤ s * b := Int.mul_nonneg r3 (by omega)
  have g4 : s * b < d * b := Int.mul_lt_mul_of_pos_right r4 hb
  rw [Int.mul_comm d b] at g4
  have m1 : ∀ x y : Int, x + 1 ≤ y → b * d * x + b * d ≤ b * d * y := fun x y h => by
    have := Int.mul_le_mul_of_nonneg_left h (Int.le_of_lt hP)
    rwa [Int.mul_add, Int.mul_one] at this
  rw [w64_eq (x := p) (by omega) (by omega), w64_eq (x := q) (by omega) (by omega), w64_eq (x := r * d) (by omega) (by omega), w64_eq (x := s * b) (by omega) (by omega)]
  by_cases h1 : p = q
  · subst h1
    rw [if_neg (by simp)]
    congr 1
    rw [Bool.eq_iff_iff]
    simp
    omega
  · rw [if_pos (by simpa using h1)]
    congr 1
    rw [Bool.eq_iff_iff]
    simp
    rcases Int.lt_or_gt_of_ne h1 with h2 | h2
    · have := m1 p q (by omega)
      omega
    · have := m1 q p (by omega)
      omega
end Go.Proofs.Ytmkignciedkidaa
/-
  PAIRS THAT COME TOO CLOSE, PARTS THAT ARE NOT SAFE, PLAIN.
-/
set_option linter.unusedSimpArgs false
set_option linter.unusedVariables false
namespace Go.Proofs.Ytmkignciedkidaa
open Go
/-- A loop from k on that keeps what p takes. -/
theorem loopFrom {β R : Type} (f : Nat → List β → Int → Option R) (n B : Nat) (p : Nat → Bool) (g : Nat → β) (rest : List β → Option R) (hn : n < 4611686018427387904)
    (hs : ∀ m s k, k < n → s.length < B → f (m + 1) s (k : Int) = f m (if p k then s ++ [g k] else s) ((k + 1 : Nat) : Int)) (he : ∀ m s, f (m + 1) s (n : Int) = rest s) :
    ∀ (k : Nat) (s : List β), k ≤ n → s.length + (n - k) ≤ B → f FU s (k : Int) = rest (s ++ ((List.range' k (n - k)).filter p).map g) := by
  have key : ∀ d k m s, n - k = d → k ≤ n → n - k < m → s.length + (n - k) ≤ B → f m s (k : Int) = rest (s ++ ((List.range' k (n - k)).filter p).map g) := by
    intro d
    induction d with
    | zero =>
      intro k m s hd hk hm hb
      have : k = n := by omega
      subst this
      cases m with
      | zero => omega
      | succ m => rw [he]; simp
    | succ d ih =>
      intro k m s hd hk hm hb
      cases m with
      | zero => omega
      | succ m =>
        rw [hs m s k (by omega) (by omega), hd, List.range'_succ, List.filter_cons]
        cases hp : p k with
        | false =>
          simp only [Bool.false_eq_true, if_false]
          rw [ih (k + 1) m s (by omega) (by omega) (by omega) (by omega), show n - (k + 1) = d by omega]
        | true =>
          simp only [if_true, List.map_cons]
          rw [ih (k + 1) m (s ++ [g k]) (by omega) (by omega) (by omega) (by simp; omega), show n - (k + 1) = d by omega]
          simp
  exact fun k s hk hb => key _ k FU s rfl hk (FU_gt (by omega)) hb
def stay (u v : MoveT) (least : Int) : Bool := decide (w64 (w64 (least * least) * (near u v).2) ≤ (near u v).1)
def goodMove (u : MoveT) : Prop := okSpot u.1 = true ∧ okSpot u.2.1 = true
theorem impl_stayApart (u v : MoveT) (least : Int) (hu : goodMove u) (hv : goodMove v) : F_impl_stayApart u v least = some (stay u v least) := by
  unfold F_impl_stayApart stay
  rw [impl_leastApart u v hu.1 hu.2 hv.1 hv.2]
  rfl
def stayAt (ms : List MoveT) (least : Int) (i k : Nat) : Bool := match ms[i]?, ms[k]? with
  | some u, some v => stay u v least
  | _, _ => true
def closeRow (ms : List MoveT) (least : Int) (i : Nat) : List (List Int) := ((List.range' (i + 1) (ms.length - (i + 1))).filter fun k => !stayAt ms least i k).map fun (k : Nat) => [(i : Int), (k : Int)]
def closeOf (ms : List MoveT) (least : Int) : List (List Int) := (List.range ms.length).foldl (fun s i => s ++ closeRow ms least i) []
theorem closeRow_len (ms : List MoveT) (least : Int) (i : Nat) : (closeRow ms least i).length ≤ ms.length := by
  unfold closeRow
  rw [List.length_map]
  refine Nat.le_trans (List.length_filter_le _ _) ?_
  simp
theorem close_loop (f : Nat → List (List Int) → Int → Option (List (List Int))) (ms : List MoveT) (least : Int) (hl : ms.length ≤ 1000)
    (hs : ∀ m s i, i < ms.length → s.length ≤ 1000 * i → f (m + 1) s (i : Int) = f m (s ++ closeRow ms least i) ((i + 1 : Nat) : Int)) (he : ∀ m s, f (m + 1) s (ms.length : Int) = some s) :
    f FU [] 0 = some (closeOf ms least) ∧ (closeOf ms least).length ≤ 1000 * ms.length := by
  have := loopS f ms.length (fun i s => s ++ closeRow ms least i) some (by omega) (fun i s => s.length ≤ 1000 * i) [] (by simp) (fun i s hi h => by have := closeRow_len ms least i; rw [List.length_append]; omega) (fun m i s hi h => hs m s i hi h) (fun m s _ => he m s)
  exact this
theorem impl_pairsTooClose (ms : List MoveT) (least : Int) (hl : ms.length ≤ 1000) (hg : ∀ u ∈ ms, goodMove u) : F_impl_pairsTooClose ms least = some (closeOf ms least) := by
  unfold F_impl_pairsTooClose
  refine (close_loop (F_impl_pairsTooClose_L1 ms least) ms least hl (fun m s i hi hsl => ?_) (fun m s => ?_)).1
  · have hmul : 1000 * i ≤ 1000000 := by omega
    rw [F_impl_pairsTooClose_L1, if_pos (by simp; omega), w64_succ (by omega), loopFrom (F_impl_pairsTooClose_L2 ms (i : Int) least (F_impl_pairsTooClose_L1 ms least m)) ms.length 1073741823 (fun k => !stayAt ms least i k) (fun (k : Nat) => [(i : Int), (k : Int)])
      (fun s => F_impl_pairsTooClose_L1 ms least m s ((i + 1 : Nat) : Int)) (by omega) (fun m' s' k hk hs' => ?_) (fun m' s' => ?_) (i + 1) s (by omega) (by omega)]
    · rfl
    · obtain ⟨u, hu⟩ : ∃ u, ms[i]? = some u := ⟨_, List.getElem?_eq_getElem hi⟩
      obtain ⟨v, hv⟩ : ∃ v, ms[k]? = some v := ⟨_, List.getElem?_eq_getElem hk⟩
      have e : stayAt ms least i k = stay u v least := by unfold stayAt; rw [hu, hv]
      rw [F_impl_pairsTooClose_L2, if_pos (by simp; omega), e]
      unfold jK1
      dsimp only
      rw [idx_nat, hu, Option.bind_some, idx_nat, hv, Option.bind_some, impl_stayApart u v least (hg u (List.mem_of_getElem? hu)) (hg v (List.mem_of_getElem? hv)), Option.bind_some, app_ok (by simp; omega), w64_succ (k := k) (by omega)]
      cases stay u v least <;> simp
    · rw [F_impl_pairsTooClose_L2, if_neg (by simp), w64_succ (by omega)]
  · rw [F_impl_pairsTooClose_L1, if_neg (by simp)]
theorem chart_spots {c : List (Int × Int)} (h : okChart c = true) : ∀ s ∈ c, okSpot s = true := by
  intro s hs
  unfold okChart at h
  rw [Bool.and_eq_true] at h
  obtain ⟨k, hk⟩ := List.getElem?_of_mem hs
  have := List.all_eq_true.1 h.2 k (List.mem_range.2 (List.getElem?_eq_some_iff.1 hk).1)
  rw [newAt_of hk, Bool.and_eq_true] at this
  exact this.1
theorem moves_good {x : ShowT} (f : ShowFacts x) {p : Nat} (hp : p < x.2.1.length) : ∀ u ∈ movesOf x p, goodMove u := by
  intro u hu
  obtain ⟨a, b, n, h1, h2, h3, h4, h5, h6, h7, h8⟩ := part_facts f hp
  unfold movesOf at hu
  rw [List.mem_map] at hu
  obtain ⟨i, hi, rfl⟩ := hu
  rw [chartAt_of h1, List.mem_range] at hi
  rw [chartAt_of h1, chartAt_of h2]
  refine ⟨?_, ?_⟩
  · dsimp only
    rw [List.getElem?_eq_getElem hi]
    exact chart_spots (f.ch a (List.mem_of_getElem? h1)) _ (List.getElem_mem hi)
  · dsimp only
    have hi' : i < b.length := by omega
    rw [List.getElem?_eq_getElem hi']
    exact chart_spots (f.ch b (List.mem_of_getElem? h2)) _ (List.getElem_mem hi')
def closeAns (x : ShowT) (p : Int) : List (List Int) × Bool := if okPart x p then (closeOf (movesOf x p.toNat) x.2.2.1, true) else ([], false)
theorem impl_ClosePairs (x : ShowT) (p : Int) (h : lensOk x) : F_impl_ClosePairs x p = some (closeAns x p) := by
  unfold F_impl_ClosePairs closeAns
  rw [impl_isPart x p h, Option.bind_some]
  cases hp : okPart x p with
  | false => simp
  | true =>
    obtain ⟨f, e, hlt⟩ := part_of hp
    have hl := moves_len x f _ hlt
    simp only [Bool.not_true, Bool.false_eq_true, if_false, if_true]
    rw [e, Int.toNat_natCast, impl_showMoves x f _ hlt, Option.bind_some, impl_pairsTooClose _ _ (by omega) (moves_good f hlt)]
    rfl
/-! parts that are not safe -/
end Go.Proofs.Ytmkignciedkidaa
/-
  THE LEAST DISTANCE OF A SHOW, PLAIN.
-/
set_option linter.unusedSimpArgs false
set_option linter.unusedVariables false
namespace Go.Proofs.Ytmkignciedkidaa
open Go
theorem low_bd {a b : Int} (ha : 0 ≤ a) (ha2 : a ≤ 1000000000000000) (hb : 0 < b) (hb2 : b ≤ 1000000000000000) : 0 ≤ (low a b).1 ∧ (low a b).1 ≤ a ∧ 1 ≤ (low a b).2 ∧ (low a b).2 ≤ b := by
  have hg : 0 < Nat.gcd a.toNat b.toNat := Nat.gcd_pos_of_pos_right _ (by omega)
  have hg2 : Nat.gcd a.toNat b.toNat ≤ b.toNat := Nat.gcd_le_right _ (by omega)
  unfold low
  rw [Int.tdiv_eq_ediv_of_nonneg ha, Int.tdiv_eq_ediv_of_nonneg (by omega)]
  have h1 := Int.ediv_nonneg ha (Int.natCast_nonneg (Nat.gcd a.toNat b.toNat))
  have h2 : a / (Nat.gcd a.toNat b.toNat : Int) ≤ a := Int.ediv_le_self _ ha
  have h3 : b / (Nat.gcd a.toNat b.toNat : Int) ≤ b := Int.ediv_le_self _ (by omega)
  have h4 : 1 ≤ b / (Nat.gcd a.toNat b.toNat : Int) := by
    rw [Int.le_ediv_iff_mul_le (by omega)]
    omega
  rw [w64_eq (by omega) (by omega), w64_eq (by omega) (by omega)]
  exact ⟨h1, h2, h4, h3⟩
def bdF (n : Int × Int) : Prop := 0 ≤ n.1 ∧ n.1 ≤ 2959500902400 ∧ 1 ≤ n.2 ∧ n.2 ≤ 8359936
theorem near_bd {u v : MoveT} (hu : goodMove u) (hv : goodMove v) : bdF (near u v) := by
  have hI := inB hu.1 hu.2 hv.1 hv.2
  unfold near bdF nearV
  generalize u.1.1 - v.1.1 = px at *
  generalize u.1.2 - v.1.2 = py at *
  generalize u.2.1.1 - v.2.1.1 = qx at *
  generalize u.2.1.2 - v.2.1.2 = qy at *
  obtain ⟨m1, m2, m3, m4, m5, m6, m7, m8, m9, m10, m11⟩ := nearB hI
  split
  · dsimp only; omega
  · split
    · dsimp only; omega
    · rename_i h1 h2
      have := low_bd (a := (px * qy - py * qx) * (px * qy - py * qx)) (b := (qx - px) * (qx - px) + (qy - py) * (qy - py)) (by omega) (by omega) (by omega) (by omega)
      omega
/-! the closest two moves -/
abbrev CSt := Int × Int × Int × Int
def cstep (ms : List MoveT) (i k : Nat) (s : CSt) : CSt := match ms[i]?, ms[k]? with
  | some u, some v => if lessF (near u v).1 (near u v).2 s.2.2.1 s.2.2.2 then ((i : Int), (k : Int), (near u v).1, (near u v).2) else s
  | _, _ => s
def crow (ms : List MoveT) (i : Nat) (s : CSt) : CSt := (List.range' (i + 1) (ms.length - (i + 1))).foldl (fun s k => cstep ms i k s) s
def cinit (ms : List MoveT) : CSt := match ms[0]?, ms[1]? with
  | some u, some v => (0, 1, (near u v).1, (near u v).2)
  | _, _ => (0, 1, 0, 1)
def closest (ms : List MoveT) : CSt := (List.range ms.length).foldl (fun s i => crow ms i s) (cinit ms)
/-- The state names two moves and how near they come. -/
def CI (ms : List MoveT) (s : CSt) : Prop := ∃ (a b : Nat) (u v : MoveT), s.1 = (a : Int) ∧ s.2.1 = (b : Int) ∧ a < b ∧ ms[a]? = some u ∧ ms[b]? = some v ∧ near u v = (s.2.2.1, s.2.2.2)
theorem CI.bd {ms : List MoveT} (hg : ∀ u ∈ ms, goodMove u) {s : CSt} (h : CI ms s) : bdF (s.2.2.1, s.2.2.2) := by
  obtain ⟨a, b, u, v, _, _, _, hu, hv, hn⟩ := h
  rw [← hn]
  exact near_bd (hg u (List.mem_of_getElem? hu)) (hg v (List.mem_of_getElem? hv))
theorem cstep_CI {ms : List MoveT} {i k : Nat} (hik : i < k) (hk : k < ms.length) {s : CSt} (h : CI ms s) : CI ms (cstep ms i k s) := by
  have hu : ms[i]? = some (ms[i]'(by omega)) := List.getElem?_eq_getElem (by omega)
  have hv : ms[k]? = some ms[k] := List.getElem?_eq_getElem hk
  unfold cstep
  rw [hu, hv]
  dsimp only
  split
  · exact ⟨i, k, _, _, rfl, rfl, hik, hu, hv, rfl⟩
  · exact h
theorem fold_CI {ms : List MoveT} {i : Nat} : ∀ (ks : List Nat) (s : CSt), (∀ k ∈ ks, i < k ∧ k < ms.length) → CI ms s → CI ms (ks.foldl (fun s k => cstep ms i k s) s)
  | [], s, _, h => h
  | k :: ks, s, hk, h => fold_CI ks _ (fun k hk' => hk k (by simp [hk'])) (cstep_CI (hk k (by simp)).1 (hk k (by simp)).2 h)
theorem crow_CI {ms : List MoveT} {i : Nat} {s : CSt} (h : CI ms s) : CI ms (crow ms i s) := by
  unfold crow
  refine fold_CI _ _ (fun k hk => ?_) h
  rw [List.mem_range'_1] at hk
  omega
theorem cinit_CI {ms : List MoveT} (h2 : 2 ≤ ms.length) : CI ms (cinit ms) := by
  have hu : ms[0]? = some (ms[0]'(by omega)) := List.getElem?_eq_getElem (by omega)
  have hv : ms[1]? = some (ms[1]'(by omega)) := List.getElem?_eq_getElem (by omega)
  unfold cinit
  rw [hu, hv]
  exact ⟨0, 1, _, _, rfl, rfl, by omega, hu, hv, rfl⟩
theorem closest_CI {ms : List MoveT} (h2 : 2 ≤ ms.length) : CI ms (closest ms) := by
  unfold closest
  have key : ∀ (is : List Nat) (s : CSt), CI ms s → CI ms (is.foldl (fun s i => crow ms i s) s) := by
    intro is
    induction is with
    | nil => intro s h; exact h
    | cons i is ih => intro s h; exact ih _ (crow_CI h)
  exact key _ _ (cinit_CI h2)
/-- A loop from k on that carries a state. -/
theorem loopFromS {R S : Type} (f : Nat → S → Int → Option R) (n : Nat) (step : Nat → S → S) (rest : S → Option R) (hn : n < 4611686018427387904) (I : S → Prop) (k0 : Nat) (hI : ∀ k s, k0 ≤ k → k < n → I s → I (step k s))
    (hs : ∀ m k s, k0 ≤ k → k < n → I s → f (m + 1) s (k : Int) = f m (step k s) ((k + 1 : Nat) : Int)) (he : ∀ m s, I s → f (m + 1) s (n : Int) = rest s) :
    ∀ (s : S), k0 ≤ n → I s → f FU s (k0 : Int) = rest ((List.range' k0 (n - k0)).foldl (fun s k => step k s) s) := by
  have key : ∀ d k m s, n - k = d → k0 ≤ k → k ≤ n → n - k < m → I s → f m s (k : Int) = rest ((List.range' k (n - k)).foldl (fun s k => step k s) s) := by
    intro d
    induction d with
    | zero =>
      intro k m s hd hk0 hk hm hi
      have : k = n := by omega
      subst this
      cases m with
      | zero => omega
      | succ m => rw [he m s hi]; simp
    | succ d ih =>
      intro k m s hd hk0 hk hm hi
      cases m with
      | zero => omega
      | succ m =>
        rw [hs m k s hk0 (by omega) hi, hd, List.range'_succ, List.foldl_cons, ih (k + 1) m _ (by omega) (by omega) (by omega) (by omega) (hI k s hk0 (by omega) hi), show n - (k + 1) = d by omega]
  exact fun s hk hi => key _ k0 FU s rfl (Nat.le_refl _) hk (FU_gt (by omega)) hi
theorem impl_closestMoves (ms : List MoveT) (h2 : 2 ≤ ms.length) (hl : ms.length ≤ 1000) (hg : ∀ u ∈ ms, goodMove u) : F_impl_closestMoves ms = some ((closest ms).1, (closest ms).2.1) := by
  have hu : ms[0]? = some (ms[0]'(by omega)) := List.getElem?_eq_getElem (by omega)
  have hv : ms[1]? = some (ms[1]'(by omega)) := List.getElem?_eq_getElem (by omega)
  have e0 : cinit ms = ((0, 1, (near ms[0] ms[1]).1, (near ms[0] ms[1]).2) : CSt) := by unfold cinit; rw [hu, hv]
  have e1 : idx ms 1 = ms[1]? := idx_int (by decide)
  have g0 := hg ms[0] (List.getElem_mem _)
  have g1 := hg ms[1] (List.getElem_mem _)
  unfold F_impl_closestMoves
  rw [idx_zero, hu, Option.bind_some, e1, hv, Option.bind_some, impl_leastApart _ _ g0.1 g0.2 g1.1 g1.2, Option.bind_some]
  have := (loopS (fun m (s : CSt) y => F_impl_closestMoves_L1 ms m s.1 s.2.1 s.2.2.1 s.2.2.2 y) ms.length (fun i s => crow ms i s) (fun s => some (s.1, s.2.1)) (by omega) (fun _ s => CI ms s) (cinit ms) (cinit_CI h2) (fun i s hi h => crow_CI h) (fun m i s hi h => ?_) (fun m s h => ?_)).1
  · rw [e0] at this
    rw [show closest ms = (List.range ms.length).foldl (fun s i => crow ms i s) (cinit ms) from rfl, e0]
    exact this
  · rw [F_impl_closestMoves_L1, if_pos (by simp; omega), w64_succ (by omega)]
    exact loopFromS (fun m' (s : CSt) y => F_impl_closestMoves_L2 ms (i : Int) (F_impl_closestMoves_L1 ms m) m' s.1 s.2.1 s.2.2.1 s.2.2.2 y) ms.length (fun k s => cstep ms i k s) (fun s => F_impl_closestMoves_L1 ms m s.1 s.2.1 s.2.2.1 s.2.2.2 ((i + 1 : Nat) : Int)) (by omega) (CI ms) (i + 1)
      (fun k s hk hk2 h => cstep_CI (by omega) hk2 h) (fun m' k s hk hk2 h => by
        have hb := h.bd hg
        obtain ⟨b1, b2, b3, b4⟩ := hb
        dsimp only at b1 b2 b3 b4
        have hu : ms[i]? = some ms[i] := List.getElem?_eq_getElem hi
        have hv : ms[k]? = some ms[k] := List.getElem?_eq_getElem hk2
        have gu := hg ms[i] (List.getElem_mem _)
        have gv := hg ms[k] (List.getElem_mem _)
        obtain ⟨n1, n2, n3, n4⟩ := near_bd gu gv
        rw [F_impl_closestMoves_L2, if_pos (by simp; omega)]
        unfold jK4
        dsimp only
        rw [idx_nat, hu, Option.bind_some, idx_nat, hv, Option.bind_some, impl_leastApart _ _ gu.1 gu.2 gv.1 gv.2, Option.bind_some, impl_lessFraction _ _ _ _ (by omega) (by omega) (by omega) (by omega) (by omega) (by omega) (by omega) (by omega), Option.bind_some, w64_succ (k := k) (by omega)]
        unfold cstep
        rw [hu, hv]
        dsimp only
        cases lessF (near ms[i] ms[k]).1 (near ms[i] ms[k]).2 s.2.2.1 s.2.2.2 <;> simp) (fun m' s h => by rw [F_impl_closestMoves_L2, if_neg (by simp), w64_succ (by omega)]) s (by omega) h
  · rw [F_impl_closestMoves_L1, if_neg (by simp)]
theorem spec_apClosest (ms : List MoveT) (h2 : 2 ≤ ms.length) (hl : ms.length ≤ 1000) (hg : ∀ u ∈ ms, goodMove u) : F_spec_apClosest ms = some ((closest ms).1, (closest ms).2.1) := by
  have hu : ms[0]? = some (ms[0]'(by omega)) := List.getElem?_eq_getElem (by omega)
  have hv : ms[1]? = some (ms[1]'(by omega)) := List.getElem?_eq_getElem (by omega)
  have e0 : cinit ms = ((0, 1, (near ms[0] ms[1]).1, (near ms[0] ms[1]).2) : CSt) := by unfold cinit; rw [hu, hv]
  have e1 : idx ms 1 = ms[1]? := idx_int (by decide)
  have g0 := hg ms[0] (List.getElem_mem _)
  have g1 := hg ms[1] (List.getElem_mem _)
  unfold F_spec_apClosest
  rw [idx_zero, hu, Option.bind_some, e1, hv, Option.bind_some, spec_apLeast _ _ g0.1 g0.2 g1.1 g1.2, Option.bind_some]
  have := (loopS (fun m (s : CSt) y => F_spec_apClosest_L1 ms m s.1 s.2.1 s.2.2.1 s.2.2.2 y) ms.length (fun i s => crow ms i s) (fun s => some (s.1, s.2.1)) (by omega) (fun _ s => CI ms s) (cinit ms) (cinit_CI h2) (fun i s hi h => crow_CI h) (fun m i s hi h => ?_) (fun m s h => ?_)).1
  · rw [e0] at this
    rw [show closest ms = (List.range ms.length).foldl (fun s i => crow ms i s) (cinit ms) from rfl, e0]
    exact this
  · have hu : ms[i]? = some ms[i] := List.getElem?_eq_getElem hi
    rw [F_spec_apClosest_L1, if_pos (by simp; omega), idx_nat, hu, Option.bind_some, w64_succ (by omega)]
    exact loopFromS (fun m' (s : CSt) y => F_spec_apClosest_L2 ms ms[i] (i : Int) (F_spec_apClosest_L1 ms m) m' s.1 s.2.1 s.2.2.1 s.2.2.2 y) ms.length (fun k s => cstep ms i k s) (fun s => F_spec_apClosest_L1 ms m s.1 s.2.1 s.2.2.1 s.2.2.2 ((i + 1 : Nat) : Int)) (by omega) (CI ms) (i + 1)
      (fun k s hk hk2 h => cstep_CI (by omega) hk2 h) (fun m' k s hk hk2 h => by
        have hb := h.bd hg
        obtain ⟨b1, b2, b3, b4⟩ := hb
        dsimp only at b1 b2 b3 b4
        have hv : ms[k]? = some ms[k] := List.getElem?_eq_getElem hk2
        have gu := hg ms[i] (List.getElem_mem _)
        have gv := hg ms[k] (List.getElem_mem _)
        obtain ⟨n1, n2, n3, n4⟩ := near_bd gu gv
        rw [F_spec_apClosest_L2, if_pos (by simp; omega)]
        unfold jK4
        dsimp only
        rw [idx_nat, hv, Option.bind_some, spec_apLeast _ _ gu.1 gu.2 gv.1 gv.2, Option.bind_some, spec_apLess _ _ _ _ (by omega) (by omega) (by omega) (by omega) (by omega) (by omega) (by omega) (by omega), Option.bind_some, w64_succ (k := k) (by omega)]
        unfold cstep
        rw [hu, hv]
        dsimp only
        cases lessF (near ms[i] ms[k]).1 (near ms[i] ms[k]).2 s.2.2.1 s.2.2.2 <;> simp) (fun m' s h => by rw [F_spec_apClosest_L2, if_neg (by simp), w64_succ (by omega)]) s (by omega) h
  · rw [F_spec_apClosest_L1, if_neg (by simp)]
def minOf (ms : List MoveT) : Int × Int := ((closest ms).2.2.1, (closest ms).2.2.2)
theorem minOf_bd {ms : List MoveT} (h2 : 2 ≤ ms.length) (hg : ∀ u ∈ ms, goodMove u) : bdF (minOf ms) := (closest_CI h2).bd hg
theorem moves_same {x : ShowT} {p : Nat} {u v : MoveT} (hu : u ∈ movesOf x p) (hv : v ∈ movesOf x p) : u.2.2 = v.2.2 := by
  unfold movesOf at hu hv
  obtain ⟨i, _, rfl⟩ := List.mem_map.1 hu
  obtain ⟨j, _, rfl⟩ := List.mem_map.1 hv
  rfl
theorem spec_mvGood (u : MoveT) (hg : goodMove u) (hc : 1 ≤ u.2.2 ∧ u.2.2 ≤ 64) : F_spec_mvGood u = some true := by
  have : okIn u.2.2 1 64 = true := okIn_iff.2 hc
  unfold F_spec_mvGood jK1
  dsimp only
  rw [spec_stGood, hg.1, Option.bind_some, spec_stGood, hg.2, Option.bind_some, spec_l1In, this]
  rfl
theorem spec_LeastOfAll (x : ShowT) (f : ShowFacts x) (p : Nat) (hp : p < x.2.1.length) (h2 : 2 ≤ (movesOf x p).length) : F_spec_LeastOfAll (movesOf x p) = some ((minOf (movesOf x p)).1, (minOf (movesOf x p)).2, true) := by
  have hl := moves_len x f p hp
  have hg := moves_good f hp
  have hc := fun u hu => moves_count f hp (u := u) hu
  have hsame := fun u v hu hv => moves_same (x := x) (p := p) (u := u) (v := v) hu hv
  generalize movesOf x p = ms at *
  have hu0 : ms[0]? = some (ms[0]'(by omega)) := List.getElem?_eq_getElem (by omega)
  have hlist : F_spec_apList ms = some true := by
    unfold F_spec_apList
    rw [loopL (F_spec_apList_L1 ms) ms (fun _ => true) (some true) (some false) (by omega) (fun m k u hk hu => ?_) (fun m => ?_)]
    · simp
    · have hm := List.mem_of_getElem? hu
      have hm0 := List.mem_of_getElem? hu0
      rw [F_spec_apList_L1, if_pos (by simp; omega), idx_nat, hu, Option.bind_some, idx_zero, hu0, Option.bind_some, w64_succ (by omega)]
      unfold F_spec_apGood jK1
      dsimp only
      rw [spec_mvGood _ (hg _ hm0) (hc _ hm0), Option.bind_some, spec_mvGood _ (hg _ hm) (hc _ hm), Option.bind_some, if_pos rfl, if_pos rfl, hsame _ _ hm0 hm]
      simp
    · have : okIn (ms.length : Int) 2 12 = true := okIn_iff.2 (by omega)
      rw [F_spec_apList_L1, if_neg (by simp), spec_l1In, this]
      rfl
  unfold F_spec_LeastOfAll
  rw [hlist, Option.bind_some, if_neg (by simp), spec_apClosest ms h2 (by omega) hg, Option.bind_some]
  obtain ⟨a, b, u, v, e1, e2, _, hu, hv, hn⟩ := closest_CI h2
  have gu := hg u (List.mem_of_getElem? hu)
  have gv := hg v (List.mem_of_getElem? hv)
  dsimp only
  rw [e1, e2, idx_nat, hu, Option.bind_some, idx_nat, hv, Option.bind_some, spec_apLeast _ _ gu.1 gu.2 gv.1 gv.2, hn]
  rfl
/-! over all parts -/
def partMin (x : ShowT) (p : Nat) : Int × Int := minOf (movesOf x p)
def lstep (x : ShowT) (p : Nat) (s : Int × Int) : Int × Int := if p = 0 then partMin x 0 else if lessF (partMin x p).1 (partMin x p).2 s.1 s.2 then partMin x p else s
def leastShow (x : ShowT) : Int × Int := (List.range x.2.1.length).foldl (fun s p => lstep x p s) (0, 0)
theorem least_first (x : ShowT) (h : 0 < x.2.1.length) (s : Int × Int) : (List.range x.2.1.length).foldl (fun s p => lstep x p s) s = leastShow x := by
  unfold leastShow
  obtain ⟨n, hn⟩ : ∃ n, x.2.1.length = n + 1 := ⟨x.2.1.length - 1, by omega⟩
  rw [hn, List.range_succ_eq_map, List.foldl_cons, List.foldl_cons]
  congr 1
def twoMore (x : ShowT) : Bool := decide (2 ≤ (chartAt x 0).length)
theorem moves_chart {x : ShowT} (f : ShowFacts x) {p : Nat} (hp : p < x.2.1.length) : (movesOf x p).length = (chartAt x 0).length := by
  obtain ⟨a, b, n, h1, h2, h3, h4, h5, h6, h7, h8⟩ := part_facts f hp
  have := f.n0
  obtain ⟨c, hc⟩ : ∃ c, x.1[0]? = some c := ⟨_, List.getElem?_eq_getElem (by omega)⟩
  unfold movesOf
  rw [chartAt_of h1, chartAt_of hc, List.length_map, List.length_range]
  exact chart_len f h1 hc
theorem part_bd {x : ShowT} (f : ShowFacts x) (h2 : 2 ≤ (chartAt x 0).length) {p : Nat} (hp : p < x.2.1.length) : bdF (partMin x p) := minOf_bd (by rw [moves_chart f hp]; exact h2) (moves_good f hp)
theorem lstep_bd {x : ShowT} (f : ShowFacts x) (h2 : 2 ≤ (chartAt x 0).length) {p : Nat} (hp : p < x.2.1.length) {s : Int × Int} (hs : p = 0 ∨ bdF s) : bdF (lstep x p s) := by
  unfold lstep
  by_cases h : p = 0
  · subst h
    rw [if_pos rfl]
    exact part_bd f h2 hp
  · rw [if_neg h]
    split
    · exact part_bd f h2 hp
    · exact hs.resolve_left h
def leastShowAns (x : ShowT) : Int × Int × Bool := if okShow x && twoMore x then ((leastShow x).1, (leastShow x).2, true) else (0, 0, false)
theorem spec_LeastOfShow (x : ShowT) (h : lensOk x) : F_spec_LeastOfShow x = some (leastShowAns x) := by
  unfold F_spec_LeastOfShow jK1 leastShowAns twoMore
  dsimp only
  rw [spec_swGood x h.1 h.2.1 h.2.2, Option.bind_some]
  cases hs : okShow x with
  | false => simp
  | true =>
    have f := facts hs
    have n1 := f.n1
    have n0 := f.n0
    have nc := f.nc
    obtain ⟨c, hc⟩ : ∃ c, x.1[0]? = some c := ⟨_, List.getElem?_eq_getElem (by omega)⟩
    have hc12 := (f.cl c (List.mem_of_getElem? hc)).2
    rw [idx_zero, hc, Option.bind_some, chartAt_of hc]
    by_cases h2 : 2 ≤ c.length
    · have h2' : ¬ (c.length : Int) < 2 := by omega
      have h2c : 2 ≤ (chartAt x 0).length := by rw [chartAt_of hc]; exact h2
      simp only [Bool.not_true, Bool.false_eq_true, if_false, h2', h2, decide_true, decide_false, Bool.and_self, if_true]
      have := (loopS (fun m (s : Int × Int) y => F_spec_LeastOfShow_L1 x m s.1 s.2 y) x.2.1.length (fun p s => lstep x p s) (fun s => some (s.1, s.2, true)) (by omega) (fun p s => (p = 0 ∧ s = (-1, 1)) ∨ (0 < p ∧ bdF s)) (-1, 1) (.inl ⟨rfl, rfl⟩) (fun p s hp hi => ?_) (fun m p s hp hi => ?_) (fun m s _ => ?_)).1
      · rw [least_first x (by omega)] at this
        exact this
      · exact .inr ⟨by omega, lstep_bd f h2c hp (hi.imp (fun h => h.1) fun h => h.2)⟩
      · rw [F_spec_LeastOfShow_L1, if_pos (by simp; omega)]
        unfold jK2 jK1
        dsimp only
        rw [spec_swMoves x f p hp, Option.bind_some, spec_LeastOfAll x f p hp (by rw [moves_chart f hp]; exact h2c), Option.bind_some, w64_succ (by omega)]
        obtain ⟨b1, b2, b3, b4⟩ := part_bd f h2c hp
        unfold lstep
        rcases hi with ⟨rfl, rfl⟩ | ⟨h0, b5, b6, b7, b8⟩
        · simp
          rfl
        · have h0' : ¬ p = 0 := by omega
          have h1 : decide (s.1 < 0) = false := by simp; omega
          have hl := spec_apLess (partMin x p).1 (partMin x p).2 s.1 s.2 (by omega) (by omega) (by omega) (by omega) (by omega) (by omega) (by omega) (by omega)
          unfold partMin at hl ⊢
          rw [h1, if_neg h0', if_neg Bool.false_ne_true, hl, Option.bind_some]
          cases lessF (minOf (movesOf x p)).1 (minOf (movesOf x p)).2 s.1 s.2 <;> simp
      · rw [F_spec_LeastOfShow_L1, if_neg (by simp)]
    · have h2' : (c.length : Int) < 2 := by omega
      simp [h2, h2']
theorem impl_LeastOfShow (x : ShowT) (h : lensOk x) : F_impl_LeastOfShow x = some (leastShowAns x) := by
  unfold F_impl_LeastOfShow jK1 leastShowAns twoMore
  dsimp only
  rw [impl_IsShow x h.1 h.2.1 h.2.2, Option.bind_some]
  cases hs : okShow x with
  | false => simp
  | true =>
    have f := facts hs
    have n1 := f.n1
    have n0 := f.n0
    have nc := f.nc
    obtain ⟨c, hc⟩ : ∃ c, x.1[0]? = some c := ⟨_, List.getElem?_eq_getElem (by omega)⟩
    rw [idx_zero, hc, Option.bind_some, chartAt_of hc]
    by_cases h2 : 2 ≤ c.length
    · have h2' : ¬ (c.length : Int) < 2 := by omega
      have h2c : 2 ≤ (chartAt x 0).length := by rw [chartAt_of hc]; exact h2
      simp only [Bool.not_true, Bool.false_eq_true, if_false, h2', h2, decide_true, decide_false, Bool.and_self, if_true]
      have := (loopS (fun m (s : Int × Int) y => F_impl_LeastOfShow_L1 x m s.1 s.2 y) x.2.1.length (fun p s => lstep x p s) (fun s => some (s.1, s.2, true)) (by omega) (fun p s => p = 0 ∨ bdF s) (0, 0) (.inl rfl) (fun p s hp hi => ?_) (fun m p s hp hi => ?_) (fun m s _ => ?_)).1
      · exact this
      · exact .inr (lstep_bd f h2c hp hi)
      · have hm2 : 2 ≤ (movesOf x p).length := by rw [moves_chart f hp]; exact h2c
        have hl := moves_len x f p hp
        have hg := moves_good f hp
        rw [F_impl_LeastOfShow_L1, if_pos (by simp; omega)]
        unfold jK2 jK1
        dsimp only
        rw [impl_showMoves x f p hp, Option.bind_some, impl_closestMoves _ hm2 (by omega) hg, Option.bind_some]
        obtain ⟨a, b, u, v, e1, e2, _, hu, hv, hn⟩ := closest_CI hm2
        have gu := hg u (List.mem_of_getElem? hu)
        have gv := hg v (List.mem_of_getElem? hv)
        dsimp only
        rw [e1, e2, idx_nat, hu, Option.bind_some, idx_nat, hv, Option.bind_some, impl_leastApart _ _ gu.1 gu.2 gv.1 gv.2, Option.bind_some, hn, w64_succ (by omega)]
        obtain ⟨b1, b2, b3, b4⟩ := part_bd f h2c hp
        unfold lstep
        by_cases h0 : p = 0
        · subst h0
          simp
          rfl
        · have h0' : ((p : Int) == 0) = false := by simpa using h0
          obtain ⟨b5, b6, b7, b8⟩ := hi.resolve_left h0
          have hl := impl_lessFraction (partMin x p).1 (partMin x p).2 s.1 s.2 (by omega) (by omega) (by omega) (by omega) (by omega) (by omega) (by omega) (by omega)
          unfold partMin minOf at hl ⊢
          dsimp only at hl ⊢
          rw [h0', if_neg h0, if_neg Bool.false_ne_true, hl, Option.bind_some]
          cases lessF (closest (movesOf x p)).2.2.1 (closest (movesOf x p)).2.2.2 s.1 s.2 <;> simp
      · rw [F_impl_LeastOfShow_L1, if_neg (by simp)]
    · have h2' : (c.length : Int) < 2 := by omega
      simp [h2, h2']
end Go.Proofs.Ytmkignciedkidaa
/-
  THE LEAST DISTANCE THAT A SHOW KEEPS, PLAIN.
-/
set_option linter.unusedSimpArgs false
set_option linter.unusedVariables false
namespace Go.Proofs.Ytmkignciedkidaa
open Go
/-- At least L apart. -/
def gOf (L : Int) (n : Int × Int) : Bool := decide (L * L * n.2 ≤ n.1)
theorem frac_up {A a b c d : Int} (hb : 0 < b) (hd : 0 < d) (h : a * d ≤ c * b) (h1 : A * b ≤ a) : A * d ≤ c := by
  have h2 : A * b * d ≤ a * d := Int.mul_le_mul_of_nonneg_right h1 (by omega)
  have h3 : A * d * b ≤ c * b := by rw [Int.mul_assoc, Int.mul_comm d b, ← Int.mul_assoc]; omega
  exact Int.le_of_mul_le_mul_right h3 hb
theorem gstep (L : Int) (n s : Int × Int) (hn : 1 ≤ n.2) (hs : 1 ≤ s.2) : gOf L (if lessF n.1 n.2 s.1 s.2 then n else s) = (gOf L s && gOf L n) := by
  unfold lessF gOf
  by_cases h : n.1 * s.2 < s.1 * n.2
  · rw [if_pos (by simpa using h), Bool.eq_iff_iff]
    simp only [Bool.and_eq_true, decide_eq_true_eq]
    exact ⟨fun h1 => ⟨frac_up (by omega) (by omega) (Int.le_of_lt h) h1, h1⟩, fun h1 => h1.2⟩
  · rw [if_neg (by simpa using h), Bool.eq_iff_iff]
    simp only [Bool.and_eq_true, decide_eq_true_eq]
    exact ⟨fun h1 => ⟨h1, frac_up (by omega) (by omega) (by omega) h1⟩, fun h1 => h1.1⟩
def gAt (ms : List MoveT) (L : Int) (i k : Nat) : Bool := match ms[i]?, ms[k]? with
  | some u, some v => gOf L (near u v)
  | _, _ => true
theorem cstep_g {ms : List MoveT} (hg : ∀ u ∈ ms, goodMove u) (L : Int) {i k : Nat} (hi : i < ms.length) (hk : k < ms.length) {s : CSt} (h : 1 ≤ s.2.2.2) : gOf L ((cstep ms i k s).2.2.1, (cstep ms i k s).2.2.2) = (gOf L (s.2.2.1, s.2.2.2) && gAt ms L i k) := by
  have hu : ms[i]? = some ms[i] := List.getElem?_eq_getElem hi
  have hv : ms[k]? = some ms[k] := List.getElem?_eq_getElem hk
  have hb := near_bd (hg _ (List.getElem_mem hi)) (hg _ (List.getElem_mem hk))
  have := gstep L (near ms[i] ms[k]) (s.2.2.1, s.2.2.2) hb.2.2.1 h
  unfold cstep gAt
  rw [hu, hv]
  dsimp only at this ⊢
  rw [← this]
  cases lessF (near ms[i] ms[k]).1 (near ms[i] ms[k]).2 s.2.2.1 s.2.2.2 <;> simp
theorem fold_g {ms : List MoveT} (hg : ∀ u ∈ ms, goodMove u) (L : Int) {i : Nat} : ∀ (ks : List Nat) (s : CSt), (∀ k ∈ ks, i < k ∧ k < ms.length) → CI ms s →
    gOf L ((ks.foldl (fun s k => cstep ms i k s) s).2.2.1, (ks.foldl (fun s k => cstep ms i k s) s).2.2.2) = (gOf L (s.2.2.1, s.2.2.2) && ks.all (gAt ms L i))
  | [], s, _, h => by simp
  | k :: ks, s, hk, h => by
    have hk0 := hk k (by simp)
    rw [List.foldl_cons, fold_g hg L ks _ (fun k hk' => hk k (by simp [hk'])) (cstep_CI hk0.1 hk0.2 h), cstep_g hg L (by omega) hk0.2 (h.bd hg).2.2.1, List.all_cons, Bool.and_assoc]
def gRow (ms : List MoveT) (L : Int) (i : Nat) : Bool := (List.range' (i + 1) (ms.length - (i + 1))).all (gAt ms L i)
theorem rows_g {ms : List MoveT} (hg : ∀ u ∈ ms, goodMove u) (L : Int) : ∀ (is : List Nat) (s : CSt), CI ms s →
    gOf L ((is.foldl (fun s i => crow ms i s) s).2.2.1, (is.foldl (fun s i => crow ms i s) s).2.2.2) = (gOf L (s.2.2.1, s.2.2.2) && is.all (gRow ms L))
  | [], s, h => by simp
  | i :: is, s, h => by
    have e : gOf L ((crow ms i s).2.2.1, (crow ms i s).2.2.2) = (gOf L (s.2.2.1, s.2.2.2) && gRow ms L i) := by
      unfold crow gRow
      exact fold_g hg L _ s (fun k hk => by rw [List.mem_range'_1] at hk; omega) h
    rw [List.foldl_cons, rows_g hg L is _ (crow_CI h), e, List.all_cons, Bool.and_assoc]
theorem min_g {ms : List MoveT} (h2 : 2 ≤ ms.length) (hg : ∀ u ∈ ms, goodMove u) (L : Int) : gOf L (minOf ms) = (List.range ms.length).all (gRow ms L) := by
  have h := rows_g hg L (List.range ms.length) _ (cinit_CI h2)
  have e : gOf L (minOf ms) = (gOf L ((cinit ms).2.2.1, (cinit ms).2.2.2) && (List.range ms.length).all (gRow ms L)) := h
  rw [e]
  cases hall : (List.range ms.length).all (gRow ms L) with
  | false => simp
  | true =>
    have h0 := List.all_eq_true.1 hall 0 (List.mem_range.2 (by omega))
    unfold gRow at h0
    have h1 := List.all_eq_true.1 h0 1 (by rw [List.mem_range'_1]; omega)
    have hu : ms[0]? = some (ms[0]'(by omega)) := List.getElem?_eq_getElem (by omega)
    have hv : ms[1]? = some (ms[1]'(by omega)) := List.getElem?_eq_getElem (by omega)
    unfold gAt at h1
    rw [hu, hv] at h1
    unfold cinit
    rw [hu, hv]
    simpa using h1
theorem stay_g {u v : MoveT} (hu : goodMove u) (hv : goodMove v) {L : Int} (h0 : 0 ≤ L) (h1 : L ≤ 80) : stay u v L = gOf L (near u v) := by
  obtain ⟨b1, b2, b3, b4⟩ := near_bd hu hv
  have h2 : 0 ≤ L * L := Int.mul_nonneg h0 h0
  have h3 : L * L ≤ 80 * 80 := Int.mul_le_mul h1 h1 h0 (by omega)
  have h4 : 0 ≤ L * L * (near u v).2 := Int.mul_nonneg h2 (by omega)
  have h5 : L * L * (near u v).2 ≤ 80 * 80 * 8359936 := Int.mul_le_mul h3 b4 (by omega) (by omega)
  unfold stay gOf
  rw [w64_eq (x := L * L) (by omega) (by omega), w64_eq (by omega) (by omega)]
theorem foldl_nil_iff {β : Type} (g : Nat → List β) : ∀ (is : List Nat) (s : List β), (is.foldl (fun s i => s ++ g i) s).isEmpty = (s.isEmpty && is.all fun i => (g i).isEmpty)
  | [], s => by simp
  | i :: is, s => by
    have e : (s ++ g i).isEmpty = (s.isEmpty && (g i).isEmpty) := by cases s <;> simp
    rw [List.foldl_cons, foldl_nil_iff g is, List.all_cons, e, Bool.and_assoc]
theorem close_g {ms : List MoveT} (hg : ∀ u ∈ ms, goodMove u) {L : Int} (h0 : 0 ≤ L) (h1 : L ≤ 80) : (closeOf ms L).isEmpty = (List.range ms.length).all (gRow ms L) := by
  unfold closeOf
  rw [foldl_nil_iff]
  simp only [List.isEmpty_nil, Bool.true_and]
  rw [Bool.eq_iff_iff, List.all_eq_true, List.all_eq_true]
  have row : ∀ i, i < ms.length → (closeRow ms L i).isEmpty = gRow ms L i := by
    intro i hi
    unfold closeRow gRow
    rw [Bool.eq_iff_iff, List.isEmpty_iff, List.map_eq_nil_iff, List.filter_eq_nil_iff, List.all_eq_true]
    have at_ : ∀ k ∈ List.range' (i + 1) (ms.length - (i + 1)), stayAt ms L i k = gAt ms L i k := by
      intro k hk
      rw [List.mem_range'_1] at hk
      have hu : ms[i]? = some ms[i] := List.getElem?_eq_getElem hi
      have hv : ms[k]? = some (ms[k]'(by omega)) := List.getElem?_eq_getElem (by omega)
      unfold stayAt gAt
      rw [hu, hv]
      exact stay_g (hg _ (List.getElem_mem _)) (hg _ (List.getElem_mem _)) h0 h1
    constructor
    · intro h k hk
      have := h k hk
      rw [at_ k hk] at this
      simpa using this
    · intro h k hk
      rw [at_ k hk, h k hk]
      simp
  constructor
  · intro h i hi
    rw [← row i (List.mem_range.1 hi)]
    exact h i hi
  · intro h i hi
    rw [row i (List.mem_range.1 hi)]
    exact h i hi
theorem least_g {x : ShowT} (f : ShowFacts x) (h2 : 2 ≤ (chartAt x 0).length) (L : Int) : gOf L (leastShow x) = (List.range x.2.1.length).all fun p => gOf L (partMin x p) := by
  have key : ∀ (n p0 : Nat) (s : Int × Int), p0 + n ≤ x.2.1.length → (p0 = 0 ∧ 0 < n ∨ 0 < p0 ∧ bdF s) →
      gOf L ((List.range' p0 n).foldl (fun s p => lstep x p s) s) = ((p0 = 0 || gOf L s) && (List.range' p0 n).all fun p => gOf L (partMin x p)) := by
    intro n
    induction n with
    | zero =>
      intro p0 s hp hs
      have h0 : ¬ p0 = 0 := by rcases hs with h | h <;> omega
      simp [h0]
    | succ n ih =>
      intro p0 s hp hs
      have hbd := lstep_bd f h2 (p := p0) (s := s) (by omega) (hs.imp (fun h => h.1) fun h => h.2)
      rw [List.range'_succ, List.foldl_cons, ih (p0 + 1) _ (by omega) (.inr ⟨by omega, hbd⟩), List.all_cons]
      have e : gOf L (lstep x p0 s) = ((p0 = 0 || gOf L s) && gOf L (partMin x p0)) := by
        unfold lstep
        by_cases h0 : p0 = 0
        · subst h0
          simp
        · rw [if_neg h0, gstep L _ _ (part_bd f h2 (by omega)).2.2.1 ((hs.resolve_left fun h => h0 h.1).2.2.2.1)]
          simp [h0]
      rw [e]
      simp [Bool.and_assoc]
  have := f.n0
  have := f.nc
  have h := key x.2.1.length 0 (0, 0) (by omega) (.inl ⟨rfl, by omega⟩)
  unfold leastShow
  rw [List.range_eq_range']
  simpa using h
/-! going down -/
/-- The greatest number up to L that q takes, or 0. -/
def dn (q : Nat → Bool) : Nat → Nat
  | 0 => 0
  | L + 1 => if q (L + 1) then L + 1 else dn q L
theorem dn_spec (q : Nat → Bool) (h0 : q 0 = true) : ∀ L, dn q L ≤ L ∧ q (dn q L) = true ∧ ∀ t, dn q L < t → t ≤ L → q t = false := by
  intro L
  induction L with
  | zero => exact ⟨Nat.le_refl _, h0, fun t h1 h2 => by simp [dn] at h1; omega⟩
  | succ L ih =>
    unfold dn
    cases hq : q (L + 1) with
    | true => exact ⟨by simp, by simpa using hq, fun t h1 h2 => by simp at h1; omega⟩
    | false =>
      simp only [Bool.false_eq_true, if_false]
      refine ⟨by omega, ih.2.1, fun t h1 h2 => ?_⟩
      by_cases ht : t = L + 1
      · rw [ht]; exact hq
      · exact ih.2.2 t h1 (by omega)
theorem dn_unique (q : Nat → Bool) (h0 : q 0 = true) {L V : Nat} (h1 : V ≤ L) (h2 : q V = true) (h3 : ∀ t, V < t → t ≤ L → q t = false) : dn q L = V := by
  obtain ⟨d1, d2, d3⟩ := dn_spec q h0 L
  rcases Nat.lt_trichotomy (dn q L) V with h | h | h
  · rw [d3 V h h1] at h2; cases h2
  · exact h
  · rw [h3 _ h d1] at d2; cases d2
theorem loopDown {R : Type} (f : Nat → Int → Option R) (q : Nat → Bool) (rest : Nat → Option R) (h0 : q 0 = true) (L0 : Nat) (hL : L0 < 4611686018427387904)
    (hs : ∀ m L, L ≤ L0 → f (m + 1) (L : Int) = if q L = true then rest L else f m ((L : Int) - 1)) : f FU (L0 : Int) = rest (dn q L0) := by
  have key : ∀ L m, L < m → L ≤ L0 → f m (L : Int) = rest (dn q L) := by
    intro L
    induction L with
    | zero =>
      intro m hm _
      cases m with
      | zero => omega
      | succ m => rw [hs m 0 (by omega), if_pos h0]; rfl
    | succ L ih =>
      intro m hm hl
      cases m with
      | zero => omega
      | succ m =>
        rw [hs m (L + 1) hl]
        unfold dn
        cases hq : q (L + 1) with
        | true => simp
        | false =>
          simp only [Bool.false_eq_true, if_false]
          rw [show ((L + 1 : Nat) : Int) - 1 = (L : Int) by omega]
          exact ih m (by omega) (by omega)
  exact key L0 FU (FU_gt hL) (Nat.le_refl _)
theorem dn_fold (q : Nat → Nat → Bool) (B : Nat) : ∀ (ps : List Nat) (L : Nat), L ≤ B → (∀ p ∈ ps, q p 0 = true) → (∀ p ∈ ps, ∀ s t, s ≤ t → t ≤ B → q p t = true → q p s = true) →
    ps.foldl (fun L p => dn (q p) L) L = dn (fun t => ps.all fun p => q p t) L
  | [], L, _, _, _ => by
    rw [List.foldl_nil]
    exact (dn_unique _ (by simp) (Nat.le_refl _) (by simp) (fun t h1 h2 => by omega)).symm
  | p :: ps, L, hL, h0, hd => by
    obtain ⟨d1, d2, d3⟩ := dn_spec (q p) (h0 p (by simp)) L
    rw [List.foldl_cons, dn_fold q B ps _ (by omega) (fun r hr => h0 r (by simp [hr])) (fun r hr => hd r (by simp [hr]))]
    obtain ⟨e1, e2, e3⟩ := dn_spec (fun t => ps.all fun p => q p t) (by simp; exact fun r hr => h0 r (by simp [hr])) (dn (q p) L)
    refine (dn_unique _ (by simp; exact ⟨h0 p (by simp), fun r hr => h0 r (by simp [hr])⟩) (by omega) ?_ fun t h1 h2 => ?_).symm
    · rw [List.all_cons, Bool.and_eq_true]
      exact ⟨hd p (by simp) _ _ e1 (by omega) d2, e2⟩
    · rw [List.all_cons]
      by_cases ht : t ≤ dn (q p) L
      · have := e3 t h1 ht
        rw [this]
        simp
      · rw [d3 t (by omega) h2]
        rfl
theorem dn_congr (q r : Nat → Bool) : ∀ L, (∀ t, t ≤ L → q t = r t) → dn q L = dn r L
  | 0, _ => rfl
  | L + 1, h => by
    unfold dn
    rw [h (L + 1) (Nat.le_refl _), dn_congr q r L fun t ht => h t (by omega)]
theorem gOf_down {s t : Nat} (h : s ≤ t) {n : Int × Int} (hn : 0 ≤ n.2) (hg : gOf (t : Int) n = true) : gOf (s : Int) n = true := by
  unfold gOf at hg ⊢
  simp only [decide_eq_true_eq] at hg ⊢
  have h1 : (s : Int) * s ≤ (t : Int) * t := Int.mul_le_mul (by omega) (by omega) (by omega) (by omega)
  have h2 : (s : Int) * s * n.2 ≤ (t : Int) * t * n.2 := Int.mul_le_mul_of_nonneg_right h1 hn
  omega
/-! what a show keeps -/
def keepQ (x : ShowT) (p L : Nat) : Bool := (closeOf (movesOf x p) (L : Int)).isEmpty
def keepAns (x : ShowT) : Int × Bool := if okShow x then (((List.range x.2.1.length).foldl (fun L p => dn (keepQ x p) L) 80 : Nat), true) else (0, false)
theorem keep_zero {x : ShowT} (f : ShowFacts x) {p : Nat} (hp : p < x.2.1.length) : keepQ x p 0 = true := by
  have hg := moves_good f hp
  unfold keepQ
  rw [show ((0 : Nat) : Int) = 0 from rfl, close_g hg (by omega) (by omega), List.all_eq_true]
  intro i hi
  unfold gRow
  rw [List.all_eq_true]
  intro k hk
  rw [List.mem_range'_1] at hk
  have hu : (movesOf x p)[i]? = some ((movesOf x p)[i]'(List.mem_range.1 hi)) := List.getElem?_eq_getElem (List.mem_range.1 hi)
  have hv : (movesOf x p)[k]? = some ((movesOf x p)[k]'(by omega)) := List.getElem?_eq_getElem (by omega)
  unfold gAt
  rw [hu, hv]
  have hb := near_bd (hg _ (List.getElem_mem (List.mem_range.1 hi))) (hg _ (List.getElem_mem (show k < (movesOf x p).length by omega)))
  unfold gOf
  simp
  exact hb.1
theorem impl_LeastToKeep (x : ShowT) (h : lensOk x) : F_impl_LeastToKeep x = some (keepAns x) := by
  unfold F_impl_LeastToKeep keepAns
  rw [impl_IsShow x h.1 h.2.1 h.2.2, Option.bind_some]
  cases hs : okShow x with
  | false => simp
  | true =>
    have f := facts hs
    have n1 := f.n1
    have nc := f.nc
    simp only [Bool.not_true, Bool.false_eq_true, if_false, if_true]
    have := (loopS (fun m (L : Nat) y => F_impl_LeastToKeep_L1 x m (L : Int) y) x.2.1.length (fun p L => dn (keepQ x p) L) (fun L => some ((L : Int), true)) (by omega) (fun _ L => L ≤ 80) 80 (Nat.le_refl _) (fun p L hp hi => by have := (dn_spec (keepQ x p) (keep_zero f hp) L).1; omega) (fun m p L hp hi => ?_) (fun m L _ => ?_)).1
    · exact this
    · have hl := moves_len x f p hp
      have hg := moves_good f hp
      rw [F_impl_LeastToKeep_L1, if_pos (by simp; omega), impl_showMoves x f p hp, Option.bind_some,
        loopDown (F_impl_LeastToKeep_L2 (movesOf x p) (F_impl_LeastToKeep_L1 x m) (p : Int)) (keepQ x p) (fun L => F_impl_LeastToKeep_L1 x m (L : Int) ((p + 1 : Nat) : Int)) (keep_zero f hp) L (by omega) (fun m' L' hL' => ?_)]
      rw [F_impl_LeastToKeep_L2, impl_pairsTooClose _ _ (by omega) hg, Option.bind_some, w64_eq (x := (L' : Int) - 1) (by omega) (by omega), w64_succ (by omega)]
      unfold keepQ
      cases hc : closeOf (movesOf x p) (L' : Int) with
      | nil => simp
      | cons a l => rw [if_pos (by simp <;> omega)]; simp
    · rw [F_impl_LeastToKeep_L1, if_neg (by simp)]
theorem keep_all {x : ShowT} (f : ShowFacts x) (h2 : 2 ≤ (chartAt x 0).length) : (List.range x.2.1.length).foldl (fun L p => dn (keepQ x p) L) 80 = dn (fun L => gOf (L : Int) (leastShow x)) 80 := by
  have eqg : ∀ p, p < x.2.1.length → ∀ t : Nat, t ≤ 80 → keepQ x p t = gOf (t : Int) (partMin x p) := by
    intro p hp t ht
    have hg := moves_good f hp
    unfold keepQ partMin
    rw [close_g hg (by omega) (by omega), min_g (by rw [moves_chart f hp]; exact h2) hg]
  rw [dn_fold (keepQ x) 80 _ _ (Nat.le_refl _) (fun p hp => keep_zero f (List.mem_range.1 hp)) (fun p hp s t hst ht hq => ?_)]
  · refine dn_congr _ _ 80 fun t ht => ?_
    rw [least_g f h2, Bool.eq_iff_iff, List.all_eq_true, List.all_eq_true]
    constructor
    · intro hh p hp
      rw [← eqg p (List.mem_range.1 hp) t ht]
      exact hh p hp
    · intro hh p hp
      rw [eqg p (List.mem_range.1 hp) t ht]
      exact hh p hp
  · have hp' := List.mem_range.1 hp
    rw [eqg p hp' t ht] at hq
    rw [eqg p hp' s (by omega)]
    exact gOf_down hst (by have := (part_bd f h2 hp').2.2.1; omega) hq
theorem spec_LeastToKeep (x : ShowT) (h : lensOk x) : F_spec_LeastToKeep x = some (keepAns x) := by
  unfold F_spec_LeastToKeep keepAns
  rw [spec_swGood x h.1 h.2.1 h.2.2, Option.bind_some]
  cases hs : okShow x with
  | false => simp
  | true =>
    have f := facts hs
    have n0 := f.n0
    have n1 := f.n1
    have nc := f.nc
    obtain ⟨c, hc⟩ : ∃ c, x.1[0]? = some c := ⟨_, List.getElem?_eq_getElem (by omega)⟩
    simp only [Bool.not_true, Bool.false_eq_true, if_false, if_true]
    rw [idx_zero, hc, Option.bind_some]
    by_cases h2 : 2 ≤ c.length
    · have h2c : 2 ≤ (chartAt x 0).length := by rw [chartAt_of hc]; exact h2
      have hans : leastShowAns x = ((leastShow x).1, (leastShow x).2, true) := by unfold leastShowAns twoMore; rw [hs]; simp [h2c]
      have hbd : bdF (leastShow x) := by
        have key : ∀ n, 0 < n → n ≤ x.2.1.length → bdF ((List.range n).foldl (fun s p => lstep x p s) (0, 0)) := by
          intro n
          induction n with
          | zero => intro h; omega
          | succ n ih =>
            intro _ hn
            rw [List.range_succ, List.foldl_append, List.foldl_cons, List.foldl_nil]
            by_cases hz : n = 0
            · subst hz
              exact lstep_bd f h2c (by omega) (.inl rfl)
            · exact lstep_bd f h2c (by omega) (.inr (ih (by omega) (by omega)))
        exact key _ (by omega) (Nat.le_refl _)
      obtain ⟨b1, b2, b3, b4⟩ := hbd
      rw [if_neg (by simp; omega), spec_LeastOfShow x h, hans, Option.bind_some, keep_all f h2c, show (80 : Int) = ((80 : Nat) : Int) from rfl,
        loopDown (F_spec_LeastToKeep_L1 ((leastShow x).1, (leastShow x).2, true)) (fun L => gOf (L : Int) (leastShow x)) (fun L => some ((L : Int), true)) (by unfold gOf; simp; exact b1) 80 (by omega) (fun m L hL => ?_)]
      have h3 : 0 ≤ (L : Int) * L := Int.mul_nonneg (by omega) (by omega)
      have h4 : (L : Int) * L ≤ 80 * 80 := Int.mul_le_mul (by omega) (by omega) (by omega) (by omega)
      have h5 : 0 ≤ (L : Int) * L * (leastShow x).2 := Int.mul_nonneg h3 (by omega)
      have h6 : (L : Int) * L * (leastShow x).2 ≤ 80 * 80 * 8359936 := Int.mul_le_mul h4 b4 (by omega) (by omega)
      rw [F_spec_LeastToKeep_L1]
      dsimp only
      rw [w64_eq (x := (L : Int) * L) (by omega) (by omega), w64_eq (x := (L : Int) * L * (leastShow x).2) (by omega) (by omega), w64_eq (x := (L : Int) - 1) (by omega) (by omega)]
      unfold gOf
      by_cases hq : (leastShow x).1 < (L : Int) * L * (leastShow x).2
      · rw [if_pos (by simpa using hq), if_neg (by simp; omega)]
      · rw [if_neg (by simpa using hq), if_pos (by simp; omega)]
    · rw [if_pos (by simp; omega)]
      have one : ∀ p, p < x.2.1.length → ∀ L : Nat, keepQ x p L = true := by
        intro p hp L
        have hm := moves_chart f hp
        rw [chartAt_of hc] at hm
        unfold keepQ closeOf
        rw [foldl_nil_iff]
        simp only [List.isEmpty_nil, Bool.true_and, List.all_eq_true]
        intro i hi
        have := List.mem_range.1 hi
        unfold closeRow
        rw [show (movesOf x p).length - (i + 1) = 0 by omega]
        rfl
      have key : ∀ (ps : List Nat), (∀ p ∈ ps, p < x.2.1.length) → ps.foldl (fun L p => dn (keepQ x p) L) 80 = 80 := by
        intro ps
        induction ps with
        | nil => intro _; rfl
        | cons p ps ih =>
          intro hp
          rw [List.foldl_cons, dn_unique (keepQ x p) (one p (hp p (by simp)) 0) (Nat.le_refl 80) (one p (hp p (by simp)) 80) (fun t h1 h2 => by omega)]
          exact ih fun r hr => hp r (by simp [hr])
      rw [key _ fun p hp => List.mem_range.1 hp]
      rfl
end Go.Proofs.Ytmkignciedkidaa
/-
  SHEETS, PLAIN: their rows and moves; the spot after a count.
-/
set_option linter.unusedSimpArgs false
set_option linter.unusedVariables false
namespace Go.Proofs.Ytmkignciedkidaa
open Go
/-! tests of sheets -/
/-! moves of a sheet -/
/-! rounding -/
def rd (x c : Int) : Int := Int.tdiv (2 * x + c) (2 * c)
/-! the spot after a count -/
end Go.Proofs.Ytmkignciedkidaa
/-
  MARCHES, PLAIN: what the tests of marches answer.
-/
set_option linter.unusedSimpArgs false
set_option linter.unusedVariables false
namespace Go.Proofs.Ytmkignciedkidaa
open Go
end Go.Proofs.Ytmkignciedkidaa
/-
  THE MOST BEHIND, PLAIN.
-/
set_option linter.unusedSimpArgs false
set_option linter.unusedVariables false
namespace Go.Proofs.Ytmkignciedkidaa
open Go
end Go.Proofs.Ytmkignciedkidaa
/-
  THE COUNTS OF A SHOW, PLAIN.
-/
set_option linter.unusedSimpArgs false
set_option linter.unusedVariables false
namespace Go.Proofs.Ytmkignciedkidaa
open Go
end Go.Proofs.Ytmkignciedkidaa
/-
  WHO IS STILL GOING, PLAIN.
-/
set_option linter.unusedSimpArgs false
set_option linter.unusedVariables false
namespace Go.Proofs.Ytmkignciedkidaa
open Go
end Go.Proofs.Ytmkignciedkidaa
/-
  WHERE PERFORMERS ARE NOW, PLAIN; who is too close.
-/
set_option linter.unusedSimpArgs false
set_option linter.unusedVariables false
namespace Go.Proofs.Ytmkignciedkidaa
open Go
/-! pairs below n that p takes -/
end Go.Proofs.Ytmkignciedkidaa
/-
  THE SUM OF COUNTS OF A SHOW, PLAIN.
-/
set_option linter.unusedSimpArgs false
set_option linter.unusedVariables false
namespace Go.Proofs.Ytmkignciedkidaa
open Go
/-! the sums of counts -/
end Go.Proofs.Ytmkignciedkidaa
/-
  SHEETS OF VALID SHOWS: the spots after counts, PLAIN.
-/
set_option linter.unusedSimpArgs false
set_option linter.unusedVariables false
namespace Go.Proofs.Ytmkignciedkidaa
open Go
/-! rounding stays between -/
/-! places of a march -/
/-! pairs -/
theorem impl_SquareOf (a b : Int × Int) (ha : okSpot a = true) (hb : okSpot b = true) : F_impl_SquareOf a b = some (sqOf a b, true) := by
  unfold F_impl_SquareOf jK1
  dsimp only
  rw [impl_IsSpot, Option.bind_some, ha, impl_IsSpot, Option.bind_some, hb, impl_squareOf]
  rfl
end Go.Proofs.Ytmkignciedkidaa
/-
  THE LAW FnCompared, PLAIN: it answers true.
-/
set_option linter.unusedSimpArgs false
set_option linter.unusedVariables false
namespace Go.Proofs.Ytmkignciedkidaa
open Go
/-! squares and their sums -/
theorem sqM_bd {u : MoveT} (h : goodMove u) : 0 ≤ sqM u ∧ sqM u ≤ 2089984 := by
  have h1 := h.1
  have h2 := h.2
  unfold okSpot at h1 h2
  rw [Bool.and_eq_true, okIn_iff, okIn_iff] at h1 h2
  have a1 : 0 ≤ (u.1.1 - u.2.1.1) * (u.1.1 - u.2.1.1) ∧ (u.1.1 - u.2.1.1) * (u.1.1 - u.2.1.1) ≤ 1280 * 1280 := sqB (by omega) (by omega)
  have a2 : 0 ≤ (u.1.2 - u.2.1.2) * (u.1.2 - u.2.1.2) ∧ (u.1.2 - u.2.1.2) * (u.1.2 - u.2.1.2) ≤ 672 * 672 := sqB (by omega) (by omega)
  unfold sqM sqOf
  rw [w64_eq (x := u.1.1 - u.2.1.1) (by omega) (by omega), w64_eq (x := u.1.2 - u.2.1.2) (by omega) (by omega)]
  rw [w64_eq (x := (u.1.1 - u.2.1.1) * (u.1.1 - u.2.1.1)) (by omega) (by omega), w64_eq (x := (u.1.2 - u.2.1.2) * (u.1.2 - u.2.1.2)) (by omega) (by omega), w64_eq (by omega) (by omega)]
  omega
theorem fold_sum : ∀ (l : List Int) (a : Int), (∀ u ∈ l, 0 ≤ u ∧ u ≤ 20000000) → 0 ≤ a → a + l.length * 20000000 ≤ 1000000000000 → l.foldl (fun a u => w64 (a + u)) a = a + l.sum ∧ 0 ≤ l.sum ∧ l.sum ≤ l.length * 20000000
  | [], a, _, _, _ => by simp
  | u :: l, a, h, h0, h1 => by
    have hu := h u (by simp)
    simp only [List.length_cons] at h1
    have hw : w64 (a + u) = a + u := w64_eq (by omega) (by omega)
    obtain ⟨e1, e2, e3⟩ := fold_sum l (a + u) (fun v hv => h v (by simp [hv])) (by omega) (by omega)
    rw [List.foldl_cons, hw, e1, List.sum_cons, List.length_cons]
    refine ⟨by omega, by omega, by omega⟩
theorem addTo_zip (sq s : List Int) (h : s.length = sq.length) : addTo sq s = List.zipWith (fun a u => w64 (a + u)) s sq := by
  have key : ∀ n, n ≤ sq.length → ∀ j : Nat, ((List.range n).foldl (fun s k => addStep sq k s) s)[j]? = if j < n then (match s[j]?, sq[j]? with | some a, some u => some (w64 (a + u)) | _, _ => none) else s[j]? := by
    intro n
    induction n with
    | zero => intro _ j; simp
    | succ n ih =>
      intro hn j
      rw [List.range_succ, List.foldl_append, List.foldl_cons, List.foldl_nil]
      have ih' := ih (by omega)
      generalize (List.range n).foldl (fun s k => addStep sq k s) s = t at ih' ⊢
      have e1 := ih' n
      rw [if_neg (by omega)] at e1
      have ea : s[n]? = some (s[n]'(by omega)) := List.getElem?_eq_getElem (by omega)
      have eu : sq[n]? = some (sq[n]'(by omega)) := List.getElem?_eq_getElem (by omega)
      have tl : n < t.length := by rw [ea] at e1; exact (List.getElem?_eq_some_iff.1 e1).1
      unfold addStep
      rw [e1, ea, eu]
      dsimp only
      by_cases hj : j = n
      · subst hj
        rw [List.getElem?_set_self tl, if_pos (by omega), ea, eu]
      · rw [List.getElem?_set_ne (by omega), ih' j]
        by_cases hjn : j < n
        · rw [if_pos hjn, if_pos (by omega)]
        · rw [if_neg hjn, if_neg (by omega)]
  apply List.ext_getElem?
  intro j
  unfold addTo
  rw [key _ (Nat.le_refl _) j, List.getElem?_zipWith]
  by_cases hj : j < sq.length
  · rw [if_pos hj]
    cases s[j]? <;> cases sq[j]? <;> rfl
  · rw [if_neg hj, List.getElem?_eq_none (l := s) (by omega)]
theorem zip_sum : ∀ (s sq : List Int) (A : Int), s.length = sq.length → A ≤ 1000000000 → (∀ a ∈ s, 0 ≤ a ∧ a ≤ A) → (∀ u ∈ sq, 0 ≤ u ∧ u ≤ 2089984) →
    (List.zipWith (fun a u => w64 (a + u)) s sq).sum = s.sum + sq.sum ∧ ∀ v ∈ List.zipWith (fun a u => w64 (a + u)) s sq, 0 ≤ v ∧ v ≤ A + 2089984
  | [], [], A, _, _, _, _ => by simp
  | [], _ :: _, A, h, _, _, _ => by simp at h
  | _ :: _, [], A, h, _, _, _ => by simp at h
  | a :: s, u :: sq, A, h, hA, hs, hq => by
    have ha := hs a (by simp)
    have hu := hq u (by simp)
    obtain ⟨e1, e2⟩ := zip_sum s sq A (by simpa using h) hA (fun v hv => hs v (by simp [hv])) (fun v hv => hq v (by simp [hv]))
    rw [List.zipWith_cons_cons, w64_eq (x := a + u) (by omega) (by omega), List.sum_cons, List.sum_cons, List.sum_cons, e1]
    refine ⟨by omega, fun v hv => ?_⟩
    rcases List.mem_cons.1 hv with rfl | hv
    · omega
    · exact e2 v hv
theorem squares_bd {x : ShowT} (f : ShowFacts x) {p : Nat} (hp : p < x.2.1.length) : (squaresOf x p).length = (chartAt x 0).length ∧ ∀ u ∈ squaresOf x p, 0 ≤ u ∧ u ≤ 2089984 := by
  refine ⟨by unfold squaresOf; rw [List.length_map, moves_len' f hp], fun u hu => ?_⟩
  unfold squaresOf at hu
  obtain ⟨m, hm, rfl⟩ := List.mem_map.1 hu
  exact sqM_bd (moves_good f hp m hm)
theorem partSum_eq {x : ShowT} (f : ShowFacts x) {p : Nat} (hp : p < x.2.1.length) : partSum x p = (squaresOf x p).sum ∧ 0 ≤ partSum x p ∧ partSum x p ≤ 240000000 := by
  obtain ⟨h1, h2⟩ := squares_bd f hp
  obtain ⟨c, hc, he, hl, hu⟩ := first_chart f
  rw [he] at h1
  have := fold_sum (squaresOf x p) 0 (fun u hu => by have := h2 u hu; omega) (by omega) (by omega)
  have e : partSum x p = (squaresOf x p).foldl (fun a u => w64 (a + u)) 0 := rfl
  omega
/-- What the law sums and which part it finds widest, after the first n parts. -/
def sumT (x : ShowT) (n : Nat) : Int × Int := (List.range n).foldl (fun s p => (w64 (s.1 + partSum x p), if s.2 < partSum x p then partSum x p else s.2)) (0, 0)
theorem sumT_all {x : ShowT} (f : ShowFacts x) : ∀ n, n ≤ x.2.1.length →
    (∀ w, w = (List.range n).foldl (fun s p => addTo (squaresOf x p) s) (List.replicate (chartAt x 0).length 0) → w.length = (chartAt x 0).length ∧ (sumT x n).1 = w.sum ∧ ∀ v ∈ w, 0 ≤ v ∧ v ≤ n * 2089984) ∧ 0 ≤ (sumT x n).1 ∧ (sumT x n).1 ≤ n * 240000000 := by
  intro n
  have n1 := f.n1
  have nc := f.nc
  induction n with
  | zero =>
    intro _
    refine ⟨fun w hw => ?_, by unfold sumT; simp, by unfold sumT; simp⟩
    subst hw
    refine ⟨by simp, by unfold sumT; simp, fun v hv => ?_⟩
    have := List.eq_of_mem_replicate hv
    omega
  | succ n ih =>
    intro hn
    obtain ⟨ih1, ih2, ih3⟩ := ih (by omega)
    obtain ⟨e1, e2, e3⟩ := ih1 _ rfl
    obtain ⟨q1, q2⟩ := squares_bd f (p := n) (by omega)
    obtain ⟨p1, p2, p3⟩ := partSum_eq f (p := n) (by omega)
    have hs : (sumT x (n + 1)).1 = (sumT x n).1 + partSum x n := by
      unfold sumT
      rw [List.range_succ, List.foldl_append, List.foldl_cons, List.foldl_nil]
      show w64 ((sumT x n).1 + partSum x n) = (sumT x n).1 + partSum x n
      exact w64_eq (by omega) (by omega)
    refine ⟨fun w hw => ?_, by omega, by omega⟩
    rw [List.range_succ, List.foldl_append, List.foldl_cons, List.foldl_nil, addTo_zip _ _ (by rw [e1, q1])] at hw
    obtain ⟨z1, z2⟩ := zip_sum _ (squaresOf x n) (n * 2089984) (by rw [e1, q1]) (by omega) e3 q2
    rw [← hw] at z1 z2
    refine ⟨by rw [hw, List.length_zipWith, e1, q1]; exact Nat.min_self _, by omega, fun v hv => by have := z2 v hv; omega⟩
theorem ways_sum {x : ShowT} (f : ShowFacts x) : (waysOf x).foldl (fun a u => w64 (a + u)) 0 = (sumT x x.2.1.length).1 := by
  have n1 := f.n1
  have nc := f.nc
  obtain ⟨h1, h2, h3⟩ := sumT_all f _ (Nat.le_refl _)
  obtain ⟨e1, e2, e3⟩ := h1 (waysOf x) rfl
  have hl := waysOf_len f
  have := (fold_sum (waysOf x) 0 (fun u hu => by have := e3 u hu; omega) (by omega) (by omega)).1
  omega
theorem sum_widest {x : ShowT} (f : ShowFacts x) : (widest x).2 = (sumT x x.2.1.length).2 := by
  have nc := f.nc
  have n0 := f.n0
  have key : ∀ n, n ≤ x.2.1.length → (((List.range n).foldl (fun (s : Int × Int) k => if s.2 < partSum x k then ((k : Int), partSum x k) else s) (0, -1)).2 = (sumT x n).2 ∧ 0 < n) ∨ (n = 0) := by
    intro n
    induction n with
    | zero => intro _; exact .inr rfl
    | succ n ih =>
      intro hn
      left
      refine ⟨?_, by omega⟩
      have hp := (partSum_eq f (p := n) (by omega)).2.1
      unfold sumT
      rw [List.range_succ, List.foldl_append, List.foldl_cons, List.foldl_nil, List.foldl_append, List.foldl_cons, List.foldl_nil]
      rcases ih (by omega) with ⟨h, _⟩ | h
      · have h' : ((List.range n).foldl (fun (s : Int × Int) p => (w64 (s.1 + partSum x p), if s.2 < partSum x p then partSum x p else s.2)) (0, 0)).2 = ((List.range n).foldl (fun (s : Int × Int) k => if s.2 < partSum x k then ((k : Int), partSum x k) else s) (0, -1)).2 := h.symm
        rw [h']
        generalize (List.range n).foldl (fun (s : Int × Int) k => if s.2 < partSum x k then ((k : Int), partSum x k) else s) (0, -1) = w
        dsimp only
        split <;> rfl
      · subst h
        have e1 : (-1 : Int) < partSum x 0 := by omega
        show (if (-1 : Int) < partSum x 0 then (((0 : Nat) : Int), partSum x 0) else ((0 : Int), (-1 : Int))).2 = if (0 : Int) < partSum x 0 then partSum x 0 else 0
        rw [if_pos e1]
        split
        · rfl
        · dsimp only; omega
  rcases key _ (Nat.le_refl _) with h | h
  · exact h.1
  · omega
/-! the least distance that is kept -/
theorem leastShow_bd {x : ShowT} (f : ShowFacts x) (h2 : 2 ≤ (chartAt x 0).length) : bdF (leastShow x) := by
  have nc := f.nc
  have n0 := f.n0
  have key : ∀ n, 0 < n → n ≤ x.2.1.length → bdF ((List.range n).foldl (fun s p => lstep x p s) (0, 0)) := by
    intro n
    induction n with
    | zero => intro h; omega
    | succ n ih =>
      intro _ hn
      rw [List.range_succ, List.foldl_append, List.foldl_cons, List.foldl_nil]
      by_cases hz : n = 0
      · subst hz
        exact lstep_bd f h2 (by omega) (.inl rfl)
      · exact lstep_bd f h2 (by omega) (.inr (ih (by omega) (by omega)))
  exact key _ (by omega) (Nat.le_refl _)
def keepN (x : ShowT) : Nat := (List.range x.2.1.length).foldl (fun L p => dn (keepQ x p) L) 80
theorem keepAns_of {x : ShowT} (h : okShow x = true) : keepAns x = ((keepN x : Int), true) := by
  unfold keepAns keepN
  rw [h, if_pos rfl]
theorem keepQ_down {x : ShowT} (f : ShowFacts x) {p : Nat} (hp : p < x.2.1.length) {s t : Nat} (hst : s ≤ t) (ht : t ≤ 80) (h : keepQ x p t = true) : keepQ x p s = true := by
  have hg := moves_good f hp
  unfold keepQ at h ⊢
  rw [close_g hg (by omega) (by omega), List.all_eq_true] at h ⊢
  intro i hi
  have h1 := h i hi
  unfold gRow at h1 ⊢
  rw [List.all_eq_true] at h1 ⊢
  intro k hk
  have h2 := h1 k hk
  unfold gAt at h2 ⊢
  cases hu : (movesOf x p)[i]? with
  | none => rfl
  | some u =>
    cases hv : (movesOf x p)[k]? with
    | none => rfl
    | some v =>
      rw [hu, hv] at h2
      dsimp only at h2 ⊢
      exact gOf_down hst (by have := (near_bd (hg u (List.mem_of_getElem? hu)) (hg v (List.mem_of_getElem? hv))).2.2.1; omega) h2
theorem keepN_spec {x : ShowT} (f : ShowFacts x) : keepN x ≤ 80 ∧ (∀ p, p < x.2.1.length → keepQ x p (keepN x) = true) := by
  have e : keepN x = dn (fun t => (List.range x.2.1.length).all fun p => keepQ x p t) 80 := by
    unfold keepN
    exact dn_fold (keepQ x) 80 _ _ (Nat.le_refl _) (fun p hp => keep_zero f (List.mem_range.1 hp)) (fun p hp s t hst ht hq => keepQ_down f (List.mem_range.1 hp) hst ht hq)
  obtain ⟨d1, d2, d3⟩ := dn_spec (fun t => (List.range x.2.1.length).all fun p => keepQ x p t) (List.all_eq_true.2 fun p hp => keep_zero f (List.mem_range.1 hp)) 80
  rw [← e] at d1 d2
  exact ⟨d1, fun p hp => List.all_eq_true.1 d2 p (List.mem_range.2 hp)⟩
theorem keepN_one {x : ShowT} (f : ShowFacts x) (h : ¬ 2 ≤ (chartAt x 0).length) : keepN x = 80 := by
  have one : ∀ p, p < x.2.1.length → ∀ L : Nat, keepQ x p L = true := by
    intro p hp L
    have hm := moves_chart f hp
    unfold keepQ closeOf
    rw [foldl_nil_iff]
    simp only [List.isEmpty_nil, Bool.true_and, List.all_eq_true]
    intro i hi
    have := List.mem_range.1 hi
    unfold closeRow
    rw [show (movesOf x p).length - (i + 1) = 0 by omega]
    rfl
  have key : ∀ (ps : List Nat), (∀ p ∈ ps, p < x.2.1.length) → ps.foldl (fun L p => dn (keepQ x p) L) 80 = 80 := by
    intro ps
    induction ps with
    | nil => intro _; rfl
    | cons p ps ih =>
      intro hp
      rw [List.foldl_cons, dn_unique (keepQ x p) (one p (hp p (by simp)) 0) (Nat.le_refl 80) (one p (hp p (by simp)) 80) (fun t h1 h2 => by omega)]
      exact ih fun r hr => hp r (by simp [hr])
  exact key _ fun p hp => List.mem_range.1 hp
theorem keepN_two {x : ShowT} (f : ShowFacts x) (h2 : 2 ≤ (chartAt x 0).length) : (keepN x : Int) * keepN x * (leastShow x).2 ≤ (leastShow x).1 ∧ (keepN x < 80 → (leastShow x).1 < ((keepN x : Int) + 1) * ((keepN x : Int) + 1) * (leastShow x).2) := by
  have hb := leastShow_bd f h2
  have e : keepN x = dn (fun L => gOf (L : Int) (leastShow x)) 80 := keep_all f h2
  obtain ⟨d1, d2, d3⟩ := dn_spec (fun L => gOf (L : Int) (leastShow x)) (by unfold gOf; simp; exact hb.1) 80
  rw [← e] at d1 d2 d3
  refine ⟨by unfold gOf at d2; simpa using d2, fun hlt => ?_⟩
  have := d3 (keepN x + 1) (by omega) (by omega)
  unfold gOf at this
  rw [decide_eq_false_iff_not] at this
  rw [show ((keepN x + 1 : Nat) : Int) = (keepN x : Int) + 1 by omega] at this
  omega
/-! the law -/
theorem sqNat {K : Nat} (h : K ≤ 81) : 0 ≤ (K : Int) * K ∧ (K : Int) * K ≤ 6561 := by
  have h1 : 0 ≤ (K : Int) * K := Int.mul_nonneg (by omega) (by omega)
  have h2 : (K : Int) * K ≤ 81 * 81 := Int.mul_le_mul (by omega) (by omega) (by omega) (by omega)
  omega
def sameAns (x y : ShowT) : Bool × Bool := if okShow x && okShow y then (decide (x = y), true) else (false, false)
def widestAns (x : ShowT) : Int × Int × Bool := if okShow x then ((widest x).1, (widest x).2, true) else (0, 0, false)
theorem P_laws_FnCompared (x0 x1 : List Int) (g0 : (allG inU8) x0) (g1 : (allG inU8) x1) : F_laws_FnCompared x0 x1 = some true := by
  refine Tot.of ?_
  unfold F_laws_FnCompared
  refine Tot.ite (fun _ => Tot.some rfl) fun _ => ?_
  refine Tot.bind (draw_DifferentCharts x0 (Cu.begin g0)) fun u7 h7 => ?_
  have la := h7.1.lens
  have lb := h7.2.lens
  refine Tot.bindE (impl_DifferentCharts _ _ la lb) (Tot.bindE (spec_DifferentCharts _ _ la lb) ?_)
  refine Tot.bindE (v := sameAns u7.1 u7.2) (impl_SameShows _ _ la lb) (Tot.bindE (v := sameAns u7.1 u7.2) (spec_SameShows _ _ la lb) ?_)
  refine Tot.bind (draw_WaySums x1 (Cu.begin g1)) fun x hx => ?_
  have lx := hx.lens
  refine Tot.bindE (impl_WaySums _ lx) (Tot.bindE (spec_WaySums _ lx) ?_)
  refine Tot.bindE (v := widestAns x) (impl_WidestPart _ lx) (Tot.bindE (v := widestAns x) (spec_WidestPart _ lx) ?_)
  refine Tot.bindE (impl_LeastOfShow _ lx) (Tot.bindE (spec_LeastOfShow _ lx) ?_)
  refine Tot.bindE (impl_LeastToKeep _ lx) (Tot.bindE (spec_LeastToKeep _ lx) ?_)
  have hdl : (diffAns u7.1 u7.2).1.length ≤ 1048576 := diffAns_len _ _ (by have := h7.1.1; omega)
  refine Tot.j1 (fun y => y = false) (fun y hy => ?_) fun k hk => ?_
  rotate_left
  · have hw := waysAns_len x
    have o1 : (diffAns u7.1 u7.2).2 = true → (sameAns u7.1 u7.2).2 = true := by
      unfold diffAns sameAns fit
      cases okShow u7.1 <;> cases okShow u7.2 <;> simp
    have o2 : (widestAns x).2.2 = (waysAns x).2 := by unfold widestAns waysAns; cases okShow x <;> rfl
    have o3 : (keepAns x).2 = (waysAns x).2 := by unfold keepAns waysAns; cases okShow x <;> rfl
    rw [if_neg (by simp)]
    refine Tot.bindE (qq_Ints _ hdl) ?_
    rw [if_neg (by simp), if_neg (by simp), if_neg (by simp), if_neg (by simp)]
    refine Tot.bindE (qq_Ints _ (by omega)) ?_
    rw [o2, o3]
    have fin : Tot (if ((waysAns x).2 != (waysAns x).2) = true then k true else k ((waysAns x).2 != (waysAns x).2)) fun b => b = true := by
      rw [if_neg (by simp)]
      exact hk _ (by simp)
    simp only [bne_self_eq_false, Bool.not_true, Bool.false_eq_true, if_false]
    refine Tot.ite (fun h => ?_) fun _ => hk _ rfl
    rw [o1 h]
    simp only [Bool.not_true, Bool.false_eq_true, if_false]
    exact hk _ rfl
  subst hy
  simp only [Bool.false_eq_true, if_false]
  refine Tot.j0 ?_ fun k hk => ?_
  · -- sums, the widest part, the least distance
    refine Tot.ite (fun _ => Tot.some rfl) fun hok => ?_
    have ho : okShow x = true := by
      cases h : okShow x with
      | true => rfl
      | false => unfold waysAns at hok; rw [h] at hok; simp at hok
    have f := facts ho
    have n0 := f.n0
    have n1 := f.n1
    have nc := f.nc
    obtain ⟨k80, kq⟩ := keepN_spec f
    have sK := sqNat (K := keepN x) (by omega)
    have sK1 := sqNat (K := keepN x + 1) (by omega)
    rw [show ((keepN x + 1 : Nat) : Int) = (keepN x : Int) + 1 by omega] at sK1
    obtain ⟨c, hc, hce, hc1, hc12⟩ := first_chart f
    have ew : widestAns x = ((widest x).1, (widest x).2, true) := by unfold widestAns; rw [ho]; rfl
    have ewy : waysAns x = (waysOf x, true) := by unfold waysAns; rw [ho]; rfl
    have els : leastShowAns x = if 2 ≤ (chartAt x 0).length then ((leastShow x).1, (leastShow x).2, true) else (0, 0, false) := by
      unfold leastShowAns twoMore
      rw [ho]
      by_cases h : 2 ≤ (chartAt x 0).length <;> simp [h]
    rw [keepAns_of ho, ew, ewy]
    have hz : okShow (x.1, x.2.1, (keepN x : Int), x.2.2.2) = true := by
      unfold okShow at ho ⊢
      simp only [Bool.and_eq_true, okIn_iff] at ho ⊢
      exact ⟨⟨ho.1.1, by omega⟩, ho.2⟩
    have lz : lensOk (x.1, x.2.1, (keepN x : Int), x.2.2.2) := lx
    have main := (loopS (fun m (s : Int × Int) y => F_laws_FnCompared_L2 x ((keepN x : Int), true) (leastShowAns x) (leastShowAns x) (waysOf x, true) ((widest x).1, (widest x).2, true) m s.1 s.2 y) x.2.1.length
      (fun p s => (w64 (s.1 + partSum x p), if s.2 < partSum x p then partSum x p else s.2)) (fun s => if s = sumT x x.2.1.length then some true else some false) (by omega) (fun p s => s = sumT x p) (0, 0) rfl
      (fun p s hp hs => by rw [hs]; unfold sumT; rw [List.range_succ, List.foldl_append, List.foldl_cons, List.foldl_nil]) (fun m p s hp hs => ?_) (fun m s hs => ?_)).1
    · refine ⟨true, ?_, rfl⟩
      exact main.trans (if_pos rfl)
    · -- one part
      have hml := moves_len x f p hp
      have hmc := moves_len' f hp
      have hg := moves_good f hp
      have hop : okPart x (p : Int) = true := by unfold okPart; rw [ho, Bool.true_and, okIn_iff]; omega
      have hzp : okPart (x.1, x.2.1, (keepN x : Int), x.2.2.2) (p : Int) = true := by unfold okPart; rw [hz, Bool.true_and, okIn_iff]; dsimp only; omega
      have em : movesAns x (p : Int) = (movesOf x p, true) := by unfold movesAns; rw [hop, Int.toNat_natCast]; rfl
      have ec : closeAns (x.1, x.2.1, (keepN x : Int), x.2.2.2) (p : Int) = ([], true) := by
        unfold closeAns
        rw [hzp, if_pos rfl, Int.toNat_natCast]
        have := kq p hp
        unfold keepQ at this
        rw [List.isEmpty_iff] at this
        exact congrArg (fun l => (l, true)) this
      dsimp only
      rw [F_laws_FnCompared_L2, if_pos (by simp; omega), impl_ShowMoves x _ lx, Option.bind_some, em]
      unfold jK1
      dsimp only
      rw [if_neg (by simp), idx_zero, hc, Option.bind_some, if_neg (by rw [hmc, hce]; simp)]
      rw [loopFold (F_laws_FnCompared_L3 (movesOf x p, true) x ((keepN x : Int), true) (p : Int) (F_laws_FnCompared_L2 x ((keepN x : Int), true) (leastShowAns x) (leastShowAns x) (waysOf x, true) ((widest x).1, (widest x).2, true) m) s.1 s.2) (movesOf x p) (fun a u => w64 (a + sqM u))
        (fun t => F_laws_FnCompared_L2 x ((keepN x : Int), true) (leastShowAns x) (leastShowAns x) (waysOf x, true) ((widest x).1, (widest x).2, true) m (w64 (s.1 + t)) (if s.2 < t then t else s.2) (w64 ((p : Int) + 1))) (by omega) (fun m' t j u hj hu => ?_) (fun m' t => ?_)]
      · have e : (movesOf x p).foldl (fun a u => w64 (a + sqM u)) 0 = partSum x p := by unfold partSum; rw [List.foldl_map]
        rw [e, w64_succ (by omega)]
      · have hgu := hg u (List.mem_of_getElem? hu)
        rw [F_laws_FnCompared_L3, if_pos (by simp; omega), idx_nat]
        dsimp only
        rw [hu, Option.bind_some, impl_SquareOf _ _ hgu.1 hgu.2, Option.bind_some, if_neg (by simp), w64_succ (k := j) (by omega)]
        rfl
      · rw [F_laws_FnCompared_L3, if_neg (by simp)]
        unfold jK1
        dsimp only
        rw [impl_ClosePairs _ _ lz, Option.bind_some, ec]
        by_cases hq : s.2 < t
        · rw [if_pos (by simpa using hq), if_pos hq]
          simp
        · rw [if_neg (by simpa using hq), if_neg hq]
          simp
    · -- after the parts
      subst hs
      rw [if_pos rfl, F_laws_FnCompared_L2, if_neg (by simp)]
      unfold jK1
      dsimp only
      rw [qq_Sum _ (by have := waysOf_len f; omega), Option.bind_some, ways_sum f, if_neg (by simp), sum_widest f, if_neg (by simp), idx_zero, hc, Option.bind_some, els, hce]
      by_cases h2 : 2 ≤ c.length
      · have h2' : 2 ≤ (chartAt x 0).length := by rw [hce]; exact h2
        obtain ⟨b1, b2, b3, b4⟩ := leastShow_bd f h2'
        obtain ⟨k1, k2⟩ := keepN_two f h2'
        rw [if_pos h2]
        dsimp only
        rw [if_neg (by simp; omega), if_pos rfl, w64_eq (x := (keepN x : Int) * keepN x) (by omega) (by omega), qq_Less _ _ _ b1 (by omega) b3 (by omega) sK.1 (by omega), Option.bind_some, if_neg (by simp; omega)]
        by_cases h80 : keepN x = 80
        · rw [if_pos (by simp; omega)]
        · rw [if_neg (by simp; omega), if_pos rfl, w64_eq (x := (keepN x : Int) + 1) (by omega) (by omega), w64_eq (x := ((keepN x : Int) + 1) * ((keepN x : Int) + 1)) (by omega) (by omega), qq_Less _ _ _ b1 (by omega) b3 (by omega) sK1.1 (by omega), Option.bind_some]
          have := k2 (by omega)
          simp [this]
      · have h80 := keepN_one f (by rw [hce]; exact h2)
        rw [if_neg h2]
        dsimp only
        rw [if_neg (by simp; omega), if_neg (by simp), if_neg (by simp), if_pos (by rw [h80]; rfl)]
  -- the charts that differ
  refine Tot.ite (fun hok => ?_) fun _ => hk
  have hfit : fit u7.1 u7.2 = true := by
    cases h : fit u7.1 u7.2 with
    | true => rfl
    | false => unfold diffAns at hok; rw [h] at hok; simp at hok
  have oa : okShow u7.1 = true ∧ okShow u7.2 = true ∧ u7.1.1.length = u7.2.1.length := by
    unfold fit at hfit
    simp only [Bool.and_eq_true, decide_eq_true_eq] at hfit
    exact ⟨hfit.1.1.1, hfit.1.1.2, hfit.1.2⟩
  have fa := facts oa.1
  have fb := facts oa.2.1
  have n1 := fa.n1
  have ed : diffAns u7.1 u7.2 = (filt (diffAt u7.1 u7.2) u7.1.1.length, true) := by unfold diffAns; rw [hfit]; rfl
  have es : sameAns u7.1 u7.2 = (decide (u7.1 = u7.2), true) := by unfold sameAns; rw [oa.1, oa.2.1]; rfl
  have es1 : F_impl_SameShows u7.1 u7.1 = some (true, true) := by rw [impl_SameShows _ _ la la, oa.1]; simp
  have es2 : F_impl_SameShows u7.2 u7.1 = some (decide (u7.1 = u7.2), true) := by
    rw [impl_SameShows _ _ lb la, oa.1, oa.2.1]
    by_cases h : u7.1 = u7.2
    · simp [h]
    · have h2 : ¬ u7.2 = u7.1 := fun e => h e.symm
      simp [h, h2]
  rw [ed, es]
  obtain ⟨v, hv, hv2⟩ := hk
  rw [hv]
  rw [loopR (F_laws_FnCompared_L1 u7 (filt (diffAt u7.1 u7.2) u7.1.1.length, true) (some v) (decide (u7.1 = u7.2), true)) u7.1.1.length (fun _ => true) (some v) (some false) (by omega) (fun m k hk => ?_) (fun m => ?_)]
  · exact ⟨v, by simp, hv2⟩
  · obtain ⟨c, hc⟩ : ∃ c, u7.1.1[k]? = some c := ⟨_, List.getElem?_eq_getElem hk⟩
    obtain ⟨d, hd⟩ : ∃ d, u7.2.1[k]? = some d := ⟨_, List.getElem?_eq_getElem (by omega)⟩
    have hfl := filt_len (diffAt u7.1 u7.2) u7.1.1.length
    rw [F_laws_FnCompared_L1, if_pos (by simp; omega), idx_nat, hc, Option.bind_some, idx_nat, hd, Option.bind_some, qq_Has _ _ (by dsimp only; omega), Option.bind_some, qq_Spots c d (la.2.1 c (List.mem_of_getElem? hc)) (lb.2.1 d (List.mem_of_getElem? hd)), Option.bind_some, w64_succ (by omega)]
    have e : decide ((k : Int) ∈ filt (diffAt u7.1 u7.2) u7.1.1.length) = !decide (c = d) := by
      rw [Bool.eq_iff_iff, decide_eq_true_eq, mem_filt' hk]
      unfold diffAt
      rw [hc, hd]
      simp
    dsimp only
    rw [e]
    simp
  · rw [F_laws_FnCompared_L1, if_neg (by simp)]
    unfold jK1
    dsimp only
    rw [es1, Option.bind_some, es2, Option.bind_some]
    by_cases h : u7.1 = u7.2
    · have hn : filt (diffAt u7.1 u7.2) u7.1.1.length = [] := by
        unfold filt
        rw [List.map_eq_nil_iff, List.filter_eq_nil_iff]
        intro k _
        unfold diffAt
        rw [h]
        simp
      rw [hn]
      simp [h]
    · simp [h]
end Go.Proofs.Ytmkignciedkidaa
