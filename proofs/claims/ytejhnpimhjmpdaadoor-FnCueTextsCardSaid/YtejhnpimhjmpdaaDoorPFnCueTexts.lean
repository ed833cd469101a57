import Derived.Test.YtejhnpimhjmpdaaDoorCore0
import Derived.Test.YtejhnpimhjmpdaaDoorF
import Derived.Test.YtejhnpimhjmpdaaDoorLibF
/-
  PLAIN BASE: lemmas on the words of Core0, on loops with fuel. No program.
-/
set_option linter.unusedSimpArgs false
set_option linter.unusedVariables false
namespace Go.Proofs.YtejhnpimhjmpdaaDoor
open Go
theorem w64_eq {x : Int} (h1 : -9223372036854775808 ≤ x) (h2 : x ≤ 9223372036854775807) : w64 x = x := by
  unfold w64 IntKind.wrap
  simp only [IntKind.bits, IntKind.signed]
  simp only [ge_iff_le, Bool.true_and, decide_eq_true_eq]
  split <;> omega
theorem w64_succ {k : Nat} (h : k < 4611686018427387904) : w64 ((k : Int) + 1) = ((k + 1 : Nat) : Int) := by
  rw [w64_eq (by omega) (by omega)]; omega
theorem idx_nat {α : Type} (l : List α) (k : Nat) : idx l (k : Int) = l[k]? := by unfold idx; simp
theorem idx_int {α : Type} {l : List α} {i : Int} (h0 : 0 ≤ i) : idx l i = l[i.toNat]? := by unfold idx; rw [if_pos h0]
theorem FU_gt {n : Nat} (h : n < 4611686018427387904) : n < FU := h
theorem sl_take {α : Type} (l : List α) {k : Nat} (h : k ≤ l.length) : sl l 0 (k : Int) = some (l.take k) := by
  unfold sl
  rw [if_pos (by omega)]
  simp
/-- A loop over the numbers below n that ends early where p says no. -/
theorem loopR {R : Type} (f : Nat → Int → Option R) (n : Nat) (p : Nat → Bool) (rest bad : Option R) (hn : n < 4611686018427387904)
    (hs : ∀ m k, k < n → f (m + 1) (k : Int) = if p k = true then f m ((k + 1 : Nat) : Int) else bad) (he : ∀ m, f (m + 1) (n : Int) = rest) : f FU 0 = if (List.range n).all p = true then rest else bad := by
  have key : ∀ d k m, n - k = d → k ≤ n → n - k < m → f m (k : Int) = if (List.range' k (n - k)).all p = true then rest else bad := by
    intro d
    induction d with
    | zero =>
      intro k m hd hk hm
      have : k = n := by omega
      subst this
      cases m with
      | zero => omega
      | succ m => simp [he]
    | succ d ih =>
      intro k m hd hk hm
      cases m with
      | zero => omega
      | succ m =>
        rw [hs m k (by omega), hd, List.range'_succ, List.all_cons]
        cases hp : p k with
        | false => simp
        | true =>
          simp only [if_true, Bool.true_and]
          rw [ih (k + 1) m (by omega) (by omega) (by omega), show n - (k + 1) = d by omega]
  have := key n 0 FU (by omega) (by omega) (FU_gt (by omega))
  simpa [List.range_eq_range'] using this
theorem range_all {α : Type} (l : List α) (p : Nat → Bool) (q : α → Bool) (h : ∀ k x, l[k]? = some x → p k = q x) : (List.range l.length).all p = l.all q := by
  rw [Bool.eq_iff_iff, List.all_eq_true, List.all_eq_true]
  constructor
  · intro h1 x hx
    obtain ⟨k, hk⟩ := List.getElem?_of_mem hx
    rw [← h k x hk]
    exact h1 k (List.mem_range.2 (List.getElem?_eq_some_iff.1 hk).1)
  · intro h1 k hk
    have hk' := List.mem_range.1 hk
    rw [h k l[k] (by simp [hk'])]
    exact h1 _ (List.getElem_mem hk')
/-- A loop over a list that ends early where q says no. -/
theorem loopL {α R : Type} (f : Nat → Int → Option R) (l : List α) (q : α → Bool) (rest bad : Option R) (hn : l.length < 4611686018427387904)
    (hs : ∀ m k x, k < l.length → l[k]? = some x → f (m + 1) (k : Int) = if q x = true then f m ((k + 1 : Nat) : Int) else bad) (he : ∀ m, f (m + 1) (l.length : Int) = rest) : f FU 0 = if l.all q = true then rest else bad := by
  rw [loopR f l.length (fun k => match l[k]? with | some x => q x | none => true) rest bad hn (fun m k hk => ?_) he, range_all l _ q (fun k x hx => by simp [hx])]
  have hx : l[k]? = some l[k] := by simp [hk]
  rw [hs m k l[k] hk hx]
  simp [hx]
/-- A loop that carries a state through the numbers below n. -/
theorem loopS {R S : Type} (f : Nat → S → Int → Option R) (n : Nat) (step : Nat → S → S) (rest : S → Option R) (hn : n < 4611686018427387904)
    (I : Nat → S → Prop) (s0 : S) (h0 : I 0 s0) (hI : ∀ k s, k < n → I k s → I (k + 1) (step k s))
    (hs : ∀ m k s, k < n → I k s → f (m + 1) s (k : Int) = f m (step k s) ((k + 1 : Nat) : Int)) (he : ∀ m s, I n s → f (m + 1) s (n : Int) = rest s) :
    f FU s0 0 = rest ((List.range n).foldl (fun s k => step k s) s0) ∧ I n ((List.range n).foldl (fun s k => step k s) s0) := by
  have key : ∀ d k m s, n - k = d → k ≤ n → n - k < m → I k s → f m s (k : Int) = rest ((List.range' k (n - k)).foldl (fun s k => step k s) s) ∧ I n ((List.range' k (n - k)).foldl (fun s k => step k s) s) := by
    intro d
    induction d with
    | zero =>
      intro k m s hd hk hm hi
      have : k = n := by omega
      subst this
      cases m with
      | zero => omega
      | succ m => simp [he m s hi, hi]
    | succ d ih =>
      intro k m s hd hk hm hi
      cases m with
      | zero => omega
      | succ m =>
        rw [hs m k s (by omega) hi, hd, List.range'_succ, List.foldl_cons]
        have := ih (k + 1) m (step k s) (by omega) (by omega) (by omega) (hI k s (by omega) hi)
        rwa [show n - (k + 1) = d by omega] at this
  have := key n 0 FU s0 (by omega) (by omega) (FU_gt (by omega)) h0
  simpa [List.range_eq_range'] using this
/-! ### Sizes, copies, comparisons (the laws' own) -/
def Szd (o : Option Int) (n : Int) (Q : Prop) : Prop := ∃ r, o = some r ∧ (r < 0 ∨ (0 ≤ r ∧ r ≤ n ∧ Q))
def allS {α : Type} (S : α → Prop) (l : List α) : Prop := l.length ≤ 1048576 ∧ ∀ x ∈ l, S x
theorem idx_lt {α : Type} {l : List α} {k : Nat} (h : k < l.length) : idx l (k : Int) = some l[k] := by rw [idx_nat]; simp [h]
theorem seti_nat {α : Type} (l : List α) (k : Nat) (x : α) : seti l (k : Int) x = l.set k x := by unfold seti; simp
theorem Szd.imp {o : Option Int} {n : Int} {Q R : Prop} (h : Szd o n Q) (hi : Q → R) : Szd o n R := by
  obtain ⟨r, h1, h2⟩ := h
  exact ⟨r, h1, h2.imp id fun h => ⟨h.1, h.2.1, hi h.2.2⟩⟩
theorem eqL {α : Type} {S : α → Prop} (f : Nat → Int → Option Bool) (l : List α) (g : α → α → Option Bool)
    (hs : ∀ m k, f (m + 1) k = if (decide (k < (List.length l : Int))) = true then Option.bind (idx l k) fun u => Option.bind (idx l k) fun v => Option.bind (g u v) fun b => (if (!b) = true then some false else f m (w64 (k + 1))) else some true)
    (hg : ∀ x, S x → g x x = some true) (hl : allS S l) : (if ((List.length l : Int) != (List.length l : Int)) = true then some false else f FU 0) = some true := by
  have hl1 := hl.1
  rw [if_neg (by simp)]
  have := loopL f l (fun _ => true) (some true) (some false) (by omega) (fun m k x hk hx => ?_) (fun m => by rw [hs, if_neg (by simp)])
  · simpa using this
  · rw [hs, if_pos (by simp; omega), idx_nat, hx, Option.bind_some, Option.bind_some, hg x (hl.2 _ (List.mem_of_getElem? hx)), Option.bind_some, w64_succ (by omega)]
    rfl
/-- A loop over a list that carries a state. -/
theorem loopFold {α S R : Type} (f : Nat → S → Int → Option R) (l : List α) (step : S → α → S) (rest : S → Option R) (hn : l.length < 4611686018427387904)
    (hs : ∀ m s k x, k < l.length → l[k]? = some x → f (m + 1) s (k : Int) = f m (step s x) ((k + 1 : Nat) : Int)) (he : ∀ m s, f (m + 1) s (l.length : Int) = rest s) (s0 : S) : f FU s0 0 = rest (l.foldl step s0) := by
  have key : ∀ d k m s, l.length - k = d → k ≤ l.length → l.length - k < m → f m s (k : Int) = rest ((l.drop k).foldl step s) := by
    intro d
    induction d with
    | zero =>
      intro k m s hd hk hm
      have : k = l.length := by omega
      subst this
      cases m with
      | zero => omega
      | succ m => rw [he]; simp
    | succ d ih =>
      intro k m s hd hk hm
      cases m with
      | zero => omega
      | succ m =>
        have hk' : k < l.length := by omega
        rw [hs m s k l[k] hk' (by simp [hk']), ih (k + 1) m _ (by omega) (by omega) (by omega), List.drop_eq_getElem_cons hk', List.foldl_cons]
  have := key _ 0 FU s0 rfl (by omega) (FU_gt (by omega))
  simpa using this
end Go.Proofs.YtejhnpimhjmpdaaDoor
/-
  DRAWS, PLAIN: numbers from bytes are there, in their bounds.
-/
set_option linter.unusedSimpArgs false
set_option linter.unusedVariables false
namespace Go.Proofs.YtejhnpimhjmpdaaDoor
open Go
/-- There is a value, and it is as told. -/
def Tot {α : Type} (o : Option α) (P : α → Prop) : Prop := ∃ v, o = some v ∧ P v
section
variable {α β : Type}
theorem Tot.some {v : α} {P : α → Prop} (h : P v) : Tot (some v) P := ⟨v, rfl, h⟩
theorem Tot.bind {o : Option α} {f : α → Option β} {P : α → Prop} {Q : β → Prop} (h : Tot o P) (hf : ∀ v, P v → Tot (f v) Q) : Tot (Option.bind o f) Q := by
  obtain ⟨v, rfl, hv⟩ := h
  exact hf v hv
theorem Tot.bindE {o : Option α} {v : α} {f : α → Option β} {Q : β → Prop} (h : o = Option.some v) (hf : Tot (f v) Q) : Tot (Option.bind o f) Q := by
  rw [h]
  exact hf
theorem Tot.mono {o : Option α} {P Q : α → Prop} (h : Tot o P) (hf : ∀ v, P v → Q v) : Tot o Q := by
  obtain ⟨v, h1, hv⟩ := h
  exact ⟨v, h1, hf v hv⟩
theorem Tot.ite {c : Bool} {A B : Option α} {P : α → Prop} (h1 : c = true → Tot A P) (h2 : c = false → Tot B P) : Tot (if c = true then A else B) P := by
  cases c with
  | true => exact h1 rfl
  | false => exact h2 rfl
theorem Tot.j0 {rest : Option β} {body : Option β → Option β} {Q : β → Prop} (hr : Tot rest Q) (hb : ∀ k, Tot k Q → Tot (body k) Q) : Tot (jK0 rest body) Q := hb rest hr
theorem Tot.j1 {A : Type} {rest : A → Option β} {body : (A → Option β) → Option β} {Q : β → Prop} (P : A → Prop) (hr : ∀ a, P a → Tot (rest a) Q) (hb : ∀ k, (∀ a, P a → Tot (k a) Q) → Tot (body k) Q) : Tot (jK1 rest body) Q := hb rest hr
theorem Tot.of {o : Option Bool} (h : Tot o fun b => b = true) : o = Option.some true := by
  obtain ⟨v, h1, h2⟩ := h
  rw [h1, h2]
theorem Tot.loop {S R : Type} (f : Nat → S → Option R) (μ : S → Nat) (I : S → Prop) (Q : R → Prop) (step : ∀ m s, I s → (∀ s', I s' → μ s' < μ s → Tot (f m s') Q) → Tot (f (m + 1) s) Q) :
    ∀ m s, I s → μ s < m → Tot (f m s) Q := by
  intro m
  induction m with
  | zero => intro s _ h; omega
  | succ m ih => intro s hs h; exact step m s hs fun s' hs' hlt => ih s' hs' (by omega)
end
/-- Bytes, a place in them or behind, and so many steps before it leaves its range. -/
def Cu (c : List Int) (n a : Int) : Prop := (∀ b ∈ c, 0 ≤ b ∧ b ≤ 255) ∧ 0 ≤ a ∧ 0 ≤ n ∧ a + n ≤ 4000000000000000000
theorem Cu.mono {c : List Int} {n m a : Int} (h : Cu c n a) (h0 : 0 ≤ m) (hm : m ≤ n) : Cu c m a := ⟨h.1, h.2.1, h0, by have := h.2.2.2; omega⟩
/-- A value, and the place behind. -/
def Pk {α : Type} (c : List Int) (n : Int) (P : α → Prop) (v : α × List Int × Int × Int) : Prop := P v.1 ∧ v.2.1 = c ∧ Cu c n v.2.2.1
theorem Pk.imp {α : Type} {c : List Int} {n m : Int} {P Q : α → Prop} {v : α × List Int × Int × Int} (h : Pk c n P v) (hp : ∀ r, P r → Q r) (h0 : 0 ≤ m) (hm : m ≤ n) : Pk c m Q v := ⟨hp _ h.1, h.2.1, h.2.2.mono h0 hm⟩
abbrev Cur := List Int × Int × Int
theorem w64_byte {b : Int} (h : 0 ≤ b ∧ b ≤ 255) : w64 b = b := w64_eq (by omega) (by omega)
theorem and_byte (a : Int) : 0 ≤ w64 (andK .u64 a 255) ∧ w64 (andK .u64 a 255) ≤ 255 := by
  have h : andK .u64 a 255 = IntKind.wrap .u64 (((BitVec.ofInt 64 a &&& BitVec.ofInt 64 255).toNat : Nat) : Int) := rfl
  have h2 : (BitVec.ofInt 64 a &&& BitVec.ofInt 64 255).toNat ≤ 255 := by
    rw [BitVec.toNat_and]
    exact Nat.le_trans Nat.and_le_right (by decide)
  rw [h]
  generalize (BitVec.ofInt 64 a &&& BitVec.ofInt 64 255).toNat = v at *
  have e : IntKind.wrap .u64 (v : Int) = v := by
    unfold IntKind.wrap
    simp only [IntKind.bits, IntKind.signed]
    simp
    omega
  rw [e, w64_byte (by omega)]
  omega
theorem next_ok (x : Cur) {m : Int} (h : Cu x.1 m x.2.1) (hm : 1 ≤ m) : Tot (F_spec_l1Cur__next__mut__box x) (Pk x.1 (m - 1) fun r => 0 ≤ r ∧ r ≤ 255) := by
  obtain ⟨h1, h2, h3, h4⟩ := h
  unfold F_spec_l1Cur__next__mut__box jK1
  have e : w64 (x.2.1 + 1) = x.2.1 + 1 := w64_eq (by omega) (by omega)
  have cu : Cu x.1 (m - 1) (x.2.1 + 1) := ⟨h1, by omega, by omega, by omega⟩
  dsimp only
  rw [e]
  have fin : ∀ y : Int, (0 ≤ y ∧ y ≤ 255) → ∀ s1 s2 s3 : Int, Tot (if (decide (x.2.1 + 1 ≤ (List.length x.1 : Int))) = true then some (y, (x.1, x.2.1 + 1, s1)) else some ((w64 (andK .u64 s2 255)), (x.1, x.2.1 + 1, s3))) (Pk x.1 (m - 1) fun r => 0 ≤ r ∧ r ≤ 255) := by
    intro y hy s1 s2 s3
    refine Tot.ite (fun _ => Tot.some ⟨hy, rfl, cu⟩) fun _ => Tot.some ⟨and_byte _, rfl, cu⟩
  refine Tot.ite (fun hc => ?_) fun _ => fin 0 (by omega) _ _ _
  have hlt : x.2.1.toNat < x.1.length := by simp at hc; omega
  refine Tot.bindE (v := x.1[x.2.1.toNat]) (by rw [idx_int h2]; simp [hlt]) ?_
  have hb := h1 _ (List.getElem_mem hlt)
  exact fin _ (by rw [w64_byte hb]; exact hb) _ _ _
theorem pick_ok (x : Cur) (k : Int) {m : Int} (h : Cu x.1 m x.2.1) (hm : 2 ≤ m) : Tot (F_spec_l1Cur__pick__mut__box x k) (Pk x.1 (m - 2) fun r => 0 ≤ r ∧ (r < k ∨ r = 0)) := by
  unfold F_spec_l1Cur__pick__mut__box
  refine Tot.ite (fun _ => Tot.some ⟨⟨by simp, .inr rfl⟩, rfl, h.mono (by omega) (by omega)⟩) fun hk => ?_
  have hk' : 1 < k := by simpa using hk
  refine Tot.bind (next_ok x h (by omega)) fun u hu => ?_
  obtain ⟨hu1, hu2, hu3⟩ := hu
  have fin : ∀ (y a s : Int), 0 ≤ y → Cu x.1 (m - 2) a → Tot (if k = 0 then none else some ((Int.tmod y k), (x.1, a, s))) (Pk x.1 (m - 2) fun r => 0 ≤ r ∧ (r < k ∨ r = 0)) := by
    intro y a s hy ha
    rw [if_neg (by omega)]
    exact Tot.some ⟨⟨Int.tmod_nonneg _ hy, .inl (Int.tmod_lt_of_pos _ (by omega))⟩, rfl, ha⟩
  unfold jK3
  dsimp only
  refine Tot.ite (fun _ => ?_) fun _ => fin _ _ _ hu1.1 (hu3.mono (by omega) (by omega))
  refine Tot.bind (next_ok (x.1, u.2.2.1, u.2.2.2) hu3 (by omega)) fun v hv => ?_
  obtain ⟨hv1, hv2, hv3⟩ := hv
  refine fin _ _ _ ?_ (hv3.mono (by omega) (by omega))
  rw [w64_eq (x := u.1 * 256) (by omega) (by omega), w64_eq (by omega) (by omega)]
  omega
theorem one_ok (x : Cur) (k : Int) {m : Int} (h : Cu x.1 m x.2.1) (hm : 2 ≤ m) : Tot (F_spec_l1Cur__one__mut__box x k) (Pk x.1 (m - 2) fun _ => True) := by
  unfold F_spec_l1Cur__one__mut__box
  refine Tot.bind (pick_ok x k h hm) fun u hu => Tot.some ⟨trivial, rfl, hu.2.2⟩
theorem idx_pick {α : Type} (l : List α) {r : Int} (hl : l ≠ []) (h : 0 ≤ r ∧ (r < (l.length : Int) ∨ r = 0)) : ∃ v, idx l r = some v ∧ v ∈ l ∧ r.toNat < l.length := by
  have hpos : 0 < l.length := List.length_pos_iff.2 hl
  have hlt : r.toNat < l.length := by omega
  exact ⟨l[r.toNat], by rw [idx_int h.1]; simp [hlt], List.getElem_mem hlt, hlt⟩
theorem among_ok (x : Cur) (l : List Int) (P : Int → Prop) {m : Int} (h : Cu x.1 m x.2.1) (hm : 2 ≤ m) (hl : l ≠ []) (hp : ∀ v ∈ l, P v) : Tot (F_spec_l1Cur__among__mut__box x l) (Pk x.1 (m - 2) P) := by
  unfold F_spec_l1Cur__among__mut__box
  refine Tot.bind (pick_ok x _ h hm) fun u hu => ?_
  obtain ⟨v, hv, hmem, _⟩ := idx_pick l hl hu.1
  exact Tot.bindE hv (Tot.some ⟨hp v hmem, rfl, hu.2.2⟩)
theorem amongT (x : Cur) (l : List Int) {m : Int} (h : Cu x.1 m x.2.1) (hm : 2 ≤ m) (hl : l ≠ []) : Tot (F_spec_l1Cur__among__mut__box x l) (Pk x.1 (m - 2) fun _ => True) := among_ok x l _ h hm hl fun _ _ => trivial
end Go.Proofs.YtejhnpimhjmpdaaDoor
/-
  SHOWS, PLAIN: what the program's and the reference's tests of spots, charts and shows answer.
-/
set_option linter.unusedSimpArgs false
set_option linter.unusedVariables false
namespace Go.Proofs.YtejhnpimhjmpdaaDoor
open Go
def okIn (a lo hi : Int) : Bool := decide (lo ≤ a) && decide (a ≤ hi)
theorem spec_l1In (a lo hi : Int) : F_spec_l1In a lo hi = some (okIn a lo hi) := by
  unfold F_spec_l1In jK1 okIn
  by_cases h : lo ≤ a <;> simp [h]
theorem impl_within (a lo hi : Int) : F_impl_within a lo hi = some (okIn a lo hi) := by
  unfold F_impl_within jK1 okIn
  by_cases h : lo ≤ a <;> simp [h]
end Go.Proofs.YtejhnpimhjmpdaaDoor
/-
  CUES, PLAIN: what the tests of music and cues answer; times.
-/
set_option linter.unusedSimpArgs false
set_option linter.unusedVariables false
namespace Go.Proofs.YtejhnpimhjmpdaaDoor
open Go
theorem okIn_iff' {a lo hi : Int} : okIn a lo hi = true ↔ lo ≤ a ∧ a ≤ hi := by simp [okIn]
abbrev MusicT := List (Int × Int)
abbrev CueT := Int × (List UInt8)
def okMeasure (u : Int × Int) : Bool := okIn u.1 1 12 && okIn u.2 40 220
def okMusic (x : MusicT) : Bool := okIn (x.length : Int) 1 40 && x.all okMeasure
theorem spec_muMeasure (u : Int × Int) : F_spec_muMeasure u = some (okMeasure u) := by
  unfold F_spec_muMeasure jK1 okMeasure
  dsimp only
  rw [spec_l1In, Option.bind_some, spec_l1In, Option.bind_some]
  cases okIn u.1 1 12 <;> simp
theorem spec_muGood (x : MusicT) (h : x.length < 4611686018427387904) : F_spec_muGood x = some (okMusic x) := by
  unfold F_spec_muGood okMusic
  rw [loopL (F_spec_muGood_L1 x) x okMeasure (some (okIn (x.length : Int) 1 40)) (some false) h (fun m k u hk hu => ?_) (fun m => ?_)]
  · cases x.all okMeasure <;> simp
  · rw [F_spec_muGood_L1, if_pos (by simp; omega), idx_nat, hu, Option.bind_some, spec_muMeasure, Option.bind_some, w64_succ (by omega)]
    cases okMeasure u <;> simp
  · rw [F_spec_muGood_L1, if_neg (by simp), spec_l1In]
    rfl
theorem impl_IsMusic (x : MusicT) (h : x.length < 4611686018427387904) : F_impl_IsMusic x = some (okMusic x) := by
  unfold F_impl_IsMusic okMusic
  rw [loopL (F_impl_IsMusic_L1 x) x okMeasure (some (okIn (x.length : Int) 1 40)) (some false) h (fun m k u hk hu => ?_) (fun m => ?_)]
  · cases x.all okMeasure <;> simp
  · rw [F_impl_IsMusic_L1, if_pos (by simp; omega), idx_nat, hu, Option.bind_some]
    unfold jK1 okMeasure
    dsimp only
    rw [impl_within, Option.bind_some, impl_within, Option.bind_some, w64_succ (by omega)]
    cases okIn u.1 1 12 <;> cases okIn u.2 40 220 <;> simp
  · rw [F_impl_IsMusic_L1, if_neg (by simp), impl_within]
    rfl
def totC (x : MusicT) : Int := x.foldl (fun a u => w64 (a + u.1)) 0
theorem spec_muCounts (x : MusicT) (h : x.length < 4611686018427387904) : F_spec_muCounts x = some (totC x) := by
  unfold F_spec_muCounts totC
  rw [loopFold (F_spec_muCounts_L1 x) x (fun a u => w64 (a + u.1)) some h (fun m s k u hk hu => ?_) (fun m s => ?_)]
  · rw [F_spec_muCounts_L1, if_pos (by simp; omega), idx_nat, hu, Option.bind_some, w64_succ (by omega)]
  · rw [F_spec_muCounts_L1, if_neg (by simp)]
theorem impl_countsOf (x : MusicT) (h : x.length < 4611686018427387904) : F_impl_countsOf x = some (totC x) := by
  unfold F_impl_countsOf totC
  rw [loopFold (F_impl_countsOf_L1 x) x (fun a u => w64 (a + u.1)) some h (fun m s k u hk hu => ?_) (fun m s => ?_)]
  · rw [F_impl_countsOf_L1, if_pos (by simp; omega), idx_nat, hu, Option.bind_some, w64_succ (by omega)]
  · rw [F_impl_countsOf_L1, if_neg (by simp)]
/-- Sums of counts do not leave the range. -/
theorem totC_eq {x : MusicT} (hx : x.all okMeasure = true) (hl : x.length ≤ 1000) : totC x = (x.map (·.1)).sum ∧ x.length ≤ (x.map (·.1)).sum ∧ (x.map (·.1)).sum ≤ 12 * x.length := by
  have key : ∀ (x : MusicT) (a : Int), x.all okMeasure = true → 0 ≤ a → a + 12 * x.length ≤ 1000000 → x.foldl (fun a u => w64 (a + u.1)) a = a + (x.map (·.1)).sum ∧ (x.length : Int) ≤ (x.map (·.1)).sum ∧ (x.map (·.1)).sum ≤ 12 * x.length := by
    intro x
    induction x with
    | nil => intro a _ _ _; simp
    | cons u x ih =>
      intro a h h0 h1
      rw [List.all_cons, Bool.and_eq_true] at h
      have hu := h.1
      unfold okMeasure at hu
      rw [Bool.and_eq_true, okIn_iff', okIn_iff'] at hu
      simp only [List.length_cons] at h1
      rw [List.foldl_cons, w64_eq (by omega) (by omega)]
      obtain ⟨e1, e2, e3⟩ := ih (a + u.1) h.2 (by omega) (by omega)
      rw [e1]
      simp only [List.map_cons, List.sum_cons, List.length_cons]
      omega
  have := key x 0 hx (by omega) (by omega)
  unfold totC
  simpa using this
theorem music_len {x : MusicT} (h : okMusic x = true) : 1 ≤ x.length ∧ x.length ≤ 40 ∧ x.all okMeasure = true := by
  unfold okMusic at h
  rw [Bool.and_eq_true, okIn_iff'] at h
  exact ⟨by omega, by omega, h.2⟩
/-! names -/
def okName (s : List UInt8) : Bool := s.all (fun u => decide (97 ≤ (u.toNat : Int)) && decide ((u.toNat : Int) ≤ 122)) && okIn (s.length : Int) 1 8
theorem spec_tiName (s : List UInt8) (h : s.length < 4611686018427387904) : F_spec_tiName s = some (okName s) := by
  unfold F_spec_tiName okName
  rw [loopL (F_spec_tiName_L1 s) s (fun u => decide (97 ≤ (u.toNat : Int)) && decide ((u.toNat : Int) ≤ 122)) (some (okIn (s.length : Int) 1 8)) (some false) h (fun m k u hk hu => ?_) (fun m => ?_)]
  · cases s.all (fun u => decide (97 ≤ (u.toNat : Int)) && decide ((u.toNat : Int) ≤ 122)) <;> simp
  · rw [F_spec_tiName_L1, if_pos (by simp; omega)]
    unfold jK1
    dsimp only
    rw [idx_nat, hu, Option.bind_some, Option.bind_some, w64_succ (by omega)]
    generalize (UInt8.toNat u : Int) = v
    by_cases h1 : v < 97
    · have : ¬ 97 ≤ v := by omega
      simp [h1, this]
    · have h2 : 97 ≤ v := by omega
      by_cases h3 : 122 < v
      · have : ¬ v ≤ 122 := by omega
        simp [h1, h2, h3, this]
      · have : v ≤ 122 := by omega
        simp [h1, h2, h3, this]
  · rw [F_spec_tiName_L1, if_neg (by simp), spec_l1In]
    rfl
def okName12 (s : List UInt8) : Bool := s.all (fun u => decide (97 ≤ (u.toNat : Int)) && decide ((u.toNat : Int) ≤ 122)) && okIn (s.length : Int) 1 12
theorem impl_isName (s : List UInt8) (h : s.length < 4611686018427387904) : F_impl_isName s = some (okName12 s) := by
  unfold F_impl_isName okName12
  rw [loopL (F_impl_isName_L1 s) s (fun u => decide (97 ≤ (u.toNat : Int)) && decide ((u.toNat : Int) ≤ 122)) (some (okIn (s.length : Int) 1 12)) (some false) h (fun m k u hk hu => ?_) (fun m => ?_)]
  · cases s.all (fun u => decide (97 ≤ (u.toNat : Int)) && decide ((u.toNat : Int) ≤ 122)) <;> simp
  · rw [F_impl_isName_L1, if_pos (by simp; omega)]
    unfold jK1
    dsimp only
    rw [idx_nat, hu, Option.bind_some, Option.bind_some, w64_succ (by omega)]
    generalize (UInt8.toNat u : Int) = v
    by_cases h1 : v < 97
    · have : ¬ 97 ≤ v := by omega
      simp [h1, this]
    · have h2 : 97 ≤ v := by omega
      by_cases h3 : 122 < v
      · have : ¬ v ≤ 122 := by omega
        simp [h1, h2, h3, this]
      · have : v ≤ 122 := by omega
        simp [h1, h2, h3, this]
  · rw [F_impl_isName_L1, if_neg (by simp), impl_within]
    rfl
theorem name_two (s : List UInt8) : okName s = (decide (s.length ≤ 8) && okName12 s) := by
  unfold okName okName12 okIn
  cases s.all (fun u => decide (97 ≤ (u.toNat : Int)) && decide ((u.toNat : Int) ≤ 122)) with
  | false => simp
  | true =>
    rw [Bool.eq_iff_iff]
    simp
    omega
/-! cues -/
/-- The cue at k is one: in its bounds, named, behind the one before, and of a new name. -/
def cueAt (t : Int) (l : List CueT) (k : Nat) : Bool := match l[k]? with
  | some c => okIn c.1 0 (w64 (t - 1)) && okName c.2 && (match l[k - 1]? with | some d => decide (k = 0) || decide (d.1 < c.1) | none => true) && (l.take k).all (fun d => !decide (d.2 = c.2))
  | none => true
theorem cueAt_0 {t : Int} {l : List CueT} {c : CueT} (h : l[0]? = some c) : cueAt t l 0 = (okIn c.1 0 (w64 (t - 1)) && okName c.2) := by
  unfold cueAt
  rw [h]
  simp [h]
theorem cueAt_s {t : Int} {l : List CueT} {k : Nat} {c d : CueT} (h : l[k + 1]? = some c) (h' : l[k]? = some d) : cueAt t l (k + 1) = (okIn c.1 0 (w64 (t - 1)) && okName c.2 && decide (d.1 < c.1) && (l.take (k + 1)).all (fun d => !decide (d.2 = c.2))) := by
  unfold cueAt
  rw [h]
  simp [h']
def okCues (x : MusicT) (l : List CueT) : Bool := (List.range l.length).all (cueAt (totC x) l) && decide (l.length ≤ 30)
theorem spec_tiCues (x : MusicT) (l : List CueT) (hx : x.length < 4611686018427387904) (hl : l.length < 4611686018427387904) (hn : ∀ c ∈ l, c.2.length < 4611686018427387904) : F_spec_tiCues x l = some (okCues x l) := by
  unfold F_spec_tiCues okCues
  rw [loopR (F_spec_tiCues_L1 l x) l.length (cueAt (totC x) l) (some (decide (l.length ≤ 30))) (some false) hl (fun m k hk => ?_) (fun m => ?_)]
  · cases (List.range l.length).all (cueAt (totC x) l) <;> simp
  · obtain ⟨c, hc⟩ : ∃ c, l[k]? = some c := ⟨_, List.getElem?_eq_getElem hk⟩
    have hcn := hn c (List.mem_of_getElem? hc)
    have inner : F_spec_tiCues_L2 (l.take k) c (F_spec_tiCues_L1 l x m) (k : Int) FU 0 = if (l.take k).all (fun d => !decide (d.2 = c.2)) = true then F_spec_tiCues_L1 l x m ((k + 1 : Nat) : Int) else some false := by
      have hlen : (l.take k).length = k := by simp; omega
      refine loopL (F_spec_tiCues_L2 (l.take k) c (F_spec_tiCues_L1 l x m) (k : Int)) (l.take k) (fun d => !decide (d.2 = c.2)) _ _ (by omega) (fun m' j d hj hd => ?_) (fun m' => ?_)
      · rw [F_spec_tiCues_L2, if_pos (by simp; omega), idx_nat, hd, Option.bind_some, w64_succ (k := j) (by omega)]
        by_cases hq : d.2 = c.2 <;> simp [hq]
      · rw [F_spec_tiCues_L2, if_neg (by simp), w64_succ (by omega)]
    rw [F_spec_tiCues_L1, if_pos (by simp; omega), idx_nat, hc, Option.bind_some]
    unfold jK1
    dsimp only
    rw [spec_muCounts x hx, Option.bind_some, spec_l1In, Option.bind_some, spec_tiName _ hcn, Option.bind_some, sl_take l (by omega), Option.bind_some, inner]
    cases k with
    | zero =>
      rw [cueAt_0 hc]
      cases okIn c.1 0 (w64 (totC x - 1)) <;> cases okName c.2 <;> simp
    | succ j =>
      obtain ⟨d, hd⟩ : ∃ d, l[j]? = some d := ⟨_, List.getElem?_eq_getElem (by omega)⟩
      rw [cueAt_s hc hd]
      have e : w64 (((j + 1 : Nat) : Int) - 1) = (j : Int) := by rw [w64_eq (by omega) (by omega)]; omega
      rw [e, idx_nat, hd, Option.bind_some, if_pos (show decide (0 < ((j + 1 : Nat) : Int)) = true by simp)]
      cases okIn c.1 0 (w64 (totC x - 1)) with
      | false => simp
      | true =>
        cases okName c.2 with
        | false => simp
        | true =>
          by_cases hq : d.1 < c.1
          · have : ¬ c.1 ≤ d.1 := by omega
            cases (l.take (j + 1)).all (fun d => !decide (d.2 = c.2)) <;> simp [hq, this]
          · have : c.1 ≤ d.1 := by omega
            simp [hq, this]
  · rw [F_spec_tiCues_L1, if_neg (by simp)]
    congr 1
    simp
    omega
theorem contains_name (l : List CueT) (c : CueT) (hl : l.length < 4611686018427387904) : F_slices_ContainsFunc_impl_Cue_impl_Cue__impl_areCues_1 l c = some (!l.all (fun d => !decide (d.2 = c.2))) := by
  unfold F_slices_ContainsFunc_impl_Cue_impl_Cue__impl_areCues_1 F_slices_IndexFunc_impl_Cue_impl_Cue__impl_areCues_1
  have key : ∀ d k m, l.length - k = d → k ≤ l.length → l.length - k < m → ∃ i, F_slices_IndexFunc_impl_Cue_impl_Cue__impl_areCues_1_L1 l c m (k : Int) = some i ∧ decide (0 ≤ i) = !(l.drop k).all (fun d => !decide (d.2 = c.2)) := by
    intro d
    induction d with
    | zero =>
      intro k m hd hk hm
      cases m with
      | zero => omega
      | succ m =>
        rw [F_slices_IndexFunc_impl_Cue_impl_Cue__impl_areCues_1_L1, if_neg (by simp; omega)]
        exact ⟨-1, rfl, by rw [List.drop_eq_nil_of_le (by omega)]; simp⟩
    | succ d ih =>
      intro k m hd hk hm
      cases m with
      | zero => omega
      | succ m =>
        have hk' : k < l.length := by omega
        rw [F_slices_IndexFunc_impl_Cue_impl_Cue__impl_areCues_1_L1, if_pos (by simp; omega), idx_lt hk', Option.bind_some, F_impl_areCues_1, Option.bind_some, w64_succ (by omega), List.drop_eq_getElem_cons hk', List.all_cons]
        by_cases hq : l[k].2 = c.2
        · exact ⟨k, by simp [hq], by simp [hq]⟩
        · rw [if_neg (by simp [hq])]
          obtain ⟨i, h1, h2⟩ := ih (k + 1) m (by omega) (by omega) (by omega)
          exact ⟨i, h1, by simp [hq, h2]⟩
  obtain ⟨i, h1, h2⟩ := key _ 0 FU rfl (by omega) (FU_gt (by omega))
  rw [show ((0 : Nat) : Int) = 0 from rfl] at h1
  rw [h1, Option.bind_some, h2]
  simp
theorem impl_areCues (x : MusicT) (l : List CueT) (hx : x.length < 4611686018427387904) (hl : l.length < 4611686018427387904) (hn : ∀ c ∈ l, c.2.length < 4611686018427387904) : F_impl_areCues x l = some (okCues x l) := by
  unfold F_impl_areCues okCues
  rw [impl_countsOf x hx, Option.bind_some]
  by_cases h30 : l.length ≤ 30
  · rw [if_neg (by simp; omega), loopR (F_impl_areCues_L1 l (totC x)) l.length (cueAt (totC x) l) (some true) (some false) hl (fun m k hk => ?_) (fun m => ?_)]
    · cases (List.range l.length).all (cueAt (totC x) l) <;> simp [h30]
    · obtain ⟨c, hc⟩ : ∃ c, l[k]? = some c := ⟨_, List.getElem?_eq_getElem hk⟩
      have hcn := hn c (List.mem_of_getElem? hc)
      rw [F_impl_areCues_L1, if_pos (by simp; omega), idx_nat, hc, Option.bind_some]
      unfold jK1
      dsimp only
      rw [impl_within, Option.bind_some, impl_isName _ hcn, Option.bind_some, sl_take l (by omega), Option.bind_some, contains_name _ _ (by simp; omega), Option.bind_some, w64_succ (by omega)]
      cases k with
      | zero =>
        rw [cueAt_0 hc, name_two]
        by_cases h8 : c.2.length ≤ 8
        · have : ¬ (8 : Int) < (c.2.length : Int) := by omega
          cases okIn c.1 0 (w64 (totC x - 1)) <;> cases okName12 c.2 <;> simp [h8, this]
        · have : (8 : Int) < (c.2.length : Int) := by omega
          cases okIn c.1 0 (w64 (totC x - 1)) <;> simp [h8, this]
      | succ j =>
        obtain ⟨d, hd⟩ : ∃ d, l[j]? = some d := ⟨_, List.getElem?_eq_getElem (by omega)⟩
        rw [cueAt_s hc hd, name_two]
        have e : w64 (((j + 1 : Nat) : Int) - 1) = (j : Int) := by rw [w64_eq (by omega) (by omega)]; omega
        rw [e, idx_nat, hd, Option.bind_some, if_pos (show decide (0 < ((j + 1 : Nat) : Int)) = true by simp)]
        by_cases h8 : c.2.length ≤ 8
        · have h8' : ¬ (8 : Int) < (c.2.length : Int) := by omega
          cases okIn c.1 0 (w64 (totC x - 1)) with
          | false => simp
          | true =>
            cases okName12 c.2 with
            | false => simp [h8, h8']
            | true =>
              by_cases hq : d.1 < c.1
              · have : ¬ c.1 ≤ d.1 := by omega
                cases (l.take (j + 1)).all (fun d => !decide (d.2 = c.2)) <;> simp [h8, h8', hq, this]
              · have : c.1 ≤ d.1 := by omega
                simp [h8, h8', hq, this]
        · have : (8 : Int) < (c.2.length : Int) := by omega
          cases okIn c.1 0 (w64 (totC x - 1)) <;> simp [h8, this]
    · rw [F_impl_areCues_L1, if_neg (by simp)]
  · rw [if_pos (by simp; omega)]
    simp [h30]
def okBoth (x : MusicT) (l : List CueT) : Bool := okMusic x && okCues x l
/-- What the walks' loops need of the lengths. -/
structure CueLens (x : MusicT) (l : List CueT) : Prop where
  hx : x.length < 4611686018427387904
  hl : l.length < 1073741824
  hn : ∀ c ∈ l, c.2.length < 4611686018427387904
theorem CueLens.hl' {x : MusicT} {l : List CueT} (h : CueLens x l) : l.length < 4611686018427387904 := by have := h.hl; omega
theorem spec_tiGood (x : MusicT) (l : List CueT) (h : CueLens x l) : F_spec_tiGood x l = some (okBoth x l) := by
  unfold F_spec_tiGood jK1 okBoth
  dsimp only
  rw [spec_muGood x h.hx, Option.bind_some, spec_tiCues x l h.hx h.hl' h.hn, Option.bind_some]
  cases okMusic x <;> simp
theorem impl_haveCues (x : MusicT) (l : List CueT) (h : CueLens x l) : F_impl_haveCues x l = some (okBoth x l) := by
  unfold F_impl_haveCues jK1 okBoth
  dsimp only
  rw [impl_IsMusic x h.hx, Option.bind_some, impl_areCues x l h.hx h.hl' h.hn, Option.bind_some]
  cases okMusic x <;> simp
theorem both_music {x : MusicT} {l : List CueT} (h : okBoth x l = true) : okMusic x = true := by
  unfold okBoth at h
  rw [Bool.and_eq_true] at h
  exact h.1
theorem both_len {x : MusicT} {l : List CueT} (h : okBoth x l = true) : l.length ≤ 30 := by
  unfold okBoth okCues at h
  simp only [Bool.and_eq_true, decide_eq_true_eq] at h
  exact h.2.2
/-! times -/
theorem time_loop (x : MusicT) : ∀ (m : Nat) (a b c : Int), F_impl_timeOf_L1 x m a b c = F_spec_muTime_L1 x m a b c := by
  intro m
  induction m with
  | zero => intro a b c; rfl
  | succ m ih =>
    intro a b c
    rw [F_impl_timeOf_L1, F_spec_muTime_L1]
    split
    · cases idx x c with
      | none => rfl
      | some u =>
        simp only [Option.bind_some, F_spec_muLasts, ih]
        by_cases h : u.2 = 0 <;> simp [h]
    · rfl
theorem impl_timeOf_eq (x : MusicT) (c : Int) : F_impl_timeOf x c = F_spec_muTime x c := by
  unfold F_impl_timeOf F_spec_muTime
  exact time_loop x FU c 0 0
theorem time_some (x : MusicT) (hx : x.all okMeasure = true) (hl : x.length < 4611686018427387904) (c : Int) : ∃ t, F_spec_muTime x c = some t := by
  unfold F_spec_muTime
  have key : ∀ d k m (a b : Int), x.length - k = d → k ≤ x.length → x.length - k < m → ∃ t, F_spec_muTime_L1 x m a b (k : Int) = some t := by
    intro d
    induction d with
    | zero =>
      intro k m a b hd hk hm
      cases m with
      | zero => omega
      | succ m =>
        rw [F_spec_muTime_L1, if_neg (by simp; omega)]
        exact ⟨_, rfl⟩
    | succ d ih =>
      intro k m a b hd hk hm
      cases m with
      | zero => omega
      | succ m =>
        have hk' : k < x.length := by omega
        have hu := List.all_eq_true.1 hx x[k] (List.getElem_mem hk')
        unfold okMeasure at hu
        rw [Bool.and_eq_true, okIn_iff', okIn_iff'] at hu
        have h0 : ¬ x[k].2 = 0 := by omega
        rw [F_spec_muTime_L1, if_pos (by simp; omega), idx_lt hk', Option.bind_some]
        simp only [F_spec_muLasts, if_neg h0, Option.bind_some, w64_succ (k := k) (by omega)]
        split
        · exact ⟨_, rfl⟩
        · exact ih (k + 1) m _ _ (by omega) (by omega) (by omega)
  exact key _ 0 FU c 0 rfl (by omega) (FU_gt (by omega))
def timeC (x : MusicT) (c : Int) : Int := (F_spec_muTime x c).getD 0
theorem spec_muTime (x : MusicT) (h : okMusic x = true) (c : Int) : F_spec_muTime x c = some (timeC x c) := by
  obtain ⟨h1, h2, h3⟩ := music_len h
  obtain ⟨t, ht⟩ := time_some x h3 (by omega) c
  unfold timeC
  rw [ht]
  rfl
theorem impl_timeOf (x : MusicT) (h : okMusic x = true) (c : Int) : F_impl_timeOf x c = some (timeC x c) := by
  rw [impl_timeOf_eq, spec_muTime x h]
/-- A loop that appends the image of each element. -/
theorem loopMapL {α β R : Type} (f : Nat → List β → Int → Option R) (l : List α) (g : α → β) (rest : List β → Option R) (hn : l.length < 4611686018427387904)
    (hs : ∀ m s k x, k < l.length → l[k]? = some x → s.length = k → f (m + 1) s (k : Int) = f m (s ++ [g x]) ((k + 1 : Nat) : Int)) (he : ∀ m s, f (m + 1) s (l.length : Int) = rest s) : f FU [] 0 = rest (l.map g) := by
  have h := loopS f l.length (fun k s => match l[k]? with | some x => s ++ [g x] | none => s) rest hn (fun k s => s = (l.take k).map g) [] (by simp) (fun k s hk hi => ?_) (fun m k s hk hi => ?_) (fun m s hi => he m s)
  · rw [h.1, h.2, List.take_of_length_le (Nat.le_refl _)]
  · have hx : l[k]? = some l[k] := by simp [hk]
    simp only [hx]
    rw [hi, List.take_succ_eq_append_getElem hk, List.map_append]
    rfl
  · have hx : l[k]? = some l[k] := by simp [hk]
    simp only [hx]
    exact hs m s k l[k] hk hx (by rw [hi]; simp; omega)
theorem app_ok' {α : Type} {l m : List α} (h : l.length + m.length ≤ 1073741824) : app l m = some (l ++ m) := by
  unfold app
  rw [if_pos h]
def timesC (x : MusicT) (l : List CueT) : List Int := l.map fun c => timeC x c.1
theorem spec_tiTimes (x : MusicT) (l : List CueT) (h : okMusic x = true) (hl : l.length < 1073741824) : F_spec_tiTimes x l = some (timesC x l) := by
  unfold F_spec_tiTimes timesC
  rw [loopMapL (F_spec_tiTimes_L1 l x) l (fun c => timeC x c.1) some (by omega) (fun m s k c hk hc hsl => ?_) (fun m s => ?_)]
  · rw [F_spec_tiTimes_L1, if_pos (by simp; omega), idx_nat, hc, Option.bind_some, spec_muTime x h, Option.bind_some, app_ok' (by simp; omega), Option.bind_some, w64_succ (by omega)]
  · rw [F_spec_tiTimes_L1, if_neg (by simp)]
end Go.Proofs.YtejhnpimhjmpdaaDoor
/-
  DRAWN MUSIC AND CUES, PLAIN: they are there and short.
-/
set_option linter.unusedSimpArgs false
set_option linter.unusedVariables false
namespace Go.Proofs.YtejhnpimhjmpdaaDoor
open Go
theorem app_tot {α β : Type} {l m : List α} {f : List α → Option β} {Q : β → Prop} (h : l.length + m.length ≤ 1073741824) (hf : Tot (f (l ++ m)) Q) : Tot (Option.bind (app l m) f) Q := Tot.bindE (app_ok' h) hf
theorem music_ok (x : Cur) {m : Int} (h : Cu x.1 m x.2.1) (hm : 1000 ≤ m) : Tot (F_spec_l1Cur__music__mut__box x) (Pk x.1 (m - 1000) fun l => 1 ≤ l.length ∧ l.length ≤ 40) := by
  unfold F_spec_l1Cur__music__mut__box
  refine Tot.bind (pick_ok x _ h (by omega)) fun u hu => ?_
  have hr := hu.1
  have rest : ∀ (a s n : Int), Cu x.1 (m - 4) a → 1 ≤ n → n ≤ 40 → Tot (Option.bind (F_spec_l1Cur__pick__mut__box (x.1, a, s) 181) fun u20 =>
      Option.bind (F_spec_l1Cur__among__mut__box (x.1, u20.2.2.1, u20.2.2.2) [60, 96, 120, 140, (w64 (40 + u20.1))]) fun u32 => F_spec_l1Cur__music__mut__box_L1 n x FU (u32.2.2.1) (u32.2.2.2) ([]) (u32.1)) (Pk x.1 (m - 1000) fun l => 1 ≤ l.length ∧ l.length ≤ 40) := by
    intro a s n ha hn1 hn2
    refine Tot.bind (pick_ok (x.1, a, s) _ ha (by omega)) fun u20 h20 => ?_
    refine Tot.bind (amongT (x.1, u20.2.2.1, u20.2.2.2) _ h20.2.2 (by omega) (by simp)) fun u32 h32 => ?_
    have h32' : Cu x.1 (m - 8) u32.2.2.1 := h32.2.2.mono (by omega) (by show m - 8 ≤ m - 4 - 2 - 2; omega)
    refine Tot.loop (fun k (s : Int × Int × List (Int × Int) × Int) => F_spec_l1Cur__music__mut__box_L1 n x k s.1 s.2.1 s.2.2.1 s.2.2.2) (fun s => 41 - s.2.2.1.length) (fun s => s.2.2.1.length ≤ n ∧ Cu x.1 (m - 8 - 10 * s.2.2.1.length) s.1)
      (Pk x.1 (m - 1000) fun l => 1 ≤ l.length ∧ l.length ≤ 40) (fun k s hs ih => ?_) FU (u32.2.2.1, u32.2.2.2, [], u32.1) ⟨by simp; omega, by simpa using h32'⟩ (by show _ < (4611686018427387904 : Nat); simp)
    obtain ⟨a, sd, l, t⟩ := s
    obtain ⟨hl, hc⟩ := hs
    dsimp only at hl hc ih ⊢
    rw [F_spec_l1Cur__music__mut__box_L1]
    refine Tot.ite (fun hlt => ?_) fun hge => Tot.some ⟨by simp at hge; show 1 ≤ l.length ∧ l.length ≤ 40; omega, rfl, hc.mono (by omega) (by omega)⟩
    have hlt' : (l.length : Int) < n := by simpa using hlt
    have join : ∀ (a s t : Int), Cu x.1 (m - 8 - 10 * l.length - 6) a → Tot (Option.bind (F_spec_l1Cur__among__mut__box (x.1, a, s) [4, 4, 3, 6, 1, 12]) fun u70 => Option.bind (app l [(u70.1, t)]) fun u82 => F_spec_l1Cur__music__mut__box_L1 n x k (u70.2.2.1) (u70.2.2.2) (u82) t) (Pk x.1 (m - 1000) fun l => 1 ≤ l.length ∧ l.length ≤ 40) := by
      intro a s t ha
      refine Tot.bind (amongT (x.1, a, s) _ ha (by omega) (by simp)) fun u70 h70 => app_tot (by simp; omega) ?_
      exact ih (u70.2.2.1, u70.2.2.2, _, t) ⟨by simp; omega, h70.2.2.mono (by simp; omega) (by simp; omega)⟩ (by simp; omega)
    unfold jK3
    dsimp only
    refine Tot.bind (one_ok (x.1, a, sd) _ hc (by omega)) fun u90 h90 => ?_
    refine Tot.ite (fun _ => ?_) fun _ => join _ _ _ (h90.2.2.mono (by omega) (by show _ ≤ m - 8 - 10 * (l.length : Int) - 2; omega))
    refine Tot.bind (pick_ok (x.1, u90.2.2.1, u90.2.2.2) _ h90.2.2 (by omega)) fun u97 h97 => ?_
    refine Tot.bind (amongT (x.1, u97.2.2.1, u97.2.2.2) _ h97.2.2 (by omega) (by simp)) fun u109 h109 => join _ _ _ (h109.2.2.mono (by omega) (by show _ ≤ m - 8 - 10 * (l.length : Int) - 2 - 2 - 2; omega))
  unfold jK3
  dsimp only
  refine Tot.bind (one_ok (x.1, u.2.2.1, u.2.2.2) _ hu.2.2 (by omega)) fun u117 h117 => ?_
  have c117 : Cu x.1 (m - 4) u117.2.2.1 := h117.2.2.mono (by omega) (by show m - 4 ≤ m - 2 - 2; omega)
  refine Tot.ite (fun _ => rest _ _ _ c117 (by omega) (by omega)) fun _ => rest _ _ _ c117 ?_ ?_
  · rw [w64_eq (by omega) (by omega)]; omega
  · rw [w64_eq (by omega) (by omega)]; omega
theorem seti_len {α : Type} (l : List α) (i : Int) (x : α) : (seti l i x).length = l.length := by unfold seti; simp
theorem anyMusic_ok (x : Cur) {m : Int} (h : Cu x.1 m x.2.1) (hm : 2000 ≤ m) : Tot (F_spec_l1Cur__anyMusic__mut__box x) (Pk x.1 (m - 2000) fun l => l.length ≤ 41) := by
  unfold F_spec_l1Cur__anyMusic__mut__box
  refine Tot.bind (music_ok x h (by omega)) fun u3 h3 => ?_
  refine Tot.bind (pick_ok (x.1, u3.2.2.1, u3.2.2.2) _ h3.2.2 (by omega)) fun u12 h12 => ?_
  have hlen := h3.1
  obtain ⟨v, hv, _, _⟩ := idx_pick u3.1 (fun e => by rw [e] at hlen; simp at hlen) h12.1
  refine Tot.bindE hv ?_
  have done : ∀ (a s : Int) (l : List (Int × Int)), Cu x.1 (m - 2000) a → l.length ≤ 41 → Tot (some (l, (x.1, a, s))) (Pk x.1 (m - 2000) fun l => l.length ≤ 41) := fun a s l ha hl => Tot.some ⟨hl, rfl, ha⟩
  unfold jK3
  dsimp only
  refine Tot.bind (pick_ok (x.1, u12.2.2.1, u12.2.2.2) _ h12.2.2 (by show 2 ≤ m - 1000 - 2; omega)) fun u35 h35 => ?_
  have c35 : Cu x.1 (m - 1010) u35.2.2.1 := h35.2.2.mono (by omega) (by show _ ≤ m - 1000 - 2 - 2; omega)
  refine Tot.ite (fun _ => ?_) fun _ => Tot.ite (fun _ => ?_) fun _ => Tot.ite (fun _ => ?_) fun _ => Tot.ite (fun _ => ?_) fun _ => ?_
  · refine Tot.bind (amongT (x.1, u35.2.2.1, u35.2.2.2) _ c35 (by omega) (by simp)) fun u hu => done _ _ _ (hu.2.2.mono (by omega) (by show _ ≤ m - 1010 - 2; omega)) (by rw [seti_len]; omega)
  · refine Tot.bind (amongT (x.1, u35.2.2.1, u35.2.2.2) _ c35 (by omega) (by simp)) fun u hu => done _ _ _ (hu.2.2.mono (by omega) (by show _ ≤ m - 1010 - 2; omega)) (by rw [seti_len]; omega)
  · refine Tot.bind (pick_ok (x.1, u35.2.2.1, u35.2.2.2) _ c35 (by omega)) fun u80 h80 => ?_
    have h80' := h80.1
    refine Tot.loop (fun k (s : List (Int × Int)) => F_spec_l1Cur__anyMusic__mut__box_L1 u80 _ k s) (fun s => 42 - s.length) (fun s => s.length ≤ 41) _ (fun k s hs ih => ?_) FU u3.1 (by omega) (by show 42 - u3.1.length < 4611686018427387904; omega)
    rw [F_spec_l1Cur__anyMusic__mut__box_L1, w64_eq (by omega) (by omega)]
    refine Tot.ite (fun hlt => ?_) fun _ => done _ _ _ (h80.2.2.mono (by omega) (by show _ ≤ m - 1010 - 2; omega)) hs
    have hlt' : (s.length : Int) < 40 + u80.1 := by simpa using hlt
    exact app_tot (by simp; omega) (ih (s ++ [(4, 120)]) (by rw [List.length_append]; simp; omega) (by simp; omega))
  · exact done _ _ _ (c35.mono (by omega) (by omega)) (by simp)
  · exact done _ _ _ (c35.mono (by omega) (by omega)) (by omega)
theorem of_ok (x : Cur) (l : List (List UInt8)) (P : List UInt8 → Prop) {m : Int} (h : Cu x.1 m x.2.1) (hm : 2 ≤ m) (hl : l ≠ []) (hp : ∀ v ∈ l, P v) : Tot (F_spec_l1Cur__of__mut__box x l) (Pk x.1 (m - 2) P) := by
  unfold F_spec_l1Cur__of__mut__box
  refine Tot.bind (pick_ok x _ h hm) fun u hu => ?_
  obtain ⟨v, hv, hmem, _⟩ := idx_pick l hl hu.1
  exact Tot.bindE hv (Tot.some ⟨hp v hmem, rfl, hu.2.2⟩)
/-- What drawn cues are. -/
def shortCues (l : List CueT) : Prop := l.length ≤ 31 ∧ ∀ c ∈ l, c.2.length ≤ 9
theorem shortCues.app {l : List CueT} {c : CueT} (h : shortCues l) (hl : l.length ≤ 30) (hc : c.2.length ≤ 9) : shortCues (l ++ [c]) :=
  ⟨by simp; omega, fun d hd => by rcases List.mem_append.1 hd with hd | hd; exact h.2 d hd; rw [List.mem_singleton.1 hd]; exact hc⟩
theorem shortCues.seti {l : List CueT} {c : CueT} (h : shortCues l) (i : Int) (hc : c.2.length ≤ 9) : shortCues (seti l i c) :=
  ⟨by rw [seti_len]; exact h.1, fun d hd => by
    unfold Go.Proofs.YtejhnpimhjmpdaaDoor.seti at hd
    rcases List.mem_or_eq_of_mem_set hd with hd | rfl
    · exact h.2 d hd
    · exact hc⟩
def PkC (c : List Int) (n : Int) (v : MusicT × List CueT × Cur) : Prop := v.1.length ≤ 41 ∧ shortCues v.2.1 ∧ v.2.2.1 = c ∧ Cu c n v.2.2.2.1
abbrev drawNames : List (List UInt8) := [[115, 116, 97, 114, 116], [116, 117, 114, 110], [104, 97, 108, 116], [100, 114, 117, 109, 115], [98, 114, 97, 115, 115], [102, 108, 97, 103, 115], [101, 110, 100], [97], [97, 98, 99, 100, 101, 102, 103, 104]]
theorem drawNames_len : ∀ v ∈ drawNames, v.length ≤ 9 := by decide
theorem cues_ok (x : Cur) {m : Int} (h : Cu x.1 m x.2.1) (hm : 4000 ≤ m) : Tot (F_spec_l1Cur__cues__mut__box x) (PkC x.1 (m - 4000)) := by
  unfold F_spec_l1Cur__cues__mut__box
  refine Tot.bind (anyMusic_ok x h (by omega)) fun u3 h3 => ?_
  have hl3 := h3.1
  refine Tot.bindE (spec_muGood u3.1 (by omega)) ?_
  refine Tot.ite (fun _ => Tot.some ⟨h3.1, ⟨by simp, by simp⟩, rfl, h3.2.2.mono (by omega) (by omega)⟩) fun _ => ?_
  refine Tot.bindE (spec_muCounts u3.1 (by omega)) ?_
  refine Tot.bind (pick_ok (x.1, u3.2.2.1, u3.2.2.2) _ h3.2.2 (by omega)) fun u44 h44 => ?_
  have c44 : Cu x.1 (m - 2002) u44.2.2.1 := h44.2.2.mono (by omega) (by show _ ≤ m - 2000 - 2; omega)
  refine Tot.loop (fun k (s : Int × Int × List CueT × Int) => F_spec_l1Cur__cues__mut__box_L1 x (totC u3.1) u3 k s.1 s.2.1 s.2.2.1 s.2.2.2) (fun s => 10 - s.2.2.1.length) (fun s => s.2.2.1.length ≤ 9 ∧ shortCues s.2.2.1 ∧ Cu x.1 (m - 2002 - 10 * s.2.2.1.length) s.1)
    (PkC x.1 (m - 4000)) (fun k s hs ih => ?_) FU (u44.2.2.1, u44.2.2.2, [], u44.1) ⟨by simp, ⟨by simp, by simp⟩, by simpa using c44⟩ (by show _ < (4611686018427387904 : Nat); simp)
  obtain ⟨a, sd, l, t⟩ := s
  obtain ⟨hl, hsh, hc⟩ := hs
  dsimp only at hl hsh hc ih ⊢
  rw [F_spec_l1Cur__cues__mut__box_L1]
  have fin : ∀ (a s : Int) (l : List CueT) (mu : MusicT), mu.length ≤ 41 → shortCues l → Cu x.1 (m - 4000) a → Tot (some (mu, l, (x.1, a, s))) (PkC x.1 (m - 4000)) := fun a s l mu h1 h2 h3 => Tot.some ⟨h1, h2, rfl, h3⟩
  have tail : ∀ (a s : Int) (mu : MusicT) (l : List CueT), mu.length ≤ 41 → shortCues l → Cu x.1 (m - 3000) a →
      Tot (if (decide (0 < (List.length l : Int))) = true then Option.bind (F_spec_l1Cur__pick__mut__box (x.1, a, s) (List.length l : Int)) fun u125 =>
        Option.bind (idx l u125.1) fun u131 => Option.bind (F_spec_l1Cur__pick__mut__box (x.1, u125.2.2.1, u125.2.2.2) 24) fun u136 =>
        (if (u136.1 == 0) = true then Option.bind (F_spec_muCounts mu) fun u144 => Option.bind (F_spec_muCounts mu) fun u150 =>
        Option.bind (F_spec_l1Cur__among__mut__box (x.1, u136.2.2.1, u136.2.2.2) [(-1), (w64 (u144 - 1)), u150]) fun u162 =>
        some (mu, (seti l u125.1 (u162.1, u131.2)), (x.1, u162.2.2.1, u162.2.2.2)) else (if (u136.1 == 1) = true then Option.bind (F_spec_l1Cur__of__mut__box (x.1, u136.2.2.1, u136.2.2.2) [[], [65], [97, 98, 99, 100, 101, 102, 103, 104, 105], [97, 32, 98], [115, 116, 97, 114, 116]]) fun u180 =>
        some (mu, (seti l u125.1 (u131.1, u180.1)), (x.1, u180.2.2.1, u180.2.2.2)) else some (mu, l, (x.1, u136.2.2.1, u136.2.2.2)))) else some (mu, l, (x.1, a, s))) (PkC x.1 (m - 4000)) := by
    intro a s mu l hmu hl ha
    refine Tot.ite (fun hpos => ?_) fun _ => fin _ _ _ _ hmu hl (ha.mono (by omega) (by omega))
    refine Tot.bind (pick_ok (x.1, a, s) _ ha (by omega)) fun u125 h125 => ?_
    obtain ⟨v, hv, hmem, _⟩ := idx_pick l (fun e => by rw [e] at hpos; simp at hpos) h125.1
    refine Tot.bindE hv ?_
    refine Tot.bind (pick_ok (x.1, u125.2.2.1, u125.2.2.2) _ h125.2.2 (by omega)) fun u136 h136 => ?_
    have c136 : Cu x.1 (m - 3010) u136.2.2.1 := h136.2.2.mono (by omega) (by show _ ≤ m - 3000 - 2 - 2; omega)
    refine Tot.ite (fun _ => ?_) fun _ => Tot.ite (fun _ => ?_) fun _ => fin _ _ _ _ hmu hl (c136.mono (by omega) (by omega))
    · refine Tot.bindE (spec_muCounts mu (by omega)) (Tot.bindE (spec_muCounts mu (by omega)) ?_)
      exact Tot.bind (amongT (x.1, u136.2.2.1, u136.2.2.2) _ c136 (by omega) (by simp)) fun u hu => fin _ _ _ _ hmu (hl.seti _ (hl.2 v hmem)) (hu.2.2.mono (by omega) (by show _ ≤ m - 3010 - 2; omega))
    · exact Tot.bind (of_ok (x.1, u136.2.2.1, u136.2.2.2) _ (fun s => s.length ≤ 9) c136 (by omega) (by simp) (by decide)) fun u hu => fin _ _ _ _ hmu (hl.seti _ hu.1) (hu.2.2.mono (by omega) (by show _ ≤ m - 3010 - 2; omega))
  have stop : Tot (jK4 (fun (y100 : Int) (y101 : Int) (l102 : (List (Int × Int))) (l105 : (List (Int × (List UInt8)))) => jK3 (fun (y114 : Int) (y115 : Int) (l116 : (List (Int × (List UInt8)))) => some (l102, l116, (x.1, y114, y115))) (fun k119 => (if (decide (0 < (List.length l105 : Int))) = true then Option.bind (F_spec_l1Cur__pick__mut__box (x.1, y100, y101) (List.length l105 : Int)) fun u125 =>
        Option.bind (idx l105 u125.1) fun u131 => Option.bind (F_spec_l1Cur__pick__mut__box (x.1, u125.2.2.1, u125.2.2.2) 24) fun u136 =>
        (if (u136.1 == 0) = true then Option.bind (F_spec_muCounts l102) fun u144 => Option.bind (F_spec_muCounts l102) fun u150 =>
        Option.bind (F_spec_l1Cur__among__mut__box (x.1, u136.2.2.1, u136.2.2.2) [(-1), (w64 (u144 - 1)), u150]) fun u162 =>
        k119 (u162.2.2.1) (u162.2.2.2) ((seti l105 u125.1 (u162.1, u131.2))) else (if (u136.1 == 1) = true then Option.bind (F_spec_l1Cur__of__mut__box (x.1, u136.2.2.1, u136.2.2.2) [[], [65], [97, 98, 99, 100, 101, 102, 103, 104, 105], [97, 32, 98], [115, 116, 97, 114, 116]]) fun u180 =>
        k119 (u180.2.2.1) (u180.2.2.2) ((seti l105 u125.1 (u131.1, u180.1))) else k119 (u136.2.2.1) (u136.2.2.2) (l105))) else k119 (y100) (y101) (l105)))) (fun k108 => Option.bind (F_spec_l1Cur__one__mut__box (x.1, a, sd) 24) fun u191 =>
        (if u191.1 = true then F_spec_l1Cur__cues__mut__box_L2 x u191 k108 FU ([]) else k108 (u191.2.2.1) (u191.2.2.2) (u3.1) (l)))) (PkC x.1 (m - 4000)) := by
    unfold jK4 jK3
    dsimp only
    refine Tot.bind (one_ok (x.1, a, sd) _ hc (by omega)) fun u191 h191 => ?_
    have c191 : Cu x.1 (m - 2110) u191.2.2.1 := h191.2.2.mono (by omega) (by show _ ≤ m - 2002 - 10 * (l.length : Int) - 2; omega)
    refine Tot.ite (fun _ => ?_) fun _ => tail _ _ _ _ hl3 hsh (c191.mono (by omega) (by omega))
    refine Tot.loop (fun k (s : MusicT) => F_spec_l1Cur__cues__mut__box_L2 x u191 _ k s) (fun s => 11 - s.length) (fun s => s.length ≤ 10) _ (fun k s hs ih => ?_) FU [] (by simp) (by show _ < (4611686018427387904 : Nat); simp)
    rw [F_spec_l1Cur__cues__mut__box_L2]
    refine Tot.ite (fun hlt => app_tot (by simp; omega) (ih _ (by simp at hlt ⊢; omega) (by simp at hlt ⊢; omega))) fun _ => ?_
    refine Tot.bind (pick_ok (x.1, u191.2.2.1, u191.2.2.2) _ c191 (by omega)) fun u228 h228 => ?_
    have h228' := h228.1
    refine Tot.loop (fun k (l : List CueT) => F_spec_l1Cur__cues__mut__box_L3 u228 _ s k l) (fun l => 32 - l.length) (fun l => shortCues l) _ (fun k l hl ih => ?_) FU [] ⟨by simp, by simp⟩ (by show _ < (4611686018427387904 : Nat); simp)
    rw [F_spec_l1Cur__cues__mut__box_L3, w64_eq (x := 30 + u228.1) (by omega) (by omega)]
    have hll := hl.1
    refine Tot.ite (fun hlt => app_tot (by simp; omega) (ih _ (hl.app (by simp at hlt; omega) (by simp [bytesOf])) (by simp at hlt ⊢; omega))) fun _ => tail _ _ _ _ (by omega) hl (h228.2.2.mono (by omega) (by show _ ≤ m - 2110 - 2; omega))
  unfold jK1
  dsimp only
  refine Tot.bindE (spec_muCounts u3.1 (by omega)) ?_
  refine Tot.ite (fun _ => ?_) fun _ => ?_
  · refine Tot.ite (fun hlt => ?_) fun _ => stop
    have hlt9' : (l.length : Int) < 9 := by simpa using hlt
    have hlt9 : l.length < 9 := by omega
    refine Tot.bindE (v := drawNames[l.length]) (by rw [idx_lt (by simpa using hlt9)]) ?_
    refine app_tot (by simp; omega) ?_
    refine Tot.bind (pick_ok (x.1, a, sd) _ hc (by omega)) fun u90 h90 => ?_
    exact ih (u90.2.2.1, u90.2.2.2, _, _) ⟨by simp; omega, hsh.app (by omega) (drawNames_len _ (List.getElem_mem _)), h90.2.2.mono (by simp; omega) (by simp; omega)⟩ (by simp; omega)
  · rw [if_neg (by simp)]
    exact stop
theorem showTime_ok (x : Cur) {m : Int} (h : Cu x.1 m x.2.1) (hm : 20 ≤ m) : Tot (F_spec_l1Cur__showTime__mut__box x) (Pk x.1 (m - 20) fun _ => True) := by
  unfold F_spec_l1Cur__showTime__mut__box
  refine Tot.bind (pick_ok x _ h (by omega)) fun u3 h3 => ?_
  refine Tot.bind (pick_ok (x.1, u3.2.2.1, u3.2.2.2) _ h3.2.2 (by omega)) fun u9 h9 => ?_
  refine Tot.bind (amongT (x.1, u9.2.2.1, u9.2.2.2) _ h9.2.2 (by show 2 ≤ m - 2 - 2; omega) (by simp)) fun u21 h21 => ?_
  refine Tot.bind (amongT (x.1, u21.2.2.1, u21.2.2.2) _ h21.2.2 (by show 2 ≤ m - 2 - 2 - 2; omega) (by simp)) fun u33 h33 => ?_
  exact Tot.some ⟨trivial, rfl, h33.2.2.mono (by omega) (by show _ ≤ m - 2 - 2 - 2 - 2; omega)⟩
theorem countOf_ok (x : Cur) (l : MusicT) (hl : l.length < 4611686018427387904) {m : Int} (h : Cu x.1 m x.2.1) (hm : 20 ≤ m) : Tot (F_spec_l1Cur__countOf__mut__box x l) (Pk x.1 (m - 20) fun _ => True) := by
  unfold F_spec_l1Cur__countOf__mut__box jK1
  dsimp only
  have fin : ∀ y : Int, Tot (Option.bind (F_spec_l1Cur__pick__mut__box x y) fun u11 => Option.bind (F_spec_l1Cur__pick__mut__box (x.1, u11.2.2.1, u11.2.2.2) y) fun u17 =>
      Option.bind (F_spec_l1Cur__among__mut__box (x.1, u17.2.2.1, u17.2.2.2) [(-1), (w64 (y + 1))]) fun u29 => Option.bind (F_spec_l1Cur__among__mut__box (x.1, u29.2.2.1, u29.2.2.2) [0, u11.1, u17.1, (w64 (y - 1)), y, u29.1]) fun u41 =>
      some (u41.1, (x.1, u41.2.2.1, u41.2.2.2))) (Pk x.1 (m - 20) fun _ => True) := by
    intro y
    refine Tot.bind (pick_ok x _ h (by omega)) fun u3 h3 => ?_
    refine Tot.bind (pick_ok (x.1, u3.2.2.1, u3.2.2.2) _ h3.2.2 (by omega)) fun u9 h9 => ?_
    refine Tot.bind (amongT (x.1, u9.2.2.1, u9.2.2.2) _ h9.2.2 (by show 2 ≤ m - 2 - 2; omega) (by simp)) fun u21 h21 => ?_
    refine Tot.bind (amongT (x.1, u21.2.2.1, u21.2.2.2) _ h21.2.2 (by show 2 ≤ m - 2 - 2 - 2; omega) (by simp)) fun u33 h33 => ?_
    exact Tot.some ⟨trivial, rfl, h33.2.2.mono (by omega) (by show _ ≤ m - 2 - 2 - 2 - 2; omega)⟩
  refine Tot.bindE (spec_muGood l hl) (Tot.ite (fun _ => ?_) fun _ => fin _)
  exact Tot.bindE (spec_muCounts l hl) (fin _)
/-! what the laws draw -/
theorem Cu.start {c : List Int} (h : allG inU8 c) : Cu c 100000000 0 := ⟨fun b hb => h.2 b hb, by omega, by omega, by omega⟩
def drawnCues (x : MusicT) (l : List CueT) : Prop := x.length ≤ 41 ∧ shortCues l
theorem drawnCues.lens {x : MusicT} {l : List CueT} (h : drawnCues x l) : CueLens x l := ⟨by have := h.1; omega, by have := h.2.1; omega, fun c hc => by have := h.2.2 c hc; omega⟩
section
variable (c : List Int) (h : Cu c 100000000 0)
include h
theorem draw_AreCues : Tot (F_spec_DrawAreCues c) fun v => drawnCues v.1 v.2 := by
  unfold F_spec_DrawAreCues
  refine Tot.bind (cues_ok (c, 0, 0) h (by omega)) fun u hu => Tot.some ⟨hu.1, hu.2.1⟩
end
end Go.Proofs.YtejhnpimhjmpdaaDoor
/-
  CUES SHIFTED AND ADDED, PLAIN.
-/
set_option linter.unusedSimpArgs false
set_option linter.unusedVariables false
namespace Go.Proofs.YtejhnpimhjmpdaaDoor
open Go
/-- A loop that turns each element in its place. -/
theorem loopSet {α R : Type} (f : Nat → List α → Int → Option R) (l : List α) (g : α → α) (rest : List α → Option R) (hn : l.length < 4611686018427387904)
    (hs : ∀ m k x (s : List α), k < l.length → s[k]? = some x → s.length = l.length → f (m + 1) s (k : Int) = f m (s.set k (g x)) ((k + 1 : Nat) : Int))
    (he : ∀ m s, s.length = l.length → f (m + 1) s (l.length : Int) = rest s) : f FU l 0 = rest (l.map g) := by
  have h := loopS f l.length (fun k s => match s[k]? with | some x => s.set k (g x) | none => s) rest hn
    (fun k s => s = (l.take k).map g ++ l.drop k) l (by simp) (fun k s hk hi => ?_) (fun m k s hk hi => ?_) (fun m s hi => he m s (by rw [hi]; simp))
  · rw [h.1]
    congr 1
    have := h.2
    simpa using this
  · have e3 : ¬ k < ((l.take k).map g).length := by simp; omega
    have e2 : k - ((l.take k).map g).length = 0 := by simp; omega
    have hx : s[k]? = some l[k] := by rw [hi, List.getElem?_append_right (by omega), e2]; simp
    simp only [hx]
    subst hi
    rw [List.set_append, if_neg e3, e2, List.drop_eq_getElem_cons hk, List.set_cons_zero, List.take_succ_eq_append_getElem hk, List.map_append]
    simp
  · have e2 : k - ((l.take k).map g).length = 0 := by simp; omega
    have hx : s[k]? = some l[k] := by rw [hi, List.getElem?_append_right (by simp; omega), e2]; simp
    simp only [hx]
    exact hs m k l[k] s hk hx (by rw [hi]; simp; omega)
def ifCues (x : MusicT) (l : List CueT) : List CueT × Bool := if okCues x l then (l, true) else ([], false)
theorem spec_tiIf (x : MusicT) (l : List CueT) (h : CueLens x l) : F_spec_tiIf x l = some (ifCues x l) := by
  unfold F_spec_tiIf ifCues
  rw [spec_tiCues x l h.hx h.hl' h.hn, Option.bind_some]
  have := h.hl
  rw [app_ok' (by simp; omega)]
  cases okCues x l <;> simp
/-- A loop that looks for the first place where q does not hold. -/
theorem loopFind {α R : Type} (f : Nat → Int → Option R) (l : List α) (q : α → Bool) (rest : Nat → Option R) (hn : l.length < 4611686018427387904)
    (hs : ∀ m k x, k < l.length → l[k]? = some x → q x = true → f (m + 1) (k : Int) = f m ((k + 1 : Nat) : Int))
    (he : ∀ m k x, k < l.length → l[k]? = some x → q x = false → f (m + 1) (k : Int) = rest k) (hz : ∀ m, f (m + 1) (l.length : Int) = rest l.length) :
    f FU 0 = rest (l.takeWhile q).length := by
  have key : ∀ d k m, l.length - k = d → k ≤ l.length → l.length - k < m → f m (k : Int) = rest (k + ((l.drop k).takeWhile q).length) := by
    intro d
    induction d with
    | zero =>
      intro k m hd hk hm
      have : k = l.length := by omega
      subst this
      cases m with
      | zero => omega
      | succ m => rw [hz]; simp
    | succ d ih =>
      intro k m hd hk hm
      cases m with
      | zero => omega
      | succ m =>
        have hk' : k < l.length := by omega
        have hx : l[k]? = some l[k] := by simp [hk']
        rw [List.drop_eq_getElem_cons hk']
        cases hq : q l[k] with
        | true =>
          rw [hs m k _ hk' hx hq, ih (k + 1) m (by omega) (by omega) (by omega), List.takeWhile_cons_of_pos hq]
          congr 1
          simp
          omega
        | false =>
          rw [he m k _ hk' hx hq, List.takeWhile_cons_of_neg (by simp [hq])]
          simp
  have := key _ 0 FU rfl (by omega) (FU_gt (by omega))
  simpa using this
def addAt (l : List CueT) (c : CueT) : Nat := (l.takeWhile fun d => decide (d.1 < c.1)).length
theorem takeWhile_len {α : Type} (q : α → Bool) (l : List α) : (l.takeWhile q).length ≤ l.length := (List.takeWhile_sublist q).length_le
def added (l : List CueT) (c : CueT) : List CueT := l.take (addAt l c) ++ [c] ++ l.drop (addAt l c)
def addAns (x : MusicT) (l : List CueT) (c : CueT) : List CueT × Bool := if okBoth x l then ifCues x (added l c) else ([], false)
theorem lens_added {x : MusicT} {l : List CueT} (h : CueLens x l) (c : CueT) (hc : c.2.length < 4611686018427387904) (hl : l.length ≤ 30) : CueLens x (added l c) :=
  ⟨h.hx, by have := takeWhile_len (fun d : CueT => decide (d.1 < c.1)) l; unfold added addAt; simp; omega, fun d hd => by
    unfold added at hd
    simp only [List.mem_append, List.mem_singleton] at hd
    rcases hd with (hd | rfl) | hd
    · exact h.hn d (List.mem_of_mem_take hd)
    · exact hc
    · exact h.hn d (List.mem_of_mem_drop hd)⟩
theorem sl_drop {α : Type} (l : List α) {k : Nat} (h : k ≤ l.length) : sl l (k : Int) (List.length l : Int) = some (l.drop k) := by
  unfold sl
  rw [if_pos (by omega)]
  simp
theorem spec_AddCue (x : MusicT) (l : List CueT) (c : CueT) (h : CueLens x l) (hc : c.2.length < 4611686018427387904) : F_spec_AddCue x l c = some (addAns x l c) := by
  unfold F_spec_AddCue addAns
  rw [spec_tiGood x l h, Option.bind_some]
  cases hb : okBoth x l with
  | false => simp
  | true =>
    have hl := both_len hb
    have done : ∀ k, k ≤ l.length → (Option.bind (sl l 0 (k : Int)) fun u51 => Option.bind (sl l (k : Int) (List.length l : Int)) fun u54 => Option.bind (app [] u51) fun u67 => Option.bind (app u67 [c]) fun u86 => Option.bind (app u86 u54) fun u95 =>
        Option.bind (F_spec_tiIf x u95) fun u104 => some (u104.1, u104.2)) = F_spec_tiIf x (l.take k ++ [c] ++ l.drop k) := by
      intro k hk
      rw [sl_take l hk, Option.bind_some, sl_drop l hk, Option.bind_some, app_ok' (by simp; omega), Option.bind_some, app_ok' (by simp; omega), Option.bind_some, app_ok' (by simp; omega), Option.bind_some, List.nil_append]
      cases F_spec_tiIf x (l.take k ++ [c] ++ l.drop k) <;> rfl
    simp only [Bool.not_true, Bool.false_eq_true, if_false, if_true]
    rw [loopFind (F_spec_AddCue_L1 l c x) l (fun d => decide (d.1 < c.1)) (fun k => F_spec_tiIf x (l.take k ++ [c] ++ l.drop k)) (by omega) (fun m k d hk hd hq => ?_) (fun m k d hk hd hq => ?_) (fun m => ?_)]
    · exact spec_tiIf x _ (lens_added h c hc hl)
    · rw [F_spec_AddCue_L1]
      unfold jK1
      dsimp only
      rw [if_pos (by simp; omega), idx_nat, hd, Option.bind_some, hq, if_pos rfl, w64_succ (by omega)]
    · rw [F_spec_AddCue_L1]
      unfold jK1 jK2
      dsimp only
      rw [if_pos (by simp; omega), idx_nat, hd, Option.bind_some, hq, if_neg (by simp)]
      exact done k (by omega)
    · rw [F_spec_AddCue_L1]
      unfold jK1 jK2
      dsimp only
      rw [if_neg (by simp), if_neg (by simp)]
      exact done l.length (Nat.le_refl _)
theorem impl_AddCue (x : MusicT) (l : List CueT) (c : CueT) (h : CueLens x l) (hc : c.2.length < 4611686018427387904) : F_impl_AddCue x l c = some (addAns x l c) := by
  unfold F_impl_AddCue addAns
  rw [impl_haveCues x l h, Option.bind_some]
  cases hb : okBoth x l with
  | false => simp
  | true =>
    have hl := both_len hb
    have done : ∀ k, k ≤ l.length → (Option.bind (sl l 0 (k : Int)) fun u43 => Option.bind (app [] u43) fun u46 => Option.bind (sl l (k : Int) (List.length l : Int)) fun u59 => Option.bind (app u46 [c]) fun u74 => Option.bind (app u74 u59) fun u82 =>
        Option.bind (F_impl_areCues x u82) fun u92 => (if (!u92) = true then some ([], false) else some (u82, true))) = Option.bind (F_impl_areCues x (l.take k ++ [c] ++ l.drop k)) fun u => (if (!u) = true then some ([], false) else some (l.take k ++ [c] ++ l.drop k, true)) := by
      intro k hk
      rw [sl_take l hk, Option.bind_some, sl_drop l hk, app_ok' (by simp; omega), Option.bind_some, Option.bind_some, app_ok' (by simp; omega), Option.bind_some, app_ok' (by simp; omega), Option.bind_some, List.nil_append]
    simp only [Bool.not_true, Bool.false_eq_true, if_false, if_true]
    rw [loopFind (F_impl_AddCue_L1 l c x) l (fun d => decide (d.1 < c.1)) (fun k => Option.bind (F_impl_areCues x (l.take k ++ [c] ++ l.drop k)) fun u => (if (!u) = true then some ([], false) else some (l.take k ++ [c] ++ l.drop k, true))) (by omega) (fun m k d hk hd hq => ?_) (fun m k d hk hd hq => ?_) (fun m => ?_)]
    · have h2 := lens_added h c hc hl
      unfold added addAt at h2
      rw [impl_areCues x _ h2.hx h2.hl' h2.hn, Option.bind_some]
      unfold ifCues added addAt
      cases okCues x (List.take (l.takeWhile fun d => decide (d.1 < c.1)).length l ++ [c] ++ List.drop (l.takeWhile fun d => decide (d.1 < c.1)).length l) <;> simp
    · rw [F_impl_AddCue_L1]
      unfold jK1
      dsimp only
      rw [if_pos (by simp; omega), idx_nat, hd, Option.bind_some, hq, if_pos rfl, w64_succ (by omega)]
    · rw [F_impl_AddCue_L1]
      unfold jK1
      dsimp only
      rw [if_pos (by simp; omega), idx_nat, hd, Option.bind_some, hq, if_neg (by simp)]
      exact done k (by omega)
    · rw [F_impl_AddCue_L1]
      unfold jK1
      dsimp only
      rw [if_neg (by simp), if_neg (by simp)]
      exact done l.length (Nat.le_refl _)
/-! what comes back is small -/
theorem ifCues_ok (x : MusicT) (l : List CueT) : (ifCues x l).1.length ≤ 30 ∧ ∀ c ∈ (ifCues x l).1, c.2.length ≤ 8 := by
  unfold ifCues
  cases h : okCues x l with
  | false => simp
  | true =>
    unfold okCues at h
    rw [Bool.and_eq_true, decide_eq_true_eq] at h
    refine ⟨h.2, fun c hc => ?_⟩
    simp only [if_true] at hc
    obtain ⟨k, hk⟩ := List.getElem?_of_mem hc
    have hlt := (List.getElem?_eq_some_iff.1 hk).1
    have hat := List.all_eq_true.1 h.1 k (List.mem_range.2 hlt)
    unfold cueAt at hat
    rw [hk] at hat
    simp only [Bool.and_eq_true] at hat
    have hn := hat.1.1.2
    unfold okName at hn
    rw [Bool.and_eq_true, okIn_iff'] at hn
    omega
end Go.Proofs.YtejhnpimhjmpdaaDoor
/-
  SHOWS COMPARED, PLAIN.
-/
set_option linter.unusedSimpArgs false
set_option linter.unusedVariables false
namespace Go.Proofs.YtejhnpimhjmpdaaDoor
open Go
end Go.Proofs.YtejhnpimhjmpdaaDoor
/-
  CUES BETWEEN TIMES, PLAIN.
-/
set_option linter.unusedSimpArgs false
set_option linter.unusedVariables false
namespace Go.Proofs.YtejhnpimhjmpdaaDoor
open Go
end Go.Proofs.YtejhnpimhjmpdaaDoor
/-
  THE LAST CUE AT A TIME, PLAIN.
-/
set_option linter.unusedSimpArgs false
set_option linter.unusedVariables false
namespace Go.Proofs.YtejhnpimhjmpdaaDoor
open Go
end Go.Proofs.YtejhnpimhjmpdaaDoor
/-
  THE NEXT CUE, THE LONGEST GAP, THE END OF MUSIC, PLAIN.
-/
set_option linter.unusedSimpArgs false
set_option linter.unusedVariables false
namespace Go.Proofs.YtejhnpimhjmpdaaDoor
open Go
/-! the next cue -/
def nextAt (l : List CueT) (c : Int) : Nat := (l.takeWhile fun d => decide (d.1 < c)).length
def nextAns (x : MusicT) (l : List CueT) (c : Int) : Int × Bool := if okBoth x l && okIn c 0 (w64 (totC x - 1)) then (if nextAt l c < l.length then ((nextAt l c : Int), true) else (0, false)) else (0, false)
theorem next_loop (f : Nat → Int → Option (Int × Bool)) (l : List CueT) (c : Int) (hl : l.length < 1073741824)
    (hs : ∀ m y, f (m + 1) y = if (decide (y < (List.length l : Int))) = true then Option.bind (idx l y) fun u => (if (decide (c ≤ u.1)) = true then some (y, true) else f m (w64 (y + 1))) else some (0, false)) :
    f FU 0 = if nextAt l c < l.length then some ((nextAt l c : Int), true) else some (0, false) := by
  refine loopFind f l (fun d => decide (d.1 < c)) (fun k => if k < l.length then some ((k : Int), true) else some (0, false)) (by omega) (fun m k d hk hd hq => ?_) (fun m k d hk hd hq => ?_) (fun m => ?_)
  · rw [hs, if_pos (by simp; omega), idx_nat, hd, Option.bind_some, if_neg (by simp at hq ⊢; omega), w64_succ (by omega)]
  · rw [hs, if_pos (by simp; omega), idx_nat, hd, Option.bind_some, if_pos (by simp at hq ⊢; omega), if_pos hk]
  · rw [hs, if_neg (by simp)]
    simp
theorem impl_NextCue (x : MusicT) (l : List CueT) (c : Int) (h : CueLens x l) : F_impl_NextCue x l c = some (nextAns x l c) := by
  unfold F_impl_NextCue jK1 nextAns
  dsimp only
  rw [impl_haveCues x l h, Option.bind_some, impl_countsOf x h.hx, Option.bind_some, impl_within, Option.bind_some, next_loop (F_impl_NextCue_L1 l c) l c h.hl (fun m y => by rw [F_impl_NextCue_L1])]
  cases okBoth x l <;> cases okIn c 0 (w64 (totC x - 1)) <;> simp
  split <;> rfl
theorem spec_muHas (x : MusicT) (c : Int) (h : x.length < 4611686018427387904) : F_spec_muHas x c = some (okMusic x && okIn c 0 (w64 (totC x - 1))) := by
  unfold F_spec_muHas jK1
  dsimp only
  rw [spec_muGood x h, Option.bind_some, spec_muCounts x h, Option.bind_some, spec_l1In, Option.bind_some]
  cases okMusic x <;> simp
theorem spec_NextCue (x : MusicT) (l : List CueT) (c : Int) (h : CueLens x l) : F_spec_NextCue x l c = some (nextAns x l c) := by
  unfold F_spec_NextCue jK1 nextAns
  dsimp only
  rw [spec_tiGood x l h, Option.bind_some, spec_muHas x c h.hx, Option.bind_some, next_loop (F_spec_NextCue_L1 l c) l c h.hl (fun m y => by rw [F_spec_NextCue_L1])]
  cases hb : okBoth x l with
  | false => simp
  | true =>
    rw [both_music hb]
    cases okIn c 0 (w64 (totC x - 1)) <;> simp
    split <;> rfl
/-! the last cue, cues between -/
/-! the longest gap -/
/-! counts and the end -/
/-! shifted cues are shifted back -/
end Go.Proofs.YtejhnpimhjmpdaaDoor
/-
  CUES AFTER A REPETITION, PLAIN.
-/
set_option linter.unusedSimpArgs false
set_option linter.unusedVariables false
namespace Go.Proofs.YtejhnpimhjmpdaaDoor
open Go
def okRange (x : MusicT) (a b : Int) : Bool := okMusic x && decide (0 ≤ a) && decide (a ≤ b) && decide (b < (x.length : Int))
theorem spec_muRange (x : MusicT) (a b : Int) (h : x.length < 4611686018427387904) : F_spec_muRange x a b = some (okRange x a b) := by
  unfold F_spec_muRange jK1 okRange
  dsimp only
  rw [spec_muGood x h, Option.bind_some, spec_l1In, Option.bind_some, w64_eq (by omega) (by omega), spec_l1In, Option.bind_some]
  unfold okIn
  cases okMusic x with
  | false => simp
  | true =>
    by_cases h1 : 0 ≤ a
    · by_cases h2 : a ≤ b
      · have e : decide (b ≤ (x.length : Int) - 1) = decide (b < (x.length : Int)) := by rw [Bool.eq_iff_iff]; simp; omega
        simp [h1, h2, e]
      · simp [h1, h2]
    · simp [h1]
/-- Some measures, so many times. -/
def times (m : MusicT) : Nat → MusicT
  | 0 => []
  | n + 1 => m ++ times m n
theorem times_len (m : MusicT) (n : Nat) : (times m n).length = n * m.length := by
  induction n with
  | zero => simp [times]
  | succ n ih => rw [times, List.length_append, ih, Nat.succ_mul]; omega
def midOf (x : MusicT) (a b : Nat) : MusicT := (x.take (b + 1)).drop a
def longerM (x : MusicT) (a b n : Nat) : MusicT := x.take a ++ times (midOf x a b) n ++ x.drop (b + 1)
def repAns (x : MusicT) (a b n : Int) : MusicT × Bool := if okRange x a b && okIn n 1 10 && okMusic (longerM x a.toNat b.toNat n.toNat) then (longerM x a.toNat b.toNat n.toNat, true) else ([], false)
theorem range_of {x : MusicT} {a b : Int} (h : okRange x a b = true) : okMusic x = true ∧ a = ((a.toNat : Nat) : Int) ∧ b = ((b.toNat : Nat) : Int) ∧ a.toNat ≤ b.toNat ∧ b.toNat < x.length := by
  unfold okRange at h
  simp only [Bool.and_eq_true, decide_eq_true_eq] at h
  exact ⟨h.1.1.1, by omega, by omega, by omega, by omega⟩
theorem sl_mid (x : MusicT) {a b : Nat} (h : a ≤ b) (h2 : b < x.length) : sl x (a : Int) ((b : Int) + 1) = some (midOf x a b) := by
  unfold sl midOf
  rw [if_pos (by omega)]
  simp
theorem spec_RepeatMeasures (x : MusicT) (a b n : Int) (h : x.length < 4611686018427387904) : F_spec_RepeatMeasures x a b n = some (repAns x a b n) := by
  unfold F_spec_RepeatMeasures jK1 repAns
  dsimp only
  rw [spec_muRange x a b h, Option.bind_some, spec_l1In, Option.bind_some]
  cases hr : okRange x a b with
  | false => simp
  | true =>
    cases hn : okIn n 1 10 with
    | false => simp
    | true =>
      obtain ⟨hm, ea, eb, hab, hb⟩ := range_of hr
      have hml := music_len hm
      rw [okIn_iff'] at hn
      have en : n = ((n.toNat : Nat) : Int) := by omega
      generalize a.toNat = A at *
      generalize b.toNat = B at *
      generalize n.toNat = N at *
      subst ea; subst eb; subst en
      have hmid : (midOf x A B).length ≤ 40 := by unfold midOf; simp; omega
      simp only [Bool.not_true, Bool.false_eq_true, if_false, Bool.true_and, Bool.and_self]
      rw [sl_take x (by omega), Option.bind_some, app_ok' (by simp; omega), Option.bind_some, List.nil_append]
      have key : ∀ k m (s : MusicT), k < m → s.length ≤ 40 + 40 * (10 - k) → k ≤ 10 → F_spec_RepeatMeasures_L1 x (A : Int) (B : Int) m (k : Int) s = (Option.bind (F_spec_muGood (s ++ times (midOf x A B) k ++ x.drop (B + 1))) fun u => if (!u) = true then some ([], false) else some (s ++ times (midOf x A B) k ++ x.drop (B + 1), true)) := by
        intro k
        induction k with
        | zero =>
          intro m s hm hs hk
          cases m with
          | zero => omega
          | succ m =>
            rw [F_spec_RepeatMeasures_L1, if_neg (by simp), w64_succ (by omega), sl_drop x (by omega), Option.bind_some, app_ok' (by simp; omega), Option.bind_some]
            simp [times]
        | succ k ih =>
          intro m s hm hs hk
          cases m with
          | zero => omega
          | succ m =>
            rw [F_spec_RepeatMeasures_L1, if_pos (by simp <;> omega), w64_eq (x := (B : Int) + 1) (by omega) (by omega), sl_mid x hab hb, Option.bind_some, app_ok' (by omega), Option.bind_some, w64_eq (x := ((k + 1 : Nat) : Int) - 1) (by omega) (by omega),
              show ((k + 1 : Nat) : Int) - 1 = (k : Int) by omega, ih m _ (by omega) (by simp; omega) (by omega)]
            simp [times, List.append_assoc]
      have hlen := times_len (midOf x A B) N
      have hN : N * (midOf x A B).length ≤ 10 * 40 := Nat.mul_le_mul (by omega) hmid
      rw [key N FU _ (FU_gt (by omega)) (by simp; omega) (by omega)]
      unfold longerM
      rw [spec_muGood _ (by simp; omega), Option.bind_some]
      cases okMusic (x.take A ++ times (midOf x A B) N ++ x.drop (B + 1)) <;> simp
theorem impl_RepeatMeasures (x : MusicT) (a b n : Int) (h : x.length < 4611686018427387904) : F_impl_RepeatMeasures x a b n = some (repAns x a b n) := by
  unfold F_impl_RepeatMeasures jK1 repAns
  dsimp only
  rw [impl_IsMusic x h, Option.bind_some, impl_within, Option.bind_some]
  by_cases hr : okRange x a b = true
  · obtain ⟨hm, ea, eb, hab, hb⟩ := range_of hr
    have hml := music_len hm
    have g1 : ¬ a < 0 := by omega
    have g2 : ¬ b < a := by omega
    have g3 : ¬ (x.length : Int) ≤ b := by omega
    cases hn : okIn n 1 10 with
    | false => simp [hm, g1, g2, g3]
    | true =>
      rw [okIn_iff'] at hn
      have en : n = ((n.toNat : Nat) : Int) := by omega
      rw [hr]
      generalize a.toNat = A at *
      generalize b.toNat = B at *
      generalize n.toNat = N at *
      subst ea; subst eb; subst en
      have hmid : (midOf x A B).length ≤ 40 := by unfold midOf; simp; omega
      simp only [hm, g1, g2, g3, decide_false, Bool.not_true, Bool.false_eq_true, if_false, Bool.true_and, Bool.and_self]
      rw [sl_take x (by omega), Option.bind_some, app_ok' (by simp; omega), Option.bind_some, List.nil_append]
      have key : ∀ d k m (s : MusicT), N - k = d → k ≤ N → d < m → s.length ≤ 40 + 40 * k → F_impl_RepeatMeasures_L1 (N : Int) x (A : Int) (B : Int) m s (k : Int) = (Option.bind (F_impl_IsMusic (s ++ times (midOf x A B) d ++ x.drop (B + 1))) fun u => if (!u) = true then some ([], false) else some (s ++ times (midOf x A B) d ++ x.drop (B + 1), true)) := by
        intro d
        induction d with
        | zero =>
          intro k m s hd hk hm hs
          cases m with
          | zero => omega
          | succ m =>
            rw [F_impl_RepeatMeasures_L1, if_neg (by simp; omega), w64_succ (by omega), sl_drop x (by omega), Option.bind_some, app_ok' (by simp; omega), Option.bind_some]
            simp [times]
        | succ d ih =>
          intro k m s hd hk hm hs
          cases m with
          | zero => omega
          | succ m =>
            rw [F_impl_RepeatMeasures_L1, if_pos (by simp; omega), w64_eq (x := (B : Int) + 1) (by omega) (by omega), sl_mid x hab hb, Option.bind_some, app_ok' (by omega), Option.bind_some, w64_succ (by omega), ih (k + 1) m _ (by omega) (by omega) (by omega) (by simp; omega)]
            simp [times, List.append_assoc]
      have hlen := times_len (midOf x A B) N
      have hN : N * (midOf x A B).length ≤ 10 * 40 := Nat.mul_le_mul (by omega) hmid
      have := key N 0 FU (x.take A) (by omega) (by omega) (FU_gt (by omega)) (by simp; omega)
      rw [show ((0 : Nat) : Int) = 0 from rfl] at this
      rw [this]
      unfold longerM
      rw [impl_IsMusic _ (by simp; omega), Option.bind_some]
      cases okMusic (x.take A ++ times (midOf x A B) N ++ x.drop (B + 1)) <;> simp
  · have hr' : okRange x a b = false := by simpa using hr
    rw [hr']
    unfold okRange at hr'
    cases hm : okMusic x with
    | false => simp
    | true =>
      rw [hm] at hr'
      by_cases g1 : a < 0
      · simp [g1]
      · by_cases g2 : b < a
        · simp [g1, g2]
        · have g3 : (x.length : Int) ≤ b := by
            have h1 : 0 ≤ a := by omega
            have h2 : a ≤ b := by omega
            simp [h1, h2] at hr'
            omega
          simp [g1, g2, g3]
/-! counts -/
theorem sum_times (m : MusicT) (n : Nat) : ((times m n).map (·.1)).sum = n * (m.map (·.1)).sum := by
  induction n with
  | zero => simp [times]
  | succ n ih => rw [times, List.map_append, List.sum_append, ih]; push_cast; rw [Int.add_mul]; omega
def laterC (e d : Int) (c : CueT) : CueT := if e ≤ c.1 then (w64 (c.1 + d), c.2) else c
def afterAns (x : MusicT) (l : List CueT) (a b n : Int) : List CueT × Bool :=
  if okBoth x l && (repAns x a b n).2 then (l.map (laterC (totC (x.take (b.toNat + 1))) (w64 (w64 (n - 1) * totC (midOf x a.toNat b.toNat)))), true) else ([], false)
theorem all_take {x : MusicT} (h : x.all okMeasure = true) (k : Nat) : (x.take k).all okMeasure = true := by
  rw [List.all_eq_true] at h ⊢
  exact fun u hu => h u (List.mem_of_mem_take hu)
theorem all_mid {x : MusicT} (h : x.all okMeasure = true) (a b : Nat) : (midOf x a b).all okMeasure = true := by
  have := all_take h (b + 1)
  rw [List.all_eq_true] at this ⊢
  exact fun u hu => this u (List.mem_of_mem_drop hu)
theorem rep_of {x : MusicT} {a b n : Int} (h : (repAns x a b n).2 = true) : okRange x a b = true ∧ okIn n 1 10 = true ∧ okMusic (longerM x a.toNat b.toNat n.toNat) = true ∧ (repAns x a b n).1 = longerM x a.toNat b.toNat n.toNat := by
  unfold repAns at h ⊢
  split at h
  · rename_i hc
    rw [if_pos hc]
    simp only [Bool.and_eq_true] at hc
    exact ⟨hc.1.1, hc.1.2, hc.2, rfl⟩
  · cases h
theorem added_counts {x : MusicT} {a b n : Int} (h : (repAns x a b n).2 = true) : w64 (totC (longerM x a.toNat b.toNat n.toNat) - totC x) = w64 (w64 (n - 1) * totC (midOf x a.toNat b.toNat)) := by
  obtain ⟨hr, hn, hm2, _⟩ := rep_of h
  obtain ⟨hm, ea, eb, hab, hb⟩ := range_of hr
  rw [okIn_iff'] at hn
  have hml := music_len hm
  have hml2 := music_len hm2
  have s1 := totC_eq hml2.2.2 (by omega)
  have s2 := totC_eq hml.2.2 (by omega)
  have s3 := totC_eq (all_mid hml.2.2 a.toNat b.toNat) (by unfold midOf; simp; omega)
  have hx : (x.map (·.1)).sum = ((x.take a.toNat).map (·.1)).sum + ((midOf x a.toNat b.toNat).map (·.1)).sum + ((x.drop (b.toNat + 1)).map (·.1)).sum := by
    have e : x = x.take a.toNat ++ midOf x a.toNat b.toNat ++ x.drop (b.toNat + 1) := by
      unfold midOf
      have h1 : x.take a.toNat = (x.take (b.toNat + 1)).take a.toNat := by rw [List.take_take, Nat.min_eq_left (by omega)]
      rw [h1, List.take_append_drop, List.take_append_drop]
    have := congrArg (fun l => (l.map (·.1)).sum) e
    simp only [List.map_append, List.sum_append] at this
    exact this
  have hl : ((longerM x a.toNat b.toNat n.toNat).map (·.1)).sum = ((x.take a.toNat).map (·.1)).sum + n.toNat * ((midOf x a.toNat b.toNat).map (·.1)).sum + ((x.drop (b.toNat + 1)).map (·.1)).sum := by
    unfold longerM
    rw [List.map_append, List.map_append, List.sum_append, List.sum_append, sum_times]
  have hnn : (n.toNat : Int) = n := by omega
  rw [s1.1, s2.1, s3.1, hl, hx, hnn, w64_eq (x := n - 1) (by omega) (by omega), Int.sub_mul]
  congr 1
  omega
theorem spec_CuesAfterRepeat (x : MusicT) (l : List CueT) (a b n : Int) (h : CueLens x l) : F_spec_CuesAfterRepeat x l a b n = some (afterAns x l a b n) := by
  unfold F_spec_CuesAfterRepeat afterAns
  rw [spec_tiGood x l h, Option.bind_some]
  cases hb : okBoth x l with
  | false => simp
  | true =>
    have hl := both_len hb
    rw [spec_RepeatMeasures x a b n h.hx, Option.bind_some]
    cases hr : (repAns x a b n).2 with
    | false => simp
    | true =>
      obtain ⟨g1, g2, g3, g4⟩ := rep_of hr
      obtain ⟨hm, ea, eb, hab, hbl⟩ := range_of g1
      have hml := music_len g3
      simp only [Bool.not_true, Bool.false_eq_true, if_false, Bool.and_self, if_true]
      have e : w64 (b + 1) = ((b.toNat + 1 : Nat) : Int) := by rw [w64_eq (by have := h.hx; omega) (by have := h.hx; omega)]; omega
      rw [g4, spec_muCounts _ (by omega), Option.bind_some, spec_muCounts x h.hx, Option.bind_some, e, sl_take x (by omega), Option.bind_some, spec_muCounts _ (by have := h.hx; simp; omega), Option.bind_some, app_ok' (by simp; omega), Option.bind_some, List.nil_append,
        loopSet (F_spec_CuesAfterRepeat_L1 l (totC (x.take (b.toNat + 1))) (totC (longerM x a.toNat b.toNat n.toNat)) (totC x)) l (laterC (totC (x.take (b.toNat + 1))) (w64 (totC (longerM x a.toNat b.toNat n.toNat) - totC x))) (fun s => some (s, true)) (by omega) (fun m k c s hk hc hsl => ?_) (fun m s hsl => ?_), added_counts hr]
      · rw [F_spec_CuesAfterRepeat_L1, if_pos (by simp; omega)]
        unfold jK1
        dsimp only
        rw [idx_nat, hc, Option.bind_some, Option.bind_some, Option.bind_some, seti_nat, w64_succ (by omega)]
        unfold laterC
        by_cases hq : totC (x.take (b.toNat + 1)) ≤ c.1
        · rw [if_pos (by simpa using hq), if_pos hq]
        · rw [if_neg (by simpa using hq), if_neg hq]
          have : s.set k c = s := by
            apply List.ext_getElem?
            intro i
            by_cases hi : i = k
            · subst hi
              rw [List.getElem?_set_self (by omega), hc]
            · rw [List.getElem?_set_ne (Ne.symm hi)]
          rw [this]
      · rw [F_spec_CuesAfterRepeat_L1, if_neg (by simp)]
theorem impl_CuesAfterRepeat (x : MusicT) (l : List CueT) (a b n : Int) (h : CueLens x l) : F_impl_CuesAfterRepeat x l a b n = some (afterAns x l a b n) := by
  unfold F_impl_CuesAfterRepeat afterAns
  rw [impl_haveCues x l h, Option.bind_some]
  cases hb : okBoth x l with
  | false => simp
  | true =>
    have hl := both_len hb
    rw [impl_RepeatMeasures x a b n h.hx, Option.bind_some]
    cases hr : (repAns x a b n).2 with
    | false => simp
    | true =>
      obtain ⟨g1, g2, g3, g4⟩ := rep_of hr
      obtain ⟨hm, ea, eb, hab, hbl⟩ := range_of g1
      have hml := music_len hm
      simp only [Bool.not_true, Bool.false_eq_true, if_false, Bool.and_self, if_true]
      have e : w64 (b + 1) = ((b.toNat + 1 : Nat) : Int) := by rw [w64_eq (by omega) (by omega)]; omega
      have e2 : sl x a ((b.toNat + 1 : Nat) : Int) = some (midOf x a.toNat b.toNat) := by
        have := sl_mid x hab hbl
        rw [← ea, show ((b.toNat : Nat) : Int) + 1 = ((b.toNat + 1 : Nat) : Int) by omega] at this
        exact this
      rw [e, sl_take x (by omega), Option.bind_some, e2, Option.bind_some, impl_countsOf _ (by simp; omega), Option.bind_some, impl_countsOf _ (by unfold midOf; simp; omega), Option.bind_some,
        loopMapL (F_impl_CuesAfterRepeat_L1 l (totC (x.take (b.toNat + 1))) n (totC (midOf x a.toNat b.toNat))) l (laterC (totC (x.take (b.toNat + 1))) (w64 (w64 (n - 1) * totC (midOf x a.toNat b.toNat)))) (fun s => some (s, true)) (by omega) (fun m s k c hk hc hsl => ?_) (fun m s => ?_)]
      · rw [F_impl_CuesAfterRepeat_L1, if_pos (by simp; omega), idx_nat, hc, Option.bind_some]
        unfold jK1
        dsimp only
        rw [w64_succ (k := k) (by omega)]
        unfold laterC
        by_cases hq : totC (x.take (b.toNat + 1)) ≤ c.1
        · rw [if_pos (by simpa using hq), if_pos hq, app_ok' (by simp; omega), Option.bind_some]
        · rw [if_neg (by simpa using hq), if_neg hq, app_ok' (by simp; omega), Option.bind_some]
      · rw [F_impl_CuesAfterRepeat_L1, if_neg (by simp)]
theorem afterAns_ok (x : MusicT) (l : List CueT) (a b n : Int) : (afterAns x l a b n).1.length ≤ l.length ∧ ∀ c ∈ (afterAns x l a b n).1, ∃ d ∈ l, c.2 = d.2 := by
  unfold afterAns
  split
  · refine ⟨by simp, fun c hc => ?_⟩
    obtain ⟨d, hd, rfl⟩ := List.mem_map.1 hc
    refine ⟨d, hd, ?_⟩
    unfold laterC
    split <;> rfl
  · simp
end Go.Proofs.YtejhnpimhjmpdaaDoor
/-
  NUMERALS READ BACK, PLAIN.
-/
set_option linter.unusedSimpArgs false
set_option linter.unusedVariables false
namespace Go.Proofs.YtejhnpimhjmpdaaDoor
open Go
def digitB (b : UInt8) : Bool := decide (48 ≤ b.toNat) && decide (b.toNat ≤ 57)
def numV (l : List UInt8) : Int := l.foldl (fun a b => 10 * a + ((b.toNat : Int) - 48)) 0
theorem digit_toNat {d : Nat} (h : d < 10) : (UInt8.ofNat (48 + d)).toNat = 48 + d := by
  rw [UInt8.toNat_ofNat']
  omega
theorem dec_small {u : Nat} (h : u < 10) : Lib.decDigits u = [UInt8.ofNat (48 + u)] := Lib.decDigits_one h
theorem dec_big {u : Nat} (h : ¬ u < 10) : Lib.decDigits u = Lib.decDigits (u / 10) ++ [UInt8.ofNat (48 + u % 10)] := by
  rw [Lib.decDigits, dif_neg h]
theorem dec_facts : ∀ (k u : Nat), u < 10 ^ (k + 1) → (∀ b ∈ Lib.decDigits u, digitB b = true) ∧ numV (Lib.decDigits u) = u ∧ 1 ≤ (Lib.decDigits u).length ∧ (Lib.decDigits u).length ≤ k + 1 ∧
    (0 < u → ∀ b, (Lib.decDigits u)[0]? = some b → b.toNat ≠ 48) := by
  intro k
  induction k with
  | zero =>
    intro u hu
    have h : u < 10 := by simpa using hu
    rw [dec_small h]
    have := digit_toNat h
    refine ⟨fun b hb => ?_, ?_, by simp, by simp, fun h0 b hb => ?_⟩
    · rw [List.mem_singleton.1 hb]
      unfold digitB
      rw [this]
      simp
      omega
    · unfold numV
      simp only [List.foldl_cons, List.foldl_nil, this]
      omega
    · rw [List.getElem?_cons_zero, Option.some.injEq] at hb
      rw [← hb, this]
      omega
  | succ k ih =>
    intro u hu
    by_cases h : u < 10
    · obtain ⟨a1, a2, a3, a4, a5⟩ := ih u (Nat.lt_of_lt_of_le h (by rw [Nat.pow_succ]; have := Nat.pow_pos (n := k) (show 0 < 10 by omega); omega))
      exact ⟨a1, a2, a3, by omega, a5⟩
    · have hd : u / 10 < 10 ^ (k + 1) := by rw [Nat.pow_succ] at hu; omega
      obtain ⟨a1, a2, a3, a4, a5⟩ := ih (u / 10) hd
      have hm : u % 10 < 10 := by omega
      have := digit_toNat hm
      rw [dec_big h]
      refine ⟨fun b hb => ?_, ?_, by simp, by simp; omega, fun h0 b hb => ?_⟩
      · rcases List.mem_append.1 hb with hb | hb
        · exact a1 b hb
        · rw [List.mem_singleton.1 hb]
          unfold digitB
          rw [this]
          simp
          omega
      · unfold numV at a2 ⊢
        rw [List.foldl_append, List.foldl_cons, List.foldl_nil, a2, this]
        omega
      · rw [List.getElem?_append_left (by omega)] at hb
        exact a5 (by omega) b hb
end Go.Proofs.YtejhnpimhjmpdaaDoor
/-
  TIMES IN WORDS, AND TIMETABLES, PLAIN.
-/
set_option linter.unusedSimpArgs false
set_option linter.unusedVariables false
namespace Go.Proofs.YtejhnpimhjmpdaaDoor
open Go
theorem tm_len {k u : Nat} (h : u < 10 ^ (k + 1)) : (Lib.decDigits u).length ≤ k + 1 := (dec_facts k u h).2.2.2.1
theorem tm_mem {k u : Nat} (h : u < 10 ^ (k + 1)) {b : UInt8} (hb : b ∈ Lib.decDigits u) : 48 ≤ b.toNat ∧ b.toNat ≤ 57 := by
  have := (dec_facts k u h).1 b hb
  unfold digitB at this
  simpa using this
theorem tm_itoa {n : Int} (h : 0 ≤ n) (h2 : n ≤ 9223372036854775807) : F_strconv_Itoa n = some (Lib.decDigits n.toNat) := by
  unfold F_strconv_Itoa Lib.itoa
  rw [if_pos (by omega), if_neg (by omega)]
theorem tm_byte {t : Int} (h0 : 0 ≤ t) (h1 : t < 10) : bytesOf [wu8 (w64 (48 + t))] = [UInt8.ofNat (48 + t.toNat)] := by
  have e : wu8 (48 + t) = 48 + t := by
    unfold wu8
    show (48 + t) % 256 = _
    omega
  rw [w64_eq (by omega) (by omega), e]
  unfold bytesOf
  rw [List.map_cons, List.map_nil, show (48 + t).toNat = 48 + t.toNat by omega]
theorem num_R : ∀ (d m : Nat) (n : Int), 0 ≤ n → n.toNat < 10 ^ (d + 1) → d ≤ 18 → d < m → n ≤ 9223372036854775807 → F_spec_l1Num_R m n = some (Lib.decDigits n.toNat) := by
  intro d
  induction d with
  | zero =>
    intro m n h0 hn hd hm h2
    cases m with
    | zero => omega
    | succ m =>
      have h10 : n.toNat < 10 := by simpa using hn
      rw [F_spec_l1Num_R, if_pos (by simp; omega), tm_byte h0 (by omega), dec_small h10]
  | succ d ih =>
    intro m n h0 hn hd hm h2
    cases m with
    | zero => omega
    | succ m =>
      by_cases h10 : n < 10
      · rw [F_spec_l1Num_R, if_pos (by simp; omega), tm_byte h0 h10, dec_small (by omega)]
      · rw [F_spec_l1Num_R, if_neg (by simp; omega)]
        unfold jK1
        dsimp only
        have hq : (n / 10).toNat = n.toNat / 10 := by omega
        have hr : (n % 10).toNat = n.toNat % 10 := by omega
        have hlt : n.toNat / 10 < 10 ^ (d + 1) := by rw [Nat.pow_succ] at hn; omega
        have hl := tm_len (k := d) hlt
        rw [Int.tdiv_eq_ediv_of_nonneg h0, Int.tmod_eq_emod_of_nonneg h0, w64_eq (x := n / 10) (by omega) (by omega), ih m (n / 10) (by omega) (by omega) (by omega) (by omega) (by omega), Option.bind_some, tm_byte (by omega) (by omega), hq, hr]
        unfold app
        rw [if_pos (by simp; omega), Option.bind_some, dec_big (u := n.toNat) (by omega)]
theorem spec_l1Num {n : Int} (h : 0 ≤ n) (h2 : n ≤ 9223372036854775807) : F_spec_l1Num n = some (Lib.decDigits n.toNat) := by
  unfold F_spec_l1Num
  exact num_R 18 FU n h (by omega) (by omega) (FU_gt (by omega)) h2
def padT (n d : Nat) : List UInt8 := List.replicate (d - (Lib.decDigits n).length) 48 ++ Lib.decDigits n
theorem pad_same (x1 : Int) : ∀ (m : Nat) (y : List UInt8), F_spec_tiPadded_L1 x1 m y = F_impl_padded_L1 x1 m y := by
  intro m
  induction m with
  | zero => intro y; rfl
  | succ m ih =>
    intro y
    rw [F_spec_tiPadded_L1, F_impl_padded_L1]
    simp only [ih]
theorem pad_loop (k : Nat) (hk : k ≤ 10) : ∀ (d m : Nat) (y : List UInt8), k - y.length = d → d < m → y.length ≤ 100 → F_impl_padded_L1 (k : Int) m y = some (List.replicate d 48 ++ y) := by
  intro d
  induction d with
  | zero =>
    intro m y hd hm hy
    cases m with
    | zero => omega
    | succ m =>
      rw [F_impl_padded_L1, if_neg (by simp; omega)]
      rfl
  | succ d ih =>
    intro m y hd hm hy
    cases m with
    | zero => omega
    | succ m =>
      rw [F_impl_padded_L1, if_pos (by simp; omega)]
      unfold app
      rw [if_pos (by simp; omega), Option.bind_some]
      show F_impl_padded_L1 (k : Int) m (48 :: y) = _
      rw [ih m (48 :: y) (by simp; omega) (by omega) (by simp; omega), List.replicate_succ']
      simp
theorem impl_padded {n : Int} (h : 0 ≤ n ∧ n < 1000) {k : Nat} (hk : k ≤ 10) : F_impl_padded n (k : Int) = some (padT n.toNat k) := by
  have hl := tm_len (k := 2) (u := n.toNat) (by omega)
  unfold F_impl_padded padT
  rw [tm_itoa (by omega) (by omega), Option.bind_some, pad_loop k hk _ FU _ rfl (FU_gt (by omega)) (by omega)]
theorem spec_tiPadded {n : Int} (h : 0 ≤ n ∧ n < 1000) {k : Nat} (hk : k ≤ 10) : F_spec_tiPadded n (k : Int) = some (padT n.toNat k) := by
  have hl := tm_len (k := 2) (u := n.toNat) (by omega)
  unfold F_spec_tiPadded padT
  rw [spec_l1Num (by omega) (by omega), Option.bind_some, pad_same, pad_loop k hk _ FU _ rfl (FU_gt (by omega)) (by omega)]
/-- A time in words. -/
def timeT (t : Int) : List UInt8 := Lib.decDigits (t / 60000).toNat ++ 58 :: (padT (t / 1000 % 60).toNat 2 ++ 46 :: padT (t % 1000).toNat 3)
theorem padT_len {n k : Nat} (h : n < 1000) (hk : k ≤ 3) : k ≤ (padT n k).length ∧ (padT n k).length ≤ 6 := by
  have := tm_len (k := 2) (u := n) (by omega)
  unfold padT
  rw [List.length_append, List.length_replicate]
  omega
theorem timeT_len {t : Int} (h : 0 ≤ t ∧ t ≤ 9223372036854775807) : 8 ≤ (timeT t).length ∧ (timeT t).length ≤ 40 := by
  obtain ⟨_, _, a3, a4, _⟩ := dec_facts 18 (t / 60000).toNat (by omega)
  have p1 := padT_len (n := (t / 1000 % 60).toNat) (k := 2) (by omega) (by omega)
  have p2 := padT_len (n := (t % 1000).toNat) (k := 3) (by omega) (by omega)
  unfold timeT
  simp only [List.length_append, List.length_cons]
  omega
theorem padT_mem {n k : Nat} (h : n < 1000) {b : UInt8} (hb : b ∈ padT n k) : 48 ≤ b.toNat ∧ b.toNat ≤ 57 := by
  unfold padT at hb
  rcases List.mem_append.1 hb with hb | hb
  · rw [List.eq_of_mem_replicate hb]; decide
  · exact tm_mem (k := 2) (by omega) hb
theorem timeT_mem {t : Int} (h : 0 ≤ t ∧ t ≤ 9223372036854775807) {b : UInt8} (hb : b ∈ timeT t) : 46 ≤ b.toNat ∧ b.toNat ≤ 58 := by
  unfold timeT at hb
  rcases List.mem_append.1 hb with hb | hb
  · have := tm_mem (k := 18) (by omega) hb
    omega
  · rcases List.mem_cons.1 hb with hb | hb
    · rw [hb]; decide
    · rcases List.mem_append.1 hb with hb | hb
      · have := padT_mem (by omega) hb
        omega
      · rcases List.mem_cons.1 hb with hb | hb
        · rw [hb]; decide
        · have := padT_mem (by omega) hb
          omega
theorem tm_app {l m : List UInt8} (h : l.length + m.length ≤ 1073741824) : app l m = some (l ++ m) := by
  unfold app
  rw [if_pos h]
theorem impl_timeText {t : Int} (h : 0 ≤ t ∧ t ≤ 9223372036854775807) : F_impl_timeText t = some (timeT t) := by
  have l0 := tm_len (k := 18) (u := (t / 60000).toNat) (by omega)
  have p1 := padT_len (n := (t / 1000 % 60).toNat) (k := 2) (by omega) (by omega)
  have p2 := padT_len (n := (t % 1000).toNat) (k := 3) (by omega) (by omega)
  have e1 := impl_padded (n := t / 1000 % 60) (by omega) (k := 2) (by omega)
  have e2 := impl_padded (n := t % 1000) (by omega) (k := 3) (by omega)
  unfold F_impl_timeText
  rw [Int.tdiv_eq_ediv_of_nonneg h.1, Int.tdiv_eq_ediv_of_nonneg h.1, Int.tmod_eq_emod_of_nonneg h.1, w64_eq (x := t / 60000) (by omega) (by omega), w64_eq (x := t / 1000) (by omega) (by omega), Int.tmod_eq_emod_of_nonneg (a := t / 1000) (by omega), tm_itoa (by omega) (by omega), Option.bind_some, tm_app (by simp; omega), Option.bind_some]
  rw [show (2 : Int) = ((2 : Nat) : Int) by rfl, e1, Option.bind_some, tm_app (by simp; omega), Option.bind_some, tm_app (by simp; omega), Option.bind_some]
  rw [show (3 : Int) = ((3 : Nat) : Int) by rfl, e2, Option.bind_some, tm_app (by simp; omega), Option.bind_some]
  unfold timeT
  simp only [List.append_assoc, List.cons_append, List.nil_append]
theorem spec_tiText {t : Int} (h : 0 ≤ t ∧ t ≤ 9223372036854775807) : F_spec_tiText t = some (timeT t) := by
  have l0 := tm_len (k := 18) (u := (t / 60000).toNat) (by omega)
  have p1 := padT_len (n := (t / 1000 % 60).toNat) (k := 2) (by omega) (by omega)
  have p2 := padT_len (n := (t % 1000).toNat) (k := 3) (by omega) (by omega)
  have e1 := spec_tiPadded (n := t / 1000 % 60) (by omega) (k := 2) (by omega)
  have e2 := spec_tiPadded (n := t % 1000) (by omega) (k := 3) (by omega)
  unfold F_spec_tiText
  rw [Int.tdiv_eq_ediv_of_nonneg h.1, Int.tdiv_eq_ediv_of_nonneg h.1, Int.tmod_eq_emod_of_nonneg h.1, w64_eq (x := t / 60000) (by omega) (by omega), w64_eq (x := t / 1000) (by omega) (by omega), Int.tmod_eq_emod_of_nonneg (a := t / 1000) (by omega), spec_l1Num (by omega) (by omega), Option.bind_some, tm_app (by simp; omega), Option.bind_some]
  rw [show (2 : Int) = ((2 : Nat) : Int) by rfl, e1, Option.bind_some, tm_app (by simp; omega), Option.bind_some, tm_app (by simp; omega), Option.bind_some]
  rw [show (3 : Int) = ((3 : Nat) : Int) by rfl, e2, Option.bind_some, tm_app (by simp; omega), Option.bind_some]
  unfold timeT
  simp only [List.append_assoc, List.cons_append, List.nil_append]
/-! the times are small -/
theorem time_bd {x : MusicT} (h : okMusic x = true) {c : Int} (h0 : 0 ≤ c) (h1 : c ≤ 4611686018427387904) : 0 ≤ timeC x c ∧ timeC x c ≤ 720000 := by
  obtain ⟨l1, l2, hx⟩ := music_len h
  have h40 : x.length ≤ 40 := by
    unfold okMusic at h
    rw [Bool.and_eq_true, okIn_iff'] at h
    omega
  have key : ∀ (d k m : Nat) (a b : Int), x.length - k = d → k ≤ x.length → d < m → 0 ≤ a → a ≤ 4611686018427387904 → 0 ≤ b → b ≤ 18000 * k → ∃ t, F_spec_muTime_L1 x m a b (k : Int) = some t ∧ 0 ≤ t ∧ t ≤ 18000 * x.length := by
    intro d
    induction d with
    | zero =>
      intro k m a b hd hk hm a0 a1 b0 b1
      cases m with
      | zero => omega
      | succ m =>
        rw [F_spec_muTime_L1, if_neg (by simp; omega)]
        exact ⟨_, rfl, by omega, by omega⟩
    | succ d ih =>
      intro k m a b hd hk hm a0 a1 b0 b1
      cases m with
      | zero => omega
      | succ m =>
        have hk' : k < x.length := by omega
        have hu := List.all_eq_true.1 hx x[k] (List.getElem_mem hk')
        unfold okMeasure at hu
        rw [Bool.and_eq_true, okIn_iff', okIn_iff'] at hu
        have hz : ¬ x[k].2 = 0 := by omega
        have lasts : ∀ q : Int, 0 ≤ q → q ≤ 12 → w64 (Int.tdiv (w64 (60000 * q)) x[k].2) = 60000 * q / x[k].2 ∧ 0 ≤ 60000 * q / x[k].2 ∧ 60000 * q / x[k].2 ≤ 18000 := by
          intro q q0 q1
          have d1 : 0 ≤ 60000 * q / x[k].2 := Int.ediv_nonneg (by omega) (by omega)
          have d2 : 60000 * q / x[k].2 ≤ 18000 := by
            have := Int.ediv_le_ediv (c := x[k].2) (by omega) (show 60000 * q ≤ 18000 * x[k].2 by omega)
            rw [Int.mul_ediv_cancel _ hz] at this
            exact this
          rw [w64_eq (x := 60000 * q) (by omega) (by omega), Int.tdiv_eq_ediv_of_nonneg (by omega), w64_eq (by omega) (by omega)]
          exact ⟨rfl, d1, d2⟩
        rw [F_spec_muTime_L1, if_pos (by simp; omega), idx_lt hk', Option.bind_some]
        simp only [F_spec_muLasts, if_neg hz, Option.bind_some, w64_succ (k := k) (by omega)]
        split
        · rename_i hlt
          have hlt' : a < x[k].1 := by simpa using hlt
          obtain ⟨e, e0, e1⟩ := lasts a a0 (by omega)
          rw [e, w64_eq (by omega) (by omega)]
          exact ⟨_, rfl, by omega, by omega⟩
        · rename_i hlt
          have hlt' : ¬ a < x[k].1 := by simpa using hlt
          obtain ⟨e, e0, e1⟩ := lasts x[k].1 (by omega) (by omega)
          rw [e, w64_eq (x := a - x[k].1) (by omega) (by omega), w64_eq (x := b + _) (by omega) (by omega)]
          exact ih (k + 1) m _ _ (by omega) (by omega) (by omega) (by omega) (by omega) (by omega) (by omega)
  obtain ⟨t, ht, t0, t1⟩ := key _ 0 FU c 0 rfl (by omega) (FU_gt (by omega)) h0 h1 (by omega) (by simp)
  have := spec_muTime x h c
  unfold F_spec_muTime at this
  rw [show ((0 : Nat) : Int) = 0 by rfl] at ht
  rw [ht] at this
  have e := Option.some.inj this
  rw [← e]
  exact ⟨t0, by omega⟩
end Go.Proofs.YtejhnpimhjmpdaaDoor
/-
  TIMETABLES, PLAIN.
-/
set_option linter.unusedSimpArgs false
set_option linter.unusedVariables false
namespace Go.Proofs.YtejhnpimhjmpdaaDoor
open Go
/-- A cue's line. -/
def lineC (x : MusicT) (c : CueT) : List UInt8 := timeT (timeC x c.1) ++ 32 :: (Lib.decDigits c.1.toNat ++ 32 :: (c.2 ++ [10]))
def tableC (x : MusicT) (l : List CueT) : List UInt8 := (l.map (lineC x)).flatten
def tableAns (x : MusicT) (l : List CueT) : List UInt8 × Bool := if okBoth x l then (tableC x l, true) else ([], false)
theorem cue_in {x : MusicT} {l : List CueT} (h : okBoth x l = true) {c : CueT} (hc : c ∈ l) : 0 ≤ c.1 ∧ c.1 ≤ 480 ∧ okName c.2 = true ∧ c.2.length ≤ 8 := by
  have hm := both_music h
  obtain ⟨_, _, hall⟩ := music_len hm
  have h40 : x.length ≤ 40 := by
    unfold okMusic at hm
    rw [Bool.and_eq_true, okIn_iff'] at hm
    omega
  obtain ⟨t1, t2, t3⟩ := totC_eq hall (by omega)
  obtain ⟨k, hk, rfl⟩ := List.getElem_of_mem hc
  unfold okBoth okCues at h
  rw [Bool.and_eq_true, Bool.and_eq_true] at h
  have hq := List.all_eq_true.1 h.2.1 k (List.mem_range.2 hk)
  unfold cueAt at hq
  rw [List.getElem?_eq_getElem hk] at hq
  simp only [Bool.and_eq_true] at hq
  have hi := okIn_iff'.1 hq.1.1.1
  rw [w64_eq (by omega) (by omega)] at hi
  have hn := hq.1.1.2
  refine ⟨hi.1, by omega, hn, ?_⟩
  unfold okName at hn
  rw [Bool.and_eq_true, okIn_iff'] at hn
  omega
theorem line_facts {x : MusicT} {l : List CueT} (h : okBoth x l = true) {c : CueT} (hc : c ∈ l) : (0 ≤ timeC x c.1 ∧ timeC x c.1 ≤ 720000) ∧ (timeT (timeC x c.1)).length ≤ 40 ∧ (Lib.decDigits c.1.toNat).length ≤ 3 ∧ (lineC x c).length ≤ 54 := by
  obtain ⟨c0, c1, cn, cl⟩ := cue_in h hc
  have tb := time_bd (both_music h) (c := c.1) c0 (by omega)
  have tl := timeT_len (t := timeC x c.1) (by omega)
  have dl := tm_len (k := 2) (u := c.1.toNat) (by omega)
  refine ⟨tb, tl.2, dl, ?_⟩
  unfold lineC
  simp only [List.length_append, List.length_cons, List.length_nil]
  omega
theorem tb_flat (B : Nat) : ∀ (L : List (List UInt8)), (∀ a ∈ L, a.length ≤ B) → L.flatten.length ≤ B * L.length
  | [], _ => by simp
  | a :: L, h => by
    have ih := tb_flat B L fun b hb => h b (List.mem_cons_of_mem _ hb)
    have ha := h a (by simp)
    rw [List.flatten_cons, List.length_append, List.length_cons, Nat.mul_add]
    omega
theorem table_len {x : MusicT} {l : List CueT} (h : okBoth x l = true) : (tableC x l).length ≤ 2000 := by
  have hl := both_len h
  have := tb_flat 54 (l.map (lineC x)) fun a ha => by
    obtain ⟨c, hc, rfl⟩ := List.mem_map.1 ha
    exact (line_facts h hc).2.2.2
  rw [List.length_map] at this
  unfold tableC
  omega
theorem table_take {x : MusicT} {l : List CueT} {k : Nat} (hk : k < l.length) : tableC x (l.take (k + 1)) = tableC x (l.take k) ++ lineC x l[k] := by
  unfold tableC
  rw [List.take_add_one, List.getElem?_eq_getElem hk, List.map_append, List.flatten_append]
  simp
theorem part_len {x : MusicT} {l : List CueT} (h : okBoth x l = true) (k : Nat) : (tableC x (l.take k)).length ≤ 2000 := by
  have hl := both_len h
  have := tb_flat 54 ((l.take k).map (lineC x)) fun a ha => by
    obtain ⟨c, hc, rfl⟩ := List.mem_map.1 ha
    exact (line_facts h (List.mem_of_mem_take hc)).2.2.2
  rw [List.length_map, List.length_take] at this
  unfold tableC
  omega
theorem spec_TimetableText (x : MusicT) (l : List CueT) (h : CueLens x l) : F_spec_TimetableText x l = some (tableAns x l) := by
  unfold F_spec_TimetableText tableAns
  rw [spec_tiGood x l h, Option.bind_some]
  cases hb : okBoth x l with
  | false => simp
  | true =>
    have hm := both_music hb
    have hl := both_len hb
    rw [if_neg (by simp), spec_tiTimes x l hm h.hl, Option.bind_some, if_pos rfl]
    have hs := (loopS (F_spec_TimetableText_L1 (timesC x l) l) l.length (fun k _ => tableC x (l.take (k + 1))) (fun s => some (s, true)) (by omega) (fun k s => s = tableC x (l.take k)) [] (by simp [tableC]) (fun k s hk hi => rfl) (fun m k s hk hi => ?_) (fun m s hi => ?_))
    · rw [hs.1, hs.2, List.take_length]
    · subst hi
      obtain ⟨tb, tl, dl, ll⟩ := line_facts hb (List.getElem_mem hk)
      obtain ⟨c0, c1, cn, cl⟩ := cue_in hb (List.getElem_mem hk)
      have pl := part_len hb k
      have e : (timesC x l)[k]? = some (timeC x l[k].1) := by
        unfold timesC
        rw [List.getElem?_map, List.getElem?_eq_getElem hk]
        rfl
      have el : (timesC x l).length = l.length := by unfold timesC; simp
      rw [F_spec_TimetableText_L1, if_pos (by rw [el]; simp; omega), idx_nat, e, Option.bind_some, idx_lt hk, Option.bind_some, Option.bind_some, spec_tiText (by omega), Option.bind_some, tm_app (by simp; omega), Option.bind_some, spec_l1Num (by omega) (by omega), Option.bind_some,
        tm_app (by simp; omega), Option.bind_some, tm_app (by simp; omega), Option.bind_some, tm_app (by simp; omega), Option.bind_some, tm_app (by simp; omega), Option.bind_some, tm_app (by simp; omega), Option.bind_some, w64_succ (by omega), table_take hk]
      unfold lineC
      simp only [List.append_assoc, List.cons_append, List.nil_append]
    · subst hi
      have el : (timesC x l).length = l.length := by unfold timesC; simp
      rw [F_spec_TimetableText_L1, if_neg (by rw [el]; simp)]
theorem tb_bwr {t u : List UInt8} (h : t.length + u.length ≤ 1073741824) : bwr (ints t) u = some (ints (t ++ u)) := by
  have e : ∀ t : List UInt8, (ints t).length = t.length := fun t => by unfold ints; rw [List.length_map]
  unfold bwr
  rw [e, if_pos (by omega)]
  unfold ints
  rw [List.map_append]
theorem tb_bstr (t : List UInt8) : bstr (ints t) = some t := by
  unfold bstr ints
  rw [if_pos]
  · rw [List.map_map]
    congr 1
    conv => rhs; rw [← List.map_id t]
    apply List.map_congr_left
    intro b _
    show UInt8.ofNat (b.toNat : Int).toNat = b
    rw [Int.toNat_natCast]
    exact UInt8.ofNat_toNat
  · rw [List.all_eq_true]
    intro x hx
    obtain ⟨b, _, rfl⟩ := List.mem_map.1 hx
    have := UInt8.toNat_lt b
    simp
    omega
theorem impl_TimetableText (x : MusicT) (l : List CueT) (h : CueLens x l) : F_impl_TimetableText x l = some (tableAns x l) := by
  unfold F_impl_TimetableText tableAns
  rw [impl_haveCues x l h, Option.bind_some]
  cases hb : okBoth x l with
  | false => simp
  | true =>
    have hm := both_music hb
    have hl := both_len hb
    rw [if_neg (by simp), if_pos rfl]
    have hs := (loopS (F_impl_TimetableText_L1 l x) l.length (fun k _ => ints (tableC x (l.take (k + 1)))) (fun s => Option.bind (bstr s) fun u => some (u, true)) (by omega) (fun k s => s = ints (tableC x (l.take k))) [] (by simp [tableC, ints]) (fun k s hk hi => rfl) (fun m k s hk hi => ?_) (fun m s hi => ?_))
    · rw [hs.1, hs.2, List.take_length, tb_bstr, Option.bind_some]
    · subst hi
      obtain ⟨tb, tl, dl, ll⟩ := line_facts hb (List.getElem_mem hk)
      obtain ⟨c0, c1, cn, cl⟩ := cue_in hb (List.getElem_mem hk)
      have pl := part_len hb k
      rw [F_impl_TimetableText_L1, if_pos (by simp; omega), idx_lt hk, Option.bind_some, impl_timeOf x hm, Option.bind_some, impl_timeText (by omega), Option.bind_some, tm_app (by simp; omega), Option.bind_some, tm_itoa (by omega) (by omega), Option.bind_some,
        tm_app (by simp; omega), Option.bind_some, tm_app (by simp; omega), Option.bind_some, tm_app (by simp; omega), Option.bind_some, tm_app (by simp; omega), Option.bind_some, tb_bwr (by simp; omega), Option.bind_some, w64_succ (by omega), table_take hk]
      unfold lineC
      simp only [List.append_assoc, List.cons_append, List.nil_append]
    · subst hi
      rw [F_impl_TimetableText_L1, if_neg (by simp)]
end Go.Proofs.YtejhnpimhjmpdaaDoor
/-
  THE LAW FnCueTexts, PLAIN: it answers true.
-/
set_option linter.unusedSimpArgs false
set_option linter.unusedVariables false
namespace Go.Proofs.YtejhnpimhjmpdaaDoor
open Go
theorem q_Cues' (x : List CueT) (hs : x.length ≤ 1048576) : F_laws_qCues x x = some true :=
  eqL (F_laws_qCues_L1 x x) x (fun u v => some (eqv_Cue u v)) (fun _ _ => rfl) (S := anyG) (fun u _ => by simp [eqv_Cue]) ⟨hs, fun _ _ => trivial⟩
theorem q_Music (x : MusicT) (hs : x.length ≤ 1048576) : F_laws_qMusic x x = some true :=
  eqL (F_laws_qMusic_L1 x x) x (fun u v => some (eqv_Measure u v)) (fun _ _ => rfl) (S := anyG) (fun u _ => by simp [eqv_Measure]) ⟨hs, fun _ _ => trivial⟩
def areAns (x : MusicT) (l : List CueT) : Bool × Bool := if okMusic x then (okCues x l, true) else (false, false)
theorem spec_AreCues' (x : MusicT) (l : List CueT) (h : CueLens x l) : F_spec_AreCues x l = some (areAns x l) := by
  unfold F_spec_AreCues areAns
  rw [spec_muGood x h.hx, Option.bind_some, spec_tiCues x l h.hx h.hl' h.hn]
  cases okMusic x <;> rfl
theorem impl_AreCues' (x : MusicT) (l : List CueT) (h : CueLens x l) : F_impl_AreCues x l = some (areAns x l) := by
  unfold F_impl_AreCues areAns
  rw [impl_IsMusic x h.hx, Option.bind_some, impl_areCues x l h.hx h.hl' h.hn]
  cases okMusic x <;> rfl
/-! what valid cues are -/
theorem cues_iff (x : MusicT) (l : List CueT) : okCues x l = true ↔ l.length ≤ 30 ∧ ∀ (k : Nat) (c : CueT), l[k]? = some c → (0 ≤ c.1 ∧ c.1 ≤ w64 (totC x - 1)) ∧ okName c.2 = true ∧ (∀ d, 0 < k → l[k - 1]? = some d → d.1 < c.1) ∧ ∀ d ∈ l.take k, d.2 ≠ c.2 := by
  have hcue : ∀ (k : Nat) (c : CueT), l[k]? = some c → (cueAt (totC x) l k = true ↔ (0 ≤ c.1 ∧ c.1 ≤ w64 (totC x - 1)) ∧ okName c.2 = true ∧ (∀ d, 0 < k → l[k - 1]? = some d → d.1 < c.1) ∧ ∀ d ∈ l.take k, d.2 ≠ c.2) := by
    intro k c hc
    have hlt : k < l.length := by
      rcases Nat.lt_or_ge k l.length with h | h
      · exact h
      · rw [List.getElem?_eq_none h] at hc; simp at hc
    have hp : l[k - 1]? = some (l[k - 1]'(by omega)) := List.getElem?_eq_getElem (by omega)
    unfold cueAt
    rw [hc]
    simp only [hp, Bool.and_eq_true, okIn_iff', Bool.or_eq_true, decide_eq_true_eq, List.all_eq_true, Bool.not_eq_true', decide_eq_false_iff_not]
    constructor
    · rintro ⟨⟨⟨h1, h2⟩, h3⟩, h4⟩
      refine ⟨h1, h2, fun d h0 hd => ?_, h4⟩
      cases hd
      rcases h3 with h3 | h3
      · omega
      · exact h3
    · rintro ⟨h1, h2, h3, h4⟩
      refine ⟨⟨⟨h1, h2⟩, ?_⟩, h4⟩
      rcases Nat.eq_zero_or_pos k with h | h
      · exact Or.inl h
      · exact Or.inr (h3 _ h rfl)
  unfold okCues
  rw [Bool.and_eq_true, List.all_eq_true, decide_eq_true_eq]
  constructor
  · rintro ⟨h, hl⟩
    refine ⟨hl, fun k c hc => (hcue k c hc).1 (h k (List.mem_range.2 ?_))⟩
    rcases Nat.lt_or_ge k l.length with h | h
    · exact h
    · rw [List.getElem?_eq_none h] at hc; simp at hc
  · rintro ⟨hl, h⟩
    refine ⟨fun k hk => ?_, hl⟩
    have hk' := List.mem_range.1 hk
    have e : l[k]? = some l[k] := List.getElem?_eq_getElem hk'
    exact (hcue k _ e).2 (h k _ e)
/-! cues after a repetition -/
theorem later_ok {x : MusicT} {l : List CueT} {a b n : Int} (hb : okBoth x l = true) (hr : (repAns x a b n).2 = true) :
    okCues (longerM x a.toNat b.toNat n.toNat) (l.map (laterC (totC (x.take (b.toNat + 1))) (w64 (w64 (n - 1) * totC (midOf x a.toNat b.toNat))))) = true ∧ 0 ≤ w64 (w64 (n - 1) * totC (midOf x a.toNat b.toNat)) ∧ w64 (w64 (n - 1) * totC (midOf x a.toNat b.toNat)) ≤ 480 := by
  obtain ⟨g1, g2, g3, g4⟩ := rep_of hr
  obtain ⟨hm, ea, eb, hab, hbl⟩ := range_of g1
  have hadd := added_counts hr
  have hml := music_len hm
  have hml2 := music_len g3
  have s1 := totC_eq hml2.2.2 (by omega)
  have s2 := totC_eq hml.2.2 (by omega)
  have s3 := totC_eq (all_mid hml.2.2 a.toNat b.toNat) (by unfold midOf; simp; omega)
  have hmid : (midOf x a.toNat b.toNat).length ≤ 40 := by unfold midOf; simp; omega
  rw [okIn_iff'] at g2
  have p0 : 0 ≤ (n - 1) * totC (midOf x a.toNat b.toNat) := Int.mul_nonneg (by omega) (by omega)
  have p1 : (n - 1) * totC (midOf x a.toNat b.toNat) ≤ 9 * 480 := Int.mul_le_mul (by omega) (by omega) (by omega) (by omega)
  have e1 : w64 (w64 (n - 1) * totC (midOf x a.toNat b.toNat)) = (n - 1) * totC (midOf x a.toNat b.toNat) := by
    rw [w64_eq (x := n - 1) (by omega) (by omega), w64_eq (by omega) (by omega)]
  rw [w64_eq (x := totC (longerM x a.toNat b.toNat n.toNat) - totC x) (by omega) (by omega)] at hadd
  refine ⟨?_, by rw [e1]; exact p0, by rw [← hadd]; omega⟩
  have hbc : okCues x l = true := by unfold okBoth at hb; rw [Bool.and_eq_true] at hb; exact hb.2
  obtain ⟨hl30, hc⟩ := (cues_iff x l).1 hbc
  rw [w64_eq (x := totC x - 1) (by omega) (by omega)] at hc
  generalize hD : w64 (w64 (n - 1) * totC (midOf x a.toNat b.toNat)) = D at *
  generalize totC (x.take (b.toNat + 1)) = E at *
  have hD0 : 0 ≤ D := by rw [e1]; exact p0
  have hlat : ∀ c : CueT, (laterC E D c).2 = c.2 := by intro c; unfold laterC; split <;> rfl
  have hlat1 : ∀ c : CueT, 0 ≤ c.1 → c.1 ≤ 480 → (laterC E D c).1 = if E ≤ c.1 then c.1 + D else c.1 := by
    intro c h0 h1
    unfold laterC
    by_cases hq : E ≤ c.1
    · rw [if_pos hq, if_pos hq]
      exact w64_eq (by omega) (by omega)
    · rw [if_neg hq, if_neg hq]
  rw [cues_iff]
  refine ⟨by rw [List.length_map]; exact hl30, fun k c' hk => ?_⟩
  rw [List.getElem?_map] at hk
  obtain ⟨c, hck, rfl⟩ : ∃ c, l[k]? = some c ∧ laterC E D c = c' := by
    cases hq : l[k]? with
    | none => rw [hq] at hk; simp at hk
    | some c => rw [hq] at hk; exact ⟨c, rfl, Option.some.inj hk⟩
  obtain ⟨h1, h2, h3, h4⟩ := hc k c hck
  rw [w64_eq (by omega) (by omega)]
  refine ⟨?_, by rw [hlat]; exact h2, fun d' h0 hd' => ?_, fun d' hd' => ?_⟩
  · rw [hlat1 c (by omega) (by omega)]
    split <;> omega
  · rw [List.getElem?_map] at hd'
    obtain ⟨d, hdk, rfl⟩ : ∃ c, l[k - 1]? = some c ∧ laterC E D c = d' := by
      cases hq : l[k - 1]? with
      | none => rw [hq] at hd'; simp at hd'
      | some c => rw [hq] at hd'; exact ⟨c, rfl, Option.some.inj hd'⟩
    have hlt := h3 d h0 hdk
    have hd1 := (hc (k - 1) d hdk).1
    rw [hlat1 c (by omega) (by omega), hlat1 d (by omega) (by omega)]
    split <;> split <;> omega
  · rw [← List.map_take] at hd'
    obtain ⟨d, hd, rfl⟩ := List.mem_map.1 hd'
    rw [hlat, hlat]
    exact h4 d hd
/-! an added cue in its place -/
theorem added_at (l : List CueT) (c : CueT) : (added l c)[addAt l c]? = some c ∧ nextAt (added l c) c.1 = addAt l c ∧ (added l c).length = l.length + 1 ∧ addAt l c ≤ l.length := by
  have hle := takeWhile_len (fun d : CueT => decide (d.1 < c.1)) l
  have ht : l.take (addAt l c) = l.takeWhile fun d => decide (d.1 < c.1) := (List.prefix_iff_eq_take.1 (List.takeWhile_prefix _)).symm
  have hlen : (l.take (addAt l c)).length = addAt l c := by rw [List.length_take]; unfold addAt; omega
  refine ⟨?_, ?_, ?_, hle⟩
  · unfold added
    rw [List.append_assoc, List.getElem?_append_right (by omega), hlen, Nat.sub_self]
    rfl
  · unfold nextAt added
    rw [List.append_assoc, List.takeWhile_append_of_pos, List.length_append, hlen]
    · rw [List.singleton_append, List.takeWhile_cons_of_neg (by simp)]
      rfl
    · intro d hd
      rw [ht] at hd
      exact List.all_eq_true.1 List.all_takeWhile d hd
  · unfold added
    rw [List.length_append, List.length_append, hlen, List.length_drop, List.length_singleton]
    unfold addAt
    omega
/-! the lines of a timetable -/
theorem count_none {l : List UInt8} (h : ∀ b ∈ l, b.toNat ≠ 10) : l.count 10 = 0 := List.count_eq_zero.2 fun hm => h 10 hm rfl
theorem line_count {x : MusicT} {l : List CueT} (h : okBoth x l = true) {c : CueT} (hc : c ∈ l) : (lineC x c).count 10 = 1 := by
  obtain ⟨c0, c1, cn, cl⟩ := cue_in h hc
  obtain ⟨tb, _, _, _⟩ := line_facts h hc
  have h1 : (timeT (timeC x c.1)).count 10 = 0 := count_none fun b hb => by
    have := timeT_mem (t := timeC x c.1) (by omega) hb
    omega
  have h2 : (Lib.decDigits c.1.toNat).count 10 = 0 := count_none fun b hb => by
    have := tm_mem (k := 2) (u := c.1.toNat) (by omega) hb
    omega
  have h3 : c.2.count 10 = 0 := count_none fun b hb => by
    unfold okName at cn
    rw [Bool.and_eq_true] at cn
    have := List.all_eq_true.1 cn.1 b hb
    simp only [Bool.and_eq_true, decide_eq_true_eq] at this
    omega
  unfold lineC
  rw [List.count_append, List.count_cons, List.count_append, List.count_cons, List.count_append, h1, h2, h3]
  decide
theorem table_count {x : MusicT} {l : List CueT} (h : okBoth x l = true) : (tableC x l).count 10 = l.length := by
  have key : ∀ m : List CueT, (∀ c ∈ m, (lineC x c).count 10 = 1) → ((m.map (lineC x)).flatten).count 10 = m.length := by
    intro m
    induction m with
    | nil => intro _; rfl
    | cons c m ih =>
      intro hm
      rw [List.map_cons, List.flatten_cons, List.count_append, hm c (by simp), ih fun d hd => hm d (by simp [hd]), List.length_cons]
      omega
  exact key l fun c hc => line_count h hc
section
variable (c : List Int) (h : Cu c 100000000 0)
include h
theorem draw_TimetableText : Tot (F_spec_DrawTimetableText c) fun v => drawnCues v.1 v.2 := by
  unfold F_spec_DrawTimetableText
  refine Tot.bind (draw_AreCues c h) fun u hu => Tot.some hu
theorem draw_AddCue : Tot (F_spec_DrawAddCue c) fun v => drawnCues v.1 v.2.1 ∧ v.2.2.2.length ≤ 9 := by
  unfold F_spec_DrawAddCue
  refine Tot.bind (cues_ok (c, 0, 0) h (by omega)) fun u hu => ?_
  have := hu.1
  refine Tot.bind (countOf_ok (c, u.2.2.2.1, u.2.2.2.2) u.1 (by omega) hu.2.2.2 (by omega)) fun v hv => ?_
  exact Tot.bind (of_ok (c, v.2.2.1, v.2.2.2) _ (fun s => s.length ≤ 9) hv.2.2 (by omega) (by simp) (by decide)) fun w hw => Tot.some ⟨⟨hu.1, hu.2.1⟩, hw.1⟩
theorem draw_TimeText : Tot (F_spec_DrawTimeText c) fun _ => True := by
  unfold F_spec_DrawTimeText
  refine Tot.bind (showTime_ok (c, 0, 0) h (by omega)) fun u hu => Tot.some trivial
omit h in
theorem measureOf_ok (x : Cur) (l : MusicT) {m : Int} (h : Cu x.1 m x.2.1) (hm : 20 ≤ m) : Tot (F_spec_l1Cur__measureOf__mut__box x l) (Pk x.1 (m - 20) fun _ => True) := by
  unfold F_spec_l1Cur__measureOf__mut__box
  refine Tot.bind (pick_ok x _ h (by omega)) fun u3 h3 => ?_
  refine Tot.bind (pick_ok (x.1, u3.2.2.1, u3.2.2.2) _ h3.2.2 (by omega)) fun u9 h9 => ?_
  refine Tot.bind (pick_ok (x.1, u9.2.2.1, u9.2.2.2) _ h9.2.2 (by show 2 ≤ m - 2 - 2; omega)) fun u15 h15 => ?_
  exact Tot.some ⟨trivial, rfl, h15.2.2.mono (by omega) (by show _ ≤ m - 2 - 2 - 2; omega)⟩
theorem draw_CuesAfterRepeat : Tot (F_spec_DrawCuesAfterRepeat c) fun v => drawnCues v.1 v.2.1 := by
  unfold F_spec_DrawCuesAfterRepeat
  refine Tot.bind (cues_ok (c, 0, 0) h (by omega)) fun u9 h9 => ?_
  have c9 : Cu c 90000000 u9.2.2.2.1 := h9.2.2.2.mono (by omega) (by show _ ≤ (100000000 : Int) - 4000; omega)
  refine Tot.bind (measureOf_ok (c, u9.2.2.2.1, u9.2.2.2.2) u9.1 c9 (by omega)) fun u20 h20 => ?_
  refine Tot.bind (measureOf_ok (c, u20.2.2.1, u20.2.2.2) u9.1 h20.2.2 (by omega)) fun u26 h26 => ?_
  have c26 : Cu c 80000000 u26.2.2.1 := h26.2.2.mono (by omega) (by show _ ≤ (90000000 : Int) - 20 - 20; omega)
  refine Tot.bind (amongT (c, u26.2.2.1, u26.2.2.2) _ c26 (by omega) (by simp)) fun u39 h39 => ?_
  refine Tot.bind (amongT (c, u39.2.2.1, u39.2.2.2) _ h39.2.2 (by omega) (by simp)) fun u51 h51 => ?_
  refine Tot.bind (one_ok (c, u51.2.2.1, u51.2.2.2) _ h51.2.2 (by show (2 : Int) ≤ 80000000 - 2 - 2; omega)) fun u59 h59 => ?_
  have fin : ∀ p q r : Int, Tot (some (u9.1, u9.2.1, p, q, r)) fun v => drawnCues v.1 v.2.1 := fun p q r => Tot.some ⟨h9.1, h9.2.1⟩
  refine Tot.ite (fun _ => fin _ _ _) fun _ => ?_
  have hle : ∀ p q : Int, ∃ r, F_spec_l1Least p q = some r := fun p q => by unfold F_spec_l1Least; split <;> exact ⟨_, rfl⟩
  have hmo : ∀ p q : Int, ∃ r, F_spec_l1Most p q = some r := fun p q => by unfold F_spec_l1Most; split <;> exact ⟨_, rfl⟩
  obtain ⟨r1, e1⟩ := hle u20.1 u26.1
  obtain ⟨r2, e2⟩ := hmo u20.1 u26.1
  exact Tot.bindE e1 (Tot.bindE e2 (fin _ _ _))
end
def clockAns (t : Int) : List UInt8 × Bool := if okIn t 0 1000000 then (timeT t, true) else ([], false)
theorem spec_TimeText' (t : Int) : F_spec_TimeText t = some (clockAns t) := by
  unfold F_spec_TimeText clockAns F_spec_tiTime
  rw [spec_l1In, Option.bind_some, Option.bind_some]
  cases h : okIn t 0 1000000 with
  | false => simp
  | true =>
    have := okIn_iff'.1 h
    rw [if_neg (by simp), spec_tiText (by omega)]
    rfl
theorem impl_TimeText' (t : Int) : F_impl_TimeText t = some (clockAns t) := by
  unfold F_impl_TimeText clockAns F_impl_isTime
  rw [impl_within, Option.bind_some, Option.bind_some]
  cases h : okIn t 0 1000000 with
  | false => simp
  | true =>
    have := okIn_iff'.1 h
    rw [if_neg (by simp), impl_timeText (by omega)]
    rfl
theorem P_laws_FnCueTexts (x0 x1 : List Int) (g0 : (allG inU8) x0) (g1 : (allG inU8) x1) : F_laws_FnCueTexts x0 x1 = some true := by
  refine Tot.of ?_
  unfold F_laws_FnCueTexts
  refine Tot.ite (fun _ => Tot.some rfl) fun _ => ?_
  refine Tot.bind (draw_TimetableText x0 (Cu.start g0)) fun u7 h7 => ?_
  refine Tot.bindE (impl_TimetableText _ _ h7.lens) (Tot.bindE (spec_TimetableText _ _ h7.lens) ?_)
  refine Tot.bind (draw_AddCue x1 (Cu.start g1)) fun u32 h32 => ?_
  refine Tot.bindE (impl_AddCue _ _ _ h32.1.lens (by have := h32.2; omega)) (Tot.bindE (spec_AddCue _ _ _ h32.1.lens (by have := h32.2; omega)) ?_)
  refine Tot.bind (draw_CuesAfterRepeat x1 (Cu.start g1)) fun u71 h71 => ?_
  refine Tot.bindE (impl_CuesAfterRepeat _ _ _ _ _ h71.lens) (Tot.bindE (spec_CuesAfterRepeat _ _ _ _ _ h71.lens) ?_)
  refine Tot.bind (draw_TimeText x1 (Cu.start g1)) fun u100 _ => ?_
  refine Tot.bindE (impl_TimeText' _) (Tot.bindE (spec_TimeText' _) ?_)
  refine Tot.bind (draw_AreCues x1 (Cu.start g1)) fun u121 h121 => ?_
  refine Tot.bindE (impl_AreCues' _ _ h121.lens) (Tot.bindE (spec_AreCues' _ _ h121.lens) ?_)
  have l71 := h71.2.1
  have hadd : (addAns u32.1 u32.2.1 u32.2.2).1.length ≤ 30 := by
    unfold addAns
    split
    · exact (ifCues_ok _ _).1
    · simp
  have haft := (afterAns_ok u71.1 u71.2.1 u71.2.2.1 u71.2.2.2.1 u71.2.2.2.2).1
  refine Tot.j1 (fun y => y = false) (fun y hy => ?_) fun k hk => ?_
  rotate_left
  · rw [if_neg (by simp), if_neg (by simp), if_neg (by simp)]
    refine Tot.bindE (q_Cues' _ (by omega)) ?_
    rw [if_neg (by simp), if_neg (by simp)]
    refine Tot.bindE (q_Cues' _ (by omega)) ?_
    rw [if_neg (by simp), if_neg (by simp), if_neg (by simp), if_neg (by simp)]
    exact hk _ (by simp)
  subst hy
  simp only [Bool.false_eq_true, if_false]
  refine Tot.j1 (fun y => y = false) (fun y hy => ?_) fun k hk => ?_
  rotate_left
  · refine Tot.ite (fun h5 => ?_) fun _ => hk _ rfl
    unfold clockAns at h5 ⊢
    cases hi : okIn u100 0 1000000 with
    | false => rw [hi] at h5; simp at h5
    | true =>
      have := timeT_len (t := u100) (by have := okIn_iff'.1 hi; omega)
      rw [if_pos rfl]
      exact hk _ (by simp; omega)
  subst hy
  simp only [Bool.false_eq_true, if_false]
  refine Tot.j0 (Tot.j0 ?_ fun k hk => ?_) fun k hk => ?_
  · -- the lines
    unfold tableAns
    cases hb : okBoth u7.1 u7.2 with
    | false => exact Tot.some rfl
    | true =>
      simp only [if_true, Bool.not_true, Bool.false_eq_true, if_false]
      have hl := table_len hb
      refine ⟨true, ?_, rfl⟩
      have hs := (loopS (F_laws_FnCueTexts_L2 (tableC u7.1 u7.2, true) u7) (tableC u7.1 u7.2).length (fun k _ => ((((tableC u7.1 u7.2).take (k + 1)).count 10 : Nat) : Int)) (fun s => some (s == (List.length u7.2 : Int))) (by omega)
        (fun k s => s = ((((tableC u7.1 u7.2).take k).count 10 : Nat) : Int)) 0 (by simp) (fun k s hk hi => rfl) (fun m k s hk hi => ?_) (fun m s hi => ?_))
      · rw [hs.1, hs.2, List.take_length, table_count hb]
        simp
      · subst hi
        have hle : ((tableC u7.1 u7.2).take k).count 10 ≤ ((tableC u7.1 u7.2).take k).length := List.count_le_length
        rw [List.length_take] at hle
        rw [F_laws_FnCueTexts_L2, if_pos (by simp; omega)]
        unfold jK1
        dsimp only
        rw [idx_lt hk, Option.bind_some, w64_succ (k := k) (by omega), List.take_add_one, List.getElem?_eq_getElem hk, List.count_append]
        by_cases hq : (tableC u7.1 u7.2)[k] = 10
        · rw [hq, if_pos (by decide), w64_succ (by omega)]
          rfl
        · have hne : (((tableC u7.1 u7.2)[k].toNat : Nat) : Int) ≠ 10 := fun e => hq (UInt8.toNat_inj.1 (by show _ = 10; omega))
          rw [if_neg (by simpa using hne)]
          have : List.count 10 (some (tableC u7.1 u7.2)[k]).toList = 0 := by
            rw [Option.toList_some, List.count_singleton, if_neg (by simpa using hq)]
          rw [this]
          rfl
      · rw [F_laws_FnCueTexts_L2, if_neg (by simp)]
  · -- after a repetition
    unfold afterAns
    cases hbr : (okBoth u71.1 u71.2.1 && (repAns u71.1 u71.2.2.1 u71.2.2.2.1 u71.2.2.2.2).2) with
    | false => exact hk
    | true =>
      rw [Bool.and_eq_true] at hbr
      obtain ⟨hb, hr⟩ := hbr
      obtain ⟨g1, g2, g3, g4⟩ := rep_of hr
      obtain ⟨lok, d0, d1⟩ := later_ok hb hr
      have hml := music_len g3
      have hn : ∀ {c : CueT}, c ∈ u71.2.1 → 0 ≤ c.1 ∧ c.1 ≤ 480 ∧ okName c.2 = true ∧ c.2.length ≤ 8 := fun hc => cue_in hb hc
      have h30 := both_len hb
      simp only [if_true]
      refine Tot.bindE (impl_RepeatMeasures _ _ _ _ h71.lens.hx) (Tot.bindE (spec_RepeatMeasures _ _ _ _ h71.lens.hx) ?_)
      rw [g4]
      have hlat : ∀ (e d : Int) (c : CueT), (laterC e d c).2 = c.2 := by intro e d c; unfold laterC; split <;> rfl
      have lens2 : ∀ e d : Int, CueLens (longerM u71.1 u71.2.2.1.toNat u71.2.2.2.1.toNat u71.2.2.2.2.toNat) (u71.2.1.map (laterC e d)) := fun e d => ⟨by omega, by rw [List.length_map]; omega, fun c hc => by
        obtain ⟨c', hc', rfl⟩ := List.mem_map.1 hc
        rw [hlat]
        have := (hn hc').2.2.2
        omega⟩
      refine Tot.bindE (impl_AreCues' _ _ (lens2 _ _)) ?_
      unfold areAns
      rw [g3, lok]
      refine Tot.j1 (fun y => y = false) (fun y hy => ?_) fun k2 hk2 => ?_
      rotate_left
      · rw [hr]
        simp only [if_true, Bool.not_true, Bool.false_eq_true, if_false]
        refine Tot.bindE (q_Music _ (by omega)) ?_
        simp only [Bool.not_true, Bool.false_eq_true, if_false]
        exact hk2 _ (by simp)
      subst hy
      simp only [Bool.false_eq_true, if_false]
      obtain ⟨v, hv, hv2⟩ := hk
      refine ⟨v, ?_, hv2⟩
      rw [loopR (F_laws_FnCueTexts_L1 _ u71 k) u71.2.1.length (fun _ => true) k none (by omega) (fun m i hi => ?_) (fun m => by rw [F_laws_FnCueTexts_L1, if_neg (by simp)])]
      · rw [if_pos (by simp)]; exact hv
      · have hc0 := hn (List.getElem_mem hi)
        have hi2 : i < (u71.2.1.map (laterC (totC (u71.1.take (u71.2.2.2.1.toNat + 1))) (w64 (w64 (u71.2.2.2.2 - 1) * totC (midOf u71.1 u71.2.2.1.toNat u71.2.2.2.1.toNat))))).length := by rw [List.length_map]; exact hi
        rw [F_laws_FnCueTexts_L1, if_pos (by simp; omega), idx_lt hi2, Option.bind_some, List.getElem_map]
        unfold jK1
        dsimp only
        rw [idx_lt hi, Option.bind_some, hlat, if_neg (by simp), Option.bind_some]
        have : ¬ (laterC (totC (u71.1.take (u71.2.2.2.1.toNat + 1))) (w64 (w64 (u71.2.2.2.2 - 1) * totC (midOf u71.1 u71.2.2.1.toNat u71.2.2.2.1.toNat))) u71.2.1[i]).1 < u71.2.1[i].1 := by
          unfold laterC
          split
          · show ¬ w64 _ < _
            rw [w64_eq (by omega) (by omega)]
            omega
          · omega
        rw [if_neg (by simpa using this), w64_succ (by omega), if_pos rfl]
  · -- an added cue
    unfold addAns
    cases hb : okBoth u32.1 u32.2.1 with
    | false => exact hk
    | true =>
      have hm := both_music hb
      have h30 := both_len hb
      simp only [if_true]
      unfold ifCues
      cases hc : okCues u32.1 (added u32.2.1 u32.2.2) with
      | false => exact hk
      | true =>
        obtain ⟨a1, a2, a3, a4⟩ := added_at u32.2.1 u32.2.2
        have hl2 := lens_added h32.1.lens u32.2.2 (by have := h32.2; omega) h30
        have hb2 : okBoth u32.1 (added u32.2.1 u32.2.2) = true := by unfold okBoth; rw [hm, hc]; rfl
        obtain ⟨hl30, hcs⟩ := (cues_iff _ _).1 hc
        have hin : okIn u32.2.2.1 0 (w64 (totC u32.1 - 1)) = true := okIn_iff'.2 (hcs _ _ a1).1
        simp only [if_true]
        refine Tot.bindE (impl_AreCues' _ _ hl2) (Tot.bindE (impl_NextCue _ _ _ hl2) (Tot.bindE (spec_NextCue _ _ _ hl2) ?_))
        unfold areAns nextAns
        rw [hm, hc, hb2, hin, a2, if_pos (show addAt u32.2.1 u32.2.2 < (added u32.2.1 u32.2.2).length by omega)]
        refine Tot.j1 (fun y => y = false) (fun y hy => by subst hy; simpa using hk) fun k2 hk2 => ?_
        simp only [if_true, Bool.and_self, Bool.not_true, Bool.false_eq_true, if_false]
        rw [if_neg (by simp)]
        refine Tot.bindE (by rw [idx_nat]; exact a1) ?_
        rw [if_neg (by simp [eqv_Cue])]
        exact hk2 _ (by rw [a3, w64_succ (by omega)]; simp)
end Go.Proofs.YtejhnpimhjmpdaaDoor
