/-
  DRAWS, PLAIN: numbers from bytes are there, in their bounds.
-/
import Derived.Test.YtmkignciedkidaaF
import Derived.Test.YtmkignciedkidaaPB
set_option linter.unusedSimpArgs false
set_option linter.unusedVariables false
namespace Go.Proofs.Ytmkignciedkidaa
open Go
/-- There is a value, and it is as told. -/
def Tot {α : Type} (o : Option α) (P : α → Prop) : Prop := ∃ v, o = some v ∧ P v
section
variable {α β : Type}
theorem Tot.some {v : α} {P : α → Prop} (h : P v) : Tot (some v) P := ⟨v, rfl, h⟩
theorem Tot.bind {o : Option α} {f : α → Option β} {P : α → Prop} {Q : β → Prop} (h : Tot o P) (hf : ∀ v, P v → Tot (f v) Q) : Tot (Option.bind o f) Q := by
  obtain ⟨v, rfl, hv⟩ := h
  exact hf v hv
theorem Tot.bindE {o : Option α} {v : α} {f : α → Option β} {Q : β → Prop} (h : o = Option.some v) (hf : Tot (f v) Q) : Tot (Option.bind o f) Q := by
  rw [h]
  exact hf
theorem Tot.mono {o : Option α} {P Q : α → Prop} (h : Tot o P) (hf : ∀ v, P v → Q v) : Tot o Q := by
  obtain ⟨v, h1, hv⟩ := h
  exact ⟨v, h1, hf v hv⟩
theorem Tot.ite {c : Bool} {A B : Option α} {P : α → Prop} (h1 : c = true → Tot A P) (h2 : c = false → Tot B P) : Tot (if c = true then A else B) P := by
  cases c with
  | true => exact h1 rfl
  | false => exact h2 rfl
theorem Tot.j0 {rest : Option β} {body : Option β → Option β} {Q : β → Prop} (hr : Tot rest Q) (hb : ∀ k, Tot k Q → Tot (body k) Q) : Tot (jK0 rest body) Q := hb rest hr
theorem Tot.j1 {A : Type} {rest : A → Option β} {body : (A → Option β) → Option β} {Q : β → Prop} (P : A → Prop) (hr : ∀ a, P a → Tot (rest a) Q) (hb : ∀ k, (∀ a, P a → Tot (k a) Q) → Tot (body k) Q) : Tot (jK1 rest body) Q := hb rest hr
theorem Tot.j2 {A B : Type} {rest : A → B → Option β} {body : (A → B → Option β) → Option β} {Q : β → Prop} (P : A → B → Prop) (hr : ∀ a b, P a b → Tot (rest a b) Q) (hb : ∀ k, (∀ a b, P a b → Tot (k a b) Q) → Tot (body k) Q) : Tot (jK2 rest body) Q := hb rest hr
theorem Tot.of {o : Option Bool} (h : Tot o fun b => b = true) : o = Option.some true := by
  obtain ⟨v, h1, h2⟩ := h
  rw [h1, h2]
theorem Tot.loop {S R : Type} (f : Nat → S → Option R) (μ : S → Nat) (I : S → Prop) (Q : R → Prop) (step : ∀ m s, I s → (∀ s', I s' → μ s' < μ s → Tot (f m s') Q) → Tot (f (m + 1) s) Q) :
    ∀ m s, I s → μ s < m → Tot (f m s) Q := by
  intro m
  induction m with
  | zero => intro s _ h; omega
  | succ m ih => intro s hs h; exact step m s hs fun s' hs' hlt => ih s' hs' (by omega)
end
/-- Bytes, a place in them or behind, and so many steps before it leaves its range. -/
def Cu (c : List Int) (n a : Int) : Prop := (∀ b ∈ c, 0 ≤ b ∧ b ≤ 255) ∧ 0 ≤ a ∧ 0 ≤ n ∧ a + n ≤ 4000000000000000000
theorem Cu.mono {c : List Int} {n m a : Int} (h : Cu c n a) (h0 : 0 ≤ m) (hm : m ≤ n) : Cu c m a := ⟨h.1, h.2.1, h0, by have := h.2.2.2; omega⟩
/-- A value, and the place behind. -/
def Pk {α : Type} (c : List Int) (n : Int) (P : α → Prop) (v : α × List Int × Int × Int) : Prop := P v.1 ∧ v.2.1 = c ∧ Cu c n v.2.2.1
theorem Pk.imp {α : Type} {c : List Int} {n m : Int} {P Q : α → Prop} {v : α × List Int × Int × Int} (h : Pk c n P v) (hp : ∀ r, P r → Q r) (h0 : 0 ≤ m) (hm : m ≤ n) : Pk c m Q v := ⟨hp _ h.1, h.2.1, h.2.2.mono h0 hm⟩
abbrev Cur := List Int × Int × Int
theorem w64_byte {b : Int} (h : 0 ≤ b ∧ b ≤ 255) : w64 b = b := w64_eq (by omega) (by omega)
theorem and_byte (a : Int) : 0 ≤ w64 (andK .u64 a 255) ∧ w64 (andK .u64 a 255) ≤ 255 := by
  have h : andK .u64 a 255 = IntKind.wrap .u64 (((BitVec.ofInt 64 a &&& BitVec.ofInt 64 255).toNat : Nat) : Int) := rfl
  have h2 : (BitVec.ofInt 64 a &&& BitVec.ofInt 64 255).toNat ≤ 255 := by
    rw [BitVec.toNat_and]
    exact Nat.le_trans Nat.and_le_right (by decide)
  rw [h]
  generalize (BitVec.ofInt 64 a &&& BitVec.ofInt 64 255).toNat = v at *
  have e : IntKind.wrap .u64 (v : Int) = v := by
    unfold IntKind.wrap
    simp only [IntKind.bits, IntKind.signed]
    simp
    omega
  rw [e, w64_byte (by omega)]
  omega
theorem next_ok (x : Cur) {m : Int} (h : Cu x.1 m x.2.1) (hm : 1 ≤ m) : Tot (F_spec_l1Cur__next__mut__box x) (Pk x.1 (m - 1) fun r => 0 ≤ r ∧ r ≤ 255) := by
  obtain ⟨h1, h2, h3, h4⟩ := h
  unfold F_spec_l1Cur__next__mut__box jK1
  have e : w64 (x.2.1 + 1) = x.2.1 + 1 := w64_eq (by omega) (by omega)
  have cu : Cu x.1 (m - 1) (x.2.1 + 1) := ⟨h1, by omega, by omega, by omega⟩
  dsimp only
  rw [e]
  have fin : ∀ y : Int, (0 ≤ y ∧ y ≤ 255) → ∀ s1 s2 s3 : Int, Tot (if (decide (x.2.1 + 1 ≤ (List.length x.1 : Int))) = true then some (y, (x.1, x.2.1 + 1, s1)) else some ((w64 (andK .u64 s2 255)), (x.1, x.2.1 + 1, s3))) (Pk x.1 (m - 1) fun r => 0 ≤ r ∧ r ≤ 255) := by
    intro y hy s1 s2 s3
    refine Tot.ite (fun _ => Tot.some ⟨hy, rfl, cu⟩) fun _ => Tot.some ⟨and_byte _, rfl, cu⟩
  refine Tot.ite (fun hc => ?_) fun _ => fin 0 (by omega) _ _ _
  have hlt : x.2.1.toNat < x.1.length := by simp at hc; omega
  refine Tot.bindE (v := x.1[x.2.1.toNat]) (by rw [idx_int h2]; simp [hlt]) ?_
  have hb := h1 _ (List.getElem_mem hlt)
  exact fin _ (by rw [w64_byte hb]; exact hb) _ _ _
theorem pick_ok (x : Cur) (k : Int) {m : Int} (h : Cu x.1 m x.2.1) (hm : 2 ≤ m) : Tot (F_spec_l1Cur__pick__mut__box x k) (Pk x.1 (m - 2) fun r => 0 ≤ r ∧ (r < k ∨ r = 0)) := by
  unfold F_spec_l1Cur__pick__mut__box
  refine Tot.ite (fun _ => Tot.some ⟨⟨by simp, .inr rfl⟩, rfl, h.mono (by omega) (by omega)⟩) fun hk => ?_
  have hk' : 1 < k := by simpa using hk
  refine Tot.bind (next_ok x h (by omega)) fun u hu => ?_
  obtain ⟨hu1, hu2, hu3⟩ := hu
  have fin : ∀ (y a s : Int), 0 ≤ y → Cu x.1 (m - 2) a → Tot (if k = 0 then none else some ((Int.tmod y k), (x.1, a, s))) (Pk x.1 (m - 2) fun r => 0 ≤ r ∧ (r < k ∨ r = 0)) := by
    intro y a s hy ha
    rw [if_neg (by omega)]
    exact Tot.some ⟨⟨Int.tmod_nonneg _ hy, .inl (Int.tmod_lt_of_pos _ (by omega))⟩, rfl, ha⟩
  unfold jK3
  dsimp only
  refine Tot.ite (fun _ => ?_) fun _ => fin _ _ _ hu1.1 (hu3.mono (by omega) (by omega))
  refine Tot.bind (next_ok (x.1, u.2.2.1, u.2.2.2) hu3 (by omega)) fun v hv => ?_
  obtain ⟨hv1, hv2, hv3⟩ := hv
  refine fin _ _ _ ?_ (hv3.mono (by omega) (by omega))
  rw [w64_eq (x := u.1 * 256) (by omega) (by omega), w64_eq (by omega) (by omega)]
  omega
theorem one_ok (x : Cur) (k : Int) {m : Int} (h : Cu x.1 m x.2.1) (hm : 2 ≤ m) : Tot (F_spec_l1Cur__one__mut__box x k) (Pk x.1 (m - 2) fun _ => True) := by
  unfold F_spec_l1Cur__one__mut__box
  refine Tot.bind (pick_ok x k h hm) fun u hu => Tot.some ⟨trivial, rfl, hu.2.2⟩
theorem idx_pick {α : Type} (l : List α) {r : Int} (hl : l ≠ []) (h : 0 ≤ r ∧ (r < (l.length : Int) ∨ r = 0)) : ∃ v, idx l r = some v ∧ v ∈ l ∧ r.toNat < l.length := by
  have hpos : 0 < l.length := List.length_pos_iff.2 hl
  have hlt : r.toNat < l.length := by omega
  exact ⟨l[r.toNat], by rw [idx_int h.1]; simp [hlt], List.getElem_mem hlt, hlt⟩
theorem among_ok (x : Cur) (l : List Int) (P : Int → Prop) {m : Int} (h : Cu x.1 m x.2.1) (hm : 2 ≤ m) (hl : l ≠ []) (hp : ∀ v ∈ l, P v) : Tot (F_spec_l1Cur__among__mut__box x l) (Pk x.1 (m - 2) P) := by
  unfold F_spec_l1Cur__among__mut__box
  refine Tot.bind (pick_ok x _ h hm) fun u hu => ?_
  obtain ⟨v, hv, hmem, _⟩ := idx_pick l hl hu.1
  exact Tot.bindE hv (Tot.some ⟨hp v hmem, rfl, hu.2.2⟩)
theorem amongT (x : Cur) (l : List Int) {m : Int} (h : Cu x.1 m x.2.1) (hm : 2 ≤ m) (hl : l ≠ []) : Tot (F_spec_l1Cur__among__mut__box x l) (Pk x.1 (m - 2) fun _ => True) := among_ok x l _ h hm hl fun _ _ => trivial
end Go.Proofs.Ytmkignciedkidaa
