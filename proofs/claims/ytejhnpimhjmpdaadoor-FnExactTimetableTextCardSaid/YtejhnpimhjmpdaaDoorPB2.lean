import Derived.Test.YtejhnpimhjmpdaaDoorCore0
/-
  PLAIN BASE: lemmas on the words of Core0, on loops with fuel. No program.
-/
set_option linter.unusedSimpArgs false
set_option linter.unusedVariables false
namespace Go.Proofs.YtejhnpimhjmpdaaDoor
open Go
theorem w64_eq {x : Int} (h1 : -9223372036854775808 ≤ x) (h2 : x ≤ 9223372036854775807) : w64 x = x := by
  unfold w64 IntKind.wrap
  simp only [IntKind.bits, IntKind.signed]
  simp only [ge_iff_le, Bool.true_and, decide_eq_true_eq]
  split <;> omega
theorem w64_succ {k : Nat} (h : k < 4611686018427387904) : w64 ((k : Int) + 1) = ((k + 1 : Nat) : Int) := by
  rw [w64_eq (by omega) (by omega)]; omega
theorem idx_nat {α : Type} (l : List α) (k : Nat) : idx l (k : Int) = l[k]? := by unfold idx; simp
theorem FU_gt {n : Nat} (h : n < 4611686018427387904) : n < FU := h
theorem sl_take {α : Type} (l : List α) {k : Nat} (h : k ≤ l.length) : sl l 0 (k : Int) = some (l.take k) := by
  unfold sl
  rw [if_pos (by omega)]
  simp
/-- A loop over the numbers below n that ends early where p says no. -/
theorem loopR {R : Type} (f : Nat → Int → Option R) (n : Nat) (p : Nat → Bool) (rest bad : Option R) (hn : n < 4611686018427387904)
    (hs : ∀ m k, k < n → f (m + 1) (k : Int) = if p k = true then f m ((k + 1 : Nat) : Int) else bad) (he : ∀ m, f (m + 1) (n : Int) = rest) : f FU 0 = if (List.range n).all p = true then rest else bad := by
  have key : ∀ d k m, n - k = d → k ≤ n → n - k < m → f m (k : Int) = if (List.range' k (n - k)).all p = true then rest else bad := by
    intro d
    induction d with
    | zero =>
      intro k m hd hk hm
      have : k = n := by omega
      subst this
      cases m with
      | zero => omega
      | succ m => simp [he]
    | succ d ih =>
      intro k m hd hk hm
      cases m with
      | zero => omega
      | succ m =>
        rw [hs m k (by omega), hd, List.range'_succ, List.all_cons]
        cases hp : p k with
        | false => simp
        | true =>
          simp only [if_true, Bool.true_and]
          rw [ih (k + 1) m (by omega) (by omega) (by omega), show n - (k + 1) = d by omega]
  have := key n 0 FU (by omega) (by omega) (FU_gt (by omega))
  simpa [List.range_eq_range'] using this
theorem range_all {α : Type} (l : List α) (p : Nat → Bool) (q : α → Bool) (h : ∀ k x, l[k]? = some x → p k = q x) : (List.range l.length).all p = l.all q := by
  rw [Bool.eq_iff_iff, List.all_eq_true, List.all_eq_true]
  constructor
  · intro h1 x hx
    obtain ⟨k, hk⟩ := List.getElem?_of_mem hx
    rw [← h k x hk]
    exact h1 k (List.mem_range.2 (List.getElem?_eq_some_iff.1 hk).1)
  · intro h1 k hk
    have hk' := List.mem_range.1 hk
    rw [h k l[k] (by simp [hk'])]
    exact h1 _ (List.getElem_mem hk')
/-- A loop over a list that ends early where q says no. -/
theorem loopL {α R : Type} (f : Nat → Int → Option R) (l : List α) (q : α → Bool) (rest bad : Option R) (hn : l.length < 4611686018427387904)
    (hs : ∀ m k x, k < l.length → l[k]? = some x → f (m + 1) (k : Int) = if q x = true then f m ((k + 1 : Nat) : Int) else bad) (he : ∀ m, f (m + 1) (l.length : Int) = rest) : f FU 0 = if l.all q = true then rest else bad := by
  rw [loopR f l.length (fun k => match l[k]? with | some x => q x | none => true) rest bad hn (fun m k hk => ?_) he, range_all l _ q (fun k x hx => by simp [hx])]
  have hx : l[k]? = some l[k] := by simp [hk]
  rw [hs m k l[k] hk hx]
  simp [hx]
/-- A loop that carries a state through the numbers below n. -/
theorem loopS {R S : Type} (f : Nat → S → Int → Option R) (n : Nat) (step : Nat → S → S) (rest : S → Option R) (hn : n < 4611686018427387904)
    (I : Nat → S → Prop) (s0 : S) (h0 : I 0 s0) (hI : ∀ k s, k < n → I k s → I (k + 1) (step k s))
    (hs : ∀ m k s, k < n → I k s → f (m + 1) s (k : Int) = f m (step k s) ((k + 1 : Nat) : Int)) (he : ∀ m s, I n s → f (m + 1) s (n : Int) = rest s) :
    f FU s0 0 = rest ((List.range n).foldl (fun s k => step k s) s0) ∧ I n ((List.range n).foldl (fun s k => step k s) s0) := by
  have key : ∀ d k m s, n - k = d → k ≤ n → n - k < m → I k s → f m s (k : Int) = rest ((List.range' k (n - k)).foldl (fun s k => step k s) s) ∧ I n ((List.range' k (n - k)).foldl (fun s k => step k s) s) := by
    intro d
    induction d with
    | zero =>
      intro k m s hd hk hm hi
      have : k = n := by omega
      subst this
      cases m with
      | zero => omega
      | succ m => simp [he m s hi, hi]
    | succ d ih =>
      intro k m s hd hk hm hi
      cases m with
      | zero => omega
      | succ m =>
        rw [hs m k s (by omega) hi, hd, List.range'_succ, List.foldl_cons]
        have := ih (k + 1) m (step k s) (by omega) (by omega) (by omega) (hI k s (by omega) hi)
        rwa [show n - (k + 1) = d by omega] at this
  have := key n 0 FU s0 (by omega) (by omega) (FU_gt (by omega)) h0
  simpa [List.range_eq_range'] using this
/-- A loop that copies a list, cell by cell, into a list of zeros. -/
theorem loopCopy {α β R : Type} (f : Nat → List β → Int → Option R) (l : List α) (g : α → β) (z : β) (rest : List β → Option R) (hn : l.length < 4611686018427387904)
    (hs : ∀ m k x (s : List β), k < l.length → l[k]? = some x → s.length = l.length → f (m + 1) s (k : Int) = f m (s.set k (g x)) ((k + 1 : Nat) : Int))
    (he : ∀ m s, s.length = l.length → f (m + 1) s (l.length : Int) = rest s) : f FU (List.replicate l.length z) 0 = rest (l.map g) := by
  have h := loopS f l.length (fun k s => match l[k]? with | some x => s.set k (g x) | none => s) rest hn
    (fun k s => s = (l.take k).map g ++ List.replicate (l.length - k) z) (List.replicate l.length z) (by simp) (fun k s hk hi => ?_) (fun m k s hk hi => ?_) (fun m s hi => he m s (by rw [hi]; simp))
  · rw [h.1]
    congr 1
    have := h.2
    simpa using this
  · have hx : l[k]? = some l[k] := by simp [hk]
    simp only [hx]
    subst hi
    have e1 : l.length - k = (l.length - (k + 1)) + 1 := by omega
    have e2 : k - ((l.take k).map g).length = 0 := by simp; omega
    have e3 : ¬ k < ((l.take k).map g).length := by simp; omega
    rw [e1, List.replicate_succ, List.set_append, if_neg e3, e2, List.set_cons_zero, List.take_succ_eq_append_getElem hk, List.map_append]
    simp
  · have hx : l[k]? = some l[k] := by simp [hk]
    simp only [hx]
    exact hs m k l[k] s hk hx (by rw [hi]; simp; omega)
/-! ### Sizes, copies, comparisons (the laws' own) -/
def Szd (o : Option Int) (n : Int) (Q : Prop) : Prop := ∃ r, o = some r ∧ (r < 0 ∨ (0 ≤ r ∧ r ≤ n ∧ Q))
def allS {α : Type} (S : α → Prop) (l : List α) : Prop := l.length ≤ 1048576 ∧ ∀ x ∈ l, S x
theorem idx_lt {α : Type} {l : List α} {k : Nat} (h : k < l.length) : idx l (k : Int) = some l[k] := by rw [idx_nat]; simp [h]
theorem seti_nat {α : Type} (l : List α) (k : Nat) (x : α) : seti l (k : Int) x = l.set k x := by unfold seti; simp
theorem szNil {α : Type} {G : α → Prop} (l : List α) (n : Int) (h0 : 0 ≤ n) (h1 : n ≤ 1048576) (hl : allG G l) :
    Szd (if (decide ((w64 (n - (List.length l : Int))) < 0)) = true then some (-1) else some (w64 (n - (List.length l : Int)))) n (allS anyG l) := by
  have := hl.1
  rw [w64_eq (by omega) (by omega)]
  by_cases h : n - (List.length l : Int) < 0
  · exact ⟨-1, by simp [h], .inl (by omega)⟩
  · exact ⟨n - l.length, by simp [h], .inr ⟨by omega, by omega, by omega, fun _ _ => trivial⟩⟩
theorem szL {α : Type} {G S : α → Prop} (f : Nat → Int → Int → Option Int) (l : List α) (g : α → Int → Option Int)
    (hs : ∀ m y k, f (m + 1) y k = if (decide (k < (List.length l : Int))) = true then Option.bind (idx l k) fun u => Option.bind (g u y) fun v => (if (decide (v < 0)) = true then some (-1) else f m v (w64 (k + 1))) else some y)
    (hg : ∀ x n, G x → 0 ≤ n → n ≤ 1048576 → Szd (g x n) n (S x)) (n : Int) (h0 : 0 ≤ n) (h1 : n ≤ 1048576) (hl : allG G l) :
    Szd (if (decide ((w64 (n - (List.length l : Int))) < 0)) = true then some (-1) else f FU (w64 (n - (List.length l : Int))) 0) n (allS S l) := by
  have hl1 := hl.1
  have key : ∀ d k m y, l.length - k = d → k ≤ l.length → l.length - k < m → 0 ≤ y → y ≤ 1048576 → l.length ≤ 1048576 → Szd (f m y (k : Int)) y (∀ i x, k ≤ i → l[i]? = some x → S x) := by
    intro d
    induction d with
    | zero =>
      intro k m y hd hk hm hy0 hy1 hll
      cases m with
      | zero => omega
      | succ m =>
        rw [hs, if_neg (by simp; omega)]
        exact ⟨y, rfl, .inr ⟨hy0, by omega, fun i x hi hx => by
          rw [List.getElem?_eq_none (by omega)] at hx
          cases hx⟩⟩
    | succ d ih =>
      intro k m y hd hk hm hy0 hy1 hll
      cases m with
      | zero => omega
      | succ m =>
        have hk' : k < l.length := by omega
        rw [hs, if_pos (by simp; omega), idx_lt hk', Option.bind_some]
        obtain ⟨r, h2, h3⟩ := hg l[k] y (hl.2 _ (List.getElem_mem hk')) hy0 hy1
        rw [h2, Option.bind_some]
        rcases h3 with h3 | ⟨h3, h4, h5⟩
        · exact ⟨-1, by simp [h3], .inl (by omega)⟩
        · rw [if_neg (by simp; omega), w64_succ (by omega)]
          obtain ⟨r', h6, h7⟩ := ih (k + 1) m r (by omega) (by omega) (by omega) h3 (by omega) hll
          refine ⟨r', h6, ?_⟩
          rcases h7 with h7 | ⟨h7, h8, h9⟩
          · exact .inl h7
          · refine .inr ⟨h7, by omega, fun i x hi hx => ?_⟩
            by_cases hik : i = k
            · subst hik
              rw [List.getElem?_eq_getElem hk'] at hx
              cases hx
              exact h5
            · exact h9 i x (by omega) hx
  rw [w64_eq (by omega) (by omega)]
  by_cases h : n - (List.length l : Int) < 0
  · exact ⟨-1, by simp [h], .inl (by omega)⟩
  · rw [if_neg (by simp; omega)]
    obtain ⟨r, h2, h3⟩ := key _ 0 FU (n - l.length) rfl (by omega) (FU_gt (by omega)) (by omega) (by omega) (by omega)
    refine ⟨r, h2, ?_⟩
    rcases h3 with h3 | ⟨h3, h4, h5⟩
    · exact .inl h3
    · exact .inr ⟨h3, by omega, by omega, fun x hx => by
        obtain ⟨i, hi⟩ := List.getElem?_of_mem hx
        exact h5 i x (by omega) hi⟩
theorem szE {n : Int} (h0 : 0 ≤ n) : Szd (some n) n True := ⟨n, rfl, .inr ⟨h0, Int.le_refl _, trivial⟩⟩
theorem szI {α : Type} {l : List α} {G : α → Prop} {n : Int} {R : Prop} {g : Int → Option Int} (h0 : 0 ≤ n) (h1 : n ≤ 1048576) (hl : allG G l) (hB : ∀ m, 0 ≤ m → m ≤ 1048576 → Szd (g m) m R) :
    Szd (if (decide ((w64 (n - (List.length l : Int))) < 0)) = true then some (-1) else g (w64 (n - (List.length l : Int)))) n (allS anyG l ∧ R) := by
  have := hl.1
  rw [w64_eq (by omega) (by omega)]
  by_cases h : n - (List.length l : Int) < 0
  · exact ⟨-1, by simp [h], .inl (by omega)⟩
  · rw [if_neg (by simp; omega)]
    obtain ⟨r', h5, h6⟩ := hB (n - l.length) (by omega) (by omega)
    refine ⟨r', h5, ?_⟩
    rcases h6 with h6 | ⟨h6, h7, h8⟩
    · exact .inl h6
    · exact .inr ⟨h6, by omega, ⟨by omega, fun _ _ => trivial⟩, h8⟩
theorem Szd.imp {o : Option Int} {n : Int} {Q R : Prop} (h : Szd o n Q) (hi : Q → R) : Szd o n R := by
  obtain ⟨r, h1, h2⟩ := h
  exact ⟨r, h1, h2.imp id fun h => ⟨h.1, h.2.1, hi h.2.2⟩⟩
/-- The law's gate. -/
theorem gate {o : Option Int} {n : Int} {Q : Prop} {g : Int → Option Bool} (hA : Szd o n Q) (h1 : n ≤ 1048576) (hB : ∀ m, 0 ≤ m → m ≤ 1048576 → Q → g m = some true) : Option.bind o (fun u => (if (decide (u < 0)) = true then some true else g u)) = some true := by
  obtain ⟨r, rfl, h⟩ := hA
  rw [Option.bind_some]
  rcases h with h | ⟨h2, h3, h4⟩
  · simp [h]
  · rw [if_neg (by simp; omega)]
    exact hB r h2 (by omega) h4
theorem mkL_nat {α : Type} {n : Nat} (h : n ≤ 1073741824) (z : α) : mkL (n : Int) z = some (List.replicate n z) := by
  unfold mkL
  rw [if_pos (by omega)]
  simp
theorem toL {α : Type} {S : α → Prop} (f : Nat → List α → Int → Option (List α)) (l : List α) (g : α → Option α) (z : α)
    (hs : ∀ m s k, f (m + 1) s k = if (decide (k < (List.length l : Int))) = true then Option.bind (idx l k) fun u => Option.bind (g u) fun v => Option.bind (idx s k) fun _ => f m (seti s k v) (w64 (k + 1)) else some s)
    (hg : ∀ x, S x → g x = some x) (hl : allS S l) : Option.bind (mkL (List.length l : Int) z) (fun u => f FU u 0) = some l := by
  have hl1 := hl.1
  rw [mkL_nat (by omega), Option.bind_some]
  have := loopCopy f l id z some (by omega) (fun m k x s hk hx hsl => ?_) (fun m s hsl => by rw [hs, if_neg (by simp)])
  · simpa using this
  · rw [hs, if_pos (by simp; omega), idx_nat, hx, Option.bind_some, hg x (hl.2 _ (List.mem_of_getElem? hx)), Option.bind_some, idx_lt (by omega), Option.bind_some, seti_nat, w64_succ (by omega)]
    rfl
theorem eqL {α : Type} {S : α → Prop} (f : Nat → Int → Option Bool) (l : List α) (g : α → α → Option Bool)
    (hs : ∀ m k, f (m + 1) k = if (decide (k < (List.length l : Int))) = true then Option.bind (idx l k) fun u => Option.bind (idx l k) fun v => Option.bind (g u v) fun b => (if (!b) = true then some false else f m (w64 (k + 1))) else some true)
    (hg : ∀ x, S x → g x x = some true) (hl : allS S l) : (if ((List.length l : Int) != (List.length l : Int)) = true then some false else f FU 0) = some true := by
  have hl1 := hl.1
  rw [if_neg (by simp)]
  have := loopL f l (fun _ => true) (some true) (some false) (by omega) (fun m k x hk hx => ?_) (fun m => by rw [hs, if_neg (by simp)])
  · simpa using this
  · rw [hs, if_pos (by simp; omega), idx_nat, hx, Option.bind_some, Option.bind_some, hg x (hl.2 _ (List.mem_of_getElem? hx)), Option.bind_some, w64_succ (by omega)]
    rfl
theorem eqI {b : Bool} {f : Option Bool} (h : b = false) (hf : f = some true) : (if b = true then some false else f) = some true := by rw [h]; exact hf
theorem neI (x : Int) : (x != x) = false := by simp
theorem neS (x : List UInt8) : (x != x) = false := by simp
/-- A loop over a list that carries a state. -/
theorem loopFold {α S R : Type} (f : Nat → S → Int → Option R) (l : List α) (step : S → α → S) (rest : S → Option R) (hn : l.length < 4611686018427387904)
    (hs : ∀ m s k x, k < l.length → l[k]? = some x → f (m + 1) s (k : Int) = f m (step s x) ((k + 1 : Nat) : Int)) (he : ∀ m s, f (m + 1) s (l.length : Int) = rest s) (s0 : S) : f FU s0 0 = rest (l.foldl step s0) := by
  have key : ∀ d k m s, l.length - k = d → k ≤ l.length → l.length - k < m → f m s (k : Int) = rest ((l.drop k).foldl step s) := by
    intro d
    induction d with
    | zero =>
      intro k m s hd hk hm
      have : k = l.length := by omega
      subst this
      cases m with
      | zero => omega
      | succ m => rw [he]; simp
    | succ d ih =>
      intro k m s hd hk hm
      cases m with
      | zero => omega
      | succ m =>
        have hk' : k < l.length := by omega
        rw [hs m s k l[k] hk' (by simp [hk']), ih (k + 1) m _ (by omega) (by omega) (by omega), List.drop_eq_getElem_cons hk', List.foldl_cons]
  have := key _ 0 FU s0 rfl (by omega) (FU_gt (by omega))
  simpa using this
end Go.Proofs.YtejhnpimhjmpdaaDoor
/-
  PLAIN BASE, 2: the laws' marks: a mark is put into every place of a list and found there again. No program.
-/
set_option linter.unusedSimpArgs false
set_option linter.unusedVariables false
namespace Go.Proofs.YtejhnpimhjmpdaaDoor
open Go
end Go.Proofs.YtejhnpimhjmpdaaDoor
