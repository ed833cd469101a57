/-
  SHOWS COMPARED, PLAIN.
-/
import Derived.Test.YtmkignciedkidaaPShow
set_option linter.unusedSimpArgs false
set_option linter.unusedVariables false
namespace Go.Proofs.Ytmkignciedkidaa
open Go
theorem okIn_iff {a lo hi : Int} : okIn a lo hi = true ↔ lo ≤ a ∧ a ≤ hi := by simp [okIn]
structure ShowFacts (x : ShowT) : Prop where
  n0 : 2 ≤ x.1.length
  n1 : x.1.length ≤ 8
  nc : x.2.1.length + 1 = x.1.length
  ch : ∀ c ∈ x.1, okChart c = true
  cl : ∀ c ∈ x.1, 1 ≤ c.length ∧ c.length ≤ 12
  ce : ∀ c ∈ x.1, ∀ d, x.1[0]? = some d → c.length = d.length
  cn : ∀ u ∈ x.2.1, 1 ≤ u ∧ u ≤ 64
  le : 0 ≤ x.2.2.1 ∧ x.2.2.1 ≤ 80
  st : 1 ≤ x.2.2.2 ∧ x.2.2.2 ≤ 24
theorem okChart_len {c : List (Int × Int)} (h : okChart c = true) : 1 ≤ c.length ∧ c.length ≤ 12 := by
  unfold okChart at h
  rw [Bool.and_eq_true, okIn_iff] at h
  omega
theorem facts {x : ShowT} (h : okShow x = true) : ShowFacts x := by
  unfold okShow sameLong okCounts at h
  simp only [Bool.and_eq_true, okIn_iff, decide_eq_true_eq, List.all_eq_true] at h
  obtain ⟨⟨⟨⟨⟨h1, h2⟩, h3⟩, h4⟩, h5⟩, h6⟩ := h
  refine ⟨by omega, by omega, h2, fun c hc => (h3 c hc).1, fun c hc => okChart_len (h3 c hc).1, fun c hc d hd => ?_, h4, h5, h6⟩
  have := (h3 c hc).2
  rw [hd] at this
  simpa using this
theorem spec_mgSame (a b : List (Int × Int)) (h : a.length = b.length) (hn : a.length < 4611686018427387904) : F_spec_mgSame a b = some (decide (a = b)) := by
  unfold F_spec_mgSame
  rw [loopSame (F_spec_mgSame_L1 a b) a b (some true) (some false) hn h (fun j k x y hx hy => ?_) (fun j => ?_)]
  · by_cases hq : a = b <;> simp [hq]
  · have := (List.getElem?_eq_some_iff.1 hx).1
    rw [F_spec_mgSame_L1, if_pos (by simp; omega), idx_nat, hx, Option.bind_some, idx_nat, hy, Option.bind_some, eqv_Spot_eq, w64_succ (by omega)]
    by_cases hq : x = y <;> simp [hq]
  · rw [F_spec_mgSame_L1, if_neg (by simp)]
theorem eq_Spots (a b : List (Int × Int)) (hn : a.length < 4611686018427387904) : F_slices_Equal_impl_Spot_impl_Spot a b = some (decide (a = b)) := by
  unfold F_slices_Equal_impl_Spot_impl_Spot
  by_cases h : a.length = b.length
  · rw [if_neg (by simp; omega), loopSame (F_slices_Equal_impl_Spot_impl_Spot_L1 a b) a b (some true) (some false) hn h (fun j k x y hx hy => ?_) (fun j => ?_)]
    · by_cases hq : a = b <;> simp [hq]
    · have := (List.getElem?_eq_some_iff.1 hx).1
      rw [F_slices_Equal_impl_Spot_impl_Spot_L1, if_pos (by simp; omega), idx_nat, hx, Option.bind_some, idx_nat, hy, Option.bind_some, eqv_Spot_eq, w64_succ (by omega)]
      by_cases hq : x = y <;> simp [hq]
    · rw [F_slices_Equal_impl_Spot_impl_Spot_L1, if_neg (by simp)]
  · have : a ≠ b := fun e => h (by rw [e])
    rw [if_pos (by simp; omega)]
    simp [this]
theorem eq_Ints (a b : List Int) (hn : a.length < 4611686018427387904) : F_slices_Equal_int_int a b = some (decide (a = b)) := by
  unfold F_slices_Equal_int_int
  by_cases h : a.length = b.length
  · rw [if_neg (by simp; omega), loopSame (F_slices_Equal_int_int_L1 a b) a b (some true) (some false) hn h (fun j k x y hx hy => ?_) (fun j => ?_)]
    · by_cases hq : a = b <;> simp [hq]
    · have := (List.getElem?_eq_some_iff.1 hx).1
      rw [F_slices_Equal_int_int_L1, if_pos (by simp; omega), idx_nat, hx, Option.bind_some, idx_nat, hy, Option.bind_some, w64_succ (by omega)]
      by_cases hq : x = y <;> simp [hq]
    · rw [F_slices_Equal_int_int_L1, if_neg (by simp)]
  · have : a ≠ b := fun e => h (by rw [e])
    rw [if_pos (by simp; omega)]
    simp [this]
theorem spec_l1Same (a b : List Int) (hn : a.length < 4611686018427387904) : F_spec_l1Same a b = some (decide (a = b)) := by
  unfold F_spec_l1Same
  by_cases h : a.length = b.length
  · rw [if_neg (by simp; omega), loopSame (F_spec_l1Same_L1 a b) a b (some true) (some false) hn h (fun j k x y hx hy => ?_) (fun j => ?_)]
    · by_cases hq : a = b <;> simp [hq]
    · have := (List.getElem?_eq_some_iff.1 hx).1
      rw [F_spec_l1Same_L1, if_pos (by simp; omega), idx_nat, hx, Option.bind_some, idx_nat, hy, Option.bind_some, w64_succ (by omega)]
      by_cases hq : x = y <;> simp [hq]
    · rw [F_spec_l1Same_L1, if_neg (by simp)]
  · have : a ≠ b := fun e => h (by rw [e])
    rw [if_pos (by simp; omega)]
    simp [this]
/-- The numbers below n that p takes. -/
def filt (p : Nat → Bool) (n : Nat) : List Int := ((List.range n).filter p).map fun (k : Nat) => (k : Int)
theorem filt_succ (p : Nat → Bool) (n : Nat) : filt p (n + 1) = if p n then filt p n ++ [(n : Int)] else filt p n := by
  unfold filt
  rw [List.range_succ, List.filter_append, List.map_append]
  cases h : p n <;> simp [h]
theorem filt_len (p : Nat → Bool) (n : Nat) : (filt p n).length ≤ n := by
  unfold filt
  rw [List.length_map]
  exact Nat.le_trans (List.length_filter_le _ _) (by simp)
theorem loopFilter {R : Type} (f : Nat → List Int → Int → Option R) (n : Nat) (p : Nat → Bool) (rest : List Int → Option R) (hn : n < 4611686018427387904)
    (hs : ∀ m s k, k < n → s.length ≤ k → f (m + 1) s (k : Int) = f m (if p k then s ++ [(k : Int)] else s) ((k + 1 : Nat) : Int)) (he : ∀ m s, f (m + 1) s (n : Int) = rest s) : f FU [] 0 = rest (filt p n) := by
  have h := loopS f n (fun k s => if p k then s ++ [(k : Int)] else s) rest hn (fun k s => s = filt p k) [] (by simp [filt]) (fun k s hk hi => by rw [filt_succ, hi]) (fun m k s hk hi => hs m s k hk (by rw [hi]; exact filt_len p k)) (fun m s hi => he m s)
  rw [h.1, h.2]
theorem app_ok {α : Type} {l m : List α} (h : l.length + m.length ≤ 1073741824) : app l m = some (l ++ m) := by
  unfold app
  rw [if_pos h]
def diffAt (x y : ShowT) (k : Nat) : Bool := !decide (x.1[k]? = y.1[k]?)
theorem chart_len {x : ShowT} (f : ShowFacts x) {k : Nat} {c d : List (Int × Int)} (hc : x.1[k]? = some c) (hd : x.1[0]? = some d) : c.length = d.length := f.ce c (List.mem_of_getElem? hc) d hd
theorem spec_cpDifferent (x y : ShowT) (fx : ShowFacts x) (fy : ShowFacts y) (h : x.1.length = y.1.length) (h0 : ∀ c d, x.1[0]? = some c → y.1[0]? = some d → c.length = d.length) :
    F_spec_cpDifferent x y = some (filt (diffAt x y) x.1.length) := by
  have hb := fx.n1
  unfold F_spec_cpDifferent
  rw [loopFilter (F_spec_cpDifferent_L1 x y) x.1.length (diffAt x y) some (by omega) (fun m s k hk hs => ?_) (fun m s => ?_)]
  · obtain ⟨c, hc⟩ : ∃ c, x.1[k]? = some c := ⟨_, List.getElem?_eq_getElem hk⟩
    obtain ⟨d, hd⟩ : ∃ d, y.1[k]? = some d := ⟨_, List.getElem?_eq_getElem (by omega)⟩
    obtain ⟨c0, hc0⟩ : ∃ c, x.1[0]? = some c := ⟨_, List.getElem?_eq_getElem (by omega)⟩
    obtain ⟨d0, hd0⟩ : ∃ d, y.1[0]? = some d := ⟨_, List.getElem?_eq_getElem (by omega)⟩
    have hl : c.length = d.length := by rw [chart_len fx hc hc0, chart_len fy hd hd0, h0 _ _ hc0 hd0]
    have hc12 := (fx.cl c (List.mem_of_getElem? hc)).2
    have e : diffAt x y k = !decide (c = d) := by unfold diffAt; rw [hc, hd]; simp
    rw [F_spec_cpDifferent_L1, if_pos (by simp; omega), e]
    unfold jK1
    dsimp only
    rw [idx_nat, hc, Option.bind_some, idx_nat, hd, Option.bind_some, spec_mgSame c d hl (by omega), Option.bind_some, app_ok (by simp; omega), w64_succ (by omega)]
    by_cases hq : c = d <;> simp [hq]
  · rw [F_spec_cpDifferent_L1, if_neg (by simp)]
theorem filt_nil {p : Nat → Bool} {n : Nat} : filt p n = [] ↔ ∀ k, k < n → p k = false := by
  unfold filt
  rw [List.map_eq_nil_iff, List.filter_eq_nil_iff]
  constructor
  · intro h k hk
    simpa using h k (List.mem_range.2 hk)
  · intro h k hk
    simp [h k (List.mem_range.1 hk)]
theorem diff_nil {x y : ShowT} (h : x.1.length = y.1.length) : filt (diffAt x y) x.1.length = [] ↔ x.1 = y.1 := by
  rw [filt_nil]
  constructor
  · intro hk
    apply List.ext_getElem?
    intro i
    by_cases hi : i < x.1.length
    · simpa [diffAt] using hk i hi
    · rw [List.getElem?_eq_none (by omega), List.getElem?_eq_none (by omega)]
  · intro e k _
    simp [diffAt, e]
def lensOk (x : ShowT) : Prop := x.1.length < 4611686018427387904 ∧ (∀ c ∈ x.1, c.length < 4611686018427387904) ∧ x.2.1.length < 4611686018427387904
theorem show_ext {x y : ShowT} (h1 : x.1 = y.1) (h2 : x.2.1 = y.2.1) (h3 : x.2.2.1 = y.2.2.1) (h4 : x.2.2.2 = y.2.2.2) : x = y := by
  obtain ⟨a, b, c, d⟩ := x
  obtain ⟨a', b', c', d'⟩ := y
  simp_all
theorem spec_SameShows (x y : ShowT) (hx : lensOk x) (hy : lensOk y) : F_spec_SameShows x y = some (if okShow x && okShow y then (decide (x = y), true) else (false, false)) := by
  unfold F_spec_SameShows jK1
  dsimp only
  rw [spec_swGood x hx.1 hx.2.1 hx.2.2, Option.bind_some, spec_swGood y hy.1 hy.2.1 hy.2.2, Option.bind_some]
  cases h1 : okShow x with
  | false => simp
  | true =>
    cases h2 : okShow y with
    | false => simp
    | true =>
      have fx := facts h1
      have fy := facts h2
      have nx := fx.n0
      have ny := fy.n0
      obtain ⟨c0, hc0⟩ : ∃ c, x.1[0]? = some c := ⟨_, List.getElem?_eq_getElem (by omega)⟩
      obtain ⟨d0, hd0⟩ : ∃ d, y.1[0]? = some d := ⟨_, List.getElem?_eq_getElem (by omega)⟩
      simp only [Bool.not_true, Bool.false_eq_true, if_false, Bool.and_self, if_true]
      rw [idx_zero, hc0, Option.bind_some, idx_zero, hd0, Option.bind_some]
      by_cases hl : x.1.length = y.1.length
      · rw [if_neg (by simp; omega)]
        by_cases h0 : c0.length = d0.length
        · rw [if_neg (by simp; omega), spec_cpDifferent x y fx fy hl (fun c d hc hd => by rw [hc0] at hc; rw [hd0] at hd; cases hc; cases hd; exact h0), Option.bind_some, spec_l1Same _ _ hx.2.2, Option.bind_some]
          by_cases e1 : x.1 = y.1
          · have en := (diff_nil hl).2 e1
            rw [en, if_pos (by simp)]
            by_cases e2 : x.2.1 = y.2.1
            · by_cases e3 : x.2.2.1 = y.2.2.1
              · by_cases e4 : x.2.2.2 = y.2.2.2
                · have := show_ext e1 e2 e3 e4
                  simp [this]
                · have : x ≠ y := fun e => e4 (by rw [e])
                  simp [e2, e3, e4, this]
              · have : x ≠ y := fun e => e3 (by rw [e])
                simp [e2, e3, this]
            · have : x ≠ y := fun e => e2 (by rw [e])
              simp [e2, this]
          · have en : filt (diffAt x y) x.1.length ≠ [] := fun e => e1 ((diff_nil hl).1 e)
            have : x ≠ y := fun e => e1 (by rw [e])
            rw [if_neg (by simp; exact en)]
            simp [this]
        · have : x ≠ y := fun e => by subst e; rw [hc0] at hd0; cases hd0; exact h0 rfl
          rw [if_pos (by simp; omega)]
          simp [this]
      · have : x ≠ y := fun e => hl (by rw [e])
        rw [if_pos (by simp; omega)]
        simp [this]
theorem impl_SameShows (x y : ShowT) (hx : lensOk x) (hy : lensOk y) : F_impl_SameShows x y = some (if okShow x && okShow y then (decide (x = y), true) else (false, false)) := by
  unfold F_impl_SameShows jK1
  dsimp only
  rw [impl_IsShow x hx.1 hx.2.1 hx.2.2, Option.bind_some, impl_IsShow y hy.1 hy.2.1 hy.2.2, Option.bind_some]
  cases h1 : okShow x with
  | false => simp
  | true =>
    cases h2 : okShow y with
    | false => simp
    | true =>
      simp only [Bool.not_true, Bool.false_eq_true, if_false, Bool.and_self, if_true]
      rw [eq_Ints _ _ hx.2.2, Option.bind_some]
      by_cases hl : x.1.length = y.1.length
      · rw [if_neg (by simp; omega)]
        by_cases e2 : x.2.1 = y.2.1
        · by_cases e3 : x.2.2.1 = y.2.2.1
          · by_cases e4 : x.2.2.2 = y.2.2.2
            · rw [loopSame (F_impl_SameShows_L1 x y) x.1 y.1 (some (true, true)) (some (false, true)) hx.1 hl (fun j k a b ha hb => ?_) (fun j => ?_)]
              · by_cases e1 : x.1 = y.1
                · have := show_ext e1 e2 e3 e4
                  simp [this]
                · have : x ≠ y := fun e => e1 (by rw [e])
                  simp [e1, e2, e3, e4, this]
              · have := (List.getElem?_eq_some_iff.1 ha).1
                have := hx.1
                rw [F_impl_SameShows_L1, if_pos (by simp; omega), idx_nat, ha, Option.bind_some, idx_nat, hb, Option.bind_some, eq_Spots a b (hx.2.1 a (List.mem_of_getElem? ha)), Option.bind_some, w64_succ (by omega)]
                by_cases hq : a = b <;> simp [hq]
              · rw [F_impl_SameShows_L1, if_neg (by simp)]
            · have : x ≠ y := fun e => e4 (by rw [e])
              simp [e2, e3, e4, this]
          · have : x ≠ y := fun e => e3 (by rw [e])
            simp [e2, e3, this]
        · have : x ≠ y := fun e => e2 (by rw [e])
          simp [e2, this]
      · have : x ≠ y := fun e => hl (by rw [e])
        rw [if_pos (by simp; omega)]
        simp [this]
end Go.Proofs.Ytmkignciedkidaa
