/-
  THE LEAST DISTANCE THAT A SHOW KEEPS, PLAIN.
-/
import Derived.Test.YthlfhcefeaehmaaPLeastShow
set_option linter.unusedSimpArgs false
set_option linter.unusedVariables false
namespace Go.Proofs.Ythlfhcefeaehmaa
open Go
/-- At least L apart. -/
def gOf (L : Int) (n : Int × Int) : Bool := decide (L * L * n.2 ≤ n.1)
theorem frac_up {A a b c d : Int} (hb : 0 < b) (hd : 0 < d) (h : a * d ≤ c * b) (h1 : A * b ≤ a) : A * d ≤ c := by
  have h2 : A * b * d ≤ a * d := Int.mul_le_mul_of_nonneg_right h1 (by omega)
  have h3 : A * d * b ≤ c * b := by rw [Int.mul_assoc, Int.mul_comm d b, ← Int.mul_assoc]; omega
  exact Int.le_of_mul_le_mul_right h3 hb
theorem gstep (L : Int) (n s : Int × Int) (hn : 1 ≤ n.2) (hs : 1 ≤ s.2) : gOf L (if lessF n.1 n.2 s.1 s.2 then n else s) = (gOf L s && gOf L n) := by
  unfold lessF gOf
  by_cases h : n.1 * s.2 < s.1 * n.2
  · rw [if_pos (by simpa using h), Bool.eq_iff_iff]
    simp only [Bool.and_eq_true, decide_eq_true_eq]
    exact ⟨fun h1 => ⟨frac_up (by omega) (by omega) (Int.le_of_lt h) h1, h1⟩, fun h1 => h1.2⟩
  · rw [if_neg (by simpa using h), Bool.eq_iff_iff]
    simp only [Bool.and_eq_true, decide_eq_true_eq]
    exact ⟨fun h1 => ⟨h1, frac_up (by omega) (by omega) (by omega) h1⟩, fun h1 => h1.1⟩
def gAt (ms : List MoveT) (L : Int) (i k : Nat) : Bool := match ms[i]?, ms[k]? with
  | some u, some v => gOf L (near u v)
  | _, _ => true
theorem cstep_g {ms : List MoveT} (hg : ∀ u ∈ ms, goodMove u) (L : Int) {i k : Nat} (hi : i < ms.length) (hk : k < ms.length) {s : CSt} (h : 1 ≤ s.2.2.2) : gOf L ((cstep ms i k s).2.2.1, (cstep ms i k s).2.2.2) = (gOf L (s.2.2.1, s.2.2.2) && gAt ms L i k) := by
  have hu : ms[i]? = some ms[i] := List.getElem?_eq_getElem hi
  have hv : ms[k]? = some ms[k] := List.getElem?_eq_getElem hk
  have hb := near_bd (hg _ (List.getElem_mem hi)) (hg _ (List.getElem_mem hk))
  have := gstep L (near ms[i] ms[k]) (s.2.2.1, s.2.2.2) hb.2.2.1 h
  unfold cstep gAt
  rw [hu, hv]
  dsimp only at this ⊢
  rw [← this]
  cases lessF (near ms[i] ms[k]).1 (near ms[i] ms[k]).2 s.2.2.1 s.2.2.2 <;> simp
theorem fold_g {ms : List MoveT} (hg : ∀ u ∈ ms, goodMove u) (L : Int) {i : Nat} : ∀ (ks : List Nat) (s : CSt), (∀ k ∈ ks, i < k ∧ k < ms.length) → CI ms s →
    gOf L ((ks.foldl (fun s k => cstep ms i k s) s).2.2.1, (ks.foldl (fun s k => cstep ms i k s) s).2.2.2) = (gOf L (s.2.2.1, s.2.2.2) && ks.all (gAt ms L i))
  | [], s, _, h => by simp
  | k :: ks, s, hk, h => by
    have hk0 := hk k (by simp)
    rw [List.foldl_cons, fold_g hg L ks _ (fun k hk' => hk k (by simp [hk'])) (cstep_CI hk0.1 hk0.2 h), cstep_g hg L (by omega) hk0.2 (h.bd hg).2.2.1, List.all_cons, Bool.and_assoc]
def gRow (ms : List MoveT) (L : Int) (i : Nat) : Bool := (List.range' (i + 1) (ms.length - (i + 1))).all (gAt ms L i)
theorem rows_g {ms : List MoveT} (hg : ∀ u ∈ ms, goodMove u) (L : Int) : ∀ (is : List Nat) (s : CSt), CI ms s →
    gOf L ((is.foldl (fun s i => crow ms i s) s).2.2.1, (is.foldl (fun s i => crow ms i s) s).2.2.2) = (gOf L (s.2.2.1, s.2.2.2) && is.all (gRow ms L))
  | [], s, h => by simp
  | i :: is, s, h => by
    have e : gOf L ((crow ms i s).2.2.1, (crow ms i s).2.2.2) = (gOf L (s.2.2.1, s.2.2.2) && gRow ms L i) := by
      unfold crow gRow
      exact fold_g hg L _ s (fun k hk => by rw [List.mem_range'_1] at hk; omega) h
    rw [List.foldl_cons, rows_g hg L is _ (crow_CI h), e, List.all_cons, Bool.and_assoc]
theorem min_g {ms : List MoveT} (h2 : 2 ≤ ms.length) (hg : ∀ u ∈ ms, goodMove u) (L : Int) : gOf L (minOf ms) = (List.range ms.length).all (gRow ms L) := by
  have h := rows_g hg L (List.range ms.length) _ (cinit_CI h2)
  have e : gOf L (minOf ms) = (gOf L ((cinit ms).2.2.1, (cinit ms).2.2.2) && (List.range ms.length).all (gRow ms L)) := h
  rw [e]
  cases hall : (List.range ms.length).all (gRow ms L) with
  | false => simp
  | true =>
    have h0 := List.all_eq_true.1 hall 0 (List.mem_range.2 (by omega))
    unfold gRow at h0
    have h1 := List.all_eq_true.1 h0 1 (by rw [List.mem_range'_1]; omega)
    have hu : ms[0]? = some (ms[0]'(by omega)) := List.getElem?_eq_getElem (by omega)
    have hv : ms[1]? = some (ms[1]'(by omega)) := List.getElem?_eq_getElem (by omega)
    unfold gAt at h1
    rw [hu, hv] at h1
    unfold cinit
    rw [hu, hv]
    simpa using h1
theorem stay_g {u v : MoveT} (hu : goodMove u) (hv : goodMove v) {L : Int} (h0 : 0 ≤ L) (h1 : L ≤ 80) : stay u v L = gOf L (near u v) := by
  obtain ⟨b1, b2, b3, b4⟩ := near_bd hu hv
  have h2 : 0 ≤ L * L := Int.mul_nonneg h0 h0
  have h3 : L * L ≤ 80 * 80 := Int.mul_le_mul h1 h1 h0 (by omega)
  have h4 : 0 ≤ L * L * (near u v).2 := Int.mul_nonneg h2 (by omega)
  have h5 : L * L * (near u v).2 ≤ 80 * 80 * 8359936 := Int.mul_le_mul h3 b4 (by omega) (by omega)
  unfold stay gOf
  rw [w64_eq (x := L * L) (by omega) (by omega), w64_eq (by omega) (by omega)]
theorem foldl_nil_iff {β : Type} (g : Nat → List β) : ∀ (is : List Nat) (s : List β), (is.foldl (fun s i => s ++ g i) s).isEmpty = (s.isEmpty && is.all fun i => (g i).isEmpty)
  | [], s => by simp
  | i :: is, s => by
    have e : (s ++ g i).isEmpty = (s.isEmpty && (g i).isEmpty) := by cases s <;> simp
    rw [List.foldl_cons, foldl_nil_iff g is, List.all_cons, e, Bool.and_assoc]
theorem close_g {ms : List MoveT} (hg : ∀ u ∈ ms, goodMove u) {L : Int} (h0 : 0 ≤ L) (h1 : L ≤ 80) : (closeOf ms L).isEmpty = (List.range ms.length).all (gRow ms L) := by
  unfold closeOf
  rw [foldl_nil_iff]
  simp only [List.isEmpty_nil, Bool.true_and]
  rw [Bool.eq_iff_iff, List.all_eq_true, List.all_eq_true]
  have row : ∀ i, i < ms.length → (closeRow ms L i).isEmpty = gRow ms L i := by
    intro i hi
    unfold closeRow gRow
    rw [Bool.eq_iff_iff, List.isEmpty_iff, List.map_eq_nil_iff, List.filter_eq_nil_iff, List.all_eq_true]
    have at_ : ∀ k ∈ List.range' (i + 1) (ms.length - (i + 1)), stayAt ms L i k = gAt ms L i k := by
      intro k hk
      rw [List.mem_range'_1] at hk
      have hu : ms[i]? = some ms[i] := List.getElem?_eq_getElem hi
      have hv : ms[k]? = some (ms[k]'(by omega)) := List.getElem?_eq_getElem (by omega)
      unfold stayAt gAt
      rw [hu, hv]
      exact stay_g (hg _ (List.getElem_mem _)) (hg _ (List.getElem_mem _)) h0 h1
    constructor
    · intro h k hk
      have := h k hk
      rw [at_ k hk] at this
      simpa using this
    · intro h k hk
      rw [at_ k hk, h k hk]
      simp
  constructor
  · intro h i hi
    rw [← row i (List.mem_range.1 hi)]
    exact h i hi
  · intro h i hi
    rw [row i (List.mem_range.1 hi)]
    exact h i hi
theorem least_g {x : ShowT} (f : ShowFacts x) (h2 : 2 ≤ (chartAt x 0).length) (L : Int) : gOf L (leastShow x) = (List.range x.2.1.length).all fun p => gOf L (partMin x p) := by
  have key : ∀ (n p0 : Nat) (s : Int × Int), p0 + n ≤ x.2.1.length → (p0 = 0 ∧ 0 < n ∨ 0 < p0 ∧ bdF s) →
      gOf L ((List.range' p0 n).foldl (fun s p => lstep x p s) s) = ((p0 = 0 || gOf L s) && (List.range' p0 n).all fun p => gOf L (partMin x p)) := by
    intro n
    induction n with
    | zero =>
      intro p0 s hp hs
      have h0 : ¬ p0 = 0 := by rcases hs with h | h <;> omega
      simp [h0]
    | succ n ih =>
      intro p0 s hp hs
      have hbd := lstep_bd f h2 (p := p0) (s := s) (by omega) (hs.imp (fun h => h.1) fun h => h.2)
      rw [List.range'_succ, List.foldl_cons, ih (p0 + 1) _ (by omega) (.inr ⟨by omega, hbd⟩), List.all_cons]
      have e : gOf L (lstep x p0 s) = ((p0 = 0 || gOf L s) && gOf L (partMin x p0)) := by
        unfold lstep
        by_cases h0 : p0 = 0
        · subst h0
          simp
        · rw [if_neg h0, gstep L _ _ (part_bd f h2 (by omega)).2.2.1 ((hs.resolve_left fun h => h0 h.1).2.2.2.1)]
          simp [h0]
      rw [e]
      simp [Bool.and_assoc]
  have := f.n0
  have := f.nc
  have h := key x.2.1.length 0 (0, 0) (by omega) (.inl ⟨rfl, by omega⟩)
  unfold leastShow
  rw [List.range_eq_range']
  simpa using h
/-! going down -/
/-- The greatest number up to L that q takes, or 0. -/
def dn (q : Nat → Bool) : Nat → Nat
  | 0 => 0
  | L + 1 => if q (L + 1) then L + 1 else dn q L
theorem dn_spec (q : Nat → Bool) (h0 : q 0 = true) : ∀ L, dn q L ≤ L ∧ q (dn q L) = true ∧ ∀ t, dn q L < t → t ≤ L → q t = false := by
  intro L
  induction L with
  | zero => exact ⟨Nat.le_refl _, h0, fun t h1 h2 => by simp [dn] at h1; omega⟩
  | succ L ih =>
    unfold dn
    cases hq : q (L + 1) with
    | true => exact ⟨by simp, by simpa using hq, fun t h1 h2 => by simp at h1; omega⟩
    | false =>
      simp only [Bool.false_eq_true, if_false]
      refine ⟨by omega, ih.2.1, fun t h1 h2 => ?_⟩
      by_cases ht : t = L + 1
      · rw [ht]; exact hq
      · exact ih.2.2 t h1 (by omega)
theorem dn_unique (q : Nat → Bool) (h0 : q 0 = true) {L V : Nat} (h1 : V ≤ L) (h2 : q V = true) (h3 : ∀ t, V < t → t ≤ L → q t = false) : dn q L = V := by
  obtain ⟨d1, d2, d3⟩ := dn_spec q h0 L
  rcases Nat.lt_trichotomy (dn q L) V with h | h | h
  · rw [d3 V h h1] at h2; cases h2
  · exact h
  · rw [h3 _ h d1] at d2; cases d2
theorem loopDown {R : Type} (f : Nat → Int → Option R) (q : Nat → Bool) (rest : Nat → Option R) (h0 : q 0 = true) (L0 : Nat) (hL : L0 < 4611686018427387904)
    (hs : ∀ m L, L ≤ L0 → f (m + 1) (L : Int) = if q L = true then rest L else f m ((L : Int) - 1)) : f FU (L0 : Int) = rest (dn q L0) := by
  have key : ∀ L m, L < m → L ≤ L0 → f m (L : Int) = rest (dn q L) := by
    intro L
    induction L with
    | zero =>
      intro m hm _
      cases m with
      | zero => omega
      | succ m => rw [hs m 0 (by omega), if_pos h0]; rfl
    | succ L ih =>
      intro m hm hl
      cases m with
      | zero => omega
      | succ m =>
        rw [hs m (L + 1) hl]
        unfold dn
        cases hq : q (L + 1) with
        | true => simp
        | false =>
          simp only [Bool.false_eq_true, if_false]
          rw [show ((L + 1 : Nat) : Int) - 1 = (L : Int) by omega]
          exact ih m (by omega) (by omega)
  exact key L0 FU (FU_gt hL) (Nat.le_refl _)
theorem dn_fold (q : Nat → Nat → Bool) (B : Nat) : ∀ (ps : List Nat) (L : Nat), L ≤ B → (∀ p ∈ ps, q p 0 = true) → (∀ p ∈ ps, ∀ s t, s ≤ t → t ≤ B → q p t = true → q p s = true) →
    ps.foldl (fun L p => dn (q p) L) L = dn (fun t => ps.all fun p => q p t) L
  | [], L, _, _, _ => by
    rw [List.foldl_nil]
    exact (dn_unique _ (by simp) (Nat.le_refl _) (by simp) (fun t h1 h2 => by omega)).symm
  | p :: ps, L, hL, h0, hd => by
    obtain ⟨d1, d2, d3⟩ := dn_spec (q p) (h0 p (by simp)) L
    rw [List.foldl_cons, dn_fold q B ps _ (by omega) (fun r hr => h0 r (by simp [hr])) (fun r hr => hd r (by simp [hr]))]
    obtain ⟨e1, e2, e3⟩ := dn_spec (fun t => ps.all fun p => q p t) (by simp; exact fun r hr => h0 r (by simp [hr])) (dn (q p) L)
    refine (dn_unique _ (by simp; exact ⟨h0 p (by simp), fun r hr => h0 r (by simp [hr])⟩) (by omega) ?_ fun t h1 h2 => ?_).symm
    · rw [List.all_cons, Bool.and_eq_true]
      exact ⟨hd p (by simp) _ _ e1 (by omega) d2, e2⟩
    · rw [List.all_cons]
      by_cases ht : t ≤ dn (q p) L
      · have := e3 t h1 ht
        rw [this]
        simp
      · rw [d3 t (by omega) h2]
        rfl
theorem dn_congr (q r : Nat → Bool) : ∀ L, (∀ t, t ≤ L → q t = r t) → dn q L = dn r L
  | 0, _ => rfl
  | L + 1, h => by
    unfold dn
    rw [h (L + 1) (Nat.le_refl _), dn_congr q r L fun t ht => h t (by omega)]
theorem gOf_down {s t : Nat} (h : s ≤ t) {n : Int × Int} (hn : 0 ≤ n.2) (hg : gOf (t : Int) n = true) : gOf (s : Int) n = true := by
  unfold gOf at hg ⊢
  simp only [decide_eq_true_eq] at hg ⊢
  have h1 : (s : Int) * s ≤ (t : Int) * t := Int.mul_le_mul (by omega) (by omega) (by omega) (by omega)
  have h2 : (s : Int) * s * n.2 ≤ (t : Int) * t * n.2 := Int.mul_le_mul_of_nonneg_right h1 hn
  omega
/-! what a show keeps -/
def keepQ (x : ShowT) (p L : Nat) : Bool := (closeOf (movesOf x p) (L : Int)).isEmpty
def keepAns (x : ShowT) : Int × Bool := if okShow x then (((List.range x.2.1.length).foldl (fun L p => dn (keepQ x p) L) 80 : Nat), true) else (0, false)
theorem keep_zero {x : ShowT} (f : ShowFacts x) {p : Nat} (hp : p < x.2.1.length) : keepQ x p 0 = true := by
  have hg := moves_good f hp
  unfold keepQ
  rw [show ((0 : Nat) : Int) = 0 from rfl, close_g hg (by omega) (by omega), List.all_eq_true]
  intro i hi
  unfold gRow
  rw [List.all_eq_true]
  intro k hk
  rw [List.mem_range'_1] at hk
  have hu : (movesOf x p)[i]? = some ((movesOf x p)[i]'(List.mem_range.1 hi)) := List.getElem?_eq_getElem (List.mem_range.1 hi)
  have hv : (movesOf x p)[k]? = some ((movesOf x p)[k]'(by omega)) := List.getElem?_eq_getElem (by omega)
  unfold gAt
  rw [hu, hv]
  have hb := near_bd (hg _ (List.getElem_mem (List.mem_range.1 hi))) (hg _ (List.getElem_mem (show k < (movesOf x p).length by omega)))
  unfold gOf
  simp
  exact hb.1
theorem impl_LeastToKeep (x : ShowT) (h : lensOk x) : F_impl_LeastToKeep x = some (keepAns x) := by
  unfold F_impl_LeastToKeep keepAns
  rw [impl_IsShow x h.1 h.2.1 h.2.2, Option.bind_some]
  cases hs : okShow x with
  | false => simp
  | true =>
    have f := facts hs
    have n1 := f.n1
    have nc := f.nc
    simp only [Bool.not_true, Bool.false_eq_true, if_false, if_true]
    have := (loopS (fun m (L : Nat) y => F_impl_LeastToKeep_L1 x m (L : Int) y) x.2.1.length (fun p L => dn (keepQ x p) L) (fun L => some ((L : Int), true)) (by omega) (fun _ L => L ≤ 80) 80 (Nat.le_refl _) (fun p L hp hi => by have := (dn_spec (keepQ x p) (keep_zero f hp) L).1; omega) (fun m p L hp hi => ?_) (fun m L _ => ?_)).1
    · exact this
    · have hl := moves_len x f p hp
      have hg := moves_good f hp
      rw [F_impl_LeastToKeep_L1, if_pos (by simp; omega), impl_showMoves x f p hp, Option.bind_some,
        loopDown (F_impl_LeastToKeep_L2 (movesOf x p) (F_impl_LeastToKeep_L1 x m) (p : Int)) (keepQ x p) (fun L => F_impl_LeastToKeep_L1 x m (L : Int) ((p + 1 : Nat) : Int)) (keep_zero f hp) L (by omega) (fun m' L' hL' => ?_)]
      rw [F_impl_LeastToKeep_L2, impl_pairsTooClose _ _ (by omega) hg, Option.bind_some, w64_eq (x := (L' : Int) - 1) (by omega) (by omega), w64_succ (by omega)]
      unfold keepQ
      cases hc : closeOf (movesOf x p) (L' : Int) with
      | nil => simp
      | cons a l => rw [if_pos (by simp <;> omega)]; simp
    · rw [F_impl_LeastToKeep_L1, if_neg (by simp)]
theorem keep_all {x : ShowT} (f : ShowFacts x) (h2 : 2 ≤ (chartAt x 0).length) : (List.range x.2.1.length).foldl (fun L p => dn (keepQ x p) L) 80 = dn (fun L => gOf (L : Int) (leastShow x)) 80 := by
  have eqg : ∀ p, p < x.2.1.length → ∀ t : Nat, t ≤ 80 → keepQ x p t = gOf (t : Int) (partMin x p) := by
    intro p hp t ht
    have hg := moves_good f hp
    unfold keepQ partMin
    rw [close_g hg (by omega) (by omega), min_g (by rw [moves_chart f hp]; exact h2) hg]
  rw [dn_fold (keepQ x) 80 _ _ (Nat.le_refl _) (fun p hp => keep_zero f (List.mem_range.1 hp)) (fun p hp s t hst ht hq => ?_)]
  · refine dn_congr _ _ 80 fun t ht => ?_
    rw [least_g f h2, Bool.eq_iff_iff, List.all_eq_true, List.all_eq_true]
    constructor
    · intro hh p hp
      rw [← eqg p (List.mem_range.1 hp) t ht]
      exact hh p hp
    · intro hh p hp
      rw [eqg p (List.mem_range.1 hp) t ht]
      exact hh p hp
  · have hp' := List.mem_range.1 hp
    rw [eqg p hp' t ht] at hq
    rw [eqg p hp' s (by omega)]
    exact gOf_down hst (by have := (part_bd f h2 hp').2.2.1; omega) hq
theorem spec_LeastToKeep (x : ShowT) (h : lensOk x) : F_spec_LeastToKeep x = some (keepAns x) := by
  unfold F_spec_LeastToKeep keepAns
  rw [spec_swGood x h.1 h.2.1 h.2.2, Option.bind_some]
  cases hs : okShow x with
  | false => simp
  | true =>
    have f := facts hs
    have n0 := f.n0
    have n1 := f.n1
    have nc := f.nc
    obtain ⟨c, hc⟩ : ∃ c, x.1[0]? = some c := ⟨_, List.getElem?_eq_getElem (by omega)⟩
    simp only [Bool.not_true, Bool.false_eq_true, if_false, if_true]
    rw [idx_zero, hc, Option.bind_some]
    by_cases h2 : 2 ≤ c.length
    · have h2c : 2 ≤ (chartAt x 0).length := by rw [chartAt_of hc]; exact h2
      have hans : leastShowAns x = ((leastShow x).1, (leastShow x).2, true) := by unfold leastShowAns twoMore; rw [hs]; simp [h2c]
      have hbd : bdF (leastShow x) := by
        have key : ∀ n, 0 < n → n ≤ x.2.1.length → bdF ((List.range n).foldl (fun s p => lstep x p s) (0, 0)) := by
          intro n
          induction n with
          | zero => intro h; omega
          | succ n ih =>
            intro _ hn
            rw [List.range_succ, List.foldl_append, List.foldl_cons, List.foldl_nil]
            by_cases hz : n = 0
            · subst hz
              exact lstep_bd f h2c (by omega) (.inl rfl)
            · exact lstep_bd f h2c (by omega) (.inr (ih (by omega) (by omega)))
        exact key _ (by omega) (Nat.le_refl _)
      obtain ⟨b1, b2, b3, b4⟩ := hbd
      rw [if_neg (by simp; omega), spec_LeastOfShow x h, hans, Option.bind_some, keep_all f h2c, show (80 : Int) = ((80 : Nat) : Int) from rfl,
        loopDown (F_spec_LeastToKeep_L1 ((leastShow x).1, (leastShow x).2, true)) (fun L => gOf (L : Int) (leastShow x)) (fun L => some ((L : Int), true)) (by unfold gOf; simp; exact b1) 80 (by omega) (fun m L hL => ?_)]
      have h3 : 0 ≤ (L : Int) * L := Int.mul_nonneg (by omega) (by omega)
      have h4 : (L : Int) * L ≤ 80 * 80 := Int.mul_le_mul (by omega) (by omega) (by omega) (by omega)
      have h5 : 0 ≤ (L : Int) * L * (leastShow x).2 := Int.mul_nonneg h3 (by omega)
      have h6 : (L : Int) * L * (leastShow x).2 ≤ 80 * 80 * 8359936 := Int.mul_le_mul h4 b4 (by omega) (by omega)
      rw [F_spec_LeastToKeep_L1]
      dsimp only
      rw [w64_eq (x := (L : Int) * L) (by omega) (by omega), w64_eq (x := (L : Int) * L * (leastShow x).2) (by omega) (by omega), w64_eq (x := (L : Int) - 1) (by omega) (by omega)]
      unfold gOf
      by_cases hq : (leastShow x).1 < (L : Int) * L * (leastShow x).2
      · rw [if_pos (by simpa using hq), if_neg (by simp; omega)]
      · rw [if_neg (by simpa using hq), if_pos (by simp; omega)]
    · rw [if_pos (by simp; omega)]
      have one : ∀ p, p < x.2.1.length → ∀ L : Nat, keepQ x p L = true := by
        intro p hp L
        have hm := moves_chart f hp
        rw [chartAt_of hc] at hm
        unfold keepQ closeOf
        rw [foldl_nil_iff]
        simp only [List.isEmpty_nil, Bool.true_and, List.all_eq_true]
        intro i hi
        have := List.mem_range.1 hi
        unfold closeRow
        rw [show (movesOf x p).length - (i + 1) = 0 by omega]
        rfl
      have key : ∀ (ps : List Nat), (∀ p ∈ ps, p < x.2.1.length) → ps.foldl (fun L p => dn (keepQ x p) L) 80 = 80 := by
        intro ps
        induction ps with
        | nil => intro _; rfl
        | cons p ps ih =>
          intro hp
          rw [List.foldl_cons, dn_unique (keepQ x p) (one p (hp p (by simp)) 0) (Nat.le_refl 80) (one p (hp p (by simp)) 80) (fun t h1 h2 => by omega)]
          exact ih fun r hr => hp r (by simp [hr])
      rw [key _ fun p hp => List.mem_range.1 hp]
      rfl
end Go.Proofs.Ythlfhcefeaehmaa
