/-
  WHERE PERFORMERS ARE NOW, PLAIN; who is too close.
-/
import Derived.Test.YthlfhcefeaehmaaPSheet
import Derived.Test.YthlfhcefeaehmaaPGoing
set_option linter.unusedSimpArgs false
set_option linter.unusedVariables false
namespace Go.Proofs.Ythlfhcefeaehmaa
open Go
def hereOf (x : MarchT) (i : Nat) (b : Int) : Int × Int := (spotAns (sheetOf x.1 i) (ownC x b)).1
def hereAt (x : MarchT) (i : Nat) : Int × Int := match x.2.2.2[i]? with
  | some b => hereOf x i b
  | none => (0, 0)
theorem hereAt_of {x : MarchT} {i : Nat} {b : Int} (h : x.2.2.2[i]? = some b) : hereAt x i = hereOf x i b := by unfold hereAt; rw [h]
theorem march_own {x : MarchT} (hm : okMarch x = true) {i : Nat} {b : Int} (hb : x.2.2.2[i]? = some b) : ownC x b ≤ 1000 := by
  unfold okMarch at hm
  simp only [Bool.and_eq_true, decide_eq_true_eq, okIn_iff] at hm
  obtain ⟨⟨⟨⟨h1, h2⟩, h3⟩, h4⟩, h5⟩ := hm
  unfold allIn at h5
  have := List.all_eq_true.1 h5 b (List.mem_of_getElem? hb)
  rw [okIn_iff] at this
  unfold ownC minI
  rw [w64_eq (by omega) (by omega)]
  split <;> omega
theorem spec_mnWhere (x : MarchT) (h : lensM x) (hm : okMarch x = true) (i : Nat) (b : Int) (hb : x.2.2.2[i]? = some b) : F_spec_mnWhere x (i : Int) = some (hereOf x i b) := by
  obtain ⟨l1, l2, hs, l3⟩ := march_behind h hm
  have f := facts hs
  have hi := (List.getElem?_eq_some_iff.1 hb).1
  have hi' : i < firstLen' x.1 := by have : firstLen' x.1 = firstLen x.1 := rfl; omega
  have hr : (sheetOf x.1 i).2.2.length < 1073741824 := by have := f.n1; have := f.nc; unfold sheetOf rowsOf; simp; omega
  have hown := march_own hm hb
  unfold F_spec_mnWhere jK2 hereOf
  dsimp only
  rw [spec_shOf x.1 f i hi', Option.bind_some, spec_mnCount x h (by rw [idx_nat]; exact hb), Option.bind_some, spec_SpotAfter _ _ hr (by omega), Option.bind_some]
theorem impl_whereNow (x : MarchT) (h : lensM x) (hm : okMarch x = true) (i : Nat) (b : Int) (hb : x.2.2.2[i]? = some b) : F_impl_whereNow x (i : Int) = some (hereOf x i b) := by
  obtain ⟨l1, l2, hs, l3⟩ := march_behind h hm
  have f := facts hs
  have hi := (List.getElem?_eq_some_iff.1 hb).1
  have hi' : i < firstLen' x.1 := by have : firstLen' x.1 = firstLen x.1 := rfl; omega
  have hr : (sheetOf x.1 i).2.2.length < 1073741824 := by have := f.n1; have := f.nc; unfold sheetOf rowsOf; simp; omega
  have hown := march_own hm hb
  unfold F_impl_whereNow jK2 hereOf
  dsimp only
  rw [impl_sheetOf x.1 f i hi', Option.bind_some, impl_ownCount x h (by rw [idx_nat]; exact hb), Option.bind_some, impl_SpotAfter _ _ hr (by omega), Option.bind_some]
def okPerf (x : MarchT) (i : Int) : Bool := okMarch x && okIn i 0 ((x.2.2.2.length : Int) - 1)
theorem spec_mnHas (x : MarchT) (i : Int) (h : lensM x) : F_spec_mnHas x i = some (okPerf x i) := by
  unfold F_spec_mnHas jK1 okPerf
  have := h.2.2
  dsimp only
  rw [spec_mnGood x h.1 h.2.1 h.2.2, Option.bind_some, w64_eq (by omega) (by omega), spec_l1In, Option.bind_some]
  cases okMarch x <;> simp
theorem impl_hasPerformer (x : MarchT) (i : Int) (h : lensM x) : F_impl_hasPerformer x i = some (okPerf x i) := by
  unfold F_impl_hasPerformer jK1 okPerf
  have := h.2.2
  dsimp only
  rw [impl_IsMarch x h.1 h.2.1 h.2.2, Option.bind_some, w64_eq (by omega) (by omega), impl_within, Option.bind_some]
  cases okMarch x <;> simp
theorem perf_of {x : MarchT} {i : Int} (h : okPerf x i = true) : okMarch x = true ∧ i = ((i.toNat : Nat) : Int) ∧ ∃ b, x.2.2.2[i.toNat]? = some b := by
  unfold okPerf at h
  rw [Bool.and_eq_true, okIn_iff] at h
  exact ⟨h.1, by omega, _, List.getElem?_eq_getElem (by omega)⟩
def whereAns (x : MarchT) (i : Int) : (Int × Int) × Bool := if okPerf x i then (hereAt x i.toNat, true) else ((0, 0), false)
theorem spec_WhereNow (x : MarchT) (i : Int) (h : lensM x) : F_spec_WhereNow x i = some (whereAns x i) := by
  unfold F_spec_WhereNow whereAns
  rw [spec_mnHas x i h, Option.bind_some]
  cases hp : okPerf x i with
  | false => simp
  | true =>
    obtain ⟨hm, e, b, hb⟩ := perf_of hp
    simp only [Bool.not_true, Bool.false_eq_true, if_false, if_true]
    rw [e, Int.toNat_natCast, spec_mnWhere x h hm _ b hb, hereAt_of hb]
    rfl
theorem impl_WhereNow (x : MarchT) (i : Int) (h : lensM x) : F_impl_WhereNow x i = some (whereAns x i) := by
  unfold F_impl_WhereNow whereAns
  rw [impl_hasPerformer x i h, Option.bind_some]
  cases hp : okPerf x i with
  | false => simp
  | true =>
    obtain ⟨hm, e, b, hb⟩ := perf_of hp
    simp only [Bool.not_true, Bool.false_eq_true, if_false, if_true]
    rw [e, Int.toNat_natCast, impl_whereNow x h hm _ b hb, hereAt_of hb]
    rfl
def placesOf (x : MarchT) : List (Int × Int) := (List.range x.2.2.2.length).map (hereAt x)
theorem spec_mnPlaces (x : MarchT) (h : lensM x) (hm : okMarch x = true) : F_spec_mnPlaces x = some (placesOf x) := by
  have hb := march_behind h hm
  unfold F_spec_mnPlaces placesOf
  rw [loopMap (F_spec_mnPlaces_L1 x) x.2.2.2.length (hereAt x) some (by omega) (fun m s k hk hsl => ?_) (fun m s => ?_)]
  · obtain ⟨b, hbk⟩ : ∃ b, x.2.2.2[k]? = some b := ⟨_, List.getElem?_eq_getElem hk⟩
    rw [F_spec_mnPlaces_L1, if_pos (by simp; omega), spec_mnWhere x h hm k b hbk, Option.bind_some, app_ok (by simp; omega), Option.bind_some, w64_succ (by omega), hereAt_of hbk]
  · rw [F_spec_mnPlaces_L1, if_neg (by simp)]
theorem impl_placesNow (x : MarchT) (h : lensM x) (hm : okMarch x = true) : F_impl_placesNow x = some (placesOf x) := by
  have hb := march_behind h hm
  unfold F_impl_placesNow placesOf
  rw [loopMap (F_impl_placesNow_L1 x) x.2.2.2.length (hereAt x) some (by omega) (fun m s k hk hsl => ?_) (fun m s => ?_)]
  · obtain ⟨b, hbk⟩ : ∃ b, x.2.2.2[k]? = some b := ⟨_, List.getElem?_eq_getElem hk⟩
    rw [F_impl_placesNow_L1, if_pos (by simp; omega), impl_whereNow x h hm k b hbk, Option.bind_some, app_ok (by simp; omega), Option.bind_some, w64_succ (by omega), hereAt_of hbk]
  · rw [F_impl_placesNow_L1, if_neg (by simp)]
def placesAns (x : MarchT) : List (Int × Int) × Bool := if okMarch x then (placesOf x, true) else ([], false)
theorem spec_PlacesNow (x : MarchT) (h : lensM x) : F_spec_PlacesNow x = some (placesAns x) := by
  unfold F_spec_PlacesNow placesAns
  rw [spec_mnGood x h.1 h.2.1 h.2.2, Option.bind_some]
  cases hm : okMarch x with
  | false => simp
  | true => simp [spec_mnPlaces x h hm]
theorem impl_PlacesNow (x : MarchT) (h : lensM x) : F_impl_PlacesNow x = some (placesAns x) := by
  unfold F_impl_PlacesNow placesAns
  rw [impl_IsMarch x h.1 h.2.1 h.2.2, Option.bind_some]
  cases hm : okMarch x with
  | false => simp
  | true => simp [impl_placesNow x h hm]
theorem placesOf_len {x : MarchT} (h : lensM x) (hm : okMarch x = true) : (placesOf x).length ≤ 12 := by
  have hb := march_behind h hm
  unfold placesOf
  simp
  omega
theorem placesAns_len (x : MarchT) (h : lensM x) : (placesAns x).1.length ≤ 12 := by
  unfold placesAns
  cases hm : okMarch x with
  | false => simp
  | true => exact placesOf_len h hm
/-! pairs below n that p takes -/
def pairRow (n : Nat) (p : Nat → Nat → Bool) (i : Nat) : List (List Int) := ((List.range' (i + 1) (n - (i + 1))).filter (p i)).map fun (k : Nat) => [(i : Int), (k : Int)]
def pairsOf (n : Nat) (p : Nat → Nat → Bool) : List (List Int) := (List.range n).foldl (fun s i => s ++ pairRow n p i) []
theorem pairRow_len (n : Nat) (p : Nat → Nat → Bool) (i : Nat) : (pairRow n p i).length ≤ n := by
  unfold pairRow
  rw [List.length_map]
  refine Nat.le_trans (List.length_filter_le _ _) ?_
  simp
theorem pairs_len (n : Nat) (p : Nat → Nat → Bool) (hn : n ≤ 1000) : (pairsOf n p).length ≤ 1000 * n := by
  have key : ∀ m, ((List.range m).foldl (fun s i => s ++ pairRow n p i) []).length ≤ 1000 * m := by
    intro m
    induction m with
    | zero => simp
    | succ m ih =>
      have := pairRow_len n p m
      rw [List.range_succ, List.foldl_append, List.foldl_cons, List.foldl_nil, List.length_append]
      omega
  exact key n
theorem pairs_mem (n : Nat) (p : Nat → Nat → Bool) : ∀ q ∈ pairsOf n p, q.length = 2 := by
  have key : ∀ (is : List Nat) (s : List (List Int)), (∀ q ∈ s, q.length = 2) → ∀ q ∈ is.foldl (fun s i => s ++ pairRow n p i) s, q.length = 2 := by
    intro is
    induction is with
    | nil => intro s h q hq; exact h q hq
    | cons i is ih =>
      intro s h q hq
      rw [List.foldl_cons] at hq
      refine ih _ (fun q hq => ?_) q hq
      rcases List.mem_append.1 hq with hq | hq
      · exact h q hq
      · unfold pairRow at hq
        obtain ⟨k, _, rfl⟩ := List.mem_map.1 hq
        rfl
  exact key _ [] (fun q hq => by cases hq)
theorem pairs_loop {R : Type} (f : Nat → List (List Int) → Int → Option R) (n : Nat) (p : Nat → Nat → Bool) (rest : List (List Int) → Option R) (hl : n ≤ 1000)
    (hs : ∀ m s i, i < n → s.length ≤ 1000 * i → f (m + 1) s (i : Int) = f m (s ++ pairRow n p i) ((i + 1 : Nat) : Int)) (he : ∀ m s, f (m + 1) s (n : Int) = rest s) : f FU [] 0 = rest (pairsOf n p) :=
  (loopS f n (fun i s => s ++ pairRow n p i) rest (by omega) (fun i s => s.length ≤ 1000 * i) [] (by simp) (fun i s hi h => by have := pairRow_len n p i; rw [List.length_append]; omega) (fun m i s hi h => hs m s i hi h) (fun m s _ => he m s)).1
def nearNow (ps : List (Int × Int)) (least : Int) (i k : Nat) : Bool := match ps[i]?, ps[k]? with
  | some a, some b => decide (sqOf a b < w64 (least * least))
  | _, _ => false
def tooAns (x : MarchT) : List (List Int) × Bool := if okMarch x then (pairsOf (placesOf x).length (nearNow (placesOf x) x.1.2.2.1), true) else ([], false)
theorem spec_TooCloseNow (x : MarchT) (h : lensM x) : F_spec_TooCloseNow x = some (tooAns x) := by
  unfold F_spec_TooCloseNow tooAns
  rw [spec_mnGood x h.1 h.2.1 h.2.2, Option.bind_some]
  cases hm : okMarch x with
  | false => simp
  | true =>
    have hl := placesOf_len h hm
    simp only [Bool.not_true, Bool.false_eq_true, if_false, if_true]
    rw [spec_mnPlaces x h hm, Option.bind_some]
    generalize placesOf x = ps at *
    refine pairs_loop (F_spec_TooCloseNow_L1 ps x) ps.length (nearNow ps x.1.2.2.1) (fun s => some (s, true)) (by omega) (fun m s i hi hsl => ?_) (fun m s => ?_)
    · obtain ⟨a, ha⟩ : ∃ a, ps[i]? = some a := ⟨_, List.getElem?_eq_getElem hi⟩
      rw [F_spec_TooCloseNow_L1, if_pos (by simp; omega), idx_nat, ha, Option.bind_some, w64_succ (by omega), loopFrom (F_spec_TooCloseNow_L2 ps a x (i : Int) (F_spec_TooCloseNow_L1 ps x m)) ps.length 1073741823 (nearNow ps x.1.2.2.1 i) (fun (k : Nat) => [(i : Int), (k : Int)])
        (fun s => F_spec_TooCloseNow_L1 ps x m s ((i + 1 : Nat) : Int)) (by omega) (fun m' s' k hk hs' => ?_) (fun m' s' => ?_) (i + 1) s (by omega) (by omega)]
      · rfl
      · obtain ⟨b, hb⟩ : ∃ b, ps[k]? = some b := ⟨_, List.getElem?_eq_getElem hk⟩
        have e : nearNow ps x.1.2.2.1 i k = decide (sqOf a b < w64 (x.1.2.2.1 * x.1.2.2.1)) := by unfold nearNow; rw [ha, hb]
        rw [F_spec_TooCloseNow_L2, if_pos (by simp; omega), e]
        unfold jK1
        dsimp only
        rw [idx_nat, hb, Option.bind_some, spec_stSquare, Option.bind_some, app_ok (by simp; omega), w64_succ (k := k) (by omega)]
        by_cases hq : sqOf a b < w64 (x.1.2.2.1 * x.1.2.2.1) <;> simp [hq]
      · rw [F_spec_TooCloseNow_L2, if_neg (by simp), w64_succ (by omega)]
    · rw [F_spec_TooCloseNow_L1, if_neg (by simp)]
theorem impl_TooCloseNow (x : MarchT) (h : lensM x) : F_impl_TooCloseNow x = some (tooAns x) := by
  unfold F_impl_TooCloseNow tooAns
  rw [impl_IsMarch x h.1 h.2.1 h.2.2, Option.bind_some]
  cases hm : okMarch x with
  | false => simp
  | true =>
    have hl := placesOf_len h hm
    simp only [Bool.not_true, Bool.false_eq_true, if_false, if_true]
    rw [impl_placesNow x h hm, Option.bind_some]
    generalize placesOf x = ps at *
    refine pairs_loop (F_impl_TooCloseNow_L1 ps x) ps.length (nearNow ps x.1.2.2.1) (fun s => some (s, true)) (by omega) (fun m s i hi hsl => ?_) (fun m s => ?_)
    · obtain ⟨a, ha⟩ : ∃ a, ps[i]? = some a := ⟨_, List.getElem?_eq_getElem hi⟩
      rw [F_impl_TooCloseNow_L1, if_pos (by simp; omega), w64_succ (by omega), loopFrom (F_impl_TooCloseNow_L2 ps (i : Int) x (F_impl_TooCloseNow_L1 ps x m)) ps.length 1073741823 (nearNow ps x.1.2.2.1 i) (fun (k : Nat) => [(i : Int), (k : Int)])
        (fun s => F_impl_TooCloseNow_L1 ps x m s ((i + 1 : Nat) : Int)) (by omega) (fun m' s' k hk hs' => ?_) (fun m' s' => ?_) (i + 1) s (by omega) (by omega)]
      · rfl
      · obtain ⟨b, hb⟩ : ∃ b, ps[k]? = some b := ⟨_, List.getElem?_eq_getElem hk⟩
        have e : nearNow ps x.1.2.2.1 i k = decide (sqOf a b < w64 (x.1.2.2.1 * x.1.2.2.1)) := by unfold nearNow; rw [ha, hb]
        rw [F_impl_TooCloseNow_L2, if_pos (by simp; omega), e]
        unfold jK1
        dsimp only
        rw [idx_nat, ha, Option.bind_some, idx_nat, hb, Option.bind_some, impl_squareOf, Option.bind_some, app_ok (by simp; omega), w64_succ (k := k) (by omega)]
        by_cases hq : sqOf a b < w64 (x.1.2.2.1 * x.1.2.2.1) <;> simp [hq]
      · rw [F_impl_TooCloseNow_L2, if_neg (by simp), w64_succ (by omega)]
    · rw [F_impl_TooCloseNow_L1, if_neg (by simp)]
theorem tooAns_len (x : MarchT) (h : lensM x) : (tooAns x).1.length ≤ 12000 ∧ ∀ q ∈ (tooAns x).1, q.length = 2 := by
  unfold tooAns
  cases hm : okMarch x with
  | false => simp
  | true =>
    have hl := placesOf_len h hm
    have := pairs_len (placesOf x).length (nearNow (placesOf x) x.1.2.2.1) (by omega)
    simp only [if_true]
    exact ⟨by omega, pairs_mem _ _⟩
end Go.Proofs.Ythlfhcefeaehmaa
