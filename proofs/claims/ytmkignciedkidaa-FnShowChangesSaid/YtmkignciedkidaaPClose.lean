/-
  PAIRS THAT COME TOO CLOSE, PARTS THAT ARE NOT SAFE, PLAIN.
-/
import Derived.Test.YtmkignciedkidaaPApart
set_option linter.unusedSimpArgs false
set_option linter.unusedVariables false
namespace Go.Proofs.Ytmkignciedkidaa
open Go
/-- A loop from k on that keeps what p takes. -/
theorem loopFrom {β R : Type} (f : Nat → List β → Int → Option R) (n B : Nat) (p : Nat → Bool) (g : Nat → β) (rest : List β → Option R) (hn : n < 4611686018427387904)
    (hs : ∀ m s k, k < n → s.length < B → f (m + 1) s (k : Int) = f m (if p k then s ++ [g k] else s) ((k + 1 : Nat) : Int)) (he : ∀ m s, f (m + 1) s (n : Int) = rest s) :
    ∀ (k : Nat) (s : List β), k ≤ n → s.length + (n - k) ≤ B → f FU s (k : Int) = rest (s ++ ((List.range' k (n - k)).filter p).map g) := by
  have key : ∀ d k m s, n - k = d → k ≤ n → n - k < m → s.length + (n - k) ≤ B → f m s (k : Int) = rest (s ++ ((List.range' k (n - k)).filter p).map g) := by
    intro d
    induction d with
    | zero =>
      intro k m s hd hk hm hb
      have : k = n := by omega
      subst this
      cases m with
      | zero => omega
      | succ m => rw [he]; simp
    | succ d ih =>
      intro k m s hd hk hm hb
      cases m with
      | zero => omega
      | succ m =>
        rw [hs m s k (by omega) (by omega), hd, List.range'_succ, List.filter_cons]
        cases hp : p k with
        | false =>
          simp only [Bool.false_eq_true, if_false]
          rw [ih (k + 1) m s (by omega) (by omega) (by omega) (by omega), show n - (k + 1) = d by omega]
        | true =>
          simp only [if_true, List.map_cons]
          rw [ih (k + 1) m (s ++ [g k]) (by omega) (by omega) (by omega) (by simp; omega), show n - (k + 1) = d by omega]
          simp
  exact fun k s hk hb => key _ k FU s rfl hk (FU_gt (by omega)) hb
def stay (u v : MoveT) (least : Int) : Bool := decide (w64 (w64 (least * least) * (near u v).2) ≤ (near u v).1)
def goodMove (u : MoveT) : Prop := okSpot u.1 = true ∧ okSpot u.2.1 = true
theorem impl_stayApart (u v : MoveT) (least : Int) (hu : goodMove u) (hv : goodMove v) : F_impl_stayApart u v least = some (stay u v least) := by
  unfold F_impl_stayApart stay
  rw [impl_leastApart u v hu.1 hu.2 hv.1 hv.2]
  rfl
theorem spec_apStay (u v : MoveT) (least : Int) (hu : goodMove u) (hv : goodMove v) : F_spec_apStay u v least = some (stay u v least) := by
  unfold F_spec_apStay stay
  rw [spec_apLeast u v hu.1 hu.2 hv.1 hv.2]
  rfl
def stayAt (ms : List MoveT) (least : Int) (i k : Nat) : Bool := match ms[i]?, ms[k]? with
  | some u, some v => stay u v least
  | _, _ => true
def closeRow (ms : List MoveT) (least : Int) (i : Nat) : List (List Int) := ((List.range' (i + 1) (ms.length - (i + 1))).filter fun k => !stayAt ms least i k).map fun (k : Nat) => [(i : Int), (k : Int)]
def closeOf (ms : List MoveT) (least : Int) : List (List Int) := (List.range ms.length).foldl (fun s i => s ++ closeRow ms least i) []
theorem closeRow_len (ms : List MoveT) (least : Int) (i : Nat) : (closeRow ms least i).length ≤ ms.length := by
  unfold closeRow
  rw [List.length_map]
  refine Nat.le_trans (List.length_filter_le _ _) ?_
  simp
theorem close_mem (ms : List MoveT) (least : Int) : ∀ q ∈ closeOf ms least, q.length = 2 := by
  have key : ∀ (is : List Nat) (s : List (List Int)), (∀ q ∈ s, q.length = 2) → ∀ q ∈ is.foldl (fun s i => s ++ closeRow ms least i) s, q.length = 2 := by
    intro is
    induction is with
    | nil => intro s h q hq; exact h q hq
    | cons i is ih =>
      intro s h q hq
      rw [List.foldl_cons] at hq
      refine ih _ (fun q hq => ?_) q hq
      rcases List.mem_append.1 hq with hq | hq
      · exact h q hq
      · unfold closeRow at hq
        obtain ⟨k, _, rfl⟩ := List.mem_map.1 hq
        rfl
  exact key _ [] (fun q hq => by cases hq)
theorem close_loop (f : Nat → List (List Int) → Int → Option (List (List Int))) (ms : List MoveT) (least : Int) (hl : ms.length ≤ 1000)
    (hs : ∀ m s i, i < ms.length → s.length ≤ 1000 * i → f (m + 1) s (i : Int) = f m (s ++ closeRow ms least i) ((i + 1 : Nat) : Int)) (he : ∀ m s, f (m + 1) s (ms.length : Int) = some s) :
    f FU [] 0 = some (closeOf ms least) ∧ (closeOf ms least).length ≤ 1000 * ms.length := by
  have := loopS f ms.length (fun i s => s ++ closeRow ms least i) some (by omega) (fun i s => s.length ≤ 1000 * i) [] (by simp) (fun i s hi h => by have := closeRow_len ms least i; rw [List.length_append]; omega) (fun m i s hi h => hs m s i hi h) (fun m s _ => he m s)
  exact this
theorem impl_pairsTooClose (ms : List MoveT) (least : Int) (hl : ms.length ≤ 1000) (hg : ∀ u ∈ ms, goodMove u) : F_impl_pairsTooClose ms least = some (closeOf ms least) := by
  unfold F_impl_pairsTooClose
  refine (close_loop (F_impl_pairsTooClose_L1 ms least) ms least hl (fun m s i hi hsl => ?_) (fun m s => ?_)).1
  · have hmul : 1000 * i ≤ 1000000 := by omega
    rw [F_impl_pairsTooClose_L1, if_pos (by simp; omega), w64_succ (by omega), loopFrom (F_impl_pairsTooClose_L2 ms (i : Int) least (F_impl_pairsTooClose_L1 ms least m)) ms.length 1073741823 (fun k => !stayAt ms least i k) (fun (k : Nat) => [(i : Int), (k : Int)])
      (fun s => F_impl_pairsTooClose_L1 ms least m s ((i + 1 : Nat) : Int)) (by omega) (fun m' s' k hk hs' => ?_) (fun m' s' => ?_) (i + 1) s (by omega) (by omega)]
    · rfl
    · obtain ⟨u, hu⟩ : ∃ u, ms[i]? = some u := ⟨_, List.getElem?_eq_getElem hi⟩
      obtain ⟨v, hv⟩ : ∃ v, ms[k]? = some v := ⟨_, List.getElem?_eq_getElem hk⟩
      have e : stayAt ms least i k = stay u v least := by unfold stayAt; rw [hu, hv]
      rw [F_impl_pairsTooClose_L2, if_pos (by simp; omega), e]
      unfold jK1
      dsimp only
      rw [idx_nat, hu, Option.bind_some, idx_nat, hv, Option.bind_some, impl_stayApart u v least (hg u (List.mem_of_getElem? hu)) (hg v (List.mem_of_getElem? hv)), Option.bind_some, app_ok (by simp; omega), w64_succ (k := k) (by omega)]
      cases stay u v least <;> simp
    · rw [F_impl_pairsTooClose_L2, if_neg (by simp), w64_succ (by omega)]
  · rw [F_impl_pairsTooClose_L1, if_neg (by simp)]
theorem closeOf_len (ms : List MoveT) (least : Int) (hl : ms.length ≤ 1000) (hg : ∀ u ∈ ms, goodMove u) : (closeOf ms least).length ≤ 1000 * ms.length := by
  have key : ∀ n, ((List.range n).foldl (fun s i => s ++ closeRow ms least i) []).length ≤ 1000 * n := by
    intro n
    induction n with
    | zero => simp
    | succ n ih =>
      have := closeRow_len ms least n
      rw [List.range_succ, List.foldl_append, List.foldl_cons, List.foldl_nil, List.length_append]
      omega
  exact key _
theorem spec_swClose (x : ShowT) (f : ShowFacts x) (p : Nat) (hp : p < x.2.1.length) (hg : ∀ u ∈ movesOf x p, goodMove u) : F_spec_swClose x (p : Int) = some (closeOf (movesOf x p) x.2.2.1) := by
  have hl := moves_len x f p hp
  unfold F_spec_swClose
  rw [spec_swMoves x f p hp, Option.bind_some]
  generalize movesOf x p = ms at *
  refine (close_loop (F_spec_swClose_L1 ms x) ms x.2.2.1 (by omega) (fun m s i hi hsl => ?_) (fun m s => ?_)).1
  · have hmul : 1000 * i ≤ 1000000 := by omega
    obtain ⟨u, hu⟩ : ∃ u, ms[i]? = some u := ⟨_, List.getElem?_eq_getElem hi⟩
    rw [F_spec_swClose_L1, if_pos (by simp; omega), idx_nat, hu, Option.bind_some, w64_succ (by omega), loopFrom (F_spec_swClose_L2 ms u x (i : Int) (F_spec_swClose_L1 ms x m)) ms.length 1073741823 (fun k => !stayAt ms x.2.2.1 i k) (fun (k : Nat) => [(i : Int), (k : Int)])
      (fun s => F_spec_swClose_L1 ms x m s ((i + 1 : Nat) : Int)) (by omega) (fun m' s' k hk hs' => ?_) (fun m' s' => ?_) (i + 1) s (by omega) (by omega)]
    · rfl
    · obtain ⟨v, hv⟩ : ∃ v, ms[k]? = some v := ⟨_, List.getElem?_eq_getElem hk⟩
      have e : stayAt ms x.2.2.1 i k = stay u v x.2.2.1 := by unfold stayAt; rw [hu, hv]
      rw [F_spec_swClose_L2, if_pos (by simp; omega), e]
      unfold jK1
      dsimp only
      rw [idx_nat, hv, Option.bind_some, spec_apStay u v x.2.2.1 (hg u (List.mem_of_getElem? hu)) (hg v (List.mem_of_getElem? hv)), Option.bind_some, app_ok (by simp; omega), w64_succ (k := k) (by omega)]
      cases stay u v x.2.2.1 <;> simp
    · rw [F_spec_swClose_L2, if_neg (by simp), w64_succ (by omega)]
  · rw [F_spec_swClose_L1, if_neg (by simp)]
theorem chart_spots {c : List (Int × Int)} (h : okChart c = true) : ∀ s ∈ c, okSpot s = true := by
  intro s hs
  unfold okChart at h
  rw [Bool.and_eq_true] at h
  obtain ⟨k, hk⟩ := List.getElem?_of_mem hs
  have := List.all_eq_true.1 h.2 k (List.mem_range.2 (List.getElem?_eq_some_iff.1 hk).1)
  rw [newAt_of hk, Bool.and_eq_true] at this
  exact this.1
theorem moves_good {x : ShowT} (f : ShowFacts x) {p : Nat} (hp : p < x.2.1.length) : ∀ u ∈ movesOf x p, goodMove u := by
  intro u hu
  obtain ⟨a, b, n, h1, h2, h3, h4, h5, h6, h7, h8⟩ := part_facts f hp
  unfold movesOf at hu
  rw [List.mem_map] at hu
  obtain ⟨i, hi, rfl⟩ := hu
  rw [chartAt_of h1, List.mem_range] at hi
  rw [chartAt_of h1, chartAt_of h2]
  refine ⟨?_, ?_⟩
  · dsimp only
    rw [List.getElem?_eq_getElem hi]
    exact chart_spots (f.ch a (List.mem_of_getElem? h1)) _ (List.getElem_mem hi)
  · dsimp only
    have hi' : i < b.length := by omega
    rw [List.getElem?_eq_getElem hi']
    exact chart_spots (f.ch b (List.mem_of_getElem? h2)) _ (List.getElem_mem hi')
def closeAns (x : ShowT) (p : Int) : List (List Int) × Bool := if okPart x p then (closeOf (movesOf x p.toNat) x.2.2.1, true) else ([], false)
theorem spec_ClosePairs (x : ShowT) (p : Int) (h : lensOk x) : F_spec_ClosePairs x p = some (closeAns x p) := by
  unfold F_spec_ClosePairs closeAns
  rw [spec_swHas x p h, Option.bind_some]
  cases hp : okPart x p with
  | false => simp
  | true =>
    obtain ⟨f, e, hlt⟩ := part_of hp
    simp only [Bool.not_true, Bool.false_eq_true, if_false, if_true]
    rw [e, Int.toNat_natCast, spec_swClose x f _ hlt (moves_good f hlt)]
    rfl
theorem impl_ClosePairs (x : ShowT) (p : Int) (h : lensOk x) : F_impl_ClosePairs x p = some (closeAns x p) := by
  unfold F_impl_ClosePairs closeAns
  rw [impl_isPart x p h, Option.bind_some]
  cases hp : okPart x p with
  | false => simp
  | true =>
    obtain ⟨f, e, hlt⟩ := part_of hp
    have hl := moves_len x f _ hlt
    simp only [Bool.not_true, Bool.false_eq_true, if_false, if_true]
    rw [e, Int.toNat_natCast, impl_showMoves x f _ hlt, Option.bind_some, impl_pairsTooClose _ _ (by omega) (moves_good f hlt)]
    rfl
theorem closeAns_len (x : ShowT) (p : Int) : (closeAns x p).1.length ≤ 12000 ∧ ∀ q ∈ (closeAns x p).1, q.length = 2 := by
  unfold closeAns
  cases hp : okPart x p with
  | false => simp
  | true =>
    obtain ⟨f, e, hlt⟩ := part_of hp
    have hl := moves_len x f _ hlt
    have := closeOf_len (movesOf x p.toNat) x.2.2.1 (by omega) (moves_good f hlt)
    simp only [if_true]
    exact ⟨by omega, close_mem _ _⟩
/-! parts that are not safe -/
end Go.Proofs.Ytmkignciedkidaa
