/-
  LEAST COUNTS, PLAIN.
-/
import Derived.Test.YtadklddedeoniaaPPart
set_option linter.unusedSimpArgs false
set_option linter.unusedVariables false
namespace Go.Proofs.Ytadklddedeoniaa
open Go
theorem spec_stTwo (a b : Int × Int) : F_spec_stTwo a b = some (okSpot a && okSpot b) := by
  unfold F_spec_stTwo jK1
  dsimp only
  rw [spec_stGood, Option.bind_some, spec_stGood, Option.bind_some]
  cases okSpot a <;> simp
/-- The least counts for a way: 65 where there are none. -/
def leastN (a b : Int × Int) (s : Int) : Nat := upTo (fun n => withinB (a, b, (n : Int)) s) 64 1
def countsC (a b : Int × Int) (s : Int) : Int × Bool := if leastN a b s ≤ 64 then ((leastN a b s : Int), true) else (0, false)
def countsFor (a b : Int × Int) (s : Int) : Int × Bool := if okSpot a && okSpot b && okIn s 1 24 then countsC a b s else (0, false)
theorem counts_loop (f : Nat → Int → Option (Int × Bool)) (a b : Int × Int) (s : Int)
    (hs : ∀ m y, f (m + 1) y = if (decide (y ≤ 64)) = true then (if withinB (a, b, y) s = true then some (y, true) else f m (w64 (y + 1))) else some (0, false)) : f FU 1 = some (countsC a b s) := by
  have := loopUp f 65 (fun n => withinB (a, b, (n : Int)) s) (fun y => if y ≤ 64 then some (y, true) else some (0, false)) 1 (by omega) (fun m n h1 h2 => ?_) (fun m => ?_) (by omega)
  · rw [show ((1 : Nat) : Int) = 1 from rfl, show (65 - 1 : Nat) = 64 from rfl] at this
    rw [this]
    unfold countsC leastN
    have h := upTo_spec (fun n => withinB (a, b, (n : Int)) s) 64 1
    by_cases hq : upTo (fun n => withinB (a, b, (n : Int)) s) 64 1 ≤ 64
    · rw [if_pos hq, if_pos (by omega)]
    · rw [if_neg hq, if_neg (by omega)]
  · have h3 : (n : Int) ≤ 64 := by omega
    rw [hs, if_pos (by simpa using h3), w64_succ (by omega), if_pos h3]
  · rw [hs, if_neg (by decide), if_neg (by decide)]
theorem spec_LeastCounts (a b : Int × Int) (s : Int) : F_spec_LeastCounts a b s = some (countsFor a b s) := by
  unfold F_spec_LeastCounts jK1 countsFor
  dsimp only
  rw [spec_stTwo, Option.bind_some, spec_mvStep, Option.bind_some]
  cases okSpot a && okSpot b with
  | false => simp
  | true =>
    cases okIn s 1 24 with
    | false => simp
    | true =>
      simp only [Bool.not_true, Bool.false_eq_true, if_false, Bool.and_self, if_true]
      exact counts_loop (F_spec_LeastCounts_L1 a b s) a b s fun m y => by rw [F_spec_LeastCounts_L1, spec_mvWithin]; rfl
theorem impl_LeastCounts (a b : Int × Int) (s : Int) : F_impl_LeastCounts a b s = some (countsFor a b s) := by
  unfold F_impl_LeastCounts jK1 countsFor
  dsimp only
  rw [impl_IsSpot, Option.bind_some, impl_IsSpot, Option.bind_some, impl_within, Option.bind_some]
  cases okSpot a with
  | false => simp
  | true =>
    cases okSpot b with
    | false => simp
    | true =>
      cases okIn s 1 24 with
      | false => simp
      | true =>
        simp only [Bool.not_true, Bool.false_eq_true, if_false, Bool.and_self, if_true]
        exact counts_loop (F_impl_LeastCounts_L1 a b s) a b s fun m y => by rw [F_impl_LeastCounts_L1, impl_withinStep]; rfl
theorem countsFor_ge (a b : Int × Int) (s : Int) (h : (countsFor a b s).2 = true) : 1 ≤ (countsFor a b s).1 := by
  unfold countsFor at h ⊢
  split at h
  · rename_i hq
    rw [if_pos hq]
    unfold countsC leastN at h ⊢
    have := (upTo_spec (fun n => withinB (a, b, (n : Int)) s) 64 1).1
    split at h
    · rename_i h2
      rw [if_pos h2]
      show (1 : Int) ≤ ((upTo (fun n => withinB (a, b, (n : Int)) s) 64 1 : Nat) : Int)
      omega
    · cases h
  · cases h
/-- The greatest of least counts, from one on. -/
def mostC (x : ShowT) : List MoveT → Int → Int
  | [], s => s
  | u :: ms, s => mostC x ms (maxI s (countsFor u.1 u.2.1 x.2.2.2).1)
def goodC (x : ShowT) (u : MoveT) : Bool := (countsFor u.1 u.2.1 x.2.2.2).2
theorem most_loop {R : Type} (f : Nat → Int → Int → Option R) (x : ShowT) (ms : List MoveT) (bad : Option R) (rest : Int → Option R) (hl : ms.length < 4611686018427387904)
    (hs : ∀ m s y, f (m + 1) s y = if (decide (y < (List.length ms : Int))) = true then Option.bind (idx ms y) fun u => (if (!(countsFor u.1 u.2.1 x.2.2.2).2) = true then bad else f m (maxI s (countsFor u.1 u.2.1 x.2.2.2).1) (w64 (y + 1))) else rest s) :
    ∀ s, f FU s 0 = if ms.all (goodC x) = true then rest (mostC x ms s) else bad := by
  have key : ∀ d k m s, ms.length - k = d → k ≤ ms.length → ms.length - k < m → f m s (k : Int) = if (ms.drop k).all (goodC x) = true then rest (mostC x (ms.drop k) s) else bad := by
    intro d
    induction d with
    | zero =>
      intro k m s hd hk hm
      have : k = ms.length := by omega
      subst this
      cases m with
      | zero => omega
      | succ m => rw [hs, if_neg (by simp)]; simp [mostC]
    | succ d ih =>
      intro k m s hd hk hm
      cases m with
      | zero => omega
      | succ m =>
        have hk' : k < ms.length := by omega
        rw [hs, if_pos (by simp; omega), idx_lt hk', Option.bind_some, List.drop_eq_getElem_cons hk', List.all_cons, mostC, w64_succ (by omega)]
        unfold goodC
        cases hq : (countsFor ms[k].1 ms[k].2.1 x.2.2.2).2 with
        | false => simp
        | true =>
          simp only [Bool.not_true, Bool.false_eq_true, if_false, Bool.true_and]
          exact ih (k + 1) m _ (by omega) (by omega) (by omega)
  intro s
  have := key _ 0 FU s rfl (by omega) (FU_gt (by omega))
  rw [List.drop_zero] at this
  exact this
theorem most_same (x : ShowT) (ms : List MoveT) (h : ms.all (goodC x) = true) (h0 : ms ≠ []) : mostC x ms 1 = mostC x ms 0 := by
  cases ms with
  | nil => exact absurd rfl h0
  | cons u ms =>
    rw [List.all_cons, Bool.and_eq_true] at h
    have := countsFor_ge u.1 u.2.1 x.2.2.2 h.1
    unfold mostC maxI
    rw [show (if 1 < (countsFor u.1 u.2.1 x.2.2.2).1 then (countsFor u.1 u.2.1 x.2.2.2).1 else 1) = (if 0 < (countsFor u.1 u.2.1 x.2.2.2).1 then (countsFor u.1 u.2.1 x.2.2.2).1 else 0) by split <;> split <;> omega]
def partGood (x : ShowT) (p : Nat) : Bool := (movesOf x p).all (goodC x)
def leastCs (x : ShowT) : List Int × Bool := if (List.range x.2.1.length).all (partGood x) = true then ((List.range x.2.1.length).map fun p => mostC x (movesOf x p) 1, true) else ([], false)
/-- A loop that appends, and may end early. -/
theorem loopMapAll {β R : Type} (f : Nat → List β → Int → Option R) (n : Nat) (q : Nat → Bool) (g : Nat → β) (rest : List β → Option R) (bad : Option R) (hn : n < 4611686018427387904)
    (hs : ∀ m s k, k < n → s.length = k → f (m + 1) s (k : Int) = if q k = true then f m (s ++ [g k]) ((k + 1 : Nat) : Int) else bad) (he : ∀ m s, f (m + 1) s (n : Int) = rest s) :
    f FU [] 0 = if (List.range n).all q = true then rest ((List.range n).map g) else bad := by
  have key : ∀ d k m s, n - k = d → k ≤ n → n - k < m → s.length = k → f m s (k : Int) = if (List.range' k (n - k)).all q = true then rest (s ++ (List.range' k (n - k)).map g) else bad := by
    intro d
    induction d with
    | zero =>
      intro k m s hd hk hm hl
      have : k = n := by omega
      subst this
      cases m with
      | zero => omega
      | succ m => rw [he]; simp
    | succ d ih =>
      intro k m s hd hk hm hl
      cases m with
      | zero => omega
      | succ m =>
        rw [hs m s k (by omega) hl, hd, List.range'_succ, List.all_cons]
        cases hq : q k with
        | false => simp
        | true =>
          simp only [if_true, Bool.true_and, List.map_cons]
          rw [ih (k + 1) m _ (by omega) (by omega) (by omega) (by simp [hl]), show n - (k + 1) = d by omega]
          simp
  have := key n 0 FU [] (by omega) (by omega) (FU_gt (by omega)) rfl
  simpa [List.range_eq_range'] using this
def leastCsAns (x : ShowT) : List Int × Bool := if okShow x then leastCs x else ([], false)
theorem spec_LeastCountsOf (x : ShowT) (h : lensOk x) : F_spec_LeastCountsOf x = some (leastCsAns x) := by
  unfold F_spec_LeastCountsOf leastCsAns
  rw [spec_swGood x h.1 h.2.1 h.2.2, Option.bind_some]
  cases hs : okShow x with
  | false => simp
  | true =>
    have f := facts hs
    have h1 := f.n1
    have h2 := f.nc
    simp only [Bool.not_true, Bool.false_eq_true, if_false, if_true]
    rw [loopMapAll (F_spec_LeastCountsOf_L1 x) x.2.1.length (partGood x) (fun p => mostC x (movesOf x p) 1) (fun s => some (s, true)) (some ([], false)) (by omega) (fun m s p hp hsl => ?_) (fun m s => ?_)]
    · unfold leastCs
      split <;> rfl
    · have hl := moves_len x f p hp
      rw [F_spec_LeastCountsOf_L1, if_pos (by simp; omega), spec_swMoves x f p hp, Option.bind_some,
        most_loop (F_spec_LeastCountsOf_L2 (movesOf x p) x s (F_spec_LeastCountsOf_L1 x m) (p : Int)) x (movesOf x p) (some ([], false)) (fun t => F_spec_LeastCountsOf_L1 x m (s ++ [t]) ((p + 1 : Nat) : Int)) (by omega) (fun m' t y => ?_) 1]
      · rfl
      · rw [F_spec_LeastCountsOf_L2, app_ok (by simp; omega), Option.bind_some, w64_succ (k := p) (by omega)]
        congr 1
        congr 1
        funext u
        rw [spec_LeastCounts, Option.bind_some]
        congr 1
        unfold F_spec_l1Most maxI
        by_cases hq : t < (countsFor u.1 u.2.1 x.2.2.2).1
        · rw [if_neg (by simp; omega), if_pos hq]; rfl
        · by_cases hq2 : (countsFor u.1 u.2.1 x.2.2.2).1 < t
          · rw [if_pos (by simpa using hq2), if_neg hq]; rfl
          · rw [if_neg (by simpa using hq2), if_neg hq, show (countsFor u.1 u.2.1 x.2.2.2).1 = t by omega]; rfl
    · rw [F_spec_LeastCountsOf_L1, if_neg (by simp)]
theorem impl_LeastCountsOf (x : ShowT) (h : lensOk x) : F_impl_LeastCountsOf x = some (leastCsAns x) := by
  unfold F_impl_LeastCountsOf leastCsAns
  rw [impl_IsShow x h.1 h.2.1 h.2.2, Option.bind_some]
  cases hs : okShow x with
  | false => simp
  | true =>
    have f := facts hs
    have h1 := f.n1
    have h2 := f.nc
    simp only [Bool.not_true, Bool.false_eq_true, if_false, if_true]
    rw [loopMapAll (F_impl_LeastCountsOf_L1 x) x.2.1.length (partGood x) (fun p => mostC x (movesOf x p) 1) (fun s => some (s, true)) (some ([], false)) (by omega) (fun m s p hp hsl => ?_) (fun m s => ?_)]
    · unfold leastCs
      split <;> rfl
    · have hl := moves_len x f p hp
      have hne : movesOf x p ≠ [] := by
        obtain ⟨a, b, n, g1, _, _, _, g5, _⟩ := part_facts f hp
        intro e
        have : (movesOf x p).length = 0 := by rw [e]; rfl
        unfold movesOf at this
        rw [chartAt_of g1] at this
        simp at this
        rw [this] at g5
        simp at g5
      rw [F_impl_LeastCountsOf_L1, if_pos (by simp; omega), impl_showMoves x f p hp, Option.bind_some,
        most_loop (F_impl_LeastCountsOf_L2 (movesOf x p) x s (F_impl_LeastCountsOf_L1 x m) (p : Int)) x (movesOf x p) (some ([], false)) (fun t => F_impl_LeastCountsOf_L1 x m (s ++ [t]) ((p + 1 : Nat) : Int)) (by omega) (fun m' t y => ?_) 0]
      · unfold partGood
        split
        · rename_i hall
          rw [most_same x _ hall hne]
        · rfl
      · rw [F_impl_LeastCountsOf_L2, app_ok (by simp; omega), Option.bind_some, w64_succ (k := p) (by omega)]
        congr 1
        congr 1
        funext u
        rw [impl_LeastCounts, Option.bind_some]
    · rw [F_impl_LeastCountsOf_L1, if_neg (by simp)]
theorem leastCsAns_len (x : ShowT) : (leastCsAns x).1.length ≤ 8 := by
  unfold leastCsAns
  cases hs : okShow x with
  | false => simp
  | true =>
    have f := facts hs
    have := f.n1
    have := f.nc
    simp only [if_true]
    unfold leastCs
    split <;> simp
    omega
end Go.Proofs.Ytadklddedeoniaa
