/-
  SUMS OF WAYS, PLAIN; what shows demand.
-/
import Derived.Test.YtcndhhjolnebdaaPPart
set_option linter.unusedSimpArgs false
set_option linter.unusedVariables false
namespace Go.Proofs.Ytcndhhjolnebdaa
open Go
def addStep (sq : List Int) (k : Nat) (s : List Int) : List Int := match s[k]?, sq[k]? with
  | some a, some u => s.set k (w64 (a + u))
  | _, _ => s
def addTo (sq s : List Int) : List Int := (List.range sq.length).foldl (fun s k => addStep sq k s) s
theorem addStep_len (sq : List Int) (k : Nat) (s : List Int) : (addStep sq k s).length = s.length := by
  unfold addStep
  split <;> simp
theorem add_loop {R : Type} (f : Nat → List Int → Int → Option R) (sq s0 : List Int) (rest : List Int → Option R) (hl : sq.length < 4611686018427387904) (h0 : s0.length = sq.length)
    (hs : ∀ m s k a u, k < sq.length → s[k]? = some a → sq[k]? = some u → f (m + 1) s (k : Int) = f m (s.set k (w64 (a + u))) ((k + 1 : Nat) : Int)) (he : ∀ m s, f (m + 1) s (sq.length : Int) = rest s) :
    f FU s0 0 = rest (addTo sq s0) ∧ (addTo sq s0).length = sq.length := by
  refine loopS f sq.length (fun k s => addStep sq k s) rest hl (fun _ s => s.length = sq.length) s0 h0 (fun k s hk hi => by rw [addStep_len]; exact hi) (fun m k s hk hi => ?_) (fun m s _ => he m s)
  have hx : s[k]? = some (s[k]'(by omega)) := List.getElem?_eq_getElem (by omega)
  have hy : sq[k]? = some sq[k] := List.getElem?_eq_getElem hk
  rw [hs m s k _ _ hk hx hy]
  unfold addStep
  rw [hx, hy]
def squaresOf (x : ShowT) (p : Nat) : List Int := (movesOf x p).map sqM
def waysOf (x : ShowT) : List Int := (List.range x.2.1.length).foldl (fun s p => addTo (squaresOf x p) s) (List.replicate (chartAt x 0).length 0)
theorem moves_len' {x : ShowT} (f : ShowFacts x) {p : Nat} (hp : p < x.2.1.length) : (movesOf x p).length = (chartAt x 0).length := by
  obtain ⟨a, b, n, h1, h2, h3, h4, h5, h6, h7, h8⟩ := part_facts f hp
  have := f.n0
  obtain ⟨c, hc⟩ : ∃ c, x.1[0]? = some c := ⟨_, List.getElem?_eq_getElem (by omega)⟩
  unfold movesOf
  rw [chartAt_of h1, chartAt_of hc, List.length_map, List.length_range]
  exact chart_len f h1 hc
theorem first_chart {x : ShowT} (f : ShowFacts x) : ∃ c, x.1[0]? = some c ∧ chartAt x 0 = c ∧ 1 ≤ c.length ∧ c.length ≤ 12 := by
  have := f.n0
  obtain ⟨c, hc⟩ : ∃ c, x.1[0]? = some c := ⟨_, List.getElem?_eq_getElem (by omega)⟩
  have := f.cl c (List.mem_of_getElem? hc)
  exact ⟨c, hc, chartAt_of hc, this.1, this.2⟩
theorem spec_cpWays (x : ShowT) (f : ShowFacts x) : F_spec_cpWays x = some (waysOf x) ∧ (waysOf x).length ≤ 12 := by
  have h1 := f.n1
  have h2 := f.nc
  obtain ⟨c, hc, he, hl, hu⟩ := first_chart f
  have := loopS (F_spec_cpWays_L1 x) x.2.1.length (fun p s => addTo (squaresOf x p) s) some (by omega) (fun _ s => s.length = (chartAt x 0).length) (List.replicate (chartAt x 0).length 0) (by simp) (fun p s hp hi => ?_) (fun m p s hp hi => ?_) (fun m s _ => ?_)
  · unfold F_spec_cpWays waysOf
    rw [idx_zero, hc, Option.bind_some, mkL_nat (by omega), Option.bind_some]
    rw [he] at this ⊢
    exact ⟨this.1, by rw [this.2]; exact hu⟩
  · have hlen := moves_len' f hp
    have hsq : (squaresOf x p).length = (chartAt x 0).length := by unfold squaresOf; rw [List.length_map, hlen]
    have key : ∀ (ks : List Nat) (s : List Int), (ks.foldl (fun s k => addStep (squaresOf x p) k s) s).length = s.length := by
      intro ks
      induction ks with
      | nil => intro s; rfl
      | cons k ks ih => intro s; rw [List.foldl_cons, ih, addStep_len]
    unfold addTo
    rw [key, hi]
  · have hlen := moves_len' f hp
    have hsq : (squaresOf x p).length = (chartAt x 0).length := by unfold squaresOf; rw [List.length_map, hlen]
    rw [F_spec_cpWays_L1, if_pos (by simp; omega), spec_cpSquares x f p hp, Option.bind_some]
    have := (add_loop (F_spec_cpWays_L2 (squaresOf x p) (F_spec_cpWays_L1 x m) (p : Int)) (squaresOf x p) s (fun s => F_spec_cpWays_L1 x m s ((p + 1 : Nat) : Int)) (by rw [hsq, he]; omega) (by omega) (fun m' s' k a u hk ha hu => ?_) (fun m' s' => ?_)).1
    · exact this
    · rw [F_spec_cpWays_L2, if_pos (by simp; omega), idx_nat, hu, Option.bind_some, idx_nat, ha, Option.bind_some, Option.bind_some, seti_nat, w64_succ (k := k) (by rw [hsq, he] at hk; omega)]
    · rw [F_spec_cpWays_L2, if_neg (by simp), w64_succ (by omega)]
  · rw [F_spec_cpWays_L1, if_neg (by simp)]
theorem impl_waySums (x : ShowT) (f : ShowFacts x) : F_impl_waySums x = some (waysOf x) := by
  have h1 := f.n1
  have h2 := f.nc
  obtain ⟨c, hc, he, hl, hu⟩ := first_chart f
  have := loopS (F_impl_waySums_L1 x) x.2.1.length (fun p s => addTo (squaresOf x p) s) some (by omega) (fun _ s => s.length = (chartAt x 0).length) (List.replicate (chartAt x 0).length 0) (by simp) (fun p s hp hi => ?_) (fun m p s hp hi => ?_) (fun m s _ => ?_)
  · unfold F_impl_waySums waysOf
    rw [idx_zero, hc, Option.bind_some, mkL_nat (by omega), Option.bind_some]
    rw [he] at this ⊢
    exact this.1
  · have hlen := moves_len' f hp
    have key : ∀ (ks : List Nat) (s : List Int), (ks.foldl (fun s k => addStep (squaresOf x p) k s) s).length = s.length := by
      intro ks
      induction ks with
      | nil => intro s; rfl
      | cons k ks ih => intro s; rw [List.foldl_cons, ih, addStep_len]
    unfold addTo
    rw [key, hi]
  · have hlen := moves_len' f hp
    have hsq : (squaresOf x p).length = (movesOf x p).length := by unfold squaresOf; rw [List.length_map]
    rw [F_impl_waySums_L1, if_pos (by simp; omega), impl_showMoves x f p hp, Option.bind_some]
    have := (add_loop (F_impl_waySums_L2 (movesOf x p) (F_impl_waySums_L1 x m) (p : Int)) (squaresOf x p) s (fun s => F_impl_waySums_L1 x m s ((p + 1 : Nat) : Int)) (by rw [hsq, hlen, he]; omega) (by omega) (fun m' s' k a u hk ha hu => ?_) (fun m' s' => ?_)).1
    · exact this
    · have hk' : k < (movesOf x p).length := by omega
      have hm : (movesOf x p)[k]? = some (movesOf x p)[k] := List.getElem?_eq_getElem hk'
      have hsm : u = sqM (movesOf x p)[k] := by
        unfold squaresOf at hu
        rw [List.getElem?_map, hm] at hu
        exact (Option.some.inj hu).symm
      rw [F_impl_waySums_L2, if_pos (by simp; omega)]
      unfold jK1
      dsimp only
      rw [idx_nat, hm, Option.bind_some, idx_nat, ha, Option.bind_some, impl_squareOf, Option.bind_some, Option.bind_some, seti_nat, w64_succ (k := k) (by rw [hlen, he] at hk'; omega), hsm]
      rfl
    · rw [hsq, F_impl_waySums_L2, if_neg (by simp), w64_succ (by omega)]
  · rw [F_impl_waySums_L1, if_neg (by simp)]
def waysAns (x : ShowT) : List Int × Bool := if okShow x then (waysOf x, true) else ([], false)
theorem waysOf_len {x : ShowT} (f : ShowFacts x) : (waysOf x).length ≤ 12 := by
  obtain ⟨c, hc, he, hl, hu⟩ := first_chart f
  have key : ∀ (sq : List Int) (ks : List Nat) (s : List Int), (ks.foldl (fun s k => addStep sq k s) s).length = s.length := by
    intro sq ks
    induction ks with
    | nil => intro s; rfl
    | cons k ks ih => intro s; rw [List.foldl_cons, ih, addStep_len]
  have key2 : ∀ (ps : List Nat) (s : List Int), (ps.foldl (fun s p => addTo (squaresOf x p) s) s).length = s.length := by
    intro ps
    induction ps with
    | nil => intro s; rfl
    | cons p ps ih => intro s; rw [List.foldl_cons, ih]; unfold addTo; rw [key]
  unfold waysOf
  rw [key2, List.length_replicate, he]
  exact hu
theorem waysAns_len (x : ShowT) : (waysAns x).1.length ≤ 12 := by
  unfold waysAns
  cases hs : okShow x with
  | false => simp
  | true => exact waysOf_len (facts hs)
end Go.Proofs.Ytcndhhjolnebdaa
