/-
  THE MOVES OF A PART, PLAIN.
-/
import Derived.Test.YtmkignciedkidaaPSame
set_option linter.unusedSimpArgs false
set_option linter.unusedVariables false
namespace Go.Proofs.Ytmkignciedkidaa
open Go
/-- A loop that puts one thing after another for the numbers below n. -/
theorem loopMap {β R : Type} (f : Nat → List β → Int → Option R) (n : Nat) (g : Nat → β) (rest : List β → Option R) (hn : n < 4611686018427387904)
    (hs : ∀ m s k, k < n → s.length = k → f (m + 1) s (k : Int) = f m (s ++ [g k]) ((k + 1 : Nat) : Int)) (he : ∀ m s, f (m + 1) s (n : Int) = rest s) : f FU [] 0 = rest ((List.range n).map g) := by
  have h := loopS f n (fun k s => s ++ [g k]) rest hn (fun k s => s = (List.range k).map g) [] (by simp) (fun k s hk hi => by rw [List.range_succ, List.map_append, hi]; simp) (fun m k s hk hi => hs m s k hk (by rw [hi]; simp)) (fun m s hi => he m s)
  rw [h.1, h.2]
abbrev MoveT := (Int × Int) × (Int × Int) × Int
def chartAt (x : ShowT) (p : Nat) : List (Int × Int) := (x.1[p]?).getD []
def countsAt (x : ShowT) (p : Nat) : Int := (x.2.1[p]?).getD 0
def movesOf (x : ShowT) (p : Nat) : List MoveT := (List.range (chartAt x p).length).map fun i => (((chartAt x p)[i]?).getD (0, 0), ((chartAt x (p + 1))[i]?).getD (0, 0), countsAt x p)
theorem chartAt_of {x : ShowT} {p : Nat} {c : List (Int × Int)} (h : x.1[p]? = some c) : chartAt x p = c := by unfold chartAt; rw [h]; rfl
theorem part_facts {x : ShowT} (f : ShowFacts x) {p : Nat} (hp : p < x.2.1.length) : ∃ a b n, x.1[p]? = some a ∧ x.1[p + 1]? = some b ∧ x.2.1[p]? = some n ∧ a.length = b.length ∧ 1 ≤ a.length ∧ a.length ≤ 12 ∧ 1 ≤ n ∧ n ≤ 64 := by
  have h1 := f.nc
  have h2 := f.n0
  obtain ⟨a, ha⟩ : ∃ c, x.1[p]? = some c := ⟨_, List.getElem?_eq_getElem (by omega)⟩
  obtain ⟨b, hb⟩ : ∃ c, x.1[p + 1]? = some c := ⟨_, List.getElem?_eq_getElem (by omega)⟩
  obtain ⟨n, hn⟩ : ∃ c, x.2.1[p]? = some c := ⟨_, List.getElem?_eq_getElem (by omega)⟩
  obtain ⟨c, hc⟩ : ∃ c, x.1[0]? = some c := ⟨_, List.getElem?_eq_getElem (by omega)⟩
  have l := f.cl a (List.mem_of_getElem? ha)
  have m := f.cn n (List.mem_of_getElem? hn)
  exact ⟨a, b, n, ha, hb, hn, by rw [chart_len f ha hc, chart_len f hb hc], l.1, l.2, m.1, m.2⟩
theorem moves_loop (F : Nat → List MoveT → Int → Option (List MoveT)) (x : ShowT) (f : ShowFacts x) (p : Nat) (hp : p < x.2.1.length) (a : List (Int × Int)) (ha : x.1[p]? = some a)
    (hs : ∀ m s y, F (m + 1) s y = if (decide (y < (List.length a : Int))) = true then Option.bind (idx a y) fun u => Option.bind (idx x.1 (w64 ((p : Int) + 1))) fun b => Option.bind (idx b y) fun v => Option.bind (idx x.2.1 (p : Int)) fun c =>
      Option.bind (app s [(u, v, c)]) fun z => F m z (w64 (y + 1)) else some s) : F FU [] 0 = some (movesOf x p) := by
  obtain ⟨a', b, n, h1, h2, h3, h4, h5, h6, h7, h8⟩ := part_facts f hp
  rw [ha] at h1
  cases h1
  have hp8 := f.n1
  have hpc := f.nc
  rw [loopMap F a.length (fun i => (((chartAt x p)[i]?).getD (0, 0), ((chartAt x (p + 1))[i]?).getD (0, 0), countsAt x p)) some (by omega) (fun m s k hk hsl => ?_) (fun m s => ?_)]
  · unfold movesOf
    rw [chartAt_of ha]
  · obtain ⟨u, hu⟩ : ∃ u, a[k]? = some u := ⟨_, List.getElem?_eq_getElem hk⟩
    obtain ⟨v, hv⟩ : ∃ v, b[k]? = some v := ⟨_, List.getElem?_eq_getElem (by omega)⟩
    have e : w64 ((p : Int) + 1) = ((p + 1 : Nat) : Int) := w64_succ (by omega)
    rw [hs, if_pos (by simp; omega), idx_nat, hu, Option.bind_some, e, idx_nat, h2, Option.bind_some, idx_nat, hv, Option.bind_some, idx_nat, h3, Option.bind_some, app_ok (by simp; omega), Option.bind_some, w64_succ (by omega)]
    rw [chartAt_of ha, chartAt_of h2, hu, hv]
    unfold countsAt
    rw [h3]
    rfl
  · rw [hs, if_neg (by simp)]
theorem spec_swMoves (x : ShowT) (f : ShowFacts x) (p : Nat) (hp : p < x.2.1.length) : F_spec_swMoves x (p : Int) = some (movesOf x p) := by
  obtain ⟨a, b, n, h1, _⟩ := part_facts f hp
  unfold F_spec_swMoves
  rw [idx_nat, h1, Option.bind_some]
  exact moves_loop (F_spec_swMoves_L1 a x (p : Int)) x f p hp a h1 fun m s y => rfl
theorem impl_showMoves (x : ShowT) (f : ShowFacts x) (p : Nat) (hp : p < x.2.1.length) : F_impl_showMoves x (p : Int) = some (movesOf x p) := by
  obtain ⟨a, b, n, h1, _⟩ := part_facts f hp
  unfold F_impl_showMoves
  rw [idx_nat, h1, Option.bind_some]
  exact moves_loop (F_impl_showMoves_L1 a x (p : Int)) x f p hp a h1 fun m s y => rfl
theorem moves_len (x : ShowT) (f : ShowFacts x) (p : Nat) (hp : p < x.2.1.length) : (movesOf x p).length ≤ 12 := by
  obtain ⟨a, b, n, h1, _, _, _, _, h6, _⟩ := part_facts f hp
  unfold movesOf
  rw [chartAt_of h1]
  simpa using h6
def sqOf (a b : Int × Int) : Int := w64 ((w64 ((w64 (a.1 - b.1)) * (w64 (a.1 - b.1)))) + (w64 ((w64 (a.2 - b.2)) * (w64 (a.2 - b.2)))))
def sqM (m : MoveT) : Int := sqOf m.1 m.2.1
end Go.Proofs.Ytmkignciedkidaa
