/-
  THE LEAST DISTANCE OF A SHOW, PLAIN.
-/
import Derived.Test.YthlfhcefeaehmaaPFrac
import Derived.Test.YthlfhcefeaehmaaPClose
set_option linter.unusedSimpArgs false
set_option linter.unusedVariables false
namespace Go.Proofs.Ythlfhcefeaehmaa
open Go
theorem low_bd {a b : Int} (ha : 0 ≤ a) (ha2 : a ≤ 1000000000000000) (hb : 0 < b) (hb2 : b ≤ 1000000000000000) : 0 ≤ (low a b).1 ∧ (low a b).1 ≤ a ∧ 1 ≤ (low a b).2 ∧ (low a b).2 ≤ b := by
  have hg : 0 < Nat.gcd a.toNat b.toNat := Nat.gcd_pos_of_pos_right _ (by omega)
  have hg2 : Nat.gcd a.toNat b.toNat ≤ b.toNat := Nat.gcd_le_right _ (by omega)
  unfold low
  rw [Int.tdiv_eq_ediv_of_nonneg ha, Int.tdiv_eq_ediv_of_nonneg (by omega)]
  have h1 := Int.ediv_nonneg ha (Int.natCast_nonneg (Nat.gcd a.toNat b.toNat))
  have h2 : a / (Nat.gcd a.toNat b.toNat : Int) ≤ a := Int.ediv_le_self _ ha
  have h3 : b / (Nat.gcd a.toNat b.toNat : Int) ≤ b := Int.ediv_le_self _ (by omega)
  have h4 : 1 ≤ b / (Nat.gcd a.toNat b.toNat : Int) := by
    rw [Int.le_ediv_iff_mul_le (by omega)]
    omega
  rw [w64_eq (by omega) (by omega), w64_eq (by omega) (by omega)]
  exact ⟨h1, h2, h4, h3⟩
def bdF (n : Int × Int) : Prop := 0 ≤ n.1 ∧ n.1 ≤ 2959500902400 ∧ 1 ≤ n.2 ∧ n.2 ≤ 8359936
theorem near_bd {u v : MoveT} (hu : goodMove u) (hv : goodMove v) : bdF (near u v) := by
  have hI := inB hu.1 hu.2 hv.1 hv.2
  unfold near bdF nearV
  generalize u.1.1 - v.1.1 = px at *
  generalize u.1.2 - v.1.2 = py at *
  generalize u.2.1.1 - v.2.1.1 = qx at *
  generalize u.2.1.2 - v.2.1.2 = qy at *
  obtain ⟨m1, m2, m3, m4, m5, m6, m7, m8, m9, m10, m11⟩ := nearB hI
  split
  · dsimp only; omega
  · split
    · dsimp only; omega
    · rename_i h1 h2
      have := low_bd (a := (px * qy - py * qx) * (px * qy - py * qx)) (b := (qx - px) * (qx - px) + (qy - py) * (qy - py)) (by omega) (by omega) (by omega) (by omega)
      omega
/-! the closest two moves -/
abbrev CSt := Int × Int × Int × Int
def cstep (ms : List MoveT) (i k : Nat) (s : CSt) : CSt := match ms[i]?, ms[k]? with
  | some u, some v => if lessF (near u v).1 (near u v).2 s.2.2.1 s.2.2.2 then ((i : Int), (k : Int), (near u v).1, (near u v).2) else s
  | _, _ => s
def crow (ms : List MoveT) (i : Nat) (s : CSt) : CSt := (List.range' (i + 1) (ms.length - (i + 1))).foldl (fun s k => cstep ms i k s) s
def cinit (ms : List MoveT) : CSt := match ms[0]?, ms[1]? with
  | some u, some v => (0, 1, (near u v).1, (near u v).2)
  | _, _ => (0, 1, 0, 1)
def closest (ms : List MoveT) : CSt := (List.range ms.length).foldl (fun s i => crow ms i s) (cinit ms)
/-- The state names two moves and how near they come. -/
def CI (ms : List MoveT) (s : CSt) : Prop := ∃ (a b : Nat) (u v : MoveT), s.1 = (a : Int) ∧ s.2.1 = (b : Int) ∧ a < b ∧ ms[a]? = some u ∧ ms[b]? = some v ∧ near u v = (s.2.2.1, s.2.2.2)
theorem CI.bd {ms : List MoveT} (hg : ∀ u ∈ ms, goodMove u) {s : CSt} (h : CI ms s) : bdF (s.2.2.1, s.2.2.2) := by
  obtain ⟨a, b, u, v, _, _, _, hu, hv, hn⟩ := h
  rw [← hn]
  exact near_bd (hg u (List.mem_of_getElem? hu)) (hg v (List.mem_of_getElem? hv))
theorem cstep_CI {ms : List MoveT} {i k : Nat} (hik : i < k) (hk : k < ms.length) {s : CSt} (h : CI ms s) : CI ms (cstep ms i k s) := by
  have hu : ms[i]? = some (ms[i]'(by omega)) := List.getElem?_eq_getElem (by omega)
  have hv : ms[k]? = some ms[k] := List.getElem?_eq_getElem hk
  unfold cstep
  rw [hu, hv]
  dsimp only
  split
  · exact ⟨i, k, _, _, rfl, rfl, hik, hu, hv, rfl⟩
  · exact h
theorem fold_CI {ms : List MoveT} {i : Nat} : ∀ (ks : List Nat) (s : CSt), (∀ k ∈ ks, i < k ∧ k < ms.length) → CI ms s → CI ms (ks.foldl (fun s k => cstep ms i k s) s)
  | [], s, _, h => h
  | k :: ks, s, hk, h => fold_CI ks _ (fun k hk' => hk k (by simp [hk'])) (cstep_CI (hk k (by simp)).1 (hk k (by simp)).2 h)
theorem crow_CI {ms : List MoveT} {i : Nat} {s : CSt} (h : CI ms s) : CI ms (crow ms i s) := by
  unfold crow
  refine fold_CI _ _ (fun k hk => ?_) h
  rw [List.mem_range'_1] at hk
  omega
theorem cinit_CI {ms : List MoveT} (h2 : 2 ≤ ms.length) : CI ms (cinit ms) := by
  have hu : ms[0]? = some (ms[0]'(by omega)) := List.getElem?_eq_getElem (by omega)
  have hv : ms[1]? = some (ms[1]'(by omega)) := List.getElem?_eq_getElem (by omega)
  unfold cinit
  rw [hu, hv]
  exact ⟨0, 1, _, _, rfl, rfl, by omega, hu, hv, rfl⟩
theorem closest_CI {ms : List MoveT} (h2 : 2 ≤ ms.length) : CI ms (closest ms) := by
  unfold closest
  have key : ∀ (is : List Nat) (s : CSt), CI ms s → CI ms (is.foldl (fun s i => crow ms i s) s) := by
    intro is
    induction is with
    | nil => intro s h; exact h
    | cons i is ih => intro s h; exact ih _ (crow_CI h)
  exact key _ _ (cinit_CI h2)
/-- A loop from k on that carries a state. -/
theorem loopFromS {R S : Type} (f : Nat → S → Int → Option R) (n : Nat) (step : Nat → S → S) (rest : S → Option R) (hn : n < 4611686018427387904) (I : S → Prop) (k0 : Nat) (hI : ∀ k s, k0 ≤ k → k < n → I s → I (step k s))
    (hs : ∀ m k s, k0 ≤ k → k < n → I s → f (m + 1) s (k : Int) = f m (step k s) ((k + 1 : Nat) : Int)) (he : ∀ m s, I s → f (m + 1) s (n : Int) = rest s) :
    ∀ (s : S), k0 ≤ n → I s → f FU s (k0 : Int) = rest ((List.range' k0 (n - k0)).foldl (fun s k => step k s) s) := by
  have key : ∀ d k m s, n - k = d → k0 ≤ k → k ≤ n → n - k < m → I s → f m s (k : Int) = rest ((List.range' k (n - k)).foldl (fun s k => step k s) s) := by
    intro d
    induction d with
    | zero =>
      intro k m s hd hk0 hk hm hi
      have : k = n := by omega
      subst this
      cases m with
      | zero => omega
      | succ m => rw [he m s hi]; simp
    | succ d ih =>
      intro k m s hd hk0 hk hm hi
      cases m with
      | zero => omega
      | succ m =>
        rw [hs m k s hk0 (by omega) hi, hd, List.range'_succ, List.foldl_cons, ih (k + 1) m _ (by omega) (by omega) (by omega) (by omega) (hI k s hk0 (by omega) hi), show n - (k + 1) = d by omega]
  exact fun s hk hi => key _ k0 FU s rfl (Nat.le_refl _) hk (FU_gt (by omega)) hi
theorem impl_closestMoves (ms : List MoveT) (h2 : 2 ≤ ms.length) (hl : ms.length ≤ 1000) (hg : ∀ u ∈ ms, goodMove u) : F_impl_closestMoves ms = some ((closest ms).1, (closest ms).2.1) := by
  have hu : ms[0]? = some (ms[0]'(by omega)) := List.getElem?_eq_getElem (by omega)
  have hv : ms[1]? = some (ms[1]'(by omega)) := List.getElem?_eq_getElem (by omega)
  have e0 : cinit ms = ((0, 1, (near ms[0] ms[1]).1, (near ms[0] ms[1]).2) : CSt) := by unfold cinit; rw [hu, hv]
  have e1 : idx ms 1 = ms[1]? := idx_int (by decide)
  have g0 := hg ms[0] (List.getElem_mem _)
  have g1 := hg ms[1] (List.getElem_mem _)
  unfold F_impl_closestMoves
  rw [idx_zero, hu, Option.bind_some, e1, hv, Option.bind_some, impl_leastApart _ _ g0.1 g0.2 g1.1 g1.2, Option.bind_some]
  have := (loopS (fun m (s : CSt) y => F_impl_closestMoves_L1 ms m s.1 s.2.1 s.2.2.1 s.2.2.2 y) ms.length (fun i s => crow ms i s) (fun s => some (s.1, s.2.1)) (by omega) (fun _ s => CI ms s) (cinit ms) (cinit_CI h2) (fun i s hi h => crow_CI h) (fun m i s hi h => ?_) (fun m s h => ?_)).1
  · rw [e0] at this
    rw [show closest ms = (List.range ms.length).foldl (fun s i => crow ms i s) (cinit ms) from rfl, e0]
    exact this
  · rw [F_impl_closestMoves_L1, if_pos (by simp; omega), w64_succ (by omega)]
    exact loopFromS (fun m' (s : CSt) y => F_impl_closestMoves_L2 ms (i : Int) (F_impl_closestMoves_L1 ms m) m' s.1 s.2.1 s.2.2.1 s.2.2.2 y) ms.length (fun k s => cstep ms i k s) (fun s => F_impl_closestMoves_L1 ms m s.1 s.2.1 s.2.2.1 s.2.2.2 ((i + 1 : Nat) : Int)) (by omega) (CI ms) (i + 1)
      (fun k s hk hk2 h => cstep_CI (by omega) hk2 h) (fun m' k s hk hk2 h => by
        have hb := h.bd hg
        obtain ⟨b1, b2, b3, b4⟩ := hb
        dsimp only at b1 b2 b3 b4
        have hu : ms[i]? = some ms[i] := List.getElem?_eq_getElem hi
        have hv : ms[k]? = some ms[k] := List.getElem?_eq_getElem hk2
        have gu := hg ms[i] (List.getElem_mem _)
        have gv := hg ms[k] (List.getElem_mem _)
        obtain ⟨n1, n2, n3, n4⟩ := near_bd gu gv
        rw [F_impl_closestMoves_L2, if_pos (by simp; omega)]
        unfold jK4
        dsimp only
        rw [idx_nat, hu, Option.bind_some, idx_nat, hv, Option.bind_some, impl_leastApart _ _ gu.1 gu.2 gv.1 gv.2, Option.bind_some, impl_lessFraction _ _ _ _ (by omega) (by omega) (by omega) (by omega) (by omega) (by omega) (by omega) (by omega), Option.bind_some, w64_succ (k := k) (by omega)]
        unfold cstep
        rw [hu, hv]
        dsimp only
        cases lessF (near ms[i] ms[k]).1 (near ms[i] ms[k]).2 s.2.2.1 s.2.2.2 <;> simp) (fun m' s h => by rw [F_impl_closestMoves_L2, if_neg (by simp), w64_succ (by omega)]) s (by omega) h
  · rw [F_impl_closestMoves_L1, if_neg (by simp)]
theorem spec_apClosest (ms : List MoveT) (h2 : 2 ≤ ms.length) (hl : ms.length ≤ 1000) (hg : ∀ u ∈ ms, goodMove u) : F_spec_apClosest ms = some ((closest ms).1, (closest ms).2.1) := by
  have hu : ms[0]? = some (ms[0]'(by omega)) := List.getElem?_eq_getElem (by omega)
  have hv : ms[1]? = some (ms[1]'(by omega)) := List.getElem?_eq_getElem (by omega)
  have e0 : cinit ms = ((0, 1, (near ms[0] ms[1]).1, (near ms[0] ms[1]).2) : CSt) := by unfold cinit; rw [hu, hv]
  have e1 : idx ms 1 = ms[1]? := idx_int (by decide)
  have g0 := hg ms[0] (List.getElem_mem _)
  have g1 := hg ms[1] (List.getElem_mem _)
  unfold F_spec_apClosest
  rw [idx_zero, hu, Option.bind_some, e1, hv, Option.bind_some, spec_apLeast _ _ g0.1 g0.2 g1.1 g1.2, Option.bind_some]
  have := (loopS (fun m (s : CSt) y => F_spec_apClosest_L1 ms m s.1 s.2.1 s.2.2.1 s.2.2.2 y) ms.length (fun i s => crow ms i s) (fun s => some (s.1, s.2.1)) (by omega) (fun _ s => CI ms s) (cinit ms) (cinit_CI h2) (fun i s hi h => crow_CI h) (fun m i s hi h => ?_) (fun m s h => ?_)).1
  · rw [e0] at this
    rw [show closest ms = (List.range ms.length).foldl (fun s i => crow ms i s) (cinit ms) from rfl, e0]
    exact this
  · have hu : ms[i]? = some ms[i] := List.getElem?_eq_getElem hi
    rw [F_spec_apClosest_L1, if_pos (by simp; omega), idx_nat, hu, Option.bind_some, w64_succ (by omega)]
    exact loopFromS (fun m' (s : CSt) y => F_spec_apClosest_L2 ms ms[i] (i : Int) (F_spec_apClosest_L1 ms m) m' s.1 s.2.1 s.2.2.1 s.2.2.2 y) ms.length (fun k s => cstep ms i k s) (fun s => F_spec_apClosest_L1 ms m s.1 s.2.1 s.2.2.1 s.2.2.2 ((i + 1 : Nat) : Int)) (by omega) (CI ms) (i + 1)
      (fun k s hk hk2 h => cstep_CI (by omega) hk2 h) (fun m' k s hk hk2 h => by
        have hb := h.bd hg
        obtain ⟨b1, b2, b3, b4⟩ := hb
        dsimp only at b1 b2 b3 b4
        have hv : ms[k]? = some ms[k] := List.getElem?_eq_getElem hk2
        have gu := hg ms[i] (List.getElem_mem _)
        have gv := hg ms[k] (List.getElem_mem _)
        obtain ⟨n1, n2, n3, n4⟩ := near_bd gu gv
        rw [F_spec_apClosest_L2, if_pos (by simp; omega)]
        unfold jK4
        dsimp only
        rw [idx_nat, hv, Option.bind_some, spec_apLeast _ _ gu.1 gu.2 gv.1 gv.2, Option.bind_some, spec_apLess _ _ _ _ (by omega) (by omega) (by omega) (by omega) (by omega) (by omega) (by omega) (by omega), Option.bind_some, w64_succ (k := k) (by omega)]
        unfold cstep
        rw [hu, hv]
        dsimp only
        cases lessF (near ms[i] ms[k]).1 (near ms[i] ms[k]).2 s.2.2.1 s.2.2.2 <;> simp) (fun m' s h => by rw [F_spec_apClosest_L2, if_neg (by simp), w64_succ (by omega)]) s (by omega) h
  · rw [F_spec_apClosest_L1, if_neg (by simp)]
def minOf (ms : List MoveT) : Int × Int := ((closest ms).2.2.1, (closest ms).2.2.2)
theorem minOf_bd {ms : List MoveT} (h2 : 2 ≤ ms.length) (hg : ∀ u ∈ ms, goodMove u) : bdF (minOf ms) := (closest_CI h2).bd hg
theorem moves_same {x : ShowT} {p : Nat} {u v : MoveT} (hu : u ∈ movesOf x p) (hv : v ∈ movesOf x p) : u.2.2 = v.2.2 := by
  unfold movesOf at hu hv
  obtain ⟨i, _, rfl⟩ := List.mem_map.1 hu
  obtain ⟨j, _, rfl⟩ := List.mem_map.1 hv
  rfl
theorem spec_mvGood (u : MoveT) (hg : goodMove u) (hc : 1 ≤ u.2.2 ∧ u.2.2 ≤ 64) : F_spec_mvGood u = some true := by
  have : okIn u.2.2 1 64 = true := okIn_iff.2 hc
  unfold F_spec_mvGood jK1
  dsimp only
  rw [spec_stGood, hg.1, Option.bind_some, spec_stGood, hg.2, Option.bind_some, spec_l1In, this]
  rfl
theorem spec_LeastOfAll (x : ShowT) (f : ShowFacts x) (p : Nat) (hp : p < x.2.1.length) (h2 : 2 ≤ (movesOf x p).length) : F_spec_LeastOfAll (movesOf x p) = some ((minOf (movesOf x p)).1, (minOf (movesOf x p)).2, true) := by
  have hl := moves_len x f p hp
  have hg := moves_good f hp
  have hc := fun u hu => moves_count f hp (u := u) hu
  have hsame := fun u v hu hv => moves_same (x := x) (p := p) (u := u) (v := v) hu hv
  generalize movesOf x p = ms at *
  have hu0 : ms[0]? = some (ms[0]'(by omega)) := List.getElem?_eq_getElem (by omega)
  have hlist : F_spec_apList ms = some true := by
    unfold F_spec_apList
    rw [loopL (F_spec_apList_L1 ms) ms (fun _ => true) (some true) (some false) (by omega) (fun m k u hk hu => ?_) (fun m => ?_)]
    · simp
    · have hm := List.mem_of_getElem? hu
      have hm0 := List.mem_of_getElem? hu0
      rw [F_spec_apList_L1, if_pos (by simp; omega), idx_nat, hu, Option.bind_some, idx_zero, hu0, Option.bind_some, w64_succ (by omega)]
      unfold F_spec_apGood jK1
      dsimp only
      rw [spec_mvGood _ (hg _ hm0) (hc _ hm0), Option.bind_some, spec_mvGood _ (hg _ hm) (hc _ hm), Option.bind_some, if_pos rfl, if_pos rfl, hsame _ _ hm0 hm]
      simp
    · have : okIn (ms.length : Int) 2 12 = true := okIn_iff.2 (by omega)
      rw [F_spec_apList_L1, if_neg (by simp), spec_l1In, this]
      rfl
  unfold F_spec_LeastOfAll
  rw [hlist, Option.bind_some, if_neg (by simp), spec_apClosest ms h2 (by omega) hg, Option.bind_some]
  obtain ⟨a, b, u, v, e1, e2, _, hu, hv, hn⟩ := closest_CI h2
  have gu := hg u (List.mem_of_getElem? hu)
  have gv := hg v (List.mem_of_getElem? hv)
  dsimp only
  rw [e1, e2, idx_nat, hu, Option.bind_some, idx_nat, hv, Option.bind_some, spec_apLeast _ _ gu.1 gu.2 gv.1 gv.2, hn]
  rfl
/-! over all parts -/
def partMin (x : ShowT) (p : Nat) : Int × Int := minOf (movesOf x p)
def lstep (x : ShowT) (p : Nat) (s : Int × Int) : Int × Int := if p = 0 then partMin x 0 else if lessF (partMin x p).1 (partMin x p).2 s.1 s.2 then partMin x p else s
def leastShow (x : ShowT) : Int × Int := (List.range x.2.1.length).foldl (fun s p => lstep x p s) (0, 0)
theorem least_first (x : ShowT) (h : 0 < x.2.1.length) (s : Int × Int) : (List.range x.2.1.length).foldl (fun s p => lstep x p s) s = leastShow x := by
  unfold leastShow
  obtain ⟨n, hn⟩ : ∃ n, x.2.1.length = n + 1 := ⟨x.2.1.length - 1, by omega⟩
  rw [hn, List.range_succ_eq_map, List.foldl_cons, List.foldl_cons]
  congr 1
def twoMore (x : ShowT) : Bool := decide (2 ≤ (chartAt x 0).length)
theorem moves_chart {x : ShowT} (f : ShowFacts x) {p : Nat} (hp : p < x.2.1.length) : (movesOf x p).length = (chartAt x 0).length := by
  obtain ⟨a, b, n, h1, h2, h3, h4, h5, h6, h7, h8⟩ := part_facts f hp
  have := f.n0
  obtain ⟨c, hc⟩ : ∃ c, x.1[0]? = some c := ⟨_, List.getElem?_eq_getElem (by omega)⟩
  unfold movesOf
  rw [chartAt_of h1, chartAt_of hc, List.length_map, List.length_range]
  exact chart_len f h1 hc
theorem part_bd {x : ShowT} (f : ShowFacts x) (h2 : 2 ≤ (chartAt x 0).length) {p : Nat} (hp : p < x.2.1.length) : bdF (partMin x p) := minOf_bd (by rw [moves_chart f hp]; exact h2) (moves_good f hp)
theorem lstep_bd {x : ShowT} (f : ShowFacts x) (h2 : 2 ≤ (chartAt x 0).length) {p : Nat} (hp : p < x.2.1.length) {s : Int × Int} (hs : p = 0 ∨ bdF s) : bdF (lstep x p s) := by
  unfold lstep
  by_cases h : p = 0
  · subst h
    rw [if_pos rfl]
    exact part_bd f h2 hp
  · rw [if_neg h]
    split
    · exact part_bd f h2 hp
    · exact hs.resolve_left h
def leastShowAns (x : ShowT) : Int × Int × Bool := if okShow x && twoMore x then ((leastShow x).1, (leastShow x).2, true) else (0, 0, false)
theorem spec_LeastOfShow (x : ShowT) (h : lensOk x) : F_spec_LeastOfShow x = some (leastShowAns x) := by
  unfold F_spec_LeastOfShow jK1 leastShowAns twoMore
  dsimp only
  rw [spec_swGood x h.1 h.2.1 h.2.2, Option.bind_some]
  cases hs : okShow x with
  | false => simp
  | true =>
    have f := facts hs
    have n1 := f.n1
    have n0 := f.n0
    have nc := f.nc
    obtain ⟨c, hc⟩ : ∃ c, x.1[0]? = some c := ⟨_, List.getElem?_eq_getElem (by omega)⟩
    have hc12 := (f.cl c (List.mem_of_getElem? hc)).2
    rw [idx_zero, hc, Option.bind_some, chartAt_of hc]
    by_cases h2 : 2 ≤ c.length
    · have h2' : ¬ (c.length : Int) < 2 := by omega
      have h2c : 2 ≤ (chartAt x 0).length := by rw [chartAt_of hc]; exact h2
      simp only [Bool.not_true, Bool.false_eq_true, if_false, h2', h2, decide_true, decide_false, Bool.and_self, if_true]
      have := (loopS (fun m (s : Int × Int) y => F_spec_LeastOfShow_L1 x m s.1 s.2 y) x.2.1.length (fun p s => lstep x p s) (fun s => some (s.1, s.2, true)) (by omega) (fun p s => (p = 0 ∧ s = (-1, 1)) ∨ (0 < p ∧ bdF s)) (-1, 1) (.inl ⟨rfl, rfl⟩) (fun p s hp hi => ?_) (fun m p s hp hi => ?_) (fun m s _ => ?_)).1
      · rw [least_first x (by omega)] at this
        exact this
      · exact .inr ⟨by omega, lstep_bd f h2c hp (hi.imp (fun h => h.1) fun h => h.2)⟩
      · rw [F_spec_LeastOfShow_L1, if_pos (by simp; omega)]
        unfold jK2 jK1
        dsimp only
        rw [spec_swMoves x f p hp, Option.bind_some, spec_LeastOfAll x f p hp (by rw [moves_chart f hp]; exact h2c), Option.bind_some, w64_succ (by omega)]
        obtain ⟨b1, b2, b3, b4⟩ := part_bd f h2c hp
        unfold lstep
        rcases hi with ⟨rfl, rfl⟩ | ⟨h0, b5, b6, b7, b8⟩
        · simp
          rfl
        · have h0' : ¬ p = 0 := by omega
          have h1 : decide (s.1 < 0) = false := by simp; omega
          have hl := spec_apLess (partMin x p).1 (partMin x p).2 s.1 s.2 (by omega) (by omega) (by omega) (by omega) (by omega) (by omega) (by omega) (by omega)
          unfold partMin at hl ⊢
          rw [h1, if_neg h0', if_neg Bool.false_ne_true, hl, Option.bind_some]
          cases lessF (minOf (movesOf x p)).1 (minOf (movesOf x p)).2 s.1 s.2 <;> simp
      · rw [F_spec_LeastOfShow_L1, if_neg (by simp)]
    · have h2' : (c.length : Int) < 2 := by omega
      simp [h2, h2']
theorem impl_LeastOfShow (x : ShowT) (h : lensOk x) : F_impl_LeastOfShow x = some (leastShowAns x) := by
  unfold F_impl_LeastOfShow jK1 leastShowAns twoMore
  dsimp only
  rw [impl_IsShow x h.1 h.2.1 h.2.2, Option.bind_some]
  cases hs : okShow x with
  | false => simp
  | true =>
    have f := facts hs
    have n1 := f.n1
    have n0 := f.n0
    have nc := f.nc
    obtain ⟨c, hc⟩ : ∃ c, x.1[0]? = some c := ⟨_, List.getElem?_eq_getElem (by omega)⟩
    rw [idx_zero, hc, Option.bind_some, chartAt_of hc]
    by_cases h2 : 2 ≤ c.length
    · have h2' : ¬ (c.length : Int) < 2 := by omega
      have h2c : 2 ≤ (chartAt x 0).length := by rw [chartAt_of hc]; exact h2
      simp only [Bool.not_true, Bool.false_eq_true, if_false, h2', h2, decide_true, decide_false, Bool.and_self, if_true]
      have := (loopS (fun m (s : Int × Int) y => F_impl_LeastOfShow_L1 x m s.1 s.2 y) x.2.1.length (fun p s => lstep x p s) (fun s => some (s.1, s.2, true)) (by omega) (fun p s => p = 0 ∨ bdF s) (0, 0) (.inl rfl) (fun p s hp hi => ?_) (fun m p s hp hi => ?_) (fun m s _ => ?_)).1
      · exact this
      · exact .inr (lstep_bd f h2c hp hi)
      · have hm2 : 2 ≤ (movesOf x p).length := by rw [moves_chart f hp]; exact h2c
        have hl := moves_len x f p hp
        have hg := moves_good f hp
        rw [F_impl_LeastOfShow_L1, if_pos (by simp; omega)]
        unfold jK2 jK1
        dsimp only
        rw [impl_showMoves x f p hp, Option.bind_some, impl_closestMoves _ hm2 (by omega) hg, Option.bind_some]
        obtain ⟨a, b, u, v, e1, e2, _, hu, hv, hn⟩ := closest_CI hm2
        have gu := hg u (List.mem_of_getElem? hu)
        have gv := hg v (List.mem_of_getElem? hv)
        dsimp only
        rw [e1, e2, idx_nat, hu, Option.bind_some, idx_nat, hv, Option.bind_some, impl_leastApart _ _ gu.1 gu.2 gv.1 gv.2, Option.bind_some, hn, w64_succ (by omega)]
        obtain ⟨b1, b2, b3, b4⟩ := part_bd f h2c hp
        unfold lstep
        by_cases h0 : p = 0
        · subst h0
          simp
          rfl
        · have h0' : ((p : Int) == 0) = false := by simpa using h0
          obtain ⟨b5, b6, b7, b8⟩ := hi.resolve_left h0
          have hl := impl_lessFraction (partMin x p).1 (partMin x p).2 s.1 s.2 (by omega) (by omega) (by omega) (by omega) (by omega) (by omega) (by omega) (by omega)
          unfold partMin minOf at hl ⊢
          dsimp only at hl ⊢
          rw [h0', if_neg h0, if_neg Bool.false_ne_true, hl, Option.bind_some]
          cases lessF (closest (movesOf x p)).2.2.1 (closest (movesOf x p)).2.2.2 s.1 s.2 <;> simp
      · rw [F_impl_LeastOfShow_L1, if_neg (by simp)]
    · have h2' : (c.length : Int) < 2 := by omega
      simp [h2, h2']
end Go.Proofs.Ythlfhcefeaehmaa
