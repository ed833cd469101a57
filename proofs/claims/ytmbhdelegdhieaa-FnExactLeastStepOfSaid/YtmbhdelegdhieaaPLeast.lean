/-
  THE LEAST STEP OF A SHOW, PLAIN.
-/
import Derived.Test.YtmbhdelegdhieaaPMoves
set_option linter.unusedSimpArgs false
set_option linter.unusedVariables false
namespace Go.Proofs.Ytmbhdelegdhieaa
open Go
def withinB (u : MoveT) (s : Int) : Bool := decide (sqM u ≤ (w64 ((w64 ((w64 (s * s)) * u.2.2)) * u.2.2)))
theorem spec_mvWithin (u : MoveT) (s : Int) : F_spec_mvWithin u s = some (withinB u s) := rfl
theorem impl_withinStep (u : MoveT) (s : Int) : F_impl_withinStep u s = some (withinB u s) := rfl
theorem moves_count {x : ShowT} (f : ShowFacts x) {p : Nat} (hp : p < x.2.1.length) {u : MoveT} (hu : u ∈ movesOf x p) : 1 ≤ u.2.2 ∧ u.2.2 ≤ 64 := by
  obtain ⟨a, b, n, h1, h2, h3, h4, h5, h6, h7, h8⟩ := part_facts f hp
  unfold movesOf at hu
  rw [List.mem_map] at hu
  obtain ⟨i, _, rfl⟩ := hu
  unfold countsAt
  rw [h3]
  exact ⟨h7, h8⟩
theorem within_iff {u : MoveT} {s : Int} (hu : 1 ≤ u.2.2 ∧ u.2.2 ≤ 64) (hs : 0 ≤ s ∧ s ≤ 25) : withinB u s = decide (sqM u ≤ s * s * u.2.2 * u.2.2) := by
  unfold withinB
  have h1 : 0 ≤ s * s := Int.mul_nonneg hs.1 hs.1
  have h2 : s * s ≤ 25 * 25 := Int.mul_le_mul hs.2 hs.2 hs.1 (by omega)
  have h3 : 0 ≤ s * s * u.2.2 := Int.mul_nonneg h1 (by omega)
  have h4 : s * s * u.2.2 ≤ 25 * 25 * 64 := Int.mul_le_mul h2 hu.2 (by omega) (by omega)
  have h5 : 0 ≤ s * s * u.2.2 * u.2.2 := Int.mul_nonneg h3 (by omega)
  have h6 : s * s * u.2.2 * u.2.2 ≤ 25 * 25 * 64 * 64 := Int.mul_le_mul h4 hu.2 (by omega) (by omega)
  rw [w64_eq (x := s * s) (by omega) (by omega), w64_eq (x := s * s * u.2.2) (by omega) (by omega), w64_eq (by omega) (by omega)]
theorem within_mono {u : MoveT} {s t : Int} (hu : 1 ≤ u.2.2 ∧ u.2.2 ≤ 64) (hs : 0 ≤ s) (ht : t ≤ 25) (h : s ≤ t) (hw : withinB u s = true) : withinB u t = true := by
  rw [within_iff hu ⟨hs, by omega⟩, decide_eq_true_eq] at hw
  rw [within_iff hu ⟨by omega, ht⟩, decide_eq_true_eq]
  have h1 : s * s ≤ t * t := Int.mul_le_mul h h hs (by omega)
  have h2 : s * s * u.2.2 ≤ t * t * u.2.2 := Int.mul_le_mul_of_nonneg_right h1 (by omega)
  have h3 : s * s * u.2.2 * u.2.2 ≤ t * t * u.2.2 * u.2.2 := Int.mul_le_mul_of_nonneg_right h2 (by omega)
  omega
/-- From a on, the first number that p takes, or a + d. -/
def upTo (p : Nat → Bool) : Nat → Nat → Nat
  | 0, a => a
  | d + 1, a => if p a then a else upTo p d (a + 1)
theorem upTo_spec (p : Nat → Bool) : ∀ d a, a ≤ upTo p d a ∧ upTo p d a ≤ a + d ∧ (upTo p d a < a + d → p (upTo p d a) = true) ∧ ∀ t, a ≤ t → t < upTo p d a → p t = false := by
  intro d
  induction d with
  | zero => intro a; unfold upTo; exact ⟨by omega, by omega, fun h => by omega, fun t h1 h2 => by omega⟩
  | succ d ih =>
    intro a
    unfold upTo
    cases hp : p a with
    | true => exact ⟨by simp, by simp, fun _ => by simpa using hp, fun t h1 h2 => by simp at h2; omega⟩
    | false =>
      obtain ⟨h1, h2, h3, h4⟩ := ih (a + 1)
      simp only [Bool.false_eq_true, if_false]
      refine ⟨by omega, by omega, fun h => h3 (by omega), fun t h5 h6 => ?_⟩
      by_cases ht : t = a
      · rw [ht]; exact hp
      · exact h4 t (by omega) h6
theorem loopUp {R : Type} (f : Nat → Int → Option R) (N : Nat) (p : Nat → Bool) (rest : Int → Option R) (a0 : Nat) (hN : N < 4611686018427387904)
    (hs : ∀ m a, a0 ≤ a → a < N → f (m + 1) (a : Int) = if p a = true then rest (a : Int) else f m ((a + 1 : Nat) : Int)) (he : ∀ m, f (m + 1) (N : Int) = rest (N : Int)) (ha : a0 ≤ N) : f FU (a0 : Int) = rest ((upTo p (N - a0) a0 : Nat) : Int) := by
  have key : ∀ d a m, a0 ≤ a → N - a = d → a ≤ N → d < m → f m (a : Int) = rest ((upTo p d a : Nat) : Int) := by
    intro d
    induction d with
    | zero =>
      intro a m h0 hd ha hm
      have : a = N := by omega
      subst this
      cases m with
      | zero => omega
      | succ m => exact he m
    | succ d ih =>
      intro a m h0 hd ha hm
      cases m with
      | zero => omega
      | succ m =>
        rw [hs m a h0 (by omega)]
        unfold upTo
        cases p a with
        | true => simp
        | false =>
          simp only [Bool.false_eq_true, if_false]
          exact ih (a + 1) m (by omega) (by omega) (by omega) (by omega)
  exact key _ a0 FU (Nat.le_refl _) rfl ha (FU_gt (by omega))
def stepUp (s : Nat) (u : MoveT) : Nat := upTo (fun t => withinB u (t : Int)) (25 - s) s
theorem fold_step (M : List MoveT) (hM : ∀ u ∈ M, 1 ≤ u.2.2 ∧ u.2.2 ≤ 64) : ∀ s, 1 ≤ s → s ≤ 25 →
    s ≤ M.foldl stepUp s ∧ M.foldl stepUp s ≤ 25 ∧ (M.foldl stepUp s ≤ 24 → ∀ u ∈ M, withinB u ((M.foldl stepUp s : Nat) : Int) = true) ∧ ∀ t, s ≤ t → t < M.foldl stepUp s → ∃ u ∈ M, withinB u (t : Int) = false := by
  induction M with
  | nil => intro s h1 h2; exact ⟨by simp, by simpa using h2, fun _ u hu => by simp at hu, fun t h3 h4 => by simp at h4; omega⟩
  | cons u M ih =>
    intro s h1 h2
    rw [List.foldl_cons]
    obtain ⟨a1, a2, a3, a4⟩ := upTo_spec (fun t => withinB u (t : Int)) (25 - s) s
    have e : stepUp s u = upTo (fun t => withinB u (t : Int)) (25 - s) s := rfl
    rw [← e] at a1 a2 a3 a4
    obtain ⟨b1, b2, b3, b4⟩ := ih (fun v hv => hM v (List.mem_cons_of_mem _ hv)) (stepUp s u) (by omega) (by omega)
    refine ⟨by omega, b2, fun h v hv => ?_, fun t h3 h4 => ?_⟩
    · rcases List.mem_cons.1 hv with rfl | hv
      · exact within_mono (hM v (by simp)) (by omega) (by omega) (Int.ofNat_le.2 b1) (a3 (by omega))
      · exact b3 h v hv
    · by_cases ht : t < stepUp s u
      · exact ⟨u, by simp, a4 t h3 ht⟩
      · obtain ⟨v, hv, hw⟩ := b4 t (by omega) h4
        exact ⟨v, List.mem_cons_of_mem _ hv, hw⟩
def allMoves (x : ShowT) : List MoveT := (List.range x.2.1.length).flatMap (movesOf x)
theorem allMoves_count {x : ShowT} (f : ShowFacts x) : ∀ u ∈ allMoves x, 1 ≤ u.2.2 ∧ u.2.2 ≤ 64 := by
  intro u hu
  unfold allMoves at hu
  rw [List.mem_flatMap] at hu
  obtain ⟨p, hp, hu⟩ := hu
  exact moves_count f (List.mem_range.1 hp) hu
def allIn' (x : ShowT) (s : Nat) : Bool := (allMoves x).all fun u => withinB u (s : Int)
def leastStep (x : ShowT) : Nat := upTo (allIn' x) 24 1
theorem least_eq {x : ShowT} (f : ShowFacts x) : (allMoves x).foldl stepUp 1 = leastStep x := by
  obtain ⟨a1, a2, a3, a4⟩ := fold_step (allMoves x) (allMoves_count f) 1 (by omega) (by omega)
  obtain ⟨b1, b2, b3, b4⟩ := upTo_spec (allIn' x) 24 1
  have e : leastStep x = upTo (allIn' x) 24 1 := rfl
  rw [← e] at b1 b2 b3 b4
  generalize (allMoves x).foldl stepUp 1 = r at a1 a2 a3 a4
  rcases Nat.lt_trichotomy r (leastStep x) with h | h | h
  · have := b4 r a1 h
    unfold allIn' at this
    rw [List.all_eq_true.2 (a3 (by omega))] at this
    cases this
  · exact h
  · obtain ⟨u, hu, hw⟩ := a4 (leastStep x) b1 h
    have := b3 (by omega)
    unfold allIn' at this
    rw [List.all_eq_true] at this
    rw [this u hu] at hw
    cases hw
def leastAns (x : ShowT) : Int × Bool := if 24 < leastStep x then (0, false) else ((leastStep x : Int), true)
theorem spec_LeastStepOf (x : ShowT) (h : lensOk x) : F_spec_LeastStepOf x = some (if okShow x then leastAns x else (0, false)) := by
  unfold F_spec_LeastStepOf
  rw [spec_swGood x h.1 h.2.1 h.2.2, Option.bind_some]
  cases hs : okShow x with
  | false => simp
  | true =>
    have f := facts hs
    have := f.n1
    have := f.nc
    rw [if_neg (by simp)]
    have hf := loopS (fun m (s : Nat) k => F_spec_LeastStepOf_L1 x m (s : Int) k) x.2.1.length (fun p s => (movesOf x p).foldl stepUp s) (fun s => (if (decide (24 < (s : Int))) = true then some (0, false) else some ((s : Int), true))) (by omega) (fun _ s => 1 ≤ s ∧ s ≤ 25) 1 ⟨by omega, by omega⟩
      (fun k s hk hi => by
        have := fold_step (movesOf x k) (fun u hu => moves_count f hk hu) s hi.1 hi.2
        exact ⟨by omega, this.2.1⟩) (fun m k s hk hi => ?_) (fun m s _ => ?_)
    · have e : (List.range x.2.1.length).foldl (fun s p => (movesOf x p).foldl stepUp s) 1 = leastStep x := by rw [← least_eq f, allMoves, List.foldl_flatMap]
      rw [e] at hf
      refine hf.1.trans ?_
      unfold leastAns
      by_cases hq : 24 < leastStep x
      · have : (24 : Int) < (leastStep x : Int) := by omega
        simp [hq, this]
      · have : ¬ (24 : Int) < (leastStep x : Int) := by omega
        simp [hq, this]
    · have hl := moves_len x f k hk
      rw [F_spec_LeastStepOf_L1, if_pos (by simp; omega), spec_swMoves x f k hk, Option.bind_some]
      have hg := loopS (fun m' (s : Nat) j => F_spec_LeastStepOf_L2 (movesOf x k) (F_spec_LeastStepOf_L1 x m) (k : Int) m' (s : Int) j) (movesOf x k).length (fun j s => match (movesOf x k)[j]? with | some u => stepUp s u | none => s)
        (fun s => F_spec_LeastStepOf_L1 x m (s : Int) ((k + 1 : Nat) : Int)) (by omega) (fun _ s => s ≤ 25) s hi.2 (fun j s hj hi => ?_) (fun m' j s hj hi => ?_) (fun m' s _ => ?_)
      · refine hg.1.trans ?_
        congr 2
        have key : ∀ (l : List MoveT) (s : Nat), (List.range l.length).foldl (fun s j => match l[j]? with | some u => stepUp s u | none => s) s = l.foldl stepUp s := by
          intro l
          induction l with
          | nil => intro s; rfl
          | cons v l ih =>
            intro s
            rw [List.length_cons, List.range_succ_eq_map, List.foldl_cons, List.foldl_map, List.foldl_cons]
            simpa using ih (stepUp s v)
        rw [key]
      · obtain ⟨u, hu⟩ : ∃ u, (movesOf x k)[j]? = some u := ⟨_, List.getElem?_eq_getElem hj⟩
        rw [hu]
        have := upTo_spec (fun t => withinB u (t : Int)) (25 - s) s
        show stepUp s u ≤ 25
        unfold stepUp
        omega
      · obtain ⟨u, hu⟩ : ∃ u, (movesOf x k)[j]? = some u := ⟨_, List.getElem?_eq_getElem hj⟩
        rw [F_spec_LeastStepOf_L2, if_pos (by simp; omega), idx_nat, hu, Option.bind_some, loopUp (F_spec_LeastStepOf_L3 (F_spec_LeastStepOf_L2 (movesOf x k) (F_spec_LeastStepOf_L1 x m) (k : Int) m') (j : Int) u) 25 (fun t => withinB u (t : Int))
          (fun y => F_spec_LeastStepOf_L2 (movesOf x k) (F_spec_LeastStepOf_L1 x m) (k : Int) m' y (w64 ((j : Int) + 1))) s (by omega) (fun m'' a _ ha => ?_) (fun m'' => ?_) hi, w64_succ (k := j) (by omega)]
        · rfl
        · rw [F_spec_LeastStepOf_L3]
          unfold jK1
          dsimp only
          rw [if_pos (by simp; omega), spec_mvWithin, Option.bind_some, w64_succ (k := a) (by omega)]
          cases withinB u (a : Int) <;> simp
        · rw [F_spec_LeastStepOf_L3]
          unfold jK1
          dsimp only
          rw [if_neg (by simp)]
          rfl
      · rw [F_spec_LeastStepOf_L2, if_neg (by simp), w64_succ (by omega)]
    · rw [F_spec_LeastStepOf_L1, if_neg (by simp)]
/-- The wide steps of a part. -/
def wideAt (x : ShowT) (p k : Nat) : Bool := match (movesOf x p)[k]? with
  | some u => !withinB u x.2.2.2
  | none => false
def widesOf (x : ShowT) (p : Nat) : List Int := filt (wideAt x p) (movesOf x p).length
theorem impl_wideSteps (x : ShowT) (f : ShowFacts x) (p : Nat) (hp : p < x.2.1.length) : F_impl_wideSteps x (p : Int) = some (widesOf x p) := by
  have hl := moves_len x f p hp
  unfold F_impl_wideSteps
  rw [impl_showMoves x f p hp, Option.bind_some, loopFilter (F_impl_wideSteps_L1 (movesOf x p) x) (movesOf x p).length (wideAt x p) some (by omega) (fun m s k hk hs => ?_) (fun m s => ?_)]
  · rfl
  · obtain ⟨u, hu⟩ : ∃ u, (movesOf x p)[k]? = some u := ⟨_, List.getElem?_eq_getElem hk⟩
    have e : wideAt x p k = !withinB u x.2.2.2 := by unfold wideAt; rw [hu]
    rw [F_impl_wideSteps_L1, if_pos (by simp; omega), e]
    unfold jK1
    dsimp only
    rw [idx_nat, hu, Option.bind_some, impl_withinStep, Option.bind_some, app_ok (by simp; omega), w64_succ (by omega)]
    cases withinB u x.2.2.2 <;> simp
  · rw [F_impl_wideSteps_L1, if_neg (by simp)]
theorem wides_none (x : ShowT) (p : Nat) : decide (0 < ((widesOf x p).length : Int)) = !(movesOf x p).all (fun u => withinB u x.2.2.2) := by
  rw [Bool.eq_iff_iff, decide_eq_true_eq, Bool.not_eq_true', List.all_eq_false]
  constructor
  · intro h
    have hn : widesOf x p ≠ [] := fun e => by rw [e] at h; simp at h
    by_cases hc : ∃ u ∈ movesOf x p, ¬withinB u x.2.2.2 = true
    · exact hc
    · exact absurd (filt_nil.2 fun k hk => by
        unfold wideAt
        rw [List.getElem?_eq_getElem hk]
        have := not_exists.1 hc (movesOf x p)[k]
        simp only [List.getElem_mem, true_and, Decidable.not_not] at this
        simp [this]) hn
  · intro ⟨u, hu, hw⟩
    obtain ⟨k, hk⟩ := List.getElem?_of_mem hu
    have hn : widesOf x p ≠ [] := fun e => by
      have := filt_nil.1 e k (List.getElem?_eq_some_iff.1 hk).1
      unfold wideAt at this
      rw [hk] at this
      simp at this
      exact hw this
    have := List.length_pos_iff.2 hn
    omega
theorem impl_LeastStepOf (x : ShowT) (h : lensOk x) : F_impl_LeastStepOf x = some (if okShow x then leastAns x else (0, false)) := by
  unfold F_impl_LeastStepOf
  rw [impl_IsShow x h.1 h.2.1 h.2.2, Option.bind_some]
  cases hs : okShow x with
  | false => simp
  | true =>
    have f := facts hs
    have := f.n1
    have := f.nc
    rw [if_neg (by simp), show (1 : Int) = ((1 : Nat) : Int) from rfl, loopUp (F_impl_LeastStepOf_L1 x) 25 (allIn' x) (fun y => if decide (24 < y) = true then some (0, false) else some (y, true)) 1 (by omega) (fun m a ha1 ha => ?_) (fun m => ?_) (by omega)]
    · have e : upTo (allIn' x) (25 - 1) 1 = leastStep x := rfl
      rw [e]
      unfold leastAns
      by_cases hq : 24 < leastStep x
      · have : (24 : Int) < (leastStep x : Int) := by omega
        simp [hq, this]
      · have : ¬ (24 : Int) < (leastStep x : Int) := by omega
        simp [hq, this]
    · rw [F_impl_LeastStepOf_L1, if_pos (by simp; omega)]
      have hg := loopS (fun m' (b : Bool) k => F_impl_LeastStepOf_L2 x (a : Int) (F_impl_LeastStepOf_L1 x m) m' b k) x.2.1.length (fun p b => b || !(movesOf x p).all (fun u => withinB u (a : Int)))
        (fun b => if (!b) = true then some ((a : Int), true) else F_impl_LeastStepOf_L1 x m (w64 ((a : Int) + 1))) (by omega) (fun _ _ => True) false trivial (fun _ _ _ _ => trivial) (fun m' k b hk _ => ?_) (fun m' b _ => ?_)
      · refine hg.1.trans ?_
        have e : (List.range x.2.1.length).foldl (fun b p => b || !(movesOf x p).all (fun u => withinB u (a : Int))) false = !allIn' x a := by
          unfold allIn' allMoves
          rw [List.all_flatMap]
          have key : ∀ (l : List Nat) (b : Bool), l.foldl (fun b p => b || !(movesOf x p).all (fun u => withinB u (a : Int))) b = (b || !l.all (fun p => (movesOf x p).all (fun u => withinB u (a : Int)))) := by
            intro l
            induction l with
            | nil => intro b; simp
            | cons p l ih => intro b; rw [List.foldl_cons, ih, List.all_cons, Bool.not_and, Bool.or_assoc]
          rw [key]
          simp
        rw [e, w64_succ (by omega)]
        have : ¬ (24 : Int) < (a : Int) := by omega
        cases allIn' x a <;> simp [this]
      · rw [F_impl_LeastStepOf_L2, if_pos (by simp; omega)]
        unfold jK1
        dsimp only
        rw [w64_succ (k := k) (by omega)]
        cases b with
        | true => simp
        | false =>
          have f' : ShowFacts (x.1, x.2.1, x.2.2.1, (a : Int)) := ⟨f.n0, f.n1, f.nc, f.ch, f.cl, f.ce, f.cn, f.le, ⟨by show 1 ≤ (a : Int); omega, by show (a : Int) ≤ 24; omega⟩⟩
          rw [if_neg (by simp), impl_wideSteps (x.1, x.2.1, x.2.2.1, (a : Int)) f' k hk, Option.bind_some, wides_none]
          rfl
      · rw [F_impl_LeastStepOf_L2, if_neg (by simp)]
    · rw [F_impl_LeastStepOf_L1, if_neg (by simp)]
      simp
end Go.Proofs.Ytmbhdelegdhieaa
