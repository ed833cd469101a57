/-
  THE LEAST STEP OF A SHOW, PLAIN.
-/
import Derived.Test.YtadklddedeoniaaPMoves
set_option linter.unusedSimpArgs false
set_option linter.unusedVariables false
namespace Go.Proofs.Ytadklddedeoniaa
open Go
def withinB (u : MoveT) (s : Int) : Bool := decide (sqM u ≤ (w64 ((w64 ((w64 (s * s)) * u.2.2)) * u.2.2)))
theorem spec_mvWithin (u : MoveT) (s : Int) : F_spec_mvWithin u s = some (withinB u s) := rfl
theorem impl_withinStep (u : MoveT) (s : Int) : F_impl_withinStep u s = some (withinB u s) := rfl
theorem moves_count {x : ShowT} (f : ShowFacts x) {p : Nat} (hp : p < x.2.1.length) {u : MoveT} (hu : u ∈ movesOf x p) : 1 ≤ u.2.2 ∧ u.2.2 ≤ 64 := by
  obtain ⟨a, b, n, h1, h2, h3, h4, h5, h6, h7, h8⟩ := part_facts f hp
  unfold movesOf at hu
  rw [List.mem_map] at hu
  obtain ⟨i, _, rfl⟩ := hu
  unfold countsAt
  rw [h3]
  exact ⟨h7, h8⟩
theorem within_iff {u : MoveT} {s : Int} (hu : 1 ≤ u.2.2 ∧ u.2.2 ≤ 64) (hs : 0 ≤ s ∧ s ≤ 25) : withinB u s = decide (sqM u ≤ s * s * u.2.2 * u.2.2) := by
  unfold withinB
  have h1 : 0 ≤ s * s := Int.mul_nonneg hs.1 hs.1
  have h2 : s * s ≤ 25 * 25 := Int.mul_le_mul hs.2 hs.2 hs.1 (by omega)
  have h3 : 0 ≤ s * s * u.2.2 := Int.mul_nonneg h1 (by omega)
  have h4 : s * s * u.2.2 ≤ 25 * 25 * 64 := Int.mul_le_mul h2 hu.2 (by omega) (by omega)
  have h5 : 0 ≤ s * s * u.2.2 * u.2.2 := Int.mul_nonneg h3 (by omega)
  have h6 : s * s * u.2.2 * u.2.2 ≤ 25 * 25 * 64 * 64 := Int.mul_le_mul h4 hu.2 (by omega) (by omega)
  rw [w64_eq (x := s * s) (by omega) (by omega), w64_eq (x := s * s * u.2.2) (by omega) (by omega), w64_eq (by omega) (by omega)]
theorem within_mono {u : MoveT} {s t : Int} (hu : 1 ≤ u.2.2 ∧ u.2.2 ≤ 64) (hs : 0 ≤ s) (ht : t ≤ 25) (h : s ≤ t) (hw : withinB u s = true) : withinB u t = true := by
  rw [within_iff hu ⟨hs, by omega⟩, decide_eq_true_eq] at hw
  rw [within_iff hu ⟨by omega, ht⟩, decide_eq_true_eq]
  have h1 : s * s ≤ t * t := Int.mul_le_mul h h hs (by omega)
  have h2 : s * s * u.2.2 ≤ t * t * u.2.2 := Int.mul_le_mul_of_nonneg_right h1 (by omega)
  have h3 : s * s * u.2.2 * u.2.2 ≤ t * t * u.2.2 * u.2.2 := Int.mul_le_mul_of_nonneg_right h2 (by omega)
  omega
/-- From a on, the first number that p takes, or a + d. -/
def upTo (p : Nat → Bool) : Nat → Nat → Nat
  | 0, a => a
  | d + 1, a => if p a then a else upTo p d (a + 1)
theorem upTo_spec (p : Nat → Bool) : ∀ d a, a ≤ upTo p d a ∧ upTo p d a ≤ a + d ∧ (upTo p d a < a + d → p (upTo p d a) = true) ∧ ∀ t, a ≤ t → t < upTo p d a → p t = false := by
  intro d
  induction d with
  | zero => intro a; unfold upTo; exact ⟨by omega, by omega, fun h => by omega, fun t h1 h2 => by omega⟩
  | succ d ih =>
    intro a
    unfold upTo
    cases hp : p a with
    | true => exact ⟨by simp, by simp, fun _ => by simpa using hp, fun t h1 h2 => by simp at h2; omega⟩
    | false =>
      obtain ⟨h1, h2, h3, h4⟩ := ih (a + 1)
      simp only [Bool.false_eq_true, if_false]
      refine ⟨by omega, by omega, fun h => h3 (by omega), fun t h5 h6 => ?_⟩
      by_cases ht : t = a
      · rw [ht]; exact hp
      · exact h4 t (by omega) h6
theorem loopUp {R : Type} (f : Nat → Int → Option R) (N : Nat) (p : Nat → Bool) (rest : Int → Option R) (a0 : Nat) (hN : N < 4611686018427387904)
    (hs : ∀ m a, a0 ≤ a → a < N → f (m + 1) (a : Int) = if p a = true then rest (a : Int) else f m ((a + 1 : Nat) : Int)) (he : ∀ m, f (m + 1) (N : Int) = rest (N : Int)) (ha : a0 ≤ N) : f FU (a0 : Int) = rest ((upTo p (N - a0) a0 : Nat) : Int) := by
  have key : ∀ d a m, a0 ≤ a → N - a = d → a ≤ N → d < m → f m (a : Int) = rest ((upTo p d a : Nat) : Int) := by
    intro d
    induction d with
    | zero =>
      intro a m h0 hd ha hm
      have : a = N := by omega
      subst this
      cases m with
      | zero => omega
      | succ m => exact he m
    | succ d ih =>
      intro a m h0 hd ha hm
      cases m with
      | zero => omega
      | succ m =>
        rw [hs m a h0 (by omega)]
        unfold upTo
        cases p a with
        | true => simp
        | false =>
          simp only [Bool.false_eq_true, if_false]
          exact ih (a + 1) m (by omega) (by omega) (by omega) (by omega)
  exact key _ a0 FU (Nat.le_refl _) rfl ha (FU_gt (by omega))
def stepUp (s : Nat) (u : MoveT) : Nat := upTo (fun t => withinB u (t : Int)) (25 - s) s
theorem fold_step (M : List MoveT) (hM : ∀ u ∈ M, 1 ≤ u.2.2 ∧ u.2.2 ≤ 64) : ∀ s, 1 ≤ s → s ≤ 25 →
    s ≤ M.foldl stepUp s ∧ M.foldl stepUp s ≤ 25 ∧ (M.foldl stepUp s ≤ 24 → ∀ u ∈ M, withinB u ((M.foldl stepUp s : Nat) : Int) = true) ∧ ∀ t, s ≤ t → t < M.foldl stepUp s → ∃ u ∈ M, withinB u (t : Int) = false := by
  induction M with
  | nil => intro s h1 h2; exact ⟨by simp, by simpa using h2, fun _ u hu => by simp at hu, fun t h3 h4 => by simp at h4; omega⟩
  | cons u M ih =>
    intro s h1 h2
    rw [List.foldl_cons]
    obtain ⟨a1, a2, a3, a4⟩ := upTo_spec (fun t => withinB u (t : Int)) (25 - s) s
    have e : stepUp s u = upTo (fun t => withinB u (t : Int)) (25 - s) s := rfl
    rw [← e] at a1 a2 a3 a4
    obtain ⟨b1, b2, b3, b4⟩ := ih (fun v hv => hM v (List.mem_cons_of_mem _ hv)) (stepUp s u) (by omega) (by omega)
    refine ⟨by omega, b2, fun h v hv => ?_, fun t h3 h4 => ?_⟩
    · rcases List.mem_cons.1 hv with rfl | hv
      · exact within_mono (hM v (by simp)) (by omega) (by omega) (Int.ofNat_le.2 b1) (a3 (by omega))
      · exact b3 h v hv
    · by_cases ht : t < stepUp s u
      · exact ⟨u, by simp, a4 t h3 ht⟩
      · obtain ⟨v, hv, hw⟩ := b4 t (by omega) h4
        exact ⟨v, List.mem_cons_of_mem _ hv, hw⟩
def allMoves (x : ShowT) : List MoveT := (List.range x.2.1.length).flatMap (movesOf x)
theorem allMoves_count {x : ShowT} (f : ShowFacts x) : ∀ u ∈ allMoves x, 1 ≤ u.2.2 ∧ u.2.2 ≤ 64 := by
  intro u hu
  unfold allMoves at hu
  rw [List.mem_flatMap] at hu
  obtain ⟨p, hp, hu⟩ := hu
  exact moves_count f (List.mem_range.1 hp) hu
def allIn' (x : ShowT) (s : Nat) : Bool := (allMoves x).all fun u => withinB u (s : Int)
def leastStep (x : ShowT) : Nat := upTo (allIn' x) 24 1
theorem least_eq {x : ShowT} (f : ShowFacts x) : (allMoves x).foldl stepUp 1 = leastStep x := by
  obtain ⟨a1, a2, a3, a4⟩ := fold_step (allMoves x) (allMoves_count f) 1 (by omega) (by omega)
  obtain ⟨b1, b2, b3, b4⟩ := upTo_spec (allIn' x) 24 1
  have e : leastStep x = upTo (allIn' x) 24 1 := rfl
  rw [← e] at b1 b2 b3 b4
  generalize (allMoves x).foldl stepUp 1 = r at a1 a2 a3 a4
  rcases Nat.lt_trichotomy r (leastStep x) with h | h | h
  · have := b4 r a1 h
    unfold allIn' at this
    rw [List.all_eq_true.2 (a3 (by omega))] at this
    cases this
  · exact h
  · obtain ⟨u, hu, hw⟩ := a4 (leastStep x) b1 h
    have := b3 (by omega)
    unfold allIn' at this
    rw [List.all_eq_true] at this
    rw [this u hu] at hw
    cases hw
def leastAns (x : ShowT) : Int × Bool := if 24 < leastStep x then (0, false) else ((leastStep x : Int), true)
/-- The wide steps of a part. -/
def wideAt (x : ShowT) (p k : Nat) : Bool := match (movesOf x p)[k]? with
  | some u => !withinB u x.2.2.2
  | none => false
def widesOf (x : ShowT) (p : Nat) : List Int := filt (wideAt x p) (movesOf x p).length
theorem impl_wideSteps (x : ShowT) (f : ShowFacts x) (p : Nat) (hp : p < x.2.1.length) : F_impl_wideSteps x (p : Int) = some (widesOf x p) := by
  have hl := moves_len x f p hp
  unfold F_impl_wideSteps
  rw [impl_showMoves x f p hp, Option.bind_some, loopFilter (F_impl_wideSteps_L1 (movesOf x p) x) (movesOf x p).length (wideAt x p) some (by omega) (fun m s k hk hs => ?_) (fun m s => ?_)]
  · rfl
  · obtain ⟨u, hu⟩ : ∃ u, (movesOf x p)[k]? = some u := ⟨_, List.getElem?_eq_getElem hk⟩
    have e : wideAt x p k = !withinB u x.2.2.2 := by unfold wideAt; rw [hu]
    rw [F_impl_wideSteps_L1, if_pos (by simp; omega), e]
    unfold jK1
    dsimp only
    rw [idx_nat, hu, Option.bind_some, impl_withinStep, Option.bind_some, app_ok (by simp; omega), w64_succ (by omega)]
    cases withinB u x.2.2.2 <;> simp
  · rw [F_impl_wideSteps_L1, if_neg (by simp)]
theorem wides_none (x : ShowT) (p : Nat) : decide (0 < ((widesOf x p).length : Int)) = !(movesOf x p).all (fun u => withinB u x.2.2.2) := by
  rw [Bool.eq_iff_iff, decide_eq_true_eq, Bool.not_eq_true', List.all_eq_false]
  constructor
  · intro h
    have hn : widesOf x p ≠ [] := fun e => by rw [e] at h; simp at h
    by_cases hc : ∃ u ∈ movesOf x p, ¬withinB u x.2.2.2 = true
    · exact hc
    · exact absurd (filt_nil.2 fun k hk => by
        unfold wideAt
        rw [List.getElem?_eq_getElem hk]
        have := not_exists.1 hc (movesOf x p)[k]
        simp only [List.getElem_mem, true_and, Decidable.not_not] at this
        simp [this]) hn
  · intro ⟨u, hu, hw⟩
    obtain ⟨k, hk⟩ := List.getElem?_of_mem hu
    have hn : widesOf x p ≠ [] := fun e => by
      have := filt_nil.1 e k (List.getElem?_eq_some_iff.1 hk).1
      unfold wideAt at this
      rw [hk] at this
      simp at this
      exact hw this
    have := List.length_pos_iff.2 hn
    omega
end Go.Proofs.Ytadklddedeoniaa
