/-
  ONE BEAT, PLAIN.
-/
import Derived.Test.YtcndhhjolnebdaaPCopy
import Derived.Test.YtcndhhjolnebdaaPBehind
set_option linter.unusedSimpArgs false
set_option linter.unusedVariables false
namespace Go.Proofs.Ytcndhhjolnebdaa
open Go
theorem spec_mnOwn (x : MarchT) (f : ShowFacts x.1) (h1 : x.2.2.1.length ≤ 1048576) (h2 : x.2.2.2.length ≤ 1048576) : F_spec_mnOwn x = some x := by
  unfold F_spec_mnOwn
  rw [spec_swOwn x.1 f, Option.bind_some, spec_l1Own _ h1, Option.bind_some, spec_l1Own _ h2, Option.bind_some]
theorem impl_copyMarch (x : MarchT) (f : ShowFacts x.1) (h1 : x.2.2.1.length ≤ 1048576) (h2 : x.2.2.2.length ≤ 1048576) : F_impl_copyMarch x = some x := by
  unfold F_impl_copyMarch
  rw [impl_copyShow x.1 f, Option.bind_some, impl_copyInts _ h1, Option.bind_some, impl_copyInts _ h2, Option.bind_some]
theorem spec_l1Has (l : List Int) (n : Int) (h : l.length < 4611686018427387904) : F_spec_l1Has l n = some (l.any (· == n)) := by
  unfold F_spec_l1Has
  rw [loopL (F_spec_l1Has_L1 l n) l (fun u => !(u == n)) (some false) (some true) h (fun m k u hk hu => ?_) (fun m => ?_)]
  · have : l.any (· == n) = !l.all (fun u => !(u == n)) := by simp [List.any_eq_not_all_not]
    rw [this]
    cases l.all (fun u => !(u == n)) <;> simp
  · rw [F_spec_l1Has_L1, if_pos (by simp; omega), idx_nat, hu, Option.bind_some, w64_succ (by omega)]
    cases u == n <;> simp
  · rw [F_spec_l1Has_L1, if_neg (by simp)]
def bump (hs : List Int) (k : Nat) (s : List Int) : List Int := match hs[k]? with
  | some u => (match s[u.toNat]? with | some a => s.set u.toNat (w64 (a + 1)) | none => s)
  | none => s
def bumped (hs s : List Int) : List Int := (List.range hs.length).foldl (fun s k => bump hs k s) s
theorem bump_len (hs : List Int) (k : Nat) (s : List Int) : (bump hs k s).length = s.length := by
  unfold bump
  split
  · split <;> simp
  · rfl
theorem bumped_len (hs s : List Int) : (bumped hs s).length = s.length := by
  unfold bumped
  have key : ∀ (ks : List Nat) (s : List Int), (ks.foldl (fun s k => bump hs k s) s).length = s.length := by
    intro ks
    induction ks with
    | nil => intro s; rfl
    | cons k ks ih => intro s; rw [List.foldl_cons, ih, bump_len]
  exact key _ _
theorem bump_loop {R : Type} (f : Nat → List Int → Int → Option R) (hs s0 : List Int) (rest : List Int → Option R) (hl : hs.length < 4611686018427387904) (hr : ∀ u ∈ hs, 0 ≤ u ∧ u < s0.length)
    (hst : ∀ m s y, f (m + 1) s y = if (decide (y < (List.length hs : Int))) = true then Option.bind (idx hs y) fun u => Option.bind (idx s u) fun a => Option.bind (idx s u) fun b => f m (seti s u (w64 (a + 1))) (w64 (y + 1)) else rest s) : f FU s0 0 = rest (bumped hs s0) := by
  refine (loopS f hs.length (fun k s => bump hs k s) rest hl (fun _ s => s.length = s0.length) s0 rfl (fun k s hk hi => by rw [bump_len]; exact hi) (fun m k s hk hi => ?_) (fun m s _ => ?_)).1
  · have hx : hs[k]? = some hs[k] := List.getElem?_eq_getElem hk
    have hu := hr hs[k] (List.getElem_mem hk)
    have hy : s[hs[k].toNat]? = some (s[hs[k].toNat]'(by omega)) := List.getElem?_eq_getElem (by omega)
    rw [hst, if_pos (by simp; omega), idx_nat, hx, Option.bind_some, idx_int hu.1, hy, Option.bind_some, Option.bind_some, w64_succ (by omega)]
    unfold bump seti
    rw [hx]
    dsimp only
    rw [hy]
  · rw [hst, if_neg (by simp)]
theorem rises_in {l : List Int} {lo hi : Int} (h : rises l lo hi = true) : ∀ u ∈ l, lo ≤ u ∧ u ≤ hi := by
  intro u hu
  obtain ⟨k, hk⟩ := List.getElem?_of_mem hu
  unfold rises at h
  have := List.all_eq_true.1 h k (List.mem_range.2 (List.getElem?_eq_some_iff.1 hk).1)
  unfold riseAt at this
  rw [hk] at this
  simp only [Bool.and_eq_true, okIn_iff] at this
  exact this.1
theorem march_halted {x : MarchT} (h : lensM x) (hm : okMarch x = true) : (∀ u ∈ x.2.2.1, 0 ≤ u ∧ u < x.2.2.2.length) ∧ 0 ≤ x.2.1 ∧ x.2.1 ≤ 1000 := by
  have hb := march_behind h hm
  unfold okMarch at hm
  simp only [Bool.and_eq_true, decide_eq_true_eq, okIn_iff] at hm
  obtain ⟨⟨⟨⟨h1, h2⟩, h3⟩, h4⟩, h5⟩ := hm
  exact ⟨fun u hu => by have := rises_in h3 u hu; omega, h2⟩
abbrev noMarch : MarchT := (([], [], 0, 0), 0, [], [])
def beatAns (x : MarchT) : MarchT × Bool := if okMarch x && decide (x.2.1 < 1000) then ((x.1, x.2.1 + 1, x.2.2.1, bumped x.2.2.1 x.2.2.2), true) else (noMarch, false)
theorem asked_BeatOnce (x : MarchT) (h : lensM x) (h1 : x.2.2.1.length ≤ 1048576) (h2 : x.2.2.2.length ≤ 1048576) : (Option.bind (F_spec_mnAsked x (1, 0)) fun u => some u) = some (beatAns x) := by
  unfold F_spec_mnAsked beatAns
  rw [spec_mnGood x h.1 h.2.1 h.2.2, Option.bind_some]
  cases hm : okMarch x with
  | false => simp
  | true =>
    have hb := march_behind h hm
    have hh := march_halted h hm
    have f := facts hb.2.2.1
    simp only [Bool.not_true, Bool.false_eq_true, if_false, Bool.true_and]
    unfold F_spec_mnStep jK1 jK3
    dsimp only
    have e0 : okIn 0 0 ((x.2.2.2.length : Int) - 1) = true := by rw [okIn_iff]; omega
    rw [w64_eq (by omega) (by omega), spec_l1In, Option.bind_some, e0, spec_mnOwn x f h1 h2, Option.bind_some, spec_l1Has _ _ h.2.1, Option.bind_some]
    by_cases hc : x.2.1 < 1000
    · simp only [Bool.not_true, Bool.false_eq_true, if_false, beq_self_eq_true, if_true, hc, decide_true]
      rw [bump_loop (F_spec_mnStep_L1 x _ x) x.2.2.1 x.2.2.2 _ h.2.1 hh.1 (fun m s y => by rw [F_spec_mnStep_L1]), w64_eq (by omega) (by omega)]
      rfl
    · simp [hc]
theorem impl_BeatOnce (x : MarchT) (h : lensM x) (h1 : x.2.2.1.length ≤ 1048576) (h2 : x.2.2.2.length ≤ 1048576) : F_impl_BeatOnce x = some (beatAns x) := by
  unfold F_impl_BeatOnce jK1 beatAns
  dsimp only
  rw [impl_IsMarch x h.1 h.2.1 h.2.2, Option.bind_some]
  cases hm : okMarch x with
  | false => simp
  | true =>
    have hb := march_behind h hm
    have hh := march_halted h hm
    have f := facts hb.2.2.1
    rw [impl_copyMarch x f h1 h2, Option.bind_some, bump_loop (F_impl_BeatOnce_L1 x) x.2.2.1 x.2.2.2 _ h.2.1 hh.1 (fun m s y => by rw [F_impl_BeatOnce_L1]), w64_eq (by omega) (by omega)]
    by_cases hc : x.2.1 < 1000
    · have : ¬ x.2.1 = 1000 := by omega
      simp [hc, this]
    · have : x.2.1 = 1000 := by omega
      simp [this]
theorem beatAns_ok (x : MarchT) : ((beatAns x).1 = noMarch) ∨ (okShow (beatAns x).1.1 = true ∧ (beatAns x).1.2.2.1 = x.2.2.1 ∧ (beatAns x).1.2.2.2.length = x.2.2.2.length) := by
  unfold beatAns
  cases hm : okMarch x with
  | false => left; simp
  | true =>
    by_cases hc : x.2.1 < 1000
    · right
      unfold okMarch at hm
      simp only [Bool.and_eq_true] at hm
      simp only [hc, decide_true, Bool.and_self, if_true]
      exact ⟨hm.1.1.1.1, by simp, bumped_len _ _⟩
    · left; simp [hc]
end Go.Proofs.Ytcndhhjolnebdaa
