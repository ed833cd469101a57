/-
  CUES AFTER A REPETITION, PLAIN.
-/
import Derived.Test.YtmbhdelegdhieaaPShift
set_option linter.unusedSimpArgs false
set_option linter.unusedVariables false
namespace Go.Proofs.Ytmbhdelegdhieaa
open Go
def okRange (x : MusicT) (a b : Int) : Bool := okMusic x && decide (0 ≤ a) && decide (a ≤ b) && decide (b < (x.length : Int))
theorem spec_muRange (x : MusicT) (a b : Int) (h : x.length < 4611686018427387904) : F_spec_muRange x a b = some (okRange x a b) := by
  unfold F_spec_muRange jK1 okRange
  dsimp only
  rw [spec_muGood x h, Option.bind_some, spec_l1In, Option.bind_some, w64_eq (by omega) (by omega), spec_l1In, Option.bind_some]
  unfold okIn
  cases okMusic x with
  | false => simp
  | true =>
    by_cases h1 : 0 ≤ a
    · by_cases h2 : a ≤ b
      · have e : decide (b ≤ (x.length : Int) - 1) = decide (b < (x.length : Int)) := by rw [Bool.eq_iff_iff]; simp; omega
        simp [h1, h2, e]
      · simp [h1, h2]
    · simp [h1]
/-- Some measures, so many times. -/
def times (m : MusicT) : Nat → MusicT
  | 0 => []
  | n + 1 => m ++ times m n
theorem times_len (m : MusicT) (n : Nat) : (times m n).length = n * m.length := by
  induction n with
  | zero => simp [times]
  | succ n ih => rw [times, List.length_append, ih, Nat.succ_mul]; omega
def midOf (x : MusicT) (a b : Nat) : MusicT := (x.take (b + 1)).drop a
def longerM (x : MusicT) (a b n : Nat) : MusicT := x.take a ++ times (midOf x a b) n ++ x.drop (b + 1)
def repAns (x : MusicT) (a b n : Int) : MusicT × Bool := if okRange x a b && okIn n 1 10 && okMusic (longerM x a.toNat b.toNat n.toNat) then (longerM x a.toNat b.toNat n.toNat, true) else ([], false)
theorem range_of {x : MusicT} {a b : Int} (h : okRange x a b = true) : okMusic x = true ∧ a = ((a.toNat : Nat) : Int) ∧ b = ((b.toNat : Nat) : Int) ∧ a.toNat ≤ b.toNat ∧ b.toNat < x.length := by
  unfold okRange at h
  simp only [Bool.and_eq_true, decide_eq_true_eq] at h
  exact ⟨h.1.1.1, by omega, by omega, by omega, by omega⟩
theorem sl_mid (x : MusicT) {a b : Nat} (h : a ≤ b) (h2 : b < x.length) : sl x (a : Int) ((b : Int) + 1) = some (midOf x a b) := by
  unfold sl midOf
  rw [if_pos (by omega)]
  simp
theorem spec_RepeatMeasures (x : MusicT) (a b n : Int) (h : x.length < 4611686018427387904) : F_spec_RepeatMeasures x a b n = some (repAns x a b n) := by
  unfold F_spec_RepeatMeasures jK1 repAns
  dsimp only
  rw [spec_muRange x a b h, Option.bind_some, spec_l1In, Option.bind_some]
  cases hr : okRange x a b with
  | false => simp
  | true =>
    cases hn : okIn n 1 10 with
    | false => simp
    | true =>
      obtain ⟨hm, ea, eb, hab, hb⟩ := range_of hr
      have hml := music_len hm
      rw [okIn_iff'] at hn
      have en : n = ((n.toNat : Nat) : Int) := by omega
      generalize a.toNat = A at *
      generalize b.toNat = B at *
      generalize n.toNat = N at *
      subst ea; subst eb; subst en
      have hmid : (midOf x A B).length ≤ 40 := by unfold midOf; simp; omega
      simp only [Bool.not_true, Bool.false_eq_true, if_false, Bool.true_and, Bool.and_self]
      rw [sl_take x (by omega), Option.bind_some, app_ok' (by simp; omega), Option.bind_some, List.nil_append]
      have key : ∀ k m (s : MusicT), k < m → s.length ≤ 40 + 40 * (10 - k) → k ≤ 10 → F_spec_RepeatMeasures_L1 x (A : Int) (B : Int) m (k : Int) s = (Option.bind (F_spec_muGood (s ++ times (midOf x A B) k ++ x.drop (B + 1))) fun u => if (!u) = true then some ([], false) else some (s ++ times (midOf x A B) k ++ x.drop (B + 1), true)) := by
        intro k
        induction k with
        | zero =>
          intro m s hm hs hk
          cases m with
          | zero => omega
          | succ m =>
            rw [F_spec_RepeatMeasures_L1, if_neg (by simp), w64_succ (by omega), sl_drop x (by omega), Option.bind_some, app_ok' (by simp; omega), Option.bind_some]
            simp [times]
        | succ k ih =>
          intro m s hm hs hk
          cases m with
          | zero => omega
          | succ m =>
            rw [F_spec_RepeatMeasures_L1, if_pos (by simp <;> omega), w64_eq (x := (B : Int) + 1) (by omega) (by omega), sl_mid x hab hb, Option.bind_some, app_ok' (by omega), Option.bind_some, w64_eq (x := ((k + 1 : Nat) : Int) - 1) (by omega) (by omega),
              show ((k + 1 : Nat) : Int) - 1 = (k : Int) by omega, ih m _ (by omega) (by simp; omega) (by omega)]
            simp [times, List.append_assoc]
      have hlen := times_len (midOf x A B) N
      have hN : N * (midOf x A B).length ≤ 10 * 40 := Nat.mul_le_mul (by omega) hmid
      rw [key N FU _ (FU_gt (by omega)) (by simp; omega) (by omega)]
      unfold longerM
      rw [spec_muGood _ (by simp; omega), Option.bind_some]
      cases okMusic (x.take A ++ times (midOf x A B) N ++ x.drop (B + 1)) <;> simp
theorem impl_RepeatMeasures (x : MusicT) (a b n : Int) (h : x.length < 4611686018427387904) : F_impl_RepeatMeasures x a b n = some (repAns x a b n) := by
  unfold F_impl_RepeatMeasures jK1 repAns
  dsimp only
  rw [impl_IsMusic x h, Option.bind_some, impl_within, Option.bind_some]
  by_cases hr : okRange x a b = true
  · obtain ⟨hm, ea, eb, hab, hb⟩ := range_of hr
    have hml := music_len hm
    have g1 : ¬ a < 0 := by omega
    have g2 : ¬ b < a := by omega
    have g3 : ¬ (x.length : Int) ≤ b := by omega
    cases hn : okIn n 1 10 with
    | false => simp [hm, g1, g2, g3]
    | true =>
      rw [okIn_iff'] at hn
      have en : n = ((n.toNat : Nat) : Int) := by omega
      rw [hr]
      generalize a.toNat = A at *
      generalize b.toNat = B at *
      generalize n.toNat = N at *
      subst ea; subst eb; subst en
      have hmid : (midOf x A B).length ≤ 40 := by unfold midOf; simp; omega
      simp only [hm, g1, g2, g3, decide_false, Bool.not_true, Bool.false_eq_true, if_false, Bool.true_and, Bool.and_self]
      rw [sl_take x (by omega), Option.bind_some, app_ok' (by simp; omega), Option.bind_some, List.nil_append]
      have key : ∀ d k m (s : MusicT), N - k = d → k ≤ N → d < m → s.length ≤ 40 + 40 * k → F_impl_RepeatMeasures_L1 (N : Int) x (A : Int) (B : Int) m s (k : Int) = (Option.bind (F_impl_IsMusic (s ++ times (midOf x A B) d ++ x.drop (B + 1))) fun u => if (!u) = true then some ([], false) else some (s ++ times (midOf x A B) d ++ x.drop (B + 1), true)) := by
        intro d
        induction d with
        | zero =>
          intro k m s hd hk hm hs
          cases m with
          | zero => omega
          | succ m =>
            rw [F_impl_RepeatMeasures_L1, if_neg (by simp; omega), w64_succ (by omega), sl_drop x (by omega), Option.bind_some, app_ok' (by simp; omega), Option.bind_some]
            simp [times]
        | succ d ih =>
          intro k m s hd hk hm hs
          cases m with
          | zero => omega
          | succ m =>
            rw [F_impl_RepeatMeasures_L1, if_pos (by simp; omega), w64_eq (x := (B : Int) + 1) (by omega) (by omega), sl_mid x hab hb, Option.bind_some, app_ok' (by omega), Option.bind_some, w64_succ (by omega), ih (k + 1) m _ (by omega) (by omega) (by omega) (by simp; omega)]
            simp [times, List.append_assoc]
      have hlen := times_len (midOf x A B) N
      have hN : N * (midOf x A B).length ≤ 10 * 40 := Nat.mul_le_mul (by omega) hmid
      have := key N 0 FU (x.take A) (by omega) (by omega) (FU_gt (by omega)) (by simp; omega)
      rw [show ((0 : Nat) : Int) = 0 from rfl] at this
      rw [this]
      unfold longerM
      rw [impl_IsMusic _ (by simp; omega), Option.bind_some]
      cases okMusic (x.take A ++ times (midOf x A B) N ++ x.drop (B + 1)) <;> simp
  · have hr' : okRange x a b = false := by simpa using hr
    rw [hr']
    unfold okRange at hr'
    cases hm : okMusic x with
    | false => simp
    | true =>
      rw [hm] at hr'
      by_cases g1 : a < 0
      · simp [g1]
      · by_cases g2 : b < a
        · simp [g1, g2]
        · have g3 : (x.length : Int) ≤ b := by
            have h1 : 0 ≤ a := by omega
            have h2 : a ≤ b := by omega
            simp [h1, h2] at hr'
            omega
          simp [g1, g2, g3]
/-! counts -/
theorem sum_times (m : MusicT) (n : Nat) : ((times m n).map (·.1)).sum = n * (m.map (·.1)).sum := by
  induction n with
  | zero => simp [times]
  | succ n ih => rw [times, List.map_append, List.sum_append, ih]; push_cast; rw [Int.add_mul]; omega
def laterC (e d : Int) (c : CueT) : CueT := if e ≤ c.1 then (w64 (c.1 + d), c.2) else c
def afterAns (x : MusicT) (l : List CueT) (a b n : Int) : List CueT × Bool :=
  if okBoth x l && (repAns x a b n).2 then (l.map (laterC (totC (x.take (b.toNat + 1))) (w64 (w64 (n - 1) * totC (midOf x a.toNat b.toNat)))), true) else ([], false)
theorem all_take {x : MusicT} (h : x.all okMeasure = true) (k : Nat) : (x.take k).all okMeasure = true := by
  rw [List.all_eq_true] at h ⊢
  exact fun u hu => h u (List.mem_of_mem_take hu)
theorem all_mid {x : MusicT} (h : x.all okMeasure = true) (a b : Nat) : (midOf x a b).all okMeasure = true := by
  have := all_take h (b + 1)
  rw [List.all_eq_true] at this ⊢
  exact fun u hu => this u (List.mem_of_mem_drop hu)
theorem rep_of {x : MusicT} {a b n : Int} (h : (repAns x a b n).2 = true) : okRange x a b = true ∧ okIn n 1 10 = true ∧ okMusic (longerM x a.toNat b.toNat n.toNat) = true ∧ (repAns x a b n).1 = longerM x a.toNat b.toNat n.toNat := by
  unfold repAns at h ⊢
  split at h
  · rename_i hc
    rw [if_pos hc]
    simp only [Bool.and_eq_true] at hc
    exact ⟨hc.1.1, hc.1.2, hc.2, rfl⟩
  · cases h
theorem added_counts {x : MusicT} {a b n : Int} (h : (repAns x a b n).2 = true) : w64 (totC (longerM x a.toNat b.toNat n.toNat) - totC x) = w64 (w64 (n - 1) * totC (midOf x a.toNat b.toNat)) := by
  obtain ⟨hr, hn, hm2, _⟩ := rep_of h
  obtain ⟨hm, ea, eb, hab, hb⟩ := range_of hr
  rw [okIn_iff'] at hn
  have hml := music_len hm
  have hml2 := music_len hm2
  have s1 := totC_eq hml2.2.2 (by omega)
  have s2 := totC_eq hml.2.2 (by omega)
  have s3 := totC_eq (all_mid hml.2.2 a.toNat b.toNat) (by unfold midOf; simp; omega)
  have hx : (x.map (·.1)).sum = ((x.take a.toNat).map (·.1)).sum + ((midOf x a.toNat b.toNat).map (·.1)).sum + ((x.drop (b.toNat + 1)).map (·.1)).sum := by
    have e : x = x.take a.toNat ++ midOf x a.toNat b.toNat ++ x.drop (b.toNat + 1) := by
      unfold midOf
      have h1 : x.take a.toNat = (x.take (b.toNat + 1)).take a.toNat := by rw [List.take_take, Nat.min_eq_left (by omega)]
      rw [h1, List.take_append_drop, List.take_append_drop]
    have := congrArg (fun l => (l.map (·.1)).sum) e
    simp only [List.map_append, List.sum_append] at this
    exact this
  have hl : ((longerM x a.toNat b.toNat n.toNat).map (·.1)).sum = ((x.take a.toNat).map (·.1)).sum + n.toNat * ((midOf x a.toNat b.toNat).map (·.1)).sum + ((x.drop (b.toNat + 1)).map (·.1)).sum := by
    unfold longerM
    rw [List.map_append, List.map_append, List.sum_append, List.sum_append, sum_times]
  have hnn : (n.toNat : Int) = n := by omega
  rw [s1.1, s2.1, s3.1, hl, hx, hnn, w64_eq (x := n - 1) (by omega) (by omega), Int.sub_mul]
  congr 1
  omega
theorem spec_CuesAfterRepeat (x : MusicT) (l : List CueT) (a b n : Int) (h : CueLens x l) : F_spec_CuesAfterRepeat x l a b n = some (afterAns x l a b n) := by
  unfold F_spec_CuesAfterRepeat afterAns
  rw [spec_tiGood x l h, Option.bind_some]
  cases hb : okBoth x l with
  | false => simp
  | true =>
    have hl := both_len hb
    rw [spec_RepeatMeasures x a b n h.hx, Option.bind_some]
    cases hr : (repAns x a b n).2 with
    | false => simp
    | true =>
      obtain ⟨g1, g2, g3, g4⟩ := rep_of hr
      obtain ⟨hm, ea, eb, hab, hbl⟩ := range_of g1
      have hml := music_len g3
      simp only [Bool.not_true, Bool.false_eq_true, if_false, Bool.and_self, if_true]
      have e : w64 (b + 1) = ((b.toNat + 1 : Nat) : Int) := by rw [w64_eq (by have := h.hx; omega) (by have := h.hx; omega)]; omega
      rw [g4, spec_muCounts _ (by omega), Option.bind_some, spec_muCounts x h.hx, Option.bind_some, e, sl_take x (by omega), Option.bind_some, spec_muCounts _ (by have := h.hx; simp; omega), Option.bind_some, app_ok' (by simp; omega), Option.bind_some, List.nil_append,
        loopSet (F_spec_CuesAfterRepeat_L1 l (totC (x.take (b.toNat + 1))) (totC (longerM x a.toNat b.toNat n.toNat)) (totC x)) l (laterC (totC (x.take (b.toNat + 1))) (w64 (totC (longerM x a.toNat b.toNat n.toNat) - totC x))) (fun s => some (s, true)) (by omega) (fun m k c s hk hc hsl => ?_) (fun m s hsl => ?_), added_counts hr]
      · rw [F_spec_CuesAfterRepeat_L1, if_pos (by simp; omega)]
        unfold jK1
        dsimp only
        rw [idx_nat, hc, Option.bind_some, Option.bind_some, Option.bind_some, seti_nat, w64_succ (by omega)]
        unfold laterC
        by_cases hq : totC (x.take (b.toNat + 1)) ≤ c.1
        · rw [if_pos (by simpa using hq), if_pos hq]
        · rw [if_neg (by simpa using hq), if_neg hq]
          have : s.set k c = s := by
            apply List.ext_getElem?
            intro i
            by_cases hi : i = k
            · subst hi
              rw [List.getElem?_set_self (by omega), hc]
            · rw [List.getElem?_set_ne (Ne.symm hi)]
          rw [this]
      · rw [F_spec_CuesAfterRepeat_L1, if_neg (by simp)]
theorem impl_CuesAfterRepeat (x : MusicT) (l : List CueT) (a b n : Int) (h : CueLens x l) : F_impl_CuesAfterRepeat x l a b n = some (afterAns x l a b n) := by
  unfold F_impl_CuesAfterRepeat afterAns
  rw [impl_haveCues x l h, Option.bind_some]
  cases hb : okBoth x l with
  | false => simp
  | true =>
    have hl := both_len hb
    rw [impl_RepeatMeasures x a b n h.hx, Option.bind_some]
    cases hr : (repAns x a b n).2 with
    | false => simp
    | true =>
      obtain ⟨g1, g2, g3, g4⟩ := rep_of hr
      obtain ⟨hm, ea, eb, hab, hbl⟩ := range_of g1
      have hml := music_len hm
      simp only [Bool.not_true, Bool.false_eq_true, if_false, Bool.and_self, if_true]
      have e : w64 (b + 1) = ((b.toNat + 1 : Nat) : Int) := by rw [w64_eq (by omega) (by omega)]; omega
      have e2 : sl x a ((b.toNat + 1 : Nat) : Int) = some (midOf x a.toNat b.toNat) := by
        have := sl_mid x hab hbl
        rw [← ea, show ((b.toNat : Nat) : Int) + 1 = ((b.toNat + 1 : Nat) : Int) by omega] at this
        exact this
      rw [e, sl_take x (by omega), Option.bind_some, e2, Option.bind_some, impl_countsOf _ (by simp; omega), Option.bind_some, impl_countsOf _ (by unfold midOf; simp; omega), Option.bind_some,
        loopMapL (F_impl_CuesAfterRepeat_L1 l (totC (x.take (b.toNat + 1))) n (totC (midOf x a.toNat b.toNat))) l (laterC (totC (x.take (b.toNat + 1))) (w64 (w64 (n - 1) * totC (midOf x a.toNat b.toNat)))) (fun s => some (s, true)) (by omega) (fun m s k c hk hc hsl => ?_) (fun m s => ?_)]
      · rw [F_impl_CuesAfterRepeat_L1, if_pos (by simp; omega), idx_nat, hc, Option.bind_some]
        unfold jK1
        dsimp only
        rw [w64_succ (k := k) (by omega)]
        unfold laterC
        by_cases hq : totC (x.take (b.toNat + 1)) ≤ c.1
        · rw [if_pos (by simpa using hq), if_pos hq, app_ok' (by simp; omega), Option.bind_some]
        · rw [if_neg (by simpa using hq), if_neg hq, app_ok' (by simp; omega), Option.bind_some]
      · rw [F_impl_CuesAfterRepeat_L1, if_neg (by simp)]
theorem afterAns_ok (x : MusicT) (l : List CueT) (a b n : Int) : (afterAns x l a b n).1.length ≤ l.length ∧ ∀ c ∈ (afterAns x l a b n).1, ∃ d ∈ l, c.2 = d.2 := by
  unfold afterAns
  split
  · refine ⟨by simp, fun c hc => ?_⟩
    obtain ⟨d, hd, rfl⟩ := List.mem_map.1 hc
    refine ⟨d, hd, ?_⟩
    unfold laterC
    split <;> rfl
  · simp
end Go.Proofs.Ytmbhdelegdhieaa
