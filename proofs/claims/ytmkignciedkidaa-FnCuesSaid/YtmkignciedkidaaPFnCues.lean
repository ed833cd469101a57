/-
  THE LAW FnCues, PLAIN: it answers true.
-/
import Derived.Test.YtmkignciedkidaaPDrawCue
import Derived.Test.YtmkignciedkidaaPGap
set_option linter.unusedSimpArgs false
set_option linter.unusedVariables false
namespace Go.Proofs.Ytmkignciedkidaa
open Go
theorem q_Ints (x : List Int) (hs : x.length ≤ 1048576) : F_laws_qInts x x = some true := eqLB neI (F_laws_qInts_L1 x x) x (fun _ _ => rfl) (S := anyG) ⟨hs, fun _ _ => trivial⟩
theorem q_Cues (x : List CueT) (hs : x.length ≤ 1048576) : F_laws_qCues x x = some true :=
  eqL (F_laws_qCues_L1 x x) x (fun u v => some (eqv_Cue u v)) (fun _ _ => rfl) (S := anyG) (fun u _ => by simp [eqv_Cue]) ⟨hs, fun _ _ => trivial⟩
theorem q_Has (x : List Int) (n : Int) (hs : x.length < 4611686018427387904) : F_laws_qHas x n = some (decide (n ∈ x)) := by
  unfold F_laws_qHas
  rw [loopL (F_laws_qHas_L1 x n) x (fun u => u != n) (some false) (some true) hs (fun m k u hk hu => ?_) (fun m => ?_)]
  · by_cases h : n ∈ x
    · rw [if_neg (fun h2 => by have := List.all_eq_true.1 h2 n h; simp at this)]
      simp [h]
    · rw [if_pos (List.all_eq_true.2 fun u hu => by simp; intro e; exact h (e ▸ hu))]
      simp [h]
  · rw [F_laws_qHas_L1, if_pos (by simp; omega), idx_nat, hu, Option.bind_some, w64_succ (by omega)]
    by_cases e : u = n <;> simp [e]
  · rw [F_laws_qHas_L1, if_neg (by simp)]
def timesAnsC (x : MusicT) (l : List CueT) : List Int × Bool := if okBoth x l then (timesC x l, true) else ([], false)
theorem spec_CueTimesC (x : MusicT) (l : List CueT) (h : CueLens x l) : F_spec_CueTimes x l = some (timesAnsC x l) := by
  unfold F_spec_CueTimes timesAnsC
  rw [spec_tiGood x l h, Option.bind_some]
  cases hb : okBoth x l with
  | false => simp
  | true => simp [spec_tiTimes x l (both_music hb) h.hl]
theorem impl_CueTimesC (x : MusicT) (l : List CueT) (h : CueLens x l) : F_impl_CueTimes x l = some (timesAnsC x l) := by
  unfold F_impl_CueTimes timesAnsC
  rw [impl_haveCues x l h, Option.bind_some]
  cases hb : okBoth x l with
  | false => simp
  | true => simp [impl_cueTimes x l (both_music hb) h.hl]
theorem timesC_len (x : MusicT) (l : List CueT) : (timesC x l).length = l.length := by unfold timesC; simp
theorem timesAnsC_len (x : MusicT) (l : List CueT) : (timesAnsC x l).1.length ≤ l.length := by
  unfold timesAnsC
  split
  · rw [timesC_len]; omega
  · simp
abbrev Yes (b : Bool) : Prop := b = true
theorem P_laws_FnCues (x0 x1 : List Int) (g0 : (allG inU8) x0) (g1 : (allG inU8) x1) : F_laws_FnCues x0 x1 = some true := by
  refine Tot.of ?_
  unfold F_laws_FnCues
  refine Tot.ite (fun _ => Tot.some rfl) fun _ => ?_
  refine Tot.bind (draw_LongestGap x0 (Cu.start g0)) fun u7 h7 => ?_
  refine Tot.bindE (impl_LongestGap _ _ h7.lens) (Tot.bindE (spec_LongestGap _ _ h7.lens) (Tot.bindE (impl_CueTimesC _ _ h7.lens) (Tot.bindE (spec_CueTimesC _ _ h7.lens) ?_)))
  refine Tot.bind (draw_NextCue x1 (Cu.start g1)) fun u50 h50 => ?_
  refine Tot.bindE (impl_NextCue _ _ _ h50.lens) (Tot.bindE (spec_NextCue _ _ _ h50.lens) ?_)
  refine Tot.bind (draw_LastCueAt x1 (Cu.start g1)) fun u75 h75 => ?_
  refine Tot.bindE (impl_LastCueAt _ _ _ h75.lens) (Tot.bindE (spec_LastCueAt _ _ _ h75.lens) ?_)
  refine Tot.bind (draw_CuesBetween x1 (Cu.start g1)) fun u100 h100 => ?_
  refine Tot.bindE (impl_CuesBetween _ _ _ _ h100.lens) (Tot.bindE (spec_CuesBetween _ _ _ _ h100.lens) ?_)
  refine Tot.bind (draw_ShiftCues x1 (Cu.start g1)) fun u129 h129 => ?_
  refine Tot.bindE (impl_ShiftCues _ _ _ h129.lens) (Tot.bindE (spec_ShiftCues _ _ _ h129.lens) ?_)
  have l7 := h7.2.1
  have l50 := h50.2.1
  have l75 := h75.2.1
  have l100 := h100.2.1
  have l129 := h129.2.1
  have hsh : (shiftAns u129.1 u129.2.1 u129.2.2).1.length ≤ 30 ∧ ∀ c ∈ (shiftAns u129.1 u129.2.1 u129.2.2).1, c.2.length ≤ 8 := by unfold shiftAns; split; exact ifCues_ok _ _; simp
  have q1 := q_Ints (timesAnsC u7.1 u7.2).1 (by have := timesAnsC_len u7.1 u7.2; omega)
  have q2 := q_Ints (btwAns u100.1 u100.2.1 u100.2.2.1 u100.2.2.2).1 (by have := btwAns_len u100.1 u100.2.1 u100.2.2.1 u100.2.2.2; omega)
  have q3 := q_Cues (shiftAns u129.1 u129.2.1 u129.2.2).1 (by omega)
  refine Tot.j1 (fun y => y = false) (fun y hy => ?_) fun k hk => ?_
  rotate_left
  · simp only [bne_self_eq_false, Bool.false_eq_true, if_false, q1, q2, q3, Option.bind_some, Bool.not_true]
    unfold timesAnsC gapAns
    cases okBoth u7.1 u7.2 with
    | false => exact hk _ (by simp)
    | true =>
      by_cases hp : 0 < u7.2.length
      · have : (0 : Int) < u7.2.length := by omega
        simp only [hp, decide_true, Bool.and_self, if_true]
        exact hk _ (by simp [hp])
      · have : ¬ (0 : Int) < u7.2.length := by omega
        simp only [hp, decide_false, Bool.and_false, Bool.false_eq_true, if_false, if_true]
        exact hk _ (by simp; exact List.eq_nil_of_length_eq_zero (by omega))
  subst hy
  simp only [Bool.false_eq_true, if_false]
  refine Tot.j1 (fun y => y = false) (fun y hy => ?_) fun k hk => ?_
  rotate_left
  · unfold nextAns
    split
    · split
      · rename_i hlt
        obtain ⟨d, hd, hge⟩ := nextAt_ge hlt
        simp only [if_true]
        refine Tot.bindE (by rw [idx_nat]; exact hd) ?_
        rw [if_neg (by simp; omega)]
        by_cases hp : 0 < nextAt u50.2.1 u50.2.2
        · rw [if_pos (by simp; omega)]
          obtain ⟨e, he, hlt2⟩ := nextAt_lt (l := u50.2.1) (c := u50.2.2) (k := nextAt u50.2.1 u50.2.2 - 1) (by omega)
          refine Tot.bindE (v := e) (by rw [w64_eq (by omega) (by omega), idx_int (by omega), show ((nextAt u50.2.1 u50.2.2 : Int) - 1).toNat = nextAt u50.2.1 u50.2.2 - 1 by omega]; exact he) (hk _ (by simp; omega))
        · rw [if_neg (by simp; omega)]
          exact hk _ rfl
      · exact hk _ rfl
    · exact hk _ rfl
  subst hy
  simp only [Bool.false_eq_true, if_false]
  refine Tot.j0 (Tot.j0 (Tot.j0 ?_ fun k hk => ?_) fun k hk => ?_) fun k hk => ?_
  · -- the longest gap
    unfold gapAns
    split
    rotate_left
    · exact Tot.some rfl
    · rename_i hok
      rw [Bool.and_eq_true, decide_eq_true_eq] at hok
      obtain ⟨hb, hp⟩ := hok
      have hm := both_music hb
      simp only [Bool.not_true, Bool.false_eq_true, if_false]
      refine Tot.bindE (impl_CountsOf _ hm) (Tot.bindE (spec_CountsOf _ hm) (Tot.bindE (impl_TimeOf _ hm) (Tot.bindE (spec_TimeOf _ hm) ?_)))
      refine Tot.j1 (fun y => y = false) (fun y hy => ?_) fun k hk => ?_
      rotate_left
      · simp only [Bool.not_true, bne_self_eq_false, Bool.false_eq_true, if_false]
        exact hk _ rfl
      subst hy
      have ht : (timesAnsC u7.1 u7.2).1 = timesC u7.1 u7.2 := by unfold timesAnsC; rw [if_pos hb]
      have hlt := timesC_len u7.1 u7.2
      simp only [Bool.false_eq_true, if_false, ht]
      refine Tot.bindE (app_ok' (by simp; omega)) (Tot.bindE (app_ok' (by simp; omega)) ?_)
      rw [List.nil_append]
      show Tot (F_laws_FnCues_L2 u7 (gapT u7.1 u7.2) ((bestGap (gapT u7.1 u7.2) u7.2.length : Int), gapOf (gapT u7.1 u7.2) (bestGap (gapT u7.1 u7.2) u7.2.length), true) FU 0) Yes
      have hgl := gapT_len u7.1 u7.2
      obtain ⟨b1, b2, b3⟩ := bestGap_ok (gapT u7.1 u7.2) u7.2.length hp
      generalize gapT u7.1 u7.2 = ts at *
      generalize bestGap ts u7.2.length = best at *
      rw [loopR (F_laws_FnCues_L2 u7 ts ((best : Int), gapOf ts best, true)) u7.2.length (fun _ => true) (some true) (some false) (by omega) (fun m k hk => ?_) (fun m => ?_)]
      · exact ⟨true, by simp, rfl⟩
      · obtain ⟨a, b, e1, e2, e3⟩ := gapOf_eq (ts := ts) (k := k) (by omega)
        have hle := b2 k hk
        rw [F_laws_FnCues_L2, if_pos (by simp; omega), w64_succ (by omega), idx_nat, e2, Option.bind_some, idx_nat, e1, Option.bind_some, ← e3]
        unfold jK1
        dsimp only
        rw [if_neg (by simp; omega)]
        by_cases he : gapOf ts k = gapOf ts best
        · have hnl : ¬ k < best := fun h => by have := b3 k h; omega
          rw [if_pos (by simp [he]), if_neg (by simp; omega), he]
          simp
        · have hne : ¬ (k : Int) = best := fun h => he (by rw [show k = best by omega])
          rw [if_neg (by simp [he]), if_neg (by simp; exact fun h => hne (by omega))]
          simp
      · rw [F_laws_FnCues_L2, if_neg (by simp)]
  · -- shifted back
    unfold shiftAns
    split
    rotate_left
    · exact hk
    · rename_i hok
      rw [Bool.and_eq_true, okIn_iff'] at hok
      obtain ⟨hb, hd⟩ := hok
      have hm := both_music hb
      have hbc : okCues u129.1 u129.2.1 = true := by unfold okBoth at hb; rw [Bool.and_eq_true] at hb; exact hb.2
      unfold ifCues
      cases hc : okCues u129.1 (u129.2.1.map (shiftC u129.2.2)) with
      | false => exact hk
      | true =>
        simp only [if_true]
        have hl2 := lens_map h129.lens (shiftC u129.2.2) fun _ => rfl
        have hb2 : okBoth u129.1 (u129.2.1.map (shiftC u129.2.2)) = true := by unfold okBoth; rw [hm, hc]; rfl
        have hneg : w64 (0 - u129.2.2) = -u129.2.2 := by rw [w64_eq (by omega) (by omega)]; omega
        have hin : okIn (-u129.2.2) (-500) 500 = true := by rw [okIn_iff']; omega
        have hback : shiftAns u129.1 (u129.2.1.map (shiftC u129.2.2)) (-u129.2.2) = (u129.2.1, true) := by
          unfold shiftAns ifCues
          rw [hb2, hin, shift_back hm hbc hd, hbc]
          rfl
        rw [hneg]
        refine Tot.bindE (impl_ShiftCues _ _ _ hl2) (Tot.bindE (impl_AreCues _ _ hl2) ?_)
        rw [hback, hm, hc]
        refine Tot.j1 (fun y => y = false) (fun y hy => by subst hy; simpa using hk) fun k2 hk2 => ?_
        simp only [if_true, Bool.not_true, Bool.false_eq_true, if_false]
        refine Tot.bindE (q_Cues _ (by omega)) ?_
        simp only [Bool.not_true, Bool.false_eq_true, if_false]
        exact hk2 _ rfl
  · -- cues between
    unfold btwAns
    split
    rotate_left
    · exact hk
    · rename_i hok
      rw [Bool.and_eq_true, Bool.and_eq_true] at hok
      obtain ⟨⟨hb, _⟩, _⟩ := hok
      simp only [if_true]
      refine Tot.bindE (spec_CueTimesC _ _ h100.lens) ?_
      have ht : timesAnsC u100.1 u100.2.1 = (timesC u100.1 u100.2.1, true) := by unfold timesAnsC; rw [if_pos hb]
      have hlt := timesC_len u100.1 u100.2.1
      rw [ht]
      simp only [Bool.not_true, Bool.false_eq_true, if_false]
      obtain ⟨v, hv, hv2⟩ := hk
      rw [hv]
      generalize timesC u100.1 u100.2.1 = ts at *
      rw [loopR (F_laws_FnCues_L1 (ts, true) _ u100 (some v)) ts.length (fun _ => true) (some v) (some false) (by omega) (fun m k hk => ?_) (fun m => ?_)]
      · exact ⟨v, by simp, hv2⟩
      · have e : ts[k]? = some ts[k] := List.getElem?_eq_getElem hk
        have hfl := filt_len (btwAt ts u100.2.2.1 u100.2.2.2) ts.length
        rw [F_laws_FnCues_L1, if_pos (by simp; omega), idx_nat]
        dsimp only
        rw [e, Option.bind_some]
        unfold jK1
        dsimp only
        rw [q_Has _ _ (by omega), Option.bind_some, w64_succ (by omega)]
        have hmem := filt_mem (p := btwAt ts u100.2.2.1 u100.2.2.2) hk
        have hat : btwAt ts u100.2.2.1 u100.2.2.2 k = (decide (u100.2.2.1 ≤ ts[k]) && decide (ts[k] < u100.2.2.2)) := by unfold btwAt; rw [e]
        rw [hat] at hmem
        have hdec : decide ((k : Int) ∈ filt (btwAt ts u100.2.2.1 u100.2.2.2) ts.length) = (decide (u100.2.2.1 ≤ ts[k]) && decide (ts[k] < u100.2.2.2)) := by
          rw [Bool.eq_iff_iff, decide_eq_true_eq]; exact hmem
        rw [hdec]
        by_cases h1 : u100.2.2.1 ≤ ts[k] <;> by_cases h2 : ts[k] < u100.2.2.2 <;> simp [h1, h2]
      · rw [F_laws_FnCues_L1, if_neg (by simp)]
  · -- the last cue
    unfold lastAns
    split
    rotate_left
    · exact hk
    · rename_i hok
      rw [Bool.and_eq_true] at hok
      obtain ⟨hb, _⟩ := hok
      rcases lastAt_ok (timesC u75.1 u75.2.1) u75.2.2 with ⟨e, _⟩ | ⟨r, e, ⟨u, hu, hule⟩, hlate⟩
      · have e0 : (if lastAt (timesC u75.1 u75.2.1) u75.2.2 < 0 then ((0 : Int), false) else (lastAt (timesC u75.1 u75.2.1) u75.2.2, true)) = (0, false) := if_pos (by omega)
        rw [e0]
        exact hk
      · have e0 : (if lastAt (timesC u75.1 u75.2.1) u75.2.2 < 0 then ((0 : Int), false) else (lastAt (timesC u75.1 u75.2.1) u75.2.2, true)) = ((r : Int), true) := by rw [if_neg (by omega), e]
        rw [e0]
        simp only [if_true]
        have ht : timesAnsC u75.1 u75.2.1 = (timesC u75.1 u75.2.1, true) := by unfold timesAnsC; rw [if_pos hb]
        have hlt := timesC_len u75.1 u75.2.1
        refine Tot.bindE (impl_CueTimesC _ _ h75.lens) (Tot.bindE (spec_CueTimesC _ _ h75.lens) ?_)
        rw [ht]
        refine Tot.j1 (fun y => y = false) (fun y hy => by subst hy; simpa using hk) fun k2 hk2 => ?_
        simp only [Bool.not_true, Bool.false_eq_true, if_false]
        refine Tot.bindE (q_Ints _ (by omega)) ?_
        simp only [Bool.not_true, Bool.false_eq_true, if_false]
        have hrl := (List.getElem?_eq_some_iff.1 hu).1
        refine Tot.bindE (by rw [idx_nat]; exact hu) ?_
        rw [if_neg (by simp; omega), w64_succ (by omega)]
        refine Tot.ite (fun hlt2 => ?_) fun _ => hk2 _ rfl
        have hlt3 : r + 1 < (timesC u75.1 u75.2.1).length := by simp at hlt2; omega
        have e2 : (timesC u75.1 u75.2.1)[r + 1]? = some (timesC u75.1 u75.2.1)[r + 1] := List.getElem?_eq_getElem hlt3
        refine Tot.bindE (by rw [idx_nat]; exact e2) (hk2 _ ?_)
        have := hlate (r + 1) _ (by omega) e2
        simp
        omega
end Go.Proofs.Ytmkignciedkidaa
