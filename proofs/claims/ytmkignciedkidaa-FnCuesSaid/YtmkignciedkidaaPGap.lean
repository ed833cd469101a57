/-
  THE NEXT CUE, THE LONGEST GAP, THE END OF MUSIC, PLAIN.
-/
import Derived.Test.YtmkignciedkidaaPCue
import Derived.Test.YtmkignciedkidaaPShift
import Derived.Test.YtmkignciedkidaaPBetween
import Derived.Test.YtmkignciedkidaaPLast
set_option linter.unusedSimpArgs false
set_option linter.unusedVariables false
namespace Go.Proofs.Ytmkignciedkidaa
open Go
/-! the next cue -/
def nextAt (l : List CueT) (c : Int) : Nat := (l.takeWhile fun d => decide (d.1 < c)).length
def nextAns (x : MusicT) (l : List CueT) (c : Int) : Int × Bool := if okBoth x l && okIn c 0 (w64 (totC x - 1)) then (if nextAt l c < l.length then ((nextAt l c : Int), true) else (0, false)) else (0, false)
theorem next_loop (f : Nat → Int → Option (Int × Bool)) (l : List CueT) (c : Int) (hl : l.length < 1073741824)
    (hs : ∀ m y, f (m + 1) y = if (decide (y < (List.length l : Int))) = true then Option.bind (idx l y) fun u => (if (decide (c ≤ u.1)) = true then some (y, true) else f m (w64 (y + 1))) else some (0, false)) :
    f FU 0 = if nextAt l c < l.length then some ((nextAt l c : Int), true) else some (0, false) := by
  refine loopFind f l (fun d => decide (d.1 < c)) (fun k => if k < l.length then some ((k : Int), true) else some (0, false)) (by omega) (fun m k d hk hd hq => ?_) (fun m k d hk hd hq => ?_) (fun m => ?_)
  · rw [hs, if_pos (by simp; omega), idx_nat, hd, Option.bind_some, if_neg (by simp at hq ⊢; omega), w64_succ (by omega)]
  · rw [hs, if_pos (by simp; omega), idx_nat, hd, Option.bind_some, if_pos (by simp at hq ⊢; omega), if_pos hk]
  · rw [hs, if_neg (by simp)]
    simp
theorem impl_NextCue (x : MusicT) (l : List CueT) (c : Int) (h : CueLens x l) : F_impl_NextCue x l c = some (nextAns x l c) := by
  unfold F_impl_NextCue jK1 nextAns
  dsimp only
  rw [impl_haveCues x l h, Option.bind_some, impl_countsOf x h.hx, Option.bind_some, impl_within, Option.bind_some, next_loop (F_impl_NextCue_L1 l c) l c h.hl (fun m y => by rw [F_impl_NextCue_L1])]
  cases okBoth x l <;> cases okIn c 0 (w64 (totC x - 1)) <;> simp
  split <;> rfl
theorem spec_muHas (x : MusicT) (c : Int) (h : x.length < 4611686018427387904) : F_spec_muHas x c = some (okMusic x && okIn c 0 (w64 (totC x - 1))) := by
  unfold F_spec_muHas jK1
  dsimp only
  rw [spec_muGood x h, Option.bind_some, spec_muCounts x h, Option.bind_some, spec_l1In, Option.bind_some]
  cases okMusic x <;> simp
theorem spec_NextCue (x : MusicT) (l : List CueT) (c : Int) (h : CueLens x l) : F_spec_NextCue x l c = some (nextAns x l c) := by
  unfold F_spec_NextCue jK1 nextAns
  dsimp only
  rw [spec_tiGood x l h, Option.bind_some, spec_muHas x c h.hx, Option.bind_some, next_loop (F_spec_NextCue_L1 l c) l c h.hl (fun m y => by rw [F_spec_NextCue_L1])]
  cases hb : okBoth x l with
  | false => simp
  | true =>
    rw [both_music hb]
    cases okIn c 0 (w64 (totC x - 1)) <;> simp
    split <;> rfl
theorem nextAt_ge {l : List CueT} {c : Int} (h : nextAt l c < l.length) : ∃ d, l[nextAt l c]? = some d ∧ c ≤ d.1 := by
  refine ⟨_, List.getElem?_eq_getElem h, ?_⟩
  have key : ∀ (l : List CueT) (h : (l.takeWhile fun d => decide (d.1 < c)).length < l.length), c ≤ (l[(l.takeWhile fun d => decide (d.1 < c)).length]'h).1 := by
    intro l
    induction l with
    | nil => intro h; simp at h
    | cons d l ih =>
      intro h
      by_cases hd : d.1 < c
      · have e : (d :: l).takeWhile (fun d => decide (d.1 < c)) = d :: l.takeWhile fun d => decide (d.1 < c) := List.takeWhile_cons_of_pos (by simpa using hd)
        simp only [e, List.length_cons, List.getElem_cons_succ]
        exact ih _
      · have e : (d :: l).takeWhile (fun d => decide (d.1 < c)) = [] := List.takeWhile_cons_of_neg (by simpa using hd)
        simp only [e, List.length_nil, List.getElem_cons_zero]
        omega
  exact key l h
theorem nextAt_lt {l : List CueT} {c : Int} {k : Nat} (h : k < nextAt l c) : ∃ d, l[k]? = some d ∧ d.1 < c := by
  unfold nextAt at h
  induction l generalizing k with
  | nil => simp at h
  | cons d l ih =>
    by_cases hd : d.1 < c
    · rw [List.takeWhile_cons_of_pos (by simpa using hd), List.length_cons] at h
      cases k with
      | zero => exact ⟨d, rfl, hd⟩
      | succ k =>
        obtain ⟨e, he, hlt⟩ := ih (k := k) (by omega)
        exact ⟨e, by simpa using he, hlt⟩
    · rw [List.takeWhile_cons_of_neg (by simpa using hd)] at h
      simp at h
/-! the last cue, cues between -/
theorem lastAt_ok (ts : List Int) (t : Int) : (lastAt ts t = -1 ∧ ∀ (k : Nat) u, ts[k]? = some u → t < u) ∨ ∃ r : Nat, lastAt ts t = (r : Int) ∧ (∃ u, ts[r]? = some u ∧ u ≤ t) ∧ ∀ (k : Nat) u, r < k → ts[k]? = some u → t < u := by
  have key : ∀ n, n ≤ ts.length → let s := (List.range n).foldl (fun s (k : Nat) => match ts[k]? with | some u => if u ≤ t then (k : Int) else s | none => s) (-1)
      (s = -1 ∧ ∀ (k : Nat) u, k < n → ts[k]? = some u → t < u) ∨ ∃ r : Nat, s = (r : Int) ∧ r < n ∧ (∃ u, ts[r]? = some u ∧ u ≤ t) ∧ ∀ (k : Nat) u, r < k → k < n → ts[k]? = some u → t < u := by
    intro n
    induction n with
    | zero => intro _; left; exact ⟨rfl, fun k u hk => by omega⟩
    | succ n ih =>
      intro hn
      have hx : ts[n]? = some ts[n] := List.getElem?_eq_getElem (by omega)
      have h := ih (by omega)
      dsimp only at h ⊢
      rw [List.range_succ, List.foldl_append, List.foldl_cons, List.foldl_nil, hx]
      dsimp only
      by_cases hq : ts[n] ≤ t
      · rw [if_pos hq]
        exact .inr ⟨n, rfl, by omega, ⟨_, hx, hq⟩, fun k u h1 h2 => by omega⟩
      · rw [if_neg hq]
        rcases h with ⟨h1, h2⟩ | ⟨r, h1, h2, h3, h4⟩
        · refine .inl ⟨h1, fun k u hk hu => ?_⟩
          by_cases e : k = n
          · subst e; rw [hx] at hu; cases hu; omega
          · exact h2 k u (by omega) hu
        · refine .inr ⟨r, h1, by omega, h3, fun k u hrk hk hu => ?_⟩
          by_cases e : k = n
          · subst e; rw [hx] at hu; cases hu; omega
          · exact h4 k u hrk (by omega) hu
  have := key ts.length (Nat.le_refl _)
  unfold lastAt
  rcases this with ⟨h1, h2⟩ | ⟨r, h1, h2, h3, h4⟩
  · exact .inl ⟨h1, fun k u hu => h2 k u (List.getElem?_eq_some_iff.1 hu).1 hu⟩
  · exact .inr ⟨r, h1, h3, fun k u hk hu => h4 k u hk (List.getElem?_eq_some_iff.1 hu).1 hu⟩
theorem filt_mem {p : Nat → Bool} {n : Nat} {k : Nat} (hk : k < n) : (k : Int) ∈ filt p n ↔ p k = true := by
  unfold filt
  simp only [List.mem_map, List.mem_filter, List.mem_range]
  constructor
  · rintro ⟨j, ⟨h1, h2⟩, e⟩
    have : j = k := by omega
    rwa [← this]
  · intro h
    exact ⟨k, ⟨hk, h⟩, rfl⟩
/-! the longest gap -/
def gapT (x : MusicT) (l : List CueT) : List Int := timesC x l ++ [timeC x (totC x)]
def gapOf (ts : List Int) (k : Nat) : Int := match ts[k]?, ts[k + 1]? with
  | some a, some b => w64 (b - a)
  | _, _ => 0
def bestGap (ts : List Int) (n : Nat) : Nat := (List.range n).foldl (fun s k => if gapOf ts s < gapOf ts k then k else s) 0
theorem bestGap_ok (ts : List Int) : ∀ n, 0 < n → bestGap ts n < n ∧ (∀ k, k < n → gapOf ts k ≤ gapOf ts (bestGap ts n)) ∧ ∀ k, k < bestGap ts n → gapOf ts k < gapOf ts (bestGap ts n) := by
  intro n
  induction n with
  | zero => intro h; omega
  | succ n ih =>
    intro _
    have e : bestGap ts (n + 1) = if gapOf ts (bestGap ts n) < gapOf ts n then n else bestGap ts n := by
      unfold bestGap
      rw [List.range_succ, List.foldl_append, List.foldl_cons, List.foldl_nil]
    by_cases h0 : n = 0
    · subst h0
      have e0 : bestGap ts 0 = 0 := rfl
      rw [e, e0]
      simp
    · obtain ⟨h1, h2, h3⟩ := ih (by omega)
      rw [e]
      split
      · rename_i hq
        refine ⟨by omega, fun k hk => ?_, fun k hk => ?_⟩
        · by_cases hkn : k = n
          · subst hkn; exact Int.le_refl _
          · have := h2 k (by omega); omega
        · have := h2 k hk; omega
      · rename_i hq
        refine ⟨by omega, fun k hk => ?_, h3⟩
        by_cases hkn : k = n
        · subst hkn; omega
        · exact h2 k (by omega)
theorem gapOf_eq {ts : List Int} {k : Nat} (h : k + 1 < ts.length) : ∃ a b, ts[k]? = some a ∧ ts[k + 1]? = some b ∧ gapOf ts k = w64 (b - a) := by
  have h1 : ts[k]? = some ts[k] := List.getElem?_eq_getElem (by omega)
  have h2 : ts[k + 1]? = some ts[k + 1] := List.getElem?_eq_getElem h
  exact ⟨_, _, h1, h2, by unfold gapOf; rw [h1, h2]⟩
theorem gap_loop (f : Nat → Int → Int → Option (Int × Int × Bool)) (l : List CueT) (ts : List Int) (hl : l.length < 1073741824) (ht : ts.length = l.length + 1) (h0 : 0 < l.length)
    (hs : ∀ m y z, f (m + 1) y z = if (decide (z < (List.length l : Int))) = true then Option.bind (idx ts (w64 (z + 1))) fun u74 => Option.bind (idx ts z) fun u78 => Option.bind (idx ts (w64 (y + 1))) fun u82 => Option.bind (idx ts y) fun u86 =>
      (if (decide ((w64 (u82 - u86)) < (w64 (u74 - u78)))) = true then f m z (w64 (z + 1)) else f m y (w64 (z + 1))) else Option.bind (idx ts (w64 (y + 1))) fun u97 => Option.bind (idx ts y) fun u101 => some (y, (w64 (u97 - u101)), true)) :
    f FU 0 0 = some ((bestGap ts l.length : Int), gapOf ts (bestGap ts l.length), true) := by
  have h := loopS (fun m (s : Nat) z => f m (s : Int) z) l.length (fun k s => if gapOf ts s < gapOf ts k then k else s) (fun s => some ((s : Int), gapOf ts s, true)) (by omega) (fun k s => s < l.length) 0 h0 (fun k s hk hi => by split <;> omega)
    (fun m k s hk hi => ?_) (fun m s hi => ?_)
  · exact h.1
  · obtain ⟨a, b, h1, h2, h3⟩ := gapOf_eq (ts := ts) (k := k) (by omega)
    obtain ⟨a', b', h1', h2', h3'⟩ := gapOf_eq (ts := ts) (k := s) (by omega)
    rw [hs, if_pos (by simp; omega), w64_succ (by omega), w64_succ (by omega), idx_nat, h2, Option.bind_some, idx_nat, h1, Option.bind_some, idx_nat, h2', Option.bind_some, idx_nat, h1', Option.bind_some, h3, h3']
    by_cases hq : w64 (b' - a') < w64 (b - a) <;> simp [hq]
  · obtain ⟨a', b', h1', h2', h3'⟩ := gapOf_eq (ts := ts) (k := s) (by omega)
    rw [hs, if_neg (by simp), w64_succ (by omega), idx_nat, h2', Option.bind_some, idx_nat, h1', Option.bind_some, h3']
def gapAns (x : MusicT) (l : List CueT) : Int × Int × Bool := if okBoth x l && decide (0 < l.length) then ((bestGap (gapT x l) l.length : Int), gapOf (gapT x l) (bestGap (gapT x l) l.length), true) else (0, 0, false)
theorem gapT_len (x : MusicT) (l : List CueT) : (gapT x l).length = l.length + 1 := by unfold gapT timesC; simp
theorem impl_LongestGap (x : MusicT) (l : List CueT) (h : CueLens x l) : F_impl_LongestGap x l = some (gapAns x l) := by
  unfold F_impl_LongestGap jK1 gapAns
  dsimp only
  rw [impl_haveCues x l h, Option.bind_some]
  cases hb : okBoth x l with
  | false => simp
  | true =>
    have hl := h.hl
    by_cases h0 : l.length = 0
    · simp [h0]
    · have h0' : ((l.length : Int) == 0) = false := by simp; intro e; rw [e] at h0; simp at h0
      simp only [Bool.not_true, Bool.false_eq_true, if_false, h0', Bool.true_and]
      have ha : app (timesC x l) [timeC x (totC x)] = some (gapT x l) := app_ok' (by unfold timesC; simp; omega)
      rw [impl_cueTimes x l (both_music hb) h.hl, Option.bind_some, impl_countsOf x h.hx, Option.bind_some, impl_timeOf x (both_music hb), Option.bind_some, ha, Option.bind_some,
        gap_loop (F_impl_LongestGap_L1 l (gapT x l)) l (gapT x l) hl (gapT_len x l) (by omega) (fun m y z => by rw [F_impl_LongestGap_L1]; rfl), if_pos (by simp; omega)]
theorem spec_LongestGap (x : MusicT) (l : List CueT) (h : CueLens x l) : F_spec_LongestGap x l = some (gapAns x l) := by
  unfold F_spec_LongestGap jK1 gapAns
  dsimp only
  rw [spec_tiGood x l h, Option.bind_some]
  cases hb : okBoth x l with
  | false => simp
  | true =>
    have hl := h.hl
    by_cases h0 : l.length = 0
    · simp [h0]
    · have h0' : ((l.length : Int) == 0) = false := by simp; intro e; rw [e] at h0; simp at h0
      simp only [Bool.not_true, Bool.false_eq_true, if_false, h0', Bool.true_and]
      have ha : app (timesC x l) [timeC x (totC x)] = some (gapT x l) := app_ok' (by unfold timesC; simp; omega)
      rw [spec_tiTimes x l (both_music hb) h.hl, Option.bind_some, spec_muCounts x h.hx, Option.bind_some, spec_muTime x (both_music hb), Option.bind_some, ha, Option.bind_some,
        gap_loop (F_spec_LongestGap_L1 l (gapT x l)) l (gapT x l) hl (gapT_len x l) (by omega) (fun m y z => by rw [F_spec_LongestGap_L1]; rfl), if_pos (by simp; omega)]
/-! counts and the end -/
theorem impl_CountsOf (x : MusicT) (h : okMusic x = true) : F_impl_CountsOf x = some (totC x, true) := by
  have hl := (music_len h).2.1
  unfold F_impl_CountsOf
  rw [impl_IsMusic x (by omega), Option.bind_some, h, impl_countsOf x (by omega)]
  rfl
theorem spec_CountsOf (x : MusicT) (h : okMusic x = true) : F_spec_CountsOf x = some (totC x, true) := by
  have hl := (music_len h).2.1
  unfold F_spec_CountsOf
  rw [spec_muGood x (by omega), Option.bind_some, h, spec_muCounts x (by omega)]
  rfl
theorem tot_in {x : MusicT} (h : okMusic x = true) : okIn (totC x) 0 (totC x) = true := by
  obtain ⟨h1, h2, h3⟩ := music_len h
  have := totC_eq h3 (by omega)
  rw [okIn_iff']
  omega
theorem impl_TimeOf (x : MusicT) (h : okMusic x = true) : F_impl_TimeOf x (totC x) = some (timeC x (totC x), true) := by
  have hl := (music_len h).2.1
  unfold F_impl_TimeOf jK1
  dsimp only
  rw [impl_IsMusic x (by omega), Option.bind_some, h, impl_countsOf x (by omega), Option.bind_some, impl_within, Option.bind_some, impl_timeOf x h]
  have := tot_in h
  simp [this]
theorem spec_TimeOf (x : MusicT) (h : okMusic x = true) : F_spec_TimeOf x (totC x) = some (timeC x (totC x), true) := by
  have hl := (music_len h).2.1
  unfold F_spec_TimeOf F_spec_muUpTo jK1
  dsimp only
  rw [spec_muGood x (by omega), Option.bind_some, h, spec_muCounts x (by omega), Option.bind_some, spec_l1In, Option.bind_some, spec_muTime x h]
  have := tot_in h
  simp [this]
theorem impl_AreCues (x : MusicT) (l : List CueT) (h : CueLens x l) : F_impl_AreCues x l = some (if okMusic x then (okCues x l, true) else (false, false)) := by
  unfold F_impl_AreCues
  rw [impl_IsMusic x h.hx, Option.bind_some, impl_areCues x l h.hx h.hl' h.hn]
  cases okMusic x <;> simp
/-! shifted cues are shifted back -/
theorem shift_back {x : MusicT} {l : List CueT} {d : Int} (hx : okMusic x = true) (h : okCues x l = true) (hd : -500 ≤ d ∧ d ≤ 500) : (l.map (shiftC d)).map (shiftC (-d)) = l := by
  obtain ⟨h1, h2, h3⟩ := music_len hx
  have ht := totC_eq h3 (by omega)
  rw [List.map_map]
  have : ∀ c ∈ l, (shiftC (-d) ∘ shiftC d) c = c := by
    intro c hc
    obtain ⟨k, hk⟩ := List.getElem?_of_mem hc
    unfold okCues at h
    rw [Bool.and_eq_true] at h
    have hat := List.all_eq_true.1 h.1 k (List.mem_range.2 (List.getElem?_eq_some_iff.1 hk).1)
    unfold cueAt at hat
    rw [hk] at hat
    simp only [Bool.and_eq_true, okIn_iff'] at hat
    have hc1 := hat.1.1.1
    rw [w64_eq (by omega) (by omega)] at hc1
    show (w64 (w64 (c.1 + d) + -d), c.2) = c
    rw [w64_eq (x := c.1 + d) (by omega) (by omega), w64_eq (by omega) (by omega)]
    have : c.1 + d + -d = c.1 := by omega
    rw [this]
  exact (List.map_congr_left this).trans (List.map_id l)
end Go.Proofs.Ytmkignciedkidaa
