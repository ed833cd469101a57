/-
  CUES, PLAIN: what the tests of music and cues answer; times.
-/
import Derived.Test.YtmkignciedkidaaPShow
set_option linter.unusedSimpArgs false
set_option linter.unusedVariables false
namespace Go.Proofs.Ytmkignciedkidaa
open Go
theorem okIn_iff' {a lo hi : Int} : okIn a lo hi = true ↔ lo ≤ a ∧ a ≤ hi := by simp [okIn]
abbrev MusicT := List (Int × Int)
abbrev CueT := Int × (List UInt8)
def okMeasure (u : Int × Int) : Bool := okIn u.1 1 12 && okIn u.2 40 220
def okMusic (x : MusicT) : Bool := okIn (x.length : Int) 1 40 && x.all okMeasure
theorem spec_muMeasure (u : Int × Int) : F_spec_muMeasure u = some (okMeasure u) := by
  unfold F_spec_muMeasure jK1 okMeasure
  dsimp only
  rw [spec_l1In, Option.bind_some, spec_l1In, Option.bind_some]
  cases okIn u.1 1 12 <;> simp
theorem spec_muGood (x : MusicT) (h : x.length < 4611686018427387904) : F_spec_muGood x = some (okMusic x) := by
  unfold F_spec_muGood okMusic
  rw [loopL (F_spec_muGood_L1 x) x okMeasure (some (okIn (x.length : Int) 1 40)) (some false) h (fun m k u hk hu => ?_) (fun m => ?_)]
  · cases x.all okMeasure <;> simp
  · rw [F_spec_muGood_L1, if_pos (by simp; omega), idx_nat, hu, Option.bind_some, spec_muMeasure, Option.bind_some, w64_succ (by omega)]
    cases okMeasure u <;> simp
  · rw [F_spec_muGood_L1, if_neg (by simp), spec_l1In]
    rfl
theorem impl_IsMusic (x : MusicT) (h : x.length < 4611686018427387904) : F_impl_IsMusic x = some (okMusic x) := by
  unfold F_impl_IsMusic okMusic
  rw [loopL (F_impl_IsMusic_L1 x) x okMeasure (some (okIn (x.length : Int) 1 40)) (some false) h (fun m k u hk hu => ?_) (fun m => ?_)]
  · cases x.all okMeasure <;> simp
  · rw [F_impl_IsMusic_L1, if_pos (by simp; omega), idx_nat, hu, Option.bind_some]
    unfold jK1 okMeasure
    dsimp only
    rw [impl_within, Option.bind_some, impl_within, Option.bind_some, w64_succ (by omega)]
    cases okIn u.1 1 12 <;> cases okIn u.2 40 220 <;> simp
  · rw [F_impl_IsMusic_L1, if_neg (by simp), impl_within]
    rfl
def totC (x : MusicT) : Int := x.foldl (fun a u => w64 (a + u.1)) 0
theorem spec_muCounts (x : MusicT) (h : x.length < 4611686018427387904) : F_spec_muCounts x = some (totC x) := by
  unfold F_spec_muCounts totC
  rw [loopFold (F_spec_muCounts_L1 x) x (fun a u => w64 (a + u.1)) some h (fun m s k u hk hu => ?_) (fun m s => ?_)]
  · rw [F_spec_muCounts_L1, if_pos (by simp; omega), idx_nat, hu, Option.bind_some, w64_succ (by omega)]
  · rw [F_spec_muCounts_L1, if_neg (by simp)]
theorem impl_countsOf (x : MusicT) (h : x.length < 4611686018427387904) : F_impl_countsOf x = some (totC x) := by
  unfold F_impl_countsOf totC
  rw [loopFold (F_impl_countsOf_L1 x) x (fun a u => w64 (a + u.1)) some h (fun m s k u hk hu => ?_) (fun m s => ?_)]
  · rw [F_impl_countsOf_L1, if_pos (by simp; omega), idx_nat, hu, Option.bind_some, w64_succ (by omega)]
  · rw [F_impl_countsOf_L1, if_neg (by simp)]
/-- Sums of counts do not leave the range. -/
theorem totC_eq {x : MusicT} (hx : x.all okMeasure = true) (hl : x.length ≤ 1000) : totC x = (x.map (·.1)).sum ∧ x.length ≤ (x.map (·.1)).sum ∧ (x.map (·.1)).sum ≤ 12 * x.length := by
  have key : ∀ (x : MusicT) (a : Int), x.all okMeasure = true → 0 ≤ a → a + 12 * x.length ≤ 1000000 → x.foldl (fun a u => w64 (a + u.1)) a = a + (x.map (·.1)).sum ∧ (x.length : Int) ≤ (x.map (·.1)).sum ∧ (x.map (·.1)).sum ≤ 12 * x.length := by
    intro x
    induction x with
    | nil => intro a _ _ _; simp
    | cons u x ih =>
      intro a h h0 h1
      rw [List.all_cons, Bool.and_eq_true] at h
      have hu := h.1
      unfold okMeasure at hu
      rw [Bool.and_eq_true, okIn_iff', okIn_iff'] at hu
      simp only [List.length_cons] at h1
      rw [List.foldl_cons, w64_eq (by omega) (by omega)]
      obtain ⟨e1, e2, e3⟩ := ih (a + u.1) h.2 (by omega) (by omega)
      rw [e1]
      simp only [List.map_cons, List.sum_cons, List.length_cons]
      omega
  have := key x 0 hx (by omega) (by omega)
  unfold totC
  simpa using this
theorem music_len {x : MusicT} (h : okMusic x = true) : 1 ≤ x.length ∧ x.length ≤ 40 ∧ x.all okMeasure = true := by
  unfold okMusic at h
  rw [Bool.and_eq_true, okIn_iff'] at h
  exact ⟨by omega, by omega, h.2⟩
/-! names -/
def okName (s : List UInt8) : Bool := s.all (fun u => decide (97 ≤ (u.toNat : Int)) && decide ((u.toNat : Int) ≤ 122)) && okIn (s.length : Int) 1 8
theorem spec_tiName (s : List UInt8) (h : s.length < 4611686018427387904) : F_spec_tiName s = some (okName s) := by
  unfold F_spec_tiName okName
  rw [loopL (F_spec_tiName_L1 s) s (fun u => decide (97 ≤ (u.toNat : Int)) && decide ((u.toNat : Int) ≤ 122)) (some (okIn (s.length : Int) 1 8)) (some false) h (fun m k u hk hu => ?_) (fun m => ?_)]
  · cases s.all (fun u => decide (97 ≤ (u.toNat : Int)) && decide ((u.toNat : Int) ≤ 122)) <;> simp
  · rw [F_spec_tiName_L1, if_pos (by simp; omega)]
    unfold jK1
    dsimp only
    rw [idx_nat, hu, Option.bind_some, Option.bind_some, w64_succ (by omega)]
    generalize (UInt8.toNat u : Int) = v
    by_cases h1 : v < 97
    · have : ¬ 97 ≤ v := by omega
      simp [h1, this]
    · have h2 : 97 ≤ v := by omega
      by_cases h3 : 122 < v
      · have : ¬ v ≤ 122 := by omega
        simp [h1, h2, h3, this]
      · have : v ≤ 122 := by omega
        simp [h1, h2, h3, this]
  · rw [F_spec_tiName_L1, if_neg (by simp), spec_l1In]
    rfl
def okName12 (s : List UInt8) : Bool := s.all (fun u => decide (97 ≤ (u.toNat : Int)) && decide ((u.toNat : Int) ≤ 122)) && okIn (s.length : Int) 1 12
theorem impl_isName (s : List UInt8) (h : s.length < 4611686018427387904) : F_impl_isName s = some (okName12 s) := by
  unfold F_impl_isName okName12
  rw [loopL (F_impl_isName_L1 s) s (fun u => decide (97 ≤ (u.toNat : Int)) && decide ((u.toNat : Int) ≤ 122)) (some (okIn (s.length : Int) 1 12)) (some false) h (fun m k u hk hu => ?_) (fun m => ?_)]
  · cases s.all (fun u => decide (97 ≤ (u.toNat : Int)) && decide ((u.toNat : Int) ≤ 122)) <;> simp
  · rw [F_impl_isName_L1, if_pos (by simp; omega)]
    unfold jK1
    dsimp only
    rw [idx_nat, hu, Option.bind_some, Option.bind_some, w64_succ (by omega)]
    generalize (UInt8.toNat u : Int) = v
    by_cases h1 : v < 97
    · have : ¬ 97 ≤ v := by omega
      simp [h1, this]
    · have h2 : 97 ≤ v := by omega
      by_cases h3 : 122 < v
      · have : ¬ v ≤ 122 := by omega
        simp [h1, h2, h3, this]
      · have : v ≤ 122 := by omega
        simp [h1, h2, h3, this]
  · rw [F_impl_isName_L1, if_neg (by simp), impl_within]
    rfl
theorem name_two (s : List UInt8) : okName s = (decide (s.length ≤ 8) && okName12 s) := by
  unfold okName okName12 okIn
  cases s.all (fun u => decide (97 ≤ (u.toNat : Int)) && decide ((u.toNat : Int) ≤ 122)) with
  | false => simp
  | true =>
    rw [Bool.eq_iff_iff]
    simp
    omega
/-! cues -/
/-- The cue at k is one: in its bounds, named, behind the one before, and of a new name. -/
def cueAt (t : Int) (l : List CueT) (k : Nat) : Bool := match l[k]? with
  | some c => okIn c.1 0 (w64 (t - 1)) && okName c.2 && (match l[k - 1]? with | some d => decide (k = 0) || decide (d.1 < c.1) | none => true) && (l.take k).all (fun d => !decide (d.2 = c.2))
  | none => true
theorem cueAt_0 {t : Int} {l : List CueT} {c : CueT} (h : l[0]? = some c) : cueAt t l 0 = (okIn c.1 0 (w64 (t - 1)) && okName c.2) := by
  unfold cueAt
  rw [h]
  simp [h]
theorem cueAt_s {t : Int} {l : List CueT} {k : Nat} {c d : CueT} (h : l[k + 1]? = some c) (h' : l[k]? = some d) : cueAt t l (k + 1) = (okIn c.1 0 (w64 (t - 1)) && okName c.2 && decide (d.1 < c.1) && (l.take (k + 1)).all (fun d => !decide (d.2 = c.2))) := by
  unfold cueAt
  rw [h]
  simp [h']
def okCues (x : MusicT) (l : List CueT) : Bool := (List.range l.length).all (cueAt (totC x) l) && decide (l.length ≤ 30)
theorem spec_tiCues (x : MusicT) (l : List CueT) (hx : x.length < 4611686018427387904) (hl : l.length < 4611686018427387904) (hn : ∀ c ∈ l, c.2.length < 4611686018427387904) : F_spec_tiCues x l = some (okCues x l) := by
  unfold F_spec_tiCues okCues
  rw [loopR (F_spec_tiCues_L1 l x) l.length (cueAt (totC x) l) (some (decide (l.length ≤ 30))) (some false) hl (fun m k hk => ?_) (fun m => ?_)]
  · cases (List.range l.length).all (cueAt (totC x) l) <;> simp
  · obtain ⟨c, hc⟩ : ∃ c, l[k]? = some c := ⟨_, List.getElem?_eq_getElem hk⟩
    have hcn := hn c (List.mem_of_getElem? hc)
    have inner : F_spec_tiCues_L2 (l.take k) c (F_spec_tiCues_L1 l x m) (k : Int) FU 0 = if (l.take k).all (fun d => !decide (d.2 = c.2)) = true then F_spec_tiCues_L1 l x m ((k + 1 : Nat) : Int) else some false := by
      have hlen : (l.take k).length = k := by simp; omega
      refine loopL (F_spec_tiCues_L2 (l.take k) c (F_spec_tiCues_L1 l x m) (k : Int)) (l.take k) (fun d => !decide (d.2 = c.2)) _ _ (by omega) (fun m' j d hj hd => ?_) (fun m' => ?_)
      · rw [F_spec_tiCues_L2, if_pos (by simp; omega), idx_nat, hd, Option.bind_some, w64_succ (k := j) (by omega)]
        by_cases hq : d.2 = c.2 <;> simp [hq]
      · rw [F_spec_tiCues_L2, if_neg (by simp), w64_succ (by omega)]
    rw [F_spec_tiCues_L1, if_pos (by simp; omega), idx_nat, hc, Option.bind_some]
    unfold jK1
    dsimp only
    rw [spec_muCounts x hx, Option.bind_some, spec_l1In, Option.bind_some, spec_tiName _ hcn, Option.bind_some, sl_take l (by omega), Option.bind_some, inner]
    cases k with
    | zero =>
      rw [cueAt_0 hc]
      cases okIn c.1 0 (w64 (totC x - 1)) <;> cases okName c.2 <;> simp
    | succ j =>
      obtain ⟨d, hd⟩ : ∃ d, l[j]? = some d := ⟨_, List.getElem?_eq_getElem (by omega)⟩
      rw [cueAt_s hc hd]
      have e : w64 (((j + 1 : Nat) : Int) - 1) = (j : Int) := by rw [w64_eq (by omega) (by omega)]; omega
      rw [e, idx_nat, hd, Option.bind_some, if_pos (show decide (0 < ((j + 1 : Nat) : Int)) = true by simp)]
      cases okIn c.1 0 (w64 (totC x - 1)) with
      | false => simp
      | true =>
        cases okName c.2 with
        | false => simp
        | true =>
          by_cases hq : d.1 < c.1
          · have : ¬ c.1 ≤ d.1 := by omega
            cases (l.take (j + 1)).all (fun d => !decide (d.2 = c.2)) <;> simp [hq, this]
          · have : c.1 ≤ d.1 := by omega
            simp [hq, this]
  · rw [F_spec_tiCues_L1, if_neg (by simp)]
    congr 1
    simp
    omega
theorem contains_name (l : List CueT) (c : CueT) (hl : l.length < 4611686018427387904) : F_slices_ContainsFunc_impl_Cue_impl_Cue__impl_areCues_1 l c = some (!l.all (fun d => !decide (d.2 = c.2))) := by
  unfold F_slices_ContainsFunc_impl_Cue_impl_Cue__impl_areCues_1 F_slices_IndexFunc_impl_Cue_impl_Cue__impl_areCues_1
  have key : ∀ d k m, l.length - k = d → k ≤ l.length → l.length - k < m → ∃ i, F_slices_IndexFunc_impl_Cue_impl_Cue__impl_areCues_1_L1 l c m (k : Int) = some i ∧ decide (0 ≤ i) = !(l.drop k).all (fun d => !decide (d.2 = c.2)) := by
    intro d
    induction d with
    | zero =>
      intro k m hd hk hm
      cases m with
      | zero => omega
      | succ m =>
        rw [F_slices_IndexFunc_impl_Cue_impl_Cue__impl_areCues_1_L1, if_neg (by simp; omega)]
        exact ⟨-1, rfl, by rw [List.drop_eq_nil_of_le (by omega)]; simp⟩
    | succ d ih =>
      intro k m hd hk hm
      cases m with
      | zero => omega
      | succ m =>
        have hk' : k < l.length := by omega
        rw [F_slices_IndexFunc_impl_Cue_impl_Cue__impl_areCues_1_L1, if_pos (by simp; omega), idx_lt hk', Option.bind_some, F_impl_areCues_1, Option.bind_some, w64_succ (by omega), List.drop_eq_getElem_cons hk', List.all_cons]
        by_cases hq : l[k].2 = c.2
        · exact ⟨k, by simp [hq], by simp [hq]⟩
        · rw [if_neg (by simp [hq])]
          obtain ⟨i, h1, h2⟩ := ih (k + 1) m (by omega) (by omega) (by omega)
          exact ⟨i, h1, by simp [hq, h2]⟩
  obtain ⟨i, h1, h2⟩ := key _ 0 FU rfl (by omega) (FU_gt (by omega))
  rw [show ((0 : Nat) : Int) = 0 from rfl] at h1
  rw [h1, Option.bind_some, h2]
  simp
theorem impl_areCues (x : MusicT) (l : List CueT) (hx : x.length < 4611686018427387904) (hl : l.length < 4611686018427387904) (hn : ∀ c ∈ l, c.2.length < 4611686018427387904) : F_impl_areCues x l = some (okCues x l) := by
  unfold F_impl_areCues okCues
  rw [impl_countsOf x hx, Option.bind_some]
  by_cases h30 : l.length ≤ 30
  · rw [if_neg (by simp; omega), loopR (F_impl_areCues_L1 l (totC x)) l.length (cueAt (totC x) l) (some true) (some false) hl (fun m k hk => ?_) (fun m => ?_)]
    · cases (List.range l.length).all (cueAt (totC x) l) <;> simp [h30]
    · obtain ⟨c, hc⟩ : ∃ c, l[k]? = some c := ⟨_, List.getElem?_eq_getElem hk⟩
      have hcn := hn c (List.mem_of_getElem? hc)
      rw [F_impl_areCues_L1, if_pos (by simp; omega), idx_nat, hc, Option.bind_some]
      unfold jK1
      dsimp only
      rw [impl_within, Option.bind_some, impl_isName _ hcn, Option.bind_some, sl_take l (by omega), Option.bind_some, contains_name _ _ (by simp; omega), Option.bind_some, w64_succ (by omega)]
      cases k with
      | zero =>
        rw [cueAt_0 hc, name_two]
        by_cases h8 : c.2.length ≤ 8
        · have : ¬ (8 : Int) < (c.2.length : Int) := by omega
          cases okIn c.1 0 (w64 (totC x - 1)) <;> cases okName12 c.2 <;> simp [h8, this]
        · have : (8 : Int) < (c.2.length : Int) := by omega
          cases okIn c.1 0 (w64 (totC x - 1)) <;> simp [h8, this]
      | succ j =>
        obtain ⟨d, hd⟩ : ∃ d, l[j]? = some d := ⟨_, List.getElem?_eq_getElem (by omega)⟩
        rw [cueAt_s hc hd, name_two]
        have e : w64 (((j + 1 : Nat) : Int) - 1) = (j : Int) := by rw [w64_eq (by omega) (by omega)]; omega
        rw [e, idx_nat, hd, Option.bind_some, if_pos (show decide (0 < ((j + 1 : Nat) : Int)) = true by simp)]
        by_cases h8 : c.2.length ≤ 8
        · have h8' : ¬ (8 : Int) < (c.2.length : Int) := by omega
          cases okIn c.1 0 (w64 (totC x - 1)) with
          | false => simp
          | true =>
            cases okName12 c.2 with
            | false => simp [h8, h8']
            | true =>
              by_cases hq : d.1 < c.1
              · have : ¬ c.1 ≤ d.1 := by omega
                cases (l.take (j + 1)).all (fun d => !decide (d.2 = c.2)) <;> simp [h8, h8', hq, this]
              · have : c.1 ≤ d.1 := by omega
                simp [h8, h8', hq, this]
        · have : (8 : Int) < (c.2.length : Int) := by omega
          cases okIn c.1 0 (w64 (totC x - 1)) <;> simp [h8, this]
    · rw [F_impl_areCues_L1, if_neg (by simp)]
  · rw [if_pos (by simp; omega)]
    simp [h30]
def okBoth (x : MusicT) (l : List CueT) : Bool := okMusic x && okCues x l
/-- What the walks' loops need of the lengths. -/
structure CueLens (x : MusicT) (l : List CueT) : Prop where
  hx : x.length < 4611686018427387904
  hl : l.length < 1073741824
  hn : ∀ c ∈ l, c.2.length < 4611686018427387904
theorem CueLens.hl' {x : MusicT} {l : List CueT} (h : CueLens x l) : l.length < 4611686018427387904 := by have := h.hl; omega
theorem spec_tiGood (x : MusicT) (l : List CueT) (h : CueLens x l) : F_spec_tiGood x l = some (okBoth x l) := by
  unfold F_spec_tiGood jK1 okBoth
  dsimp only
  rw [spec_muGood x h.hx, Option.bind_some, spec_tiCues x l h.hx h.hl' h.hn, Option.bind_some]
  cases okMusic x <;> simp
theorem impl_haveCues (x : MusicT) (l : List CueT) (h : CueLens x l) : F_impl_haveCues x l = some (okBoth x l) := by
  unfold F_impl_haveCues jK1 okBoth
  dsimp only
  rw [impl_IsMusic x h.hx, Option.bind_some, impl_areCues x l h.hx h.hl' h.hn, Option.bind_some]
  cases okMusic x <;> simp
theorem both_music {x : MusicT} {l : List CueT} (h : okBoth x l = true) : okMusic x = true := by
  unfold okBoth at h
  rw [Bool.and_eq_true] at h
  exact h.1
theorem both_len {x : MusicT} {l : List CueT} (h : okBoth x l = true) : l.length ≤ 30 := by
  unfold okBoth okCues at h
  simp only [Bool.and_eq_true, decide_eq_true_eq] at h
  exact h.2.2
/-! times -/
theorem time_loop (x : MusicT) : ∀ (m : Nat) (a b c : Int), F_impl_timeOf_L1 x m a b c = F_spec_muTime_L1 x m a b c := by
  intro m
  induction m with
  | zero => intro a b c; rfl
  | succ m ih =>
    intro a b c
    rw [F_impl_timeOf_L1, F_spec_muTime_L1]
    split
    · cases idx x c with
      | none => rfl
      | some u =>
        simp only [Option.bind_some, F_spec_muLasts, ih]
        by_cases h : u.2 = 0 <;> simp [h]
    · rfl
theorem impl_timeOf_eq (x : MusicT) (c : Int) : F_impl_timeOf x c = F_spec_muTime x c := by
  unfold F_impl_timeOf F_spec_muTime
  exact time_loop x FU c 0 0
theorem time_some (x : MusicT) (hx : x.all okMeasure = true) (hl : x.length < 4611686018427387904) (c : Int) : ∃ t, F_spec_muTime x c = some t := by
  unfold F_spec_muTime
  have key : ∀ d k m (a b : Int), x.length - k = d → k ≤ x.length → x.length - k < m → ∃ t, F_spec_muTime_L1 x m a b (k : Int) = some t := by
    intro d
    induction d with
    | zero =>
      intro k m a b hd hk hm
      cases m with
      | zero => omega
      | succ m =>
        rw [F_spec_muTime_L1, if_neg (by simp; omega)]
        exact ⟨_, rfl⟩
    | succ d ih =>
      intro k m a b hd hk hm
      cases m with
      | zero => omega
      | succ m =>
        have hk' : k < x.length := by omega
        have hu := List.all_eq_true.1 hx x[k] (List.getElem_mem hk')
        unfold okMeasure at hu
        rw [Bool.and_eq_true, okIn_iff', okIn_iff'] at hu
        have h0 : ¬ x[k].2 = 0 := by omega
        rw [F_spec_muTime_L1, if_pos (by simp; omega), idx_lt hk', Option.bind_some]
        simp only [F_spec_muLasts, if_neg h0, Option.bind_some, w64_succ (k := k) (by omega)]
        split
        · exact ⟨_, rfl⟩
        · exact ih (k + 1) m _ _ (by omega) (by omega) (by omega)
  exact key _ 0 FU c 0 rfl (by omega) (FU_gt (by omega))
def timeC (x : MusicT) (c : Int) : Int := (F_spec_muTime x c).getD 0
theorem spec_muTime (x : MusicT) (h : okMusic x = true) (c : Int) : F_spec_muTime x c = some (timeC x c) := by
  obtain ⟨h1, h2, h3⟩ := music_len h
  obtain ⟨t, ht⟩ := time_some x h3 (by omega) c
  unfold timeC
  rw [ht]
  rfl
theorem impl_timeOf (x : MusicT) (h : okMusic x = true) (c : Int) : F_impl_timeOf x c = some (timeC x c) := by
  rw [impl_timeOf_eq, spec_muTime x h]
/-- A loop that puts one thing after another for the numbers below n. -/
theorem loopMap' {β R : Type} (f : Nat → List β → Int → Option R) (n : Nat) (g : Nat → β) (rest : List β → Option R) (hn : n < 4611686018427387904)
    (hs : ∀ m s k, k < n → s.length = k → f (m + 1) s (k : Int) = f m (s ++ [g k]) ((k + 1 : Nat) : Int)) (he : ∀ m s, f (m + 1) s (n : Int) = rest s) : f FU [] 0 = rest ((List.range n).map g) := by
  have h := loopS f n (fun k s => s ++ [g k]) rest hn (fun k s => s = (List.range k).map g) [] (by simp) (fun k s hk hi => by rw [List.range_succ, List.map_append, hi]; simp) (fun m k s hk hi => hs m s k hk (by rw [hi]; simp)) (fun m s hi => he m s)
  rw [h.1, h.2]
theorem range_map_get' {α β : Type} (l : List α) (g : Nat → β) (h : α → β) (hg : ∀ k x, l[k]? = some x → g k = h x) : (List.range l.length).map g = l.map h := by
  apply List.ext_getElem?
  intro i
  by_cases hi : i < l.length
  · have e : l[i]? = some l[i] := List.getElem?_eq_getElem hi
    simp [hi, hg i _ e]
  · rw [List.getElem?_eq_none (by simp; omega), List.getElem?_eq_none (by simp; omega)]
/-- A loop that appends the image of each element. -/
theorem loopMapL {α β R : Type} (f : Nat → List β → Int → Option R) (l : List α) (g : α → β) (rest : List β → Option R) (hn : l.length < 4611686018427387904)
    (hs : ∀ m s k x, k < l.length → l[k]? = some x → s.length = k → f (m + 1) s (k : Int) = f m (s ++ [g x]) ((k + 1 : Nat) : Int)) (he : ∀ m s, f (m + 1) s (l.length : Int) = rest s) : f FU [] 0 = rest (l.map g) := by
  have h := loopS f l.length (fun k s => match l[k]? with | some x => s ++ [g x] | none => s) rest hn (fun k s => s = (l.take k).map g) [] (by simp) (fun k s hk hi => ?_) (fun m k s hk hi => ?_) (fun m s hi => he m s)
  · rw [h.1, h.2, List.take_of_length_le (Nat.le_refl _)]
  · have hx : l[k]? = some l[k] := by simp [hk]
    simp only [hx]
    rw [hi, List.take_succ_eq_append_getElem hk, List.map_append]
    rfl
  · have hx : l[k]? = some l[k] := by simp [hk]
    simp only [hx]
    exact hs m s k l[k] hk hx (by rw [hi]; simp; omega)
theorem app_ok' {α : Type} {l m : List α} (h : l.length + m.length ≤ 1073741824) : app l m = some (l ++ m) := by
  unfold app
  rw [if_pos h]
def timesC (x : MusicT) (l : List CueT) : List Int := l.map fun c => timeC x c.1
theorem spec_tiTimes (x : MusicT) (l : List CueT) (h : okMusic x = true) (hl : l.length < 1073741824) : F_spec_tiTimes x l = some (timesC x l) := by
  unfold F_spec_tiTimes timesC
  rw [loopMapL (F_spec_tiTimes_L1 l x) l (fun c => timeC x c.1) some (by omega) (fun m s k c hk hc hsl => ?_) (fun m s => ?_)]
  · rw [F_spec_tiTimes_L1, if_pos (by simp; omega), idx_nat, hc, Option.bind_some, spec_muTime x h, Option.bind_some, app_ok' (by simp; omega), Option.bind_some, w64_succ (by omega)]
  · rw [F_spec_tiTimes_L1, if_neg (by simp)]
theorem impl_cueTimes (x : MusicT) (l : List CueT) (h : okMusic x = true) (hl : l.length < 1073741824) : F_impl_cueTimes x l = some (timesC x l) := by
  unfold F_impl_cueTimes timesC
  rw [loopMapL (F_impl_cueTimes_L1 l x) l (fun c => timeC x c.1) some (by omega) (fun m s k c hk hc hsl => ?_) (fun m s => ?_)]
  · rw [F_impl_cueTimes_L1, if_pos (by simp; omega), idx_nat, hc, Option.bind_some, impl_timeOf x h, Option.bind_some, app_ok' (by simp; omega), Option.bind_some, w64_succ (by omega)]
  · rw [F_impl_cueTimes_L1, if_neg (by simp)]
def okTime (t : Int) : Bool := okIn t 0 1000000
theorem spec_tiTime (t : Int) : F_spec_tiTime t = some (okTime t) := by
  unfold F_spec_tiTime okTime
  rw [spec_l1In]; rfl
theorem impl_isTime (t : Int) : F_impl_isTime t = some (okTime t) := by
  unfold F_impl_isTime okTime
  rw [impl_within]; rfl
end Go.Proofs.Ytmkignciedkidaa
