import Derived.Test.YtejhnpimhjmpdaaDoorPB2
import Derived.Test.YtejhnpimhjmpdaaDoorF
import Derived.Test.YtejhnpimhjmpdaaDoorPH
import Derived.Test.YtejhnpimhjmpdaaDoorLibF
/-
  SHOWS, PLAIN: what the program's and the reference's tests of spots, charts and shows answer.
-/
set_option linter.unusedSimpArgs false
set_option linter.unusedVariables false
namespace Go.Proofs.YtejhnpimhjmpdaaDoor
open Go
def okIn (a lo hi : Int) : Bool := decide (lo ≤ a) && decide (a ≤ hi)
theorem spec_l1In (a lo hi : Int) : F_spec_l1In a lo hi = some (okIn a lo hi) := by
  unfold F_spec_l1In jK1 okIn
  by_cases h : lo ≤ a <;> simp [h]
theorem impl_within (a lo hi : Int) : F_impl_within a lo hi = some (okIn a lo hi) := by
  unfold F_impl_within jK1 okIn
  by_cases h : lo ≤ a <;> simp [h]
end Go.Proofs.YtejhnpimhjmpdaaDoor
/-
  CUES, PLAIN: what the tests of music and cues answer; times.
-/
set_option linter.unusedSimpArgs false
set_option linter.unusedVariables false
namespace Go.Proofs.YtejhnpimhjmpdaaDoor
open Go
theorem okIn_iff' {a lo hi : Int} : okIn a lo hi = true ↔ lo ≤ a ∧ a ≤ hi := by simp [okIn]
abbrev MusicT := List (Int × Int)
abbrev CueT := Int × (List UInt8)
def okMeasure (u : Int × Int) : Bool := okIn u.1 1 12 && okIn u.2 40 220
def okMusic (x : MusicT) : Bool := okIn (x.length : Int) 1 40 && x.all okMeasure
theorem spec_muMeasure (u : Int × Int) : F_spec_muMeasure u = some (okMeasure u) := by
  unfold F_spec_muMeasure jK1 okMeasure
  dsimp only
  rw [spec_l1In, Option.bind_some, spec_l1In, Option.bind_some]
  cases okIn u.1 1 12 <;> simp
theorem spec_muGood (x : MusicT) (h : x.length < 4611686018427387904) : F_spec_muGood x = some (okMusic x) := by
  unfold F_spec_muGood okMusic
  rw [loopL (F_spec_muGood_L1 x) x okMeasure (some (okIn (x.length : Int) 1 40)) (some false) h (fun m k u hk hu => ?_) (fun m => ?_)]
  · cases x.all okMeasure <;> simp
  · rw [F_spec_muGood_L1, if_pos (by simp; omega), idx_nat, hu, Option.bind_some, spec_muMeasure, Option.bind_some, w64_succ (by omega)]
    cases okMeasure u <;> simp
  · rw [F_spec_muGood_L1, if_neg (by simp), spec_l1In]
    rfl
theorem impl_IsMusic (x : MusicT) (h : x.length < 4611686018427387904) : F_impl_IsMusic x = some (okMusic x) := by
  unfold F_impl_IsMusic okMusic
  rw [loopL (F_impl_IsMusic_L1 x) x okMeasure (some (okIn (x.length : Int) 1 40)) (some false) h (fun m k u hk hu => ?_) (fun m => ?_)]
  · cases x.all okMeasure <;> simp
  · rw [F_impl_IsMusic_L1, if_pos (by simp; omega), idx_nat, hu, Option.bind_some]
    unfold jK1 okMeasure
    dsimp only
    rw [impl_within, Option.bind_some, impl_within, Option.bind_some, w64_succ (by omega)]
    cases okIn u.1 1 12 <;> cases okIn u.2 40 220 <;> simp
  · rw [F_impl_IsMusic_L1, if_neg (by simp), impl_within]
    rfl
def totC (x : MusicT) : Int := x.foldl (fun a u => w64 (a + u.1)) 0
theorem spec_muCounts (x : MusicT) (h : x.length < 4611686018427387904) : F_spec_muCounts x = some (totC x) := by
  unfold F_spec_muCounts totC
  rw [loopFold (F_spec_muCounts_L1 x) x (fun a u => w64 (a + u.1)) some h (fun m s k u hk hu => ?_) (fun m s => ?_)]
  · rw [F_spec_muCounts_L1, if_pos (by simp; omega), idx_nat, hu, Option.bind_some, w64_succ (by omega)]
  · rw [F_spec_muCounts_L1, if_neg (by simp)]
theorem impl_countsOf (x : MusicT) (h : x.length < 4611686018427387904) : F_impl_countsOf x = some (totC x) := by
  unfold F_impl_countsOf totC
  rw [loopFold (F_impl_countsOf_L1 x) x (fun a u => w64 (a + u.1)) some h (fun m s k u hk hu => ?_) (fun m s => ?_)]
  · rw [F_impl_countsOf_L1, if_pos (by simp; omega), idx_nat, hu, Option.bind_some, w64_succ (by omega)]
  · rw [F_impl_countsOf_L1, if_neg (by simp)]
/-- Sums of counts do not leave the range. -/
theorem totC_eq {x : MusicT} (hx : x.all okMeasure = true) (hl : x.length ≤ 1000) : totC x = (x.map (·.1)).sum ∧ x.length ≤ (x.map (·.1)).sum ∧ (x.map (·.1)).sum ≤ 12 * x.length := by
  have key : ∀ (x : MusicT) (a : Int), x.all okMeasure = true → 0 ≤ a → a + 12 * x.length ≤ 1000000 → x.foldl (fun a u => w64 (a + u.1)) a = a + (x.map (·.1)).sum ∧ (x.length : Int) ≤ (x.map (·.1)).sum ∧ (x.map (·.1)).sum ≤ 12 * x.length := by
    intro x
    induction x with
    | nil => intro a _ _ _; simp
    | cons u x ih =>
      intro a h h0 h1
      rw [List.all_cons, Bool.and_eq_true] at h
      have hu := h.1
      unfold okMeasure at hu
      rw [Bool.and_eq_true, okIn_iff', okIn_iff'] at hu
      simp only [List.length_cons] at h1
      rw [List.foldl_cons, w64_eq (by omega) (by omega)]
      obtain ⟨e1, e2, e3⟩ := ih (a + u.1) h.2 (by omega) (by omega)
      rw [e1]
      simp only [List.map_cons, List.sum_cons, List.length_cons]
      omega
  have := key x 0 hx (by omega) (by omega)
  unfold totC
  simpa using this
theorem music_len {x : MusicT} (h : okMusic x = true) : 1 ≤ x.length ∧ x.length ≤ 40 ∧ x.all okMeasure = true := by
  unfold okMusic at h
  rw [Bool.and_eq_true, okIn_iff'] at h
  exact ⟨by omega, by omega, h.2⟩
/-! names -/
def okName (s : List UInt8) : Bool := s.all (fun u => decide (97 ≤ (u.toNat : Int)) && decide ((u.toNat : Int) ≤ 122)) && okIn (s.length : Int) 1 8
theorem spec_tiName (s : List UInt8) (h : s.length < 4611686018427387904) : F_spec_tiName s = some (okName s) := by
  unfold F_spec_tiName okName
  rw [loopL (F_spec_tiName_L1 s) s (fun u => decide (97 ≤ (u.toNat : Int)) && decide ((u.toNat : Int) ≤ 122)) (some (okIn (s.length : Int) 1 8)) (some false) h (fun m k u hk hu => ?_) (fun m => ?_)]
  · cases s.all (fun u => decide (97 ≤ (u.toNat : Int)) && decide ((u.toNat : Int) ≤ 122)) <;> simp
  · rw [F_spec_tiName_L1, if_pos (by simp; omega)]
    unfold jK1
    dsimp only
    rw [idx_nat, hu, Option.bind_some, Option.bind_some, w64_succ (by omega)]
    generalize (UInt8.toNat u : Int) = v
    by_cases h1 : v < 97
    · have : ¬ 97 ≤ v := by omega
      simp [h1, this]
    · have h2 : 97 ≤ v := by omega
      by_cases h3 : 122 < v
      · have : ¬ v ≤ 122 := by omega
        simp [h1, h2, h3, this]
      · have : v ≤ 122 := by omega
        simp [h1, h2, h3, this]
  · rw [F_spec_tiName_L1, if_neg (by simp), spec_l1In]
    rfl
def okName12 (s : List UInt8) : Bool := s.all (fun u => decide (97 ≤ (u.toNat : Int)) && decide ((u.toNat : Int) ≤ 122)) && okIn (s.length : Int) 1 12
theorem impl_isName (s : List UInt8) (h : s.length < 4611686018427387904) : F_impl_isName s = some (okName12 s) := by
  unfold F_impl_isName okName12
  rw [loopL (F_impl_isName_L1 s) s (fun u => decide (97 ≤ (u.toNat : Int)) && decide ((u.toNat : Int) ≤ 122)) (some (okIn (s.length : Int) 1 12)) (some false) h (fun m k u hk hu => ?_) (fun m => ?_)]
  · cases s.all (fun u => decide (97 ≤ (u.toNat : Int)) && decide ((u.toNat : Int) ≤ 122)) <;> simp
  · rw [F_impl_isName_L1, if_pos (by simp; omega)]
    unfold jK1
    dsimp only
    rw [idx_nat, hu, Option.bind_some, Option.bind_some, w64_succ (by omega)]
    generalize (UInt8.toNat u : Int) = v
    by_cases h1 : v < 97
    · have : ¬ 97 ≤ v := by omega
      simp [h1, this]
    · have h2 : 97 ≤ v := by omega
      by_cases h3 : 122 < v
      · have : ¬ v ≤ 122 := by omega
        simp [h1, h2, h3, this]
      · have : v ≤ 122 := by omega
        simp [h1, h2, h3, this]
  · rw [F_impl_isName_L1, if_neg (by simp), impl_within]
    rfl
theorem name_two (s : List UInt8) : okName s = (decide (s.length ≤ 8) && okName12 s) := by
  unfold okName okName12 okIn
  cases s.all (fun u => decide (97 ≤ (u.toNat : Int)) && decide ((u.toNat : Int) ≤ 122)) with
  | false => simp
  | true =>
    rw [Bool.eq_iff_iff]
    simp
    omega
/-! cues -/
/-- The cue at k is one: in its bounds, named, behind the one before, and of a new name. -/
def cueAt (t : Int) (l : List CueT) (k : Nat) : Bool := match l[k]? with
  | some c => okIn c.1 0 (w64 (t - 1)) && okName c.2 && (match l[k - 1]? with | some d => decide (k = 0) || decide (d.1 < c.1) | none => true) && (l.take k).all (fun d => !decide (d.2 = c.2))
  | none => true
theorem cueAt_0 {t : Int} {l : List CueT} {c : CueT} (h : l[0]? = some c) : cueAt t l 0 = (okIn c.1 0 (w64 (t - 1)) && okName c.2) := by
  unfold cueAt
  rw [h]
  simp [h]
theorem cueAt_s {t : Int} {l : List CueT} {k : Nat} {c d : CueT} (h : l[k + 1]? = some c) (h' : l[k]? = some d) : cueAt t l (k + 1) = (okIn c.1 0 (w64 (t - 1)) && okName c.2 && decide (d.1 < c.1) && (l.take (k + 1)).all (fun d => !decide (d.2 = c.2))) := by
  unfold cueAt
  rw [h]
  simp [h']
def okCues (x : MusicT) (l : List CueT) : Bool := (List.range l.length).all (cueAt (totC x) l) && decide (l.length ≤ 30)
theorem spec_tiCues (x : MusicT) (l : List CueT) (hx : x.length < 4611686018427387904) (hl : l.length < 4611686018427387904) (hn : ∀ c ∈ l, c.2.length < 4611686018427387904) : F_spec_tiCues x l = some (okCues x l) := by
  unfold F_spec_tiCues okCues
  rw [loopR (F_spec_tiCues_L1 l x) l.length (cueAt (totC x) l) (some (decide (l.length ≤ 30))) (some false) hl (fun m k hk => ?_) (fun m => ?_)]
  · cases (List.range l.length).all (cueAt (totC x) l) <;> simp
  · obtain ⟨c, hc⟩ : ∃ c, l[k]? = some c := ⟨_, List.getElem?_eq_getElem hk⟩
    have hcn := hn c (List.mem_of_getElem? hc)
    have inner : F_spec_tiCues_L2 (l.take k) c (F_spec_tiCues_L1 l x m) (k : Int) FU 0 = if (l.take k).all (fun d => !decide (d.2 = c.2)) = true then F_spec_tiCues_L1 l x m ((k + 1 : Nat) : Int) else some false := by
      have hlen : (l.take k).length = k := by simp; omega
      refine loopL (F_spec_tiCues_L2 (l.take k) c (F_spec_tiCues_L1 l x m) (k : Int)) (l.take k) (fun d => !decide (d.2 = c.2)) _ _ (by omega) (fun m' j d hj hd => ?_) (fun m' => ?_)
      · rw [F_spec_tiCues_L2, if_pos (by simp; omega), idx_nat, hd, Option.bind_some, w64_succ (k := j) (by omega)]
        by_cases hq : d.2 = c.2 <;> simp [hq]
      · rw [F_spec_tiCues_L2, if_neg (by simp), w64_succ (by omega)]
    rw [F_spec_tiCues_L1, if_pos (by simp; omega), idx_nat, hc, Option.bind_some]
    unfold jK1
    dsimp only
    rw [spec_muCounts x hx, Option.bind_some, spec_l1In, Option.bind_some, spec_tiName _ hcn, Option.bind_some, sl_take l (by omega), Option.bind_some, inner]
    cases k with
    | zero =>
      rw [cueAt_0 hc]
      cases okIn c.1 0 (w64 (totC x - 1)) <;> cases okName c.2 <;> simp
    | succ j =>
      obtain ⟨d, hd⟩ : ∃ d, l[j]? = some d := ⟨_, List.getElem?_eq_getElem (by omega)⟩
      rw [cueAt_s hc hd]
      have e : w64 (((j + 1 : Nat) : Int) - 1) = (j : Int) := by rw [w64_eq (by omega) (by omega)]; omega
      rw [e, idx_nat, hd, Option.bind_some, if_pos (show decide (0 < ((j + 1 : Nat) : Int)) = true by simp)]
      cases okIn c.1 0 (w64 (totC x - 1)) with
      | false => simp
      | true =>
        cases okName c.2 with
        | false => simp
        | true =>
          by_cases hq : d.1 < c.1
          · have : ¬ c.1 ≤ d.1 := by omega
            cases (l.take (j + 1)).all (fun d => !decide (d.2 = c.2)) <;> simp [hq, this]
          · have : c.1 ≤ d.1 := by omega
            simp [hq, this]
  · rw [F_spec_tiCues_L1, if_neg (by simp)]
    congr 1
    simp
    omega
theorem contains_name (l : List CueT) (c : CueT) (hl : l.length < 4611686018427387904) : F_slices_ContainsFunc_impl_Cue_impl_Cue__impl_areCues_1 l c = some (!l.all (fun d => !decide (d.2 = c.2))) := by
  unfold F_slices_ContainsFunc_impl_Cue_impl_Cue__impl_areCues_1 F_slices_IndexFunc_impl_Cue_impl_Cue__impl_areCues_1
  have key : ∀ d k m, l.length - k = d → k ≤ l.length → l.length - k < m → ∃ i, F_slices_IndexFunc_impl_Cue_impl_Cue__impl_areCues_1_L1 l c m (k : Int) = some i ∧ decide (0 ≤ i) = !(l.drop k).all (fun d => !decide (d.2 = c.2)) := by
    intro d
    induction d with
    | zero =>
      intro k m hd hk hm
      cases m with
      | zero => omega
      | succ m =>
        rw [F_slices_IndexFunc_impl_Cue_impl_Cue__impl_areCues_1_L1, if_neg (by simp; omega)]
        exact ⟨-1, rfl, by rw [List.drop_eq_nil_of_le (by omega)]; simp⟩
    | succ d ih =>
      intro k m hd hk hm
      cases m with
      | zero => omega
      | succ m =>
        have hk' : k < l.length := by omega
        rw [F_slices_IndexFunc_impl_Cue_impl_Cue__impl_areCues_1_L1, if_pos (by simp; omega), idx_lt hk', Option.bind_some, F_impl_areCues_1, Option.bind_some, w64_succ (by omega), List.drop_eq_getElem_cons hk', List.all_cons]
        by_cases hq : l[k].2 = c.2
        · exact ⟨k, by simp [hq], by simp [hq]⟩
        · rw [if_neg (by simp [hq])]
          obtain ⟨i, h1, h2⟩ := ih (k + 1) m (by omega) (by omega) (by omega)
          exact ⟨i, h1, by simp [hq, h2]⟩
  obtain ⟨i, h1, h2⟩ := key _ 0 FU rfl (by omega) (FU_gt (by omega))
  rw [show ((0 : Nat) : Int) = 0 from rfl] at h1
  rw [h1, Option.bind_some, h2]
  simp
theorem impl_areCues (x : MusicT) (l : List CueT) (hx : x.length < 4611686018427387904) (hl : l.length < 4611686018427387904) (hn : ∀ c ∈ l, c.2.length < 4611686018427387904) : F_impl_areCues x l = some (okCues x l) := by
  unfold F_impl_areCues okCues
  rw [impl_countsOf x hx, Option.bind_some]
  by_cases h30 : l.length ≤ 30
  · rw [if_neg (by simp; omega), loopR (F_impl_areCues_L1 l (totC x)) l.length (cueAt (totC x) l) (some true) (some false) hl (fun m k hk => ?_) (fun m => ?_)]
    · cases (List.range l.length).all (cueAt (totC x) l) <;> simp [h30]
    · obtain ⟨c, hc⟩ : ∃ c, l[k]? = some c := ⟨_, List.getElem?_eq_getElem hk⟩
      have hcn := hn c (List.mem_of_getElem? hc)
      rw [F_impl_areCues_L1, if_pos (by simp; omega), idx_nat, hc, Option.bind_some]
      unfold jK1
      dsimp only
      rw [impl_within, Option.bind_some, impl_isName _ hcn, Option.bind_some, sl_take l (by omega), Option.bind_some, contains_name _ _ (by simp; omega), Option.bind_some, w64_succ (by omega)]
      cases k with
      | zero =>
        rw [cueAt_0 hc, name_two]
        by_cases h8 : c.2.length ≤ 8
        · have : ¬ (8 : Int) < (c.2.length : Int) := by omega
          cases okIn c.1 0 (w64 (totC x - 1)) <;> cases okName12 c.2 <;> simp [h8, this]
        · have : (8 : Int) < (c.2.length : Int) := by omega
          cases okIn c.1 0 (w64 (totC x - 1)) <;> simp [h8, this]
      | succ j =>
        obtain ⟨d, hd⟩ : ∃ d, l[j]? = some d := ⟨_, List.getElem?_eq_getElem (by omega)⟩
        rw [cueAt_s hc hd, name_two]
        have e : w64 (((j + 1 : Nat) : Int) - 1) = (j : Int) := by rw [w64_eq (by omega) (by omega)]; omega
        rw [e, idx_nat, hd, Option.bind_some, if_pos (show decide (0 < ((j + 1 : Nat) : Int)) = true by simp)]
        by_cases h8 : c.2.length ≤ 8
        · have h8' : ¬ (8 : Int) < (c.2.length : Int) := by omega
          cases okIn c.1 0 (w64 (totC x - 1)) with
          | false => simp
          | true =>
            cases okName12 c.2 with
            | false => simp [h8, h8']
            | true =>
              by_cases hq : d.1 < c.1
              · have : ¬ c.1 ≤ d.1 := by omega
                cases (l.take (j + 1)).all (fun d => !decide (d.2 = c.2)) <;> simp [h8, h8', hq, this]
              · have : c.1 ≤ d.1 := by omega
                simp [h8, h8', hq, this]
        · have : (8 : Int) < (c.2.length : Int) := by omega
          cases okIn c.1 0 (w64 (totC x - 1)) <;> simp [h8, this]
    · rw [F_impl_areCues_L1, if_neg (by simp)]
  · rw [if_pos (by simp; omega)]
    simp [h30]
def okBoth (x : MusicT) (l : List CueT) : Bool := okMusic x && okCues x l
/-- What the walks' loops need of the lengths. -/
structure CueLens (x : MusicT) (l : List CueT) : Prop where
  hx : x.length < 4611686018427387904
  hl : l.length < 1073741824
  hn : ∀ c ∈ l, c.2.length < 4611686018427387904
theorem CueLens.hl' {x : MusicT} {l : List CueT} (h : CueLens x l) : l.length < 4611686018427387904 := by have := h.hl; omega
theorem spec_tiGood (x : MusicT) (l : List CueT) (h : CueLens x l) : F_spec_tiGood x l = some (okBoth x l) := by
  unfold F_spec_tiGood jK1 okBoth
  dsimp only
  rw [spec_muGood x h.hx, Option.bind_some, spec_tiCues x l h.hx h.hl' h.hn, Option.bind_some]
  cases okMusic x <;> simp
theorem impl_haveCues (x : MusicT) (l : List CueT) (h : CueLens x l) : F_impl_haveCues x l = some (okBoth x l) := by
  unfold F_impl_haveCues jK1 okBoth
  dsimp only
  rw [impl_IsMusic x h.hx, Option.bind_some, impl_areCues x l h.hx h.hl' h.hn, Option.bind_some]
  cases okMusic x <;> simp
theorem both_music {x : MusicT} {l : List CueT} (h : okBoth x l = true) : okMusic x = true := by
  unfold okBoth at h
  rw [Bool.and_eq_true] at h
  exact h.1
theorem both_len {x : MusicT} {l : List CueT} (h : okBoth x l = true) : l.length ≤ 30 := by
  unfold okBoth okCues at h
  simp only [Bool.and_eq_true, decide_eq_true_eq] at h
  exact h.2.2
/-! times -/
theorem time_loop (x : MusicT) : ∀ (m : Nat) (a b c : Int), F_impl_timeOf_L1 x m a b c = F_spec_muTime_L1 x m a b c := by
  intro m
  induction m with
  | zero => intro a b c; rfl
  | succ m ih =>
    intro a b c
    rw [F_impl_timeOf_L1, F_spec_muTime_L1]
    split
    · cases idx x c with
      | none => rfl
      | some u =>
        simp only [Option.bind_some, F_spec_muLasts, ih]
        by_cases h : u.2 = 0 <;> simp [h]
    · rfl
theorem impl_timeOf_eq (x : MusicT) (c : Int) : F_impl_timeOf x c = F_spec_muTime x c := by
  unfold F_impl_timeOf F_spec_muTime
  exact time_loop x FU c 0 0
theorem time_some (x : MusicT) (hx : x.all okMeasure = true) (hl : x.length < 4611686018427387904) (c : Int) : ∃ t, F_spec_muTime x c = some t := by
  unfold F_spec_muTime
  have key : ∀ d k m (a b : Int), x.length - k = d → k ≤ x.length → x.length - k < m → ∃ t, F_spec_muTime_L1 x m a b (k : Int) = some t := by
    intro d
    induction d with
    | zero =>
      intro k m a b hd hk hm
      cases m with
      | zero => omega
      | succ m =>
        rw [F_spec_muTime_L1, if_neg (by simp; omega)]
        exact ⟨_, rfl⟩
    | succ d ih =>
      intro k m a b hd hk hm
      cases m with
      | zero => omega
      | succ m =>
        have hk' : k < x.length := by omega
        have hu := List.all_eq_true.1 hx x[k] (List.getElem_mem hk')
        unfold okMeasure at hu
        rw [Bool.and_eq_true, okIn_iff', okIn_iff'] at hu
        have h0 : ¬ x[k].2 = 0 := by omega
        rw [F_spec_muTime_L1, if_pos (by simp; omega), idx_lt hk', Option.bind_some]
        simp only [F_spec_muLasts, if_neg h0, Option.bind_some, w64_succ (k := k) (by omega)]
        split
        · exact ⟨_, rfl⟩
        · exact ih (k + 1) m _ _ (by omega) (by omega) (by omega)
  exact key _ 0 FU c 0 rfl (by omega) (FU_gt (by omega))
def timeC (x : MusicT) (c : Int) : Int := (F_spec_muTime x c).getD 0
theorem spec_muTime (x : MusicT) (h : okMusic x = true) (c : Int) : F_spec_muTime x c = some (timeC x c) := by
  obtain ⟨h1, h2, h3⟩ := music_len h
  obtain ⟨t, ht⟩ := time_some x h3 (by omega) c
  unfold timeC
  rw [ht]
  rfl
theorem impl_timeOf (x : MusicT) (h : okMusic x = true) (c : Int) : F_impl_timeOf x c = some (timeC x c) := by
  rw [impl_timeOf_eq, spec_muTime x h]
/-- A loop that appends the image of each element. -/
theorem loopMapL {α β R : Type} (f : Nat → List β → Int → Option R) (l : List α) (g : α → β) (rest : List β → Option R) (hn : l.length < 4611686018427387904)
    (hs : ∀ m s k x, k < l.length → l[k]? = some x → s.length = k → f (m + 1) s (k : Int) = f m (s ++ [g x]) ((k + 1 : Nat) : Int)) (he : ∀ m s, f (m + 1) s (l.length : Int) = rest s) : f FU [] 0 = rest (l.map g) := by
  have h := loopS f l.length (fun k s => match l[k]? with | some x => s ++ [g x] | none => s) rest hn (fun k s => s = (l.take k).map g) [] (by simp) (fun k s hk hi => ?_) (fun m k s hk hi => ?_) (fun m s hi => he m s)
  · rw [h.1, h.2, List.take_of_length_le (Nat.le_refl _)]
  · have hx : l[k]? = some l[k] := by simp [hk]
    simp only [hx]
    rw [hi, List.take_succ_eq_append_getElem hk, List.map_append]
    rfl
  · have hx : l[k]? = some l[k] := by simp [hk]
    simp only [hx]
    exact hs m s k l[k] hk hx (by rw [hi]; simp; omega)
theorem app_ok' {α : Type} {l m : List α} (h : l.length + m.length ≤ 1073741824) : app l m = some (l ++ m) := by
  unfold app
  rw [if_pos h]
def timesC (x : MusicT) (l : List CueT) : List Int := l.map fun c => timeC x c.1
theorem spec_tiTimes (x : MusicT) (l : List CueT) (h : okMusic x = true) (hl : l.length < 1073741824) : F_spec_tiTimes x l = some (timesC x l) := by
  unfold F_spec_tiTimes timesC
  rw [loopMapL (F_spec_tiTimes_L1 l x) l (fun c => timeC x c.1) some (by omega) (fun m s k c hk hc hsl => ?_) (fun m s => ?_)]
  · rw [F_spec_tiTimes_L1, if_pos (by simp; omega), idx_nat, hc, Option.bind_some, spec_muTime x h, Option.bind_some, app_ok' (by simp; omega), Option.bind_some, w64_succ (by omega)]
  · rw [F_spec_tiTimes_L1, if_neg (by simp)]
end Go.Proofs.YtejhnpimhjmpdaaDoor
/-
  WHAT THE LAWS ON CUES HAND OVER, PLAIN.
-/
set_option linter.unusedSimpArgs false
set_option linter.unusedVariables false
namespace Go.Proofs.YtejhnpimhjmpdaaDoor
open Go
theorem S_lens {x : MusicT} {l : List CueT} (h : (allS anyG) x) (h' : (allS S_Cue) l) : CueLens x l :=
  ⟨by have := h.1; omega, by have := h'.1; omega, fun c hc => by have := (h'.2 c hc).2.1; omega⟩
end Go.Proofs.YtejhnpimhjmpdaaDoor
/-
  NUMERALS READ BACK, PLAIN.
-/
set_option linter.unusedSimpArgs false
set_option linter.unusedVariables false
namespace Go.Proofs.YtejhnpimhjmpdaaDoor
open Go
def digitB (b : UInt8) : Bool := decide (48 ≤ b.toNat) && decide (b.toNat ≤ 57)
def numV (l : List UInt8) : Int := l.foldl (fun a b => 10 * a + ((b.toNat : Int) - 48)) 0
theorem digit_toNat {d : Nat} (h : d < 10) : (UInt8.ofNat (48 + d)).toNat = 48 + d := by
  rw [UInt8.toNat_ofNat']
  omega
theorem dec_small {u : Nat} (h : u < 10) : Lib.decDigits u = [UInt8.ofNat (48 + u)] := Lib.decDigits_one h
theorem dec_big {u : Nat} (h : ¬ u < 10) : Lib.decDigits u = Lib.decDigits (u / 10) ++ [UInt8.ofNat (48 + u % 10)] := by
  rw [Lib.decDigits, dif_neg h]
theorem dec_facts : ∀ (k u : Nat), u < 10 ^ (k + 1) → (∀ b ∈ Lib.decDigits u, digitB b = true) ∧ numV (Lib.decDigits u) = u ∧ 1 ≤ (Lib.decDigits u).length ∧ (Lib.decDigits u).length ≤ k + 1 ∧
    (0 < u → ∀ b, (Lib.decDigits u)[0]? = some b → b.toNat ≠ 48) := by
  intro k
  induction k with
  | zero =>
    intro u hu
    have h : u < 10 := by simpa using hu
    rw [dec_small h]
    have := digit_toNat h
    refine ⟨fun b hb => ?_, ?_, by simp, by simp, fun h0 b hb => ?_⟩
    · rw [List.mem_singleton.1 hb]
      unfold digitB
      rw [this]
      simp
      omega
    · unfold numV
      simp only [List.foldl_cons, List.foldl_nil, this]
      omega
    · rw [List.getElem?_cons_zero, Option.some.injEq] at hb
      rw [← hb, this]
      omega
  | succ k ih =>
    intro u hu
    by_cases h : u < 10
    · obtain ⟨a1, a2, a3, a4, a5⟩ := ih u (Nat.lt_of_lt_of_le h (by rw [Nat.pow_succ]; have := Nat.pow_pos (n := k) (show 0 < 10 by omega); omega))
      exact ⟨a1, a2, a3, by omega, a5⟩
    · have hd : u / 10 < 10 ^ (k + 1) := by rw [Nat.pow_succ] at hu; omega
      obtain ⟨a1, a2, a3, a4, a5⟩ := ih (u / 10) hd
      have hm : u % 10 < 10 := by omega
      have := digit_toNat hm
      rw [dec_big h]
      refine ⟨fun b hb => ?_, ?_, by simp, by simp; omega, fun h0 b hb => ?_⟩
      · rcases List.mem_append.1 hb with hb | hb
        · exact a1 b hb
        · rw [List.mem_singleton.1 hb]
          unfold digitB
          rw [this]
          simp
          omega
      · unfold numV at a2 ⊢
        rw [List.foldl_append, List.foldl_cons, List.foldl_nil, a2, this]
        omega
      · rw [List.getElem?_append_left (by omega)] at hb
        exact a5 (by omega) b hb
end Go.Proofs.YtejhnpimhjmpdaaDoor
/-
  TIMES IN WORDS, AND TIMETABLES, PLAIN.
-/
set_option linter.unusedSimpArgs false
set_option linter.unusedVariables false
namespace Go.Proofs.YtejhnpimhjmpdaaDoor
open Go
theorem tm_len {k u : Nat} (h : u < 10 ^ (k + 1)) : (Lib.decDigits u).length ≤ k + 1 := (dec_facts k u h).2.2.2.1
theorem tm_itoa {n : Int} (h : 0 ≤ n) (h2 : n ≤ 9223372036854775807) : F_strconv_Itoa n = some (Lib.decDigits n.toNat) := by
  unfold F_strconv_Itoa Lib.itoa
  rw [if_pos (by omega), if_neg (by omega)]
theorem tm_byte {t : Int} (h0 : 0 ≤ t) (h1 : t < 10) : bytesOf [wu8 (w64 (48 + t))] = [UInt8.ofNat (48 + t.toNat)] := by
  have e : wu8 (48 + t) = 48 + t := by
    unfold wu8
    show (48 + t) % 256 = _
    omega
  rw [w64_eq (by omega) (by omega), e]
  unfold bytesOf
  rw [List.map_cons, List.map_nil, show (48 + t).toNat = 48 + t.toNat by omega]
theorem num_R : ∀ (d m : Nat) (n : Int), 0 ≤ n → n.toNat < 10 ^ (d + 1) → d ≤ 18 → d < m → n ≤ 9223372036854775807 → F_spec_l1Num_R m n = some (Lib.decDigits n.toNat) := by
  intro d
  induction d with
  | zero =>
    intro m n h0 hn hd hm h2
    cases m with
    | zero => omega
    | succ m =>
      have h10 : n.toNat < 10 := by simpa using hn
      rw [F_spec_l1Num_R, if_pos (by simp; omega), tm_byte h0 (by omega), dec_small h10]
  | succ d ih =>
    intro m n h0 hn hd hm h2
    cases m with
    | zero => omega
    | succ m =>
      by_cases h10 : n < 10
      · rw [F_spec_l1Num_R, if_pos (by simp; omega), tm_byte h0 h10, dec_small (by omega)]
      · rw [F_spec_l1Num_R, if_neg (by simp; omega)]
        unfold jK1
        dsimp only
        have hq : (n / 10).toNat = n.toNat / 10 := by omega
        have hr : (n % 10).toNat = n.toNat % 10 := by omega
        have hlt : n.toNat / 10 < 10 ^ (d + 1) := by rw [Nat.pow_succ] at hn; omega
        have hl := tm_len (k := d) hlt
        rw [Int.tdiv_eq_ediv_of_nonneg h0, Int.tmod_eq_emod_of_nonneg h0, w64_eq (x := n / 10) (by omega) (by omega), ih m (n / 10) (by omega) (by omega) (by omega) (by omega) (by omega), Option.bind_some, tm_byte (by omega) (by omega), hq, hr]
        unfold app
        rw [if_pos (by simp; omega), Option.bind_some, dec_big (u := n.toNat) (by omega)]
theorem spec_l1Num {n : Int} (h : 0 ≤ n) (h2 : n ≤ 9223372036854775807) : F_spec_l1Num n = some (Lib.decDigits n.toNat) := by
  unfold F_spec_l1Num
  exact num_R 18 FU n h (by omega) (by omega) (FU_gt (by omega)) h2
def padT (n d : Nat) : List UInt8 := List.replicate (d - (Lib.decDigits n).length) 48 ++ Lib.decDigits n
theorem pad_same (x1 : Int) : ∀ (m : Nat) (y : List UInt8), F_spec_tiPadded_L1 x1 m y = F_impl_padded_L1 x1 m y := by
  intro m
  induction m with
  | zero => intro y; rfl
  | succ m ih =>
    intro y
    rw [F_spec_tiPadded_L1, F_impl_padded_L1]
    simp only [ih]
theorem pad_loop (k : Nat) (hk : k ≤ 10) : ∀ (d m : Nat) (y : List UInt8), k - y.length = d → d < m → y.length ≤ 100 → F_impl_padded_L1 (k : Int) m y = some (List.replicate d 48 ++ y) := by
  intro d
  induction d with
  | zero =>
    intro m y hd hm hy
    cases m with
    | zero => omega
    | succ m =>
      rw [F_impl_padded_L1, if_neg (by simp; omega)]
      rfl
  | succ d ih =>
    intro m y hd hm hy
    cases m with
    | zero => omega
    | succ m =>
      rw [F_impl_padded_L1, if_pos (by simp; omega)]
      unfold app
      rw [if_pos (by simp; omega), Option.bind_some]
      show F_impl_padded_L1 (k : Int) m (48 :: y) = _
      rw [ih m (48 :: y) (by simp; omega) (by omega) (by simp; omega), List.replicate_succ']
      simp
theorem impl_padded {n : Int} (h : 0 ≤ n ∧ n < 1000) {k : Nat} (hk : k ≤ 10) : F_impl_padded n (k : Int) = some (padT n.toNat k) := by
  have hl := tm_len (k := 2) (u := n.toNat) (by omega)
  unfold F_impl_padded padT
  rw [tm_itoa (by omega) (by omega), Option.bind_some, pad_loop k hk _ FU _ rfl (FU_gt (by omega)) (by omega)]
theorem spec_tiPadded {n : Int} (h : 0 ≤ n ∧ n < 1000) {k : Nat} (hk : k ≤ 10) : F_spec_tiPadded n (k : Int) = some (padT n.toNat k) := by
  have hl := tm_len (k := 2) (u := n.toNat) (by omega)
  unfold F_spec_tiPadded padT
  rw [spec_l1Num (by omega) (by omega), Option.bind_some, pad_same, pad_loop k hk _ FU _ rfl (FU_gt (by omega)) (by omega)]
/-- A time in words. -/
def timeT (t : Int) : List UInt8 := Lib.decDigits (t / 60000).toNat ++ 58 :: (padT (t / 1000 % 60).toNat 2 ++ 46 :: padT (t % 1000).toNat 3)
theorem padT_len {n k : Nat} (h : n < 1000) (hk : k ≤ 3) : k ≤ (padT n k).length ∧ (padT n k).length ≤ 6 := by
  have := tm_len (k := 2) (u := n) (by omega)
  unfold padT
  rw [List.length_append, List.length_replicate]
  omega
theorem timeT_len {t : Int} (h : 0 ≤ t ∧ t ≤ 9223372036854775807) : 8 ≤ (timeT t).length ∧ (timeT t).length ≤ 40 := by
  obtain ⟨_, _, a3, a4, _⟩ := dec_facts 18 (t / 60000).toNat (by omega)
  have p1 := padT_len (n := (t / 1000 % 60).toNat) (k := 2) (by omega) (by omega)
  have p2 := padT_len (n := (t % 1000).toNat) (k := 3) (by omega) (by omega)
  unfold timeT
  simp only [List.length_append, List.length_cons]
  omega
theorem tm_app {l m : List UInt8} (h : l.length + m.length ≤ 1073741824) : app l m = some (l ++ m) := by
  unfold app
  rw [if_pos h]
theorem impl_timeText {t : Int} (h : 0 ≤ t ∧ t ≤ 9223372036854775807) : F_impl_timeText t = some (timeT t) := by
  have l0 := tm_len (k := 18) (u := (t / 60000).toNat) (by omega)
  have p1 := padT_len (n := (t / 1000 % 60).toNat) (k := 2) (by omega) (by omega)
  have p2 := padT_len (n := (t % 1000).toNat) (k := 3) (by omega) (by omega)
  have e1 := impl_padded (n := t / 1000 % 60) (by omega) (k := 2) (by omega)
  have e2 := impl_padded (n := t % 1000) (by omega) (k := 3) (by omega)
  unfold F_impl_timeText
  rw [Int.tdiv_eq_ediv_of_nonneg h.1, Int.tdiv_eq_ediv_of_nonneg h.1, Int.tmod_eq_emod_of_nonneg h.1, w64_eq (x := t / 60000) (by omega) (by omega), w64_eq (x := t / 1000) (by omega) (by omega), Int.tmod_eq_emod_of_nonneg (a := t / 1000) (by omega), tm_itoa (by omega) (by omega), Option.bind_some, tm_app (by simp; omega), Option.bind_some]
  rw [show (2 : Int) = ((2 : Nat) : Int) by rfl, e1, Option.bind_some, tm_app (by simp; omega), Option.bind_some, tm_app (by simp; omega), Option.bind_some]
  rw [show (3 : Int) = ((3 : Nat) : Int) by rfl, e2, Option.bind_some, tm_app (by simp; omega), Option.bind_some]
  unfold timeT
  simp only [List.append_assoc, List.cons_append, List.nil_append]
theorem spec_tiText {t : Int} (h : 0 ≤ t ∧ t ≤ 9223372036854775807) : F_spec_tiText t = some (timeT t) := by
  have l0 := tm_len (k := 18) (u := (t / 60000).toNat) (by omega)
  have p1 := padT_len (n := (t / 1000 % 60).toNat) (k := 2) (by omega) (by omega)
  have p2 := padT_len (n := (t % 1000).toNat) (k := 3) (by omega) (by omega)
  have e1 := spec_tiPadded (n := t / 1000 % 60) (by omega) (k := 2) (by omega)
  have e2 := spec_tiPadded (n := t % 1000) (by omega) (k := 3) (by omega)
  unfold F_spec_tiText
  rw [Int.tdiv_eq_ediv_of_nonneg h.1, Int.tdiv_eq_ediv_of_nonneg h.1, Int.tmod_eq_emod_of_nonneg h.1, w64_eq (x := t / 60000) (by omega) (by omega), w64_eq (x := t / 1000) (by omega) (by omega), Int.tmod_eq_emod_of_nonneg (a := t / 1000) (by omega), spec_l1Num (by omega) (by omega), Option.bind_some, tm_app (by simp; omega), Option.bind_some]
  rw [show (2 : Int) = ((2 : Nat) : Int) by rfl, e1, Option.bind_some, tm_app (by simp; omega), Option.bind_some, tm_app (by simp; omega), Option.bind_some]
  rw [show (3 : Int) = ((3 : Nat) : Int) by rfl, e2, Option.bind_some, tm_app (by simp; omega), Option.bind_some]
  unfold timeT
  simp only [List.append_assoc, List.cons_append, List.nil_append]
/-! the times are small -/
theorem time_bd {x : MusicT} (h : okMusic x = true) {c : Int} (h0 : 0 ≤ c) (h1 : c ≤ 4611686018427387904) : 0 ≤ timeC x c ∧ timeC x c ≤ 720000 := by
  obtain ⟨l1, l2, hx⟩ := music_len h
  have h40 : x.length ≤ 40 := by
    unfold okMusic at h
    rw [Bool.and_eq_true, okIn_iff'] at h
    omega
  have key : ∀ (d k m : Nat) (a b : Int), x.length - k = d → k ≤ x.length → d < m → 0 ≤ a → a ≤ 4611686018427387904 → 0 ≤ b → b ≤ 18000 * k → ∃ t, F_spec_muTime_L1 x m a b (k : Int) = some t ∧ 0 ≤ t ∧ t ≤ 18000 * x.length := by
    intro d
    induction d with
    | zero =>
      intro k m a b hd hk hm a0 a1 b0 b1
      cases m with
      | zero => omega
      | succ m =>
        rw [F_spec_muTime_L1, if_neg (by simp; omega)]
        exact ⟨_, rfl, by omega, by omega⟩
    | succ d ih =>
      intro k m a b hd hk hm a0 a1 b0 b1
      cases m with
      | zero => omega
      | succ m =>
        have hk' : k < x.length := by omega
        have hu := List.all_eq_true.1 hx x[k] (List.getElem_mem hk')
        unfold okMeasure at hu
        rw [Bool.and_eq_true, okIn_iff', okIn_iff'] at hu
        have hz : ¬ x[k].2 = 0 := by omega
        have lasts : ∀ q : Int, 0 ≤ q → q ≤ 12 → w64 (Int.tdiv (w64 (60000 * q)) x[k].2) = 60000 * q / x[k].2 ∧ 0 ≤ 60000 * q / x[k].2 ∧ 60000 * q / x[k].2 ≤ 18000 := by
          intro q q0 q1
          have d1 : 0 ≤ 60000 * q / x[k].2 := Int.ediv_nonneg (by omega) (by omega)
          have d2 : 60000 * q / x[k].2 ≤ 18000 := by
            have := Int.ediv_le_ediv (c := x[k].2) (by omega) (show 60000 * q ≤ 18000 * x[k].2 by omega)
            rw [Int.mul_ediv_cancel _ hz] at this
            exact this
          rw [w64_eq (x := 60000 * q) (by omega) (by omega), Int.tdiv_eq_ediv_of_nonneg (by omega), w64_eq (by omega) (by omega)]
          exact ⟨rfl, d1, d2⟩
        rw [F_spec_muTime_L1, if_pos (by simp; omega), idx_lt hk', Option.bind_some]
        simp only [F_spec_muLasts, if_neg hz, Option.bind_some, w64_succ (k := k) (by omega)]
        split
        · rename_i hlt
          have hlt' : a < x[k].1 := by simpa using hlt
          obtain ⟨e, e0, e1⟩ := lasts a a0 (by omega)
          rw [e, w64_eq (by omega) (by omega)]
          exact ⟨_, rfl, by omega, by omega⟩
        · rename_i hlt
          have hlt' : ¬ a < x[k].1 := by simpa using hlt
          obtain ⟨e, e0, e1⟩ := lasts x[k].1 (by omega) (by omega)
          rw [e, w64_eq (x := a - x[k].1) (by omega) (by omega), w64_eq (x := b + _) (by omega) (by omega)]
          exact ih (k + 1) m _ _ (by omega) (by omega) (by omega) (by omega) (by omega) (by omega) (by omega)
  obtain ⟨t, ht, t0, t1⟩ := key _ 0 FU c 0 rfl (by omega) (FU_gt (by omega)) h0 h1 (by omega) (by simp)
  have := spec_muTime x h c
  unfold F_spec_muTime at this
  rw [show ((0 : Nat) : Int) = 0 by rfl] at ht
  rw [ht] at this
  have e := Option.some.inj this
  rw [← e]
  exact ⟨t0, by omega⟩
end Go.Proofs.YtejhnpimhjmpdaaDoor
/-
  TIMETABLES, PLAIN.
-/
set_option linter.unusedSimpArgs false
set_option linter.unusedVariables false
namespace Go.Proofs.YtejhnpimhjmpdaaDoor
open Go
/-- A cue's line. -/
def lineC (x : MusicT) (c : CueT) : List UInt8 := timeT (timeC x c.1) ++ 32 :: (Lib.decDigits c.1.toNat ++ 32 :: (c.2 ++ [10]))
def tableC (x : MusicT) (l : List CueT) : List UInt8 := (l.map (lineC x)).flatten
def tableAns (x : MusicT) (l : List CueT) : List UInt8 × Bool := if okBoth x l then (tableC x l, true) else ([], false)
theorem cue_in {x : MusicT} {l : List CueT} (h : okBoth x l = true) {c : CueT} (hc : c ∈ l) : 0 ≤ c.1 ∧ c.1 ≤ 480 ∧ okName c.2 = true ∧ c.2.length ≤ 8 := by
  have hm := both_music h
  obtain ⟨_, _, hall⟩ := music_len hm
  have h40 : x.length ≤ 40 := by
    unfold okMusic at hm
    rw [Bool.and_eq_true, okIn_iff'] at hm
    omega
  obtain ⟨t1, t2, t3⟩ := totC_eq hall (by omega)
  obtain ⟨k, hk, rfl⟩ := List.getElem_of_mem hc
  unfold okBoth okCues at h
  rw [Bool.and_eq_true, Bool.and_eq_true] at h
  have hq := List.all_eq_true.1 h.2.1 k (List.mem_range.2 hk)
  unfold cueAt at hq
  rw [List.getElem?_eq_getElem hk] at hq
  simp only [Bool.and_eq_true] at hq
  have hi := okIn_iff'.1 hq.1.1.1
  rw [w64_eq (by omega) (by omega)] at hi
  have hn := hq.1.1.2
  refine ⟨hi.1, by omega, hn, ?_⟩
  unfold okName at hn
  rw [Bool.and_eq_true, okIn_iff'] at hn
  omega
theorem line_facts {x : MusicT} {l : List CueT} (h : okBoth x l = true) {c : CueT} (hc : c ∈ l) : (0 ≤ timeC x c.1 ∧ timeC x c.1 ≤ 720000) ∧ (timeT (timeC x c.1)).length ≤ 40 ∧ (Lib.decDigits c.1.toNat).length ≤ 3 ∧ (lineC x c).length ≤ 54 := by
  obtain ⟨c0, c1, cn, cl⟩ := cue_in h hc
  have tb := time_bd (both_music h) (c := c.1) c0 (by omega)
  have tl := timeT_len (t := timeC x c.1) (by omega)
  have dl := tm_len (k := 2) (u := c.1.toNat) (by omega)
  refine ⟨tb, tl.2, dl, ?_⟩
  unfold lineC
  simp only [List.length_append, List.length_cons, List.length_nil]
  omega
theorem tb_flat (B : Nat) : ∀ (L : List (List UInt8)), (∀ a ∈ L, a.length ≤ B) → L.flatten.length ≤ B * L.length
  | [], _ => by simp
  | a :: L, h => by
    have ih := tb_flat B L fun b hb => h b (List.mem_cons_of_mem _ hb)
    have ha := h a (by simp)
    rw [List.flatten_cons, List.length_append, List.length_cons, Nat.mul_add]
    omega
theorem table_take {x : MusicT} {l : List CueT} {k : Nat} (hk : k < l.length) : tableC x (l.take (k + 1)) = tableC x (l.take k) ++ lineC x l[k] := by
  unfold tableC
  rw [List.take_add_one, List.getElem?_eq_getElem hk, List.map_append, List.flatten_append]
  simp
theorem part_len {x : MusicT} {l : List CueT} (h : okBoth x l = true) (k : Nat) : (tableC x (l.take k)).length ≤ 2000 := by
  have hl := both_len h
  have := tb_flat 54 ((l.take k).map (lineC x)) fun a ha => by
    obtain ⟨c, hc, rfl⟩ := List.mem_map.1 ha
    exact (line_facts h (List.mem_of_mem_take hc)).2.2.2
  rw [List.length_map, List.length_take] at this
  unfold tableC
  omega
theorem spec_TimetableText (x : MusicT) (l : List CueT) (h : CueLens x l) : F_spec_TimetableText x l = some (tableAns x l) := by
  unfold F_spec_TimetableText tableAns
  rw [spec_tiGood x l h, Option.bind_some]
  cases hb : okBoth x l with
  | false => simp
  | true =>
    have hm := both_music hb
    have hl := both_len hb
    rw [if_neg (by simp), spec_tiTimes x l hm h.hl, Option.bind_some, if_pos rfl]
    have hs := (loopS (F_spec_TimetableText_L1 (timesC x l) l) l.length (fun k _ => tableC x (l.take (k + 1))) (fun s => some (s, true)) (by omega) (fun k s => s = tableC x (l.take k)) [] (by simp [tableC]) (fun k s hk hi => rfl) (fun m k s hk hi => ?_) (fun m s hi => ?_))
    · rw [hs.1, hs.2, List.take_length]
    · subst hi
      obtain ⟨tb, tl, dl, ll⟩ := line_facts hb (List.getElem_mem hk)
      obtain ⟨c0, c1, cn, cl⟩ := cue_in hb (List.getElem_mem hk)
      have pl := part_len hb k
      have e : (timesC x l)[k]? = some (timeC x l[k].1) := by
        unfold timesC
        rw [List.getElem?_map, List.getElem?_eq_getElem hk]
        rfl
      have el : (timesC x l).length = l.length := by unfold timesC; simp
      rw [F_spec_TimetableText_L1, if_pos (by rw [el]; simp; omega), idx_nat, e, Option.bind_some, idx_lt hk, Option.bind_some, Option.bind_some, spec_tiText (by omega), Option.bind_some, tm_app (by simp; omega), Option.bind_some, spec_l1Num (by omega) (by omega), Option.bind_some,
        tm_app (by simp; omega), Option.bind_some, tm_app (by simp; omega), Option.bind_some, tm_app (by simp; omega), Option.bind_some, tm_app (by simp; omega), Option.bind_some, tm_app (by simp; omega), Option.bind_some, w64_succ (by omega), table_take hk]
      unfold lineC
      simp only [List.append_assoc, List.cons_append, List.nil_append]
    · subst hi
      have el : (timesC x l).length = l.length := by unfold timesC; simp
      rw [F_spec_TimetableText_L1, if_neg (by rw [el]; simp)]
theorem tb_bwr {t u : List UInt8} (h : t.length + u.length ≤ 1073741824) : bwr (ints t) u = some (ints (t ++ u)) := by
  have e : ∀ t : List UInt8, (ints t).length = t.length := fun t => by unfold ints; rw [List.length_map]
  unfold bwr
  rw [e, if_pos (by omega)]
  unfold ints
  rw [List.map_append]
theorem tb_bstr (t : List UInt8) : bstr (ints t) = some t := by
  unfold bstr ints
  rw [if_pos]
  · rw [List.map_map]
    congr 1
    conv => rhs; rw [← List.map_id t]
    apply List.map_congr_left
    intro b _
    show UInt8.ofNat (b.toNat : Int).toNat = b
    rw [Int.toNat_natCast]
    exact UInt8.ofNat_toNat
  · rw [List.all_eq_true]
    intro x hx
    obtain ⟨b, _, rfl⟩ := List.mem_map.1 hx
    have := UInt8.toNat_lt b
    simp
    omega
theorem impl_TimetableText (x : MusicT) (l : List CueT) (h : CueLens x l) : F_impl_TimetableText x l = some (tableAns x l) := by
  unfold F_impl_TimetableText tableAns
  rw [impl_haveCues x l h, Option.bind_some]
  cases hb : okBoth x l with
  | false => simp
  | true =>
    have hm := both_music hb
    have hl := both_len hb
    rw [if_neg (by simp), if_pos rfl]
    have hs := (loopS (F_impl_TimetableText_L1 l x) l.length (fun k _ => ints (tableC x (l.take (k + 1)))) (fun s => Option.bind (bstr s) fun u => some (u, true)) (by omega) (fun k s => s = ints (tableC x (l.take k))) [] (by simp [tableC, ints]) (fun k s hk hi => rfl) (fun m k s hk hi => ?_) (fun m s hi => ?_))
    · rw [hs.1, hs.2, List.take_length, tb_bstr, Option.bind_some]
    · subst hi
      obtain ⟨tb, tl, dl, ll⟩ := line_facts hb (List.getElem_mem hk)
      obtain ⟨c0, c1, cn, cl⟩ := cue_in hb (List.getElem_mem hk)
      have pl := part_len hb k
      rw [F_impl_TimetableText_L1, if_pos (by simp; omega), idx_lt hk, Option.bind_some, impl_timeOf x hm, Option.bind_some, impl_timeText (by omega), Option.bind_some, tm_app (by simp; omega), Option.bind_some, tm_itoa (by omega) (by omega), Option.bind_some,
        tm_app (by simp; omega), Option.bind_some, tm_app (by simp; omega), Option.bind_some, tm_app (by simp; omega), Option.bind_some, tm_app (by simp; omega), Option.bind_some, tb_bwr (by simp; omega), Option.bind_some, w64_succ (by omega), table_take hk]
      unfold lineC
      simp only [List.append_assoc, List.cons_append, List.nil_append]
    · subst hi
      rw [F_impl_TimetableText_L1, if_neg (by simp)]
end Go.Proofs.YtejhnpimhjmpdaaDoor
/-
  THE LAW OF TimetableText, PLAIN: it answers true.
-/
set_option linter.unusedSimpArgs false
set_option linter.unusedVariables false
namespace Go.Proofs.YtejhnpimhjmpdaaDoor
open Go
theorem P_laws_FnExactTimetableText (x : MusicT) (l : List CueT) (h : (allG G_Measure) x) (h' : (allG G_Cue) l) : F_laws_FnExactTimetableText x l = some true := by
  unfold F_laws_FnExactTimetableText
  refine gate (sz_MeasureS x 1048576 h (by decide) (by decide)) (by decide) fun m h0 h1 hs => ?_
  refine gate (sz_CueS l m h' h0 h1) h1 fun m h0 h1 hs' => ?_
  have hl := S_lens hs hs'
  simp [to_MeasureS x hs, to_CueS l hs', spec_TimetableText x l hl, impl_TimetableText x l hl, eq_MeasureS x hs, eq_CueS l hs', jK1]
end Go.Proofs.YtejhnpimhjmpdaaDoor
