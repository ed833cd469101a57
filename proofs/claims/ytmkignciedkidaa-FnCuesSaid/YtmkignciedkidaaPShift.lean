/-
  CUES SHIFTED AND ADDED, PLAIN.
-/
import Derived.Test.YtmkignciedkidaaPCue
set_option linter.unusedSimpArgs false
set_option linter.unusedVariables false
namespace Go.Proofs.Ytmkignciedkidaa
open Go
/-- A loop that turns each element in its place. -/
theorem loopSet {α R : Type} (f : Nat → List α → Int → Option R) (l : List α) (g : α → α) (rest : List α → Option R) (hn : l.length < 4611686018427387904)
    (hs : ∀ m k x (s : List α), k < l.length → s[k]? = some x → s.length = l.length → f (m + 1) s (k : Int) = f m (s.set k (g x)) ((k + 1 : Nat) : Int))
    (he : ∀ m s, s.length = l.length → f (m + 1) s (l.length : Int) = rest s) : f FU l 0 = rest (l.map g) := by
  have h := loopS f l.length (fun k s => match s[k]? with | some x => s.set k (g x) | none => s) rest hn
    (fun k s => s = (l.take k).map g ++ l.drop k) l (by simp) (fun k s hk hi => ?_) (fun m k s hk hi => ?_) (fun m s hi => he m s (by rw [hi]; simp))
  · rw [h.1]
    congr 1
    have := h.2
    simpa using this
  · have e3 : ¬ k < ((l.take k).map g).length := by simp; omega
    have e2 : k - ((l.take k).map g).length = 0 := by simp; omega
    have hx : s[k]? = some l[k] := by rw [hi, List.getElem?_append_right (by omega), e2]; simp
    simp only [hx]
    subst hi
    rw [List.set_append, if_neg e3, e2, List.drop_eq_getElem_cons hk, List.set_cons_zero, List.take_succ_eq_append_getElem hk, List.map_append]
    simp
  · have e2 : k - ((l.take k).map g).length = 0 := by simp; omega
    have hx : s[k]? = some l[k] := by rw [hi, List.getElem?_append_right (by simp; omega), e2]; simp
    simp only [hx]
    exact hs m k l[k] s hk hx (by rw [hi]; simp; omega)
def shiftC (by_ : Int) (c : CueT) : CueT := (w64 (c.1 + by_), c.2)
theorem lens_map {x : MusicT} {l : List CueT} (h : CueLens x l) (g : CueT → CueT) (hg : ∀ c, (g c).2 = c.2) : CueLens x (l.map g) :=
  ⟨h.hx, by simpa using h.hl, fun c hc => by obtain ⟨d, hd, rfl⟩ := List.mem_map.1 hc; rw [hg]; exact h.hn d hd⟩
def ifCues (x : MusicT) (l : List CueT) : List CueT × Bool := if okCues x l then (l, true) else ([], false)
theorem spec_tiIf (x : MusicT) (l : List CueT) (h : CueLens x l) : F_spec_tiIf x l = some (ifCues x l) := by
  unfold F_spec_tiIf ifCues
  rw [spec_tiCues x l h.hx h.hl' h.hn, Option.bind_some]
  have := h.hl
  rw [app_ok' (by simp; omega)]
  cases okCues x l <;> simp
def shiftAns (x : MusicT) (l : List CueT) (d : Int) : List CueT × Bool := if okBoth x l && okIn d (-500) 500 then ifCues x (l.map (shiftC d)) else ([], false)
theorem spec_ShiftCues (x : MusicT) (l : List CueT) (d : Int) (h : CueLens x l) : F_spec_ShiftCues x l d = some (shiftAns x l d) := by
  unfold F_spec_ShiftCues jK1 shiftAns
  dsimp only
  rw [spec_tiGood x l h, Option.bind_some, spec_l1In, Option.bind_some]
  cases hb : okBoth x l with
  | false => simp
  | true =>
    cases ht : okIn d (-500) 500 with
    | false => simp
    | true =>
      have hl := h.hl
      simp only [Bool.not_true, Bool.false_eq_true, if_false, Bool.and_self, if_true]
      rw [app_ok' (by simp; omega), Option.bind_some, List.nil_append, loopSet (F_spec_ShiftCues_L1 l d x) l (shiftC d) (fun s => F_spec_tiIf x s) (by omega) (fun m k c s hk hc hsl => ?_) (fun m s hsl => ?_)]
      · exact spec_tiIf x _ (lens_map h _ fun _ => rfl)
      · rw [F_spec_ShiftCues_L1, if_pos (by simp; omega), idx_nat, hc, Option.bind_some, Option.bind_some, seti_nat, w64_succ (by omega)]
        rfl
      · rw [F_spec_ShiftCues_L1, if_neg (by simp)]
        cases F_spec_tiIf x s <;> rfl
theorem impl_ShiftCues (x : MusicT) (l : List CueT) (d : Int) (h : CueLens x l) : F_impl_ShiftCues x l d = some (shiftAns x l d) := by
  unfold F_impl_ShiftCues jK1 shiftAns
  dsimp only
  rw [impl_haveCues x l h, Option.bind_some, impl_within, Option.bind_some]
  cases hb : okBoth x l with
  | false => simp
  | true =>
    cases ht : okIn d (-500) 500 with
    | false => simp
    | true =>
      have hl := h.hl
      simp only [Bool.not_true, Bool.false_eq_true, if_false, Bool.and_self, if_true]
      rw [loopMapL (F_impl_ShiftCues_L1 l d x) l (shiftC d) (fun s => Option.bind (F_impl_areCues x s) fun u => if (!u) = true then some ([], false) else some (s, true)) (by omega) (fun m s k c hk hc hsl => ?_) (fun m s => ?_)]
      · have h2 := lens_map h (shiftC d) fun _ => rfl
        rw [impl_areCues x _ h2.hx h2.hl' h2.hn, Option.bind_some]
        unfold ifCues
        cases okCues x (l.map (shiftC d)) <;> simp
      · rw [F_impl_ShiftCues_L1, if_pos (by simp; omega), idx_nat, hc, Option.bind_some, app_ok' (by simp; omega), Option.bind_some, w64_succ (by omega)]
        rfl
      · rw [F_impl_ShiftCues_L1, if_neg (by simp)]
/-- A loop that looks for the first place where q does not hold. -/
theorem loopFind {α R : Type} (f : Nat → Int → Option R) (l : List α) (q : α → Bool) (rest : Nat → Option R) (hn : l.length < 4611686018427387904)
    (hs : ∀ m k x, k < l.length → l[k]? = some x → q x = true → f (m + 1) (k : Int) = f m ((k + 1 : Nat) : Int))
    (he : ∀ m k x, k < l.length → l[k]? = some x → q x = false → f (m + 1) (k : Int) = rest k) (hz : ∀ m, f (m + 1) (l.length : Int) = rest l.length) :
    f FU 0 = rest (l.takeWhile q).length := by
  have key : ∀ d k m, l.length - k = d → k ≤ l.length → l.length - k < m → f m (k : Int) = rest (k + ((l.drop k).takeWhile q).length) := by
    intro d
    induction d with
    | zero =>
      intro k m hd hk hm
      have : k = l.length := by omega
      subst this
      cases m with
      | zero => omega
      | succ m => rw [hz]; simp
    | succ d ih =>
      intro k m hd hk hm
      cases m with
      | zero => omega
      | succ m =>
        have hk' : k < l.length := by omega
        have hx : l[k]? = some l[k] := by simp [hk']
        rw [List.drop_eq_getElem_cons hk']
        cases hq : q l[k] with
        | true =>
          rw [hs m k _ hk' hx hq, ih (k + 1) m (by omega) (by omega) (by omega), List.takeWhile_cons_of_pos hq]
          congr 1
          simp
          omega
        | false =>
          rw [he m k _ hk' hx hq, List.takeWhile_cons_of_neg (by simp [hq])]
          simp
  have := key _ 0 FU rfl (by omega) (FU_gt (by omega))
  simpa using this
def addAt (l : List CueT) (c : CueT) : Nat := (l.takeWhile fun d => decide (d.1 < c.1)).length
theorem takeWhile_len {α : Type} (q : α → Bool) (l : List α) : (l.takeWhile q).length ≤ l.length := (List.takeWhile_sublist q).length_le
def added (l : List CueT) (c : CueT) : List CueT := l.take (addAt l c) ++ [c] ++ l.drop (addAt l c)
def addAns (x : MusicT) (l : List CueT) (c : CueT) : List CueT × Bool := if okBoth x l then ifCues x (added l c) else ([], false)
theorem lens_added {x : MusicT} {l : List CueT} (h : CueLens x l) (c : CueT) (hc : c.2.length < 4611686018427387904) (hl : l.length ≤ 30) : CueLens x (added l c) :=
  ⟨h.hx, by have := takeWhile_len (fun d : CueT => decide (d.1 < c.1)) l; unfold added addAt; simp; omega, fun d hd => by
    unfold added at hd
    simp only [List.mem_append, List.mem_singleton] at hd
    rcases hd with (hd | rfl) | hd
    · exact h.hn d (List.mem_of_mem_take hd)
    · exact hc
    · exact h.hn d (List.mem_of_mem_drop hd)⟩
theorem sl_drop {α : Type} (l : List α) {k : Nat} (h : k ≤ l.length) : sl l (k : Int) (List.length l : Int) = some (l.drop k) := by
  unfold sl
  rw [if_pos (by omega)]
  simp
theorem ifCues_ok (x : MusicT) (l : List CueT) : (ifCues x l).1.length ≤ 30 ∧ ∀ c ∈ (ifCues x l).1, c.2.length ≤ 8 := by
  unfold ifCues
  cases h : okCues x l with
  | false => simp
  | true =>
    unfold okCues at h
    rw [Bool.and_eq_true, decide_eq_true_eq] at h
    refine ⟨h.2, fun c hc => ?_⟩
    simp only [if_true] at hc
    obtain ⟨k, hk⟩ := List.getElem?_of_mem hc
    have hlt := (List.getElem?_eq_some_iff.1 hk).1
    have hat := List.all_eq_true.1 h.1 k (List.mem_range.2 hlt)
    unfold cueAt at hat
    rw [hk] at hat
    simp only [Bool.and_eq_true] at hat
    have hn := hat.1.1.2
    unfold okName at hn
    rw [Bool.and_eq_true, okIn_iff'] at hn
    omega
end Go.Proofs.Ytmkignciedkidaa
