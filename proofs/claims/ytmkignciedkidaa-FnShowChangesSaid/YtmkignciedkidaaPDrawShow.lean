/-
  DRAWN SHOWS, PLAIN: they are there and short.
-/
import Derived.Test.YtmkignciedkidaaPDraw
import Derived.Test.YtmkignciedkidaaPSame
import Derived.Test.YtmkignciedkidaaPShift
import Derived.Test.YtmkignciedkidaaPCopy
set_option linter.unusedSimpArgs false
set_option linter.unusedVariables false
namespace Go.Proofs.Ytmkignciedkidaa
open Go
theorem app_tot' {α β : Type} {l m : List α} {f : List α → Option β} {Q : β → Prop} (h : l.length + m.length ≤ 1073741824) (hf : Tot (f (l ++ m)) Q) : Tot (Option.bind (app l m) f) Q := Tot.bindE (app_ok h) hf
theorem seti_len' {α : Type} (l : List α) (i : Int) (x : α) : (seti l i x).length = l.length := by unfold seti; simp
theorem spot_draw (x : Cur) {m : Int} (h : Cu x.1 m x.2.1) (hm : 12 ≤ m) : Tot (F_spec_l1Cur__spot__mut__box x) (Pk x.1 (m - 12) fun _ => True) := by
  unfold F_spec_l1Cur__spot__mut__box
  refine Tot.bind (pick_ok x _ h (by omega)) fun u1 h1 => ?_
  refine Tot.bind (pick_ok (x.1, u1.2.2.1, u1.2.2.2) _ h1.2.2 (by omega)) fun u2 h2 => ?_
  refine Tot.bind (amongT (x.1, u2.2.2.1, u2.2.2.2) _ h2.2.2 (by show 2 ≤ m - 2 - 2; omega) (by simp)) fun u3 h3 => ?_
  refine Tot.bind (pick_ok (x.1, u3.2.2.1, u3.2.2.2) _ h3.2.2 (by show 2 ≤ m - 2 - 2 - 2; omega)) fun u4 h4 => ?_
  refine Tot.bind (pick_ok (x.1, u4.2.2.1, u4.2.2.2) _ h4.2.2 (by show 2 ≤ m - 2 - 2 - 2 - 2; omega)) fun u5 h5 => ?_
  refine Tot.bind (amongT (x.1, u5.2.2.1, u5.2.2.2) _ h5.2.2 (by show 2 ≤ m - 2 - 2 - 2 - 2 - 2; omega) (by simp)) fun u6 h6 => ?_
  exact Tot.some ⟨trivial, rfl, h6.2.2.mono (by omega) (by show m - 12 ≤ m - 2 - 2 - 2 - 2 - 2 - 2; omega)⟩
theorem chFind_ok (l : List (Int × Int)) (s : Int × Int) (hl : l.length < 4611686018427387904) : ∃ r, F_spec_chFind l s = some r ∧ (decide (r < 0) = true ↔ s ∉ l) := by
  unfold F_spec_chFind
  have h := loopFind (F_spec_chFind_L1 l s) l (fun u => !eqv_Spot u s) (fun k => if k < l.length then some (k : Int) else some (-1)) hl (fun m k u hk hu hq => ?_) (fun m k u hk hu hq => ?_) (fun m => ?_)
  · rw [h]
    by_cases hlt : (l.takeWhile fun u => !eqv_Spot u s).length < l.length
    · rw [if_pos hlt]
      refine ⟨_, rfl, ?_⟩
      have : ¬ ((l.takeWhile fun u => !eqv_Spot u s).length : Int) < 0 := by omega
      simp only [this, decide_false, Bool.false_eq_true, false_iff, Classical.not_not]
      have key : ∀ (l : List (Int × Int)), (l.takeWhile fun u => !eqv_Spot u s).length < l.length → s ∈ l := by
        intro l
        induction l with
        | nil => intro h; simp at h
        | cons u l ih =>
          intro h
          cases hu : eqv_Spot u s with
          | true =>
            have : u = s := by
              unfold eqv_Spot at hu
              simp at hu
              exact Prod.ext hu.1 hu.2
            rw [this]; simp
          | false =>
            rw [List.takeWhile_cons_of_pos (by simp [hu])] at h
            exact List.mem_cons_of_mem _ (ih (by simpa using h))
      exact key l hlt
    · rw [if_neg hlt]
      refine ⟨_, rfl, ?_⟩
      simp only [show decide ((-1 : Int) < 0) = true by decide, true_iff]
      have key : ∀ (l : List (Int × Int)), ¬ (l.takeWhile fun u => !eqv_Spot u s).length < l.length → s ∉ l := by
        intro l
        induction l with
        | nil => intro _ h; simp at h
        | cons u l ih =>
          intro h hs
          cases hu : eqv_Spot u s with
          | true =>
            rw [List.takeWhile_cons_of_neg (by simp [hu])] at h
            simp at h
          | false =>
            rw [List.takeWhile_cons_of_pos (by simp [hu])] at h
            rcases List.mem_cons.1 hs with rfl | hs
            · simp [eqv_Spot] at hu
            · exact ih (by simpa using h) hs
      exact key l hlt
  · rw [F_spec_chFind_L1, if_pos (by simp; omega), idx_nat, hu, Option.bind_some, if_neg (by simpa using hq), w64_succ (by omega)]
  · rw [F_spec_chFind_L1, if_pos (by simp; omega), idx_nat, hu, Option.bind_some, if_pos (by simpa using hq), if_pos hk]
  · rw [F_spec_chFind_L1, if_neg (by simp)]
    simp
/-- How many spots are as far to the back as a later try. -/
def later (t : Int) : List (Int × Int) → Nat
  | [] => 0
  | e :: l => (if 7 + t ≤ e.2 then 1 else 0) + later t l
theorem later_le (t : Int) : ∀ l, later (t + 1) l ≤ later t l
  | [] => Nat.le_refl _
  | e :: l => by
    have := later_le t l
    unfold later
    split <;> split <;> omega
theorem later_mem (t a : Int) : ∀ l, (a, 7 + t) ∈ l → later (t + 1) l + 1 ≤ later t l
  | [], h => by cases h
  | e :: l, h => by
    have h2 := later_le t l
    unfold later
    rcases List.mem_cons.1 h with h | h
    · subst h
      rw [if_neg (by show ¬ 7 + (t + 1) ≤ 7 + t; omega), if_pos (by show 7 + t ≤ 7 + t; omega)]
      omega
    · have := later_mem t a l h
      split <;> split <;> omega
theorem later_app (t : Int) (e : Int × Int) : ∀ l, later t (l ++ [e]) ≤ later t l + 1 ∧ (e.2 < 7 + t → later t (l ++ [e]) = later t l)
  | [] => by
    simp only [List.nil_append, later]
    constructor
    · split <;> omega
    · intro h; rw [if_neg (by omega)]
  | d :: l => by
    have h1 := (later_app t e l).1
    have h2 := (later_app t e l).2
    simp only [List.cons_append, later]
    constructor
    · omega
    · intro h; rw [h2 h]
theorem least_tot {α : Type} {a b : Int} {f : Int → Option α} {Q : α → Prop} (h : ∀ v, Tot (f v) Q) : Tot (Option.bind (F_spec_l1Least a b) f) Q := by
  unfold F_spec_l1Least
  split <;> exact Tot.bindE rfl (h _)
theorem most_tot {α : Type} {a b : Int} {f : Int → Option α} {Q : α → Prop} (h : ∀ v, (v = a ∨ v = b) → Tot (f v) Q) : Tot (Option.bind (F_spec_l1Most a b) f) Q := by
  unfold F_spec_l1Most
  split <;> exact Tot.bindE rfl (h _ (by simp))
def tries (n : Int) (t : Int) (l : List (Int × Int)) : Nat := 2 * (n - l.length).toNat + later t l + (61 - t).toNat
theorem chartOf_ok (x : Cur) (n : Int) (hn : n ≤ 13) {m : Int} (h : Cu x.1 m x.2.1) (hm : 2000 ≤ m) : Tot (F_spec_l1Cur__chartOf__mut__box x n) (Pk x.1 (m - 2000) fun l => l.length ≤ 13 ∧ n ≤ l.length) := by
  unfold F_spec_l1Cur__chartOf__mut__box
  refine Tot.loop (fun k (s : Int × Int × List (Int × Int) × Int) => F_spec_l1Cur__chartOf__mut__box_L1 n x k s.1 s.2.1 s.2.2.1 s.2.2.2) (fun s => tries n s.2.2.2 s.2.2.1)
    (fun s => s.2.2.1.length ≤ 13 ∧ 0 ≤ s.2.2.2 ∧ s.2.2.2 + tries n s.2.2.2 s.2.2.1 ≤ 87 ∧ Cu x.1 (m - 20 * s.2.2.2) s.1) (Pk x.1 (m - 2000) fun l => l.length ≤ 13 ∧ n ≤ l.length)
    (fun k s hs ih => ?_) FU (x.2.1, x.2.2, [], 0) ⟨by simp, by simp, by simp [tries, later]; omega, by simpa using h⟩ (by show _ < (4611686018427387904 : Nat); simp [tries, later]; omega)
  obtain ⟨a, sd, l, t⟩ := s
  obtain ⟨hl, ht0, ht, hc⟩ := hs
  dsimp only at hl ht0 ht hc ih ⊢
  rw [F_spec_l1Cur__chartOf__mut__box_L1]
  refine Tot.ite (fun hlt => ?_) fun hge => Tot.some ⟨by simp at hge; show l.length ≤ 13 ∧ n ≤ l.length; omega, rfl, hc.mono (by omega) (by omega)⟩
  have hlt' : (l.length : Int) < n := by simpa using hlt
  have et : w64 (t + 1) = t + 1 := w64_eq (by omega) (by omega)
  -- one more try
  have go : ∀ (y52 y53 y54 y55 : Int), Cu x.1 (m - 20 * (t + 1)) y52 →
      Tot (jK2 (fun (y62 : Int) (y63 : Int) => Option.bind (F_spec_chFind l (y62, y63)) fun u67 => (if (decide (u67 < 0)) = true then Option.bind (app l [(y62, y63)]) fun u80 => (F_spec_l1Cur__chartOf__mut__box_L1 n x k) (y52) (y53) (u80) ((w64 (t + 1))) else (F_spec_l1Cur__chartOf__mut__box_L1 n x k) (y52) (y53) (l) ((w64 (t + 1)))))
        (fun k64 => (if (decide (60 < t)) = true then k64 ((w64 (3 * (List.length l : Int)))) ((w64 (7 + t))) else k64 (y54) (y55)))) (Pk x.1 (m - 2000) fun l => l.length ≤ 13 ∧ n ≤ l.length) := by
    intro a s y54 y55 hc2
    unfold jK2
    dsimp only
    rw [et]
    have hll := later_le t l
    have no : (60 < t → ∃ b, (b, 7 + t) ∈ l) → Tot (F_spec_l1Cur__chartOf__mut__box_L1 n x k a s l (t + 1)) (Pk x.1 (m - 2000) fun l => l.length ≤ 13 ∧ n ≤ l.length) := by
      intro hb
      have hμ : tries n (t + 1) l + 1 ≤ tries n t l := by
        unfold tries
        by_cases h60 : 60 < t
        · obtain ⟨b, hb⟩ := hb h60
          have := later_mem t b l hb
          omega
        · omega
      exact ih (a, s, l, t + 1) ⟨hl, by show 0 ≤ t + 1; omega, by show t + 1 + (tries n (t + 1) l : Int) ≤ 87; omega, hc2⟩ (by show tries n (t + 1) l < tries n t l; omega)
    have yes : ∀ e : Int × Int, (60 < t → e.2 = 7 + t) → Tot (F_spec_l1Cur__chartOf__mut__box_L1 n x k a s (l ++ [e]) (t + 1)) (Pk x.1 (m - 2000) fun l => l.length ≤ 13 ∧ n ≤ l.length) := by
      intro e he
      have hla := later_app (t + 1) e l
      have hμ : tries n (t + 1) (l ++ [e]) + 1 ≤ tries n t l := by
        unfold tries
        rw [List.length_append]
        simp only [List.length_cons, List.length_nil]
        by_cases h60 : 60 < t
        · have := hla.2 (by rw [he h60]; omega)
          omega
        · have := hla.1
          omega
      exact ih (a, s, l ++ [e], t + 1) ⟨by simp; omega, by show 0 ≤ t + 1; omega, by show t + 1 + (tries n (t + 1) (l ++ [e]) : Int) ≤ 87; omega, hc2⟩ (by show tries n (t + 1) (l ++ [e]) < tries n t l; omega)
    refine Tot.ite (fun h60 => ?_) fun h60 => ?_
    · have h60' : 60 < t := by simpa using h60
      rw [w64_eq (x := 3 * (l.length : Int)) (by omega) (by omega), w64_eq (x := 7 + t) (by omega) (by omega)]
      obtain ⟨r, hr, hr2⟩ := chFind_ok l (3 * (l.length : Int), 7 + t) (by omega)
      refine Tot.bindE hr (Tot.ite (fun hq => app_tot' (by simp; omega) (yes _ fun _ => rfl)) fun hq => no fun _ => ⟨3 * (l.length : Int), ?_⟩)
      by_cases hn : (3 * (l.length : Int), 7 + t) ∈ l
      · exact hn
      · rw [hr2.2 hn] at hq
        cases hq
    · have h60' : ¬ 60 < t := by simpa using h60
      obtain ⟨r, hr, hr2⟩ := chFind_ok l (y54, y55) (by omega)
      exact Tot.bindE hr (Tot.ite (fun hq => app_tot' (by simp; omega) (yes _ fun h => absurd h h60')) fun hq => no fun h => absurd h h60')
  unfold jK3 jK4
  dsimp only
  refine Tot.bind (spot_draw (x.1, a, sd) hc (by omega)) fun u33 h33 => ?_
  have c33 : Cu x.1 (m - 20 * t - 12) u33.2.2.1 := h33.2.2
  refine Tot.ite (fun hpos => ?_) fun _ => ?_
  · refine Tot.bind (one_ok (x.1, u33.2.2.1, u33.2.2.2) _ c33 (by omega)) fun u350 h350 => ?_
    have c350 : Cu x.1 (m - 20 * t - 14) u350.2.2.1 := h350.2.2.mono (by omega) (by show _ ≤ m - 20 * t - 12 - 2; omega)
    refine Tot.ite (fun _ => ?_) fun _ => go _ _ _ _ (c350.mono (by omega) (by omega))
    refine Tot.bind (pick_ok (x.1, u350.2.2.1, u350.2.2.2) _ c350 (by omega)) fun u104 h104 => ?_
    obtain ⟨v, hv, hmem, _⟩ := idx_pick l (fun e => by rw [e] at hpos; simp at hpos) h104.1
    refine Tot.bindE hv ?_
    refine Tot.bind (amongT (x.1, u104.2.2.1, u104.2.2.2) _ h104.2.2 (by show 2 ≤ m - 20 * t - 14 - 2; omega) (by simp)) fun u140 h140 => least_tot fun w1 => ?_
    refine Tot.bind (amongT (x.1, u140.2.2.1, u140.2.2.2) _ h140.2.2 (by show 2 ≤ m - 20 * t - 14 - 2 - 2; omega) (by simp)) fun u168 h168 => least_tot fun w2 => ?_
    exact go _ _ _ _ (h168.2.2.mono (by omega) (by show _ ≤ m - 20 * t - 14 - 2 - 2 - 2; omega))
  · rw [if_neg (by simp)]
    exact go _ _ _ _ (c33.mono (by omega) (by omega))
theorem chart_draw (x : Cur) {m : Int} (h : Cu x.1 m x.2.1) (hm : 2010 ≤ m) : Tot (F_spec_l1Cur__chart__mut__box x) (Pk x.1 (m - 2010) fun l => l.length ≤ 13 ∧ 1 ≤ l.length) := by
  unfold F_spec_l1Cur__chart__mut__box
  refine Tot.bind (one_ok x _ h (by omega)) fun u4 h4 => Tot.ite (fun _ => ?_) fun _ => ?_
  · refine Tot.bind (chartOf_ok (x.1, u4.2.2.1, u4.2.2.2) 12 (by omega) h4.2.2 (by show 2000 ≤ m - 2; omega)) fun u hu => ?_
    have hu1 := hu.1
    exact Tot.some ⟨by show u.1.length ≤ 13 ∧ 1 ≤ u.1.length; omega, rfl, hu.2.2.mono (by omega) (by show _ ≤ m - 2 - 2000; omega)⟩
  · refine Tot.bind (pick_ok (x.1, u4.2.2.1, u4.2.2.2) _ h4.2.2 (by omega)) fun u21 h21 => ?_
    have h21' := h21.1
    refine Tot.bind (chartOf_ok (x.1, u21.2.2.1, u21.2.2.2) _ (by rw [w64_eq (by omega) (by omega)]; omega) h21.2.2 (by show 2000 ≤ m - 2 - 2; omega)) fun u hu => ?_
    have hu1 := hu.1
    rw [w64_eq (by omega) (by omega)] at hu1
    exact Tot.some ⟨by show u.1.length ≤ 13 ∧ 1 ≤ u.1.length; omega, rfl, hu.2.2.mono (by omega) (by show _ ≤ m - 2 - 2 - 2000; omega)⟩
theorem anySpot_draw (x : Cur) {m : Int} (h : Cu x.1 m x.2.1) (hm : 20 ≤ m) : Tot (F_spec_l1Cur__anySpot__mut__box x) (Pk x.1 (m - 20) fun _ => True) := by
  unfold F_spec_l1Cur__anySpot__mut__box jK4
  dsimp only
  refine Tot.bind (spot_draw x h (by omega)) fun u8 h8 => ?_
  refine Tot.bind (pick_ok (x.1, u8.2.2.1, u8.2.2.2) _ h8.2.2 (by omega)) fun u39 h39 => ?_
  have c39 : Cu x.1 (m - 14) u39.2.2.1 := h39.2.2.mono (by omega) (by show _ ≤ m - 12 - 2; omega)
  refine Tot.ite (fun _ => ?_) fun _ => Tot.ite (fun _ => ?_) fun _ => Tot.some ⟨trivial, rfl, c39.mono (by omega) (by omega)⟩
  · exact Tot.bind (amongT (x.1, u39.2.2.1, u39.2.2.2) _ c39 (by omega) (by simp)) fun u hu => Tot.some ⟨trivial, rfl, hu.2.2.mono (by omega) (by show _ ≤ m - 14 - 2; omega)⟩
  · exact Tot.bind (amongT (x.1, u39.2.2.1, u39.2.2.2) _ c39 (by omega) (by simp)) fun u hu => Tot.some ⟨trivial, rfl, hu.2.2.mono (by omega) (by show _ ≤ m - 14 - 2; omega)⟩
theorem anyChart_draw (x : Cur) {m : Int} (h : Cu x.1 m x.2.1) (hm : 5000 ≤ m) : Tot (F_spec_l1Cur__anyChart__mut__box x) (Pk x.1 (m - 5000) fun l => l.length ≤ 13) := by
  unfold F_spec_l1Cur__anyChart__mut__box jK3
  dsimp only
  refine Tot.bind (chart_draw x h (by omega)) fun u3 h3 => ?_
  have h31 := h3.1
  refine Tot.bind (pick_ok (x.1, u3.2.2.1, u3.2.2.2) _ h3.2.2 (by omega)) fun u12 h12 => ?_
  obtain ⟨v, hv, hmem, _⟩ := idx_pick u3.1 (fun e => by rw [e] at h31; simp at h31) h12.1
  refine Tot.bind (pick_ok (x.1, u12.2.2.1, u12.2.2.2) _ h12.2.2 (by show 2 ≤ m - 2010 - 2; omega)) fun u31 h31b => ?_
  have c31 : Cu x.1 (m - 2020) u31.2.2.1 := h31b.2.2.mono (by omega) (by show _ ≤ m - 2010 - 2 - 2; omega)
  have fin : ∀ (a s : Int) (l : List (Int × Int)), l.length ≤ 13 → Cu x.1 (m - 5000) a → Tot (some (l, (x.1, a, s))) (Pk x.1 (m - 5000) fun l => l.length ≤ 13) := fun a s l h1 h2 => Tot.some ⟨h1, rfl, h2⟩
  refine Tot.ite (fun _ => ?_) fun _ => Tot.ite (fun _ => ?_) fun _ => Tot.ite (fun _ => ?_) fun _ => Tot.ite (fun _ => ?_) fun _ => ?_
  · refine Tot.bind (anySpot_draw (x.1, u31.2.2.1, u31.2.2.2) c31 (by omega)) fun u hu => Tot.bindE hv (fin _ _ _ (by rw [seti_len']; omega) (hu.2.2.mono (by omega) (by show _ ≤ m - 2020 - 20; omega)))
  · have h0 : idx u3.1 0 = some u3.1[0] := by rw [idx_zero]; exact List.getElem?_eq_getElem (by omega)
    exact Tot.bindE h0 (Tot.bindE hv (fin _ _ _ (by rw [seti_len']; omega) (c31.mono (by omega) (by omega))))
  · exact fin _ _ _ (by simp) (c31.mono (by omega) (by omega))
  · refine Tot.bind (chartOf_ok (x.1, u31.2.2.1, u31.2.2.2) 13 (by omega) c31 (by omega)) fun u hu => fin _ _ _ hu.1.1 (hu.2.2.mono (by omega) (by show _ ≤ m - 2020 - 2000; omega))
  · exact fin _ _ _ (by omega) (c31.mono (by omega) (by omega))
/-- What drawn shows are. -/
def shortShow (s : ShowT) : Prop := s.1.length ≤ 9 ∧ (∀ c ∈ s.1, c.length ≤ 13) ∧ s.2.1.length ≤ 9
theorem shortShow.lens {s : ShowT} (h : shortShow s) : lensOk s := ⟨by have := h.1; omega, fun c hc => by have := h.2.1 c hc; omega, by have := h.2.2; omega⟩
theorem show_draw (x : Cur) {m : Int} (h : Cu x.1 m x.2.1) (hm : 50000 ≤ m) : Tot (F_spec_l1Cur__show__mut__box x) (Pk x.1 (m - 50000) shortShow) := by
  unfold F_spec_l1Cur__show__mut__box
  refine Tot.bind (pick_ok x _ h (by omega)) fun u8 h8 => ?_
  have h81 := h8.1
  have e8 : w64 (1 + u8.1) = 1 + u8.1 := w64_eq (by omega) (by omega)
  refine Tot.bind (chartOf_ok (x.1, u8.2.2.1, u8.2.2.2) _ (by rw [e8]; omega) h8.2.2 (by omega)) fun u15 h15 => ?_
  refine Tot.bind (amongT (x.1, u15.2.2.1, u15.2.2.2) _ h15.2.2 (by show 2 ≤ m - 2 - 2000; omega) (by simp)) fun u38 h38 => ?_
  refine Tot.bind (amongT (x.1, u38.2.2.1, u38.2.2.2) _ h38.2.2 (by show 2 ≤ m - 2 - 2000 - 2; omega) (by simp)) fun u50 h50 => ?_
  refine Tot.bind (pick_ok (x.1, u50.2.2.1, u50.2.2.2) _ h50.2.2 (by show 2 ≤ m - 2 - 2000 - 2 - 2; omega)) fun u66 h66 => ?_
  have h661 := h66.1
  have c66 : Cu x.1 (m - 2010) u66.2.2.1 := h66.2.2.mono (by omega) (by show _ ≤ m - 2 - 2000 - 2 - 2 - 2; omega)
  have loop : ∀ (a s many : Int), Cu x.1 (m - 2020) a → 2 ≤ many → many ≤ 9 → Tot (F_spec_l1Cur__show__mut__box_L1 many x u8 u50 u38 FU a s ([u15.1]) ([])) (Pk x.1 (m - 50000) shortShow) := by
    intro a0 s0 many ha hm1 hm2
    have h151 := h15.1
    refine Tot.loop (fun k (s : Int × Int × List (List (Int × Int)) × List Int) => F_spec_l1Cur__show__mut__box_L1 many x u8 u50 u38 k s.1 s.2.1 s.2.2.1 s.2.2.2) (fun s => 10 - s.2.2.1.length)
      (fun s => 1 ≤ s.2.2.1.length ∧ s.2.2.1.length ≤ 9 ∧ (∀ c ∈ s.2.2.1, c.length ≤ 13) ∧ s.2.2.2.length + 1 = s.2.2.1.length ∧ Cu x.1 (m - 3000 * s.2.2.1.length) s.1) (Pk x.1 (m - 50000) shortShow)
      (fun k s hs ih => ?_) FU (a0, s0, [u15.1], []) ⟨by simp, by simp, fun c hc => by rw [List.mem_singleton.1 hc]; exact h151.1, by simp, ha.mono (by show 0 ≤ m - 3000 * (1 : Int); omega) (by show m - 3000 * (1 : Int) ≤ m - 2020; omega)⟩ (by show _ < (4611686018427387904 : Nat); simp)
    obtain ⟨a, sd, l, ns⟩ := s
    obtain ⟨hl1, hl9, hlc, hns, hc⟩ := hs
    dsimp only at hl1 hl9 hlc hns hc ih ⊢
    rw [F_spec_l1Cur__show__mut__box_L1]
    have elast : idx l (w64 ((l.length : Int) - 1)) = some l[l.length - 1] := by
      rw [w64_eq (by omega) (by omega), idx_int (by omega), show ((l.length : Int) - 1).toNat = l.length - 1 by omega]
      exact List.getElem?_eq_getElem (by omega)
    have hlast : l[l.length - 1].length ≤ 13 := hlc _ (List.getElem_mem _)
    refine Tot.ite (fun hlt => ?_) fun hge => ?_
    · have hlt' : (l.length : Int) < many := by simpa using hlt
      refine Tot.bindE elast ?_
      refine Tot.bind (chartOf_ok (x.1, a, sd) _ (by rw [e8]; omega) hc (by omega)) fun u108 h108 => ?_
      have c108 : Cu x.1 (m - 3000 * l.length - 2000) u108.2.2.1 := h108.2.2
      have more : ∀ (a s : Int) (nl : List (Int × Int)), nl.length ≤ 13 → Cu x.1 (m - 3000 * l.length - 2500) a → Tot (Option.bind (app l [nl]) fun u137 =>
          Option.bind (F_spec_l1Cur__among__mut__box (x.1, a, s) [1, 4, 8, 16, 64]) fun u164 => Option.bind (app ns [u164.1]) fun u182 => (F_spec_l1Cur__show__mut__box_L1 many x u8 u50 u38 k) (u164.2.2.1) (u164.2.2.2) (u137) (u182)) (Pk x.1 (m - 50000) shortShow) := by
        intro a s nl hnl ha
        refine app_tot' (by simp; omega) (Tot.bind (amongT (x.1, a, s) _ ha (by omega) (by simp)) fun u164 h164 => app_tot' (by simp; omega) ?_)
        exact ih (u164.2.2.1, u164.2.2.2, l ++ [nl], ns ++ [u164.1]) ⟨by simp, by simp; omega, fun c hc => by rcases List.mem_append.1 hc with hc | hc; exact hlc c hc; rw [List.mem_singleton.1 hc]; exact hnl,
          by simp; omega, h164.2.2.mono (by simp; omega) (by simp; omega)⟩ (by simp; omega)
      unfold jK3
      dsimp only
      refine Tot.bind (one_ok (x.1, u108.2.2.1, u108.2.2.2) _ c108 (by omega)) fun u292 h292 => ?_
      have c292 : Cu x.1 (m - 3000 * l.length - 2002) u292.2.2.1 := h292.2.2.mono (by omega) (by show _ ≤ m - 3000 * (l.length : Int) - 2000 - 2; omega)
      refine Tot.ite (fun _ => ?_) fun _ => more _ _ _ h108.1.1 (c292.mono (by omega) (by omega))
      refine Tot.bindE (spec_chOwn _ (by omega)) ?_
      generalize l[l.length - 1] = last at hlast ⊢
      refine Tot.loop (fun k2 (s : Int × Int × List (Int × Int) × Int) => F_spec_l1Cur__show__mut__box_L2 last x last _ k2 s.1 s.2.1 s.2.2.1 s.2.2.2) (fun s => (last.length - s.2.2.2).toNat)
        (fun s => s.2.2.1.length = last.length ∧ 0 ≤ s.2.2.2 ∧ s.2.2.2 ≤ last.length ∧ Cu x.1 (m - 3000 * l.length - 2002 - 2 * s.2.2.2) s.1) _
        (fun k2 s hs ih2 => ?_) FU (u292.2.2.1, u292.2.2.2, last, 0) ⟨rfl, by simp, by simp, by simpa using c292⟩ (by show _ < (4611686018427387904 : Nat); simp; omega)
      obtain ⟨a2, s2, l2, y⟩ := s
      obtain ⟨hl2, hy0, hy, hc2⟩ := hs
      dsimp only at hl2 hy0 hy hc2 ih2 ⊢
      rw [F_spec_l1Cur__show__mut__box_L2]
      refine Tot.ite (fun hylt => ?_) fun _ => ?_
      · have hylt' : y < last.length := by simpa using hylt
        have ey : idx l2 y = some l2[y.toNat] := by rw [idx_int hy0]; exact List.getElem?_eq_getElem (by omega)
        unfold jK3
        dsimp only
        refine Tot.bindE ey (Tot.bind (amongT (x.1, a2, s2) _ hc2 (by omega) (by simp)) fun u361 h361 => least_tot fun w1 => Tot.bindE ey ?_)
        rw [w64_eq (x := y + 1) (by omega) (by omega)]
        exact ih2 (u361.2.2.1, u361.2.2.2, seti l2 y (w1, l2[y.toNat].2), y + 1) ⟨by rw [seti_len']; exact hl2, by show 0 ≤ y + 1; omega, by show y + 1 ≤ last.length; omega, h361.2.2.mono (by show 0 ≤ m - 3000 * (l.length : Int) - 2002 - 2 * (y + 1); omega) (by show m - 3000 * (l.length : Int) - 2002 - 2 * (y + 1) ≤ m - 3000 * (l.length : Int) - 2002 - 2 * y - 2; omega)⟩
          (by show ((last.length : Int) - (y + 1)).toNat < ((last.length : Int) - y).toNat; omega)
      · refine Tot.bindE (spec_chGood l2 (by omega)) (Tot.ite (fun _ => Tot.bindE (spec_chOwn _ (by omega)) (more _ _ _ hlast (hc2.mono (by omega) (by omega)))) fun _ => more _ _ _ (by omega) (hc2.mono (by omega) (by omega)))
    · have hge' : many ≤ (l.length : Int) := by simpa using hge
      have fin : ∀ (a s : Int) (cs : List (List (Int × Int))) (ns : List Int) (p q : Int), cs.length ≤ 9 → (∀ c ∈ cs, c.length ≤ 13) → ns.length ≤ 9 → Cu x.1 (m - 50000) a → Tot (some ((cs, ns, p, q), (x.1, a, s))) (Pk x.1 (m - 50000) shortShow) :=
        fun a s cs ns p q h1 h2 h3 h4 => Tot.some ⟨⟨h1, h2, h3⟩, rfl, h4⟩
      unfold jK6
      dsimp only
      refine Tot.bind (pick_ok (x.1, a, sd) _ hc (by omega)) fun u499 h499 => ?_
      have c499 : Cu x.1 (m - 30000) u499.2.2.1 := h499.2.2.mono (by omega) (by show _ ≤ m - 3000 * (l.length : Int) - 2; omega)
      have cend : Cu x.1 (m - 50000) u499.2.2.1 := c499.mono (by omega) (by omega)
      refine Tot.ite (fun _ => ?_) fun _ => Tot.ite (fun _ => ?_) fun _ => Tot.ite (fun _ => ?_) fun _ => Tot.ite (fun _ => ?_) fun _ => Tot.ite (fun _ => ?_) fun _ => Tot.ite (fun _ => ?_) fun _ => ?_
      · exact Tot.bind (amongT (x.1, u499.2.2.1, u499.2.2.2) _ c499 (by omega) (by simp)) fun u hu => fin _ _ _ _ _ _ hl9 hlc (by omega) (hu.2.2.mono (by omega) (by show _ ≤ m - 30000 - 2; omega))
      · exact Tot.bind (amongT (x.1, u499.2.2.1, u499.2.2.2) _ c499 (by omega) (by simp)) fun u hu => fin _ _ _ _ _ _ hl9 hlc (by omega) (hu.2.2.mono (by omega) (by show _ ≤ m - 30000 - 2; omega))
      · refine Tot.bind (amongT (x.1, u499.2.2.1, u499.2.2.2) _ c499 (by omega) (by simp)) fun u hu => ?_
        have e0 : idx ns 0 = some ns[0] := by rw [idx_zero]; exact List.getElem?_eq_getElem (by omega)
        exact Tot.bindE e0 (fin _ _ _ _ _ _ hl9 hlc (by rw [seti_len']; omega) (hu.2.2.mono (by omega) (by show _ ≤ m - 30000 - 2; omega)))
      · refine Tot.bind (anyChart_draw (x.1, u499.2.2.1, u499.2.2.2) c499 (by omega)) fun u hu => Tot.bindE elast (fin _ _ _ _ _ _ (by rw [seti_len']; exact hl9) (fun c hc => ?_) (by omega) (hu.2.2.mono (by omega) (by show _ ≤ m - 30000 - 5000; omega)))
        unfold seti at hc
        rcases List.mem_or_eq_of_mem_set hc with hc | rfl
        · exact hlc c hc
        · exact hu.1
      · exact app_tot' (by simp; omega) (fin _ _ _ _ _ _ hl9 hlc (by simp; omega) cend)
      · have esl : sl l 0 1 = some (l.take 1) := sl_take l (k := 1) hl1
        exact Tot.bindE esl (fin _ _ _ _ _ _ (by simp; omega) (fun c hc => hlc c (List.mem_of_mem_take hc)) (by simp) cend)
      · exact fin _ _ _ _ _ _ hl9 hlc (by omega) cend
  unfold jK3
  dsimp only
  refine Tot.bind (one_ok (x.1, u66.2.2.1, u66.2.2.2) _ c66 (by omega)) fun u786 h786 => Tot.ite (fun _ => ?_) fun _ => ?_
  · refine Tot.bind (pick_ok (x.1, u786.2.2.1, u786.2.2.2) _ h786.2.2 (by omega)) fun u793 h793 => ?_
    have := h793.1
    refine loop _ _ _ (h793.2.2.mono (by omega) (by show _ ≤ m - 2010 - 2 - 2; omega)) ?_ ?_
    · rw [w64_eq (by omega) (by omega)]; omega
    · rw [w64_eq (by omega) (by omega)]; omega
  · refine loop _ _ _ (h786.2.2.mono (by omega) (by show _ ≤ m - 2010 - 2; omega)) ?_ ?_
    · rw [w64_eq (by omega) (by omega)]; omega
    · rw [w64_eq (by omega) (by omega)]; omega
theorem partOf_draw (x : Cur) (s : ShowT) {m : Int} (h : Cu x.1 m x.2.1) (hm : 10 ≤ m) : Tot (F_spec_l1Cur__partOf__mut__box x s) (Pk x.1 (m - 10) fun _ => True) := by
  unfold F_spec_l1Cur__partOf__mut__box
  refine Tot.bind (pick_ok x _ h (by omega)) fun u1 h1 => ?_
  refine Tot.bind (pick_ok (x.1, u1.2.2.1, u1.2.2.2) _ h1.2.2 (by omega)) fun u2 h2 => ?_
  refine Tot.bind (pick_ok (x.1, u2.2.2.1, u2.2.2.2) _ h2.2.2 (by show 2 ≤ m - 2 - 2; omega)) fun u3 h3 => ?_
  exact Tot.some ⟨trivial, rfl, h3.2.2.mono (by omega) (by show m - 10 ≤ m - 2 - 2 - 2; omega)⟩
/-! what the laws draw -/
theorem Cu.begin {c : List Int} (h : allG inU8 c) : Cu c 100000000 0 := ⟨fun b hb => h.2 b hb, by omega, by omega, by omega⟩
section
variable (c : List Int) (h : Cu c 100000000 0)
include h
theorem draw_DropShowChart : Tot (F_spec_DrawDropShowChart c) fun v => shortShow v.1 := by
  unfold F_spec_DrawDropShowChart
  refine Tot.bind (show_draw (c, 0, 0) h (by omega)) fun u hu => ?_
  refine Tot.bind (pick_ok (c, u.2.2.1, u.2.2.2) _ hu.2.2 (by omega)) fun u1 h1 => ?_
  refine Tot.bind (pick_ok (c, u1.2.2.1, u1.2.2.2) _ h1.2.2 (by show (2 : Int) ≤ 100000000 - 50000 - 2; omega)) fun u2 h2 => ?_
  exact Tot.bind (pick_ok (c, u2.2.2.1, u2.2.2.2) _ h2.2.2 (by show (2 : Int) ≤ 100000000 - 50000 - 2 - 2; omega)) fun u3 h3 => Tot.some hu.1
theorem draw_StretchShow : Tot (F_spec_DrawStretchShow c) fun v => shortShow v.1 := by
  unfold F_spec_DrawStretchShow jK6
  dsimp only
  refine Tot.bind (show_draw (c, 0, 0) h (by omega)) fun u hu => ?_
  refine Tot.bind (partOf_draw (c, u.2.2.1, u.2.2.2) u.1 hu.2.2 (by omega)) fun u1 h1 => ?_
  refine Tot.bind (amongT (c, u1.2.2.1, u1.2.2.2) _ h1.2.2 (by show (2 : Int) ≤ 100000000 - 50000 - 10; omega) (by simp)) fun u2 h2 => ?_
  exact Tot.bind (amongT (c, u2.2.2.1, u2.2.2.2) _ h2.2.2 (by show (2 : Int) ≤ 100000000 - 50000 - 10 - 2; omega) (by simp)) fun u3 h3 => Tot.some hu.1
theorem draw_AddShowChart : Tot (F_spec_DrawAddShowChart c) fun v => shortShow v.1 ∧ v.2.1.length ≤ 13 := by
  unfold F_spec_DrawAddShowChart
  refine Tot.bind (show_draw (c, 0, 0) h (by omega)) fun u14 h14 => ?_
  refine Tot.bind (chart_draw (c, u14.2.2.1, u14.2.2.2) h14.2.2 (by show (2010 : Int) ≤ 100000000 - 50000; omega)) fun u34 h34 => ?_
  have c34 : Cu c 90000000 u34.2.2.1 := h34.2.2.mono (by omega) (by show (90000000 : Int) ≤ 100000000 - 50000 - 2010; omega)
  have fin : ∀ (a s : Int) (l : List (Int × Int)), l.length ≤ 13 → Cu c 80000000 a → Tot (Option.bind (F_spec_l1Cur__among__mut__box (c, a, s) [0, 65]) fun u70 => Option.bind (F_spec_l1Cur__among__mut__box (c, u70.2.2.1, u70.2.2.2) [1, 8, 64, u70.1]) fun u88 => some (u14.1, l, u88.1)) fun v => shortShow v.1 ∧ v.2.1.length ≤ 13 := by
    intro a s l hl ha
    refine Tot.bind (amongT (c, a, s) _ ha (by omega) (by simp)) fun u2 h2 => ?_
    exact Tot.bind (amongT (c, u2.2.2.1, u2.2.2.2) _ h2.2.2 (by show (2 : Int) ≤ 80000000 - 2; omega) (by simp)) fun u3 h3 => Tot.some ⟨h14.1, hl⟩
  unfold jK3
  dsimp only
  have off := fin u34.2.2.1 u34.2.2.2 u34.1 h34.1.1 (c34.mono (by omega) (by omega))
  refine Tot.ite (fun hpos => ?_) fun _ => ?_
  · refine Tot.bind (one_ok (c, u34.2.2.1, u34.2.2.2) _ c34 (by omega)) fun u138 h138 => ?_
    have c138 : Cu c 85000000 u138.2.2.1 := h138.2.2.mono (by omega) (by show (85000000 : Int) ≤ 90000000 - 2; omega)
    refine Tot.ite (fun _ => ?_) fun _ => fin _ _ _ h34.1.1 (c138.mono (by omega) (by omega))
    have hp : 0 < u14.1.1.length := by have : (0 : Int) < u14.1.1.length := by simpa using hpos
                                       omega
    have e0 : idx u14.1.1 0 = some u14.1.1[0] := by rw [idx_zero]; exact List.getElem?_eq_getElem (by omega)
    have hc13 := h14.1.2.1 _ (List.getElem_mem (l := u14.1.1) (n := 0) hp)
    refine Tot.bindE e0 ?_
    unfold F_spec_l1Least
    have go : ∀ k : Int, k ≤ 13 → Tot (Option.bind (F_spec_l1Most 1 k) fun u123 => Option.bind (F_spec_l1Cur__chartOf__mut__box (c, u138.2.2.1, u138.2.2.2) u123) fun u129 => Option.bind (F_spec_l1Cur__among__mut__box (c, u129.2.2.1, u129.2.2.2) [0, 65]) fun u70 =>
        Option.bind (F_spec_l1Cur__among__mut__box (c, u70.2.2.1, u70.2.2.2) [1, 8, 64, u70.1]) fun u88 => some (u14.1, u129.1, u88.1)) fun v => shortShow v.1 ∧ v.2.1.length ≤ 13 := by
      intro k hk
      refine most_tot fun v hv => ?_
      refine Tot.bind (chartOf_ok (c, u138.2.2.1, u138.2.2.2) v (by rcases hv with rfl | rfl <;> omega) c138 (by omega)) fun u129 h129 => fin _ _ _ h129.1.1 (h129.2.2.mono (by omega) (by show (80000000 : Int) ≤ 85000000 - 2000; omega))
    split
    · exact Tot.bindE rfl (go _ (by omega))
    · exact Tot.bindE rfl (go _ (by omega))
  · rw [if_neg (by simp)]
    exact off
end
end Go.Proofs.Ytmkignciedkidaa
