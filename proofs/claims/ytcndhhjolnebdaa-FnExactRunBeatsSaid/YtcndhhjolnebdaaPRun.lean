/-
  BEATS ONE AFTER ANOTHER, PLAIN.
-/
import Derived.Test.YtcndhhjolnebdaaPHalt
set_option linter.unusedSimpArgs false
set_option linter.unusedVariables false
namespace Go.Proofs.Ytcndhhjolnebdaa
open Go
theorem rises_of {l : List Int} {lo hi : Int} (hp : l.Pairwise (· < ·)) (hb : ∀ u ∈ l, lo ≤ u ∧ u ≤ hi) : rises l lo hi = true := by
  unfold rises
  rw [List.all_eq_true]
  intro k hk
  have hk' : k < l.length := List.mem_range.1 hk
  have hu := hb l[k] (List.getElem_mem hk')
  cases k with
  | zero => rw [riseAt_0 (List.getElem?_eq_getElem hk'), okIn_iff]; exact hu
  | succ k =>
    rw [riseAt_s (List.getElem?_eq_getElem hk') (List.getElem?_eq_getElem (show k < l.length by omega)), Bool.and_eq_true, okIn_iff, decide_eq_true_eq]
    exact ⟨hu, List.pairwise_iff_getElem.1 hp k (k + 1) (by omega) hk' (by omega)⟩
def bump1 (s : List Int) (u : Int) : List Int := match s[u.toNat]? with | some a => s.set u.toNat (w64 (a + 1)) | none => s
theorem bumped_eq (hs s : List Int) : bumped hs s = hs.foldl bump1 s := by
  have key : ∀ (suf pre : List Int) (s : List Int), hs = pre ++ suf → (List.range' pre.length suf.length).foldl (fun s k => bump hs k s) s = suf.foldl bump1 s := by
    intro suf
    induction suf with
    | nil => intro pre s _; rfl
    | cons a suf ih =>
      intro pre s e
      rw [List.length_cons, List.range'_succ, List.foldl_cons, List.foldl_cons]
      have := ih (pre ++ [a]) (bump1 s a) (by rw [e]; simp)
      rw [List.length_append, List.length_singleton] at this
      rw [show bump hs pre.length s = bump1 s a by unfold bump bump1; rw [e, at_mid]; rfl]
      exact this
  unfold bumped
  have := key hs [] s rfl
  rw [List.range_eq_range']
  simpa using this
theorem bump1_fold (c : Int) (hc : c ≤ 1000) : ∀ (hs s : List Int), hs.Pairwise (· < ·) → (∀ u ∈ hs, 0 ≤ u) → (∀ (j : Nat) (v : Int), s[j]? = some v → 0 ≤ v ∧ v ≤ c + 1) → (∀ u ∈ hs, ∀ v : Int, s[u.toNat]? = some v → v ≤ c) →
    ∀ (j : Nat) (v : Int), (hs.foldl bump1 s)[j]? = some v → 0 ≤ v ∧ v ≤ c + 1 := by
  intro hs
  induction hs with
  | nil => intro s _ _ h _ j v hj; exact h j v hj
  | cons a hs ih =>
    intro s hp hn h h2
    rw [List.pairwise_cons] at hp
    rw [List.foldl_cons]
    have ha := hn a (by simp)
    refine ih (bump1 s a) hp.2 (fun u hu => hn u (by simp [hu])) (fun j v hj => ?_) (fun u hu v hv => ?_)
    · unfold bump1 at hj
      cases ea : s[a.toNat]? with
      | none => rw [ea] at hj; exact h j v hj
      | some w =>
        rw [ea] at hj
        dsimp only at hj
        have h3 := h2 a (by simp) w ea
        have h4 := h _ _ ea
        by_cases e : j = a.toNat
        · subst e
          have hlt : a.toNat < s.length := (List.getElem?_eq_some_iff.1 ea).1
          rw [List.getElem?_set_self hlt] at hj
          have := Option.some.inj hj
          rw [w64_eq (by omega) (by omega)] at this
          omega
        · rw [List.getElem?_set_ne (Ne.symm e)] at hj
          exact h j v hj
    · have hau := hp.1 u hu
      have hu0 := hn u (by simp [hu])
      unfold bump1 at hv
      cases ea : s[a.toNat]? with
      | none => rw [ea] at hv; exact h2 u (by simp [hu]) v hv
      | some w =>
        rw [ea] at hv
        dsimp only at hv
        rw [List.getElem?_set_ne (by omega)] at hv
        exact h2 u (by simp [hu]) v hv
structure MarchInv (x : MarchT) : Prop where
  ok : okMarch x = true
  ls : lensM x
  l1 : x.2.2.1.length ≤ 12
  l2 : x.2.2.2.length ≤ 12
theorem inv_of {x : MarchT} (h : lensOk x.1) (hm : okMarch x = true) : MarchInv x := by
  have hr := march_rises hm
  have hm' := hm
  unfold okMarch at hm'
  simp only [Bool.and_eq_true, decide_eq_true_eq] at hm'
  obtain ⟨⟨⟨⟨a1, a2⟩, a3⟩, a4⟩, a5⟩ := hm'
  obtain ⟨c, hc, he, hl, hu⟩ := firstLen_of h a1
  have := rise_len (pair_of (rises_lt hr)) (rises_in hr) (by omega)
  exact ⟨hm, ⟨h, by omega, by omega⟩, by omega, by omega⟩
theorem beat_inv {x : MarchT} (h : MarchInv x) (hb : (beatAns x).2 = true) : MarchInv (beatAns x).1 := by
  unfold beatAns at hb ⊢
  rw [h.ok, Bool.true_and] at hb ⊢
  by_cases hc : x.2.1 < 1000
  · rw [if_pos (by simpa using hc)]
    refine inv_of h.ls.1 ?_
    have hm := h.ok
    unfold okMarch at hm ⊢
    simp only [Bool.and_eq_true, decide_eq_true_eq, okIn_iff, allIn, List.all_eq_true] at hm ⊢
    obtain ⟨⟨⟨⟨a1, a2⟩, a3⟩, a4⟩, a5⟩ := hm
    refine ⟨⟨⟨⟨a1, by omega, by omega⟩, a3⟩, by rw [bumped_len]; exact a4⟩, fun v hv => ?_⟩
    obtain ⟨j, hj⟩ := List.getElem?_of_mem hv
    rw [bumped_eq] at hj
    exact bump1_fold x.2.1 (by omega) x.2.2.1 x.2.2.2 (pair_of (rises_lt a3)) (fun u hu => (rises_in a3 u hu).1) (fun j v hj => by have := a5 v (List.mem_of_getElem? hj); omega) (fun u _ v hv => (a5 v (List.mem_of_getElem? hv)).2) j v hj
  · rw [if_neg (by simpa using hc)] at hb; simp at hb
theorem halt_inv {x : MarchT} {i : Int} (h : MarchInv x) (hb : (haltAns x i).2 = true) : MarchInv (haltAns x i).1 := by
  unfold haltAns at hb ⊢
  rw [h.ok, Bool.true_and] at hb ⊢
  cases hi : okIn i 0 ((x.2.2.2.length : Int) - 1) with
  | false => rw [hi] at hb; simp at hb
  | true =>
    cases hh : x.2.2.1.any (· == i) with
    | true => rw [hi, hh] at hb; simp at hb
    | false =>
      rw [Bool.not_false, Bool.and_self, if_pos rfl]
      obtain ⟨hn, hp, hl⟩ := halt_facts h.ls h.ok hi hh
      have hs := split_of hp hn
      refine inv_of h.ls.1 ?_
      have hm := h.ok
      have hbe := march_behind h.ls h.ok
      unfold okMarch at hm ⊢
      rw [okIn_iff] at hi
      simp only [Bool.and_eq_true] at hm ⊢
      refine ⟨⟨⟨hm.1.1.1, rises_of ?_ fun u hu => ?_⟩, hm.1.2⟩, hm.2⟩
      · unfold putIn
        rw [List.pairwise_append]
        refine ⟨hp.sublist (List.takeWhile_sublist _), List.pairwise_cons.2 ⟨hs.2, hp.sublist (List.dropWhile_sublist _)⟩, fun a ha b hb => ?_⟩
        have := hs.1 a ha
        rcases List.mem_cons.1 hb with rfl | hb
        · exact this
        · have := hs.2 b hb; omega
      · have hr := rises_in hm.1.1.2
        unfold putIn at hu
        rcases List.mem_append.1 hu with hu | hu
        · exact hr u ((List.takeWhile_sublist _).subset hu)
        · rcases List.mem_cons.1 hu with rfl | hu
          · omega
          · exact hr u ((List.dropWhile_sublist _).subset hu)
theorem go_inv {x : MarchT} {i : Int} (h : MarchInv x) (hb : (goAns x i).2 = true) : MarchInv (goAns x i).1 := by
  unfold goAns at hb ⊢
  rw [h.ok, Bool.true_and] at hb ⊢
  cases hi : (okIn i 0 ((x.2.2.2.length : Int) - 1) && x.2.2.1.any (· == i)) with
  | false => rw [hi] at hb; simp at hb
  | true =>
    rw [if_pos rfl]
    refine inv_of h.ls.1 ?_
    have hm := h.ok
    unfold okMarch at hm ⊢
    simp only [Bool.and_eq_true] at hm ⊢
    exact ⟨⟨⟨hm.1.1.1, rises_of ((pair_of (rises_lt hm.1.1.2)).sublist List.filter_sublist) fun u hu => rises_in hm.1.1.2 u (List.filter_sublist.subset hu)⟩, hm.1.2⟩, hm.2⟩
def stepAns (x : MarchT) (b : Int × Int) : MarchT × Bool := if b.1 = 1 then (if b.2 = 0 then beatAns x else (noMarch, false)) else if b.1 = 2 then haltAns x b.2 else if b.1 = 3 then goAns x b.2 else (noMarch, false)
theorem step_inv {x : MarchT} {b : Int × Int} (h : MarchInv x) (hb : (stepAns x b).2 = true) : MarchInv (stepAns x b).1 := by
  unfold stepAns at hb ⊢
  split
  · rename_i h1
    rw [if_pos h1] at hb
    split
    · rename_i h2
      rw [if_pos h2] at hb
      exact beat_inv h hb
    · rename_i h2
      rw [if_neg h2] at hb; simp at hb
  · rename_i h1
    rw [if_neg h1] at hb
    split
    · rename_i h2
      rw [if_pos h2] at hb
      exact halt_inv h hb
    · rename_i h2
      rw [if_neg h2] at hb
      split
      · rename_i h3
        rw [if_pos h3] at hb
        exact go_inv h hb
      · rename_i h3
        rw [if_neg h3] at hb; simp at hb
theorem asked_step (x : MarchT) (b : Int × Int) (h : MarchInv x) : F_spec_mnAsked x b = F_spec_mnStep x b := by
  unfold F_spec_mnAsked
  rw [spec_mnGood x h.ls.1 h.ls.2.1 h.ls.2.2, Option.bind_some, h.ok]
  simp only [Bool.not_true, Bool.false_eq_true, if_false]
  cases F_spec_mnStep x b <;> rfl
theorem bind_id {α : Type} (o : Option α) : (Option.bind o fun u => some u) = o := by cases o <;> rfl
theorem spec_step (x : MarchT) (b : Int × Int) (h : MarchInv x) : F_spec_mnStep x b = some (stepAns x b) := by
  have q1 : x.2.2.1.length ≤ 1048576 := by have := h.l1; omega
  have q2 : x.2.2.2.length ≤ 1048576 := by have := h.l2; omega
  have s1 := asked_BeatOnce x h.ls q1 q2
  rw [bind_id, asked_step x _ h] at s1
  have s2 : ∀ i, F_spec_mnStep x (2, i) = some (haltAns x i) := fun i => by
    have := asked_Halt x i h.ls q1 q2
    rwa [bind_id, asked_step x _ h] at this
  have s3 : ∀ i, F_spec_mnStep x (3, i) = some (goAns x i) := fun i => by
    have := asked_GoOn x i h.ls q1 q2
    rwa [bind_id, asked_step x _ h] at this
  obtain ⟨k, i⟩ := b
  unfold stepAns
  dsimp only
  by_cases k2 : k = 2
  · subst k2; rw [s2 i]; simp
  · by_cases k3 : k = 3
    · subst k3; rw [s3 i]; simp
    · by_cases k1 : k = 1 ∧ i = 0
      · obtain ⟨rfl, rfl⟩ := k1; rw [s1]; simp
      · have hb := march_behind h.ls h.ok
        have f := facts hb.2.2.1
        unfold F_spec_mnStep jK1 jK3
        dsimp only
        rw [w64_eq (by omega) (by omega), spec_l1In, Option.bind_some, spec_mnOwn x f q1 q2, Option.bind_some, spec_l1Has _ _ h.ls.2.1, Option.bind_some]
        by_cases e1 : k = 1
        · have e2 : ¬ i = 0 := fun e => k1 ⟨e1, e⟩
          subst e1
          simp [e2]
        · simp [e1, k2, k3]
theorem impl_step (x : MarchT) (b : Int × Int) (h : MarchInv x) : F_impl_doBeat x b = some (stepAns x b) := by
  have q1 : x.2.2.1.length ≤ 1048576 := by have := h.l1; omega
  have q2 : x.2.2.2.length ≤ 1048576 := by have := h.l2; omega
  obtain ⟨k, i⟩ := b
  unfold F_impl_doBeat stepAns jK1
  dsimp only
  rw [impl_BeatOnce x h.ls q1 q2, Option.bind_some, impl_HaltPerformer x i h.ls q1 q2, Option.bind_some, impl_GoOn x i h.ls q1 q2, Option.bind_some]
  by_cases k1 : k = 1
  · subst k1
    by_cases e : i = 0 <;> simp [e]
  · simp [k1]
    by_cases k2 : k = 2
    · simp [k2]
    · by_cases k3 : k = 3 <;> simp [k2, k3]
def runs : MarchT → List (Int × Int) → Nat → MarchT × Int × Bool
  | x, [], k => (x, (k : Int), true)
  | x, b :: bs, k => if (stepAns x b).2 = true then runs (stepAns x b).1 bs (k + 1) else (x, (k : Int), true)
theorem runs_inv : ∀ (l : List (Int × Int)) (x : MarchT) (k : Nat), MarchInv x → MarchInv (runs x l k).1 := by
  intro l
  induction l with
  | nil => intro x k h; exact h
  | cons b bs ih =>
    intro x k h
    unfold runs
    split
    · rename_i hb; exact ih _ _ (step_inv h hb)
    · exact h
theorem run_loop (F : Nat → List (List (Int × Int)) → List Int → Int → Int → Int → List Int → List Int → Int → Option (MarchT × Int × Bool)) (g : MarchT → Int × Int → Option (MarchT × Bool)) (l : List (Int × Int)) (hg : ∀ x b, MarchInv x → g x b = some (stepAns x b)) (hl : l.length < 4611686018427387904)
    (hst : ∀ m a b c d e f h y, F (m + 1) a b c d e f h y = if (decide (y < (List.length l : Int))) = true then Option.bind (idx l y) fun u => Option.bind (g ((a, b, c, d), e, f, h) u) fun v => (if (!v.2) = true then some (((a, b, c, d), e, f, h), y, true) else F m v.1.1.1 v.1.1.2.1 v.1.1.2.2.1 v.1.1.2.2.2 v.1.2.1 v.1.2.2.1 v.1.2.2.2 (w64 (y + 1))) else some (((a, b, c, d), e, f, h), (List.length l : Int), true))
    (x : MarchT) (hx : MarchInv x) : F FU x.1.1 x.1.2.1 x.1.2.2.1 x.1.2.2.2 x.2.1 x.2.2.1 x.2.2.2 0 = some (runs x l 0) := by
  have key : ∀ (d k m : Nat) (x : MarchT), l.length - k = d → k ≤ l.length → d < m → MarchInv x → F m x.1.1 x.1.2.1 x.1.2.2.1 x.1.2.2.2 x.2.1 x.2.2.1 x.2.2.2 (k : Int) = some (runs x (l.drop k) k) := by
    intro d
    induction d with
    | zero =>
      intro k m x hd hk hm hx
      have : k = l.length := by omega
      subst this
      cases m with
      | zero => omega
      | succ m => rw [hst, if_neg (by simp), List.drop_length]; rfl
    | succ d ih =>
      intro k m x hd hk hm hx
      cases m with
      | zero => omega
      | succ m =>
        have hk' : k < l.length := by omega
        rw [hst, if_pos (by simp; omega), idx_lt hk', Option.bind_some, show ((x.1.1, x.1.2.1, x.1.2.2.1, x.1.2.2.2), x.2.1, x.2.2.1, x.2.2.2) = x from rfl, hg x _ hx, Option.bind_some, List.drop_eq_getElem_cons hk', w64_succ (by omega)]
        rw [runs]
        by_cases hb : (stepAns x l[k]).2 = true
        · rw [if_pos hb, if_neg (by simp [hb]), ih (k + 1) m _ (by omega) (by omega) (by omega) (step_inv hx hb)]
        · rw [if_neg hb, if_pos (by simpa using hb)]
  have := key l.length 0 FU x rfl (by omega) (FU_gt hl) hx
  simpa using this
def runAns (x : MarchT) (l : List (Int × Int)) : MarchT × Int × Bool := if okMarch x && decide (l.length ≤ 100) then runs x l 0 else (noMarch, 0, false)
theorem spec_RunBeats (x : MarchT) (l : List (Int × Int)) (h : lensM x) (hl : l.length ≤ 1048576) : F_spec_RunBeats x l = some (runAns x l) := by
  unfold F_spec_RunBeats runAns jK1
  dsimp only
  rw [spec_mnGood x h.1 h.2.1 h.2.2, Option.bind_some]
  cases hm : okMarch x with
  | false => simp
  | true =>
    have hi := inv_of h.1 hm
    by_cases hc : l.length ≤ 100
    · have hb := march_behind h hm
      rw [if_neg (by simp), if_neg (by simp; omega), spec_mnOwn x (facts hb.2.2.1) (by have := hi.l1; omega) (by have := hi.l2; omega), Option.bind_some, run_loop (F_spec_RunBeats_L1 l) F_spec_mnStep l spec_step (by omega) (fun m a b c d e f h y => by rw [F_spec_RunBeats_L1]) x hi]
      simp [hc]
    · rw [if_neg (by simp), if_pos (by simp; omega)]
      simp [hc]
theorem impl_RunBeats (x : MarchT) (l : List (Int × Int)) (h : lensM x) (hl : l.length ≤ 1048576) : F_impl_RunBeats x l = some (runAns x l) := by
  unfold F_impl_RunBeats runAns jK1
  dsimp only
  rw [impl_IsMarch x h.1 h.2.1 h.2.2, Option.bind_some]
  cases hm : okMarch x with
  | false => simp
  | true =>
    have hi := inv_of h.1 hm
    by_cases hc : l.length ≤ 100
    · have hb := march_behind h hm
      rw [if_neg (by simp), if_neg (by simp; omega), impl_copyMarch x (facts hb.2.2.1) (by have := hi.l1; omega) (by have := hi.l2; omega), Option.bind_some, run_loop (F_impl_RunBeats_L1 l) F_impl_doBeat l impl_step (by omega) (fun m a b c d e f h y => by rw [F_impl_RunBeats_L1]) x hi]
      simp [hc]
    · rw [if_neg (by simp), if_pos (by simp; omega)]
      simp [hc]
theorem runAns_ok (x : MarchT) (l : List (Int × Int)) (h : lensM x) : ((runAns x l).1 = noMarch) ∨ MarchInv (runAns x l).1 := by
  unfold runAns
  cases hm : okMarch x with
  | false => left; simp
  | true =>
    by_cases hc : l.length ≤ 100
    · right; simp only [hc, decide_true, Bool.and_self, if_true]; exact runs_inv l x 0 (inv_of h.1 hm)
    · left; simp [hc]
end Go.Proofs.Ytcndhhjolnebdaa
