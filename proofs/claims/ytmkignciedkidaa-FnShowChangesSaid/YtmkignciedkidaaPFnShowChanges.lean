/-
  THE LAW FnShowChanges, PLAIN: it answers true.
-/
import Derived.Test.YtmkignciedkidaaPDrawShow
import Derived.Test.YtmkignciedkidaaPSamep
import Derived.Test.YtmkignciedkidaaPDrop
import Derived.Test.YtmkignciedkidaaPTot2
import Derived.Test.YtmkignciedkidaaPClose
set_option linter.unusedSimpArgs false
set_option linter.unusedVariables false
namespace Go.Proofs.Ytmkignciedkidaa
open Go
theorem sum_take_drop (l : List Int) (k : Nat) : (l.take k).sum + (l.drop k).sum = l.sum := by rw [← List.sum_append, List.take_append_drop]
theorem sum_nonneg {l : List Int} (h : ∀ u ∈ l, 1 ≤ u) : 0 ≤ l.sum := by
  induction l with
  | nil => simp
  | cons u l ih =>
    have := h u (by simp)
    have := ih fun v hv => h v (by simp [hv])
    rw [List.sum_cons]
    omega
theorem mid_sum (l : List Int) (q : Nat) (h : q + 1 < l.length) (a b : Int) (ha : l[q]? = some a) (hb : l[q + 1]? = some b) : ((l.set q (a + b)).take (q + 1) ++ (l.set q (a + b)).drop (q + 1 + 1)).sum = l.sum := by
  have ea : l[q] = a := by rw [List.getElem?_eq_getElem (by omega)] at ha; exact Option.some.inj ha
  have eb : l[q + 1] = b := by rw [List.getElem?_eq_getElem (by omega)] at hb; exact Option.some.inj hb
  have hd : l.drop q = a :: b :: l.drop (q + 1 + 1) := by
    rw [List.drop_eq_getElem_cons (by omega), List.drop_eq_getElem_cons (by omega), ea, eb]
  have ht : (l.set q (a + b)).take (q + 1) = l.take q ++ [a + b] := by
    rw [List.take_succ_eq_append_getElem (by simp; omega), List.take_set_of_le (by omega)]
    simp
  have hdd : (l.set q (a + b)).drop (q + 1 + 1) = l.drop (q + 1 + 1) := List.drop_set_of_lt (by omega)
  rw [ht, hdd, ← sum_take_drop l q, hd]
  simp only [List.sum_append, List.sum_cons, List.sum_nil]
  omega
/-- A dropped chart's counts: never more; the same, where the chart lies between. -/
theorem drop_sum (l : List Int) (p n : Nat) (h : ∀ u ∈ l, 1 ≤ u ∧ u ≤ 64) (hn : n = l.length) (hp : p ≤ n) : (dropCounts l p n).sum ≤ l.sum ∧ (0 < p → p < n → (dropCounts l p n).sum = l.sum) := by
  unfold dropCounts
  split
  · rename_i h0
    refine ⟨?_, fun h => by omega⟩
    have := sum_take_drop l 1
    have := sum_nonneg (l := l.take 1) fun u hu => (h u (List.mem_of_mem_take hu)).1
    omega
  · split
    · refine ⟨?_, fun _ h => by omega⟩
      have := sum_take_drop l (p - 1)
      have := sum_nonneg (l := l.drop (p - 1)) fun u hu => (h u (List.mem_of_mem_drop hu)).1
      omega
    · rename_i h0 h1
      have e1 : l[p - 1]? = some l[p - 1] := List.getElem?_eq_getElem (by omega)
      have e2 : l[p]? = some l[p] := List.getElem?_eq_getElem (by omega)
      have b1 := h l[p - 1] (List.getElem_mem _)
      have b2 := h l[p] (List.getElem_mem _)
      rw [e1, e2, Option.getD_some, Option.getD_some, w64_eq (by omega) (by omega)]
      have hs : ((l.set (p - 1) (l[p - 1] + l[p])).take p ++ (l.set (p - 1) (l[p - 1] + l[p])).drop (p + 1)).sum = l.sum := by
        have := mid_sum l (p - 1) (by omega) l[p - 1] l[p] e1 (by rw [show p - 1 + 1 = p by omega]; exact e2)
        rwa [show p - 1 + 1 = p by omega] at this
      exact ⟨by rw [hs]; exact Int.le_refl _, fun _ _ => hs⟩
theorem ifShow_some {y : ShowT} (h : (ifShow y).2 = true) : okShow y = true ∧ (ifShow y).1 = y := by
  unfold ifShow at h ⊢
  cases ho : okShow y with
  | true => simp
  | false => rw [ho] at h; simp at h
/-! added charts are dropped again -/
theorem add_drop {x : ShowT} {c : List (Int × Int)} {n : Int} (h : (addChartAns x c n).2 = true) : okShow x = true ∧ okShow (longer x c n) = true ∧ (addChartAns x c n).1 = longer x c n ∧ dropAns (longer x c n) (x.1.length : Int) = (x, true) := by
  unfold addChartAns at h ⊢
  cases ho : okShow x with
  | false => rw [ho] at h; simp at h
  | true =>
    rw [ho, if_pos rfl] at h
    obtain ⟨h1, h2⟩ := ifShow_some h
    have f := facts ho
    have nc := f.nc
    have n0 := f.n0
    refine ⟨rfl, h1, by rw [if_pos rfl]; exact h2, ?_⟩
    have hl : (longer x c n).1.length = x.1.length + 1 := by unfold longer; simp
    have hin : okIn (x.1.length : Int) 0 (((longer x c n).1.length : Int) - 1) = true := by rw [okIn_iff, hl]; omega
    have hd : dropped (longer x c n) x.1.length = x := by
      unfold dropped dropCounts longer
      rw [if_neg (by omega), if_pos (by simp)]
      simp only [List.take_left', List.length_append, List.length_singleton]
      rw [List.drop_eq_nil_of_le (by simp), List.append_nil, List.take_left' (by omega)]
    unfold dropAns
    rw [h1, hin, Int.toNat_natCast, hd]
    unfold ifShow
    rw [ho]
    rfl
/-! stretched parts -/
theorem moves_stretched (x : ShowT) (p : Nat) (n : Int) (hp : p < x.2.1.length) : movesOf (stretched x (p : Int) n) p = (movesOf x p).map fun u => (u.1, u.2.1, n) := by
  unfold movesOf
  rw [List.map_map]
  apply List.map_congr_left
  intro i _
  have : countsAt (stretched x (p : Int) n) p = n := by
    unfold countsAt stretched seti
    simp [hp]
  rw [this]
  rfl
theorem stay_stretched (ms : List MoveT) (n least : Int) (i k : Nat) : stayAt (ms.map fun u => (u.1, u.2.1, n)) least i k = stayAt ms least i k := by
  unfold stayAt
  rw [List.getElem?_map, List.getElem?_map]
  cases ms[i]? with
  | none => rfl
  | some u =>
    cases ms[k]? with
    | none => rfl
    | some v => rfl
theorem close_stretched (ms : List MoveT) (n least : Int) : closeOf (ms.map fun u => (u.1, u.2.1, n)) least = closeOf ms least := by
  unfold closeOf closeRow
  rw [List.length_map]
  simp only [stay_stretched]
theorem wide_stretched {x : ShowT} (f : ShowFacts x) (hst : 1 ≤ x.2.2.2 ∧ x.2.2.2 ≤ 24) {p : Nat} {n : Int} (hp : p < x.2.1.length) (hn : 1 ≤ n ∧ n ≤ 64) (hle : countsAt x p ≤ n) {k : Nat} (h : wideAt (stretched x (p : Int) n) p k = true) : wideAt x p k = true := by
  unfold wideAt at h ⊢
  rw [moves_stretched x p n hp, List.getElem?_map] at h
  cases hu : (movesOf x p)[k]? with
  | none => rw [hu] at h; simp at h
  | some u =>
    rw [hu] at h
    simp only [Option.map_some, Bool.not_eq_true'] at h
    simp only [Bool.not_eq_true']
    have hmem := List.mem_of_getElem? hu
    have hc := moves_count f hp hmem
    have huc : u.2.2 = countsAt x p := by
      unfold movesOf at hmem
      rw [List.mem_map] at hmem
      obtain ⟨i, _, rfl⟩ := hmem
      rfl
    rw [within_iff (u := (u.1, u.2.1, n)) hn (by show 0 ≤ x.2.2.2 ∧ x.2.2.2 ≤ 25; omega), decide_eq_false_iff_not] at h
    rw [within_iff hc (by omega), decide_eq_false_iff_not]
    intro hq
    apply h
    show sqM u ≤ x.2.2.2 * x.2.2.2 * n * n
    have h0 : 0 ≤ x.2.2.2 * x.2.2.2 := Int.mul_nonneg (by omega) (by omega)
    have h2 : x.2.2.2 * x.2.2.2 * u.2.2 ≤ x.2.2.2 * x.2.2.2 * n := Int.mul_le_mul_of_nonneg_left (by omega) h0
    have h3 : 0 ≤ x.2.2.2 * x.2.2.2 * n := Int.mul_nonneg h0 (by omega)
    have h4 : x.2.2.2 * x.2.2.2 * u.2.2 * u.2.2 ≤ x.2.2.2 * x.2.2.2 * n * u.2.2 := Int.mul_le_mul_of_nonneg_right h2 (by omega)
    have h5 : x.2.2.2 * x.2.2.2 * n * u.2.2 ≤ x.2.2.2 * x.2.2.2 * n * n := Int.mul_le_mul_of_nonneg_left (by omega) h3
    omega
theorem stretch_some {x : ShowT} {p n : Int} (h : (stretchAns x p n).2 = true) : okPart x p = true ∧ okShow (stretched x p n) = true ∧ (stretchAns x p n).1 = stretched x p n := by
  unfold stretchAns at h ⊢
  cases ho : okPart x p with
  | false => rw [ho] at h; simp at h
  | true =>
    rw [ho, if_pos rfl] at h
    obtain ⟨h1, h2⟩ := ifShow_some h
    exact ⟨rfl, h1, by rw [if_pos rfl]; exact h2⟩
theorem drop_some {x : ShowT} {p : Int} (h : (dropAns x p).2 = true) : okShow x = true ∧ p = ((p.toNat : Nat) : Int) ∧ p.toNat < x.1.length ∧ okShow (dropped x p.toNat) = true ∧ (dropAns x p).1 = dropped x p.toNat := by
  unfold dropAns at h ⊢
  cases ho : (okShow x && okIn p 0 ((x.1.length : Int) - 1)) with
  | false => rw [ho] at h; simp at h
  | true =>
    rw [ho, if_pos rfl] at h
    obtain ⟨h1, h2⟩ := ifShow_some h
    obtain ⟨f, e1, e2⟩ := drop_of ho
    rw [Bool.and_eq_true] at ho
    exact ⟨ho.1, e1, e2, h1, by rw [if_pos rfl]; exact h2⟩
theorem ans_small {y : ShowT} : smallShow (ifShow y).1 := by
  rcases ifShow_ok y with h | h
  · exact small_ok h
  · rw [h]; exact small_nil
theorem P_laws_FnShowChanges (x0 x1 : List Int) (g0 : (allG inU8) x0) (g1 : (allG inU8) x1) : F_laws_FnShowChanges x0 x1 = some true := by
  refine Tot.of ?_
  unfold F_laws_FnShowChanges
  refine big_tot _ _ fun b => Tot.ite (fun _ => Tot.some rfl) fun _ => ?_
  refine Tot.bind (draw_AddShowChart x0 (Cu.begin g0)) fun u13 h13 => ?_
  have hc13 : u13.2.1.length ≤ 1048576 := by have := h13.2; omega
  refine Tot.bindE (impl_AddShowChart _ _ _ h13.1.lens hc13) (Tot.bindE (spec_AddShowChart _ _ _ h13.1.lens hc13) ?_)
  have sm1 : smallShow (addChartAns u13.1 u13.2.1 u13.2.2).1 := by unfold addChartAns; split; exact ans_small; exact small_nil
  refine Tot.j1 (fun y => y = false) (fun y hy => ?_) fun k hk => ?_
  rotate_left
  · rw [if_neg (by simp)]
    exact Tot.bindE (p_Show _ sm1) (hk _ rfl)
  subst hy
  simp only [Bool.false_eq_true, if_false]
  refine Tot.j0 ?_ fun k hk => ?_
  rotate_left
  · -- added charts are dropped again
    refine Tot.ite (fun hok => ?_) fun _ => hk
    obtain ⟨o1, o2, o3, o4⟩ := add_drop hok
    have hl : lensOk (longer u13.1 u13.2.1 u13.2.2) := (short_lens_of o2)
    rw [o3]
    refine Tot.bindE (impl_DropShowChart _ _ hl) ?_
    rw [o4]
    refine Tot.j1 (fun y => y = false) (fun y hy => by subst hy; simpa using hk) fun k2 hk2 => ?_
    rw [if_neg (by simp)]
    refine Tot.bindE (p_Show _ (small_ok o1)) ?_
    rw [if_neg (by simp)]
    refine Tot.bindE (impl_IsShow _ hl.1 hl.2.1 hl.2.2) (hk2 _ ?_)
    rw [o2]
    rfl
  refine Tot.bind (draw_DropShowChart x1 (Cu.begin g1)) fun u91 h91 => ?_
  refine Tot.bindE (impl_DropShowChart _ _ h91.lens) (Tot.bindE (spec_DropShowChart _ _ h91.lens) ?_)
  have sm2 : smallShow (dropAns u91.1 u91.2).1 := by unfold dropAns; split; exact ans_small; exact small_nil
  refine Tot.j2 (fun _ y => y = false) (fun l y hy => ?_) fun k hk => ?_
  rotate_left
  · rw [if_neg (by simp)]
    exact Tot.bindE (p_Show _ sm2) (hk _ _ rfl)
  subst hy
  simp only [Bool.false_eq_true, if_false]
  refine Tot.j0 ?_ fun k hk => ?_
  rotate_left
  · -- dropped charts
    refine Tot.ite (fun hok => ?_) fun _ => hk
    obtain ⟨o1, e1, e2, o2, o3⟩ := drop_some hok
    have f := facts o1
    have nc := f.nc
    have n1 := f.n1
    have fd := facts o2
    have hl : lensOk (dropped u91.1 u91.2.toNat) := short_lens_of o2
    have hdl : (dropped u91.1 u91.2.toNat).1.length = u91.1.1.length - 1 := by unfold dropped; simp; omega
    have hs := drop_sum u91.1.2.1 u91.2.toNat (u91.1.1.length - 1) f.cn (by omega) (by omega)
    have s1 := sumW_eq u91.1.2.1 f.cn (by omega)
    have s2 := sumW_eq (dropped u91.1 u91.2.toNat).2.1 fd.cn (by have := fd.nc; have := fd.n1; omega)
    have hd2 : (dropped u91.1 u91.2.toNat).2.1 = dropCounts u91.1.2.1 u91.2.toNat (u91.1.1.length - 1) := rfl
    rw [hd2] at s2
    rw [o3]
    refine Tot.bindE (impl_TotalCounts _ h91.lens) (Tot.bindE (impl_TotalCounts _ hl) ?_)
    unfold totalAns
    rw [o1, o2, if_pos rfl, if_pos rfl, hd2, s1.1, s2.1]
    refine Tot.j1 (fun y => y = false) (fun y hy => by subst hy; simpa using hk) fun k2 hk2 => ?_
    have fin : Tot (Option.bind (F_impl_IsShow (dropped u91.1 u91.2.toNat)) fun u => k2 (!u)) fun b => b = true := Tot.bindE (impl_IsShow _ hl.1 hl.2.1 hl.2.2) (hk2 _ (by rw [o2]; rfl))
    rw [if_neg (by simp), if_neg (by simp), if_neg (by rw [w64_eq (by omega) (by omega), hdl]; simp; omega), if_neg (by simp; exact hs.1)]
    refine Tot.ite (fun h1 => Tot.ite (fun h2 => ?_) fun _ => fin) fun _ => fin
    have h1' : 0 < u91.2 := by simpa using h1
    rw [w64_eq (by omega) (by omega)] at h2
    have h2' : u91.2 < (u91.1.1.length : Int) - 1 := by simpa using h2
    rw [if_neg (by rw [hs.2 (by omega) (by omega)]; simp)]
    exact fin
  refine Tot.bind (draw_StretchShow x1 (Cu.begin g1)) fun u170 h170 => ?_
  refine Tot.bindE (impl_StretchShow _ _ _ h170.lens) (Tot.bindE (spec_StretchShow _ _ _ h170.lens) ?_)
  have sm3 : smallShow (stretchAns u170.1 u170.2.1 u170.2.2).1 := by unfold stretchAns; split; exact ans_small; exact small_nil
  refine Tot.j1 (fun y => y = false) (fun y hy => ?_) fun k hk => ?_
  rotate_left
  · rw [if_neg (by simp)]
    exact Tot.bindE (p_Show _ sm3) (hk _ rfl)
  subst hy
  simp only [Bool.false_eq_true, if_false]
  refine Tot.j0 (Tot.some rfl) fun k hk => ?_
  refine Tot.ite (fun hok => ?_) fun _ => hk
  obtain ⟨o1, o2, o3⟩ := stretch_some hok
  obtain ⟨f, e1, hlt⟩ := part_of o1
  have hl : lensOk (stretched u170.1 u170.2.1 u170.2.2) := short_lens_of o2
  have fs := facts o2
  have nc := f.nc
  have n1 := f.n1
  have o4 : okPart (stretched u170.1 u170.2.1 u170.2.2) u170.2.1 = true := by
    unfold okPart at o1 ⊢
    rw [Bool.and_eq_true] at o1 ⊢
    refine ⟨o2, ?_⟩
    have : (stretched u170.1 u170.2.1 u170.2.2).2.1.length = u170.1.2.1.length := by unfold stretched; exact seti_len' _ _ _
    rw [this]; exact o1.2
  have hms := moves_stretched u170.1 u170.2.1.toNat u170.2.2 hlt
  rw [← e1] at hms
  have hcl : closeAns (stretched u170.1 u170.2.1 u170.2.2) u170.2.1 = closeAns u170.1 u170.2.1 := by
    unfold closeAns
    rw [o1, o4, if_pos rfl, if_pos rfl, hms, close_stretched]
    rfl
  have hlen := closeAns_len u170.1 u170.2.1
  have hcs : F_laws_sameLists (closeAns u170.1 u170.2.1).1 (closeAns u170.1 u170.2.1).1 = some true := p_Lists _ (by omega) fun u hu => by have := hlen.2 u hu; omega
  have hc2 : (closeAns u170.1 u170.2.1).2 = true := by unfold closeAns; rw [o1]; rfl
  have hcnt : (stretched u170.1 u170.2.1 u170.2.2).2.1[u170.2.1.toNat]? = some u170.2.2 := by unfold stretched seti; simp [hlt]
  have hn : 1 ≤ u170.2.2 ∧ u170.2.2 ≤ 64 := fs.cn _ (List.mem_of_getElem? hcnt)
  rw [o3]
  refine Tot.bindE (impl_ClosePairs _ _ hl) (Tot.bindE (impl_ClosePairs _ _ h170.lens) (Tot.bindE (spec_ClosePairs _ _ h170.lens) ?_))
  rw [hcl]
  refine Tot.j1 (fun y => y = false) (fun y hy => ?_) fun k2 hk2 => ?_
  rotate_left
  · refine Tot.bindE (v := u170.2.2) (by rw [idx_int (by omega)]; exact hcnt) ?_
    rw [hc2]
    simp only [bne_self_eq_false, Bool.not_true, Bool.false_eq_true, if_false]
    refine Tot.bindE hcs ?_
    simp only [Bool.not_true, Bool.false_eq_true, if_false]
    exact Tot.bindE hcs (hk2 _ rfl)
  subst hy
  simp only [Bool.false_eq_true, if_false]
  refine Tot.bindE (impl_WideSteps _ _ hl) (Tot.bindE (impl_WideSteps _ _ h170.lens) (Tot.bindE (spec_WideSteps _ _ h170.lens) ?_))
  have hwl := wideAns_len u170.1 u170.2.1
  have hwl2 := wideAns_len (stretched u170.1 u170.2.1 u170.2.2) u170.2.1
  have hw1 : wideAns u170.1 u170.2.1 = (widesOf u170.1 u170.2.1.toNat, true) := by unfold wideAns; rw [o1]; rfl
  have hw2 : wideAns (stretched u170.1 u170.2.1 u170.2.2) u170.2.1 = (widesOf (stretched u170.1 u170.2.1 u170.2.2) u170.2.1.toNat, true) := by unfold wideAns; rw [o4]; rfl
  rw [hw1] at hwl ⊢
  rw [hw2] at hwl2 ⊢
  refine Tot.j1 (fun y => y = false) (fun y hy => ?_) fun k2 hk2 => ?_
  rotate_left
  · simp only [Bool.not_true, Bool.false_eq_true, if_false]
    exact Tot.bindE (p_Ints _ (by have : (widesOf u170.1 u170.2.1.toNat).length ≤ 12 := hwl; omega)) (hk2 _ rfl)
  subst hy
  simp only [Bool.false_eq_true, if_false]
  obtain ⟨v, hv, hv2⟩ := hk
  rw [hv]
  have ecnt : u170.1.2.1[u170.2.1.toNat]? = some u170.1.2.1[u170.2.1.toNat] := List.getElem?_eq_getElem hlt
  have ecn2 : countsAt u170.1 u170.2.1.toNat = u170.1.2.1[u170.2.1.toNat] := by unfold countsAt; rw [ecnt]; rfl
  rw [loopL (F_laws_FnShowChanges_L1 (widesOf (stretched u170.1 u170.2.1 u170.2.2) u170.2.1.toNat, true) u170 (widesOf u170.1 u170.2.1.toNat, true) (some v)) (widesOf (stretched u170.1 u170.2.1 u170.2.2) u170.2.1.toNat) (fun _ => true) (some v) (some false) (by show _ < 4611686018427387904; dsimp only at hwl2; omega) (fun m k i hk hi => ?_) (fun m => ?_)]
  · exact ⟨v, by simp, hv2⟩
  · have hmem := List.mem_of_getElem? hi
    dsimp only at hwl hwl2
    rw [F_laws_FnShowChanges_L1, if_pos (by simp; omega), idx_nat]
    dsimp only
    rw [hi, Option.bind_some]
    unfold jK1
    dsimp only
    rw [idx_int (by omega), ecnt, Option.bind_some, p_In _ _ (by omega), Option.bind_some, w64_succ (by omega)]
    by_cases hq : u170.1.2.1[u170.2.1.toNat] ≤ u170.2.2
    · rw [if_pos (by simpa using hq)]
      unfold widesOf at hmem
      obtain ⟨j, rfl, hj, hw⟩ := filt_of_mem hmem
      have hst : 1 ≤ u170.1.2.2.2 ∧ u170.1.2.2.2 ≤ 24 := f.st
      have hw' : wideAt (stretched u170.1 ((u170.2.1.toNat : Nat) : Int) u170.2.2) u170.2.1.toNat j = true := by rw [← e1]; exact hw
      have := wide_stretched f hst hlt hn (by rw [ecn2]; exact hq) hw'
      have hj2 : j < (movesOf u170.1 u170.2.1.toNat).length := by rw [hms, List.length_map] at hj; exact hj
      have hin : ((j : Nat) : Int) ∈ widesOf u170.1 u170.2.1.toNat := (mem_filt hj2).2 this
      simp [hin]
    · rw [if_neg (by simpa using hq)]
      simp
  · rw [F_laws_FnShowChanges_L1, if_neg (by simp)]
end Go.Proofs.Ytmkignciedkidaa
