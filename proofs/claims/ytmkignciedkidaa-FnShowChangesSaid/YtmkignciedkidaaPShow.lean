/-
  SHOWS, PLAIN: what the program's and the reference's tests of spots, charts and shows answer.
-/
import Derived.Test.YtmkignciedkidaaPB
import Derived.Test.YtmkignciedkidaaF
set_option linter.unusedSimpArgs false
set_option linter.unusedVariables false
namespace Go.Proofs.Ytmkignciedkidaa
open Go
def okIn (a lo hi : Int) : Bool := decide (lo ≤ a) && decide (a ≤ hi)
theorem spec_l1In (a lo hi : Int) : F_spec_l1In a lo hi = some (okIn a lo hi) := by
  unfold F_spec_l1In jK1 okIn
  by_cases h : lo ≤ a <;> simp [h]
theorem impl_within (a lo hi : Int) : F_impl_within a lo hi = some (okIn a lo hi) := by
  unfold F_impl_within jK1 okIn
  by_cases h : lo ≤ a <;> simp [h]
def okSpot (s : Int × Int) : Bool := okIn s.1 0 1280 && okIn s.2 0 672
theorem spec_stGood (s : Int × Int) : F_spec_stGood s = some (okSpot s) := by
  unfold F_spec_stGood jK1 okSpot
  dsimp only
  rw [spec_l1In, Option.bind_some, spec_l1In]
  cases okIn s.1 0 1280 <;> simp
theorem impl_IsSpot (s : Int × Int) : F_impl_IsSpot s = some (okSpot s) := by
  unfold F_impl_IsSpot jK1 okSpot
  dsimp only
  rw [impl_within, Option.bind_some, impl_within]
  cases okIn s.1 0 1280 <;> simp
theorem eqv_Spot_eq (x y : Int × Int) : eqv_Spot x y = decide (x = y) := by
  obtain ⟨a, b⟩ := x
  obtain ⟨c, d⟩ := y
  simp [eqv_Spot]
  by_cases h1 : a = c <;> by_cases h2 : b = d <;> simp [h1, h2]
/-- The spot at k is a spot and none of those before it. -/
def newAt (l : List (Int × Int)) (k : Nat) : Bool := match l[k]? with
  | some s => okSpot s && (l.take k).all (fun u => !decide (s = u))
  | none => true
theorem newAt_of {l : List (Int × Int)} {k : Nat} {s : Int × Int} (h : l[k]? = some s) : newAt l k = (okSpot s && (l.take k).all (fun u => !decide (s = u))) := by
  unfold newAt
  rw [h]
def okChart (l : List (Int × Int)) : Bool := okIn (l.length : Int) 1 12 && (List.range l.length).all (newAt l)
theorem spec_chGood (l : List (Int × Int)) (hl : l.length < 4611686018427387904) : F_spec_chGood l = some (okChart l) := by
  unfold F_spec_chGood
  rw [loopR (F_spec_chGood_L1 l) l.length (newAt l) (some (okIn (l.length : Int) 1 12)) (some false) hl (fun m k hk => ?_) (fun m => ?_)]
  · unfold okChart
    cases (List.range l.length).all (newAt l) <;> simp
  · obtain ⟨s, hs⟩ : ∃ s, l[k]? = some s := ⟨_, List.getElem?_eq_getElem hk⟩
    rw [F_spec_chGood_L1, if_pos (by simp; omega), idx_nat, hs, Option.bind_some, spec_stGood, Option.bind_some, newAt_of hs]
    cases okSpot s with
    | false => simp
    | true =>
      rw [if_neg (by simp), sl_take l (by omega), Option.bind_some, Bool.true_and]
      have hlen : (l.take k).length = k := by simp; omega
      rw [loopL (F_spec_chGood_L2 (l.take k) s (F_spec_chGood_L1 l m) (k : Int)) (l.take k) (fun u => !decide (s = u)) (F_spec_chGood_L1 l m ((k + 1 : Nat) : Int)) (some false) (by omega) (fun m' j x hj hx => ?_) (fun m' => ?_)]
      · rw [F_spec_chGood_L2, if_pos (by simp; omega), idx_nat, hx, Option.bind_some, eqv_Spot_eq, w64_succ (by omega)]
        by_cases hq : s = x <;> simp [hq]
      · rw [F_spec_chGood_L2, if_neg (by simp), w64_succ (by omega)]
  · rw [F_spec_chGood_L1, if_neg (by simp), spec_l1In]
    rfl
theorem contains_Spot (l : List (Int × Int)) (s : Int × Int) (hl : l.length < 4611686018427387904) : F_slices_Contains_impl_Spot_impl_Spot l s = some (!l.all (fun u => !decide (s = u))) := by
  unfold F_slices_Contains_impl_Spot_impl_Spot F_slices_Index_impl_Spot_impl_Spot
  have key : ∀ d k m, l.length - k = d → k ≤ l.length → l.length - k < m → ∃ i, F_slices_Index_impl_Spot_impl_Spot_L1 l s m (k : Int) = some i ∧ decide (0 ≤ i) = !(l.drop k).all (fun u => !decide (s = u)) := by
    intro d
    induction d with
    | zero =>
      intro k m hd hk hm
      cases m with
      | zero => omega
      | succ m =>
        rw [F_slices_Index_impl_Spot_impl_Spot_L1, if_neg (by simp; omega)]
        exact ⟨-1, rfl, by rw [List.drop_eq_nil_of_le (by omega)]; simp⟩
    | succ d ih =>
      intro k m hd hk hm
      cases m with
      | zero => omega
      | succ m =>
        have hk' : k < l.length := by omega
        rw [F_slices_Index_impl_Spot_impl_Spot_L1, if_pos (by simp; omega), idx_lt hk', Option.bind_some, eqv_Spot_eq, w64_succ (by omega), List.drop_eq_getElem_cons hk', List.all_cons]
        by_cases hq : s = l[k]
        · exact ⟨k, by simp [hq], by simp [hq]⟩
        · rw [if_neg (by simp [hq])]
          obtain ⟨i, h1, h2⟩ := ih (k + 1) m (by omega) (by omega) (by omega)
          exact ⟨i, h1, by simp [hq, h2]⟩
  obtain ⟨i, h1, h2⟩ := key _ 0 FU rfl (by omega) (FU_gt (by omega))
  rw [show ((0 : Nat) : Int) = 0 from rfl] at h1
  rw [h1, Option.bind_some, h2]
  simp
theorem impl_IsChart (l : List (Int × Int)) (hl : l.length < 4611686018427387904) : F_impl_IsChart l = some (okChart l) := by
  unfold F_impl_IsChart okChart
  rw [impl_within, Option.bind_some]
  cases hi : okIn (l.length : Int) 1 12 with
  | false => simp
  | true =>
    rw [if_neg (by simp), loopR (F_impl_IsChart_L1 l) l.length (newAt l) (some true) (some false) hl (fun m k hk => ?_) (fun m => ?_)]
    · cases (List.range l.length).all (newAt l) <;> simp
    · obtain ⟨s, hs⟩ : ∃ s, l[k]? = some s := ⟨_, List.getElem?_eq_getElem hk⟩
      rw [F_impl_IsChart_L1, if_pos (by simp; omega), idx_nat, hs, Option.bind_some]
      unfold jK1
      dsimp only
      rw [newAt_of hs, impl_IsSpot, Option.bind_some]
      rw [sl_take l (by omega), Option.bind_some, contains_Spot _ _ (by simp; omega), Option.bind_some, w64_succ (by omega)]
      cases okSpot s with
      | false => simp
      | true => simp only [Bool.not_true, Bool.false_eq_true, if_false, Bool.true_and]; cases (List.take k l).all (fun u => !decide (s = u)) <;> simp
    · rw [F_impl_IsChart_L1, if_neg (by simp)]
def okCounts (l : List Int) : Bool := l.all fun u => okIn u 1 64
theorem spec_l1All (l : List Int) (hl : l.length < 4611686018427387904) : F_spec_l1All l 1 64 = some (okCounts l) := by
  unfold F_spec_l1All
  rw [loopL (F_spec_l1All_L1 l 1 64) l (fun u => okIn u 1 64) (some true) (some false) hl (fun m k x hk hx => ?_) (fun m => ?_)]
  · unfold okCounts
    cases l.all (fun u => okIn u 1 64) <;> simp
  · rw [F_spec_l1All_L1, if_pos (by simp; omega), idx_nat, hx, Option.bind_some, spec_l1In, Option.bind_some, w64_succ (by omega)]
    cases okIn x 1 64 <;> simp
  · rw [F_spec_l1All_L1, if_neg (by simp)]
theorem spec_apDistance (x : Int) : F_spec_apDistance x = some (okIn x 0 80) := by
  unfold F_spec_apDistance
  rw [spec_l1In]; rfl
theorem spec_mvStep (x : Int) : F_spec_mvStep x = some (okIn x 1 24) := by
  unfold F_spec_mvStep
  rw [spec_l1In]; rfl
theorem impl_isLeast (x : Int) : F_impl_isLeast x = some (okIn x 0 80) := by
  unfold F_impl_isLeast
  rw [impl_within]; rfl
/-- All charts are charts, as long as the first. -/
def sameLong (cs : List (List (Int × Int))) : Bool := cs.all fun c => okChart c && (match cs[0]? with | some d => decide (c.length = d.length) | none => true)
abbrev ShowT := (List (List (Int × Int))) × (List Int) × Int × Int
def okShow (x : ShowT) : Bool := okIn (x.1.length : Int) 2 8 && decide (x.2.1.length + 1 = x.1.length) && sameLong x.1 && okCounts x.2.1 && okIn x.2.2.1 0 80 && okIn x.2.2.2 1 24
theorem spec_swGood (x : ShowT) (h1 : x.1.length < 4611686018427387904) (h2 : ∀ c ∈ x.1, c.length < 4611686018427387904) (h3 : x.2.1.length < 4611686018427387904) : F_spec_swGood x = some (okShow x) := by
  unfold F_spec_swGood
  rw [loopL (F_spec_swGood_L1 x) x.1 (fun c => okChart c && (match x.1[0]? with | some d => decide (c.length = d.length) | none => true)) (some (okIn (x.1.length : Int) 2 8 && decide (x.2.1.length + 1 = x.1.length) && okCounts x.2.1 && okIn x.2.2.1 0 80 && okIn x.2.2.2 1 24)) (some false) h1 (fun m k c hk hc => ?_) (fun m => ?_)]
  · unfold okShow sameLong
    cases x.1.all (fun c => okChart c && (match x.1[0]? with | some d => decide (c.length = d.length) | none => true)) <;> simp
  · rw [F_spec_swGood_L1, if_pos (by simp; omega), idx_nat, hc, Option.bind_some]
    unfold jK1
    dsimp only
    rw [spec_chGood c (h2 c (List.mem_of_getElem? hc)), Option.bind_some, idx_zero, w64_succ (by omega)]
    have h0 : 0 < x.1.length := by omega
    rw [List.getElem?_eq_getElem h0]
    cases okChart c with
    | false => simp
    | true =>
      simp only [Bool.not_true, Bool.false_eq_true, if_false, Bool.true_and, Option.bind_some]
      by_cases hq : c.length = x.1[0].length <;> simp [hq]
      omega
  · rw [F_spec_swGood_L1, if_neg (by simp)]
    unfold jK1
    dsimp only
    rw [spec_l1In, Option.bind_some, spec_l1All _ h3, Option.bind_some, spec_apDistance, Option.bind_some, spec_mvStep, Option.bind_some]
    cases hA : okIn (x.1.length : Int) 2 8 with
    | false => simp
    | true =>
      have h8 : 2 ≤ x.1.length ∧ x.1.length ≤ 8 := by
        simp [okIn] at hA
        omega
      rw [w64_eq (by omega) (by omega)]
      by_cases hq : x.2.1.length + 1 = x.1.length
      · have hq' : ((x.2.1.length : Int) == (x.1.length : Int) - 1) = true := by simp; omega
        simp only [hq', hq, if_true, Bool.true_and, decide_true]
        cases okCounts x.2.1 <;> cases okIn x.2.2.1 0 80 <;> simp
      · have hq' : ((x.2.1.length : Int) == (x.1.length : Int) - 1) = false := by simp; omega
        simp [hq', hq]
theorem impl_areCharts (cs : List (List (Int × Int))) (ns : List Int) (h1 : cs.length < 4611686018427387904) (h2 : ∀ c ∈ cs, c.length < 4611686018427387904) (h3 : ns.length < 4611686018427387904) :
    F_impl_areCharts cs ns = some (okIn (cs.length : Int) 1 9 && decide (ns.length + 1 = cs.length) && sameLong cs && okCounts ns) := by
  unfold F_impl_areCharts jK1
  dsimp only
  rw [impl_within, Option.bind_some]
  have hw : w64 ((cs.length : Int) - 1) = (cs.length : Int) - 1 := w64_eq (by omega) (by omega)
  rw [hw]
  cases hA : okIn (cs.length : Int) 1 9 with
  | false => simp
  | true =>
    by_cases hq : ns.length + 1 = cs.length
    · have hq' : ((ns.length : Int) != (cs.length : Int) - 1) = false := by simp; omega
      simp only [hq', hq, Bool.not_true, Bool.false_eq_true, if_false, decide_true, Bool.true_and]
      have hin : F_impl_areCharts_L2 ns FU 0 = some (okCounts ns) := by
        rw [loopL (F_impl_areCharts_L2 ns) ns (fun u => okIn u 1 64) (some true) (some false) h3 (fun m k x hk hx => ?_) (fun m => ?_)]
        · unfold okCounts
          cases ns.all (fun u => okIn u 1 64) <;> simp
        · rw [F_impl_areCharts_L2, if_pos (by simp; omega), idx_nat, hx, Option.bind_some, impl_within, Option.bind_some, w64_succ (by omega)]
          cases okIn x 1 64 <;> simp
        · rw [F_impl_areCharts_L2, if_neg (by simp)]
      rw [loopL (F_impl_areCharts_L1 cs ns) cs (fun c => okChart c && (match cs[0]? with | some d => decide (c.length = d.length) | none => true)) (some (okCounts ns)) (some false) h1 (fun m k c hk hc => ?_) (fun m => ?_)]
      · unfold sameLong
        cases cs.all (fun c => okChart c && (match cs[0]? with | some d => decide (c.length = d.length) | none => true)) <;> simp
      · rw [F_impl_areCharts_L1, if_pos (by simp; omega), idx_nat, hc, Option.bind_some]
        unfold jK1
        dsimp only
        rw [impl_IsChart c (h2 c (List.mem_of_getElem? hc)), Option.bind_some, idx_zero, w64_succ (by omega)]
        have h0 : 0 < cs.length := by omega
        rw [List.getElem?_eq_getElem h0]
        cases okChart c with
        | false => simp
        | true =>
          simp only [Bool.not_true, Bool.false_eq_true, if_false, Bool.true_and, Option.bind_some]
          by_cases hq : c.length = cs[0].length <;> simp [hq]
          omega
      · rw [F_impl_areCharts_L1, if_neg (by simp), hin]
    · have hq' : ((ns.length : Int) != (cs.length : Int) - 1) = true := by simp; omega
      simp [hq', hq]
theorem impl_IsShow (x : ShowT) (h1 : x.1.length < 4611686018427387904) (h2 : ∀ c ∈ x.1, c.length < 4611686018427387904) (h3 : x.2.1.length < 4611686018427387904) : F_impl_IsShow x = some (okShow x) := by
  unfold F_impl_IsShow jK1
  dsimp only
  rw [impl_within, Option.bind_some, impl_areCharts _ _ h1 h2 h3, Option.bind_some, impl_isLeast, Option.bind_some, impl_within, Option.bind_some]
  unfold okShow
  cases hA : okIn (x.1.length : Int) 2 8 with
  | false => simp
  | true =>
    have hB : okIn (x.1.length : Int) 1 9 = true := by
      simp [okIn] at hA ⊢
      omega
    rw [hB]
    simp only [if_true, Bool.true_and]
    cases decide (x.2.1.length + 1 = x.1.length) <;> cases sameLong x.1 <;> cases okCounts x.2.1 <;> cases okIn x.2.2.1 0 80 <;> simp
end Go.Proofs.Ytmkignciedkidaa
