/-
  MARCHES, PLAIN: what the tests of marches answer.
-/
import Derived.Test.YtcndhhjolnebdaaPSame
set_option linter.unusedSimpArgs false
set_option linter.unusedVariables false
namespace Go.Proofs.Ytcndhhjolnebdaa
open Go
/-- At k the list lies in its bounds and has risen. -/
def riseAt (l : List Int) (lo hi : Int) (k : Nat) : Bool := match l[k]? with
  | some u => okIn u lo hi && (match l[k - 1]? with | some v => decide (k = 0) || decide (v < u) | none => true)
  | none => true
theorem riseAt_0 {l : List Int} {lo hi u : Int} (h : l[0]? = some u) : riseAt l lo hi 0 = okIn u lo hi := by
  unfold riseAt
  rw [h]
  simp [h]
theorem riseAt_s {l : List Int} {lo hi u v : Int} {k : Nat} (h : l[k + 1]? = some u) (h' : l[k]? = some v) : riseAt l lo hi (k + 1) = (okIn u lo hi && decide (v < u)) := by
  unfold riseAt
  rw [h]
  simp [h']
def rises (l : List Int) (lo hi : Int) : Bool := (List.range l.length).all (riseAt l lo hi)
theorem rise_loop (f : Nat → Int → Option Bool) (l : List Int) (lo hi : Int) (hn : l.length < 4611686018427387904)
    (hs : ∀ m y, f (m + 1) y = if (decide (y < (List.length l : Int))) = true then Option.bind (idx l y) fun u =>
      (if (!(okIn u lo hi)) = true then (if true = true then some false else f m (w64 (y + 1))) else (if (decide (0 < y)) = true then Option.bind (idx l (w64 (y - 1))) fun v => (if (decide (u ≤ v)) = true then some false else f m (w64 (y + 1))) else (if false = true then some false else f m (w64 (y + 1))))) else some true) :
    f FU 0 = some (rises l lo hi) := by
  rw [loopR f l.length (riseAt l lo hi) (some true) (some false) hn (fun m k hk => ?_) (fun m => ?_)]
  · unfold rises
    cases (List.range l.length).all (riseAt l lo hi) <;> simp
  · obtain ⟨u, hu⟩ : ∃ u, l[k]? = some u := ⟨_, List.getElem?_eq_getElem hk⟩
    rw [hs, if_pos (by simp; omega), idx_nat, hu, Option.bind_some, w64_succ (by omega)]
    cases k with
    | zero =>
      rw [riseAt_0 hu]
      cases okIn u lo hi <;> simp
    | succ j =>
      obtain ⟨v, hv⟩ : ∃ v, l[j]? = some v := ⟨_, List.getElem?_eq_getElem (by omega)⟩
      rw [riseAt_s hu hv]
      have e : w64 (((j + 1 : Nat) : Int) - 1) = (j : Int) := by rw [w64_eq (by omega) (by omega)]; omega
      rw [e, idx_nat, hv, Option.bind_some, if_pos (show decide (0 < ((j + 1 : Nat) : Int)) = true by simp)]
      cases okIn u lo hi with
      | false => simp
      | true =>
        by_cases hq : v < u
        · have : ¬ u ≤ v := by omega
          simp [hq, this]
        · have : u ≤ v := by omega
          simp [hq, this]
  · rw [hs, if_neg (by simp)]
theorem spec_l1Rising (l : List Int) (lo hi : Int) (hn : l.length < 4611686018427387904) : F_spec_l1Rising l lo hi = some (rises l lo hi) := by
  unfold F_spec_l1Rising
  refine rise_loop (F_spec_l1Rising_L1 l lo hi) l lo hi hn fun m y => ?_
  rw [F_spec_l1Rising_L1]
  simp only [jK1, spec_l1In, Option.bind_some]
theorem impl_arePerformers (l : List Int) (n : Int) (hn : l.length < 4611686018427387904) : F_impl_arePerformers l n = some (rises l 0 (w64 (n - 1))) := by
  unfold F_impl_arePerformers
  refine rise_loop (F_impl_arePerformers_L1 l n) l 0 (w64 (n - 1)) hn fun m y => ?_
  rw [F_impl_arePerformers_L1]
  simp only [jK1, impl_within, Option.bind_some]
def allIn (l : List Int) (lo hi : Int) : Bool := l.all fun u => okIn u lo hi
theorem spec_l1All' (l : List Int) (lo hi : Int) (hl : l.length < 4611686018427387904) : F_spec_l1All l lo hi = some (allIn l lo hi) := by
  unfold F_spec_l1All
  rw [loopL (F_spec_l1All_L1 l lo hi) l (fun u => okIn u lo hi) (some true) (some false) hl (fun m k x hk hx => ?_) (fun m => ?_)]
  · unfold allIn
    cases l.all (fun u => okIn u lo hi) <;> simp
  · rw [F_spec_l1All_L1, if_pos (by simp; omega), idx_nat, hx, Option.bind_some, spec_l1In, Option.bind_some, w64_succ (by omega)]
    cases okIn x lo hi <;> simp
  · rw [F_spec_l1All_L1, if_neg (by simp)]
abbrev MarchT := ShowT × Int × (List Int) × (List Int)
def firstLen (x : ShowT) : Nat := match x.1[0]? with | some c => c.length | none => 0
def okMarch (x : MarchT) : Bool := okShow x.1 && okIn x.2.1 0 1000 && rises x.2.2.1 0 ((firstLen x.1 : Int) - 1) && decide (x.2.2.2.length = firstLen x.1) && allIn x.2.2.2 0 x.2.1
theorem firstLen_of {x : ShowT} (h : lensOk x) (hs : okShow x = true) : ∃ c, x.1[0]? = some c ∧ c.length = firstLen x ∧ 1 ≤ firstLen x ∧ firstLen x ≤ 12 := by
  have f := facts hs
  have := f.n0
  obtain ⟨c, hc⟩ : ∃ c, x.1[0]? = some c := ⟨_, List.getElem?_eq_getElem (by omega)⟩
  have hl := f.cl c (List.mem_of_getElem? hc)
  have e : c.length = firstLen x := by unfold firstLen; rw [hc]
  exact ⟨c, hc, e, by omega, by omega⟩
theorem spec_mnGood (x : MarchT) (h : lensOk x.1) (h1 : x.2.2.1.length < 4611686018427387904) (h2 : x.2.2.2.length < 4611686018427387904) : F_spec_mnGood x = some (okMarch x) := by
  unfold F_spec_mnGood jK1 okMarch
  dsimp only
  rw [spec_swGood x.1 h.1 h.2.1 h.2.2, Option.bind_some, spec_l1In, Option.bind_some]
  cases hs : okShow x.1 with
  | false => simp
  | true =>
    obtain ⟨c, hc, he, hl, hu⟩ := firstLen_of h hs
    rw [idx_zero, hc, Option.bind_some, he, w64_eq (by omega) (by omega), spec_l1Rising _ _ _ h1, Option.bind_some, spec_l1All' _ _ _ h2, Option.bind_some]
    cases okIn x.2.1 0 1000 with
    | false => simp
    | true =>
      cases rises x.2.2.1 0 ((firstLen x.1 : Int) - 1) with
      | false => simp
      | true =>
        by_cases hq : x.2.2.2.length = firstLen x.1 <;> simp [hq]
        omega
theorem impl_IsMarch (x : MarchT) (h : lensOk x.1) (h1 : x.2.2.1.length < 4611686018427387904) (h2 : x.2.2.2.length < 4611686018427387904) : F_impl_IsMarch x = some (okMarch x) := by
  unfold F_impl_IsMarch jK1 okMarch
  dsimp only
  rw [impl_IsShow x.1 h.1 h.2.1 h.2.2, Option.bind_some, impl_within, Option.bind_some]
  have hin : F_impl_IsMarch_L1 x FU 0 = some (allIn x.2.2.2 0 x.2.1) := by
    rw [loopL (F_impl_IsMarch_L1 x) x.2.2.2 (fun u => okIn u 0 x.2.1) (some true) (some false) h2 (fun m k u hk hu => ?_) (fun m => ?_)]
    · unfold allIn
      cases x.2.2.2.all (fun u => okIn u 0 x.2.1) <;> simp
    · rw [F_impl_IsMarch_L1, if_pos (by simp; omega), idx_nat, hu, Option.bind_some, impl_within, Option.bind_some, w64_succ (by omega)]
      cases okIn u 0 x.2.1 <;> simp
    · rw [F_impl_IsMarch_L1, if_neg (by simp)]
  rw [hin]
  cases hs : okShow x.1 with
  | false => simp
  | true =>
    obtain ⟨c, hc, he, hl, hu⟩ := firstLen_of h hs
    rw [idx_zero, hc, Option.bind_some, Option.bind_some, he, impl_arePerformers _ _ h1, Option.bind_some, w64_eq (by omega) (by omega)]
    cases okIn x.2.1 0 1000 with
    | false => simp
    | true =>
      cases rises x.2.2.1 0 ((firstLen x.1 : Int) - 1) with
      | false => simp
      | true =>
        by_cases hq : x.2.2.2.length = firstLen x.1 <;> simp [hq]
        omega
end Go.Proofs.Ytcndhhjolnebdaa
