/-
  COPIES OF SHOWS, PLAIN; charts added, counts stretched.
-/
import Derived.Test.YtmkignciedkidaaPPart
import Derived.Test.YtmkignciedkidaaPCue
set_option linter.unusedSimpArgs false
set_option linter.unusedVariables false
namespace Go.Proofs.Ytmkignciedkidaa
open Go
theorem spec_chOwn (c : List (Int × Int)) (h : c.length ≤ 1048576) : F_spec_chOwn c = some c := by
  unfold F_spec_chOwn
  rw [app_ok (by simp; omega)]
  rfl
theorem spec_l1Own (c : List Int) (h : c.length ≤ 1048576) : F_spec_l1Own c = some c := by
  unfold F_spec_l1Own
  rw [app_ok (by simp; omega)]
  rfl
theorem impl_copyInts (c : List Int) (h : c.length ≤ 1048576) : F_impl_copyInts c = some c := by
  unfold F_impl_copyInts
  rw [app_ok (by simp; omega)]
  rfl
theorem spec_swOwn (x : ShowT) (f : ShowFacts x) : F_spec_swOwn x = some x := by
  have h1 := f.n1
  have h2 := f.nc
  unfold F_spec_swOwn jK3
  dsimp only
  rw [spec_l1Own _ (by omega), Option.bind_some, loopMapL (F_spec_swOwn_L1 x x.2.1 x.2.2.1 x.2.2.2) x.1 id (fun s => some (s, x.2.1, x.2.2.1, x.2.2.2)) (by omega) (fun m s k c hk hc hsl => ?_) (fun m s => ?_)]
  · simp
  · have hl := (f.cl c (List.mem_of_getElem? hc)).2
    rw [F_spec_swOwn_L1, if_pos (by simp; omega)]
    unfold jK1
    dsimp only
    rw [idx_nat, hc, Option.bind_some, spec_chOwn c (by omega), Option.bind_some, app_ok (by simp; omega), Option.bind_some, w64_succ (by omega)]
    rfl
  · rw [F_spec_swOwn_L1, if_neg (by simp)]
theorem impl_copyShow (x : ShowT) (f : ShowFacts x) : F_impl_copyShow x = some x := by
  have h1 := f.n1
  have h2 := f.nc
  unfold F_impl_copyShow jK4
  dsimp only
  rw [impl_copyInts _ (by omega), Option.bind_some, loopMapL (F_impl_copyShow_L1 x x.2.1 x.2.2.1 x.2.2.2) x.1 id (fun s => some (s, x.2.1, x.2.2.1, x.2.2.2)) (by omega) (fun m s k c hk hc hsl => ?_) (fun m s => ?_)]
  · simp
  · have hl := (f.cl c (List.mem_of_getElem? hc)).2
    rw [F_impl_copyShow_L1, if_pos (by simp; omega)]
    unfold jK1
    dsimp only
    rw [idx_nat, hc, Option.bind_some, app_ok (by simp; omega), Option.bind_some, List.nil_append, app_ok (by simp; omega), Option.bind_some, w64_succ (by omega)]
    rfl
  · rw [F_impl_copyShow_L1, if_neg (by simp)]
def ifShow (y : ShowT) : ShowT × Bool := if okShow y then (y, true) else (([], [], 0, 0), false)
theorem spec_swIf (y : ShowT) (h : lensOk y) : F_spec_swIf__take y = some (ifShow y) := by
  unfold F_spec_swIf__take ifShow
  rw [spec_swGood y h.1 h.2.1 h.2.2, Option.bind_some]
  cases okShow y <;> simp
theorem impl_asShow (y : ShowT) (h : lensOk y) : F_impl_asShow__take y = some (ifShow y) := by
  unfold F_impl_asShow__take ifShow
  rw [impl_IsShow y h.1 h.2.1 h.2.2, Option.bind_some]
  cases okShow y <;> simp
def stretched (x : ShowT) (p n : Int) : ShowT := (x.1, seti x.2.1 p n, x.2.2.1, x.2.2.2)
def stretchAns (x : ShowT) (p n : Int) : ShowT × Bool := if okPart x p then ifShow (stretched x p n) else (([], [], 0, 0), false)
theorem lens_stretched {x : ShowT} (h : lensOk x) (p n : Int) : lensOk (stretched x p n) := ⟨h.1, h.2.1, by unfold stretched seti; simpa using h.2.2⟩
theorem spec_StretchShow (x : ShowT) (p n : Int) (h : lensOk x) : F_spec_StretchShow x p n = some (stretchAns x p n) := by
  unfold F_spec_StretchShow stretchAns
  rw [spec_swHas x p h, Option.bind_some]
  cases hp : okPart x p with
  | false => simp
  | true =>
    obtain ⟨f, e, hlt⟩ := part_of hp
    simp only [Bool.not_true, Bool.false_eq_true, if_false, if_true]
    obtain ⟨u, hi⟩ : ∃ u, idx x.2.1 p = some u := ⟨x.2.1[p.toNat], by rw [idx_int (by omega)]; exact List.getElem?_eq_getElem hlt⟩
    have := spec_swIf _ (lens_stretched h p n)
    unfold stretched at this
    rw [spec_swOwn x f, Option.bind_some, hi, Option.bind_some, this]
    rfl
theorem impl_StretchShow (x : ShowT) (p n : Int) (h : lensOk x) : F_impl_StretchShow x p n = some (stretchAns x p n) := by
  unfold F_impl_StretchShow stretchAns
  rw [impl_isPart x p h, Option.bind_some]
  cases hp : okPart x p with
  | false => simp
  | true =>
    obtain ⟨f, e, hlt⟩ := part_of hp
    simp only [Bool.not_true, Bool.false_eq_true, if_false, if_true]
    obtain ⟨u, hi⟩ : ∃ u, idx x.2.1 p = some u := ⟨x.2.1[p.toNat], by rw [idx_int (by omega)]; exact List.getElem?_eq_getElem hlt⟩
    have := impl_asShow _ (lens_stretched h p n)
    unfold stretched at this
    rw [impl_copyShow x f, Option.bind_some, hi, Option.bind_some, this]
    rfl
def longer (x : ShowT) (c : List (Int × Int)) (n : Int) : ShowT := (x.1 ++ [c], x.2.1 ++ [n], x.2.2.1, x.2.2.2)
def addChartAns (x : ShowT) (c : List (Int × Int)) (n : Int) : ShowT × Bool := if okShow x then ifShow (longer x c n) else (([], [], 0, 0), false)
theorem lens_longer {x : ShowT} (f : ShowFacts x) {c : List (Int × Int)} (n : Int) (hc : c.length ≤ 1048576) : lensOk (longer x c n) := by
  have h1 := f.n1
  have h2 := f.nc
  refine ⟨by unfold longer; simp; omega, fun d hd => ?_, by unfold longer; simp; omega⟩
  unfold longer at hd
  simp only [List.mem_append, List.mem_singleton] at hd
  rcases hd with hd | rfl
  · have := (f.cl d hd).2; omega
  · omega
theorem spec_AddShowChart (x : ShowT) (c : List (Int × Int)) (n : Int) (h : lensOk x) (hc : c.length ≤ 1048576) : F_spec_AddShowChart x c n = some (addChartAns x c n) := by
  unfold F_spec_AddShowChart jK1 addChartAns
  rw [spec_swGood x h.1 h.2.1 h.2.2, Option.bind_some]
  cases hs : okShow x with
  | false => simp
  | true =>
    have f := facts hs
    have h1 := f.n1
    have h2 := f.nc
    have := spec_swIf _ (lens_longer f n hc)
    unfold longer at this
    simp only [Bool.not_true, Bool.false_eq_true, if_false, if_true]
    rw [spec_swOwn x f, Option.bind_some, spec_chOwn c hc, Option.bind_some, app_ok (by simp; omega), Option.bind_some, app_ok (by simp; omega), Option.bind_some, this]
    rfl
theorem impl_AddShowChart (x : ShowT) (c : List (Int × Int)) (n : Int) (h : lensOk x) (hc : c.length ≤ 1048576) : F_impl_AddShowChart x c n = some (addChartAns x c n) := by
  unfold F_impl_AddShowChart jK1 addChartAns
  rw [impl_IsShow x h.1 h.2.1 h.2.2, Option.bind_some]
  cases hs : okShow x with
  | false => simp
  | true =>
    have f := facts hs
    have h1 := f.n1
    have h2 := f.nc
    have := impl_asShow _ (lens_longer f n hc)
    unfold longer at this
    simp only [Bool.not_true, Bool.false_eq_true, if_false, if_true]
    rw [impl_copyShow x f, Option.bind_some, app_ok (by simp; omega), Option.bind_some, List.nil_append, app_ok (by simp; omega), Option.bind_some, app_ok (by simp; omega), Option.bind_some, this]
    rfl
theorem ifShow_ok (y : ShowT) : okShow (ifShow y).1 = true ∨ (ifShow y).1 = ([], [], 0, 0) := by
  unfold ifShow
  cases h : okShow y with
  | false => right; simp
  | true => left; simp [h]
end Go.Proofs.Ytmkignciedkidaa
