/-
  WHAT TWO SHOWS DEMAND, COMPARED, PLAIN.
-/
import Derived.Test.YtcndhhjolnebdaaPClose
import Derived.Test.YtcndhhjolnebdaaPWays
import Derived.Test.YtcndhhjolnebdaaPTotal
set_option linter.unusedSimpArgs false
set_option linter.unusedVariables false
namespace Go.Proofs.Ytcndhhjolnebdaa
open Go
theorem w64_mod (x : Int) : w64 x = (x + 9223372036854775808) % 18446744073709551616 - 9223372036854775808 := by
  unfold w64 IntKind.wrap
  simp only [IntKind.bits, IntKind.signed]
  simp only [ge_iff_le, Bool.true_and, decide_eq_true_eq]
  split <;> omega
theorem w64_addW (a b : Int) : w64 (w64 a + b) = w64 (a + b) := by rw [w64_mod, w64_mod a, w64_mod (a + b)]; omega
theorem w64_subW (a b : Int) : w64 (w64 a - b) = w64 (a - b) := by rw [w64_mod, w64_mod a, w64_mod (a - b)]; omega
theorem w64_subR (a b : Int) : w64 (a - w64 b) = w64 (a - b) := by rw [w64_mod, w64_mod b, w64_mod (a - b)]; omega
theorem w64_w64 (a : Int) : w64 (w64 a) = w64 a := by rw [w64_mod, w64_mod a]; omega
theorem foldl_addW (l : List Int) : ∀ a, l.foldl (fun a u => w64 (a + u)) (w64 a) = w64 (a + l.sum) := by
  induction l with
  | nil => intro a; simp
  | cons u l ih => intro a; rw [List.foldl_cons, w64_addW, ih, List.sum_cons, Int.add_assoc]
theorem foldl_subW (l : List Int) : ∀ a, l.foldl (fun a u => w64 (a - u)) (w64 a) = w64 (a - l.sum) := by
  induction l with
  | nil => intro a; simp
  | cons u l ih => intro a; rw [List.foldl_cons, w64_subW, ih, List.sum_cons, show a - u - l.sum = a - (u + l.sum) by omega]
theorem sumW_eq (l : List Int) : sumW l = w64 l.sum := by
  have := foldl_addW l 0
  rw [Int.zero_add] at this
  exact this
theorem sub_sum (l m : List Int) : m.foldl (fun a u => w64 (a - u)) (sumW l) = w64 (sumW l - sumW m) := by
  rw [sumW_eq l, sumW_eq m, foldl_subW, w64_subW, w64_subR]
def signI (n : Int) : Int := if 0 < n then 1 else if n < 0 then -1 else 0
theorem spec_l1Sign (n : Int) : F_spec_l1Sign n = some (signI n) := by
  unfold F_spec_l1Sign signI
  by_cases h : 0 < n
  · simp [h]
  · by_cases h2 : n < 0 <;> simp [h, h2]
theorem impl_sideOf (n : Int) : F_impl_sideOf n = some (signI n) := by
  unfold F_impl_sideOf signI
  by_cases h : 0 < n
  · simp [h]
  · by_cases h2 : n < 0 <;> simp [h, h2]
def demand (x y : ShowT) : Int :=
  if (unsafs x).length = (unsafs y).length then
    (if sumW x.2.1 = sumW y.2.1 then signI (w64 (sumW (waysOf x) - sumW (waysOf y))) else signI (w64 (sumW y.2.1 - sumW x.2.1)))
  else signI (w64 (((unsafs x).length : Int) - ((unsafs y).length : Int)))
theorem spec_cpCompare (x y : ShowT) (hx : lensOk x) (hy : lensOk y) (sx : okShow x = true) (sy : okShow y = true) : F_spec_cpCompare x y = some (demand x y) := by
  have fx := facts sx
  have fy := facts sy
  have lx := waysOf_len fx
  have ly := waysOf_len fy
  have ux : unsafAns x = (unsafs x, true) := by unfold unsafAns; rw [sx]; rfl
  have uy : unsafAns y = (unsafs y, true) := by unfold unsafAns; rw [sy]; rfl
  unfold F_spec_cpCompare demand
  rw [spec_UnsafeParts x hx, ux, Option.bind_some, spec_UnsafeParts y hy, uy, Option.bind_some]
  by_cases h1 : (unsafs x).length = (unsafs y).length
  · rw [if_neg (by simp [h1]), if_pos h1, spec_swTotal x hx.2.2, Option.bind_some, spec_swTotal y hy.2.2, Option.bind_some]
    by_cases h2 : sumW x.2.1 = sumW y.2.1
    · rw [if_neg (by simp [h2]), if_pos h2, (spec_cpWays x fx).1, Option.bind_some, spec_cpSum _ (by omega), Option.bind_some, (spec_cpWays y fy).1, Option.bind_some, spec_cpSum _ (by omega), Option.bind_some, spec_l1Sign]
      rfl
    · rw [if_pos (by simp [h2]), if_neg h2, Option.bind_some, Option.bind_some, spec_l1Sign]
      rfl
  · rw [if_pos (by simp; omega), if_neg h1, spec_l1Sign]
    rfl
theorem impl_compareDemand (x y : ShowT) (hx : lensOk x) (hy : lensOk y) (sx : okShow x = true) (sy : okShow y = true) : F_impl_compareDemand x y = some (demand x y) := by
  have fx := facts sx
  have fy := facts sy
  have lx := waysOf_len fx
  have ly := waysOf_len fy
  unfold F_impl_compareDemand demand
  rw [impl_unsafParts x fx, Option.bind_some, impl_unsafParts y fy, Option.bind_some]
  by_cases h1 : (unsafs x).length = (unsafs y).length
  · rw [if_neg (by simp [h1]), if_pos h1, impl_totalCounts x hx.2.2, Option.bind_some, impl_totalCounts y hy.2.2, Option.bind_some]
    by_cases h2 : sumW x.2.1 = sumW y.2.1
    · rw [if_neg (by simp [h2]), if_pos h2, impl_waySums x fx, Option.bind_some,
        loopFold (F_impl_compareDemand_L1 (waysOf x) y) (waysOf x) (fun a u => w64 (a + u)) (fun s => Option.bind (F_impl_waySums y) fun u106 => F_impl_compareDemand_L2 u106 FU s 0) (by omega) (fun m s k u hk hu => ?_) (fun m s => ?_)]
      · rw [impl_waySums y fy, Option.bind_some, loopFold (F_impl_compareDemand_L2 (waysOf y)) (waysOf y) (fun a u => w64 (a - u)) (fun s => some (signI s)) (by omega) (fun m s k u hk hu => ?_) (fun m s => ?_)]
        · have := sub_sum (waysOf x) (waysOf y)
          unfold sumW at this ⊢
          rw [this]
        · rw [F_impl_compareDemand_L2, if_pos (by simp; omega), idx_nat, hu, Option.bind_some, w64_succ (by omega)]
        · rw [F_impl_compareDemand_L2, if_neg (by simp), impl_sideOf]
          rfl
      · rw [F_impl_compareDemand_L1, if_pos (by simp; omega), idx_nat, hu, Option.bind_some, w64_succ (by omega)]
      · rw [F_impl_compareDemand_L1, if_neg (by simp)]
    · rw [if_pos (by simp [h2]), if_neg h2, impl_sideOf]
      rfl
  · rw [if_pos (by simp; omega), if_neg h1, impl_sideOf]
    rfl
def cmpAns (x y : ShowT) : Int × Bool := if okShow x && okShow y then (demand x y, true) else (0, false)
end Go.Proofs.Ytcndhhjolnebdaa
