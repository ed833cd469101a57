/-
  A SHOW WITHOUT ONE CHART, PLAIN.
-/
import Derived.Test.YtmkignciedkidaaPCopy
import Derived.Test.YtmkignciedkidaaPShift
set_option linter.unusedSimpArgs false
set_option linter.unusedVariables false
namespace Go.Proofs.Ytmkignciedkidaa
open Go
def dropCounts (l : List Int) (p n : Nat) : List Int :=
  if p = 0 then l.drop 1 else if p = n then l.take (p - 1)
  else (l.set (p - 1) (w64 ((l[p - 1]?.getD 0) + (l[p]?.getD 0)))).take p ++ (l.set (p - 1) (w64 ((l[p - 1]?.getD 0) + (l[p]?.getD 0)))).drop (p + 1)
def dropped (x : ShowT) (p : Nat) : ShowT := (x.1.take p ++ x.1.drop (p + 1), dropCounts x.2.1 p (x.1.length - 1), x.2.2.1, x.2.2.2)
def dropAns (x : ShowT) (p : Int) : ShowT × Bool := if okShow x && okIn p 0 ((x.1.length : Int) - 1) then ifShow (dropped x p.toNat) else (([], [], 0, 0), false)
theorem dropCounts_len (l : List Int) (p n : Nat) : (dropCounts l p n).length ≤ l.length := by
  unfold dropCounts
  split
  · simp
  · split
    · simp; omega
    · simp; omega
theorem lens_dropped {x : ShowT} (h : lensOk x) (p : Nat) : lensOk (dropped x p) := by
  refine ⟨?_, fun c hc => ?_, ?_⟩
  · have := h.1; unfold dropped; simp; omega
  · refine h.2.1 c ?_
    unfold dropped at hc
    rcases List.mem_append.1 hc with hc | hc
    · exact List.mem_of_mem_take hc
    · exact List.mem_of_mem_drop hc
  · have := h.2.2; have := dropCounts_len x.2.1 p (x.1.length - 1); unfold dropped; simp only; omega
theorem cutL_nat {α : Type} (l : List α) {k j : Nat} (h : k ≤ j) (h2 : j ≤ l.length) : cutL l (k : Int) (j : Int) = some (l.take k ++ l.drop j) := by
  unfold cutL
  rw [if_pos (by omega)]
  simp
theorem sl_some {α : Type} (l : List α) {k j : Nat} (h : k ≤ j) (h2 : j ≤ l.length) : ∃ u, sl l (k : Int) (j : Int) = some u := by
  unfold sl
  rw [if_pos (by omega)]
  exact ⟨_, rfl⟩
theorem spec_swIf_fr (y : ShowT) (h : lensOk y) : F_spec_swIf__take__fr1 y = some (ifShow y) := by
  unfold F_spec_swIf__take__fr1 ifShow
  rw [spec_swGood y h.1 h.2.1 h.2.2, Option.bind_some]
  cases okShow y <;> simp
theorem del_ints (l : List Int) {k : Nat} (h : k < l.length) : F_slices_Delete_int_int__take l (k : Int) ((k + 1 : Nat) : Int) = some (l.take k ++ l.drop (k + 1)) := by
  unfold F_slices_Delete_int_int__take
  obtain ⟨u, hu⟩ := sl_some l (k := k) (j := k + 1) (by omega) (by omega)
  obtain ⟨u3, hu3⟩ := sl_some l (k := k + 1) (j := l.length) (by omega) (by omega)
  rw [hu, Option.bind_some, if_neg (by simp; omega), sl_take l (by omega), Option.bind_some, hu3, Option.bind_some, cutL_nat l (by omega) (by omega), Option.bind_some]
theorem del_charts (l : List (List (Int × Int))) {k : Nat} (h : k < l.length) : F_slices_Delete_impl_Spot_impl_Spot__take l (k : Int) ((k + 1 : Nat) : Int) = some (l.take k ++ l.drop (k + 1)) := by
  unfold F_slices_Delete_impl_Spot_impl_Spot__take
  obtain ⟨u, hu⟩ := sl_some l (k := k) (j := k + 1) (by omega) (by omega)
  obtain ⟨u3, hu3⟩ := sl_some l (k := k + 1) (j := l.length) (by omega) (by omega)
  rw [hu, Option.bind_some, if_neg (by simp; omega), sl_take l (by omega), Option.bind_some, hu3, Option.bind_some, cutL_nat l (by omega) (by omega), Option.bind_some]
theorem drop_of {x : ShowT} {p : Int} (h : (okShow x && okIn p 0 ((x.1.length : Int) - 1)) = true) : ShowFacts x ∧ p = ((p.toNat : Nat) : Int) ∧ p.toNat < x.1.length := by
  rw [Bool.and_eq_true, okIn_iff] at h
  exact ⟨facts h.1, by omega, by omega⟩
theorem set_cut (l : List Int) {k : Nat} (h : k < l.length) (h0 : k ≠ 0) (v : Int) : (l.take k ++ l.drop (k + 1)).set (k - 1) v = (l.set (k - 1) v).take k ++ (l.set (k - 1) v).drop (k + 1) := by
  rw [List.set_append_left _ _ (by simp; omega), List.drop_set_of_lt (by omega), List.take_set]
theorem spec_DropShowChart (x : ShowT) (p : Int) (h : lensOk x) : F_spec_DropShowChart x p = some (dropAns x p) := by
  unfold F_spec_DropShowChart dropAns
  have h1 := h.1
  simp only [jK1]
  rw [spec_swGood x h.1 h.2.1 h.2.2, Option.bind_some, w64_eq (x := (x.1.length : Int) - 1) (by omega) (by omega), spec_l1In]
  cases ho : okShow x with
  | false => simp
  | true =>
    cases hi : okIn p 0 ((x.1.length : Int) - 1) with
    | false => simp
    | true =>
      obtain ⟨f, e, hlt⟩ := drop_of (by rw [ho, hi]; rfl)
      have n1 := f.n1
      have nc := f.nc
      generalize p.toNat = k at *
      subst e
      have hd := spec_swIf_fr _ (lens_dropped h k)
      obtain ⟨u1, hu1⟩ := sl_some x.1 (k := k + 1) (j := x.1.length) (by omega) (by omega)
      simp only [Bool.not_true, Bool.false_eq_true, if_false, Option.bind_some, Bool.and_self, if_true]
      rw [spec_swOwn x f, Option.bind_some, sl_take x.1 (by omega), Option.bind_some, w64_succ (by omega), hu1, Option.bind_some, cutL_nat x.1 (by omega) (by omega), Option.bind_some]
      generalize ifShow (dropped x k) = R at hd ⊢
      unfold dropped dropCounts at hd
      by_cases h0 : k = 0
      · subst h0
        rw [if_pos (by simp), show sl x.2.1 1 (List.length x.2.1 : Int) = some (x.2.1.drop 1) from sl_drop x.2.1 (k := 1) (show 1 ≤ x.2.1.length by have := f.n0; omega), Option.bind_some]
        simpa using hd
      · rw [if_neg (by simp; omega)]
        rw [if_neg h0] at hd
        by_cases h2 : k = x.1.length - 1
        · rw [if_pos (by simp; omega), w64_eq (by omega) (by omega), show ((k : Int) - 1) = ((k - 1 : Nat) : Int) by omega, sl_take x.2.1 (by omega), Option.bind_some]
          rw [if_pos h2] at hd
          rw [hd]; rfl
        · rw [if_neg (by simp; omega), w64_eq (x := (k : Int) - 1) (by omega) (by omega), show ((k : Int) - 1) = ((k - 1 : Nat) : Int) by omega]
          rw [if_neg h2] at hd
          obtain ⟨u2, hu2⟩ := sl_some x.2.1 (k := k + 1) (j := x.2.1.length) (by omega) (by omega)
          rw [sl_take _ (by omega), Option.bind_some, hu2, Option.bind_some, cutL_nat _ (by omega) (by omega), Option.bind_some,
            idx_lt (show k - 1 < x.2.1.length by omega), Option.bind_some, idx_lt (show k < x.2.1.length by omega), Option.bind_some, idx_lt (show k - 1 < (x.2.1.take k ++ x.2.1.drop (k + 1)).length by simp; omega), Option.bind_some, seti_nat, set_cut _ (by omega) h0]
          rw [List.getElem?_eq_getElem (show k - 1 < x.2.1.length by omega), List.getElem?_eq_getElem (show k < x.2.1.length by omega), Option.getD_some, Option.getD_some] at hd
          rw [hd]; rfl
theorem impl_DropShowChart (x : ShowT) (p : Int) (h : lensOk x) : F_impl_DropShowChart x p = some (dropAns x p) := by
  unfold F_impl_DropShowChart dropAns
  have h1 := h.1
  simp only [jK1]
  rw [impl_IsShow x h.1 h.2.1 h.2.2, Option.bind_some, w64_eq (x := (x.1.length : Int) - 1) (by omega) (by omega), impl_within]
  cases ho : okShow x with
  | false => simp
  | true =>
    cases hi : okIn p 0 ((x.1.length : Int) - 1) with
    | false => simp
    | true =>
      obtain ⟨f, e, hlt⟩ := drop_of (by rw [ho, hi]; rfl)
      have n1 := f.n1
      have nc := f.nc
      generalize p.toNat = k at *
      subst e
      have hd := impl_asShow _ (lens_dropped h k)
      simp only [Bool.not_true, Bool.false_eq_true, if_false, Option.bind_some, Bool.and_self, if_true]
      rw [impl_copyShow x f, Option.bind_some, w64_succ (by omega), del_charts x.1 (by omega), Option.bind_some]
      generalize ifShow (dropped x k) = R at hd ⊢
      unfold dropped dropCounts at hd
      by_cases h0 : k = 0
      · subst h0
        rw [if_pos (by simp)]
        have := del_ints x.2.1 (k := 0) (show 0 < x.2.1.length by have := f.n0; omega)
        rw [show F_slices_Delete_int_int__take x.2.1 0 1 = some (x.2.1.drop 1) by simpa using this, Option.bind_some]
        simpa using hd
      · rw [if_neg (by simp; omega)]
        rw [if_neg h0] at hd
        by_cases h2 : k = x.1.length - 1
        · rw [if_pos (by rw [w64_eq (by omega) (by omega)]; simp; omega), w64_eq (x := (x.2.1.length : Int) - 1) (by omega) (by omega), show ((x.2.1.length : Int) - 1) = ((k - 1 : Nat) : Int) by omega, w64_succ (by omega), del_ints x.2.1 (by omega), Option.bind_some]
          rw [if_pos h2] at hd
          rw [List.drop_eq_nil_of_le (show x.2.1.length ≤ k - 1 + 1 by omega), List.append_nil, hd]; rfl
        · rw [if_neg (by rw [w64_eq (by omega) (by omega)]; simp; omega), w64_eq (x := (k : Int) - 1) (by omega) (by omega), show ((k : Int) - 1) = ((k - 1 : Nat) : Int) by omega]
          rw [if_neg h2] at hd
          rw [idx_lt (show k - 1 < x.2.1.length by omega), Option.bind_some, idx_lt (show k < x.2.1.length by omega), Option.bind_some, Option.bind_some, seti_nat]
          rw [List.getElem?_eq_getElem (show k - 1 < x.2.1.length by omega), List.getElem?_eq_getElem (show k < x.2.1.length by omega), Option.getD_some, Option.getD_some] at hd
          rw [del_ints _ (by simp; omega), Option.bind_some, hd]; rfl
end Go.Proofs.Ytmkignciedkidaa
