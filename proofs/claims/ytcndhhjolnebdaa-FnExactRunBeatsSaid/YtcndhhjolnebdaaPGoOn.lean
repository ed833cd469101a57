/-
  A HALT ENDS, PLAIN.
-/
import Derived.Test.YtcndhhjolnebdaaPBeat
set_option linter.unusedSimpArgs false
set_option linter.unusedVariables false
namespace Go.Proofs.Ytcndhhjolnebdaa
open Go
theorem index_int (l : List Int) (n : Int) (hl : l.length < 4611686018427387904) : (F_slices_Index_int_int l n = some (-1) ∧ n ∉ l) ∨ ∃ (k : Nat) (A B : List Int), F_slices_Index_int_int l n = some (k : Int) ∧ k < l.length ∧ l = A ++ n :: B ∧ A.length = k ∧ n ∉ A := by
  have key : ∀ (suf pre : List Int) (m : Nat), l = pre ++ suf → n ∉ pre → suf.length < m → (F_slices_Index_int_int_L1 l n m (pre.length : Int) = some (-1) ∧ n ∉ l) ∨ ∃ (k : Nat) (A B : List Int), F_slices_Index_int_int_L1 l n m (pre.length : Int) = some (k : Int) ∧ k < l.length ∧ l = A ++ n :: B ∧ A.length = k ∧ n ∉ A := by
    intro suf
    induction suf with
    | nil =>
      intro pre m e hp hm
      cases m with
      | zero => simp at hm
      | succ m =>
        left
        rw [List.append_nil] at e
        rw [F_slices_Index_int_int_L1, if_neg (by rw [e]; simp), e]
        exact ⟨rfl, hp⟩
    | cons a suf ih =>
      intro pre m e hp hm
      cases m with
      | zero => simp at hm
      | succ m =>
        have hlen : l.length = pre.length + (suf.length + 1) := by rw [e]; simp
        rw [F_slices_Index_int_int_L1, if_pos (by simp; omega), idx_nat]
        have hg : l[pre.length]? = some a := by rw [e]; simp
        rw [hg, Option.bind_some]
        by_cases ha : n = a
        · right
          refine ⟨pre.length, pre, suf, by rw [if_pos (by simp [ha])], by omega, by rw [e, ha], rfl, hp⟩
        · rw [if_neg (by simp [ha]), w64_succ (by omega)]
          have := ih (pre ++ [a]) m (by rw [e]; simp) (by simp [hp, ha]) (by simpa using hm)
          rw [List.length_append, List.length_singleton] at this
          exact this
  exact key l [] FU rfl (by simp) (FU_gt hl)
theorem contains_int (l : List Int) (n : Int) (hl : l.length < 4611686018427387904) : F_slices_Contains_int_int l n = some (l.any (· == n)) := by
  unfold F_slices_Contains_int_int
  rcases index_int l n hl with ⟨e, h⟩ | ⟨k, A, B, e, hk, el, hA, hn⟩
  · rw [e, Option.bind_some]
    have : l.any (· == n) = false := by rw [List.any_eq_false]; intro u hu hx; simp at hx; exact h (hx ▸ hu)
    rw [this]; rfl
  · rw [e, Option.bind_some]
    have : l.any (· == n) = true := by rw [el]; simp
    rw [this]; simp
theorem rises_lt {l : List Int} {lo hi : Int} (h : rises l lo hi = true) : ∀ (j i : Nat) (hj : j < l.length) (hij : i < j), l[i] < l[j] := by
  have st : ∀ k (hk : k + 1 < l.length), l[k] < l[k + 1] := by
    intro k hk
    unfold rises at h
    have := List.all_eq_true.1 h (k + 1) (List.mem_range.2 hk)
    rw [riseAt_s (List.getElem?_eq_getElem hk) (List.getElem?_eq_getElem (show k < l.length by omega)), Bool.and_eq_true, decide_eq_true_eq] at this
    exact this.2
  intro j
  induction j with
  | zero => intro i _ h; omega
  | succ j ih =>
    intro i hj hij
    by_cases e : i = j
    · subst e; exact st i hj
    · have := ih i (by omega) (by omega)
      have := st j hj
      omega
theorem rises_once {A B : List Int} {n lo hi : Int} (h : rises (A ++ n :: B) lo hi = true) : n ∉ B := by
  intro hn
  obtain ⟨k, hk, e⟩ := List.getElem_of_mem hn
  have := rises_lt h (A.length + (k + 1)) A.length (by simp; omega) (by omega)
  rw [List.getElem_append_right (by omega), List.getElem_append_right (by omega)] at this
  simp only [Nat.sub_self, List.getElem_cons_zero, show A.length + (k + 1) - A.length = k + 1 by omega, List.getElem_cons_succ] at this
  omega
def without (l : List Int) (n : Int) : List Int := l.filter (fun u => u != n)
theorem without_len (l : List Int) (n : Int) : (without l n).length ≤ l.length := List.length_filter_le _ _
theorem without_mid {A B : List Int} {n : Int} (hA : n ∉ A) (hB : n ∉ B) : without (A ++ n :: B) n = A ++ B := by
  unfold without
  have f : ∀ l : List Int, n ∉ l → l.filter (fun u => u != n) = l := fun l h => List.filter_eq_self.2 (fun u hu => by simp; intro e; exact h (e ▸ hu))
  rw [List.filter_append, List.filter_cons, f A hA, f B hB]
  simp
theorem del_int (A B : List Int) (n : Int) (h : (A ++ n :: B).length < 4611686018427387904) : F_slices_Delete_int_int__take (A ++ n :: B) (A.length : Int) (w64 ((A.length : Int) + 1)) = some (A ++ B) := by
  have hl : (A ++ n :: B).length = A.length + (B.length + 1) := by simp
  unfold F_slices_Delete_int_int__take sl cutL
  rw [w64_succ (by omega), if_pos (by omega), Option.bind_some, if_neg (by simp; omega), if_pos (by omega), Option.bind_some, if_pos (by omega), Option.bind_some, if_pos (by omega), Option.bind_some]
  have e : (((A.length + 1 : Nat) : Int)).toNat = A.length + 1 := by omega
  have : List.drop (A.length + 1) (A ++ n :: B) = B := by rw [show A ++ n :: B = (A ++ [n]) ++ B by simp]; exact List.drop_left' (by simp)
  rw [e, this]
  simp
theorem without_loop {R : Type} (f : Nat → List Int → Int → Option R) (l : List Int) (n : Int) (rest : List Int → Option R) (hl : l.length ≤ 1048576)
    (hst : ∀ m s y, f (m + 1) s y = if (decide (y < (List.length l : Int))) = true then Option.bind (idx l y) fun u => (if (u != n) = true then Option.bind (app s [u]) fun v => f m v (w64 (y + 1)) else f m s (w64 (y + 1))) else rest s) : f FU [] 0 = rest (without l n) := by
  have h := loopS f l.length (fun k s => match l[k]? with | some u => if (u != n) = true then s ++ [u] else s | none => s) rest (by omega) (fun k s => s = without (l.take k) n) [] (by simp [without]) (fun k s hk hs => ?_) (fun m k s hk hs => ?_) (fun m s _ => ?_)
  · rw [h.1, h.2, List.take_length]
  · rw [List.getElem?_eq_getElem hk, hs]
    dsimp only
    unfold without
    rw [List.take_add_one, List.getElem?_eq_getElem hk, List.filter_append]
    by_cases e : l[k] = n <;> simp [e]
  · have hx := List.getElem?_eq_getElem hk
    have hs2 : s.length ≤ k := by rw [hs]; have := without_len (l.take k) n; have := List.length_take_le k l; omega
    rw [hst, if_pos (by simp; omega), idx_nat, hx, Option.bind_some, app_ok (by simp; omega), Option.bind_some, w64_succ (by omega)]
    dsimp only
    by_cases e : l[k] = n <;> simp [e]
  · rw [hst, if_neg (by simp)]
def goAns (x : MarchT) (i : Int) : MarchT × Bool := if okMarch x && okIn i 0 ((x.2.2.2.length : Int) - 1) && x.2.2.1.any (· == i) then ((x.1, x.2.1, without x.2.2.1 i, x.2.2.2), true) else (noMarch, false)
theorem asked_GoOn (x : MarchT) (i : Int) (h : lensM x) (h1 : x.2.2.1.length ≤ 1048576) (h2 : x.2.2.2.length ≤ 1048576) : (Option.bind (F_spec_mnAsked x (3, i)) fun u => some u) = some (goAns x i) := by
  unfold F_spec_mnAsked goAns
  rw [spec_mnGood x h.1 h.2.1 h.2.2, Option.bind_some]
  cases hm : okMarch x with
  | false => simp
  | true =>
    have hb := march_behind h hm
    have f := facts hb.2.2.1
    simp only [Bool.not_true, Bool.false_eq_true, if_false, Bool.true_and]
    unfold F_spec_mnStep jK1 jK3
    dsimp only
    rw [w64_eq (by omega) (by omega), spec_l1In, Option.bind_some]
    cases hi : okIn i 0 ((x.2.2.2.length : Int) - 1) with
    | false => simp
    | true =>
      rw [spec_mnOwn x f h1 h2, Bool.not_true, if_neg (by simp), Option.bind_some, spec_l1Has _ _ h.2.1, Option.bind_some]
      cases hh : x.2.2.1.any (· == i) with
      | false => simp
      | true =>
        simp only [show ((3 : Int) == 1) = false by decide, show ((3 : Int) == 2) = false by decide, Bool.false_eq_true, if_false, beq_self_eq_true, if_true, Bool.and_self]
        rw [without_loop (F_spec_mnStep_L2 x _ _ x) x.2.2.1 i _ h1 (fun m s y => by rw [F_spec_mnStep_L2]; rfl)]
        rfl
theorem impl_hasPerformer (x : MarchT) (i : Int) (h : lensM x) : F_impl_hasPerformer x i = some (okMarch x && okIn i 0 ((x.2.2.2.length : Int) - 1)) := by
  unfold F_impl_hasPerformer jK1
  dsimp only
  have := h.2.2
  rw [impl_IsMarch x h.1 h.2.1 h.2.2, Option.bind_some, w64_eq (by omega) (by omega), impl_within]
  cases okMarch x <;> simp
theorem impl_GoOn (x : MarchT) (i : Int) (h : lensM x) (h1 : x.2.2.1.length ≤ 1048576) (h2 : x.2.2.2.length ≤ 1048576) : F_impl_GoOn x i = some (goAns x i) := by
  unfold F_impl_GoOn jK1 goAns
  dsimp only
  rw [impl_hasPerformer x i h, Option.bind_some]
  cases hm : okMarch x with
  | false => simp
  | true =>
    have hb := march_behind h hm
    have f := facts hb.2.2.1
    cases hi : okIn i 0 ((x.2.2.2.length : Int) - 1) with
    | false => simp
    | true =>
      rw [contains_int _ _ h.2.1, Option.bind_some]
      cases hh : x.2.2.1.any (· == i) with
      | false => simp
      | true =>
        rw [impl_copyMarch x f h1 h2, Option.bind_some]
        have hr : rises x.2.2.1 0 ((firstLen x.1 : Int) - 1) = true := by
          unfold okMarch at hm
          simp only [Bool.and_eq_true, decide_eq_true_eq, okIn_iff] at hm
          exact hm.1.1.2
        rcases index_int x.2.2.1 i h.2.1 with ⟨e, hn⟩ | ⟨k, A, B, e, hk, el, hA, hn⟩
        · rw [List.any_eq_true] at hh
          obtain ⟨u, hu, q⟩ := hh
          simp at q
          exact absurd (q ▸ hu) hn
        · have hB := rises_once (el ▸ hr)
          have hl := h.2.1
          rw [el] at hl
          have hd := del_int A B i hl
          rw [e, Option.bind_some, ← hA, el, hd, without_mid hn hB]
          simp
theorem goAns_ok (x : MarchT) (i : Int) : ((goAns x i).1 = noMarch) ∨ (okShow (goAns x i).1.1 = true ∧ (goAns x i).1.2.2.1.length ≤ x.2.2.1.length ∧ (goAns x i).1.2.2.2 = x.2.2.2) := by
  unfold goAns
  cases hm : okMarch x with
  | false => left; simp
  | true =>
    cases hc : (okIn i 0 ((x.2.2.2.length : Int) - 1) && x.2.2.1.any (· == i)) with
    | true =>
      right
      unfold okMarch at hm
      simp only [Bool.and_eq_true] at hm
      rw [Bool.true_and, hc, if_pos rfl]
      exact ⟨hm.1.1.1.1, without_len _ _, rfl⟩
    | false => left; rw [Bool.true_and, hc]; simp
end Go.Proofs.Ytcndhhjolnebdaa
