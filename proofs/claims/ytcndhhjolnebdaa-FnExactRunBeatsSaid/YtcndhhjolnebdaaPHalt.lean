/-
  A PERFORMER HALTS, PLAIN: sorting by insertion.
-/
import Derived.Test.YtcndhhjolnebdaaPGoOn
import Derived.Test.YtcndhhjolnebdaaPShift
set_option linter.unusedSimpArgs false
set_option linter.unusedVariables false
namespace Go.Proofs.Ytcndhhjolnebdaa
open Go
theorem less_int (a b : Int) : F_cmp_Less_int a b = some (decide (a < b)) := by
  unfold F_cmp_Less_int F_cmp_isNaN_int jK1
  simp
theorem len_bits (n : Nat) (h : n ≤ 12) : ∃ u, F_bits_Len (wu64 (n : Int)) = some u := by
  have key : ∀ n : Fin 13, (F_bits_Len (wu64 ((n.val : Nat) : Int))).isSome = true := by decide
  exact Option.isSome_iff_exists.1 (key ⟨n, by omega⟩)
theorem at_mid {α : Type} (P T : List α) (x : α) : (P ++ x :: T)[P.length]? = some x := by simp
theorem idx_mid {α : Type} (P T : List α) (x : α) {y : Int} (h : y = (P.length : Int)) : idx (P ++ x :: T) y = some x := by rw [h, idx_nat, at_mid]
theorem seti_mid {α : Type} (P T : List α) (x z : α) {y : Int} (h : y = (P.length : Int)) : seti (P ++ x :: T) y z = P ++ z :: T := by rw [h, seti_nat]; simp
theorem ins_inner (nx : List Int → Int → Option (List Int)) (i x : Int) (A : List Int) (hA : ∀ a ∈ A, a ≤ x) : ∀ (n : Nat) (B T : List Int) (m : Nat), B.length = n → n < m → (∀ b ∈ B, x < b) → A.length + B.length < 4611686018427387904 →
    F_slices_insertionSortOrdered_int__mut_L2 nx i 0 m (A ++ B ++ x :: T) ((A.length + B.length : Nat) : Int) = nx (A ++ x :: B ++ T) (w64 (i + 1)) := by
  intro n
  induction n with
  | zero =>
    intro B T m hn hm hB hl
    have : B = [] := List.eq_nil_of_length_eq_zero hn
    subst this
    cases m with
    | zero => omega
    | succ m =>
      rw [F_slices_insertionSortOrdered_int__mut_L2]
      unfold jK1
      dsimp only
      rw [List.append_nil, List.length_nil, Nat.add_zero]
      rcases List.eq_nil_or_concat A with rfl | ⟨A', a, rfl⟩
      · rw [if_neg (by simp)]; simp
      · have ha := hA a (by simp)
        rw [List.concat_eq_append] at *
        rw [if_pos (by simp <;> omega), idx_mid _ _ _ rfl, Option.bind_some, List.append_assoc, List.singleton_append, idx_mid A' _ a (by rw [w64_eq (by simp <;> omega) (by simp at * <;> omega)]; simp), Option.bind_some, less_int, Option.bind_some, if_neg (by simp; omega)]
        simp
  | succ n ih =>
    intro B T m hn hm hB hl
    cases m with
    | zero => omega
    | succ m =>
      rcases List.eq_nil_or_concat B with rfl | ⟨B', b, rfl⟩
      · simp at hn
      · rw [List.concat_eq_append] at *
        have hb := hB b (by simp)
        have hn' : B'.length = n := by simpa using hn
        have e1 : A ++ (B' ++ [b]) ++ x :: T = (A ++ B') ++ b :: x :: T := by simp
        have e2 : (A ++ B') ++ b :: x :: T = ((A ++ B') ++ [b]) ++ x :: T := by simp
        have ly : w64 (((A.length + (B' ++ [b]).length : Nat) : Int) - 1) = ((A ++ B').length : Int) := by rw [w64_eq (by simp <;> omega) (by simp at * <;> omega)]; simp <;> omega
        have ly2 : ((A.length + (B' ++ [b]).length : Nat) : Int) = ((A ++ B' ++ [b]).length : Int) := by simp <;> omega
        rw [F_slices_insertionSortOrdered_int__mut_L2]
        unfold jK1
        dsimp only
        rw [e1, ly, if_pos (by simp <;> omega)]
        rw [show idx (A ++ B' ++ b :: x :: T) ((A.length + (B' ++ [b]).length : Nat) : Int) = some x by rw [e2]; exact idx_mid _ _ _ ly2]
        rw [Option.bind_some, idx_mid _ _ _ rfl, Option.bind_some, less_int, Option.bind_some, if_pos (by simp <;> omega), Option.bind_some, Option.bind_some]
        rw [show seti (A ++ B' ++ b :: x :: T) ((A.length + (B' ++ [b]).length : Nat) : Int) b = A ++ B' ++ b :: b :: T by rw [e2, seti_mid _ _ _ _ ly2]; simp]
        rw [idx_mid _ _ _ rfl, Option.bind_some, seti_mid _ _ _ _ rfl]
        have h := ih B' (b :: T) m hn' (by omega) (fun u hu => hB u (by simp [hu])) (by simp at hl; omega)
        rw [show ((A ++ B').length : Int) = ((A.length + B'.length : Nat) : Int) by simp, h]
        simp
theorem ins_outer (H A B : List Int) (n : Int) (hs : ∀ (j i : Nat) (hj : j < H.length) (hij : i < j), H[i] < H[j]) (e : H = A ++ B) (hA : ∀ a ∈ A, a < n) (hB : ∀ b ∈ B, n < b) (hl : H.length < 1000) :
    ∀ (d i m : Nat), H.length - i = d → 1 ≤ i → i ≤ H.length → d + 1 < m → F_slices_insertionSortOrdered_int__mut_L1 ((H.length + 1 : Nat) : Int) 0 m (H ++ [n]) (i : Int) = some (A ++ n :: B) := by
  intro d
  induction d with
  | zero =>
    intro i m hd h1 hi hm
    have : i = H.length := by omega
    subst this
    cases m with
    | zero => omega
    | succ m =>
      rw [F_slices_insertionSortOrdered_int__mut_L1, if_pos (by simp; omega)]
      have := ins_inner (F_slices_insertionSortOrdered_int__mut_L1 ((H.length + 1 : Nat) : Int) 0 m) (H.length : Int) n A (fun a ha => Int.le_of_lt (hA a ha)) B.length B [] FU rfl (FU_gt (by rw [e] at hl; simp at hl; omega)) hB (by rw [e] at hl; simp at hl; omega)
      rw [show ((A.length + B.length : Nat) : Int) = (H.length : Int) by rw [e]; simp, show A ++ B ++ n :: [] = H ++ [n] by rw [e]] at this
      rw [this, w64_succ (by omega)]
      cases m with
      | zero => omega
      | succ m => rw [F_slices_insertionSortOrdered_int__mut_L1, if_neg (by simp)]; simp
  | succ d ih =>
    intro i m hd h1 hi hm
    cases m with
    | zero => omega
    | succ m =>
      rw [F_slices_insertionSortOrdered_int__mut_L1, if_pos (by simp; omega)]
      have hlt : i < H.length := by omega
      have := ins_inner (F_slices_insertionSortOrdered_int__mut_L1 ((H.length + 1 : Nat) : Int) 0 m) (i : Int) H[i] (H.take i) (fun a ha => by
        obtain ⟨k, hk, rfl⟩ := List.getElem_of_mem ha
        rw [List.getElem_take]
        simp at hk
        exact Int.le_of_lt (hs i k hlt (by omega))) 0 [] (H.drop (i + 1) ++ [n]) FU rfl (FU_gt (by omega)) (fun b hb => by simp at hb) (by simp; omega)
      have e1 : H.take i ++ [] ++ H[i] :: (H.drop (i + 1) ++ [n]) = H ++ [n] := by
        rw [List.append_nil, ← List.cons_append, ← List.append_assoc, List.getElem_cons_drop, List.take_append_drop]
      have e2 : H.take i ++ H[i] :: [] ++ (H.drop (i + 1) ++ [n]) = H ++ [n] := by rw [← e1, List.append_nil, List.append_assoc]; rfl
      rw [show (((H.take i).length + ([] : List Int).length : Nat) : Int) = (i : Int) by simp; omega, e1, e2] at this
      rw [this, w64_succ (by omega), ih (i + 1) m (by omega) (by omega) (by omega) (by omega)]
theorem sort_ins (H A B : List Int) (n : Int) (hs : ∀ (j i : Nat) (hj : j < H.length) (hij : i < j), H[i] < H[j]) (e : H = A ++ B) (hA : ∀ a ∈ A, a < n) (hB : ∀ b ∈ B, n < b) (hl : H.length ≤ 11) :
    F_slices_Sort_int_int__mut (H ++ [n]) = some (A ++ n :: B) := by
  unfold F_slices_Sort_int_int__mut
  obtain ⟨u, hu⟩ := len_bits (H ++ [n]).length (by simp; omega)
  have hle : (H ++ [n]).length = H.length + 1 := by simp
  rw [hu, Option.bind_some]
  unfold F_slices_pdqsortOrdered_int__mut
  rw [show FU = 4611686018427387903 + 1 by rfl, F_slices_pdqsortOrdered_int__mut_L1, hle, w64_eq (by omega) (by omega), if_pos (by simp; omega)]
  unfold F_slices_insertionSortOrdered_int__mut
  rw [w64_eq (by omega) (by omega)]
  by_cases h0 : H = []
  · subst h0
    have hAB : A = [] ∧ B = [] := by simpa using e.symm
    obtain ⟨rfl, rfl⟩ := hAB
    rw [show FU = 4611686018427387903 + 1 by rfl, F_slices_insertionSortOrdered_int__mut_L1, if_neg (by simp)]
    simp
  · have hp : 0 < H.length := List.length_pos_iff.2 h0
    have := ins_outer H A B n hs e hA hB (by omega) (H.length - 1) 1 FU rfl (by omega) (by omega) (FU_gt (by omega))
    rw [show ((0 : Int) + 1) = ((1 : Nat) : Int) by rfl, this, Option.bind_some, Option.bind_some]
def putIn (l : List Int) (n : Int) : List Int := l.takeWhile (fun u => decide (u < n)) ++ n :: l.dropWhile (fun u => decide (u < n))
theorem split_of {l : List Int} {n : Int} (hp : l.Pairwise (· < ·)) (hn : n ∉ l) : (∀ a ∈ l.takeWhile (fun u => decide (u < n)), a < n) ∧ ∀ b ∈ l.dropWhile (fun u => decide (u < n)), n < b := by
  induction l with
  | nil => exact ⟨fun a ha => by simp at ha, fun a ha => by simp at ha⟩
  | cons c l ih =>
    rw [List.pairwise_cons] at hp
    simp only [List.mem_cons, not_or] at hn
    have h := ih hp.2 hn.2
    by_cases hc : c < n
    · rw [List.takeWhile_cons_of_pos (by simpa using hc), List.dropWhile_cons_of_pos (by simpa using hc)]
      refine ⟨fun a ha => ?_, h.2⟩
      rcases List.mem_cons.1 ha with rfl | ha
      · exact hc
      · exact h.1 a ha
    · rw [List.takeWhile_cons_of_neg (by simpa using hc), List.dropWhile_cons_of_neg (by simpa using hc)]
      refine ⟨fun a ha => by simp at ha, fun b hb => ?_⟩
      rcases List.mem_cons.1 hb with rfl | hb
      · omega
      · have := hp.1 b hb; omega
theorem pair_of {l : List Int} (hs : ∀ (j i : Nat) (hj : j < l.length) (hij : i < j), l[i] < l[j]) : l.Pairwise (· < ·) := List.pairwise_iff_getElem.2 fun i j _ hj hij => hs j i hj hij
theorem rise_len : ∀ {l : List Int} {lo hi : Int}, l.Pairwise (· < ·) → (∀ u ∈ l, lo ≤ u ∧ u ≤ hi) → lo ≤ hi + 1 → (l.length : Int) ≤ hi - lo + 1 := by
  intro l
  induction l with
  | nil => intro lo hi _ _ h; simp; omega
  | cons a l ih =>
    intro lo hi hp hb h
    rw [List.pairwise_cons] at hp
    have ha := hb a (by simp)
    have := ih (lo := a + 1) (hi := hi) hp.2 (fun u hu => ⟨by have := hp.1 u hu; omega, (hb u (by simp [hu])).2⟩) (by omega)
    simp
    omega
theorem put_loop (H : List Int) (n : Int) (A B : List Int) (e : H = A ++ B) (hA : ∀ a ∈ A, a < n) (hB : ∀ b ∈ B, n < b) (hl : H.length ≤ 1048576) : F_spec_l1Put__take H n = some (A ++ n :: B) := by
  unfold F_spec_l1Put__take
  have key : ∀ (d k m : Nat), A.length - k = d → k ≤ A.length → d < m → F_spec_l1Put__take_L1 H n m (k : Int) = some (A ++ n :: B) := by
    intro d
    induction d with
    | zero =>
      intro k m hd hk hm
      have : k = A.length := by omega
      subst this
      cases m with
      | zero => omega
      | succ m =>
        have hAl : H.length = A.length + B.length := by rw [e]; simp
        rw [F_spec_l1Put__take_L1]
        unfold jK1
        dsimp only
        have ht : H.take A.length = A := by rw [e]; simp
        have hd' : H.drop A.length = B := by rw [e]; simp
        have h1 : ∀ {f : List Int → Option (List Int)}, (Option.bind (sl H 0 (A.length : Int)) f) = f A := by intro f; rw [sl_take H (by omega), ht]; rfl
        have h2 : ∀ {f : List Int → Option (List Int)}, (Option.bind (sl H (A.length : Int) (List.length H : Int)) f) = f B := by intro f; rw [sl_drop H (by omega), hd']; rfl
        rw [h1, app_ok (by simp; omega), Option.bind_some, app_ok (by simp; omega), Option.bind_some, h2, app_ok (by simp; omega), Option.bind_some]
        cases hb : B with
        | nil =>
          rw [if_neg (c := decide ((A.length : Int) < (H.length : Int)) = true) (by rw [hAl, hb]; simp), if_neg Bool.false_ne_true, if_neg (by rw [hAl, hb]; simp)]
          simp
        | cons b B' =>
          have hbn := hB b (by rw [hb]; simp)
          have hx : H[A.length]? = some b := by rw [e, hb]; simp
          have : ¬ b < n := by omega
          have h3 : ¬ b = n := by omega
          rw [if_pos (by rw [hAl, hb]; simp; omega), idx_nat, hx, Option.bind_some, if_neg (by simpa using this), if_pos (by rw [hAl, hb]; simp; omega), Option.bind_some, if_neg (by simpa using h3)]
          simp
    | succ d ih =>
      intro k m hd hk hm
      cases m with
      | zero => omega
      | succ m =>
        have hAl : H.length = A.length + B.length := by rw [e]; simp
        have hx : H[k]? = some (A[k]'(by omega)) := by rw [e, List.getElem?_append_left (by omega)]; exact List.getElem?_eq_getElem (by omega)
        have ha := hA (A[k]'(by omega)) (List.getElem_mem _)
        rw [F_spec_l1Put__take_L1]
        unfold jK1
        dsimp only
        rw [if_pos (by simp; omega), idx_nat, hx, Option.bind_some, if_pos (by simpa using ha), w64_succ (by omega), ih (k + 1) m (by omega) (by omega) (by omega)]
  exact key A.length 0 FU rfl (by omega) (FU_gt (by rw [e] at hl; simp at hl; omega))
def haltAns (x : MarchT) (i : Int) : MarchT × Bool := if okMarch x && okIn i 0 ((x.2.2.2.length : Int) - 1) && !x.2.2.1.any (· == i) then ((x.1, x.2.1, putIn x.2.2.1 i, x.2.2.2), true) else (noMarch, false)
theorem march_rises {x : MarchT} (hm : okMarch x = true) : rises x.2.2.1 0 ((firstLen x.1 : Int) - 1) = true := by
  unfold okMarch at hm
  simp only [Bool.and_eq_true, decide_eq_true_eq, okIn_iff] at hm
  exact hm.1.1.2
theorem halt_facts {x : MarchT} {i : Int} (h : lensM x) (hm : okMarch x = true) (hi : okIn i 0 ((x.2.2.2.length : Int) - 1) = true) (hn : x.2.2.1.any (· == i) = false) :
    i ∉ x.2.2.1 ∧ x.2.2.1.Pairwise (· < ·) ∧ x.2.2.1.length ≤ 11 := by
  have hr := march_rises hm
  have hb := march_behind h hm
  have hh := march_halted h hm
  have hp := pair_of (rises_lt hr)
  have hnm : i ∉ x.2.2.1 := fun hx => by
    rw [List.any_eq_false] at hn
    have := hn i hx
    simp at this
  refine ⟨hnm, hp, ?_⟩
  have hs := split_of hp hnm
  rw [okIn_iff] at hi
  have e := List.takeWhile_append_dropWhile (p := fun u => decide (u < i)) (l := x.2.2.1)
  have l1 := rise_len (l := x.2.2.1.takeWhile (fun u => decide (u < i))) (lo := 0) (hi := i - 1) (hp.sublist (List.takeWhile_sublist _)) (fun u hu => ⟨(hh.1 u ((List.takeWhile_sublist _).subset hu)).1, by have := hs.1 u hu; omega⟩) (by omega)
  have l2 := rise_len (l := x.2.2.1.dropWhile (fun u => decide (u < i))) (lo := i + 1) (hi := (x.2.2.2.length : Int) - 1) (hp.sublist (List.dropWhile_sublist _)) (fun u hu => ⟨by have := hs.2 u hu; omega, by have := (hh.1 u ((List.dropWhile_sublist _).subset hu)).2; omega⟩) (by omega)
  have : x.2.2.1.length = (x.2.2.1.takeWhile (fun u => decide (u < i))).length + (x.2.2.1.dropWhile (fun u => decide (u < i))).length := by
    rw [← List.length_append, e]
  omega
theorem asked_Halt (x : MarchT) (i : Int) (h : lensM x) (h1 : x.2.2.1.length ≤ 1048576) (h2 : x.2.2.2.length ≤ 1048576) : (Option.bind (F_spec_mnAsked x (2, i)) fun u => some u) = some (haltAns x i) := by
  unfold F_spec_mnAsked haltAns
  rw [spec_mnGood x h.1 h.2.1 h.2.2, Option.bind_some]
  cases hm : okMarch x with
  | false => simp
  | true =>
    have hb := march_behind h hm
    have f := facts hb.2.2.1
    simp only [Bool.not_true, Bool.false_eq_true, if_false, Bool.true_and]
    unfold F_spec_mnStep jK1 jK3
    dsimp only
    rw [w64_eq (by omega) (by omega), spec_l1In, Option.bind_some]
    cases hi : okIn i 0 ((x.2.2.2.length : Int) - 1) with
    | false => simp
    | true =>
      rw [spec_mnOwn x f h1 h2, Bool.not_true, if_neg (by simp), Option.bind_some, spec_l1Has _ _ h.2.1, Option.bind_some]
      cases hh : x.2.2.1.any (· == i) with
      | true => simp
      | false =>
        obtain ⟨hn, hp, hl⟩ := halt_facts h hm hi hh
        have hs := split_of hp hn
        simp only [show ((2 : Int) == 1) = false by decide, Bool.false_eq_true, if_false, beq_self_eq_true, if_true, Bool.and_self, Bool.not_false]
        rw [put_loop x.2.2.1 i _ _ (List.takeWhile_append_dropWhile (p := fun u => decide (u < i))).symm hs.1 hs.2 h1]
        rfl
theorem spec_HaltPerformer (x : MarchT) (i : Int) (h : lensM x) (h1 : x.2.2.1.length ≤ 1048576) (h2 : x.2.2.2.length ≤ 1048576) : F_spec_HaltPerformer x i = some (haltAns x i) := by
  unfold F_spec_HaltPerformer
  exact asked_Halt x i h h1 h2
theorem impl_HaltPerformer (x : MarchT) (i : Int) (h : lensM x) (h1 : x.2.2.1.length ≤ 1048576) (h2 : x.2.2.2.length ≤ 1048576) : F_impl_HaltPerformer x i = some (haltAns x i) := by
  unfold F_impl_HaltPerformer jK1 haltAns
  dsimp only
  rw [impl_hasPerformer x i h, Option.bind_some]
  cases hm : okMarch x with
  | false => simp
  | true =>
    have hb := march_behind h hm
    have f := facts hb.2.2.1
    cases hi : okIn i 0 ((x.2.2.2.length : Int) - 1) with
    | false => simp
    | true =>
      rw [contains_int _ _ h.2.1, Option.bind_some]
      cases hh : x.2.2.1.any (· == i) with
      | true => simp
      | false =>
        obtain ⟨hn, hp, hl⟩ := halt_facts h hm hi hh
        have hs := split_of hp hn
        rw [impl_copyMarch x f h1 h2, Option.bind_some, app_ok (by simp; omega), Option.bind_some, sort_ins x.2.2.1 _ _ i (rises_lt (march_rises hm)) (List.takeWhile_append_dropWhile (p := fun u => decide (u < i))).symm hs.1 hs.2 hl]
        rfl
theorem haltAns_ok (x : MarchT) (i : Int) (h : lensM x) : ((haltAns x i).1 = noMarch) ∨ (okShow (haltAns x i).1.1 = true ∧ (haltAns x i).1.2.2.1.length ≤ 12 ∧ (haltAns x i).1.2.2.2 = x.2.2.2) := by
  unfold haltAns
  cases hm : okMarch x with
  | false => left; simp
  | true =>
    cases hc : (okIn i 0 ((x.2.2.2.length : Int) - 1) && !x.2.2.1.any (· == i)) with
    | true =>
      right
      unfold okMarch at hm
      simp only [Bool.and_eq_true] at hm
      rw [Bool.true_and, hc, if_pos rfl]
      have hc' := hc
      rw [Bool.and_eq_true, Bool.not_eq_true'] at hc'
      have hl := (halt_facts h (by unfold okMarch; simp only [Bool.and_eq_true]; exact hm) hc'.1 hc'.2).2.2
      refine ⟨hm.1.1.1.1, ?_, rfl⟩
      have := congrArg List.length (List.takeWhile_append_dropWhile (p := fun u => decide (u < i)) (l := x.2.2.1))
      rw [List.length_append] at this
      show (x.2.2.1.takeWhile (fun u => decide (u < i)) ++ i :: x.2.2.1.dropWhile (fun u => decide (u < i))).length ≤ _
      rw [List.length_append, List.length_cons]
      omega
    | false => left; rw [Bool.true_and, hc]; simp
end Go.Proofs.Ytcndhhjolnebdaa
