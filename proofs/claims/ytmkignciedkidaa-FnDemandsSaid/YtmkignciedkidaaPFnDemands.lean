import Derived.Test.YtmkignciedkidaaPH
import Derived.Test.YtmkignciedkidaaPB2
/-
  WHAT THE LAWS ON SHOWS HAND OVER AND TAKE BACK, PLAIN.
-/
set_option linter.unusedSimpArgs false
set_option linter.unusedVariables false
namespace Go.Proofs.Ytmkignciedkidaa
open Go
end Go.Proofs.Ytmkignciedkidaa
/-
  SHOWS RANKED, PLAIN: a stable sort by insertion.
-/
set_option linter.unusedSimpArgs false
set_option linter.unusedVariables false
namespace Go.Proofs.Ytmkignciedkidaa
open Go
theorem at_mid' {α : Type} (P T : List α) (x : α) : (P ++ x :: T)[P.length]? = some x := by simp
theorem idx_mid' {α : Type} (P T : List α) (x : α) {y : Int} (h : y = (P.length : Int)) : idx (P ++ x :: T) y = some x := by rw [h, idx_nat, at_mid']
theorem seti_mid' {α : Type} (P T : List α) (x z : α) {y : Int} (h : y = (P.length : Int)) : seti (P ++ x :: T) y z = P ++ z :: T := by rw [h, seti_nat]; simp
def insAt (c : Int → Bool) (l : List Int) (n : Int) : List Int := (l.reverse.dropWhile c).reverse ++ n :: (l.reverse.takeWhile c).reverse
theorem drop_head {c : Int → Bool} : ∀ {l t : List Int} {a : Int}, l.dropWhile c = a :: t → c a = false := by
  intro l
  induction l with
  | nil => intro t a h; simp at h
  | cons b l ih =>
    intro t a h
    cases hb : c b with
    | true => rw [List.dropWhile_cons_of_pos hb] at h; exact ih h
    | false =>
      rw [List.dropWhile_cons_of_neg (by simp [hb])] at h
      injection h with h1 h2
      rw [← h1]; exact hb
theorem insAt_split (c : Int → Bool) (l : List Int) : ∃ A B, l = A ++ B ∧ (∀ b ∈ B, c b = true) ∧ (A = [] ∨ ∃ A' a, A = A' ++ [a] ∧ c a = false) ∧ ∀ n, insAt c l n = A ++ n :: B := by
  refine ⟨(l.reverse.dropWhile c).reverse, (l.reverse.takeWhile c).reverse, ?_, fun b hb => ?_, ?_, fun n => rfl⟩
  · rw [← List.reverse_append, List.takeWhile_append_dropWhile, List.reverse_reverse]
  · rw [List.mem_reverse] at hb
    exact List.all_eq_true.1 (List.all_takeWhile (p := c) (l := l.reverse)) b hb
  · cases h : l.reverse.dropWhile c with
    | nil => left; rfl
    | cons a t => right; exact ⟨t.reverse, a, by simp, drop_head h⟩
def noShow : ShowT := ([], [], 0, 0)
def cmpI (x : List ShowT) (a b : Int) : Int := demand ((x[a.toNat]?).getD noShow) ((x[b.toNat]?).getD noShow)
def ranked (x : List ShowT) : Nat → List Int
  | 0 => []
  | n + 1 => insAt (fun b => decide (cmpI x (n : Int) b < 0)) (ranked x n) (n : Int)
theorem ranked_len (x : List ShowT) (n : Nat) : (ranked x n).length = n := by
  induction n with
  | zero => rfl
  | succ n ih =>
    obtain ⟨A, B, e, _, _, h⟩ := insAt_split (fun b => decide (cmpI x (n : Int) b < 0)) (ranked x n)
    rw [ranked, h]
    rw [e] at ih
    simp at ih ⊢
    omega
theorem ranked_mem (x : List ShowT) (n : Nat) : ∀ u ∈ ranked x n, 0 ≤ u ∧ u < (n : Int) := by
  induction n with
  | zero => intro u hu; simp [ranked] at hu
  | succ n ih =>
    intro u hu
    obtain ⟨A, B, e, _, _, h⟩ := insAt_split (fun b => decide (cmpI x (n : Int) b < 0)) (ranked x n)
    rw [ranked, h] at hu
    rw [e] at ih
    rcases List.mem_append.1 hu with hu | hu
    · have := ih u (List.mem_append_left _ hu); omega
    · rcases List.mem_cons.1 hu with rfl | hu
      · omega
      · have := ih u (List.mem_append_right _ hu); omega
theorem rank_own (c : List Int) (h : c.length ≤ 1048576) : F_spec_l1Own c = some c := by
  unfold F_spec_l1Own
  rw [app_ok (by simp; omega)]
  rfl
structure AllOk (x : List ShowT) : Prop where
  ok : ∀ u ∈ x, okShow u = true
  ls : ∀ u ∈ x, lensOk u
theorem at_idx {x : List ShowT} {a : Int} (h0 : 0 ≤ a) (h1 : a < (x.length : Int)) : idx x a = some ((x[a.toNat]?).getD noShow) ∧ (x[a.toNat]?).getD noShow ∈ x := by
  have hlt : a.toNat < x.length := by omega
  rw [idx_int h0, List.getElem?_eq_getElem hlt]
  exact ⟨rfl, List.getElem_mem hlt⟩
theorem impl_cmp {x : List ShowT} (h : AllOk x) {a b : Int} (ha : 0 ≤ a ∧ a < (x.length : Int)) (hb : 0 ≤ b ∧ b < (x.length : Int)) : F_impl_RankShows_1 a b x = some (cmpI x a b) := by
  obtain ⟨e1, m1⟩ := at_idx ha.1 ha.2
  obtain ⟨e2, m2⟩ := at_idx hb.1 hb.2
  unfold F_impl_RankShows_1 cmpI
  rw [e1, Option.bind_some, e2, Option.bind_some, impl_compareDemand _ _ (h.ls _ m1) (h.ls _ m2) (h.ok _ m1) (h.ok _ m2), Option.bind_some]
theorem sort_inner (nx : List Int → Int → Option (List Int)) (i x : Int) (l : List ShowT) (c : Int → Bool) (A : List Int) (hA : A = [] ∨ ∃ A' a, A = A' ++ [a] ∧ c a = false) : ∀ (n : Nat) (B T : List Int) (m : Nat), B.length = n → n < m → (∀ b ∈ B, c b = true) → (∀ b ∈ A ++ B, ∃ v, F_impl_RankShows_1 x b l = some v ∧ decide (v < 0) = c b) → A.length + B.length < 4611686018427387904 →
    F_slices_insertionSortCmpFunc_int__impl_RankShows_1__mut_L2 nx i 0 l m (A ++ B ++ x :: T) ((A.length + B.length : Nat) : Int) = nx (A ++ x :: B ++ T) (w64 (i + 1)) := by
  intro n
  induction n with
  | zero =>
    intro B T m hn hm hB hc hl
    have : B = [] := List.eq_nil_of_length_eq_zero hn
    subst this
    cases m with
    | zero => omega
    | succ m =>
      rw [F_slices_insertionSortCmpFunc_int__impl_RankShows_1__mut_L2]
      unfold jK1
      dsimp only
      rw [List.append_nil, List.length_nil, Nat.add_zero]
      rcases hA with rfl | ⟨A', a, rfl, ha⟩
      · rw [if_neg (by simp)]; simp
      · obtain ⟨v, hv, hd⟩ := hc a (by simp)
        rw [if_pos (by simp <;> omega), idx_mid' _ _ _ rfl, Option.bind_some, List.append_assoc, List.singleton_append, idx_mid' A' _ a (by rw [w64_eq (by simp <;> omega) (by simp at * <;> omega)]; simp), Option.bind_some, hv, Option.bind_some, hd, ha, if_neg (by simp)]
        simp
  | succ n ih =>
    intro B T m hn hm hB hc hl
    cases m with
    | zero => omega
    | succ m =>
      rcases List.eq_nil_or_concat B with rfl | ⟨B', b, rfl⟩
      · simp at hn
      · rw [List.concat_eq_append] at *
        have hb := hB b (by simp)
        obtain ⟨v, hv, hd⟩ := hc b (by simp)
        have hn' : B'.length = n := by simpa using hn
        have e1 : A ++ (B' ++ [b]) ++ x :: T = (A ++ B') ++ b :: x :: T := by simp
        have e2 : (A ++ B') ++ b :: x :: T = ((A ++ B') ++ [b]) ++ x :: T := by simp
        have ly : w64 (((A.length + (B' ++ [b]).length : Nat) : Int) - 1) = ((A ++ B').length : Int) := by rw [w64_eq (by simp <;> omega) (by simp at * <;> omega)]; simp <;> omega
        have ly2 : ((A.length + (B' ++ [b]).length : Nat) : Int) = ((A ++ B' ++ [b]).length : Int) := by simp <;> omega
        rw [F_slices_insertionSortCmpFunc_int__impl_RankShows_1__mut_L2]
        unfold jK1
        dsimp only
        rw [e1, ly, if_pos (by simp <;> omega)]
        rw [show idx (A ++ B' ++ b :: x :: T) ((A.length + (B' ++ [b]).length : Nat) : Int) = some x by rw [e2]; exact idx_mid' _ _ _ ly2]
        rw [Option.bind_some, idx_mid' _ _ _ rfl, Option.bind_some, hv, Option.bind_some, hd, hb, if_pos rfl, Option.bind_some, Option.bind_some]
        rw [show seti (A ++ B' ++ b :: x :: T) ((A.length + (B' ++ [b]).length : Nat) : Int) b = A ++ B' ++ b :: b :: T by rw [e2, seti_mid' _ _ _ _ ly2]; simp]
        rw [idx_mid' _ _ _ rfl, Option.bind_some, seti_mid' _ _ _ _ rfl]
        have h := ih B' (b :: T) m hn' (by omega) (fun u hu => hB u (by simp [hu])) (fun u hu => hc u (by rcases List.mem_append.1 hu with h | h <;> simp [h])) (by simp at hl; omega)
        rw [show ((A ++ B').length : Int) = ((A.length + B'.length : Nat) : Int) by simp, h]
        simp
def fromTo (i n : Nat) : List Int := (List.range' i (n - i)).map fun (k : Nat) => (k : Int)
theorem fromTo_cons {i n : Nat} (h : i < n) : fromTo i n = (i : Int) :: fromTo (i + 1) n := by
  unfold fromTo
  rw [show n - i = (n - (i + 1)) + 1 by omega, List.range'_succ, List.map_cons]
theorem sort_outer {x : List ShowT} (h : AllOk x) (hl : x.length ≤ 8) : ∀ (d i m : Nat), x.length - i = d → i ≤ x.length → d < m → F_slices_insertionSortCmpFunc_int__impl_RankShows_1__mut_L1 (x.length : Int) 0 x m (ranked x i ++ fromTo i x.length) (i : Int) = some (ranked x x.length) := by
  intro d
  induction d with
  | zero =>
    intro i m hd hi hm
    have : i = x.length := by omega
    subst this
    cases m with
    | zero => omega
    | succ m => rw [F_slices_insertionSortCmpFunc_int__impl_RankShows_1__mut_L1, if_neg (by simp)]; simp [fromTo]
  | succ d ih =>
    intro i m hd hi hm
    cases m with
    | zero => omega
    | succ m =>
      have hlt : i < x.length := by omega
      obtain ⟨A, B, e, hB, hA, hins⟩ := insAt_split (fun b => decide (cmpI x (i : Int) b < 0)) (ranked x i)
      have hlen := ranked_len x i
      have hmem := ranked_mem x i
      rw [e] at hlen hmem
      rw [F_slices_insertionSortCmpFunc_int__impl_RankShows_1__mut_L1, if_pos (by simp; omega), fromTo_cons hlt]
      have := sort_inner (F_slices_insertionSortCmpFunc_int__impl_RankShows_1__mut_L1 (x.length : Int) 0 x m) (i : Int) (i : Int) x (fun b => decide (cmpI x (i : Int) b < 0)) A hA B.length B (fromTo (i + 1) x.length) FU rfl (FU_gt (by simp at hlen; omega)) hB
        (fun b hb => ⟨cmpI x (i : Int) b, impl_cmp h ⟨by omega, by omega⟩ (by have := hmem b hb; omega), rfl⟩) (by simp at hlen; omega)
      rw [show ((A.length + B.length : Nat) : Int) = (i : Int) by simp at hlen; omega] at this
      rw [e, this, w64_succ (by omega)]
      have h2 := ih (i + 1) m (by omega) (by omega) (by omega)
      rw [ranked, hins] at h2
      exact h2
theorem impl_sort {x : List ShowT} (h : AllOk x) (hl : x.length ≤ 8) : F_slices_SortStableFunc_int_int__impl_RankShows_1__mut (fromTo 0 x.length) x = some (ranked x x.length) := by
  have hle : (fromTo 0 x.length).length = x.length := by simp [fromTo]
  unfold F_slices_SortStableFunc_int_int__impl_RankShows_1__mut F_slices_stableCmpFunc_int__impl_RankShows_1__mut
  have hi : F_slices_insertionSortCmpFunc_int__impl_RankShows_1__mut (fromTo 0 x.length) 0 (x.length : Int) x = some (ranked x x.length) := by
    unfold F_slices_insertionSortCmpFunc_int__impl_RankShows_1__mut
    rw [w64_eq (by omega) (by omega)]
    by_cases h0 : x.length = 0
    · rw [h0, show FU = 4611686018427387903 + 1 by rfl, F_slices_insertionSortCmpFunc_int__impl_RankShows_1__mut_L1, if_neg (by simp)]
      simp [fromTo, ranked]
    · have := sort_outer h hl (x.length - 1) 1 FU rfl (by omega) (FU_gt (by omega))
      rw [fromTo_cons (by omega : 0 < x.length)]
      have e : ranked x 1 = [0] := by simp [ranked, insAt]
      rw [e] at this
      exact this
  rw [hle, show FU = 4611686018427387903 + 1 by rfl, F_slices_stableCmpFunc_int__impl_RankShows_1__mut_L1, if_neg (by simp; omega), hi, Option.bind_some, show FU = 4611686018427387903 + 1 by rfl, F_slices_stableCmpFunc_int__impl_RankShows_1__mut_L2, if_neg (by simp; omega), Option.bind_some]
def rankAns (x : List ShowT) : List Int × Bool := if decide (x.length ≤ 8) && x.all okShow then (ranked x x.length, true) else ([], false)
theorem impl_RankShows (x : List ShowT) (h : ∀ u ∈ x, lensOk u) (_ : x.length ≤ 1048576) : F_impl_RankShows x = some (rankAns x) := by
  unfold F_impl_RankShows rankAns
  by_cases hl : x.length ≤ 8
  · rw [if_neg (by simp; omega)]
    have key : ∀ (d k m : Nat), x.length - k = d → k ≤ x.length → d < m → F_impl_RankShows_L1 x m ((List.range k).map fun (j : Nat) => (j : Int)) (k : Int) = if (x.drop k).all okShow then (Option.bind (F_slices_SortStableFunc_int_int__impl_RankShows_1__mut (fromTo 0 x.length) x) fun u => some (u, true)) else some ([], false) := by
      intro d
      induction d with
      | zero =>
        intro k m hd hk hm
        have : k = x.length := by omega
        subst this
        cases m with
        | zero => omega
        | succ m => rw [F_impl_RankShows_L1, if_neg (by simp)]; simp [fromTo, List.range_eq_range']
      | succ d ih =>
        intro k m hd hk hm
        cases m with
        | zero => omega
        | succ m =>
          have hlt : k < x.length := by omega
          have hq := h x[k] (List.getElem_mem hlt)
          rw [F_impl_RankShows_L1, if_pos (by simp; omega), idx_lt hlt, Option.bind_some, impl_IsShow _ hq.1 hq.2.1 hq.2.2, Option.bind_some, List.drop_eq_getElem_cons hlt, List.all_cons]
          cases ho : okShow x[k] with
          | false => simp
          | true =>
            rw [if_neg (by simp), app_ok (by simp; omega), Option.bind_some, w64_succ (by omega), Bool.true_and]
            have := ih (k + 1) m (by omega) (by omega) (by omega)
            rw [List.range_succ, List.map_append] at this
            exact this
    have := key x.length 0 FU rfl (by omega) (FU_gt (by omega))
    simp only [List.range_zero, List.map_nil, List.drop_zero] at this
    rw [show ((0 : Int)) = ((0 : Nat) : Int) by rfl, this]
    cases ha : x.all okShow with
    | false => simp
    | true =>
      rw [if_pos rfl, impl_sort ⟨List.all_eq_true.1 ha, h⟩ hl]
      simp [hl]
  · rw [if_pos (by simp; omega)]
    simp [hl]
theorem spec_inner {x : List ShowT} (h : AllOk x) (hl : x.length ≤ 8) (k71 : List Int → Option (List Int × Bool)) (i : Nat) (hi : i < x.length) (A B : List Int) (e : ranked x i = A ++ B) (hB : ∀ b ∈ B, decide (cmpI x (i : Int) b < 0) = true) (hA : A = [] ∨ ∃ A' a, A = A' ++ [a] ∧ decide (cmpI x (i : Int) a < 0) = false) :
    ∀ (n : Nat) (B1 B2 : List Int) (m : Nat), B1.length = n → n < m → B = B1 ++ B2 → F_spec_RankShows_L3 (ranked x i) (i : Int) k71 x ((x[((i : Int)).toNat]?).getD noShow) m ((A.length + B1.length : Nat) : Int) = k71 (A ++ (i : Int) :: B) := by
  have hlen := ranked_len x i
  have hmem := ranked_mem x i
  have cmp : ∀ b, 0 ≤ b → b < (x.length : Int) → F_spec_cpCompare ((x[((i : Int)).toNat]?).getD noShow) ((x[b.toNat]?).getD noShow) = some (cmpI x (i : Int) b) := fun b h0 h1 => by
    obtain ⟨_, m1⟩ := at_idx (x := x) (a := (i : Int)) (by omega) (by omega)
    obtain ⟨_, m2⟩ := at_idx (x := x) h0 h1
    exact spec_cpCompare _ _ (h.ls _ m1) (h.ls _ m2) (h.ok _ m1) (h.ok _ m2)
  intro n
  induction n with
  | zero =>
    intro B1 B2 m hn hm eB
    have : B1 = [] := List.eq_nil_of_length_eq_zero hn
    subst this
    cases m with
    | zero => omega
    | succ m =>
      rw [List.nil_append] at eB
      subst eB
      rw [F_spec_RankShows_L3]
      unfold jK1
      dsimp only
      rw [List.length_nil, Nat.add_zero]
      have ht : (ranked x i).take A.length = A := by rw [e]; simp
      have hd : (ranked x i).drop A.length = B := by rw [e]; simp
      rw [e] at hlen
      have hab : A.length + B.length = i := by simpa using hlen
      have fin : (Option.bind (sl (ranked x i) 0 (A.length : Int)) fun u113 => Option.bind (sl (ranked x i) (A.length : Int) (List.length (ranked x i) : Int)) fun u118 => Option.bind (F_spec_l1Own u113) fun u123 => Option.bind (app u123 [(i : Int)]) fun u143 => Option.bind (app u143 u118) fun u152 => k71 u152) = k71 (A ++ (i : Int) :: B) := by
        rw [sl_take _ (by rw [e]; simp), Option.bind_some, sl_drop _ (by rw [e]; simp), Option.bind_some, ht, hd, rank_own A (by omega), Option.bind_some, app_ok (by simp; omega), Option.bind_some, app_ok (by simp; omega), Option.bind_some]
        simp
      rcases hA with rfl | ⟨A', a, rfl, ha⟩
      · rw [if_neg (by simp)]
        rw [if_neg (by simp)]
        exact fin
      · have ha2 := hmem a (by rw [e]; simp)
        rw [if_pos (by simp <;> omega)]
        rw [show idx (ranked x i) (w64 (((A' ++ [a]).length : Int) - 1)) = some a by rw [e, List.append_assoc, List.singleton_append]; exact idx_mid' A' _ a (by rw [w64_eq (by simp <;> omega) (by simp at * <;> omega)]; simp)]
        rw [Option.bind_some, (at_idx ha2.1 (by omega)).1, Option.bind_some, cmp a ha2.1 (by omega), Option.bind_some, ha, if_neg (by simp)]
        exact fin
  | succ n ih =>
    intro B1 B2 m hn hm eB
    cases m with
    | zero => omega
    | succ m =>
      rcases List.eq_nil_or_concat B1 with rfl | ⟨B', b, rfl⟩
      · simp at hn
      · rw [List.concat_eq_append] at *
        have hn' : B'.length = n := by simpa using hn
        have hb2 := hmem b (by rw [e, eB]; simp)
        have hb := hB b (by rw [eB]; simp)
        have hab : (A ++ B).length = i := by rw [← e]; exact hlen
        have hab2 : A.length + (B'.length + 1) ≤ i := by rw [eB] at hab; simp at hab; omega
        rw [F_spec_RankShows_L3]
        unfold jK1
        dsimp only
        rw [if_pos (by simp <;> omega)]
        have ly : w64 (((A.length + (B' ++ [b]).length : Nat) : Int) - 1) = ((A ++ B').length : Int) := by rw [w64_eq (by simp <;> omega) (by simp <;> omega)]; simp <;> omega
        rw [ly, show idx (ranked x i) ((A ++ B').length : Int) = some b by rw [e, eB, show A ++ (B' ++ [b] ++ B2) = (A ++ B') ++ b :: B2 by simp]; exact idx_mid' _ _ _ rfl]
        rw [Option.bind_some, (at_idx hb2.1 (by omega)).1, Option.bind_some, cmp b hb2.1 (by omega), Option.bind_some, hb, if_pos rfl]
        have := ih B' (b :: B2) m hn' (by omega) (by rw [eB]; simp)
        rw [show ((A ++ B').length : Int) = ((A.length + B'.length : Nat) : Int) by simp]
        exact this
theorem spec_RankShows (x : List ShowT) (h : ∀ u ∈ x, lensOk u) (hn : x.length ≤ 1048576) : F_spec_RankShows x = some (rankAns x) := by
  unfold F_spec_RankShows rankAns
  rw [loopL (F_spec_RankShows_L1 x) x okShow (if (decide (8 < (List.length x : Int))) = true then some ([], false) else F_spec_RankShows_L2 x FU [] 0) (some ([], false)) (by omega) (fun m k u hk hu => ?_) (fun m => ?_)]
  · cases ha : x.all okShow with
    | false => simp
    | true =>
      by_cases hl : x.length ≤ 8
      · rw [if_pos rfl, if_neg (by simp; omega)]
        have hok : AllOk x := ⟨List.all_eq_true.1 ha, h⟩
        have key : ∀ (d k m : Nat), x.length - k = d → k ≤ x.length → d < m → F_spec_RankShows_L2 x m (ranked x k) (k : Int) = some (ranked x x.length, true) := by
          intro d
          induction d with
          | zero =>
            intro k m hd hk hm
            have : k = x.length := by omega
            subst this
            cases m with
            | zero => omega
            | succ m => rw [F_spec_RankShows_L2, if_neg (by simp)]
          | succ d ih =>
            intro k m hd hk hm
            cases m with
            | zero => omega
            | succ m =>
              have hlt : k < x.length := by omega
              obtain ⟨A, B, e, hB, hA, hins⟩ := insAt_split (fun b => decide (cmpI x (k : Int) b < 0)) (ranked x k)
              have hlen := ranked_len x k
              have hab : A.length + B.length = k := by rw [e] at hlen; simpa using hlen
              rw [F_spec_RankShows_L2, if_pos (by simp; omega)]
              unfold jK1
              dsimp only
              rw [(at_idx (x := x) (a := (k : Int)) (by omega) (by omega)).1, Option.bind_some, hlen]
              have := spec_inner hok hl (fun l => F_spec_RankShows_L2 x m l (w64 ((k : Int) + 1))) k hlt A B e hB hA B.length B [] FU rfl (FU_gt (by omega)) (by simp)
              rw [hab] at this
              rw [this, w64_succ (by omega), ← hins]
              exact ih (k + 1) m (by omega) (by omega) (by omega)
        have := key x.length 0 FU rfl (by omega) (FU_gt (by omega))
        rw [show ((0 : Int)) = ((0 : Nat) : Int) by rfl, show ([] : List Int) = ranked x 0 by rfl, this]
        simp [hl]
      · rw [if_pos rfl, if_pos (by simp; omega)]
        simp [hl]
  · have hq := h u (List.mem_of_getElem? hu)
    rw [F_spec_RankShows_L1, if_pos (by simp; omega), idx_nat, hu, Option.bind_some, spec_swGood _ hq.1 hq.2.1 hq.2.2, Option.bind_some, w64_succ (by omega)]
    cases okShow u <;> simp
  · rw [F_spec_RankShows_L1, if_neg (by simp)]
end Go.Proofs.Ytmkignciedkidaa
/-
  LEAST COUNTS, PLAIN.
-/
set_option linter.unusedSimpArgs false
set_option linter.unusedVariables false
namespace Go.Proofs.Ytmkignciedkidaa
open Go
theorem spec_stTwo (a b : Int × Int) : F_spec_stTwo a b = some (okSpot a && okSpot b) := by
  unfold F_spec_stTwo jK1
  dsimp only
  rw [spec_stGood, Option.bind_some, spec_stGood, Option.bind_some]
  cases okSpot a <;> simp
/-- The least counts for a way: 65 where there are none. -/
def leastN (a b : Int × Int) (s : Int) : Nat := upTo (fun n => withinB (a, b, (n : Int)) s) 64 1
def countsC (a b : Int × Int) (s : Int) : Int × Bool := if leastN a b s ≤ 64 then ((leastN a b s : Int), true) else (0, false)
def countsFor (a b : Int × Int) (s : Int) : Int × Bool := if okSpot a && okSpot b && okIn s 1 24 then countsC a b s else (0, false)
theorem counts_loop (f : Nat → Int → Option (Int × Bool)) (a b : Int × Int) (s : Int)
    (hs : ∀ m y, f (m + 1) y = if (decide (y ≤ 64)) = true then (if withinB (a, b, y) s = true then some (y, true) else f m (w64 (y + 1))) else some (0, false)) : f FU 1 = some (countsC a b s) := by
  have := loopUp f 65 (fun n => withinB (a, b, (n : Int)) s) (fun y => if y ≤ 64 then some (y, true) else some (0, false)) 1 (by omega) (fun m n h1 h2 => ?_) (fun m => ?_) (by omega)
  · rw [show ((1 : Nat) : Int) = 1 from rfl, show (65 - 1 : Nat) = 64 from rfl] at this
    rw [this]
    unfold countsC leastN
    have h := upTo_spec (fun n => withinB (a, b, (n : Int)) s) 64 1
    by_cases hq : upTo (fun n => withinB (a, b, (n : Int)) s) 64 1 ≤ 64
    · rw [if_pos hq, if_pos (by omega)]
    · rw [if_neg hq, if_neg (by omega)]
  · have h3 : (n : Int) ≤ 64 := by omega
    rw [hs, if_pos (by simpa using h3), w64_succ (by omega), if_pos h3]
  · rw [hs, if_neg (by decide), if_neg (by decide)]
theorem spec_LeastCounts (a b : Int × Int) (s : Int) : F_spec_LeastCounts a b s = some (countsFor a b s) := by
  unfold F_spec_LeastCounts jK1 countsFor
  dsimp only
  rw [spec_stTwo, Option.bind_some, spec_mvStep, Option.bind_some]
  cases okSpot a && okSpot b with
  | false => simp
  | true =>
    cases okIn s 1 24 with
    | false => simp
    | true =>
      simp only [Bool.not_true, Bool.false_eq_true, if_false, Bool.and_self, if_true]
      exact counts_loop (F_spec_LeastCounts_L1 a b s) a b s fun m y => by rw [F_spec_LeastCounts_L1, spec_mvWithin]; rfl
theorem impl_LeastCounts (a b : Int × Int) (s : Int) : F_impl_LeastCounts a b s = some (countsFor a b s) := by
  unfold F_impl_LeastCounts jK1 countsFor
  dsimp only
  rw [impl_IsSpot, Option.bind_some, impl_IsSpot, Option.bind_some, impl_within, Option.bind_some]
  cases okSpot a with
  | false => simp
  | true =>
    cases okSpot b with
    | false => simp
    | true =>
      cases okIn s 1 24 with
      | false => simp
      | true =>
        simp only [Bool.not_true, Bool.false_eq_true, if_false, Bool.and_self, if_true]
        exact counts_loop (F_impl_LeastCounts_L1 a b s) a b s fun m y => by rw [F_impl_LeastCounts_L1, impl_withinStep]; rfl
theorem countsFor_ge (a b : Int × Int) (s : Int) (h : (countsFor a b s).2 = true) : 1 ≤ (countsFor a b s).1 := by
  unfold countsFor at h ⊢
  split at h
  · rename_i hq
    rw [if_pos hq]
    unfold countsC leastN at h ⊢
    have := (upTo_spec (fun n => withinB (a, b, (n : Int)) s) 64 1).1
    split at h
    · rename_i h2
      rw [if_pos h2]
      show (1 : Int) ≤ ((upTo (fun n => withinB (a, b, (n : Int)) s) 64 1 : Nat) : Int)
      omega
    · cases h
  · cases h
/-- The greatest of least counts, from one on. -/
def mostC (x : ShowT) : List MoveT → Int → Int
  | [], s => s
  | u :: ms, s => mostC x ms (maxI s (countsFor u.1 u.2.1 x.2.2.2).1)
def goodC (x : ShowT) (u : MoveT) : Bool := (countsFor u.1 u.2.1 x.2.2.2).2
theorem most_loop {R : Type} (f : Nat → Int → Int → Option R) (x : ShowT) (ms : List MoveT) (bad : Option R) (rest : Int → Option R) (hl : ms.length < 4611686018427387904)
    (hs : ∀ m s y, f (m + 1) s y = if (decide (y < (List.length ms : Int))) = true then Option.bind (idx ms y) fun u => (if (!(countsFor u.1 u.2.1 x.2.2.2).2) = true then bad else f m (maxI s (countsFor u.1 u.2.1 x.2.2.2).1) (w64 (y + 1))) else rest s) :
    ∀ s, f FU s 0 = if ms.all (goodC x) = true then rest (mostC x ms s) else bad := by
  have key : ∀ d k m s, ms.length - k = d → k ≤ ms.length → ms.length - k < m → f m s (k : Int) = if (ms.drop k).all (goodC x) = true then rest (mostC x (ms.drop k) s) else bad := by
    intro d
    induction d with
    | zero =>
      intro k m s hd hk hm
      have : k = ms.length := by omega
      subst this
      cases m with
      | zero => omega
      | succ m => rw [hs, if_neg (by simp)]; simp [mostC]
    | succ d ih =>
      intro k m s hd hk hm
      cases m with
      | zero => omega
      | succ m =>
        have hk' : k < ms.length := by omega
        rw [hs, if_pos (by simp; omega), idx_lt hk', Option.bind_some, List.drop_eq_getElem_cons hk', List.all_cons, mostC, w64_succ (by omega)]
        unfold goodC
        cases hq : (countsFor ms[k].1 ms[k].2.1 x.2.2.2).2 with
        | false => simp
        | true =>
          simp only [Bool.not_true, Bool.false_eq_true, if_false, Bool.true_and]
          exact ih (k + 1) m _ (by omega) (by omega) (by omega)
  intro s
  have := key _ 0 FU s rfl (by omega) (FU_gt (by omega))
  rw [List.drop_zero] at this
  exact this
theorem most_same (x : ShowT) (ms : List MoveT) (h : ms.all (goodC x) = true) (h0 : ms ≠ []) : mostC x ms 1 = mostC x ms 0 := by
  cases ms with
  | nil => exact absurd rfl h0
  | cons u ms =>
    rw [List.all_cons, Bool.and_eq_true] at h
    have := countsFor_ge u.1 u.2.1 x.2.2.2 h.1
    unfold mostC maxI
    rw [show (if 1 < (countsFor u.1 u.2.1 x.2.2.2).1 then (countsFor u.1 u.2.1 x.2.2.2).1 else 1) = (if 0 < (countsFor u.1 u.2.1 x.2.2.2).1 then (countsFor u.1 u.2.1 x.2.2.2).1 else 0) by split <;> split <;> omega]
def partGood (x : ShowT) (p : Nat) : Bool := (movesOf x p).all (goodC x)
def leastCs (x : ShowT) : List Int × Bool := if (List.range x.2.1.length).all (partGood x) = true then ((List.range x.2.1.length).map fun p => mostC x (movesOf x p) 1, true) else ([], false)
/-- A loop that appends, and may end early. -/
theorem loopMapAll {β R : Type} (f : Nat → List β → Int → Option R) (n : Nat) (q : Nat → Bool) (g : Nat → β) (rest : List β → Option R) (bad : Option R) (hn : n < 4611686018427387904)
    (hs : ∀ m s k, k < n → s.length = k → f (m + 1) s (k : Int) = if q k = true then f m (s ++ [g k]) ((k + 1 : Nat) : Int) else bad) (he : ∀ m s, f (m + 1) s (n : Int) = rest s) :
    f FU [] 0 = if (List.range n).all q = true then rest ((List.range n).map g) else bad := by
  have key : ∀ d k m s, n - k = d → k ≤ n → n - k < m → s.length = k → f m s (k : Int) = if (List.range' k (n - k)).all q = true then rest (s ++ (List.range' k (n - k)).map g) else bad := by
    intro d
    induction d with
    | zero =>
      intro k m s hd hk hm hl
      have : k = n := by omega
      subst this
      cases m with
      | zero => omega
      | succ m => rw [he]; simp
    | succ d ih =>
      intro k m s hd hk hm hl
      cases m with
      | zero => omega
      | succ m =>
        rw [hs m s k (by omega) hl, hd, List.range'_succ, List.all_cons]
        cases hq : q k with
        | false => simp
        | true =>
          simp only [if_true, Bool.true_and, List.map_cons]
          rw [ih (k + 1) m _ (by omega) (by omega) (by omega) (by simp [hl]), show n - (k + 1) = d by omega]
          simp
  have := key n 0 FU [] (by omega) (by omega) (FU_gt (by omega)) rfl
  simpa [List.range_eq_range'] using this
def leastCsAns (x : ShowT) : List Int × Bool := if okShow x then leastCs x else ([], false)
theorem spec_LeastCountsOf (x : ShowT) (h : lensOk x) : F_spec_LeastCountsOf x = some (leastCsAns x) := by
  unfold F_spec_LeastCountsOf leastCsAns
  rw [spec_swGood x h.1 h.2.1 h.2.2, Option.bind_some]
  cases hs : okShow x with
  | false => simp
  | true =>
    have f := facts hs
    have h1 := f.n1
    have h2 := f.nc
    simp only [Bool.not_true, Bool.false_eq_true, if_false, if_true]
    rw [loopMapAll (F_spec_LeastCountsOf_L1 x) x.2.1.length (partGood x) (fun p => mostC x (movesOf x p) 1) (fun s => some (s, true)) (some ([], false)) (by omega) (fun m s p hp hsl => ?_) (fun m s => ?_)]
    · unfold leastCs
      split <;> rfl
    · have hl := moves_len x f p hp
      rw [F_spec_LeastCountsOf_L1, if_pos (by simp; omega), spec_swMoves x f p hp, Option.bind_some,
        most_loop (F_spec_LeastCountsOf_L2 (movesOf x p) x s (F_spec_LeastCountsOf_L1 x m) (p : Int)) x (movesOf x p) (some ([], false)) (fun t => F_spec_LeastCountsOf_L1 x m (s ++ [t]) ((p + 1 : Nat) : Int)) (by omega) (fun m' t y => ?_) 1]
      · rfl
      · rw [F_spec_LeastCountsOf_L2, app_ok (by simp; omega), Option.bind_some, w64_succ (k := p) (by omega)]
        congr 1
        congr 1
        funext u
        rw [spec_LeastCounts, Option.bind_some]
        congr 1
        unfold F_spec_l1Most maxI
        by_cases hq : t < (countsFor u.1 u.2.1 x.2.2.2).1
        · rw [if_neg (by simp; omega), if_pos hq]; rfl
        · by_cases hq2 : (countsFor u.1 u.2.1 x.2.2.2).1 < t
          · rw [if_pos (by simpa using hq2), if_neg hq]; rfl
          · rw [if_neg (by simpa using hq2), if_neg hq, show (countsFor u.1 u.2.1 x.2.2.2).1 = t by omega]; rfl
    · rw [F_spec_LeastCountsOf_L1, if_neg (by simp)]
theorem impl_LeastCountsOf (x : ShowT) (h : lensOk x) : F_impl_LeastCountsOf x = some (leastCsAns x) := by
  unfold F_impl_LeastCountsOf leastCsAns
  rw [impl_IsShow x h.1 h.2.1 h.2.2, Option.bind_some]
  cases hs : okShow x with
  | false => simp
  | true =>
    have f := facts hs
    have h1 := f.n1
    have h2 := f.nc
    simp only [Bool.not_true, Bool.false_eq_true, if_false, if_true]
    rw [loopMapAll (F_impl_LeastCountsOf_L1 x) x.2.1.length (partGood x) (fun p => mostC x (movesOf x p) 1) (fun s => some (s, true)) (some ([], false)) (by omega) (fun m s p hp hsl => ?_) (fun m s => ?_)]
    · unfold leastCs
      split <;> rfl
    · have hl := moves_len x f p hp
      have hne : movesOf x p ≠ [] := by
        obtain ⟨a, b, n, g1, _, _, _, g5, _⟩ := part_facts f hp
        intro e
        have : (movesOf x p).length = 0 := by rw [e]; rfl
        unfold movesOf at this
        rw [chartAt_of g1] at this
        simp at this
        rw [this] at g5
        simp at g5
      rw [F_impl_LeastCountsOf_L1, if_pos (by simp; omega), impl_showMoves x f p hp, Option.bind_some,
        most_loop (F_impl_LeastCountsOf_L2 (movesOf x p) x s (F_impl_LeastCountsOf_L1 x m) (p : Int)) x (movesOf x p) (some ([], false)) (fun t => F_impl_LeastCountsOf_L1 x m (s ++ [t]) ((p + 1 : Nat) : Int)) (by omega) (fun m' t y => ?_) 0]
      · unfold partGood
        split
        · rename_i hall
          rw [most_same x _ hall hne]
        · rfl
      · rw [F_impl_LeastCountsOf_L2, app_ok (by simp; omega), Option.bind_some, w64_succ (k := p) (by omega)]
        congr 1
        congr 1
        funext u
        rw [impl_LeastCounts, Option.bind_some]
    · rw [F_impl_LeastCountsOf_L1, if_neg (by simp)]
theorem leastCsAns_len (x : ShowT) : (leastCsAns x).1.length ≤ 8 := by
  unfold leastCsAns
  cases hs : okShow x with
  | false => simp
  | true =>
    have f := facts hs
    have := f.n1
    have := f.nc
    simp only [if_true]
    unfold leastCs
    split <;> simp
    omega
end Go.Proofs.Ytmkignciedkidaa
/-
  THE LAW FnDemands, PLAIN: it answers true.
-/
set_option linter.unusedSimpArgs false
set_option linter.unusedVariables false
namespace Go.Proofs.Ytmkignciedkidaa
open Go
/-! drawn lists of shows -/
theorem draw_RankShows (c : List Int) (h : Cu c 100000000 0) : Tot (F_spec_DrawRankShows c) fun v => v.length ≤ 1000 ∧ ∀ u ∈ v, shortShow u := by
  unfold F_spec_DrawRankShows
  refine Tot.bind (two_draw (c, 0, 0) h (by omega)) fun u9 h9 => ?_
  obtain ⟨ha, hb, e9, c9⟩ := h9
  refine Tot.bind (pick_ok (c, u9.2.2.2.1, u9.2.2.2.2) _ c9 (by omega)) fun u55 h55 => ?_
  have loop : ∀ (a s y : Int), Cu c 90000000 a → 0 ≤ y → y ≤ 100 → Tot (F_spec_DrawRankShows_L1 y c FU a s [u9.1, u9.2.1, u9.1]) fun v => v.length ≤ 1000 ∧ ∀ u ∈ v, shortShow u := by
    intro a s y hc h0 h1
    refine Tot.loop (fun k (s : Int × Int × List ShowT) => F_spec_DrawRankShows_L1 y c k s.1 s.2.1 s.2.2) (fun s => (y - s.2.2.length).toNat)
      (fun s => s.2.2.length ≤ 103 ∧ (∀ u ∈ s.2.2, shortShow u) ∧ Cu c (90000000 - 60000 * s.2.2.length) s.1) _ (fun k s hs ih => ?_) FU (a, s, [u9.1, u9.2.1, u9.1]) ⟨by simp, fun u hu => ?_, hc.mono (by simp) (by simp)⟩ (by show (y - (3 : Nat)).toNat < 4611686018427387904; omega)
    · obtain ⟨a, sd, l⟩ := s
      obtain ⟨hl, hu, hc⟩ := hs
      dsimp only at hl hu hc ih ⊢
      rw [F_spec_DrawRankShows_L1]
      refine Tot.ite (fun hlt => ?_) fun _ => Tot.some ⟨by omega, hu⟩
      have hlt' : (l.length : Int) < y := by simpa using hlt
      refine Tot.bind (show_draw (c, a, sd) hc (by show (50000 : Int) ≤ 90000000 - 60000 * l.length; omega)) fun u85 h85 => app_tot' (by simp; omega) ?_
      refine ih (u85.2.2.1, u85.2.2.2, l ++ [u85.1]) ⟨by simp; omega, fun u hm => ?_, h85.2.2.mono (by simp; omega) (by simp; omega)⟩ (by simp; omega)
      rcases List.mem_append.1 hm with hm | hm
      · exact hu u hm
      · rw [List.mem_singleton.1 hm]
        exact h85.1
    · simp at hu
      rcases hu with h | h | h
      · rw [h]; exact ha
      · rw [h]; exact hb
      · rw [h]; exact ha
  unfold jK3
  dsimp only
  have c55 := h55.2.2
  refine Tot.bind (one_ok (c, u55.2.2.1, u55.2.2.2) _ c55 (by show (2 : Int) ≤ 100000000 - 110000 - 2; omega)) fun u115 h115 => ?_
  refine Tot.ite (fun _ => ?_) fun _ => loop _ _ _ (h115.2.2.mono (by omega) (by show (90000000 : Int) ≤ 100000000 - 110000 - 2 - 2; omega)) (by have := h55.1; omega) (by have := h55.1; omega)
  refine Tot.bind (pick_ok (c, u115.2.2.1, u115.2.2.2) _ h115.2.2 (by show (2 : Int) ≤ 100000000 - 110000 - 2 - 2; omega)) fun u122 h122 => ?_
  have := h122.1
  rw [w64_eq (by omega) (by omega)]
  exact loop _ _ _ (h122.2.2.mono (by omega) (by show (90000000 : Int) ≤ 100000000 - 110000 - 2 - 2 - 2; omega)) (by omega) (by omega)
/-! demands, both ways -/
theorem sign_neg {p q : Int} (h1 : -1000000000000 ≤ p) (h2 : p ≤ 1000000000000) (h3 : -1000000000000 ≤ q) (h4 : q ≤ 1000000000000) : signI (w64 (q - p)) = 0 - signI (w64 (p - q)) := by
  rw [w64_eq (by omega) (by omega), w64_eq (by omega) (by omega)]
  unfold signI
  split <;> split <;> (try split) <;> (try split) <;> omega
theorem counts_bd {x : ShowT} (f : ShowFacts x) : 0 ≤ sumW x.2.1 ∧ sumW x.2.1 ≤ 1000000 := by
  have h1 := f.nc
  have h2 := f.n1
  have := fold_sum x.2.1 0 (fun u hu => by have := f.cn u hu; omega) (by omega) (by omega)
  have e : sumW x.2.1 = x.2.1.foldl (fun a u => w64 (a + u)) 0 := rfl
  have k : ∀ l : List Int, (∀ u ∈ l, 1 ≤ u ∧ u ≤ 64) → l.sum ≤ 64 * l.length := by
    intro l
    induction l with
    | nil => intro _; simp
    | cons u l ih =>
      intro h
      have := h u (by simp)
      have := ih fun v hv => h v (by simp [hv])
      rw [List.sum_cons, List.length_cons]
      omega
  have := k x.2.1 f.cn
  omega
theorem ways_bd {x : ShowT} (f : ShowFacts x) : 0 ≤ sumW (waysOf x) ∧ sumW (waysOf x) ≤ 10000000000 := by
  have h1 := f.nc
  have h2 := f.n1
  have e : sumW (waysOf x) = (sumT x x.2.1.length).1 := ways_sum f
  have := (sumT_all f _ (Nat.le_refl _)).2
  omega
theorem demand_neg {x y : ShowT} (fx : ShowFacts x) (fy : ShowFacts y) : demand y x = 0 - demand x y := by
  have c1 := counts_bd fx
  have c2 := counts_bd fy
  have w1 := ways_bd fx
  have w2 := ways_bd fy
  have u1 := filt_len (fun k => !safeAt x k) x.2.1.length
  have u2 := filt_len (fun k => !safeAt y k) y.2.1.length
  have a1 := fx.n1
  have a2 := fx.nc
  have a3 := fy.n1
  have a4 := fy.nc
  have v1 : (unsafs x).length ≤ x.2.1.length := u1
  have v2 : (unsafs y).length ≤ y.2.1.length := u2
  unfold demand
  by_cases h1 : (unsafs x).length = (unsafs y).length
  · rw [if_pos h1, if_pos h1.symm]
    by_cases h2 : sumW x.2.1 = sumW y.2.1
    · rw [if_pos h2, if_pos h2.symm]
      exact sign_neg (by omega) (by omega) (by omega) (by omega)
    · rw [if_neg h2, if_neg (Ne.symm h2)]
      exact sign_neg (by omega) (by omega) (by omega) (by omega)
  · rw [if_neg h1, if_neg (Ne.symm h1)]
    exact sign_neg (by omega) (by omega) (by omega) (by omega)
theorem demand_bd (x y : ShowT) : -1 ≤ demand x y ∧ demand x y ≤ 1 := by
  have key : ∀ n, -1 ≤ signI n ∧ signI n ≤ 1 := by
    intro n
    unfold signI
    split
    · omega
    · split <;> omega
  unfold demand
  split
  · split <;> exact key _
  · exact key _
/-! ranks are in order -/
def inOrder (x : List ShowT) (l : List Int) : Prop := ∀ (k : Nat) a b, l[k]? = some a → l[k + 1]? = some b → cmpI x a b < 0 ∨ cmpI x a b = 0 ∧ a < b
theorem ranked_order {x : List ShowT} (hx : AllOk x) : ∀ n, n ≤ x.length → inOrder x (ranked x n) := by
  intro n
  induction n with
  | zero => intro _ k a b ha; simp [ranked] at ha
  | succ n ih =>
    intro hn
    have ih := ih (by omega)
    obtain ⟨A, B, e, hB, hA, hins⟩ := insAt_split (fun b => decide (cmpI x (n : Int) b < 0)) (ranked x n)
    have hmem := ranked_mem x n
    rw [e] at ih hmem
    rw [ranked, hins]
    intro k a b ha hb
    by_cases h1 : k + 1 < A.length
    · rw [List.getElem?_append_left (by omega)] at ha hb
      exact ih k a b (by rw [List.getElem?_append_left (by omega)]; exact ha) (by rw [List.getElem?_append_left (by omega)]; exact hb)
    · by_cases h2 : k + 1 = A.length
      · rw [List.getElem?_append_left (by omega)] at ha
        rw [List.getElem?_append_right (by omega), h2, Nat.sub_self, List.getElem?_cons_zero] at hb
        cases hb
        rcases hA with rfl | ⟨A', z, rfl, hz⟩
        · simp at h2
        · have hk : k = A'.length := by simpa using h2
          subst hk
          simp at ha
          subst ha
          have hz' : ¬ cmpI x (n : Int) z < 0 := by simpa using hz
          have hm := hmem z (by simp)
          obtain ⟨_, m1⟩ := at_idx (x := x) (a := (n : Int)) (by omega) (by omega)
          obtain ⟨_, m2⟩ := at_idx (x := x) (a := z) (by omega) (by omega)
          have hneg : cmpI x z (n : Int) = 0 - cmpI x (n : Int) z := demand_neg (facts (hx.ok _ m1)) (facts (hx.ok _ m2))
          by_cases h0 : cmpI x (n : Int) z = 0
          · exact .inr ⟨by omega, hm.2⟩
          · exact .inl (by omega)
      · by_cases h3 : k = A.length
        · subst h3
          rw [List.getElem?_append_right (by omega), Nat.sub_self, List.getElem?_cons_zero] at ha
          cases ha
          rw [List.getElem?_append_right (by omega), show A.length + 1 - A.length = 0 + 1 by omega, List.getElem?_cons_succ] at hb
          left
          have := hB b (List.mem_of_getElem? hb)
          simpa using this
        · obtain ⟨j, hj⟩ : ∃ j, k = A.length + 1 + j := ⟨k - A.length - 1, by omega⟩
          subst hj
          rw [List.getElem?_append_right (by omega), show A.length + 1 + j - A.length = j + 1 by omega, List.getElem?_cons_succ] at ha
          rw [List.getElem?_append_right (by omega), show A.length + 1 + j + 1 - A.length = j + 1 + 1 by omega, List.getElem?_cons_succ] at hb
          exact ih (A.length + j) a b (by rw [List.getElem?_append_right (by omega), show A.length + j - A.length = j by omega]; exact ha) (by rw [List.getElem?_append_right (by omega), show A.length + j + 1 - A.length = j + 1 by omega]; exact hb)
/-! least steps and counts just keep -/
theorem wides_zero (x : ShowT) (p : Nat) : (widesOf x p).length = 0 ↔ (movesOf x p).all (fun u => withinB u x.2.2.2) = true := by
  have := wides_none x p
  cases h : (movesOf x p).all (fun u => withinB u x.2.2.2) with
  | true =>
    rw [h] at this
    simp at this
    simp [this]
  | false =>
    rw [h] at this
    simp at this
    constructor
    · intro e; omega
    · intro e; cases e
theorem allIn_iff (x : ShowT) (s : Nat) : allIn' x s = true ↔ ∀ p, p < x.2.1.length → (movesOf x p).all (fun u => withinB u (s : Int)) = true := by
  unfold allIn' allMoves
  rw [List.all_flatMap, List.all_eq_true]
  exact ⟨fun h p hp => h p (List.mem_range.2 hp), fun h p hp => h p (List.mem_range.1 hp)⟩
theorem within_counts {a b : Int × Int} {s : Int} {n m : Nat} (hs : 1 ≤ s ∧ s ≤ 24) (h1 : 1 ≤ n) (h : n ≤ m) (hm : m ≤ 64) (hw : withinB (a, b, (n : Int)) s = true) : withinB (a, b, (m : Int)) s = true := by
  rw [within_iff (u := (a, b, (n : Int))) ⟨by show (1 : Int) ≤ n; omega, by show (n : Int) ≤ 64; omega⟩ (by omega), decide_eq_true_eq] at hw
  rw [within_iff (u := (a, b, (m : Int))) ⟨by show (1 : Int) ≤ m; omega, by show (m : Int) ≤ 64; omega⟩ (by omega), decide_eq_true_eq]
  have e : sqM (a, b, (n : Int)) = sqM (a, b, (m : Int)) := rfl
  rw [e] at hw
  have h0 : 0 ≤ s * s := Int.mul_nonneg (by omega) (by omega)
  have h2 : s * s * (n : Int) ≤ s * s * (m : Int) := Int.mul_le_mul_of_nonneg_left (by omega) h0
  have h3 : 0 ≤ s * s * (m : Int) := Int.mul_nonneg h0 (by omega)
  have h4 : s * s * (n : Int) * n ≤ s * s * (m : Int) * n := Int.mul_le_mul_of_nonneg_right h2 (by omega)
  have h5 : s * s * (m : Int) * n ≤ s * s * (m : Int) * m := Int.mul_le_mul_of_nonneg_left (by omega) h3
  show sqM (a, b, (m : Int)) ≤ s * s * (m : Int) * m
  exact Int.le_trans hw (Int.le_trans h4 h5)
/-- Within from the least counts on. -/
theorem within_least {a b : Int × Int} {s : Int} (hs : 1 ≤ s ∧ s ≤ 24) (hl : leastN a b s ≤ 64) {n : Nat} (h1 : 1 ≤ n) (hn : n ≤ 64) : withinB (a, b, (n : Int)) s = true ↔ leastN a b s ≤ n := by
  obtain ⟨a1, a2, a3, a4⟩ := upTo_spec (fun n => withinB (a, b, (n : Int)) s) 64 1
  have e : leastN a b s = upTo (fun n => withinB (a, b, (n : Int)) s) 64 1 := rfl
  rw [← e] at a1 a2 a3 a4
  constructor
  · intro h
    by_cases hlt : n < leastN a b s
    · have := a4 n h1 hlt
      rw [h] at this
      cases this
    · omega
  · intro h
    exact within_counts hs a1 h hn (a3 (by omega))
theorem mostC_spec (x : ShowT) : ∀ (ms : List MoveT) (s : Int), ms.all (goodC x) = true → s ≤ mostC x ms s ∧ (∀ u ∈ ms, (countsFor u.1 u.2.1 x.2.2.2).1 ≤ mostC x ms s) ∧ (mostC x ms s = s ∨ ∃ u ∈ ms, (countsFor u.1 u.2.1 x.2.2.2).1 = mostC x ms s)
  | [], s, _ => ⟨Int.le_refl _, fun u hu => (by cases hu), .inl rfl⟩
  | u :: ms, s, h => by
    rw [List.all_cons, Bool.and_eq_true] at h
    obtain ⟨h1, h2, h3⟩ := mostC_spec x ms (maxI s (countsFor u.1 u.2.1 x.2.2.2).1) h.2
    have hm : s ≤ maxI s (countsFor u.1 u.2.1 x.2.2.2).1 ∧ (countsFor u.1 u.2.1 x.2.2.2).1 ≤ maxI s (countsFor u.1 u.2.1 x.2.2.2).1 ∧ (maxI s (countsFor u.1 u.2.1 x.2.2.2).1 = s ∨ maxI s (countsFor u.1 u.2.1 x.2.2.2).1 = (countsFor u.1 u.2.1 x.2.2.2).1) := by
      unfold maxI
      split <;> omega
    rw [mostC]
    refine ⟨by omega, fun v hv => ?_, ?_⟩
    · rcases List.mem_cons.1 hv with rfl | hv
      · omega
      · exact h2 v hv
    · rcases h3 with h3 | ⟨v, hv, hv2⟩
      · rcases hm.2.2 with h4 | h4
        · exact .inl (by omega)
        · exact .inr ⟨u, by simp, by omega⟩
      · exact .inr ⟨v, by simp [hv], hv2⟩
/-- What the law asks of a part's least counts. -/
theorem counts_keep {x : ShowT} (f : ShowFacts x) {p : Nat} (hp : p < x.2.1.length) (hg : partGood x p = true) : ∃ n : Nat, mostC x (movesOf x p) 1 = (n : Int) ∧ 1 ≤ n ∧ n ≤ 64 ∧
    (movesOf x p).all (fun u => withinB (u.1, u.2.1, (n : Int)) x.2.2.2) = true ∧ (2 ≤ n → (movesOf x p).all (fun u => withinB (u.1, u.2.1, ((n - 1 : Nat) : Int)) x.2.2.2) = false) := by
  have hs := f.st
  unfold partGood at hg
  obtain ⟨h1, h2, h3⟩ := mostC_spec x (movesOf x p) 1 hg
  have good : ∀ u ∈ movesOf x p, leastN u.1 u.2.1 x.2.2.2 ≤ 64 ∧ (countsFor u.1 u.2.1 x.2.2.2).1 = (leastN u.1 u.2.1 x.2.2.2 : Int) := by
    intro u hu
    have := List.all_eq_true.1 hg u hu
    unfold goodC countsFor at this
    unfold countsFor
    split at this
    · rename_i hq
      rw [if_pos hq]
      unfold countsC at this ⊢
      split at this
      · rename_i h64
        rw [if_pos h64]
        exact ⟨h64, rfl⟩
      · cases this
    · cases this
  have hle : mostC x (movesOf x p) 1 ≤ 64 := by
    rcases h3 with h3 | ⟨u, hu, h3⟩
    · omega
    · have := good u hu; omega
  refine ⟨(mostC x (movesOf x p) 1).toNat, by omega, by omega, by omega, List.all_eq_true.2 fun u hu => ?_, fun hn2 => ?_⟩
  · have g := good u hu
    have := h2 u hu
    rw [within_least hs g.1 (by omega) (by omega)]
    omega
  · rcases h3 with h3 | ⟨u, hu, h3⟩
    · omega
    · rw [List.all_eq_false]
      refine ⟨u, hu, ?_⟩
      have g := good u hu
      rw [within_least hs g.1 (by omega) (by omega)]
      omega
/-! the law -/
theorem ok_step {x : ShowT} (h : okShow x = true) {s : Int} (h1 : 1 ≤ s) (h2 : s ≤ 24) : okShow (x.1, x.2.1, x.2.2.1, s) = true := by
  unfold okShow at h ⊢
  simp only [Bool.and_eq_true, okIn_iff] at h ⊢
  exact ⟨h.1, h1, h2⟩
theorem ok_counts {x : ShowT} (h : okShow x = true) {p : Nat} {n : Int} (h1 : 1 ≤ n) (h2 : n ≤ 64) : okShow (x.1, x.2.1.set p n, x.2.2.1, x.2.2.2) = true := by
  have f := facts h
  unfold okShow okCounts at h ⊢
  simp only [Bool.and_eq_true, okIn_iff, List.length_set, decide_eq_true_eq] at h ⊢
  refine ⟨⟨⟨h.1.1.1, ?_⟩, h.1.2⟩, h.2⟩
  rw [List.all_eq_true]
  intro u hu
  rw [okIn_iff]
  rcases List.mem_or_eq_of_mem_set hu with hu | rfl
  · exact f.cn u hu
  · exact ⟨h1, h2⟩
theorem moves_counts {x : ShowT} {p : Nat} (hp : p < x.2.1.length) (n : Int) : movesOf (x.1, x.2.1.set p n, x.2.2.1, x.2.2.2) p = (movesOf x p).map fun u => (u.1, u.2.1, n) := by
  unfold movesOf
  rw [List.map_map]
  apply List.map_congr_left
  intro i _
  have : countsAt (x.1, x.2.1.set p n, x.2.2.1, x.2.2.2) p = n := by unfold countsAt; simp [hp]
  rw [this]
  rfl
def leastStepAns (x : ShowT) : Int × Bool := if okShow x then leastAns x else (0, false)
theorem P_laws_FnDemands (x0 x1 : List Int) (g0 : (allG inU8) x0) (g1 : (allG inU8) x1) : F_laws_FnDemands x0 x1 = some true := by
  refine Tot.of ?_
  unfold F_laws_FnDemands
  refine Tot.ite (fun _ => Tot.some rfl) fun _ => ?_
  refine Tot.bind (draw_LeastCountsOf x0 (Cu.begin g0)) fun x hx => ?_
  have lx := hx.lens
  refine Tot.bindE (impl_LeastCountsOf _ lx) (Tot.bindE (spec_LeastCountsOf _ lx) ?_)
  refine Tot.bindE (v := leastStepAns x) (impl_LeastStepOf _ lx) (Tot.bindE (v := leastStepAns x) (spec_LeastStepOf _ lx) ?_)
  refine Tot.bind (draw_CompareDemand x1 (Cu.begin g1)) fun u59 h59 => ?_
  have la := h59.1.lens
  have lb := h59.2.lens
  refine Tot.bindE (impl_CompareDemand _ _ la lb) (Tot.bindE (spec_CompareDemand _ _ la lb) ?_)
  refine Tot.bind (draw_RankShows x1 (Cu.begin g1)) fun L hL => ?_
  have lL : ∀ u ∈ L, lensOk u := fun u hu => (hL.2 u hu).lens
  refine Tot.bindE (impl_RankShows _ lL (by omega)) (Tot.bindE (spec_RankShows _ lL (by omega)) ?_)
  have rl : (rankAns L).1.length ≤ 1048576 := by
    unfold rankAns
    split
    · show (ranked L L.length).length ≤ _
      rw [ranked_len]; omega
    · simp
  have cl := leastCsAns_len x
  refine Tot.j2 (fun l y => l = L ∧ y = false) (fun l y hy => ?_) fun k hk => ?_
  rotate_left
  · rw [if_neg (by simp)]
    refine Tot.bindE (qq_Ints _ (by omega)) ?_
    rw [if_neg (by simp), if_neg (by simp), if_neg (by simp), if_neg (by simp), if_neg (by simp), if_neg (by simp)]
    exact Tot.bindE (qq_Ints _ rl) (hk _ _ ⟨rfl, rfl⟩)
  obtain ⟨rfl, rfl⟩ := hy
  simp only [Bool.false_eq_true, if_false]
  refine Tot.j1 (fun l2 => l2 = l) (fun l2 hl2 => ?_) fun k hk => ?_
  rotate_left
  · -- both ways
    refine Tot.ite (fun hok => ?_) fun _ => hk _ rfl
    have ho : okShow u59.1 = true ∧ okShow u59.2 = true := by
      unfold cmpAns at hok
      cases h1 : okShow u59.1 <;> cases h2 : okShow u59.2 <;> simp [h1, h2] at hok ⊢
    have e1 : cmpAns u59.1 u59.2 = (demand u59.1 u59.2, true) := by unfold cmpAns; rw [ho.1, ho.2]; rfl
    have e2 : cmpAns u59.2 u59.1 = (demand u59.2 u59.1, true) := by unfold cmpAns; rw [ho.1, ho.2]; rfl
    have hb := demand_bd u59.1 u59.2
    refine Tot.bindE (impl_CompareDemand _ _ lb la) ?_
    rw [e1, e2]
    refine Tot.j2 (fun l2 y => l2 = l ∧ y = false) (fun l2 y hy => by obtain ⟨rfl, rfl⟩ := hy; simpa using hk _ rfl) fun k2 hk2 => ?_
    rw [if_neg (by simp)]
    refine hk2 _ _ ⟨rfl, ?_⟩
    rw [w64_eq (by dsimp only; omega) (by dsimp only; omega), demand_neg (facts ho.1) (facts ho.2)]
    simp
  subst hl2
  refine Tot.j0 ?_ fun k hk => ?_
  rotate_left
  · -- ranks
    refine Tot.ite (fun hok => ?_) fun _ => hk
    have hr : l2.length ≤ 8 ∧ l2.all okShow = true := by
      unfold rankAns at hok
      split at hok
      · rename_i h
        simpa using h
      · cases hok
    have hA : AllOk l2 := ⟨List.all_eq_true.1 hr.2, lL⟩
    have er : rankAns l2 = (ranked l2 l2.length, true) := by unfold rankAns; rw [hr.2, decide_eq_true hr.1]; rfl
    have hlen := ranked_len l2 l2.length
    have hmem := ranked_mem l2 l2.length
    have hord := ranked_order hA l2.length (Nat.le_refl _)
    rw [er]
    obtain ⟨v, hv, hv2⟩ := hk
    rw [hv]
    have fin : F_laws_FnDemands_L1 (ranked l2 l2.length, true) (some v) FU l2 1 = some v := by
      have := loopR (fun m z => F_laws_FnDemands_L1 (ranked l2 l2.length, true) (some v) m l2 (z + 1)) (l2.length - 1) (fun _ => true) (some v) (some false) (by omega) (fun m k hk => ?_) (fun m => ?_)
      · rw [if_pos (by simp)] at this
        exact this
      · obtain ⟨a, ha⟩ : ∃ a, (ranked l2 l2.length)[k]? = some a := ⟨_, List.getElem?_eq_getElem (by omega)⟩
        obtain ⟨b, hb⟩ : ∃ b, (ranked l2 l2.length)[k + 1]? = some b := ⟨_, List.getElem?_eq_getElem (by omega)⟩
        have ma := hmem a (List.mem_of_getElem? ha)
        have mb := hmem b (List.mem_of_getElem? hb)
        obtain ⟨ea, na⟩ := at_idx (x := l2) ma.1 ma.2
        obtain ⟨eb, nb⟩ := at_idx (x := l2) mb.1 mb.2
        have ho := hord k a b ha hb
        have hc : cmpAns ((l2[a.toNat]?).getD noShow) ((l2[b.toNat]?).getD noShow) = (cmpI l2 a b, true) := by unfold cmpAns; rw [hA.ok _ na, hA.ok _ nb]; rfl
        have e1 : w64 ((k : Int) + 1 - 1) = (k : Int) := by rw [w64_eq (by omega) (by omega)]; omega
        have e2 : ((k : Int) + 1) = ((k + 1 : Nat) : Int) := by omega
        rw [F_laws_FnDemands_L1, if_pos (by simp; omega), e1, idx_nat]
        dsimp only
        rw [ha, Option.bind_some, ea, Option.bind_some, e2, idx_nat, hb, Option.bind_some, eb, Option.bind_some, impl_CompareDemand _ _ (lL _ na) (lL _ nb), Option.bind_some, Option.bind_some, ea, Option.bind_some, Option.bind_some, eb, Option.bind_some, spec_CompareDemand _ _ (lL _ na) (lL _ nb), Option.bind_some, hc]
        unfold jK2
        dsimp only
        rw [if_neg (by simp), if_neg (by simp), if_neg (by simp), if_neg (by simp; omega), w64_succ (by omega)]
        by_cases h0 : cmpI l2 a b = 0
        · rw [if_pos (by simp [h0]), Option.bind_some, Option.bind_some]
          have : ¬ b < a := by omega
          simp [this]
        · rw [if_neg (by simp [h0])]
          simp
      · rw [F_laws_FnDemands_L1, if_neg (by simp; omega), if_neg (by simp; omega)]
    exact ⟨v, fin, hv2⟩
  refine Tot.j0 ?_ fun k hk => ?_
  · -- least counts
    refine Tot.ite (fun _ => Tot.some rfl) fun hok => ?_
    have ho : okShow x = true := by
      cases h : okShow x with
      | true => rfl
      | false => unfold leastCsAns at hok; rw [h] at hok; simp at hok
    have f := facts ho
    have n1 := f.n1
    have nc := f.nc
    have hall : (List.range x.2.1.length).all (partGood x) = true := by
      cases h : (List.range x.2.1.length).all (partGood x) with
      | true => rfl
      | false => unfold leastCsAns leastCs at hok; rw [ho, h] at hok; simp at hok
    have el : leastCsAns x = ((List.range x.2.1.length).map (fun p => mostC x (movesOf x p) 1), true) := by unfold leastCsAns leastCs; rw [ho, if_pos rfl, if_pos hall]
    rw [el]
    refine Tot.ite (fun h => by simp at h) fun _ => ?_
    have fin : F_laws_FnDemands_L4 ((List.range x.2.1.length).map (fun p => mostC x (movesOf x p) 1), true) x FU 0 = some true := by
      rw [loopR (F_laws_FnDemands_L4 ((List.range x.2.1.length).map (fun p => mostC x (movesOf x p) 1), true) x) x.2.1.length (fun _ => true) (some true) (some false) (by omega) (fun m p hp => ?_) (fun m => by rw [F_laws_FnDemands_L4, if_neg (by simp)])]
      · rw [if_pos (by simp)]
      · obtain ⟨n, en, hn1, hn64, hin, hout⟩ := counts_keep f hp (List.all_eq_true.1 hall p (List.mem_range.2 hp))
        have ei : ((List.range x.2.1.length).map (fun p => mostC x (movesOf x p) 1))[p]? = some (n : Int) := by
          rw [List.getElem?_map, List.getElem?_range hp, Option.map_some, en]
        -- one less or not
        have one : ∀ (j : Nat) (N : Option Bool), j ≤ 1 → 1 ≤ (n : Int) - j → ∀ (k213 : Option Bool), (Option.bind (app [] x.2.1) fun u230 => Option.bind (idx u230 (p : Int)) fun u238 =>
            Option.bind (F_impl_WideSteps (x.1, (seti u230 (p : Int) (w64 ((n : Int) - j))), x.2.2.1, x.2.2.2) (p : Int)) fun u247 =>
            Option.bind (F_spec_WideSteps (x.1, (seti u230 (p : Int) (w64 ((n : Int) - j))), x.2.2.1, x.2.2.2) (p : Int)) fun u256 =>
            jK1 (fun (y268 : Bool) => (if y268 = true then some false else k213)) (fun k269 => (if (!u247.2) = true then k269 (true) else (if (!u256.2) = true then k269 (true) else Option.bind (F_laws_qInts u247.1 u256.1) fun u275 =>
            (if (!u275) = true then k269 (true) else k269 ((((List.length u256.1 : Int) == 0) != ((j : Int) == 0)))))))) = k213 := by
          intro j N hj hn k213
          have hoz : okShow (x.1, x.2.1.set p ((n : Int) - j), x.2.2.1, x.2.2.2) = true := ok_counts ho (by omega) (by omega)
          have lz : lensOk (x.1, x.2.1.set p ((n : Int) - j), x.2.2.1, x.2.2.2) := ⟨lx.1, lx.2.1, by show (x.2.1.set p _).length < _; rw [List.length_set]; exact lx.2.2⟩
          have hop : okPart (x.1, x.2.1.set p ((n : Int) - j), x.2.2.1, x.2.2.2) (p : Int) = true := by
            unfold okPart
            rw [hoz, Bool.true_and, okIn_iff]
            show (0 : Int) ≤ p ∧ (p : Int) ≤ ((x.2.1.set p _).length : Int) - 1
            rw [List.length_set]
            omega
          have ew : wideAns (x.1, x.2.1.set p ((n : Int) - j), x.2.2.1, x.2.2.2) (p : Int) = (widesOf (x.1, x.2.1.set p ((n : Int) - j), x.2.2.1, x.2.2.2) p, true) := by unfold wideAns; rw [hop, Int.toNat_natCast]; rfl
          have wl := wideAns_len (x.1, x.2.1.set p ((n : Int) - j), x.2.2.1, x.2.2.2) (p : Int)
          rw [ew] at wl
          dsimp only at wl
          have hz := wides_zero (x.1, x.2.1.set p ((n : Int) - j), x.2.2.1, x.2.2.2) p
          rw [moves_counts hp, List.all_map] at hz
          rw [app_ok (by simp; omega), Option.bind_some, List.nil_append, idx_nat, List.getElem?_eq_getElem hp, Option.bind_some, w64_eq (x := (n : Int) - j) (by omega) (by omega), seti_nat, impl_WideSteps _ _ lz, Option.bind_some, spec_WideSteps _ _ lz, Option.bind_some, ew]
          unfold jK1
          dsimp only
          rw [if_neg (by simp), if_neg (by simp), qq_Ints _ (by omega), Option.bind_some, if_neg (by simp)]
          rcases Nat.lt_or_ge j 1 with h0 | h1
          · have : j = 0 := by omega
            subst this
            have e : (widesOf (x.1, x.2.1.set p ((n : Int) - (0 : Nat)), x.2.2.1, x.2.2.2) p).length = 0 := by
              rw [hz]
              rw [show (n : Int) - (0 : Nat) = (n : Int) by omega]
              exact hin
            rw [e]
            simp
          · have : j = 1 := by omega
            subst this
            have e : ¬ (widesOf (x.1, x.2.1.set p ((n : Int) - (1 : Nat)), x.2.2.1, x.2.2.2) p).length = 0 := by
              rw [hz]
              have := hout (by omega)
              rw [show ((n - 1 : Nat) : Int) = (n : Int) - (1 : Nat) by omega] at this
              intro h
              exact Bool.false_ne_true (this.symm.trans h)
            have e2 : (((widesOf (x.1, x.2.1.set p ((n : Int) - (1 : Nat)), x.2.2.1, x.2.2.2) p).length : Int) == 0) = false := by rw [beq_eq_false_iff_ne]; intro h; exact e (by omega)
            rw [e2]
            simp
        rw [F_laws_FnDemands_L4, if_pos (by simp; omega), idx_nat]
        dsimp only
        rw [ei, Option.bind_some, if_pos rfl]
        have h5 := loopR (F_laws_FnDemands_L5 (n : Int) x (p : Int) (F_laws_FnDemands_L4 ((List.range x.2.1.length).map (fun p => mostC x (movesOf x p) 1), true) x m)) 2 (fun _ => true) (F_laws_FnDemands_L4 ((List.range x.2.1.length).map (fun p => mostC x (movesOf x p) 1), true) x m ((p + 1 : Nat) : Int)) (some false) (by omega) (fun m' j hj => ?_) (fun m' => ?_)
        · rw [if_pos (by simp)] at h5
          exact h5
        · have ej : idx [(0 : Int), 1] (j : Int) = some (j : Int) := by
            rw [idx_nat]
            match j, hj with
            | 0, _ => rfl
            | 1, _ => rfl
          rw [F_laws_FnDemands_L5, if_pos (by simp; omega)]
          unfold jK0
          dsimp only
          rw [ej, Option.bind_some, w64_succ (k := j) (by omega), if_pos rfl]
          by_cases hlt : (n : Int) - j < 1
          · rw [if_pos (by rw [w64_eq (by omega) (by omega)]; simpa using hlt)]
          · rw [if_neg (by rw [w64_eq (by omega) (by omega)]; simpa using hlt)]
            exact one j none (by omega) (by omega) _
        · rw [F_laws_FnDemands_L5, if_neg (by simp), w64_succ (k := p) (by omega)]
    exact ⟨true, fin, rfl⟩
  -- the least step
  refine Tot.ite (fun hok => ?_) fun _ => hk
  have ho : okShow x = true := by
    cases h : okShow x with
    | true => rfl
    | false => unfold leastStepAns at hok; rw [h] at hok; simp at hok
  have f := facts ho
  have n1 := f.n1
  have nc := f.nc
  have hle : leastStep x ≤ 24 := by
    unfold leastStepAns leastAns at hok
    rw [ho, if_pos rfl] at hok
    split at hok
    · cases hok
    · omega
  have el : leastStepAns x = ((leastStep x : Int), true) := by unfold leastStepAns leastAns; rw [ho, if_pos rfl, if_neg (by omega)]
  obtain ⟨a1, a2, a3, a4⟩ := upTo_spec (allIn' x) 24 1
  have e : upTo (allIn' x) 24 1 = leastStep x := rfl
  rw [e] at a1 a2 a3 a4
  rw [el]
  obtain ⟨v, hv, hv2⟩ := hk
  rw [hv]
  refine ⟨v, ?_, hv2⟩
  have h2 := loopR (F_laws_FnDemands_L2 ((leastStep x : Int), true) x (some v)) 2 (fun _ => true) (some v) (some false) (by omega) (fun m j hj => ?_) (fun m => by rw [F_laws_FnDemands_L2, if_neg (by simp)])
  · rw [if_pos (by simp)] at h2
    exact h2
  · have ej : idx [(0 : Int), 1] (j : Int) = some (j : Int) := by
      rw [idx_nat]
      match j, hj with
      | 0, _ => rfl
      | 1, _ => rfl
    rw [F_laws_FnDemands_L2, if_pos (by simp; omega)]
    unfold jK0
    dsimp only
    rw [ej, Option.bind_some, w64_succ (k := j) (by omega), if_pos rfl]
    have ew : w64 ((leastStep x : Int) - j) = (leastStep x : Int) - j := w64_eq (by omega) (by omega)
    by_cases hlt : (leastStep x : Int) - j < 1
    · rw [if_pos (by rw [ew]; simpa using hlt)]
    · rw [if_neg (by rw [ew]; simpa using hlt)]
      obtain ⟨t, ht⟩ : ∃ t : Nat, (leastStep x : Int) - j = (t : Int) := ⟨((leastStep x : Int) - j).toNat, by omega⟩
      have hoz : okShow (x.1, x.2.1, x.2.2.1, (t : Int)) = true := ok_step ho (by omega) (by omega)
      have lz : lensOk (x.1, x.2.1, x.2.2.1, (t : Int)) := lx
      have main := (loopS (fun m' (s : Int) y => F_laws_FnDemands_L3 x ((leastStep x : Int), true) (j : Int) (F_laws_FnDemands_L2 ((leastStep x : Int), true) x (some v) m ((j + 1 : Nat) : Int)) m' s y) x.2.1.length
        (fun p s => s + ((widesOf (x.1, x.2.1, x.2.2.1, (t : Int)) p).length : Int)) (fun s => if ((s == 0) != ((j : Int) == 0)) = true then some false else F_laws_FnDemands_L2 ((leastStep x : Int), true) x (some v) m ((j + 1 : Nat) : Int)) (by omega)
        (fun p s => 0 ≤ s ∧ s ≤ 12 * p ∧ (s = 0 ↔ ∀ q, q < p → (movesOf x q).all (fun u => withinB u (t : Int)) = true)) 0 ⟨by omega, by omega, by simp⟩ (fun p s hp hs => ?_) (fun m' p s hp hs => ?_) (fun m' s hs => ?_))
      · refine main.1.trans ?_
        have hI := main.2
        generalize (List.range x.2.1.length).foldl (fun s k => s + ((widesOf (x.1, x.2.1, x.2.2.1, (t : Int)) k).length : Int)) 0 = S at hI ⊢
        have hS : S = 0 ↔ allIn' x t = true := by rw [allIn_iff]; exact hI.2.2
        have hq : (S == 0) = ((j : Int) == 0) := by
          rcases Nat.lt_or_ge j 1 with h0 | h1
          · have : j = 0 := by omega
            subst this
            have et : t = leastStep x := by omega
            have := hS.2 (by rw [et]; exact a3 (by omega))
            rw [this]
            rfl
          · have : j = 1 := by omega
            subst this
            have hf := a4 t (by omega) (by omega)
            have : ¬ S = 0 := fun h => by rw [hS.1 h] at hf; cases hf
            simp [this]
        rw [hq, if_neg (by simp)]
      · have hw := wideAns_len (x.1, x.2.1, x.2.2.1, (t : Int)) (p : Int)
        have hop : okPart (x.1, x.2.1, x.2.2.1, (t : Int)) (p : Int) = true := by unfold okPart; rw [hoz, Bool.true_and, okIn_iff]; dsimp only; omega
        have ea : wideAns (x.1, x.2.1, x.2.2.1, (t : Int)) (p : Int) = (widesOf (x.1, x.2.1, x.2.2.1, (t : Int)) p, true) := by unfold wideAns; rw [hop, Int.toNat_natCast]; rfl
        rw [ea] at hw
        dsimp only at hw
        have hz : (widesOf (x.1, x.2.1, x.2.2.1, (t : Int)) p).length = 0 ↔ (movesOf x p).all (fun u => withinB u (t : Int)) = true := wides_zero (x.1, x.2.1, x.2.2.1, (t : Int)) p
        refine ⟨by omega, by omega, ?_⟩
        constructor
        · intro h0 q hq
          rcases Nat.lt_or_ge q p with hqp | hqp
          · exact hs.2.2.1 (by omega) q hqp
          · have : q = p := by omega
            subst this
            exact hz.1 (by omega)
        · intro hall
          have h1 := hs.2.2.2 fun q hq => hall q (by omega)
          have h2 := hz.2 (hall p (by omega))
          omega
      · have hw := wideAns_len (x.1, x.2.1, x.2.2.1, (t : Int)) (p : Int)
        have hop : okPart (x.1, x.2.1, x.2.2.1, (t : Int)) (p : Int) = true := by unfold okPart; rw [hoz, Bool.true_and, okIn_iff]; dsimp only; omega
        have ea : wideAns (x.1, x.2.1, x.2.2.1, (t : Int)) (p : Int) = (widesOf (x.1, x.2.1, x.2.2.1, (t : Int)) p, true) := by unfold wideAns; rw [hop, Int.toNat_natCast]; rfl
        rw [ea] at hw
        dsimp only at hw
        rw [F_laws_FnDemands_L3, if_pos (by simp; omega)]
        unfold jK1
        dsimp only
        rw [ew, ht, impl_WideSteps _ _ lz, Option.bind_some, spec_WideSteps _ _ lz, Option.bind_some, ea]
        dsimp only
        rw [if_neg (by simp), if_neg (by simp), qq_Ints _ (by omega), Option.bind_some, if_neg (by simp), w64_succ (by omega), w64_eq (x := s + _) (by omega) (by omega)]
      · rw [F_laws_FnDemands_L3, if_neg (by simp)]
end Go.Proofs.Ytmkignciedkidaa
