/-
  SHOWS RANKED, PLAIN: a stable sort by insertion.
-/
import Derived.Test.YtcndhhjolnebdaaPCompare
import Derived.Test.YtcndhhjolnebdaaPShift
import Derived.Test.YtcndhhjolnebdaaPShowL
set_option linter.unusedSimpArgs false
set_option linter.unusedVariables false
namespace Go.Proofs.Ytcndhhjolnebdaa
open Go
theorem at_mid' {α : Type} (P T : List α) (x : α) : (P ++ x :: T)[P.length]? = some x := by simp
theorem idx_mid' {α : Type} (P T : List α) (x : α) {y : Int} (h : y = (P.length : Int)) : idx (P ++ x :: T) y = some x := by rw [h, idx_nat, at_mid']
theorem seti_mid' {α : Type} (P T : List α) (x z : α) {y : Int} (h : y = (P.length : Int)) : seti (P ++ x :: T) y z = P ++ z :: T := by rw [h, seti_nat]; simp
def insAt (c : Int → Bool) (l : List Int) (n : Int) : List Int := (l.reverse.dropWhile c).reverse ++ n :: (l.reverse.takeWhile c).reverse
theorem drop_head {c : Int → Bool} : ∀ {l t : List Int} {a : Int}, l.dropWhile c = a :: t → c a = false := by
  intro l
  induction l with
  | nil => intro t a h; simp at h
  | cons b l ih =>
    intro t a h
    cases hb : c b with
    | true => rw [List.dropWhile_cons_of_pos hb] at h; exact ih h
    | false =>
      rw [List.dropWhile_cons_of_neg (by simp [hb])] at h
      injection h with h1 h2
      rw [← h1]; exact hb
theorem insAt_split (c : Int → Bool) (l : List Int) : ∃ A B, l = A ++ B ∧ (∀ b ∈ B, c b = true) ∧ (A = [] ∨ ∃ A' a, A = A' ++ [a] ∧ c a = false) ∧ ∀ n, insAt c l n = A ++ n :: B := by
  refine ⟨(l.reverse.dropWhile c).reverse, (l.reverse.takeWhile c).reverse, ?_, fun b hb => ?_, ?_, fun n => rfl⟩
  · rw [← List.reverse_append, List.takeWhile_append_dropWhile, List.reverse_reverse]
  · rw [List.mem_reverse] at hb
    exact List.all_eq_true.1 (List.all_takeWhile (p := c) (l := l.reverse)) b hb
  · cases h : l.reverse.dropWhile c with
    | nil => left; rfl
    | cons a t => right; exact ⟨t.reverse, a, by simp, drop_head h⟩
def noShow : ShowT := ([], [], 0, 0)
def cmpI (x : List ShowT) (a b : Int) : Int := demand ((x[a.toNat]?).getD noShow) ((x[b.toNat]?).getD noShow)
def ranked (x : List ShowT) : Nat → List Int
  | 0 => []
  | n + 1 => insAt (fun b => decide (cmpI x (n : Int) b < 0)) (ranked x n) (n : Int)
theorem ranked_len (x : List ShowT) (n : Nat) : (ranked x n).length = n := by
  induction n with
  | zero => rfl
  | succ n ih =>
    obtain ⟨A, B, e, _, _, h⟩ := insAt_split (fun b => decide (cmpI x (n : Int) b < 0)) (ranked x n)
    rw [ranked, h]
    rw [e] at ih
    simp at ih ⊢
    omega
theorem ranked_mem (x : List ShowT) (n : Nat) : ∀ u ∈ ranked x n, 0 ≤ u ∧ u < (n : Int) := by
  induction n with
  | zero => intro u hu; simp [ranked] at hu
  | succ n ih =>
    intro u hu
    obtain ⟨A, B, e, _, _, h⟩ := insAt_split (fun b => decide (cmpI x (n : Int) b < 0)) (ranked x n)
    rw [ranked, h] at hu
    rw [e] at ih
    rcases List.mem_append.1 hu with hu | hu
    · have := ih u (List.mem_append_left _ hu); omega
    · rcases List.mem_cons.1 hu with rfl | hu
      · omega
      · have := ih u (List.mem_append_right _ hu); omega
theorem rank_own (c : List Int) (h : c.length ≤ 1048576) : F_spec_l1Own c = some c := by
  unfold F_spec_l1Own
  rw [app_ok (by simp; omega)]
  rfl
structure AllOk (x : List ShowT) : Prop where
  ok : ∀ u ∈ x, okShow u = true
  ls : ∀ u ∈ x, lensOk u
theorem at_idx {x : List ShowT} {a : Int} (h0 : 0 ≤ a) (h1 : a < (x.length : Int)) : idx x a = some ((x[a.toNat]?).getD noShow) ∧ (x[a.toNat]?).getD noShow ∈ x := by
  have hlt : a.toNat < x.length := by omega
  rw [idx_int h0, List.getElem?_eq_getElem hlt]
  exact ⟨rfl, List.getElem_mem hlt⟩
theorem impl_cmp {x : List ShowT} (h : AllOk x) {a b : Int} (ha : 0 ≤ a ∧ a < (x.length : Int)) (hb : 0 ≤ b ∧ b < (x.length : Int)) : F_impl_RankShows_1 a b x = some (cmpI x a b) := by
  obtain ⟨e1, m1⟩ := at_idx ha.1 ha.2
  obtain ⟨e2, m2⟩ := at_idx hb.1 hb.2
  unfold F_impl_RankShows_1 cmpI
  rw [e1, Option.bind_some, e2, Option.bind_some, impl_compareDemand _ _ (h.ls _ m1) (h.ls _ m2) (h.ok _ m1) (h.ok _ m2), Option.bind_some]
theorem sort_inner (nx : List Int → Int → Option (List Int)) (i x : Int) (l : List ShowT) (c : Int → Bool) (A : List Int) (hA : A = [] ∨ ∃ A' a, A = A' ++ [a] ∧ c a = false) : ∀ (n : Nat) (B T : List Int) (m : Nat), B.length = n → n < m → (∀ b ∈ B, c b = true) → (∀ b ∈ A ++ B, ∃ v, F_impl_RankShows_1 x b l = some v ∧ decide (v < 0) = c b) → A.length + B.length < 4611686018427387904 →
    F_slices_insertionSortCmpFunc_int__impl_RankShows_1__mut_L2 nx i 0 l m (A ++ B ++ x :: T) ((A.length + B.length : Nat) : Int) = nx (A ++ x :: B ++ T) (w64 (i + 1)) := by
  intro n
  induction n with
  | zero =>
    intro B T m hn hm hB hc hl
    have : B = [] := List.eq_nil_of_length_eq_zero hn
    subst this
    cases m with
    | zero => omega
    | succ m =>
      rw [F_slices_insertionSortCmpFunc_int__impl_RankShows_1__mut_L2]
      unfold jK1
      dsimp only
      rw [List.append_nil, List.length_nil, Nat.add_zero]
      rcases hA with rfl | ⟨A', a, rfl, ha⟩
      · rw [if_neg (by simp)]; simp
      · obtain ⟨v, hv, hd⟩ := hc a (by simp)
        rw [if_pos (by simp <;> omega), idx_mid' _ _ _ rfl, Option.bind_some, List.append_assoc, List.singleton_append, idx_mid' A' _ a (by rw [w64_eq (by simp <;> omega) (by simp at * <;> omega)]; simp), Option.bind_some, hv, Option.bind_some, hd, ha, if_neg (by simp)]
        simp
  | succ n ih =>
    intro B T m hn hm hB hc hl
    cases m with
    | zero => omega
    | succ m =>
      rcases List.eq_nil_or_concat B with rfl | ⟨B', b, rfl⟩
      · simp at hn
      · rw [List.concat_eq_append] at *
        have hb := hB b (by simp)
        obtain ⟨v, hv, hd⟩ := hc b (by simp)
        have hn' : B'.length = n := by simpa using hn
        have e1 : A ++ (B' ++ [b]) ++ x :: T = (A ++ B') ++ b :: x :: T := by simp
        have e2 : (A ++ B') ++ b :: x :: T = ((A ++ B') ++ [b]) ++ x :: T := by simp
        have ly : w64 (((A.length + (B' ++ [b]).length : Nat) : Int) - 1) = ((A ++ B').length : Int) := by rw [w64_eq (by simp <;> omega) (by simp at * <;> omega)]; simp <;> omega
        have ly2 : ((A.length + (B' ++ [b]).length : Nat) : Int) = ((A ++ B' ++ [b]).length : Int) := by simp <;> omega
        rw [F_slices_insertionSortCmpFunc_int__impl_RankShows_1__mut_L2]
        unfold jK1
        dsimp only
        rw [e1, ly, if_pos (by simp <;> omega)]
        rw [show idx (A ++ B' ++ b :: x :: T) ((A.length + (B' ++ [b]).length : Nat) : Int) = some x by rw [e2]; exact idx_mid' _ _ _ ly2]
        rw [Option.bind_some, idx_mid' _ _ _ rfl, Option.bind_some, hv, Option.bind_some, hd, hb, if_pos rfl, Option.bind_some, Option.bind_some]
        rw [show seti (A ++ B' ++ b :: x :: T) ((A.length + (B' ++ [b]).length : Nat) : Int) b = A ++ B' ++ b :: b :: T by rw [e2, seti_mid' _ _ _ _ ly2]; simp]
        rw [idx_mid' _ _ _ rfl, Option.bind_some, seti_mid' _ _ _ _ rfl]
        have h := ih B' (b :: T) m hn' (by omega) (fun u hu => hB u (by simp [hu])) (fun u hu => hc u (by rcases List.mem_append.1 hu with h | h <;> simp [h])) (by simp at hl; omega)
        rw [show ((A ++ B').length : Int) = ((A.length + B'.length : Nat) : Int) by simp, h]
        simp
def fromTo (i n : Nat) : List Int := (List.range' i (n - i)).map fun (k : Nat) => (k : Int)
theorem fromTo_cons {i n : Nat} (h : i < n) : fromTo i n = (i : Int) :: fromTo (i + 1) n := by
  unfold fromTo
  rw [show n - i = (n - (i + 1)) + 1 by omega, List.range'_succ, List.map_cons]
theorem sort_outer {x : List ShowT} (h : AllOk x) (hl : x.length ≤ 8) : ∀ (d i m : Nat), x.length - i = d → i ≤ x.length → d < m → F_slices_insertionSortCmpFunc_int__impl_RankShows_1__mut_L1 (x.length : Int) 0 x m (ranked x i ++ fromTo i x.length) (i : Int) = some (ranked x x.length) := by
  intro d
  induction d with
  | zero =>
    intro i m hd hi hm
    have : i = x.length := by omega
    subst this
    cases m with
    | zero => omega
    | succ m => rw [F_slices_insertionSortCmpFunc_int__impl_RankShows_1__mut_L1, if_neg (by simp)]; simp [fromTo]
  | succ d ih =>
    intro i m hd hi hm
    cases m with
    | zero => omega
    | succ m =>
      have hlt : i < x.length := by omega
      obtain ⟨A, B, e, hB, hA, hins⟩ := insAt_split (fun b => decide (cmpI x (i : Int) b < 0)) (ranked x i)
      have hlen := ranked_len x i
      have hmem := ranked_mem x i
      rw [e] at hlen hmem
      rw [F_slices_insertionSortCmpFunc_int__impl_RankShows_1__mut_L1, if_pos (by simp; omega), fromTo_cons hlt]
      have := sort_inner (F_slices_insertionSortCmpFunc_int__impl_RankShows_1__mut_L1 (x.length : Int) 0 x m) (i : Int) (i : Int) x (fun b => decide (cmpI x (i : Int) b < 0)) A hA B.length B (fromTo (i + 1) x.length) FU rfl (FU_gt (by simp at hlen; omega)) hB
        (fun b hb => ⟨cmpI x (i : Int) b, impl_cmp h ⟨by omega, by omega⟩ (by have := hmem b hb; omega), rfl⟩) (by simp at hlen; omega)
      rw [show ((A.length + B.length : Nat) : Int) = (i : Int) by simp at hlen; omega] at this
      rw [e, this, w64_succ (by omega)]
      have h2 := ih (i + 1) m (by omega) (by omega) (by omega)
      rw [ranked, hins] at h2
      exact h2
theorem impl_sort {x : List ShowT} (h : AllOk x) (hl : x.length ≤ 8) : F_slices_SortStableFunc_int_int__impl_RankShows_1__mut (fromTo 0 x.length) x = some (ranked x x.length) := by
  have hle : (fromTo 0 x.length).length = x.length := by simp [fromTo]
  unfold F_slices_SortStableFunc_int_int__impl_RankShows_1__mut F_slices_stableCmpFunc_int__impl_RankShows_1__mut
  have hi : F_slices_insertionSortCmpFunc_int__impl_RankShows_1__mut (fromTo 0 x.length) 0 (x.length : Int) x = some (ranked x x.length) := by
    unfold F_slices_insertionSortCmpFunc_int__impl_RankShows_1__mut
    rw [w64_eq (by omega) (by omega)]
    by_cases h0 : x.length = 0
    · rw [h0, show FU = 4611686018427387903 + 1 by rfl, F_slices_insertionSortCmpFunc_int__impl_RankShows_1__mut_L1, if_neg (by simp)]
      simp [fromTo, ranked]
    · have := sort_outer h hl (x.length - 1) 1 FU rfl (by omega) (FU_gt (by omega))
      rw [fromTo_cons (by omega : 0 < x.length)]
      have e : ranked x 1 = [0] := by simp [ranked, insAt]
      rw [e] at this
      exact this
  rw [hle, show FU = 4611686018427387903 + 1 by rfl, F_slices_stableCmpFunc_int__impl_RankShows_1__mut_L1, if_neg (by simp; omega), hi, Option.bind_some, show FU = 4611686018427387903 + 1 by rfl, F_slices_stableCmpFunc_int__impl_RankShows_1__mut_L2, if_neg (by simp; omega), Option.bind_some]
def rankAns (x : List ShowT) : List Int × Bool := if decide (x.length ≤ 8) && x.all okShow then (ranked x x.length, true) else ([], false)
theorem impl_RankShows (x : List ShowT) (h : ∀ u ∈ x, lensOk u) (_ : x.length ≤ 1048576) : F_impl_RankShows x = some (rankAns x) := by
  unfold F_impl_RankShows rankAns
  by_cases hl : x.length ≤ 8
  · rw [if_neg (by simp; omega)]
    have key : ∀ (d k m : Nat), x.length - k = d → k ≤ x.length → d < m → F_impl_RankShows_L1 x m ((List.range k).map fun (j : Nat) => (j : Int)) (k : Int) = if (x.drop k).all okShow then (Option.bind (F_slices_SortStableFunc_int_int__impl_RankShows_1__mut (fromTo 0 x.length) x) fun u => some (u, true)) else some ([], false) := by
      intro d
      induction d with
      | zero =>
        intro k m hd hk hm
        have : k = x.length := by omega
        subst this
        cases m with
        | zero => omega
        | succ m => rw [F_impl_RankShows_L1, if_neg (by simp)]; simp [fromTo, List.range_eq_range']
      | succ d ih =>
        intro k m hd hk hm
        cases m with
        | zero => omega
        | succ m =>
          have hlt : k < x.length := by omega
          have hq := h x[k] (List.getElem_mem hlt)
          rw [F_impl_RankShows_L1, if_pos (by simp; omega), idx_lt hlt, Option.bind_some, impl_IsShow _ hq.1 hq.2.1 hq.2.2, Option.bind_some, List.drop_eq_getElem_cons hlt, List.all_cons]
          cases ho : okShow x[k] with
          | false => simp
          | true =>
            rw [if_neg (by simp), app_ok (by simp; omega), Option.bind_some, w64_succ (by omega), Bool.true_and]
            have := ih (k + 1) m (by omega) (by omega) (by omega)
            rw [List.range_succ, List.map_append] at this
            exact this
    have := key x.length 0 FU rfl (by omega) (FU_gt (by omega))
    simp only [List.range_zero, List.map_nil, List.drop_zero] at this
    rw [show ((0 : Int)) = ((0 : Nat) : Int) by rfl, this]
    cases ha : x.all okShow with
    | false => simp
    | true =>
      rw [if_pos rfl, impl_sort ⟨List.all_eq_true.1 ha, h⟩ hl]
      simp [hl]
  · rw [if_pos (by simp; omega)]
    simp [hl]
theorem spec_inner {x : List ShowT} (h : AllOk x) (hl : x.length ≤ 8) (k71 : List Int → Option (List Int × Bool)) (i : Nat) (hi : i < x.length) (A B : List Int) (e : ranked x i = A ++ B) (hB : ∀ b ∈ B, decide (cmpI x (i : Int) b < 0) = true) (hA : A = [] ∨ ∃ A' a, A = A' ++ [a] ∧ decide (cmpI x (i : Int) a < 0) = false) :
    ∀ (n : Nat) (B1 B2 : List Int) (m : Nat), B1.length = n → n < m → B = B1 ++ B2 → F_spec_RankShows_L3 (ranked x i) (i : Int) k71 x ((x[((i : Int)).toNat]?).getD noShow) m ((A.length + B1.length : Nat) : Int) = k71 (A ++ (i : Int) :: B) := by
  have hlen := ranked_len x i
  have hmem := ranked_mem x i
  have cmp : ∀ b, 0 ≤ b → b < (x.length : Int) → F_spec_cpCompare ((x[((i : Int)).toNat]?).getD noShow) ((x[b.toNat]?).getD noShow) = some (cmpI x (i : Int) b) := fun b h0 h1 => by
    obtain ⟨_, m1⟩ := at_idx (x := x) (a := (i : Int)) (by omega) (by omega)
    obtain ⟨_, m2⟩ := at_idx (x := x) h0 h1
    exact spec_cpCompare _ _ (h.ls _ m1) (h.ls _ m2) (h.ok _ m1) (h.ok _ m2)
  intro n
  induction n with
  | zero =>
    intro B1 B2 m hn hm eB
    have : B1 = [] := List.eq_nil_of_length_eq_zero hn
    subst this
    cases m with
    | zero => omega
    | succ m =>
      rw [List.nil_append] at eB
      subst eB
      rw [F_spec_RankShows_L3]
      unfold jK1
      dsimp only
      rw [List.length_nil, Nat.add_zero]
      have ht : (ranked x i).take A.length = A := by rw [e]; simp
      have hd : (ranked x i).drop A.length = B := by rw [e]; simp
      rw [e] at hlen
      have hab : A.length + B.length = i := by simpa using hlen
      have fin : (Option.bind (sl (ranked x i) 0 (A.length : Int)) fun u113 => Option.bind (sl (ranked x i) (A.length : Int) (List.length (ranked x i) : Int)) fun u118 => Option.bind (F_spec_l1Own u113) fun u123 => Option.bind (app u123 [(i : Int)]) fun u143 => Option.bind (app u143 u118) fun u152 => k71 u152) = k71 (A ++ (i : Int) :: B) := by
        rw [sl_take _ (by rw [e]; simp), Option.bind_some, sl_drop _ (by rw [e]; simp), Option.bind_some, ht, hd, rank_own A (by omega), Option.bind_some, app_ok (by simp; omega), Option.bind_some, app_ok (by simp; omega), Option.bind_some]
        simp
      rcases hA with rfl | ⟨A', a, rfl, ha⟩
      · rw [if_neg (by simp)]
        rw [if_neg (by simp)]
        exact fin
      · have ha2 := hmem a (by rw [e]; simp)
        rw [if_pos (by simp <;> omega)]
        rw [show idx (ranked x i) (w64 (((A' ++ [a]).length : Int) - 1)) = some a by rw [e, List.append_assoc, List.singleton_append]; exact idx_mid' A' _ a (by rw [w64_eq (by simp <;> omega) (by simp at * <;> omega)]; simp)]
        rw [Option.bind_some, (at_idx ha2.1 (by omega)).1, Option.bind_some, cmp a ha2.1 (by omega), Option.bind_some, ha, if_neg (by simp)]
        exact fin
  | succ n ih =>
    intro B1 B2 m hn hm eB
    cases m with
    | zero => omega
    | succ m =>
      rcases List.eq_nil_or_concat B1 with rfl | ⟨B', b, rfl⟩
      · simp at hn
      · rw [List.concat_eq_append] at *
        have hn' : B'.length = n := by simpa using hn
        have hb2 := hmem b (by rw [e, eB]; simp)
        have hb := hB b (by rw [eB]; simp)
        have hab : (A ++ B).length = i := by rw [← e]; exact hlen
        have hab2 : A.length + (B'.length + 1) ≤ i := by rw [eB] at hab; simp at hab; omega
        rw [F_spec_RankShows_L3]
        unfold jK1
        dsimp only
        rw [if_pos (by simp <;> omega)]
        have ly : w64 (((A.length + (B' ++ [b]).length : Nat) : Int) - 1) = ((A ++ B').length : Int) := by rw [w64_eq (by simp <;> omega) (by simp <;> omega)]; simp <;> omega
        rw [ly, show idx (ranked x i) ((A ++ B').length : Int) = some b by rw [e, eB, show A ++ (B' ++ [b] ++ B2) = (A ++ B') ++ b :: B2 by simp]; exact idx_mid' _ _ _ rfl]
        rw [Option.bind_some, (at_idx hb2.1 (by omega)).1, Option.bind_some, cmp b hb2.1 (by omega), Option.bind_some, hb, if_pos rfl]
        have := ih B' (b :: B2) m hn' (by omega) (by rw [eB]; simp)
        rw [show ((A ++ B').length : Int) = ((A.length + B'.length : Nat) : Int) by simp]
        exact this
theorem spec_RankShows (x : List ShowT) (h : ∀ u ∈ x, lensOk u) (hn : x.length ≤ 1048576) : F_spec_RankShows x = some (rankAns x) := by
  unfold F_spec_RankShows rankAns
  rw [loopL (F_spec_RankShows_L1 x) x okShow (if (decide (8 < (List.length x : Int))) = true then some ([], false) else F_spec_RankShows_L2 x FU [] 0) (some ([], false)) (by omega) (fun m k u hk hu => ?_) (fun m => ?_)]
  · cases ha : x.all okShow with
    | false => simp
    | true =>
      by_cases hl : x.length ≤ 8
      · rw [if_pos rfl, if_neg (by simp; omega)]
        have hok : AllOk x := ⟨List.all_eq_true.1 ha, h⟩
        have key : ∀ (d k m : Nat), x.length - k = d → k ≤ x.length → d < m → F_spec_RankShows_L2 x m (ranked x k) (k : Int) = some (ranked x x.length, true) := by
          intro d
          induction d with
          | zero =>
            intro k m hd hk hm
            have : k = x.length := by omega
            subst this
            cases m with
            | zero => omega
            | succ m => rw [F_spec_RankShows_L2, if_neg (by simp)]
          | succ d ih =>
            intro k m hd hk hm
            cases m with
            | zero => omega
            | succ m =>
              have hlt : k < x.length := by omega
              obtain ⟨A, B, e, hB, hA, hins⟩ := insAt_split (fun b => decide (cmpI x (k : Int) b < 0)) (ranked x k)
              have hlen := ranked_len x k
              have hab : A.length + B.length = k := by rw [e] at hlen; simpa using hlen
              rw [F_spec_RankShows_L2, if_pos (by simp; omega)]
              unfold jK1
              dsimp only
              rw [(at_idx (x := x) (a := (k : Int)) (by omega) (by omega)).1, Option.bind_some, hlen]
              have := spec_inner hok hl (fun l => F_spec_RankShows_L2 x m l (w64 ((k : Int) + 1))) k hlt A B e hB hA B.length B [] FU rfl (FU_gt (by omega)) (by simp)
              rw [hab] at this
              rw [this, w64_succ (by omega), ← hins]
              exact ih (k + 1) m (by omega) (by omega) (by omega)
        have := key x.length 0 FU rfl (by omega) (FU_gt (by omega))
        rw [show ((0 : Int)) = ((0 : Nat) : Int) by rfl, show ([] : List Int) = ranked x 0 by rfl, this]
        simp [hl]
      · rw [if_pos rfl, if_pos (by simp; omega)]
        simp [hl]
  · have hq := h u (List.mem_of_getElem? hu)
    rw [F_spec_RankShows_L1, if_pos (by simp; omega), idx_nat, hu, Option.bind_some, spec_swGood _ hq.1 hq.2.1 hq.2.2, Option.bind_some, w64_succ (by omega)]
    cases okShow u <;> simp
  · rw [F_spec_RankShows_L1, if_neg (by simp)]
theorem rankAns_len (x : List ShowT) : (rankAns x).1.length ≤ 8 := by
  unfold rankAns
  by_cases hl : x.length ≤ 8
  · cases ha : x.all okShow with
    | false => simp
    | true => simp only [hl, decide_true, Bool.and_self, if_true]; rw [ranked_len]; exact hl
  · simp [hl]
theorem mk_ShowS (x : List ShowT) (hs : allS S_Show x) (k : Int) (h0 : 0 ≤ k) (hb : k + 2305844108727418880 ≤ BIG) : ∃ k' x', F_laws_markShowS x k = some (k', x') ∧ k ≤ k' ∧ k' ≤ k + 2305844108727418880 := by
  have hl := hs.1
  obtain ⟨k', x', a1, a2, a3, a4⟩ := markL0 F_laws_markShowS_L1 2199024304130 x (fun m j cur k u hc hj hu hu2 h0 hb => by
    obtain ⟨k1, u1, e1, b1, c1, _⟩ := mk_SpotSS u.1 hu2.1 k h0 (by unfold BIG at *; omega)
    have l2 := hu2.2.1.1
    obtain ⟨k2, u2, e2, b2, c2, _⟩ := mk_IntS u.2.1 (by omega) k1 (by omega) (by unfold BIG at *; omega)
    have w1 : w64 (k2 + 1) = k2 + 1 := w64_eq (by unfold BIG at *; omega) (by unfold BIG at *; omega)
    have w2 : w64 (k2 + 1 + 1) = k2 + 1 + 1 := w64_eq (by unfold BIG at *; omega) (by unfold BIG at *; omega)
    refine ⟨k2 + 1 + 1, (u1, u2, k2, k2 + 1), by omega, by omega, ?_⟩
    rw [F_laws_markShowS_L1, if_pos (by simp; omega)]
    simp only [idx_nat, seti_nat, hu, Option.bind_some, List.set_set, List.getElem?_set_self (show j < cur.length by omega), w64_succ (k := j) (by omega), w1, w2, e1, e2])
    (fun m cur k hc => by rw [F_laws_markShowS_L1, if_neg (by simp; omega)]) (by omega) hs.2 k h0 (by unfold BIG at *; omega)
  exact ⟨k', x', a1, a2, by omega⟩
end Go.Proofs.Ytcndhhjolnebdaa
