/-
  SHOWS REVERSED, PLAIN.
-/
import Derived.Test.YtadklddedeoniaaPCopy
import Derived.Test.YtadklddedeoniaaPShowL
set_option linter.unusedSimpArgs false
set_option linter.unusedVariables false
namespace Go.Proofs.Ytadklddedeoniaa
open Go
theorem rev_list {α : Type} (f : Nat → List α → Int → Int → Option (List α)) (x0 : List α) (h : x0.length ≤ 9223372036854775807)
    (hst : ∀ m l y z, f (m + 1) l y z = if (decide (y < z)) = true then Option.bind (idx l z) fun a => Option.bind (idx l y) fun b => Option.bind (idx l y) fun _ => Option.bind (idx (seti l y a) z) fun _ => f m (seti (seti l y a) z b) (w64 (y + 1)) (w64 (z - 1)) else some l) :
    f FU x0 0 (w64 ((List.length x0 : Int) - 1)) = some x0.reverse := by
  have atI : ∀ (P T : List α) (x : α) (y : Int), y = (P.length : Int) → idx (P ++ x :: T) y = some x := by
    intro P T x y e; unfold idx; rw [if_pos (by omega), show y.toNat = P.length by omega]; simp
  have atS : ∀ (P T : List α) (x z : α) (y : Int), y = (P.length : Int) → seti (P ++ x :: T) y z = P ++ z :: T := by
    intro P T x z y e; unfold seti; rw [show y.toNat = P.length by omega]; simp
  have key : ∀ (n : Nat) (M A B : List α) (m : Nat) (y z : Int), M.length ≤ 2 * n + 1 → n < m → y = (A.length : Int) → z = (A.length : Int) + (M.length : Int) - 1 → A.length + M.length ≤ 9223372036854775807 → f m (A ++ M ++ B) y z = some (A ++ M.reverse ++ B) := by
    intro n
    induction n with
    | zero =>
      intro M A B m y z hn hm hy hz hl
      cases m with
      | zero => omega
      | succ m =>
        match M, hn with
        | [], _ => rw [hst, if_neg (by simp at hz ⊢; omega)]; simp
        | [a], _ => rw [hst, if_neg (by simp at hz ⊢; omega)]; simp
    | succ n ih =>
      intro M A B m y z hn hm hy hz hl
      cases m with
      | zero => omega
      | succ m =>
        match M with
        | [] => rw [hst, if_neg (by simp at hz ⊢; omega)]; simp
        | a :: M' =>
          rcases List.eq_nil_or_concat M' with rfl | ⟨M2, b, rfl⟩
          · rw [hst, if_neg (by simp at hz ⊢; omega)]; simp
          · rw [List.concat_eq_append] at *
            have hz' : z = (A.length : Int) + (M2.length : Int) + 1 := by rw [hz]; simp; omega
            have hl' : A.length + M2.length + 2 ≤ 9223372036854775807 := by simp at hl; omega
            have e1 : A ++ a :: (M2 ++ [b]) ++ B = (A ++ a :: M2) ++ b :: B := by simp
            have e2 : A ++ a :: (M2 ++ [b]) ++ B = A ++ a :: (M2 ++ [b] ++ B) := by simp
            have i1 : idx (A ++ a :: (M2 ++ [b]) ++ B) z = some b := by rw [e1]; exact atI _ _ _ _ (by rw [hz']; simp; omega)
            have i2 : idx (A ++ a :: (M2 ++ [b]) ++ B) y = some a := by rw [e2]; exact atI _ _ _ _ hy
            have s1 : seti (A ++ a :: (M2 ++ [b]) ++ B) y b = (A ++ b :: M2) ++ b :: B := by rw [e2, atS _ _ _ _ _ hy]; simp
            have i3 : idx ((A ++ b :: M2) ++ b :: B) z = some b := atI _ _ _ _ (by rw [hz']; simp; omega)
            have s2 : seti ((A ++ b :: M2) ++ b :: B) z a = (A ++ [b]) ++ M2 ++ a :: B := by rw [atS _ _ _ _ _ (by rw [hz']; simp; omega)]; simp
            rw [hst, if_pos (by simp; omega), i1, Option.bind_some, i2, Option.bind_some, Option.bind_some, s1, i3, Option.bind_some, s2, w64_eq (x := y + 1) (by omega) (by omega), w64_eq (x := z - 1) (by omega) (by omega)]
            have := ih M2 (A ++ [b]) (a :: B) m (y + 1) (z - 1) (by simp at hn; omega) (by omega) (by simp; omega) (by simp; omega) (by simp; omega)
            rw [this]
            simp
  have := key (x0.length / 2) x0 [] [] FU 0 (w64 ((List.length x0 : Int) - 1)) (by omega) (show x0.length / 2 < 4611686018427387904 by omega) rfl (by rw [w64_eq (by omega) (by omega)]; simp) (by simpa using h)
  simpa using this
theorem rev_ints (x : List Int) (h : x.length < 4611686018427387904) : F_slices_Reverse_int_int__mut x = some x.reverse := by
  unfold F_slices_Reverse_int_int__mut
  exact rev_list F_slices_Reverse_int_int__mut_L1 x (by omega) (fun m l y z => by rw [F_slices_Reverse_int_int__mut_L1]; rfl)
theorem down_loop {α R : Type} (f : Nat → List α → Int → Option R) (l : List α) (rest : List α → Option R) (hl : l.length ≤ 1048576)
    (hst : ∀ m s y, f (m + 1) s y = if (decide (0 ≤ y)) = true then Option.bind (idx l y) fun u => Option.bind (app s [u]) fun v => f m v (w64 (y - 1)) else rest s) : f FU [] (w64 ((List.length l : Int) - 1)) = rest l.reverse := by
  have key : ∀ (n m : Nat) (y : Int), n ≤ l.length → n < m → y = (n : Int) - 1 → f m ((l.drop n).reverse) y = rest l.reverse := by
    intro n
    induction n with
    | zero =>
      intro m y hn hm hy
      cases m with
      | zero => omega
      | succ m => rw [hst, if_neg (by simp; omega)]; simp
    | succ n ih =>
      intro m y hn hm hy
      cases m with
      | zero => omega
      | succ m =>
        have hlt : n < l.length := by omega
        have hy' : y = (n : Int) := by omega
        subst hy'
        rw [hst, if_pos (by simp), idx_lt hlt, Option.bind_some, app_ok (by simp; omega), Option.bind_some, w64_eq (by omega) (by omega)]
        have := ih m ((n : Int) - 1) (by omega) (by omega) rfl
        rw [List.drop_eq_getElem_cons hlt, List.reverse_cons] at this
        exact this
  have := key l.length FU (w64 ((List.length l : Int) - 1)) (Nat.le_refl _) (FU_gt (by omega)) (w64_eq (by omega) (by omega))
  simpa using this
def revAns (x : ShowT) : ShowT × Bool := if okShow x then ((x.1.reverse, x.2.1.reverse, x.2.2.1, x.2.2.2), true) else (([], [], 0, 0), false)
theorem spec_ReverseShow (x : ShowT) (h : lensOk x) : F_spec_ReverseShow x = some (revAns x) := by
  unfold F_spec_ReverseShow revAns
  rw [spec_swGood x h.1 h.2.1 h.2.2, Option.bind_some]
  cases hs : okShow x with
  | false => simp
  | true =>
    have f := facts hs
    have n1 := f.n1
    have nc := f.nc
    have key : ∀ (n m : Nat) (y : Int), n ≤ x.1.length → n < m → y = (n : Int) - 1 → F_spec_ReverseShow_L1 x m ((x.1.drop n).reverse) y = F_spec_ReverseShow_L2 x x.1.reverse FU [] (w64 ((List.length x.2.1 : Int) - 1)) := by
      intro n
      induction n with
      | zero =>
        intro m y hn hm hy
        cases m with
        | zero => omega
        | succ m => rw [F_spec_ReverseShow_L1, if_neg (by simp; omega)]; simp
      | succ n ih =>
        intro m y hn hm hy
        cases m with
        | zero => omega
        | succ m =>
          have hlt : n < x.1.length := by omega
          have hy' : y = (n : Int) := by omega
          subst hy'
          have hc := (f.cl x.1[n] (List.getElem_mem hlt)).2
          rw [F_spec_ReverseShow_L1, if_pos (by simp)]
          unfold jK1
          dsimp only
          rw [idx_lt hlt, Option.bind_some, spec_chOwn _ (by omega), Option.bind_some, app_ok (by simp; omega), Option.bind_some, w64_eq (by omega) (by omega)]
          have := ih m ((n : Int) - 1) (by omega) (by omega) rfl
          rw [List.drop_eq_getElem_cons hlt, List.reverse_cons] at this
          exact this
    have := key x.1.length FU (w64 ((List.length x.1 : Int) - 1)) (Nat.le_refl _) (FU_gt (by omega)) (w64_eq (by omega) (by omega))
    rw [List.drop_length, List.reverse_nil] at this
    rw [if_neg (by simp), this, down_loop (F_spec_ReverseShow_L2 x x.1.reverse) x.2.1 (fun s => some ((x.1.reverse, s, x.2.2.1, x.2.2.2), true)) (by omega) (fun m s y => by rw [F_spec_ReverseShow_L2]; rfl)]
    simp
theorem impl_ReverseShow (x : ShowT) (h : lensOk x) : F_impl_ReverseShow x = some (revAns x) := by
  unfold F_impl_ReverseShow revAns
  rw [impl_IsShow x h.1 h.2.1 h.2.2, Option.bind_some]
  cases hs : okShow x with
  | false => simp
  | true =>
    rw [impl_copyShow x (facts hs), Option.bind_some, rev_ints _ h.2.2, Option.bind_some]
    simp
theorem revAns_S (x : ShowT) : S_Show (revAns x).1 := by
  unfold revAns
  cases hs : okShow x with
  | false => exact S_nil
  | true =>
    obtain ⟨h1, h2, h3, h4⟩ := S_of_ok hs
    exact ⟨⟨by simpa using h1.1, fun c hc => h1.2 c (by simpa using hc)⟩, ⟨by simpa using h2.1, fun _ _ => trivial⟩, h3, h4⟩
end Go.Proofs.Ytadklddedeoniaa
