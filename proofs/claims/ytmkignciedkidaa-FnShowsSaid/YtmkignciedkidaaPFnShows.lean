import Derived.Test.YtmkignciedkidaaPH
import Derived.Test.YtmkignciedkidaaPB2
/-
  WHAT THE LAWS ON SHOWS HAND OVER AND TAKE BACK, PLAIN.
-/
set_option linter.unusedSimpArgs false
set_option linter.unusedVariables false
namespace Go.Proofs.Ytmkignciedkidaa
open Go
end Go.Proofs.Ytmkignciedkidaa
/-
  SHEETS PUBLISHED, PLAIN.
-/
set_option linter.unusedSimpArgs false
set_option linter.unusedVariables false
namespace Go.Proofs.Ytmkignciedkidaa
open Go
def sheetsOf (x : ShowT) : List SheetT := (List.range (firstLen' x)).map (sheetOf x)
def pubAns (x : ShowT) : List SheetT × Bool := if okShow x && decide ((unsafs x).length = 0) then (sheetsOf x, true) else ([], false)
theorem pub_loop (F : Nat → List SheetT → Int → Option (List SheetT × Bool)) (g : Int → Option SheetT) (x : ShowT) (c : List (Int × Int)) (hc : c.length = firstLen' x) (h12 : firstLen' x ≤ 12) (hg : ∀ i : Nat, i < firstLen' x → g (i : Int) = some (sheetOf x i))
    (hst : ∀ m s y, F (m + 1) s y = if (decide (y < (List.length c : Int))) = true then Option.bind (g y) fun u => Option.bind (app s [u]) fun v => F m v (w64 (y + 1)) else some (s, true)) : F FU [] 0 = some (sheetsOf x, true) := by
  unfold sheetsOf
  rw [loopMap F (firstLen' x) (sheetOf x) (fun s => some (s, true)) (by omega) (fun m s k hk hsl => ?_) (fun m s => ?_)]
  · rw [hst, if_pos (by simp; omega), hg k hk, Option.bind_some, app_ok (by simp; omega), Option.bind_some, w64_succ (by omega)]
  · rw [hst, if_neg (by simp; omega)]
theorem spec_PublishSheets (x : ShowT) (h : lensOk x) : F_spec_PublishSheets x = some (pubAns x) := by
  unfold F_spec_PublishSheets pubAns jK1
  dsimp only
  rw [spec_swGood x h.1 h.2.1 h.2.2, Option.bind_some]
  cases hs : okShow x with
  | false => simp
  | true =>
    have f := facts hs
    obtain ⟨c, hc, hl, _, h12⟩ := show_first f
    rw [spec_swUnsafe x f, Option.bind_some]
    by_cases h0 : (unsafs x).length = 0
    · rw [if_neg (by simp), if_neg (by simp [h0]), idx_zero, hc, Option.bind_some, pub_loop (F_spec_PublishSheets_L1 c x) (F_spec_shOf x.1 x.2.1) x c hl h12 (fun i hi => spec_shOf x f i hi) (fun m s y => by rw [F_spec_PublishSheets_L1])]
      simp [h0]
    · have : 0 < (unsafs x).length := by omega
      simp [h0, this]
theorem impl_PublishSheets (x : ShowT) (h : lensOk x) : F_impl_PublishSheets x = some (pubAns x) := by
  unfold F_impl_PublishSheets pubAns jK1
  dsimp only
  rw [impl_IsShow x h.1 h.2.1 h.2.2, Option.bind_some]
  cases hs : okShow x with
  | false => simp
  | true =>
    have f := facts hs
    obtain ⟨c, hc, hl, _, h12⟩ := show_first f
    rw [impl_unsafParts x f, Option.bind_some]
    by_cases h0 : (unsafs x).length = 0
    · rw [if_neg (by simp), if_neg (by simp [h0]), idx_zero, hc, Option.bind_some, pub_loop (F_impl_PublishSheets_L1 c x) (F_impl_sheetOf x.1 x.2.1) x c hl h12 (fun i hi => impl_sheetOf x f i hi) (fun m s y => by rw [F_impl_PublishSheets_L1])]
      simp [h0]
    · have : 0 < (unsafs x).length := by omega
      simp [h0, this]
end Go.Proofs.Ytmkignciedkidaa
/-
  SHOWS REVERSED, PLAIN.
-/
set_option linter.unusedSimpArgs false
set_option linter.unusedVariables false
namespace Go.Proofs.Ytmkignciedkidaa
open Go
theorem rev_list {α : Type} (f : Nat → List α → Int → Int → Option (List α)) (x0 : List α) (h : x0.length ≤ 9223372036854775807)
    (hst : ∀ m l y z, f (m + 1) l y z = if (decide (y < z)) = true then Option.bind (idx l z) fun a => Option.bind (idx l y) fun b => Option.bind (idx l y) fun _ => Option.bind (idx (seti l y a) z) fun _ => f m (seti (seti l y a) z b) (w64 (y + 1)) (w64 (z - 1)) else some l) :
    f FU x0 0 (w64 ((List.length x0 : Int) - 1)) = some x0.reverse := by
  have atI : ∀ (P T : List α) (x : α) (y : Int), y = (P.length : Int) → idx (P ++ x :: T) y = some x := by
    intro P T x y e; unfold idx; rw [if_pos (by omega), show y.toNat = P.length by omega]; simp
  have atS : ∀ (P T : List α) (x z : α) (y : Int), y = (P.length : Int) → seti (P ++ x :: T) y z = P ++ z :: T := by
    intro P T x z y e; unfold seti; rw [show y.toNat = P.length by omega]; simp
  have key : ∀ (n : Nat) (M A B : List α) (m : Nat) (y z : Int), M.length ≤ 2 * n + 1 → n < m → y = (A.length : Int) → z = (A.length : Int) + (M.length : Int) - 1 → A.length + M.length ≤ 9223372036854775807 → f m (A ++ M ++ B) y z = some (A ++ M.reverse ++ B) := by
    intro n
    induction n with
    | zero =>
      intro M A B m y z hn hm hy hz hl
      cases m with
      | zero => omega
      | succ m =>
        match M, hn with
        | [], _ => rw [hst, if_neg (by simp at hz ⊢; omega)]; simp
        | [a], _ => rw [hst, if_neg (by simp at hz ⊢; omega)]; simp
    | succ n ih =>
      intro M A B m y z hn hm hy hz hl
      cases m with
      | zero => omega
      | succ m =>
        match M with
        | [] => rw [hst, if_neg (by simp at hz ⊢; omega)]; simp
        | a :: M' =>
          rcases List.eq_nil_or_concat M' with rfl | ⟨M2, b, rfl⟩
          · rw [hst, if_neg (by simp at hz ⊢; omega)]; simp
          · rw [List.concat_eq_append] at *
            have hz' : z = (A.length : Int) + (M2.length : Int) + 1 := by rw [hz]; simp; omega
            have hl' : A.length + M2.length + 2 ≤ 9223372036854775807 := by simp at hl; omega
            have e1 : A ++ a :: (M2 ++ [b]) ++ B = (A ++ a :: M2) ++ b :: B := by simp
            have e2 : A ++ a :: (M2 ++ [b]) ++ B = A ++ a :: (M2 ++ [b] ++ B) := by simp
            have i1 : idx (A ++ a :: (M2 ++ [b]) ++ B) z = some b := by rw [e1]; exact atI _ _ _ _ (by rw [hz']; simp; omega)
            have i2 : idx (A ++ a :: (M2 ++ [b]) ++ B) y = some a := by rw [e2]; exact atI _ _ _ _ hy
            have s1 : seti (A ++ a :: (M2 ++ [b]) ++ B) y b = (A ++ b :: M2) ++ b :: B := by rw [e2, atS _ _ _ _ _ hy]; simp
            have i3 : idx ((A ++ b :: M2) ++ b :: B) z = some b := atI _ _ _ _ (by rw [hz']; simp; omega)
            have s2 : seti ((A ++ b :: M2) ++ b :: B) z a = (A ++ [b]) ++ M2 ++ a :: B := by rw [atS _ _ _ _ _ (by rw [hz']; simp; omega)]; simp
            rw [hst, if_pos (by simp; omega), i1, Option.bind_some, i2, Option.bind_some, Option.bind_some, s1, i3, Option.bind_some, s2, w64_eq (x := y + 1) (by omega) (by omega), w64_eq (x := z - 1) (by omega) (by omega)]
            have := ih M2 (A ++ [b]) (a :: B) m (y + 1) (z - 1) (by simp at hn; omega) (by omega) (by simp; omega) (by simp; omega) (by simp; omega)
            rw [this]
            simp
  have := key (x0.length / 2) x0 [] [] FU 0 (w64 ((List.length x0 : Int) - 1)) (by omega) (show x0.length / 2 < 4611686018427387904 by omega) rfl (by rw [w64_eq (by omega) (by omega)]; simp) (by simpa using h)
  simpa using this
theorem rev_ints (x : List Int) (h : x.length < 4611686018427387904) : F_slices_Reverse_int_int__mut x = some x.reverse := by
  unfold F_slices_Reverse_int_int__mut
  exact rev_list F_slices_Reverse_int_int__mut_L1 x (by omega) (fun m l y z => by rw [F_slices_Reverse_int_int__mut_L1]; rfl)
theorem down_loop {α R : Type} (f : Nat → List α → Int → Option R) (l : List α) (rest : List α → Option R) (hl : l.length ≤ 1048576)
    (hst : ∀ m s y, f (m + 1) s y = if (decide (0 ≤ y)) = true then Option.bind (idx l y) fun u => Option.bind (app s [u]) fun v => f m v (w64 (y - 1)) else rest s) : f FU [] (w64 ((List.length l : Int) - 1)) = rest l.reverse := by
  have key : ∀ (n m : Nat) (y : Int), n ≤ l.length → n < m → y = (n : Int) - 1 → f m ((l.drop n).reverse) y = rest l.reverse := by
    intro n
    induction n with
    | zero =>
      intro m y hn hm hy
      cases m with
      | zero => omega
      | succ m => rw [hst, if_neg (by simp; omega)]; simp
    | succ n ih =>
      intro m y hn hm hy
      cases m with
      | zero => omega
      | succ m =>
        have hlt : n < l.length := by omega
        have hy' : y = (n : Int) := by omega
        subst hy'
        rw [hst, if_pos (by simp), idx_lt hlt, Option.bind_some, app_ok (by simp; omega), Option.bind_some, w64_eq (by omega) (by omega)]
        have := ih m ((n : Int) - 1) (by omega) (by omega) rfl
        rw [List.drop_eq_getElem_cons hlt, List.reverse_cons] at this
        exact this
  have := key l.length FU (w64 ((List.length l : Int) - 1)) (Nat.le_refl _) (FU_gt (by omega)) (w64_eq (by omega) (by omega))
  simpa using this
def revAns (x : ShowT) : ShowT × Bool := if okShow x then ((x.1.reverse, x.2.1.reverse, x.2.2.1, x.2.2.2), true) else (([], [], 0, 0), false)
theorem spec_ReverseShow (x : ShowT) (h : lensOk x) : F_spec_ReverseShow x = some (revAns x) := by
  unfold F_spec_ReverseShow revAns
  rw [spec_swGood x h.1 h.2.1 h.2.2, Option.bind_some]
  cases hs : okShow x with
  | false => simp
  | true =>
    have f := facts hs
    have n1 := f.n1
    have nc := f.nc
    have key : ∀ (n m : Nat) (y : Int), n ≤ x.1.length → n < m → y = (n : Int) - 1 → F_spec_ReverseShow_L1 x m ((x.1.drop n).reverse) y = F_spec_ReverseShow_L2 x x.1.reverse FU [] (w64 ((List.length x.2.1 : Int) - 1)) := by
      intro n
      induction n with
      | zero =>
        intro m y hn hm hy
        cases m with
        | zero => omega
        | succ m => rw [F_spec_ReverseShow_L1, if_neg (by simp; omega)]; simp
      | succ n ih =>
        intro m y hn hm hy
        cases m with
        | zero => omega
        | succ m =>
          have hlt : n < x.1.length := by omega
          have hy' : y = (n : Int) := by omega
          subst hy'
          have hc := (f.cl x.1[n] (List.getElem_mem hlt)).2
          rw [F_spec_ReverseShow_L1, if_pos (by simp)]
          unfold jK1
          dsimp only
          rw [idx_lt hlt, Option.bind_some, spec_chOwn _ (by omega), Option.bind_some, app_ok (by simp; omega), Option.bind_some, w64_eq (by omega) (by omega)]
          have := ih m ((n : Int) - 1) (by omega) (by omega) rfl
          rw [List.drop_eq_getElem_cons hlt, List.reverse_cons] at this
          exact this
    have := key x.1.length FU (w64 ((List.length x.1 : Int) - 1)) (Nat.le_refl _) (FU_gt (by omega)) (w64_eq (by omega) (by omega))
    rw [List.drop_length, List.reverse_nil] at this
    rw [if_neg (by simp), this, down_loop (F_spec_ReverseShow_L2 x x.1.reverse) x.2.1 (fun s => some ((x.1.reverse, s, x.2.2.1, x.2.2.2), true)) (by omega) (fun m s y => by rw [F_spec_ReverseShow_L2]; rfl)]
    simp
theorem impl_ReverseShow (x : ShowT) (h : lensOk x) : F_impl_ReverseShow x = some (revAns x) := by
  unfold F_impl_ReverseShow revAns
  rw [impl_IsShow x h.1 h.2.1 h.2.2, Option.bind_some]
  cases hs : okShow x with
  | false => simp
  | true =>
    rw [impl_copyShow x (facts hs), Option.bind_some, rev_ints _ h.2.2, Option.bind_some]
    simp
end Go.Proofs.Ytmkignciedkidaa
/-
  THE COUNTS OF A SHOW, PLAIN.
-/
set_option linter.unusedSimpArgs false
set_option linter.unusedVariables false
namespace Go.Proofs.Ytmkignciedkidaa
open Go
def sumW (l : List Int) : Int := l.foldl (fun a u => w64 (a + u)) 0
theorem spec_swTotal (x : ShowT) (h : x.2.1.length < 4611686018427387904) : F_spec_swTotal x = some (sumW x.2.1) := by
  unfold F_spec_swTotal sumW
  rw [loopFold (F_spec_swTotal_L1 x) x.2.1 (fun a u => w64 (a + u)) some h (fun m s k u hk hu => ?_) (fun m s => ?_)]
  · rw [F_spec_swTotal_L1, if_pos (by simp; omega), idx_nat, hu, Option.bind_some, w64_succ (by omega)]
  · rw [F_spec_swTotal_L1, if_neg (by simp)]
theorem impl_totalCounts (x : ShowT) (h : x.2.1.length < 4611686018427387904) : F_impl_totalCounts x = some (sumW x.2.1) := by
  unfold F_impl_totalCounts sumW
  rw [loopFold (F_impl_totalCounts_L1 x) x.2.1 (fun a u => w64 (a + u)) some h (fun m s k u hk hu => ?_) (fun m s => ?_)]
  · rw [F_impl_totalCounts_L1, if_pos (by simp; omega), idx_nat, hu, Option.bind_some, w64_succ (by omega)]
  · rw [F_impl_totalCounts_L1, if_neg (by simp)]
end Go.Proofs.Ytmkignciedkidaa
/-
  THE SUM OF COUNTS OF A SHOW, PLAIN.
-/
set_option linter.unusedSimpArgs false
set_option linter.unusedVariables false
namespace Go.Proofs.Ytmkignciedkidaa
open Go
/-! the sums of counts -/
def totalAns (x : ShowT) : Int × Bool := if okShow x then (sumW x.2.1, true) else (0, false)
theorem impl_TotalCounts (x : ShowT) (h : lensOk x) : F_impl_TotalCounts x = some (totalAns x) := by
  unfold F_impl_TotalCounts totalAns
  rw [impl_IsShow x h.1 h.2.1 h.2.2, Option.bind_some, impl_totalCounts x h.2.2]
  cases okShow x <;> rfl
theorem spec_TotalCounts (x : ShowT) (h : lensOk x) : F_spec_TotalCounts x = some (totalAns x) := by
  unfold F_spec_TotalCounts totalAns
  rw [spec_swGood x h.1 h.2.1 h.2.2, Option.bind_some, spec_swTotal x h.2.2]
  cases okShow x <;> rfl
end Go.Proofs.Ytmkignciedkidaa
/-
  WHO IS STILL GOING, PLAIN.
-/
set_option linter.unusedSimpArgs false
set_option linter.unusedVariables false
namespace Go.Proofs.Ytmkignciedkidaa
open Go
end Go.Proofs.Ytmkignciedkidaa
/-
  WHERE PERFORMERS ARE NOW, PLAIN; who is too close.
-/
set_option linter.unusedSimpArgs false
set_option linter.unusedVariables false
namespace Go.Proofs.Ytmkignciedkidaa
open Go
/-! pairs below n that p takes -/
end Go.Proofs.Ytmkignciedkidaa
/-
  SHEETS OF VALID SHOWS: the spots after counts, PLAIN.
-/
set_option linter.unusedSimpArgs false
set_option linter.unusedVariables false
namespace Go.Proofs.Ytmkignciedkidaa
open Go
theorem areCharts_ok {x : ShowT} (f : ShowFacts x) : F_impl_areCharts x.1 x.2.1 = some true := by
  have n0 := f.n0
  have n1 := f.n1
  have nc := f.nc
  obtain ⟨c0, hc0⟩ : ∃ c, x.1[0]? = some c := ⟨_, List.getElem?_eq_getElem (by omega)⟩
  unfold F_impl_areCharts jK1
  dsimp only
  have hin : okIn (x.1.length : Int) 1 9 = true := by rw [okIn_iff]; omega
  rw [impl_within, Option.bind_some, hin, w64_eq (by omega) (by omega), if_neg (by simp), if_neg (by simp; omega)]
  rw [loopL (F_impl_areCharts_L1 x.1 x.2.1) x.1 (fun _ => true) (F_impl_areCharts_L2 x.2.1 FU 0) (some false) (by omega) (fun m k c hk hc => ?_) (fun m => by rw [F_impl_areCharts_L1, if_neg (by simp)])]
  · rw [if_pos (by simp), loopL (F_impl_areCharts_L2 x.2.1) x.2.1 (fun _ => true) (some true) (some false) (by omega) (fun m k u hk hu => ?_) (fun m => by rw [F_impl_areCharts_L2, if_neg (by simp)])]
    · simp
    · have hu2 := f.cn u (List.mem_of_getElem? hu)
      have : okIn u 1 64 = true := by rw [okIn_iff]; exact hu2
      rw [F_impl_areCharts_L2, if_pos (by simp; omega), idx_nat, hu, Option.bind_some, impl_within, Option.bind_some, this, w64_succ (by omega)]
      simp
  · have hm := List.mem_of_getElem? hc
    have hl := (f.cl c hm).2
    rw [F_impl_areCharts_L1, if_pos (by simp; omega), idx_nat, hc, Option.bind_some]
    unfold jK1
    dsimp only
    rw [impl_IsChart c (by omega), Option.bind_some, f.ch c hm, if_neg (by simp), idx_zero, hc0, Option.bind_some, f.ce c hm c0 hc0, w64_succ (by omega)]
    simp
theorem spot_ok {x : ShowT} (f : ShowFacts x) {k i : Nat} (hk : k < x.1.length) (hi : i < firstLen' x) : okSpot (spotAt x k i) = true := by
  obtain ⟨c0, hc0, he, _, _⟩ := show_first f
  obtain ⟨c, hc⟩ : ∃ c, x.1[k]? = some c := ⟨_, List.getElem?_eq_getElem hk⟩
  have hl := chart_len f hc hc0
  unfold spotAt
  rw [chartAt_of hc, List.getElem?_eq_getElem (show i < c.length by omega)]
  exact chart_spots (f.ch c (List.mem_of_getElem? hc)) _ (List.getElem_mem _)
theorem counts_ok {x : ShowT} (f : ShowFacts x) {k : Nat} (hk : k < x.2.1.length) : 1 ≤ countsAt x k ∧ countsAt x k ≤ 64 := by
  have e : x.2.1[k]? = some x.2.1[k] := List.getElem?_eq_getElem hk
  unfold countsAt
  rw [e]
  exact f.cn _ (List.getElem_mem hk)
theorem rows_ok {x : ShowT} (f : ShowFacts x) {i : Nat} (hi : i < firstLen' x) : (rowsOf x i).all okRow = true := by
  have nc := f.nc
  rw [List.all_eq_true]
  intro r hr
  unfold rowsOf at hr
  obtain ⟨k, hk, rfl⟩ := List.mem_map.1 hr
  have hk' := List.mem_range.1 hk
  unfold okRow
  rw [Bool.and_eq_true, okIn_iff]
  exact ⟨counts_ok f hk', spot_ok f (by omega) hi⟩
theorem sheet_ok {x : ShowT} (f : ShowFacts x) {i : Nat} (hi : i < firstLen' x) : okSheet (sheetOf x i) = true := by
  obtain ⟨c, hc, he, h1, h12⟩ := show_first f
  have n1 := f.n1
  have nc := f.nc
  unfold okSheet sheetOf
  simp only [Bool.and_eq_true, decide_eq_true_eq, okIn_iff]
  refine ⟨⟨⟨by omega, spot_ok f (by omega) hi⟩, rows_ok f hi⟩, by unfold rowsOf; simp; omega⟩
/-! rounding stays between -/
/-! places of a march -/
/-! pairs -/
end Go.Proofs.Ytmkignciedkidaa
/-
  THE LAW FnShows, PLAIN: it answers true.
-/
set_option linter.unusedSimpArgs false
set_option linter.unusedVariables false
namespace Go.Proofs.Ytmkignciedkidaa
open Go
/-! a way back comes as close as the way there -/
theorem sq_zero {a : Int} (h : a * a ≤ 0) (h0 : 0 ≤ a * a) : a = 0 := by
  have : a * a = 0 := by omega
  rcases Int.mul_eq_zero.1 this with h | h <;> exact h
theorem nearV_back (px py qx qy : Int) : nearV qx qy px py = nearV px py qx qy := by
  obtain ⟨a, rfl⟩ : ∃ a, qx = px + a := ⟨qx - px, by omega⟩
  obtain ⟨b, rfl⟩ : ∃ b, qy = py + b := ⟨qy - py, by omega⟩
  have e1 : px + a - px = a := by omega
  have e2 : py + b - py = b := by omega
  have e3 : px - (px + a) = -a := by omega
  have e4 : py - (py + b) = -b := by omega
  have x1 : (px + a) * -a = -(px * a + a * a) := by rw [Int.mul_neg, Int.add_mul]
  have x2 : (py + b) * -b = -(py * b + b * b) := by rw [Int.mul_neg, Int.add_mul]
  have x3 : -a * -a = a * a := Int.neg_mul_neg a a
  have x4 : -b * -b = b * b := Int.neg_mul_neg b b
  have x5 : (px + a) * py - (py + b) * px = -(px * (py + b) - py * (px + a)) := by
    rw [Int.add_mul, Int.add_mul, Int.mul_add, Int.mul_add, Int.mul_comm a py, Int.mul_comm b px, Int.mul_comm px py]
    omega
  have x6 : ((px + a) * py - (py + b) * px) * ((px + a) * py - (py + b) * px) = (px * (py + b) - py * (px + a)) * (px * (py + b) - py * (px + a)) := by rw [x5, Int.neg_mul_neg]
  have na := (show 0 ≤ a * a by
    have : (0 : Int) ≤ ((a.natAbs * a.natAbs : Nat) : Int) := Int.natCast_nonneg _
    rwa [Int.natAbs_mul_self] at this)
  have nb := (show 0 ≤ b * b by
    have : (0 : Int) ≤ ((b.natAbs * b.natAbs : Nat) : Int) := Int.natCast_nonneg _
    rwa [Int.natAbs_mul_self] at this)
  unfold nearV
  rw [e1, e2, e3, e4, x1, x2, x3, x4, x6]
  by_cases h1 : 0 ≤ px * a + py * b
  · rw [if_pos h1]
    by_cases h2 : 0 ≤ -(px * a + a * a) + -(py * b + b * b)
    · rw [if_pos h2]
      have ha : a = 0 := sq_zero (by omega) na
      have hb : b = 0 := sq_zero (by omega) nb
      subst ha
      subst hb
      simp
    · rw [if_neg h2, if_pos (by omega)]
  · rw [if_neg h1]
    by_cases h2 : a * a + b * b ≤ 0 - (px * a + py * b)
    · rw [if_pos h2, if_pos (by omega)]
    · rw [if_neg h2, if_neg (by omega), if_neg (by omega)]
def rvM (u : MoveT) : MoveT := (u.2.1, u.1, u.2.2)
theorem near_back (u v : MoveT) : near (rvM u) (rvM v) = near u v := nearV_back _ _ _ _
theorem close_back (ms : List MoveT) (least : Int) : closeOf (ms.map rvM) least = closeOf ms least := by
  have st : ∀ i k, stayAt (ms.map rvM) least i k = stayAt ms least i k := by
    intro i k
    unfold stayAt
    rw [List.getElem?_map, List.getElem?_map]
    cases ms[i]? with
    | none => rfl
    | some u =>
      cases ms[k]? with
      | none => rfl
      | some v =>
        simp only [Option.map_some]
        unfold stay
        rw [near_back]
  unfold closeOf closeRow
  rw [List.length_map]
  simp only [st]
theorem sq_back {u : MoveT} (h : goodMove u) : sqM (rvM u) = sqM u := by
  have h1 := h.1
  have h2 := h.2
  unfold okSpot at h1 h2
  rw [Bool.and_eq_true, okIn_iff, okIn_iff] at h1 h2
  unfold sqM sqOf rvM
  dsimp only
  rw [w64_eq (x := u.2.1.1 - u.1.1) (by omega) (by omega), w64_eq (x := u.2.1.2 - u.1.2) (by omega) (by omega), w64_eq (x := u.1.1 - u.2.1.1) (by omega) (by omega), w64_eq (x := u.1.2 - u.2.1.2) (by omega) (by omega)]
  rw [show u.2.1.1 - u.1.1 = -(u.1.1 - u.2.1.1) by omega, show u.2.1.2 - u.1.2 = -(u.1.2 - u.2.1.2) by omega, Int.neg_mul_neg, Int.neg_mul_neg]
/-- The show from its end. -/
def backS (x : ShowT) : ShowT := (x.1.reverse, x.2.1.reverse, x.2.2.1, x.2.2.2)
theorem back_ok {x : ShowT} (h : okShow x = true) : okShow (backS x) = true := by
  have f := facts h
  have n0 := f.n0
  have n1 := f.n1
  have nc := f.nc
  obtain ⟨c0, hc0⟩ : ∃ c, x.1[0]? = some c := ⟨_, List.getElem?_eq_getElem (by omega)⟩
  unfold okShow sameLong okCounts backS
  simp only [Bool.and_eq_true, okIn_iff, decide_eq_true_eq, List.all_eq_true, List.length_reverse, List.mem_reverse]
  refine ⟨⟨⟨⟨⟨by omega, nc⟩, fun c hc => ⟨f.ch c hc, ?_⟩⟩, f.cn⟩, f.le⟩, f.st⟩
  cases hd : x.1.reverse[0]? with
  | none => rfl
  | some d =>
    have hm : d ∈ x.1 := List.mem_reverse.1 (List.mem_of_getElem? hd)
    simp only [decide_eq_true_eq]
    rw [f.ce c hc c0 hc0, f.ce d hm c0 hc0]
theorem back_twice (x : ShowT) : backS (backS x) = x := by unfold backS; simp
theorem moves_back {x : ShowT} (f : ShowFacts x) {p : Nat} (hp : p < x.2.1.length) : movesOf (backS x) p = (movesOf x (x.2.1.length - 1 - p)).map rvM := by
  have n0 := f.n0
  have nc := f.nc
  obtain ⟨q, hq⟩ : ∃ q, q = x.2.1.length - 1 - p := ⟨_, rfl⟩
  rw [← hq]
  obtain ⟨a, b, n, h1, h2, h3, h4, _⟩ := part_facts f (p := q) (by omega)
  have e1 : chartAt (backS x) p = b := by
    unfold chartAt backS
    dsimp only
    rw [List.getElem?_reverse (by omega), show x.1.length - 1 - p = q + 1 by omega, h2]
    rfl
  have e2 : chartAt (backS x) (p + 1) = a := by
    unfold chartAt backS
    dsimp only
    rw [List.getElem?_reverse (by omega), show x.1.length - 1 - (p + 1) = q by omega, h1]
    rfl
  have e3 : countsAt (backS x) p = countsAt x q := by
    unfold countsAt backS
    dsimp only
    rw [List.getElem?_reverse (by omega), show x.2.1.length - 1 - p = q by omega]
  unfold movesOf
  rw [List.map_map, e1, e2, e3, chartAt_of h1, chartAt_of h2, h4]
  rfl
theorem safe_back {x : ShowT} (f : ShowFacts x) {p : Nat} (hp : p < x.2.1.length) : safeAt (backS x) p = safeAt x (x.2.1.length - 1 - p) := by
  have hg := moves_good f (p := x.2.1.length - 1 - p) (by omega)
  have hm := moves_back f hp
  unfold safeAt
  have hw : widesOf (backS x) p = widesOf x (x.2.1.length - 1 - p) := by
    unfold widesOf
    rw [hm, List.length_map]
    congr 1
    funext k
    unfold wideAt
    rw [hm, List.getElem?_map]
    cases hk : (movesOf x (x.2.1.length - 1 - p))[k]? with
    | none => rfl
    | some u =>
      have := sq_back (hg u (List.mem_of_getElem? hk))
      show (!withinB (rvM u) (backS x).2.2.2) = !withinB u x.2.2.2
      unfold withinB
      rw [this]
      rfl
  rw [hm, close_back, hw]
  rfl
theorem unsaf_none (x : ShowT) : (unsafs x).length = 0 ↔ ∀ k, k < x.2.1.length → safeAt x k = true := by
  unfold unsafs filt
  rw [List.length_map, List.length_eq_zero_iff, List.filter_eq_nil_iff]
  constructor
  · intro h k hk
    have := h k (List.mem_range.2 hk)
    simpa using this
  · intro h k hk
    rw [h k (List.mem_range.1 hk)]
    simp
theorem unsaf_back {x : ShowT} (f : ShowFacts x) : (unsafs (backS x)).length = 0 ↔ (unsafs x).length = 0 := by
  rw [unsaf_none, unsaf_none]
  have hl : (backS x).2.1.length = x.2.1.length := by unfold backS; simp
  rw [hl]
  constructor
  · intro h k hk
    have := h (x.2.1.length - 1 - k) (by omega)
    rw [safe_back f (by omega), show x.2.1.length - 1 - (x.2.1.length - 1 - k) = k by omega] at this
    exact this
  · intro h k hk
    rw [safe_back f hk]
    exact h _ (by omega)
/-! sheets put together -/
theorem p_Sheet (u : SheetT) (h : u.2.2.length ≤ 1048576) : F_laws_pSameSheet u u = some true := by
  unfold F_laws_pSameSheet jK1
  dsimp only
  rw [if_neg (by simp), if_neg (by simp [eqv_Spot])]
  exact eqL (F_laws_pSameSheet_L1 u u) u.2.2 (fun u v => some (eqv_Row u v)) (fun _ _ => rfl) (S := anyG) (fun u _ => by simp [eqv_Row]) ⟨h, fun _ _ => trivial⟩
theorem p_Sheets (x : List SheetT) (hs : x.length ≤ 1048576) (h : ∀ u ∈ x, u.2.2.length ≤ 1048576) : F_laws_pSameSheets x x = some true :=
  eqL (F_laws_pSameSheets_L1 x x) x F_laws_pSameSheet (fun _ _ => rfl) (S := fun u => u.2.2.length ≤ 1048576) (fun u hu => p_Sheet u hu) ⟨hs, h⟩
theorem chart_back {x : ShowT} (f : ShowFacts x) {k : Nat} (hk : k < x.1.length) : (List.range (firstLen' x)).map (spotAt x k) = chartAt x k := by
  obtain ⟨c0, hc0, he, _, _⟩ := show_first f
  obtain ⟨c, hc⟩ : ∃ c, x.1[k]? = some c := ⟨_, List.getElem?_eq_getElem hk⟩
  have hl := chart_len f hc hc0
  unfold spotAt
  rw [chartAt_of hc]
  apply List.ext_getElem?
  intro i
  by_cases hi : i < c.length
  · rw [List.getElem?_map, List.getElem?_range (by omega), Option.map_some, List.getElem?_eq_getElem hi]
    rfl
  · rw [List.getElem?_eq_none (by simp; omega), List.getElem?_eq_none (by omega)]
theorem impl_ChartsOf {x : ShowT} (f : ShowFacts x) : F_impl_ChartsOf (sheetsOf x) = some (x.1, x.2.1, true) := by
  obtain ⟨c0, hc0, he, h1, h12⟩ := show_first f
  have n0 := f.n0
  have n1 := f.n1
  have nc := f.nc
  have hl : (sheetsOf x).length = firstLen' x := by unfold sheetsOf; simp
  have hget : ∀ i, i < firstLen' x → (sheetsOf x)[i]? = some (sheetOf x i) := by
    intro i hi
    unfold sheetsOf
    rw [List.getElem?_map, List.getElem?_range hi]
    rfl
  have hrl : ∀ i, (sheetOf x i).2.2.length = x.2.1.length := by intro i; unfold sheetOf rowsOf; simp
  have hrow : ∀ i k, k < x.2.1.length → (sheetOf x i).2.2[k]? = some (countsAt x k, spotAt x (k + 1) i) := by
    intro i k hk
    unfold sheetOf rowsOf
    rw [List.getElem?_map, List.getElem?_range hk]
    rfl
  unfold F_impl_ChartsOf
  have hin : okIn ((sheetsOf x).length : Int) 1 12 = true := by rw [okIn_iff]; omega
  rw [impl_within, Option.bind_some, hin, if_neg (by simp)]
  -- each is a sheet of its own performer
  rw [loopR (F_impl_ChartsOf_L1 (sheetsOf x)) (sheetsOf x).length (fun _ => true) (F_impl_ChartsOf_L2 (sheetsOf x) FU [[]] 0) none (by omega) (fun m k hk => ?_) (fun m => by rw [F_impl_ChartsOf_L1, if_neg (by simp)])]
  rotate_left
  · have hk' : k < firstLen' x := by omega
    rw [F_impl_ChartsOf_L1, if_pos (by simp; omega), idx_nat, hget k hk', Option.bind_some]
    unfold jK1
    dsimp only
    rw [impl_IsSheet _ (by rw [hrl]; omega), Option.bind_some, sheet_ok f hk', if_neg (by simp), if_neg (by unfold sheetOf; simp), idx_zero, hget 0 (by omega), Option.bind_some, hrl, hrl, if_neg (by simp), w64_succ (by omega)]
    simp
  rw [if_pos (by simp)]
  -- the first chart
  have first := (loopS (F_impl_ChartsOf_L2 (sheetsOf x)) (sheetsOf x).length (fun k _ => [(List.range (k + 1)).map (spotAt x 0)]) (fun l => F_impl_ChartsOf_L3 (sheetOf x 0) (sheetsOf x) FU l [] 0) (by omega)
    (fun k l => l = [(List.range k).map (spotAt x 0)]) [[]] rfl (fun k s hk hs => rfl) (fun m k s hk hs => ?_) (fun m s hs => ?_))
  rotate_left
  · subst hs
    rw [F_impl_ChartsOf_L2, if_pos (by simp; omega)]
    unfold jK1
    dsimp only
    rw [idx_nat, hget k (by omega), Option.bind_some, idx_zero]
    simp only [List.getElem?_cons_zero, Option.bind_some]
    rw [app_ok (by simp; omega), Option.bind_some, w64_succ (by omega), List.range_succ, List.map_append]
    rfl
  · subst hs
    rw [F_impl_ChartsOf_L2, if_neg (by simp), idx_zero, hget 0 (by omega), Option.bind_some]
  rw [first.1, first.2, hl, chart_back f (by omega)]
  -- the others
  have others := (loopS (fun m (s : List (List (Int × Int)) × List Int) y => F_impl_ChartsOf_L3 (sheetOf x 0) (sheetsOf x) m s.1 s.2 y) x.2.1.length (fun k s => (x.1.take (k + 1 + 1), x.2.1.take (k + 1))) (fun s => some (s.1, s.2, true)) (by omega)
    (fun k s => s = (x.1.take (k + 1), x.2.1.take k)) ([chartAt x 0], []) ?_ (fun k s hk hs => rfl) (fun m k s hk hs => ?_) (fun m s hs => ?_))
  · have := others.1
    dsimp only at this
    rw [this, others.2, show x.2.1.length + 1 = x.1.length by omega, List.take_length, List.take_length]
  · have e0 : x.1[0]? = some (chartAt x 0) := by rw [chartAt_of hc0]; exact hc0
    have : x.1.take (0 + 1) = [chartAt x 0] := by rw [List.take_add_one, e0]; simp
    rw [this]
    simp
  · subst hs
    have hk1 : k + 1 < x.1.length := by omega
    obtain ⟨d, hd⟩ : ∃ c, x.1[k + 1]? = some c := ⟨_, List.getElem?_eq_getElem hk1⟩
    have ecnt : x.2.1[k]? = some (countsAt x k) := by unfold countsAt; rw [List.getElem?_eq_getElem hk]; rfl
    have hch : x.1[k + 1]? = some (chartAt x (k + 1)) := by rw [chartAt_of hd]; exact hd
    dsimp only
    rw [F_impl_ChartsOf_L3, if_pos (by simp [hrl]; omega), idx_nat, hrow 0 k hk, Option.bind_some]
    rw [loopMap (F_impl_ChartsOf_L4 (sheetsOf x) (k : Int) (countsAt x k, spotAt x (k + 1) 0) (x.1.take (k + 1)) (x.2.1.take k) (F_impl_ChartsOf_L3 (sheetOf x 0) (sheetsOf x) m)) (firstLen' x) (spotAt x (k + 1))
      (fun l => Option.bind (app (x.1.take (k + 1)) [l]) fun u => Option.bind (app (x.2.1.take k) [countsAt x k]) fun v => F_impl_ChartsOf_L3 (sheetOf x 0) (sheetsOf x) m u v (w64 ((k : Int) + 1))) (by omega) (fun m' s' i hi hsl => ?_) (fun m' s' => ?_)]
    · rw [chart_back f hk1, app_ok (by simp; omega), Option.bind_some, app_ok (by simp; omega), Option.bind_some, w64_succ (by omega)]
      have t1 : x.1.take (k + 1 + 1) = x.1.take (k + 1) ++ [chartAt x (k + 1)] := by rw [List.take_add_one (i := k + 1), hch]; rfl
      have t2 : x.2.1.take (k + 1) = x.2.1.take k ++ [countsAt x k] := by rw [List.take_add_one (i := k), ecnt]; rfl
      rw [t1, t2]
    · rw [F_impl_ChartsOf_L4, if_pos (by simp; omega), idx_nat, hget i hi, Option.bind_some, idx_nat, hrow i k hk, Option.bind_some, if_neg (by simp), Option.bind_some, app_ok (by simp; omega), Option.bind_some, w64_succ (by omega)]
    · rw [F_impl_ChartsOf_L4, if_neg (by simp; omega)]
  · subst hs
    dsimp only
    rw [F_impl_ChartsOf_L3, if_neg (by simp [hrl]), show x.2.1.length + 1 = x.1.length by omega, List.take_length, List.take_length, areCharts_ok f, Option.bind_some, if_neg (by simp)]
/-! the law -/
theorem P_laws_FnShows (x0 x1 : List Int) (g0 : (allG inU8) x0) (g1 : (allG inU8) x1) : F_laws_FnShows x0 x1 = some true := by
  refine Tot.of ?_
  unfold F_laws_FnShows
  refine big_tot _ _ fun b => Tot.ite (fun _ => Tot.some rfl) fun _ => ?_
  refine Tot.bind (draw_PublishSheets x0 (Cu.begin g0)) fun x hx => ?_
  have lx := hx.lens
  refine Tot.bindE (impl_PublishSheets _ lx) (Tot.bindE (spec_PublishSheets _ lx) ?_)
  refine Tot.bindE (impl_UnsafeParts _ lx) (Tot.bindE (spec_UnsafeParts _ lx) ?_)
  refine Tot.bindE (impl_CanPublish _ lx) (Tot.bindE (spec_CanPublish _ lx) ?_)
  refine Tot.bindE (impl_TotalCounts _ lx) (Tot.bindE (spec_TotalCounts _ lx) ?_)
  refine Tot.bindE (impl_ReverseShow _ lx) (Tot.bindE (spec_ReverseShow _ lx) ?_)
  have sm : smallShow (revAns x).1 := by
    unfold revAns
    cases hs : okShow x with
    | false => exact small_nil
    | true => exact small_ok (back_ok hs)
  have ss : (pubAns x).1.length ≤ 1048576 ∧ ∀ u ∈ (pubAns x).1, u.2.2.length ≤ 1048576 := by
    unfold pubAns
    cases hs : okShow x with
    | false => simp
    | true =>
      have f := facts hs
      obtain ⟨c, hc, hl, _, h12⟩ := show_first f
      have n1 := f.n1
      have nc := f.nc
      rw [Bool.true_and]
      split
      · refine ⟨by simp [sheetsOf]; omega, fun u hu => ?_⟩
        obtain ⟨i, _, rfl⟩ := List.mem_map.1 hu
        simp [sheetOf, rowsOf]
        omega
      · simp
  have ul := unsafAns_len x
  refine Tot.j1 (fun y => y = false) (fun y hy => ?_) fun k hk => ?_
  rotate_left
  · have o1 : (canAns x).2 = (unsafAns x).2 := by unfold canAns unsafAns; cases okShow x <;> rfl
    have o2 : (totalAns x).2 = (unsafAns x).2 := by unfold totalAns unsafAns; cases okShow x <;> rfl
    have o3 : (revAns x).2 = (unsafAns x).2 := by unfold revAns unsafAns; cases okShow x <;> rfl
    have o4 : okShow x = (unsafAns x).2 := by unfold unsafAns; cases okShow x <;> rfl
    rw [if_neg (by simp)]
    refine Tot.bindE (p_Sheets _ ss.1 ss.2) ?_
    rw [if_neg (by simp), if_neg (by simp)]
    refine Tot.bindE (p_Ints _ (by omega)) ?_
    rw [if_neg (by simp), if_neg (by simp), if_neg (by simp), if_neg (by simp), if_neg (by simp), if_neg (by simp)]
    refine Tot.bindE (p_Show _ sm) ?_
    rw [if_neg (by simp), o1, o2, o3, if_neg (by simp), if_neg (by simp), if_neg (by simp)]
    refine Tot.bindE (impl_IsShow x lx.1 lx.2.1 lx.2.2) ?_
    rw [if_neg (by rw [o4]; simp)]
    refine Tot.ite (fun h => ?_) fun h => ?_
    · have ho : okShow x = true := by rw [o4]; exact h
      have e1 : (pubAns x).2 = decide ((unsafs x).length = 0) := by
        unfold pubAns
        rw [ho, Bool.true_and]
        by_cases h0 : (unsafs x).length = 0 <;> simp [h0]
      have e2 : (unsafAns x).1 = unsafs x := by unfold unsafAns; rw [ho]; rfl
      have e3 : (canAns x).1 = decide ((unsafs x).length = 0) := by
        unfold canAns
        rw [ho, if_pos rfl]
        by_cases h0 : (unsafs x).length = 0
        · simp [h0]
        · simp [h0]
      have e4 : (((unsafs x).length : Int) == 0) = decide ((unsafs x).length = 0) := by
        by_cases h0 : (unsafs x).length = 0
        · simp [h0]
        · simp [h0]
      rw [e1, e2, e3, e4, if_neg (by simp)]
      exact hk _ (by simp)
    · have ho : okShow x = false := by rw [o4]; exact h
      have e1 : (pubAns x).2 = false := by unfold pubAns; rw [ho]; rfl
      have e3 : (canAns x).1 = false := by unfold canAns; rw [ho]; rfl
      rw [e1, e3, if_neg (by simp)]
      exact hk _ (by simp)
  subst hy
  simp only [Bool.false_eq_true, if_false]
  refine Tot.j0 ?_ fun k hk => ?_
  rotate_left
  · -- published sheets put together
    refine Tot.ite (fun hok => ?_) fun _ => hk
    have ho : okShow x = true := by
      cases h : okShow x with
      | true => rfl
      | false => unfold pubAns at hok; rw [h] at hok; simp at hok
    have f := facts ho
    have sx := small_ok ho
    have hp : (pubAns x).1 = sheetsOf x := by
      unfold pubAns at hok ⊢
      split
      · rfl
      · rename_i h
        rw [if_neg h] at hok
        simp at hok
    rw [hp]
    refine Tot.bindE (impl_ChartsOf f) ?_
    refine Tot.j1 (fun y => y = false) (fun y hy => by subst hy; simpa using hk) fun k2 hk2 => ?_
    rw [if_neg (by simp)]
    refine Tot.bindE (p_Charts _ sx.1 sx.2.1) ?_
    rw [if_neg (by simp)]
    exact Tot.bindE (p_Ints _ sx.2.2) (hk2 _ rfl)
  refine Tot.j0 ?_ fun k hk => ?_
  rotate_left
  · -- each part
    refine Tot.ite (fun hok => ?_) fun _ => hk
    have ho : okShow x = true := by
      cases h : okShow x with
      | true => rfl
      | false => unfold unsafAns at hok; rw [h] at hok; simp at hok
    have f := facts ho
    have nc := f.nc
    have n1 := f.n1
    have eu : unsafAns x = (unsafs x, true) := by unfold unsafAns; rw [ho]; rfl
    have er : revAns x = (backS x, true) := by unfold revAns; rw [ho]; rfl
    have eb : revAns (backS x) = (x, true) := by unfold revAns; rw [back_ok ho]; exact congrArg (fun y => (y, true)) (back_twice x)
    have ec : canAns x = (((unsafs x).length : Int) == 0, true) := by unfold canAns; rw [ho]; rfl
    have ecb : canAns (backS x) = (((unsafs x).length : Int) == 0, true) := by
      unfold canAns
      rw [back_ok ho, if_pos rfl]
      have := unsaf_back f
      by_cases h0 : (unsafs x).length = 0
      · simp [h0, this.2 h0]
      · have h1 : ¬ (unsafs (backS x)).length = 0 := fun e => h0 (this.1 e)
        have q0 : (((unsafs x).length : Int) == 0) = false := by simp; exact fun e => h0 (by rw [e]; rfl)
        have q1 : (((unsafs (backS x)).length : Int) == 0) = false := by simp; exact fun e => h1 (by rw [e]; rfl)
        rw [q0, q1]
    have et : totalAns x = (sumW x.2.1, true) := by unfold totalAns; rw [ho]; rfl
    have lb := short_lens_of (back_ok ho)
    rw [eu, er, ec, et]
    obtain ⟨v, hv, hv2⟩ := hk
    rw [hv]
    rw [loopR (F_laws_FnShows_L1 x (unsafs x, true) (backS x, true) (some v) (((unsafs x).length : Int) == 0, true) (sumW x.2.1, true)) x.2.1.length (fun _ => true) (some v) (some false) (by omega) (fun m k hk => ?_) (fun m => ?_)]
    · exact ⟨v, by simp, hv2⟩
    · have hop : okPart x (k : Int) = true := by unfold okPart; rw [ho, Bool.true_and, okIn_iff]; omega
      have e1 : closeAns x (k : Int) = (closeOf (movesOf x k) x.2.2.1, true) := by unfold closeAns; rw [hop, Int.toNat_natCast]; rfl
      have e2 : wideAns x (k : Int) = (widesOf x k, true) := by unfold wideAns; rw [hop, Int.toNat_natCast]; rfl
      have l1 := closeAns_len x (k : Int)
      have l2 := wideAns_len x (k : Int)
      rw [e1] at l1
      rw [e2] at l2
      dsimp only at l1 l2
      rw [F_laws_FnShows_L1, if_pos (by simp; omega), impl_ClosePairs x _ lx, Option.bind_some, spec_ClosePairs x _ lx, Option.bind_some, impl_WideSteps x _ lx, Option.bind_some, spec_WideSteps x _ lx, Option.bind_some, e1, e2]
      unfold jK1
      dsimp only
      rw [if_neg (by simp), if_neg (by simp), p_Lists _ (by omega) (fun u hu => by have := l1.2 u hu; omega), Option.bind_some, if_neg (by simp), if_neg (by simp), if_neg (by simp), p_Ints _ (by omega), Option.bind_some, if_neg (by simp), p_In _ _ (by rw [eu] at ul; dsimp only at ul; omega), Option.bind_some, w64_eq (x := _ + _) (by omega) (by omega), w64_succ (by omega)]
      have hmem : decide ((k : Int) ∈ unsafs x) = decide (0 < ((closeOf (movesOf x k) x.2.2.1).length : Int) + ((widesOf x k).length : Int)) := by
        unfold unsafs
        rw [Bool.eq_iff_iff, decide_eq_true_eq, decide_eq_true_eq, mem_filt hk]
        unfold safeAt
        cases closeOf (movesOf x k) x.2.2.1 with
        | nil =>
          cases widesOf x k with
          | nil => simp
          | cons a l => simp
        | cons a l => simp; omega
      rw [hmem]
      simp
    · rw [F_laws_FnShows_L1, if_neg (by simp)]
      unfold jK1
      dsimp only
      rw [impl_CanPublish _ lb, Option.bind_some, impl_ReverseShow _ lb, Option.bind_some, ecb, eb]
      dsimp only
      rw [if_neg (by simp), if_neg (by simp), if_neg (by simp), p_Show x (small_ok ho), Option.bind_some, if_neg (by simp), p_Sum _ (by omega), Option.bind_some]
      unfold sumW
      simp
  -- one part's moves
  refine Tot.bind (draw_ShowMoves x1 (Cu.begin g1)) fun z hz => ?_
  have lz := hz.lens
  refine Tot.bindE (impl_ShowMoves _ _ lz) (Tot.bindE (spec_ShowMoves _ _ lz) ?_)
  have ml := movesAns_len z.1 z.2
  refine Tot.j1 (fun y => y = false) (fun y hy => ?_) fun k hk => ?_
  rotate_left
  · rw [if_neg (by simp)]
    exact Tot.bindE (p_Moves _ (by omega)) (hk _ rfl)
  subst hy
  simp only [Bool.false_eq_true, if_false]
  refine Tot.j0 (Tot.some rfl) fun k hk => ?_
  refine Tot.ite (fun hok => ?_) fun _ => hk
  have hop : okPart z.1 z.2 = true := by
    cases h : okPart z.1 z.2 with
    | true => rfl
    | false => unfold movesAns at hok; rw [h] at hok; simp at hok
  obtain ⟨f, ep, hlt⟩ := part_of hop
  have nc := f.nc
  have n1 := f.n1
  have em : movesAns z.1 z.2 = (movesOf z.1 z.2.toNat, true) := by unfold movesAns; rw [hop]; rfl
  rw [em] at ml ⊢
  dsimp only at ml
  obtain ⟨v, hv, hv2⟩ := hk
  rw [hv]
  obtain ⟨a, b, n, h1, h2, h3, h4, h5, h6, _⟩ := part_facts f hlt
  rw [loopR (F_laws_FnShows_L2 (movesOf z.1 z.2.toNat, true) z (some v)) (movesOf z.1 z.2.toNat).length (fun _ => true) (some v) (some false) (by omega) (fun m k hk => ?_) (fun m => by rw [F_laws_FnShows_L2, if_neg (by simp)])]
  · exact ⟨v, by simp, hv2⟩
  · have hka : k < a.length := by
      have : (movesOf z.1 z.2.toNat).length = a.length := by unfold movesOf; rw [List.length_map, List.length_range, chartAt_of h1]
      omega
    have hkb : k < b.length := by omega
    have eg : (movesOf z.1 z.2.toNat)[k]? = some (a[k], b[k], n) := by
      unfold movesOf
      rw [chartAt_of h1, chartAt_of h2, List.getElem?_map, List.getElem?_range hka]
      unfold countsAt
      rw [h3]
      simp [hka, hkb]
    rw [F_laws_FnShows_L2, if_pos (by simp; omega), idx_nat]
    dsimp only
    rw [eg, Option.bind_some]
    unfold jK1
    dsimp only
    rw [ep, idx_nat, h1, Option.bind_some, idx_nat, List.getElem?_eq_getElem hka, Option.bind_some, if_neg (by simp [eqv_Spot]), w64_succ (by omega), idx_nat, h2, Option.bind_some, idx_nat, List.getElem?_eq_getElem hkb, Option.bind_some, if_neg (by simp [eqv_Spot]), idx_nat, h3, Option.bind_some, w64_succ (by omega)]
    simp
end Go.Proofs.Ytmkignciedkidaa
