import Derived.Test.YtejhnpimhjmpdaaGreatDoorPH
import Derived.Test.YtejhnpimhjmpdaaGreatDoorPB2
import Derived.Lib.Mul64
import Derived.Test.YtejhnpimhjmpdaaGreatDoorLibF
import Derived.Test.YtejhnpimhjmpdaaGreatDoorF
/-
  WHAT THE LAWS ON SHOWS HAND OVER AND TAKE BACK, PLAIN.
-/
set_option linter.unusedSimpArgs false
set_option linter.unusedVariables false
namespace Go.Proofs.YtejhnpimhjmpdaaGreatDoor
open Go
end Go.Proofs.YtejhnpimhjmpdaaGreatDoor
/-
  SHEETS PUBLISHED, PLAIN.
-/
set_option linter.unusedSimpArgs false
set_option linter.unusedVariables false
namespace Go.Proofs.YtejhnpimhjmpdaaGreatDoor
open Go
def sheetsOf (x : ShowT) : List SheetT := (List.range (firstLen' x)).map (sheetOf x)
def pubAns (x : ShowT) : List SheetT × Bool := if okShow x && decide ((unsafs x).length = 0) then (sheetsOf x, true) else ([], false)
theorem pub_loop (F : Nat → List SheetT → Int → Option (List SheetT × Bool)) (g : Int → Option SheetT) (x : ShowT) (c : List (Int × Int)) (hc : c.length = firstLen' x) (h12 : firstLen' x ≤ 12) (hg : ∀ i : Nat, i < firstLen' x → g (i : Int) = some (sheetOf x i))
    (hst : ∀ m s y, F (m + 1) s y = if (decide (y < (List.length c : Int))) = true then Option.bind (g y) fun u => Option.bind (app s [u]) fun v => F m v (w64 (y + 1)) else some (s, true)) : F FU [] 0 = some (sheetsOf x, true) := by
  unfold sheetsOf
  rw [loopMap F (firstLen' x) (sheetOf x) (fun s => some (s, true)) (by omega) (fun m s k hk hsl => ?_) (fun m s => ?_)]
  · rw [hst, if_pos (by simp; omega), hg k hk, Option.bind_some, app_ok (by simp; omega), Option.bind_some, w64_succ (by omega)]
  · rw [hst, if_neg (by simp; omega)]
theorem spec_PublishSheets (x : ShowT) (h : lensOk x) : F_spec_PublishSheets x = some (pubAns x) := by
  unfold F_spec_PublishSheets pubAns jK1
  dsimp only
  rw [spec_swGood x h.1 h.2.1 h.2.2, Option.bind_some]
  cases hs : okShow x with
  | false => simp
  | true =>
    have f := facts hs
    obtain ⟨c, hc, hl, _, h12⟩ := show_first f
    rw [spec_swUnsafe x f, Option.bind_some]
    by_cases h0 : (unsafs x).length = 0
    · rw [if_neg (by simp), if_neg (by simp [h0]), idx_zero, hc, Option.bind_some, pub_loop (F_spec_PublishSheets_L1 c x) (F_spec_shOf x.1 x.2.1) x c hl h12 (fun i hi => spec_shOf x f i hi) (fun m s y => by rw [F_spec_PublishSheets_L1])]
      simp [h0]
    · have : 0 < (unsafs x).length := by omega
      simp [h0, this]
theorem impl_PublishSheets (x : ShowT) (h : lensOk x) : F_impl_PublishSheets x = some (pubAns x) := by
  unfold F_impl_PublishSheets pubAns jK1
  dsimp only
  rw [impl_IsShow x h.1 h.2.1 h.2.2, Option.bind_some]
  cases hs : okShow x with
  | false => simp
  | true =>
    have f := facts hs
    obtain ⟨c, hc, hl, _, h12⟩ := show_first f
    rw [impl_unsafParts x f, Option.bind_some]
    by_cases h0 : (unsafs x).length = 0
    · rw [if_neg (by simp), if_neg (by simp [h0]), idx_zero, hc, Option.bind_some, pub_loop (F_impl_PublishSheets_L1 c x) (F_impl_sheetOf x.1 x.2.1) x c hl h12 (fun i hi => impl_sheetOf x f i hi) (fun m s y => by rw [F_impl_PublishSheets_L1])]
      simp [h0]
    · have : 0 < (unsafs x).length := by omega
      simp [h0, this]
end Go.Proofs.YtejhnpimhjmpdaaGreatDoor
/-
  THE COUNTS OF A SHOW, PLAIN.
-/
set_option linter.unusedSimpArgs false
set_option linter.unusedVariables false
namespace Go.Proofs.YtejhnpimhjmpdaaGreatDoor
open Go
def sumW (l : List Int) : Int := l.foldl (fun a u => w64 (a + u)) 0
theorem impl_totalCounts (x : ShowT) (h : x.2.1.length < 4611686018427387904) : F_impl_totalCounts x = some (sumW x.2.1) := by
  unfold F_impl_totalCounts sumW
  rw [loopFold (F_impl_totalCounts_L1 x) x.2.1 (fun a u => w64 (a + u)) some h (fun m s k u hk hu => ?_) (fun m s => ?_)]
  · rw [F_impl_totalCounts_L1, if_pos (by simp; omega), idx_nat, hu, Option.bind_some, w64_succ (by omega)]
  · rw [F_impl_totalCounts_L1, if_neg (by simp)]
end Go.Proofs.YtejhnpimhjmpdaaGreatDoor
/-
  THE SUM OF COUNTS OF A SHOW, PLAIN.
-/
set_option linter.unusedSimpArgs false
set_option linter.unusedVariables false
namespace Go.Proofs.YtejhnpimhjmpdaaGreatDoor
open Go
/-! the sums of counts -/
def totalAns (x : ShowT) : Int × Bool := if okShow x then (sumW x.2.1, true) else (0, false)
theorem impl_TotalCounts (x : ShowT) (h : lensOk x) : F_impl_TotalCounts x = some (totalAns x) := by
  unfold F_impl_TotalCounts totalAns
  rw [impl_IsShow x h.1 h.2.1 h.2.2, Option.bind_some, impl_totalCounts x h.2.2]
  cases okShow x <;> rfl
theorem sumW_eq (l : List Int) (h : ∀ u ∈ l, 1 ≤ u ∧ u ≤ 64) (hl : l.length ≤ 1000) : sumW l = l.sum ∧ 0 ≤ l.sum := by
  have key : ∀ (l : List Int) (a : Int), (∀ u ∈ l, 1 ≤ u ∧ u ≤ 64) → 0 ≤ a → a + 64 * l.length ≤ 1000000 → l.foldl (fun a u => w64 (a + u)) a = a + l.sum ∧ 0 ≤ l.sum := by
    intro l
    induction l with
    | nil => intro a _ _ _; simp
    | cons u l ih =>
      intro a h h0 h1
      have hu := h u (by simp)
      simp only [List.length_cons] at h1
      rw [List.foldl_cons, w64_eq (by omega) (by omega)]
      obtain ⟨e1, e2⟩ := ih (a + u) (fun v hv => h v (by simp [hv])) (by omega) (by omega)
      rw [e1, List.sum_cons]
      omega
  have := key l 0 h (by omega) (by omega)
  unfold sumW
  simpa using this
end Go.Proofs.YtejhnpimhjmpdaaGreatDoor
/-
  FRACTIONS COMPARED, PLAIN: by products of two words, and by quotients and rests.
-/
set_option linter.unusedSimpArgs false
set_option linter.unusedVariables false
namespace Go.Proofs.YtejhnpimhjmpdaaGreatDoor
open Go
/-- a / b is less than c / d. -/
def lessF (a b c d : Int) : Bool := decide (a * d < c * b)
end Go.Proofs.YtejhnpimhjmpdaaGreatDoor
/-
  THE LEAST DISTANCE OF A SHOW, PLAIN.
-/
set_option linter.unusedSimpArgs false
set_option linter.unusedVariables false
namespace Go.Proofs.YtejhnpimhjmpdaaGreatDoor
open Go
theorem low_bd {a b : Int} (ha : 0 ≤ a) (ha2 : a ≤ 1000000000000000) (hb : 0 < b) (hb2 : b ≤ 1000000000000000) : 0 ≤ (low a b).1 ∧ (low a b).1 ≤ a ∧ 1 ≤ (low a b).2 ∧ (low a b).2 ≤ b := by
  have hg : 0 < Nat.gcd a.toNat b.toNat := Nat.gcd_pos_of_pos_right _ (by omega)
  have hg2 : Nat.gcd a.toNat b.toNat ≤ b.toNat := Nat.gcd_le_right _ (by omega)
  unfold low
  rw [Int.tdiv_eq_ediv_of_nonneg ha, Int.tdiv_eq_ediv_of_nonneg (by omega)]
  have h1 := Int.ediv_nonneg ha (Int.natCast_nonneg (Nat.gcd a.toNat b.toNat))
  have h2 : a / (Nat.gcd a.toNat b.toNat : Int) ≤ a := Int.ediv_le_self _ ha
  have h3 : b / (Nat.gcd a.toNat b.toNat : Int) ≤ b := Int.ediv_le_self _ (by omega)
  have h4 : 1 ≤ b / (Nat.gcd a.toNat b.toNat : Int) := by
    rw [Int.le_ediv_iff_mul_le (by omega)]
    omega
  rw [w64_eq (by omega) (by omega), w64_eq (by omega) (by omega)]
  exact ⟨h1, h2, h4, h3⟩
def bdF (n : Int × Int) : Prop := 0 ≤ n.1 ∧ n.1 ≤ 2959500902400 ∧ 1 ≤ n.2 ∧ n.2 ≤ 8359936
theorem near_bd {u v : MoveT} (hu : goodMove u) (hv : goodMove v) : bdF (near u v) := by
  have hI := inB hu.1 hu.2 hv.1 hv.2
  unfold near bdF nearV
  generalize u.1.1 - v.1.1 = px at *
  generalize u.1.2 - v.1.2 = py at *
  generalize u.2.1.1 - v.2.1.1 = qx at *
  generalize u.2.1.2 - v.2.1.2 = qy at *
  obtain ⟨m1, m2, m3, m4, m5, m6, m7, m8, m9, m10, m11⟩ := nearB hI
  split
  · dsimp only; omega
  · split
    · dsimp only; omega
    · rename_i h1 h2
      have := low_bd (a := (px * qy - py * qx) * (px * qy - py * qx)) (b := (qx - px) * (qx - px) + (qy - py) * (qy - py)) (by omega) (by omega) (by omega) (by omega)
      omega
/-! the closest two moves -/
abbrev CSt := Int × Int × Int × Int
def cstep (ms : List MoveT) (i k : Nat) (s : CSt) : CSt := match ms[i]?, ms[k]? with
  | some u, some v => if lessF (near u v).1 (near u v).2 s.2.2.1 s.2.2.2 then ((i : Int), (k : Int), (near u v).1, (near u v).2) else s
  | _, _ => s
def crow (ms : List MoveT) (i : Nat) (s : CSt) : CSt := (List.range' (i + 1) (ms.length - (i + 1))).foldl (fun s k => cstep ms i k s) s
def cinit (ms : List MoveT) : CSt := match ms[0]?, ms[1]? with
  | some u, some v => (0, 1, (near u v).1, (near u v).2)
  | _, _ => (0, 1, 0, 1)
def closest (ms : List MoveT) : CSt := (List.range ms.length).foldl (fun s i => crow ms i s) (cinit ms)
/-! over all parts -/
end Go.Proofs.YtejhnpimhjmpdaaGreatDoor
/-
  HOW FAR TWO ARE APART ON THE WAY: NEVER CLOSER THAN THEIR LEAST DISTANCE, PLAIN.
-/
set_option linter.unusedSimpArgs false
set_option linter.unusedVariables false
namespace Go.Proofs.YtejhnpimhjmpdaaGreatDoor
open Go
theorem sq0 (a : Int) : 0 ≤ a * a := by
  have : (0 : Int) ≤ ((a.natAbs * a.natAbs : Nat) : Int) := Int.natCast_nonneg _
  rwa [Int.natAbs_mul_self] at this
/-- (x n + a k) squared. -/
theorem sq_way (x a n k : Int) : (x * n + a * k) * (x * n + a * k) = x * x * (n * n) + 2 * (x * a * (n * k)) + a * a * (k * k) := by
  have e1 : x * n * (x * n) = x * x * (n * n) := by rw [Int.mul_assoc, ← Int.mul_assoc n x n, Int.mul_comm n x, Int.mul_assoc x n n, ← Int.mul_assoc]
  have e2 : x * n * (a * k) = x * a * (n * k) := by rw [Int.mul_assoc, ← Int.mul_assoc n a k, Int.mul_comm n a, Int.mul_assoc a n k, ← Int.mul_assoc]
  have e3 : a * k * (x * n) = x * a * (n * k) := by rw [Int.mul_comm, e2]
  have e4 : a * k * (a * k) = a * a * (k * k) := by rw [Int.mul_assoc, ← Int.mul_assoc k a k, Int.mul_comm k a, Int.mul_assoc a k k, ← Int.mul_assoc]
  rw [Int.mul_add, Int.add_mul, Int.add_mul, e1, e2, e3, e4]
  omega
/-- At k of n counts, against the squares of the ends. -/
theorem apart_first {px py a b n k : Int} (hn : 0 ≤ n) (hk : 0 ≤ k) (h : 0 ≤ px * a + py * b) : (px * px + py * py) * (n * n) ≤ (px * n + a * k) * (px * n + a * k) + (py * n + b * k) * (py * n + b * k) := by
  rw [sq_way, sq_way]
  have h1 : 0 ≤ (px * a + py * b) * (n * k) := Int.mul_nonneg h (Int.mul_nonneg hn hk)
  rw [Int.add_mul] at h1 ⊢
  have h2 : 0 ≤ a * a * (k * k) := Int.mul_nonneg (sq0 a) (sq0 k)
  have h3 : 0 ≤ b * b * (k * k) := Int.mul_nonneg (sq0 b) (sq0 k)
  omega
/-- Lagrange: a square of a way against the square of its part across. -/
theorem lagrange (x y a b : Int) : (x * b - y * a) * (x * b - y * a) ≤ (x * x + y * y) * (a * a + b * b) := by
  have e1 : (x * x + y * y) * (a * a + b * b) = (x * b - y * a) * (x * b - y * a) + (x * a + y * b) * (x * a + y * b) := by
    have f1 : x * b * (x * b) = x * x * (b * b) := by rw [Int.mul_assoc, ← Int.mul_assoc b x b, Int.mul_comm b x, Int.mul_assoc x b b, ← Int.mul_assoc]
    have f2 : y * a * (y * a) = y * y * (a * a) := by rw [Int.mul_assoc, ← Int.mul_assoc a y a, Int.mul_comm a y, Int.mul_assoc y a a, ← Int.mul_assoc]
    have f3 : x * a * (x * a) = x * x * (a * a) := by rw [Int.mul_assoc, ← Int.mul_assoc a x a, Int.mul_comm a x, Int.mul_assoc x a a, ← Int.mul_assoc]
    have f4 : y * b * (y * b) = y * y * (b * b) := by rw [Int.mul_assoc, ← Int.mul_assoc b y b, Int.mul_comm b y, Int.mul_assoc y b b, ← Int.mul_assoc]
    have f5 : x * b * (y * a) = x * a * (y * b) := by rw [Int.mul_assoc, Int.mul_assoc, Int.mul_comm y a, ← Int.mul_assoc b a y, Int.mul_comm b a, Int.mul_assoc a b y, Int.mul_comm b y]
    have f6 : y * a * (x * b) = x * a * (y * b) := by rw [Int.mul_comm, f5]
    have f7 : y * b * (x * a) = x * a * (y * b) := by rw [Int.mul_comm]
    simp only [Int.sub_mul, Int.mul_sub, Int.add_mul, Int.mul_add, f1, f2, f3, f4, f5, f6, f7]
    omega
  have := sq0 (x * a + y * b)
  omega
/-- Lowest terms are the same fraction. -/
theorem low_same {a b : Int} (ha : 0 ≤ a) (ha2 : a ≤ 1000000000000000) (hb : 0 < b) (hb2 : b ≤ 1000000000000000) : ∃ g : Int, 0 < g ∧ (low a b).1 * g = a ∧ (low a b).2 * g = b := by
  have hg : 0 < Nat.gcd a.toNat b.toNat := Nat.gcd_pos_of_pos_right _ (by omega)
  have h1 := Int.ediv_le_self (a := a) (Nat.gcd a.toNat b.toNat : Int) ha
  have h2 := Int.ediv_le_self (a := b) (Nat.gcd a.toNat b.toNat : Int) (by omega)
  have h3 := Int.ediv_nonneg ha (Int.natCast_nonneg (Nat.gcd a.toNat b.toNat))
  have h4 := Int.ediv_nonneg (a := b) (by omega) (Int.natCast_nonneg (Nat.gcd a.toNat b.toNat))
  have d1 : (Nat.gcd a.toNat b.toNat : Int) ∣ a := by
    have : ((Nat.gcd a.toNat b.toNat : Nat) : Int) ∣ ((a.toNat : Nat) : Int) := Int.natCast_dvd_natCast.2 (Nat.gcd_dvd_left _ _)
    rwa [Int.toNat_of_nonneg ha] at this
  have d2 : (Nat.gcd a.toNat b.toNat : Int) ∣ b := by
    have : ((Nat.gcd a.toNat b.toNat : Nat) : Int) ∣ ((b.toNat : Nat) : Int) := Int.natCast_dvd_natCast.2 (Nat.gcd_dvd_right _ _)
    rwa [Int.toNat_of_nonneg (by omega)] at this
  refine ⟨Nat.gcd a.toNat b.toNat, by omega, ?_, ?_⟩
  · unfold low
    rw [Int.tdiv_eq_ediv_of_nonneg ha, w64_eq (by omega) (by omega)]
    exact Int.ediv_mul_cancel d1
  · show w64 (Int.tdiv b (Nat.gcd a.toNat b.toNat : Int)) * (Nat.gcd a.toNat b.toNat : Int) = b
    rw [Int.tdiv_eq_ediv_of_nonneg (by omega), w64_eq (by omega) (by omega)]
    exact Int.ediv_mul_cancel d2
/-- Nowhere on the way closer than the least. -/
theorem near_least {px py qx qy n k : Int} (h : InB px py qx qy) (hk : 0 ≤ k) (hkn : k ≤ n) :
    (nearV px py qx qy).1 * (n * n) ≤ ((px * n + (qx - px) * k) * (px * n + (qx - px) * k) + (py * n + (qy - py) * k) * (py * n + (qy - py) * k)) * (nearV px py qx qy).2 := by
  unfold nearV
  by_cases h1 : 0 ≤ px * (qx - px) + py * (qy - py)
  · rw [if_pos h1]
    have := apart_first (n := n) (k := k) (by omega) hk h1
    dsimp only
    omega
  · rw [if_neg h1]
    by_cases h2 : (qx - px) * (qx - px) + (qy - py) * (qy - py) ≤ 0 - (px * (qx - px) + py * (qy - py))
    · rw [if_pos h2]
      obtain ⟨a, rfl⟩ : ∃ a, px = qx - a := ⟨qx - px, by omega⟩
      obtain ⟨b, rfl⟩ : ∃ b, py = qy - b := ⟨qy - py, by omega⟩
      have e1 : qx - (qx - a) = a := by omega
      have e2 : qy - (qy - b) = b := by omega
      rw [e1, e2] at h1 h2 ⊢
      have hc : 0 ≤ qx * -a + qy * -b := by
        rw [Int.sub_mul, Int.sub_mul] at h2
        rw [Int.mul_neg, Int.mul_neg]
        omega
      have := apart_first (px := qx) (py := qy) (a := -a) (b := -b) (n := n) (k := n - k) (by omega) (by omega) hc
      have g1 : qx * n + -a * (n - k) = (qx - a) * n + a * k := by
        rw [Int.neg_mul, Int.mul_sub, Int.sub_mul]
        omega
      have g2 : qy * n + -b * (n - k) = (qy - b) * n + b * k := by
        rw [Int.neg_mul, Int.mul_sub, Int.sub_mul]
        omega
      rw [g1, g2] at this
      dsimp only
      omega
    · rw [if_neg h2]
      generalize hS : (px * n + (qx - px) * k) * (px * n + (qx - px) * k) + (py * n + (qy - py) * k) * (py * n + (qy - py) * k) = S
      obtain ⟨m1, m2, m3, m4, m5, m6, m7, m8, m9, m10, m11⟩ := nearB h
      obtain ⟨g, hg, hN, hD⟩ := low_same (a := (px * qy - py * qx) * (px * qy - py * qx)) (b := (qx - px) * (qx - px) + (qy - py) * (qy - py)) (by omega) (by omega) (by omega) (by omega)
      have hL := lagrange (px * n + (qx - px) * k) (py * n + (qy - py) * k) (qx - px) (qy - py)
      rw [hS] at hL
      have ec : (px * n + (qx - px) * k) * (qy - py) - (py * n + (qy - py) * k) * (qx - px) = (px * qy - py * qx) * n := by
        obtain ⟨a, rfl⟩ : ∃ a, qx = px + a := ⟨qx - px, by omega⟩
        obtain ⟨b, rfl⟩ : ∃ b, qy = py + b := ⟨qy - py, by omega⟩
        have e1 : px + a - px = a := by omega
        have e2 : py + b - py = b := by omega
        have f1 : px * n * b = px * b * n := by rw [Int.mul_assoc, Int.mul_comm n b, ← Int.mul_assoc]
        have f2 : py * n * a = py * a * n := by rw [Int.mul_assoc, Int.mul_comm n a, ← Int.mul_assoc]
        have f3 : b * k * a = a * k * b := by rw [Int.mul_assoc, Int.mul_comm, Int.mul_comm k a]
        have f4 : py * px = px * py := Int.mul_comm _ _
        rw [e1, e2, Int.add_mul, Int.add_mul, Int.mul_add, Int.mul_add, Int.sub_mul, Int.add_mul, Int.add_mul, f1, f2, f3, f4]
        omega
      have es : (px * qy - py * qx) * n * ((px * qy - py * qx) * n) = (px * qy - py * qx) * (px * qy - py * qx) * (n * n) := by
        generalize px * qy - py * qx = c
        rw [Int.mul_assoc, ← Int.mul_assoc n c n, Int.mul_comm n c, Int.mul_assoc c n n, ← Int.mul_assoc]
      rw [ec, es] at hL
      generalize low ((px * qy - py * qx) * (px * qy - py * qx)) ((qx - px) * (qx - px) + (qy - py) * (qy - py)) = w at hN hD ⊢
      rw [← hN, ← hD] at hL
      have l1 : w.1 * g * (n * n) = w.1 * (n * n) * g := by rw [Int.mul_assoc, Int.mul_comm g, ← Int.mul_assoc]
      have l2 : S * (w.2 * g) = S * w.2 * g := by rw [Int.mul_assoc]
      rw [l1, l2] at hL
      exact Int.le_of_mul_le_mul_right hL hg
end Go.Proofs.YtejhnpimhjmpdaaGreatDoor
/-
  TWO ON THEIR WAY, PLAIN: what the program says of them at each count.
-/
set_option linter.unusedSimpArgs false
set_option linter.unusedVariables false
namespace Go.Proofs.YtejhnpimhjmpdaaGreatDoor
open Go
theorem impl_IsMove (u : MoveT) : F_impl_IsMove u = some (okSpot u.1 && okSpot u.2.1 && okIn u.2.2 1 64) := by
  unfold F_impl_IsMove jK1
  dsimp only
  rw [impl_IsSpot, Option.bind_some, impl_IsSpot, Option.bind_some, impl_within, Option.bind_some]
  cases okSpot u.1 <;> cases okSpot u.2.1 <;> simp
theorem impl_goTogether {u v : MoveT} (hu : goodMove u) (hv : goodMove v) (hc : 1 ≤ u.2.2 ∧ u.2.2 ≤ 64) (e : u.2.2 = v.2.2) : F_impl_goTogether u v = some true := by
  have h1 : okIn u.2.2 1 64 = true := okIn_iff.2 hc
  have h2 : okIn v.2.2 1 64 = true := by rw [← e]; exact h1
  unfold F_impl_goTogether jK1
  dsimp only
  rw [impl_IsMove, Option.bind_some, impl_IsMove, Option.bind_some, hu.1, hu.2, hv.1, hv.2, h1, h2]
  simp [e]
theorem impl_LeastApart {u v : MoveT} (hu : goodMove u) (hv : goodMove v) (hc : 1 ≤ u.2.2 ∧ u.2.2 ≤ 64) (e : u.2.2 = v.2.2) : F_impl_LeastApart u v = some ((near u v).1, (near u v).2, true) := by
  unfold F_impl_LeastApart
  rw [impl_goTogether hu hv hc e, Option.bind_some, if_neg (by simp), impl_leastApart u v hu.1 hu.2 hv.1 hv.2]
  rfl
theorem impl_WithinStep {u : MoveT} {s : Int} (hu : goodMove u) (hc : 1 ≤ u.2.2 ∧ u.2.2 ≤ 64) (hs : 1 ≤ s ∧ s ≤ 24) : F_impl_WithinStep u s = some (withinB u s, true) := by
  have h1 : okIn u.2.2 1 64 = true := okIn_iff.2 hc
  have h2 : okIn s 1 24 = true := okIn_iff.2 hs
  unfold F_impl_WithinStep jK1
  dsimp only
  rw [impl_IsMove, Option.bind_some, hu.1, hu.2, h1, impl_within, Option.bind_some, h2, impl_withinStep]
  simp
/-- The square of how far apart they are after k counts of n, times n squared. -/
def wayS (u v : MoveT) (k : Int) : Int := ((u.1.1 - v.1.1) * u.2.2 + ((u.2.1.1 - v.2.1.1) - (u.1.1 - v.1.1)) * k) * ((u.1.1 - v.1.1) * u.2.2 + ((u.2.1.1 - v.2.1.1) - (u.1.1 - v.1.1)) * k) +
  ((u.1.2 - v.1.2) * u.2.2 + ((u.2.1.2 - v.2.1.2) - (u.1.2 - v.1.2)) * k) * ((u.1.2 - v.1.2) * u.2.2 + ((u.2.1.2 - v.2.1.2) - (u.1.2 - v.1.2)) * k)
theorem lin_bd {x a n k B : Int} (hx : -B ≤ x ∧ x ≤ B) (ha : -B ≤ x + a ∧ x + a ≤ B) (hn : 0 ≤ n) (hk : 0 ≤ k) (hkn : k ≤ n) (hB : 0 ≤ B) : -(B * n) ≤ x * n + a * k ∧ x * n + a * k ≤ B * n := by
  have e : x * n + a * k = x * (n - k) + (x + a) * k := by rw [Int.mul_sub, Int.add_mul]; omega
  have eB : B * n = B * (n - k) + B * k := by rw [Int.mul_sub]; omega
  have h1 : x * (n - k) ≤ B * (n - k) := Int.mul_le_mul_of_nonneg_right hx.2 (by omega)
  have h2 : (x + a) * k ≤ B * k := Int.mul_le_mul_of_nonneg_right ha.2 hk
  have h3 : -B * (n - k) ≤ x * (n - k) := Int.mul_le_mul_of_nonneg_right hx.1 (by omega)
  have h4 : -B * k ≤ (x + a) * k := Int.mul_le_mul_of_nonneg_right ha.1 hk
  rw [Int.neg_mul] at h3 h4
  omega
theorem place_w {a b n k : Int} (ha : 0 ≤ a ∧ a ≤ 1280) (hb : 0 ≤ b ∧ b ≤ 1280) (hn : 1 ≤ n ∧ n ≤ 64) (hk : 0 ≤ k ∧ k ≤ n) : w64 (w64 (a * n) + w64 (k * w64 (b - a))) = a * n + (b - a) * k := by
  have h1 : 0 ≤ a * n := Int.mul_nonneg ha.1 (by omega)
  have h2 : a * n ≤ 1280 * 64 := Int.mul_le_mul ha.2 hn.2 (by omega) (by omega)
  have h3 := lin_bd (x := a) (a := b - a) (n := n) (k := k) (B := 1280) ⟨by omega, ha.2⟩ ⟨by omega, by omega⟩ (by omega) hk.1 hk.2 (by omega)
  rw [w64_eq (x := b - a) (by omega) (by omega), w64_eq (x := a * n) (by omega) (by omega), Int.mul_comm k, w64_eq (x := (b - a) * k) (by omega) (by omega), w64_eq (by omega) (by omega)]
theorem impl_placeAt {u : MoveT} {k : Int} (hu : goodMove u) (hc : 1 ≤ u.2.2 ∧ u.2.2 ≤ 64) (hk : 0 ≤ k ∧ k ≤ u.2.2) : F_impl_placeAt u k = some (u.1.1 * u.2.2 + (u.2.1.1 - u.1.1) * k, u.1.2 * u.2.2 + (u.2.1.2 - u.1.2) * k) := by
  have h1 := hu.1
  have h2 := hu.2
  unfold okSpot at h1 h2
  rw [Bool.and_eq_true, okIn_iff, okIn_iff] at h1 h2
  unfold F_impl_placeAt
  rw [place_w (by omega) (by omega) hc hk, place_w (by omega) (by omega) hc hk]
theorem impl_ApartAt {u v : MoveT} {k : Int} (hu : goodMove u) (hv : goodMove v) (hc : 1 ≤ u.2.2 ∧ u.2.2 ≤ 64) (e : u.2.2 = v.2.2) (hk : 0 ≤ k ∧ k ≤ u.2.2) :
    F_impl_ApartAt u v k = some ((low (wayS u v k) (u.2.2 * u.2.2)).1, (low (wayS u v k) (u.2.2 * u.2.2)).2, true) ∧ 0 ≤ wayS u v k ∧ wayS u v k ≤ 1000000000000000 ∧ 0 < u.2.2 * u.2.2 ∧ u.2.2 * u.2.2 ≤ 4096 := by
  obtain ⟨a1, a2, b1, b2, c1, c2, d1, d2⟩ := inB hu.1 hu.2 hv.1 hv.2
  have l1 := lin_bd (x := u.1.1 - v.1.1) (a := (u.2.1.1 - v.2.1.1) - (u.1.1 - v.1.1)) (n := u.2.2) (k := k) (B := 1280) ⟨a1, a2⟩ ⟨by omega, by omega⟩ (by omega) hk.1 hk.2 (by omega)
  have l2 := lin_bd (x := u.1.2 - v.1.2) (a := (u.2.1.2 - v.2.1.2) - (u.1.2 - v.1.2)) (n := u.2.2) (k := k) (B := 672) ⟨b1, b2⟩ ⟨by omega, by omega⟩ (by omega) hk.1 hk.2 (by omega)
  have n1 : 1 * 1 ≤ u.2.2 * u.2.2 := Int.mul_le_mul hc.1 hc.1 (by omega) (by omega)
  have n2 : u.2.2 * u.2.2 ≤ 64 * 64 := Int.mul_le_mul hc.2 hc.2 (by omega) (by omega)
  have x1 : u.1.1 * u.2.2 + (u.2.1.1 - u.1.1) * k - (v.1.1 * v.2.2 + (v.2.1.1 - v.1.1) * k) = (u.1.1 - v.1.1) * u.2.2 + ((u.2.1.1 - v.2.1.1) - (u.1.1 - v.1.1)) * k := by
    rw [← e]
    simp only [Int.sub_mul]
    omega
  have x2 : u.1.2 * u.2.2 + (u.2.1.2 - u.1.2) * k - (v.1.2 * v.2.2 + (v.2.1.2 - v.1.2) * k) = (u.1.2 - v.1.2) * u.2.2 + ((u.2.1.2 - v.2.1.2) - (u.1.2 - v.1.2)) * k := by
    rw [← e]
    simp only [Int.sub_mul]
    omega
  have hw : okIn k 0 u.2.2 = true := okIn_iff.2 hk
  have q1 := sqB (x := (u.1.1 - v.1.1) * u.2.2 + ((u.2.1.1 - v.2.1.1) - (u.1.1 - v.1.1)) * k) (A := 81920) (by omega) (by omega)
  have q2 := sqB (x := (u.1.2 - v.1.2) * u.2.2 + ((u.2.1.2 - v.2.1.2) - (u.1.2 - v.1.2)) * k) (A := 81920) (by omega) (by omega)
  have hS : 0 ≤ wayS u v k ∧ wayS u v k ≤ 1000000000000000 := by unfold wayS; omega
  refine ⟨?_, hS.1, hS.2, by omega, by omega⟩
  unfold F_impl_ApartAt jK1
  dsimp only
  rw [impl_goTogether hu hv hc e, Option.bind_some, if_neg (by simp), impl_within, Option.bind_some, hw, if_neg (by simp), impl_placeAt hu hc hk, Option.bind_some, impl_placeAt hv (by rw [← e]; exact hc) (by rw [← e]; exact hk), Option.bind_some]
  dsimp only
  rw [x1, x2]
  rw [w64_eq (x := (u.1.1 - v.1.1) * u.2.2 + ((u.2.1.1 - v.2.1.1) - (u.1.1 - v.1.1)) * k) (by omega) (by omega), w64_eq (x := (u.1.2 - v.1.2) * u.2.2 + ((u.2.1.2 - v.2.1.2) - (u.1.2 - v.1.2)) * k) (by omega) (by omega)]
  rw [w64_eq (x := ((u.1.1 - v.1.1) * u.2.2 + ((u.2.1.1 - v.2.1.1) - (u.1.1 - v.1.1)) * k) * ((u.1.1 - v.1.1) * u.2.2 + ((u.2.1.1 - v.2.1.1) - (u.1.1 - v.1.1)) * k)) (by omega) (by omega),
    w64_eq (x := ((u.1.2 - v.1.2) * u.2.2 + ((u.2.1.2 - v.2.1.2) - (u.1.2 - v.1.2)) * k) * ((u.1.2 - v.1.2) * u.2.2 + ((u.2.1.2 - v.2.1.2) - (u.1.2 - v.1.2)) * k)) (by omega) (by omega),
    w64_eq (x := u.2.2 * u.2.2) (by omega) (by omega), w64_eq (x := _ + _) (by omega) (by omega)]
  have := impl_lowestTerms (wayS u v k) (u.2.2 * u.2.2) hS.1 hS.2 (by omega) (by omega)
  unfold wayS at this ⊢
  rw [this]
  rfl
/-- Kept apart: at every count. -/
theorem way_keep {u v : MoveT} {k L : Int} (hu : goodMove u) (hv : goodMove v) (hc : 1 ≤ u.2.2 ∧ u.2.2 ≤ 64) (e : u.2.2 = v.2.2) (hk : 0 ≤ k ∧ k ≤ u.2.2) (hL : L * L * (near u v).2 ≤ (near u v).1) :
    1 ≤ (low (wayS u v k) (u.2.2 * u.2.2)).2 ∧ L * L * (low (wayS u v k) (u.2.2 * u.2.2)).2 ≤ (low (wayS u v k) (u.2.2 * u.2.2)).1 := by
  obtain ⟨_, s0, s1, n0, n1⟩ := impl_ApartAt hu hv hc e hk
  obtain ⟨g, hg, g1, g2⟩ := low_same s0 s1 n0 (by omega)
  have hb := low_bd s0 s1 n0 (by omega)
  have hn := near_least (n := u.2.2) (k := k) (inB hu.1 hu.2 hv.1 hv.2) hk.1 hk.2
  have hd := (near_bd hu hv).2.2.1
  have h1 : (near u v).1 * (u.2.2 * u.2.2) ≤ wayS u v k * (near u v).2 := hn
  have h2 : L * L * (near u v).2 * (u.2.2 * u.2.2) ≤ (near u v).1 * (u.2.2 * u.2.2) := Int.mul_le_mul_of_nonneg_right hL (by omega)
  have h3 : L * L * (u.2.2 * u.2.2) * (near u v).2 ≤ wayS u v k * (near u v).2 := by
    have : L * L * (near u v).2 * (u.2.2 * u.2.2) = L * L * (u.2.2 * u.2.2) * (near u v).2 := by rw [Int.mul_assoc, Int.mul_comm (near u v).2, ← Int.mul_assoc]
    omega
  have h4 : L * L * (u.2.2 * u.2.2) ≤ wayS u v k := Int.le_of_mul_le_mul_right h3 (by omega)
  refine ⟨hb.2.2.1, ?_⟩
  generalize low (wayS u v k) (u.2.2 * u.2.2) = w at g1 g2 ⊢
  rw [← g1, ← g2, ← Int.mul_assoc] at h4
  exact Int.le_of_mul_le_mul_right h4 hg
end Go.Proofs.YtejhnpimhjmpdaaGreatDoor
/-
  WHO IS STILL GOING, PLAIN.
-/
set_option linter.unusedSimpArgs false
set_option linter.unusedVariables false
namespace Go.Proofs.YtejhnpimhjmpdaaGreatDoor
open Go
def ownC (x : MarchT) (b : Int) : Int := minI (w64 (x.2.1 - b)) (sumW x.1.2.1)
theorem impl_ownCount (x : MarchT) (h : lensM x) {i : Int} {b : Int} (hb : idx x.2.2.2 i = some b) : F_impl_ownCount x i = some (ownC x b) := by
  unfold F_impl_ownCount ownC
  rw [hb, Option.bind_some, impl_totalCounts x.1 h.1.2.2, Option.bind_some]
def goesAt (x : MarchT) (k : Nat) : Bool := match x.2.2.2[k]? with
  | some b => decide (ownC x b < sumW x.1.2.1)
  | none => false
def goingAns (x : MarchT) : List Int × Bool := if okMarch x then (filt (goesAt x) x.2.2.2.length, true) else ([], false)
theorem impl_StillGoing (x : MarchT) (h : lensM x) : F_impl_StillGoing x = some (goingAns x) := by
  unfold F_impl_StillGoing goingAns
  rw [impl_IsMarch x h.1 h.2.1 h.2.2, Option.bind_some]
  cases hm : okMarch x with
  | false => simp
  | true =>
    have hb := march_behind h hm
    simp only [Bool.not_true, Bool.false_eq_true, if_false, if_true]
    rw [loopFilter (F_impl_StillGoing_L1 x) x.2.2.2.length (goesAt x) (fun s => some (s, true)) (by omega) (fun m s k hk hsl => ?_) (fun m s => ?_)]
    · obtain ⟨b, hbk⟩ : ∃ b, x.2.2.2[k]? = some b := ⟨_, List.getElem?_eq_getElem hk⟩
      have e : goesAt x k = decide (ownC x b < sumW x.1.2.1) := by unfold goesAt; rw [hbk]
      rw [F_impl_StillGoing_L1, if_pos (by simp; omega)]
      unfold jK1
      dsimp only
      rw [impl_ownCount x h (by rw [idx_nat]; exact hbk), Option.bind_some, impl_totalCounts x.1 h.1.2.2, Option.bind_some, e, app_ok (by simp; omega), w64_succ (by omega)]
      by_cases hq : ownC x b < sumW x.1.2.1 <;> simp [hq]
    · rw [F_impl_StillGoing_L1, if_neg (by simp)]
end Go.Proofs.YtejhnpimhjmpdaaGreatDoor
/-
  WHERE PERFORMERS ARE NOW, PLAIN; who is too close.
-/
set_option linter.unusedSimpArgs false
set_option linter.unusedVariables false
namespace Go.Proofs.YtejhnpimhjmpdaaGreatDoor
open Go
def hereOf (x : MarchT) (i : Nat) (b : Int) : Int × Int := (spotAns (sheetOf x.1 i) (ownC x b)).1
def hereAt (x : MarchT) (i : Nat) : Int × Int := match x.2.2.2[i]? with
  | some b => hereOf x i b
  | none => (0, 0)
theorem hereAt_of {x : MarchT} {i : Nat} {b : Int} (h : x.2.2.2[i]? = some b) : hereAt x i = hereOf x i b := by unfold hereAt; rw [h]
theorem march_own {x : MarchT} (hm : okMarch x = true) {i : Nat} {b : Int} (hb : x.2.2.2[i]? = some b) : ownC x b ≤ 1000 := by
  unfold okMarch at hm
  simp only [Bool.and_eq_true, decide_eq_true_eq, okIn_iff] at hm
  obtain ⟨⟨⟨⟨h1, h2⟩, h3⟩, h4⟩, h5⟩ := hm
  unfold allIn at h5
  have := List.all_eq_true.1 h5 b (List.mem_of_getElem? hb)
  rw [okIn_iff] at this
  unfold ownC minI
  rw [w64_eq (by omega) (by omega)]
  split <;> omega
theorem impl_whereNow (x : MarchT) (h : lensM x) (hm : okMarch x = true) (i : Nat) (b : Int) (hb : x.2.2.2[i]? = some b) : F_impl_whereNow x (i : Int) = some (hereOf x i b) := by
  obtain ⟨l1, l2, hs, l3⟩ := march_behind h hm
  have f := facts hs
  have hi := (List.getElem?_eq_some_iff.1 hb).1
  have hi' : i < firstLen' x.1 := by have : firstLen' x.1 = firstLen x.1 := rfl; omega
  have hr : (sheetOf x.1 i).2.2.length < 1073741824 := by have := f.n1; have := f.nc; unfold sheetOf rowsOf; simp; omega
  have hown := march_own hm hb
  unfold F_impl_whereNow jK2 hereOf
  dsimp only
  rw [impl_sheetOf x.1 f i hi', Option.bind_some, impl_ownCount x h (by rw [idx_nat]; exact hb), Option.bind_some, impl_SpotAfter _ _ hr (by omega), Option.bind_some]
def placesOf (x : MarchT) : List (Int × Int) := (List.range x.2.2.2.length).map (hereAt x)
theorem impl_placesNow (x : MarchT) (h : lensM x) (hm : okMarch x = true) : F_impl_placesNow x = some (placesOf x) := by
  have hb := march_behind h hm
  unfold F_impl_placesNow placesOf
  rw [loopMap (F_impl_placesNow_L1 x) x.2.2.2.length (hereAt x) some (by omega) (fun m s k hk hsl => ?_) (fun m s => ?_)]
  · obtain ⟨b, hbk⟩ : ∃ b, x.2.2.2[k]? = some b := ⟨_, List.getElem?_eq_getElem hk⟩
    rw [F_impl_placesNow_L1, if_pos (by simp; omega), impl_whereNow x h hm k b hbk, Option.bind_some, app_ok (by simp; omega), Option.bind_some, w64_succ (by omega), hereAt_of hbk]
  · rw [F_impl_placesNow_L1, if_neg (by simp)]
def placesAns (x : MarchT) : List (Int × Int) × Bool := if okMarch x then (placesOf x, true) else ([], false)
theorem impl_PlacesNow (x : MarchT) (h : lensM x) : F_impl_PlacesNow x = some (placesAns x) := by
  unfold F_impl_PlacesNow placesAns
  rw [impl_IsMarch x h.1 h.2.1 h.2.2, Option.bind_some]
  cases hm : okMarch x with
  | false => simp
  | true => simp [impl_placesNow x h hm]
/-! pairs below n that p takes -/
end Go.Proofs.YtejhnpimhjmpdaaGreatDoor
/-
  SHEETS OF VALID SHOWS: the spots after counts, PLAIN.
-/
set_option linter.unusedSimpArgs false
set_option linter.unusedVariables false
namespace Go.Proofs.YtejhnpimhjmpdaaGreatDoor
open Go
theorem spot_ok {x : ShowT} (f : ShowFacts x) {k i : Nat} (hk : k < x.1.length) (hi : i < firstLen' x) : okSpot (spotAt x k i) = true := by
  obtain ⟨c0, hc0, he, _, _⟩ := show_first f
  obtain ⟨c, hc⟩ : ∃ c, x.1[k]? = some c := ⟨_, List.getElem?_eq_getElem hk⟩
  have hl := chart_len f hc hc0
  unfold spotAt
  rw [chartAt_of hc, List.getElem?_eq_getElem (show i < c.length by omega)]
  exact chart_spots (f.ch c (List.mem_of_getElem? hc)) _ (List.getElem_mem _)
theorem counts_ok {x : ShowT} (f : ShowFacts x) {k : Nat} (hk : k < x.2.1.length) : 1 ≤ countsAt x k ∧ countsAt x k ≤ 64 := by
  have e : x.2.1[k]? = some x.2.1[k] := List.getElem?_eq_getElem hk
  unfold countsAt
  rw [e]
  exact f.cn _ (List.getElem_mem hk)
theorem rows_ok {x : ShowT} (f : ShowFacts x) {i : Nat} (hi : i < firstLen' x) : (rowsOf x i).all okRow = true := by
  have nc := f.nc
  rw [List.all_eq_true]
  intro r hr
  unfold rowsOf at hr
  obtain ⟨k, hk, rfl⟩ := List.mem_map.1 hr
  have hk' := List.mem_range.1 hk
  unfold okRow
  rw [Bool.and_eq_true, okIn_iff]
  exact ⟨counts_ok f hk', spot_ok f (by omega) hi⟩
theorem sheet_ok {x : ShowT} (f : ShowFacts x) {i : Nat} (hi : i < firstLen' x) : okSheet (sheetOf x i) = true := by
  obtain ⟨c, hc, he, h1, h12⟩ := show_first f
  have n1 := f.n1
  have nc := f.nc
  unfold okSheet sheetOf
  simp only [Bool.and_eq_true, decide_eq_true_eq, okIn_iff]
  refine ⟨⟨⟨by omega, spot_ok f (by omega) hi⟩, rows_ok f hi⟩, by unfold rowsOf; simp; omega⟩
theorem rows_sum {x : ShowT} (f : ShowFacts x) (i : Nat) : ((rowsOf x i).map (·.1)).sum = sumW x.2.1 := by
  have n1 := f.n1
  have nc := f.nc
  rw [(sumW_eq x.2.1 f.cn (by omega)).1]
  congr 1
  unfold rowsOf
  rw [List.map_map]
  apply List.ext_getElem?
  intro k
  by_cases hk : k < x.2.1.length
  · have e : x.2.1[k]? = some x.2.1[k] := List.getElem?_eq_getElem hk
    simp [hk, countsAt, e]
  · rw [List.getElem?_eq_none (by simp; omega), List.getElem?_eq_none (by omega)]
theorem rows_last {x : ShowT} (f : ShowFacts x) (i : Nat) (st : Int × Int) : lastOf st (rowsOf x i) = spotAt x x.2.1.length i := by
  have n0 := f.n0
  have nc := f.nc
  obtain ⟨n, hn⟩ : ∃ n, x.2.1.length = n + 1 := ⟨x.2.1.length - 1, by omega⟩
  unfold rowsOf
  rw [hn, List.range_succ, List.map_append, lastOf_append]
  rfl
/-! rounding stays between -/
theorem rd_mid {p c B : Int} (h0 : 0 ≤ p) (h1 : p ≤ B * c) (hc : 1 ≤ c) (hB : 0 ≤ B) : 0 ≤ rd p c ∧ rd p c ≤ B := by
  unfold rd
  rw [Int.tdiv_eq_ediv_of_nonneg (by omega)]
  refine ⟨Int.ediv_nonneg (by omega) (by omega), ?_⟩
  have : (2 * p + c) / (2 * c) < B + 1 := Int.ediv_lt_of_lt_mul (by omega) (by
    rw [Int.add_mul, Int.one_mul]
    have e : B * (2 * c) = 2 * (B * c) := by rw [Int.mul_left_comm]
    omega)
  omega
theorem rd_full (b c : Int) (hb : 0 ≤ b) (hc : 1 ≤ c) : rd (b * c) c = b := by
  unfold rd
  have h0 : 0 ≤ b * c := Int.mul_nonneg hb (by omega)
  rw [Int.tdiv_eq_ediv_of_nonneg (by omega), show 2 * (b * c) + c = c + (2 * c) * b by rw [Int.mul_assoc, Int.mul_comm c b]; omega, Int.add_mul_ediv_left _ _ (by omega), Int.ediv_eq_zero_of_lt (by omega) (by omega)]
  omega
theorem way_mid {a b c k B : Int} (ha : 0 ≤ a ∧ a ≤ B) (hb : 0 ≤ b ∧ b ≤ B) (hc : 1 ≤ c) (hk : 0 ≤ k ∧ k ≤ c) : 0 ≤ a * c + (b - a) * k ∧ a * c + (b - a) * k ≤ B * c := by
  have h1 : a * c + (b - a) * k = a * (c - k) + b * k := by rw [Int.sub_mul, Int.mul_sub]; omega
  have h2 : 0 ≤ a * (c - k) := Int.mul_nonneg ha.1 (by omega)
  have h3 : 0 ≤ b * k := Int.mul_nonneg hb.1 hk.1
  have h4 : a * (c - k) ≤ B * (c - k) := Int.mul_le_mul_of_nonneg_right ha.2 (by omega)
  have h5 : b * k ≤ B * k := Int.mul_le_mul_of_nonneg_right hb.2 hk.1
  have h6 : B * (c - k) + B * k = B * c := by rw [Int.mul_sub]; omega
  omega
theorem round_ok (u : MoveT) (k : Int) (hg : goodMove u) (hc : 1 ≤ u.2.2) (hk : 0 ≤ k ∧ k ≤ u.2.2) : okSpot (roundM u k) = true := by
  obtain ⟨g1, g2⟩ := hg
  unfold okSpot at g1 g2 ⊢
  rw [Bool.and_eq_true, okIn_iff, okIn_iff] at g1 g2 ⊢
  have hX := way_mid (c := u.2.2) (k := k) g1.1 g2.1 hc hk
  have hY := way_mid (c := u.2.2) (k := k) g1.2 g2.2 hc hk
  unfold roundM
  exact ⟨rd_mid hX.1 hX.2 hc (by omega), rd_mid hY.1 hY.2 hc (by omega)⟩
theorem round_full (u : MoveT) (hg : goodMove u) (hc : 1 ≤ u.2.2) : roundM u u.2.2 = u.2.1 := by
  obtain ⟨g1, g2⟩ := hg
  unfold okSpot at g2
  rw [Bool.and_eq_true, okIn_iff, okIn_iff] at g2
  have e : ∀ a b : Int, a * u.2.2 + (b - a) * u.2.2 = b * u.2.2 := fun a b => by rw [Int.sub_mul]; omega
  unfold roundM
  rw [e, e, rd_full _ _ g2.1.1 hc, rd_full _ _ g2.2.1 hc]
theorem after_rows : ∀ (rs : List RowT) (st : Int × Int) (c : Int), okSpot st = true → rs.all okRow = true → 0 < c → c ≤ (rs.map (·.1)).sum →
    (afterM (rowMoves st rs) c).2 = true ∧ okSpot (afterM (rowMoves st rs) c).1 = true ∧ (c = (rs.map (·.1)).sum → (afterM (rowMoves st rs) c).1 = lastOf st rs) := by
  intro rs
  induction rs with
  | nil => intro st c _ _ h0 h1; simp at h1; omega
  | cons r rs ih =>
    intro st c hst hall h0 h1
    rw [List.all_cons, Bool.and_eq_true] at hall
    have hr := hall.1
    unfold okRow at hr
    rw [Bool.and_eq_true, okIn_iff] at hr
    rw [List.map_cons, List.sum_cons] at h1 ⊢
    have hg : goodMove (st, r.2, r.1) := ⟨hst, hr.2⟩
    have hnn : ∀ l : List RowT, l.all okRow = true → 0 ≤ (l.map (·.1)).sum ∧ ((l.map (·.1)).sum = 0 → l = []) := by
      intro l
      induction l with
      | nil => intro _; simp
      | cons q l ih2 =>
        intro h
        rw [List.all_cons, Bool.and_eq_true] at h
        have hq := h.1
        unfold okRow at hq
        rw [Bool.and_eq_true, okIn_iff] at hq
        have := (ih2 h.2).1
        rw [List.map_cons, List.sum_cons]
        exact ⟨by omega, fun h => by omega⟩
    have hn := hnn rs hall.2
    rw [rowMoves, afterM]
    dsimp only
    by_cases hq : c ≤ r.1
    · rw [if_pos hq]
      refine ⟨rfl, round_ok _ _ hg hr.1.1 ⟨by omega, hq⟩, fun e => ?_⟩
      have hz : rs = [] := hn.2 (by omega)
      subst hz
      have : c = r.1 := by simp at e; exact e
      rw [this]
      exact round_full (st, r.2, r.1) hg hr.1.1
    · rw [if_neg hq]
      obtain ⟨a1, a2, a3⟩ := ih r.2 (c - r.1) hr.2 hall.2 (by omega) (by omega)
      exact ⟨a1, a2, fun e => by rw [a3 (by omega)]; rfl⟩
theorem spot_after {x : ShowT} (f : ShowFacts x) {i : Nat} (hi : i < firstLen' x) {c : Int} (h0 : 0 ≤ c) (h1 : c ≤ sumW x.2.1) :
    (spotAns (sheetOf x i) c).2 = true ∧ okSpot (spotAns (sheetOf x i) c).1 = true ∧ (c = sumW x.2.1 → (spotAns (sheetOf x i) c).1 = spotAt x x.2.1.length i) := by
  have n0 := f.n0
  have nc := f.nc
  have hs := sheet_ok f hi
  have hsum := rows_sum f i
  have h00 : okSpot (spotAt x 0 i) = true := spot_ok f (by omega) hi
  have hall := rows_ok f hi
  unfold spotAns
  rw [hs, Bool.true_and, if_pos (by simpa using h0)]
  by_cases hz : c = 0
  · rw [if_pos hz]
    refine ⟨rfl, h00, fun e => ?_⟩
    have hp : 0 < sumW x.2.1 := by
      obtain ⟨u, l, hul⟩ : ∃ u l, x.2.1 = u :: l := by
        cases hh : x.2.1 with
        | nil => rw [hh] at nc; simp at nc; omega
        | cons u l => exact ⟨u, l, rfl⟩
      have n1 := f.n1
      rw [(sumW_eq x.2.1 f.cn (by omega)).1, hul, List.sum_cons]
      have := f.cn u (by rw [hul]; simp)
      have := (sumW_eq l (fun v hv => f.cn v (by rw [hul]; simp [hv])) (by rw [hul] at nc; simp at nc; omega)).2
      omega
    omega
  · rw [if_neg hz]
    obtain ⟨a1, a2, a3⟩ := after_rows (rowsOf x i) (spotAt x 0 i) c h00 hall (by omega) (by rw [hsum]; exact h1)
    exact ⟨a1, a2, fun e => by
      have := a3 (by rw [hsum]; exact e)
      rw [rows_last f i] at this
      exact this⟩
/-! places of a march -/
/-! pairs -/
end Go.Proofs.YtejhnpimhjmpdaaGreatDoor
/-
  A SHEET LEADS TO THE SPOTS OF THE CHARTS, PLAIN.
-/
set_option linter.unusedSimpArgs false
set_option linter.unusedVariables false
namespace Go.Proofs.YtejhnpimhjmpdaaGreatDoor
open Go
theorem after_append : ∀ (l : List RowT) (st : Int × Int) (m : List MoveT) (c : Int), 0 < c → c ≤ (l.map (·.1)).sum → afterM (rowMoves st l ++ m) c = afterM (rowMoves st l) c
  | [], st, m, c, h0, h1 => by simp at h1; omega
  | r :: rs, st, m, c, h0, h1 => by
    rw [List.map_cons, List.sum_cons] at h1
    rw [rowMoves, List.cons_append, afterM, afterM]
    dsimp only
    by_cases hq : c ≤ r.1
    · rw [if_pos hq, if_pos hq]
    · rw [if_neg hq, if_neg hq]
      exact after_append rs r.2 m (c - r.1) (by omega) (by omega)
theorem rows_counts (x : ShowT) (i : Nat) : (rowsOf x i).map (·.1) = x.2.1 := by
  unfold rowsOf
  rw [List.map_map]
  apply List.ext_getElem?
  intro k
  by_cases hk : k < x.2.1.length
  · rw [List.getElem?_map, List.getElem?_range hk, List.getElem?_eq_getElem hk]
    show some (countsAt x k) = _
    unfold countsAt
    rw [List.getElem?_eq_getElem hk]
    rfl
  · rw [List.getElem?_eq_none (by simp; omega), List.getElem?_eq_none (by omega)]
theorem spot_at {x : ShowT} (f : ShowFacts x) {i : Nat} (hi : i < firstLen' x) {k : Nat} (hk : k < x.2.1.length) : spotAns (sheetOf x i) ((x.2.1.take (k + 1)).sum) = (spotAt x (k + 1) i, true) := by
  have n0 := f.n0
  have nc := f.nc
  have hs := sheet_ok f hi
  have h00 : okSpot (spotAt x 0 i) = true := spot_ok f (by omega) hi
  have hall := rows_ok f hi
  have hA : ((rowsOf x i).take (k + 1)).map (·.1) = x.2.1.take (k + 1) := by rw [List.map_take, rows_counts]
  have hpos : 0 < (x.2.1.take (k + 1)).sum := by
    have key : ∀ l : List Int, (∀ u ∈ l, 1 ≤ u) → 0 ≤ l.sum ∧ (l ≠ [] → 0 < l.sum) := by
      intro l
      induction l with
      | nil => intro _; simp
      | cons u l ih =>
        intro h
        have := h u (by simp)
        have := (ih fun v hv => h v (by simp [hv])).1
        rw [List.sum_cons]
        exact ⟨by omega, fun _ => by omega⟩
    refine (key _ fun u hu => (f.cn u (List.mem_of_mem_take hu)).1).2 fun e => ?_
    have := congrArg List.length e
    rw [List.length_take, List.length_nil] at this
    omega
  have hall2 : ((rowsOf x i).take (k + 1)).all okRow = true := by
    rw [List.all_eq_true] at hall ⊢
    exact fun r hr => hall r (List.mem_of_mem_take hr)
  have hrow : rowMoves (spotAt x 0 i) (rowsOf x i) = rowMoves (spotAt x 0 i) ((rowsOf x i).take (k + 1)) ++ rowMoves (lastOf (spotAt x 0 i) ((rowsOf x i).take (k + 1))) ((rowsOf x i).drop (k + 1)) := by
    rw [← rowMoves_append, List.take_append_drop]
  have hlast : lastOf (spotAt x 0 i) ((rowsOf x i).take (k + 1)) = spotAt x (k + 1) i := by
    unfold rowsOf
    rw [← List.map_take, List.take_range, Nat.min_eq_left (by omega), List.range_succ, List.map_append, lastOf_append]
    rfl
  obtain ⟨a1, a2, a3⟩ := after_rows ((rowsOf x i).take (k + 1)) (spotAt x 0 i) ((x.2.1.take (k + 1)).sum) h00 hall2 hpos (by rw [hA]; exact Int.le_refl _)
  have h3 := a3 (by rw [hA])
  unfold spotAns
  rw [hs, Bool.true_and, if_pos (by simp; omega), if_neg (by omega)]
  show afterM (rowMoves (spotAt x 0 i) (rowsOf x i)) _ = _
  rw [hrow, after_append _ _ _ _ hpos (by rw [hA]; exact Int.le_refl _), ← hlast, ← h3, ← a1]
end Go.Proofs.YtejhnpimhjmpdaaGreatDoor
/-
  NEW MARCHES, PLAIN.
-/
set_option linter.unusedSimpArgs false
set_option linter.unusedVariables false
namespace Go.Proofs.YtejhnpimhjmpdaaGreatDoor
open Go
def newAns (x : ShowT) : MarchT × Bool := if okShow x then ((x, 0, [], List.replicate (firstLen x) 0), true) else ((([], [], 0, 0), 0, [], []), false)
theorem impl_NewMarch (x : ShowT) (h : lensOk x) : F_impl_NewMarch x = some (newAns x) := by
  unfold F_impl_NewMarch jK7 newAns
  rw [impl_IsShow x h.1 h.2.1 h.2.2, Option.bind_some]
  cases hs : okShow x with
  | false => simp
  | true =>
    have f := facts hs
    obtain ⟨c, hc, he, hl, hu⟩ := firstLen_of h hs
    simp only [Bool.not_true, Bool.false_eq_true, if_false, if_true]
    rw [idx_zero, hc, Option.bind_some, impl_copyShow x f, Option.bind_some, he, mkL_nat (by omega), Option.bind_some]
end Go.Proofs.YtejhnpimhjmpdaaGreatDoor
/-
  A MARCH WITHOUT HALTS, PLAIN: it ends on the last chart.
-/
set_option linter.unusedSimpArgs false
set_option linter.unusedVariables false
namespace Go.Proofs.YtejhnpimhjmpdaaGreatDoor
open Go
/-- The march after t beats. -/
def onM (x : ShowT) (t : Int) : MarchT := (x, t, [], List.replicate (firstLen x) 0)
theorem on_ok {x : ShowT} (h : okShow x = true) {t : Int} (h0 : 0 ≤ t) (h1 : t ≤ 1000) : okMarch (onM x t) = true := by
  unfold okMarch onM rises allIn
  dsimp only
  have hin : okIn t 0 1000 = true := okIn_iff.2 ⟨h0, h1⟩
  rw [h, hin]
  simp only [List.length_nil, List.range_zero, List.all_nil, Bool.true_and, List.length_replicate, decide_true, List.all_eq_true]
  intro u hu
  rw [List.eq_of_mem_replicate hu]
  exact okIn_iff.2 ⟨Int.le_refl _, h0⟩
theorem on_beat {x : ShowT} (h : okShow x = true) {t : Int} (h0 : 0 ≤ t) (h1 : t < 1000) : beatAns (onM x t) = (onM x (t + 1), true) := by
  unfold beatAns
  rw [on_ok h h0 (by omega)]
  have : (onM x t).2.1 < 1000 := h1
  rw [Bool.true_and, if_pos (by simpa using this)]
  rfl
theorem on_lens {x : ShowT} (h : okShow x = true) (hl : lensOk x) (t : Int) : lensM (onM x t) := by
  obtain ⟨c, hc, he, h1, h12⟩ := firstLen_of hl h
  refine ⟨hl, by show (0 : Nat) < _; omega, ?_⟩
  show (List.replicate (firstLen x) (0 : Int)).length < _
  rw [List.length_replicate]
  omega
theorem on_own {x : ShowT} (h : okShow x = true) (hl : lensOk x) {t : Int} (h0 : 0 ≤ t) (h1 : t ≤ 1000) (ht : sumW x.2.1 ≤ t) : ownC (onM x t) 0 = sumW x.2.1 := by
  have e : w64 (t - 0) = t := by rw [Int.sub_zero, w64_eq (x := t) (by omega) (by omega)]
  unfold ownC
  show minI (w64 (t - 0)) (sumW x.2.1) = _
  rw [e]
  unfold minI
  split <;> omega
theorem first_eq (x : ShowT) : firstLen x = firstLen' x := by unfold firstLen firstLen'; rfl
theorem on_going {x : ShowT} (h : okShow x = true) (hl : lensOk x) {t : Int} (h0 : 0 ≤ t) (h1 : t ≤ 1000) (ht : sumW x.2.1 ≤ t) : goingAns (onM x t) = ([], true) := by
  unfold goingAns
  rw [on_ok h h0 h1, if_pos rfl]
  have : filt (goesAt (onM x t)) (onM x t).2.2.2.length = [] := by
    unfold filt
    rw [List.map_eq_nil_iff, List.filter_eq_nil_iff]
    intro k hk
    have hk' : k < firstLen x := by
      have := List.mem_range.1 hk
      have e : (onM x t).2.2.2.length = firstLen x := by unfold onM; simp
      omega
    unfold goesAt
    have eg : (onM x t).2.2.2[k]? = some 0 := by unfold onM; simp [hk']
    rw [eg]
    dsimp only
    rw [on_own h hl h0 h1 ht]
    show ¬ decide (sumW x.2.1 < sumW x.2.1) = true
    simp
  rw [this]
theorem on_places {x : ShowT} (h : okShow x = true) (hl : lensOk x) {t : Int} (h0 : 0 ≤ t) (h1 : t ≤ 1000) (ht : sumW x.2.1 ≤ t) : placesAns (onM x t) = ((List.range (firstLen' x)).map (spotAt x x.2.1.length), true) := by
  have f := facts h
  have n1 := f.n1
  have nc := f.nc
  have hs := sumW_eq x.2.1 f.cn (by omega)
  unfold placesAns placesOf
  rw [on_ok h h0 h1, if_pos rfl]
  have e : (onM x t).2.2.2.length = firstLen' x := by unfold onM; rw [List.length_replicate, first_eq]
  rw [e]
  congr 1
  apply List.map_congr_left
  intro i hi
  have hi' := List.mem_range.1 hi
  have eg : (onM x t).2.2.2[i]? = some 0 := by unfold onM; simp [first_eq, hi']
  rw [hereAt_of eg]
  unfold hereOf
  rw [on_own h hl h0 h1 ht]
  exact (spot_after f hi' (by omega) (Int.le_refl _)).2.2 rfl
end Go.Proofs.YtejhnpimhjmpdaaGreatDoor
/-
  NUMERALS READ BACK, PLAIN.
-/
set_option linter.unusedSimpArgs false
set_option linter.unusedVariables false
namespace Go.Proofs.YtejhnpimhjmpdaaGreatDoor
open Go
def digitB (b : UInt8) : Bool := decide (48 ≤ b.toNat) && decide (b.toNat ≤ 57)
def numV (l : List UInt8) : Int := l.foldl (fun a b => 10 * a + ((b.toNat : Int) - 48)) 0
theorem digit_toNat {d : Nat} (h : d < 10) : (UInt8.ofNat (48 + d)).toNat = 48 + d := by
  rw [UInt8.toNat_ofNat']
  omega
theorem dec_small {u : Nat} (h : u < 10) : Lib.decDigits u = [UInt8.ofNat (48 + u)] := Lib.decDigits_one h
theorem dec_big {u : Nat} (h : ¬ u < 10) : Lib.decDigits u = Lib.decDigits (u / 10) ++ [UInt8.ofNat (48 + u % 10)] := by
  rw [Lib.decDigits, dif_neg h]
theorem dec_facts : ∀ (k u : Nat), u < 10 ^ (k + 1) → (∀ b ∈ Lib.decDigits u, digitB b = true) ∧ numV (Lib.decDigits u) = u ∧ 1 ≤ (Lib.decDigits u).length ∧ (Lib.decDigits u).length ≤ k + 1 ∧
    (0 < u → ∀ b, (Lib.decDigits u)[0]? = some b → b.toNat ≠ 48) := by
  intro k
  induction k with
  | zero =>
    intro u hu
    have h : u < 10 := by simpa using hu
    rw [dec_small h]
    have := digit_toNat h
    refine ⟨fun b hb => ?_, ?_, by simp, by simp, fun h0 b hb => ?_⟩
    · rw [List.mem_singleton.1 hb]
      unfold digitB
      rw [this]
      simp
      omega
    · unfold numV
      simp only [List.foldl_cons, List.foldl_nil, this]
      omega
    · rw [List.getElem?_cons_zero, Option.some.injEq] at hb
      rw [← hb, this]
      omega
  | succ k ih =>
    intro u hu
    by_cases h : u < 10
    · obtain ⟨a1, a2, a3, a4, a5⟩ := ih u (Nat.lt_of_lt_of_le h (by rw [Nat.pow_succ]; have := Nat.pow_pos (n := k) (show 0 < 10 by omega); omega))
      exact ⟨a1, a2, a3, by omega, a5⟩
    · have hd : u / 10 < 10 ^ (k + 1) := by rw [Nat.pow_succ] at hu; omega
      obtain ⟨a1, a2, a3, a4, a5⟩ := ih (u / 10) hd
      have hm : u % 10 < 10 := by omega
      have := digit_toNat hm
      rw [dec_big h]
      refine ⟨fun b hb => ?_, ?_, by simp, by simp; omega, fun h0 b hb => ?_⟩
      · rcases List.mem_append.1 hb with hb | hb
        · exact a1 b hb
        · rw [List.mem_singleton.1 hb]
          unfold digitB
          rw [this]
          simp
          omega
      · unfold numV at a2 ⊢
        rw [List.foldl_append, List.foldl_cons, List.foldl_nil, a2, this]
        omega
      · rw [List.getElem?_append_left (by omega)] at hb
        exact a5 (by omega) b hb
end Go.Proofs.YtejhnpimhjmpdaaGreatDoor
/-
  TEXTS CUT AT A BYTE, PLAIN: Index, Count and Split for one byte.
-/
set_option linter.unusedSimpArgs false
set_option linter.unusedVariables false
namespace Go.Proofs.YtejhnpimhjmpdaaGreatDoor
open Go
def splitB (c : UInt8) : List UInt8 → List (List UInt8)
  | [] => [[]]
  | b :: l => if b = c then [] :: splitB c l else match splitB c l with
    | [] => [[b]]
    | h :: t => (b :: h) :: t
theorem splitB_none {c : UInt8} : ∀ {l : List UInt8}, c ∉ l → splitB c l = [l]
  | [], _ => rfl
  | b :: l, h => by
    rw [List.mem_cons, not_or] at h
    rw [splitB, if_neg (fun e => h.1 e.symm), splitB_none h.2]
theorem splitB_cons {c : UInt8} : ∀ {A B : List UInt8}, c ∉ A → splitB c (A ++ c :: B) = A :: splitB c B
  | [], B, _ => by rw [List.nil_append, splitB, if_pos rfl]
  | b :: A, B, h => by
    rw [List.mem_cons, not_or] at h
    rw [List.cons_append, splitB, if_neg (fun e => h.1 e.symm), splitB_cons h.2]
theorem s_take {α : Type} (l : List α) {k : Nat} (h : k ≤ l.length) : sl l 0 (k : Int) = some (l.take k) := sl_take l h
theorem s_drop {α : Type} (l : List α) {k : Nat} (h : k ≤ l.length) : sl l (k : Int) (List.length l : Int) = some (l.drop k) := by
  unfold sl
  rw [if_pos (by omega)]
  simp
theorem s_byte (c : UInt8) : (UInt8.toNat c : Int).toNat.toUInt8 = c := by
  rw [Int.toNat_natCast]
  exact UInt8.ofNat_toNat
theorem s_byte_ne {b c : UInt8} (h : b ≠ c) : ((b.toNat : Nat) : Int) ≠ (c.toNat : Int) := fun e => h (UInt8.toNat_inj.1 (by omega))
theorem s_idx (l : List UInt8) (c : UInt8) : (idxB l (c.toNat : Int) = -1 ∧ c ∉ l) ∨ ∃ A B, l = A ++ c :: B ∧ c ∉ A ∧ idxB l (c.toNat : Int) = (A.length : Int) := by
  unfold idxB
  rw [s_byte]
  cases h : (List.range l.length).find? (fun i => l[i]? == some c) with
  | none =>
    left
    refine ⟨rfl, fun hm => ?_⟩
    obtain ⟨k, hk, e⟩ := List.getElem_of_mem hm
    have := List.find?_eq_none.1 h k (List.mem_range.2 hk)
    rw [List.getElem?_eq_getElem hk, e] at this
    simp at this
  | some i =>
    right
    have hp := List.find?_some h
    have hi : i < l.length := List.mem_range.1 (List.mem_of_find?_eq_some h)
    have he : l[i] = c := by
      rw [List.getElem?_eq_getElem hi] at hp
      simpa using hp
    have hfirst : c ∉ l.take i := by
      intro hm
      obtain ⟨k, hk, e⟩ := List.getElem_of_mem hm
      rw [List.getElem_take] at e
      have hk' : k < i := by simp at hk; omega
      have hk2 : k < l.length := by omega
      have h3 := (List.find?_range_eq_some.1 h).2.2 k hk'
      rw [List.getElem?_eq_getElem hk2, e] at h3
      simp at h3
    have hl : l = l.take i ++ c :: l.drop (i + 1) := by
      conv => rhs; rw [← he]
      rw [List.getElem_cons_drop, List.take_append_drop]
    exact ⟨l.take i, l.drop (i + 1), hl, hfirst, by simp; omega⟩
theorem cut_uniq {c : UInt8} : ∀ {A A' B B' : List UInt8}, c ∉ A → c ∉ A' → A ++ c :: B = A' ++ c :: B' → A = A' ∧ B = B'
  | [], [], B, B', _, _, e => by simpa using e
  | [], a :: A', B, B', _, h, e => by
    rw [List.nil_append, List.cons_append, List.cons.injEq] at e
    exact absurd (by rw [e.1]; simp) h
  | a :: A, [], B, B', h, _, e => by
    rw [List.nil_append, List.cons_append, List.cons.injEq] at e
    exact absurd (by rw [e.1]; simp) h
  | a :: A, a' :: A', B, B', h, h', e => by
    rw [List.cons_append, List.cons_append, List.cons.injEq] at e
    rw [List.mem_cons, not_or] at h h'
    obtain ⟨e1, e2⟩ := cut_uniq h.2 h'.2 e.2
    exact ⟨by rw [e.1, e1], e2⟩
theorem s_idx_at {A B : List UInt8} {c : UInt8} (h : c ∉ A) : idxB (A ++ c :: B) (c.toNat : Int) = (A.length : Int) := by
  rcases s_idx (A ++ c :: B) c with ⟨_, hn⟩ | ⟨A', B', e, h', hx⟩
  · exact absurd (by simp) hn
  · rw [hx, (cut_uniq h h' e).1]
theorem s_idx_none {l : List UInt8} {c : UInt8} (h : c ∉ l) : idxB l (c.toNat : Int) = -1 := by
  rcases s_idx l c with ⟨hx, _⟩ | ⟨A', B', e, h', hx⟩
  · exact hx
  · exact absurd (by rw [e]; simp) h
theorem s_index (l : List UInt8) (c : UInt8) : F_strings_Index l [c] = some (idxB l (c.toNat : Int)) := by
  unfold F_strings_Index F_stringslite_Index F_stringslite_IndexByte jK1
  dsimp only
  by_cases h : l = [c]
  · subst h
    have := s_idx_at (A := []) (B := []) (c := c) (by simp)
    rw [List.nil_append] at this
    rw [this]
    simp
  · have h2 : ([c] == l) = false := by
      rw [beq_eq_false_iff_ne]
      exact fun e => h e.symm
    rw [if_neg (by simp), h2, if_neg (by simp), if_pos (by simp)]
    rfl
theorem s_count (l : List UInt8) (c : UInt8) : F_strings_Count l [c] = some ((l.count c : Nat) : Int) := by
  unfold F_strings_Count
  rw [if_neg (by simp), if_pos (by simp)]
  show some (cntB l (UInt8.toNat c : Int)) = _
  unfold cntB
  rw [s_byte]
theorem s_set {α : Type} (L : List α) (i : Nat) (x : α) (h : i < L.length) : (seti L (i : Int) x).take (i + 1) = L.take i ++ [x] := by
  unfold seti
  rw [Int.toNat_natCast, List.take_add_one, List.getElem?_set_self h, List.take_set_of_le (Nat.le_refl _)]
  rfl
theorem s_split (l : List UInt8) (c : UInt8) (hl : l.length ≤ 4194304) : F_strings_Split l [c] = some (splitB c l) := by
  have hc : l.count c ≤ l.length := List.count_le_length
  unfold F_strings_Split F_strings_genSplit jK1 jK3
  dsimp only
  have hn : minI ((l.count c : Int) + 1) ((l.length : Int) + 1) = ((l.count c + 1 : Nat) : Int) := by
    unfold minI
    split <;> omega
  rw [if_neg (by simp), if_neg (by simp), if_pos (by simp), s_count, Option.bind_some, w64_eq (x := ((l.count c : Nat) : Int) + 1) (by omega) (by omega), w64_eq (x := (List.length l : Int) + 1) (by omega) (by omega), hn, mkL_nat (by omega), Option.bind_some]
  have key : ∀ (d i m : Nat) (y : List UInt8) (L : List (List UInt8)), l.count c - i = d → i ≤ l.count c → d < m → y.count c = d → L.length = l.count c + 1 → y.length ≤ 4194304 →
      F_strings_genSplit_L1 ((l.count c : Int) + 1) l [c] (fun y33 l34 y37 => Option.bind (idx l34 y37) fun u41 => Option.bind (sl (seti l34 y37 y33) 0 (w64 (y37 + 1))) fun u50 => some u50) 0 m y L (i : Int) = some (L.take i ++ splitB c y) := by
    intro d
    induction d with
    | zero =>
      intro i m y L hd hi hm hy hL hyl
      have : i = l.count c := by omega
      subst this
      cases m with
      | zero => omega
      | succ m =>
        rw [F_strings_genSplit_L1, w64_eq (x := (List.length l : Int) + 1) (by omega) (by omega), hn, w64_eq (x := ((l.count c + 1 : Nat) : Int) - 1) (by omega) (by omega), if_neg (by simp <;> omega), idx_lt (by omega), Option.bind_some, w64_succ (by omega), s_take _ (by simp [seti]; omega), Option.bind_some, s_set _ _ _ (by omega), splitB_none (List.count_eq_zero.1 hy)]
    | succ d ih =>
      intro i m y L hd hi hm hy hL hyl
      cases m with
      | zero => omega
      | succ m =>
        rcases s_idx y c with ⟨_, h0⟩ | ⟨A, B, e, hA, hx⟩
        · rw [List.count_eq_zero.2 h0] at hy; omega
        · have hlen : y.length = A.length + (B.length + 1) := by rw [e]; simp
          have hB : y.drop (A.length + 1) = B := by rw [e, show A ++ c :: B = (A ++ [c]) ++ B by simp]; exact List.drop_left' (by simp)
          have hA2 : y.take A.length = A := by rw [e]; exact List.take_left' rfl
          have hcB : B.count c = d := by
            rw [e, List.count_append, List.count_eq_zero.2 hA, List.count_cons_self] at hy
            omega
          rw [F_strings_genSplit_L1, w64_eq (x := (List.length l : Int) + 1) (by omega) (by omega), hn, w64_eq (x := ((l.count c + 1 : Nat) : Int) - 1) (by omega) (by omega), if_pos (by simp <;> omega), s_index, Option.bind_some, hx, if_neg (by simp), w64_eq (x := (A.length : Int) + 0) (by omega) (by omega), Int.add_zero, s_take _ (by omega), Option.bind_some, idx_lt (by omega), Option.bind_some]
          rw [show (List.length ([c] : List UInt8) : Int) = 1 by rfl, w64_succ (by omega), s_drop _ (by omega), Option.bind_some, w64_succ (by omega), hB, hA2]
          rw [ih (i + 1) m B _ (by omega) (by omega) (by omega) hcB (by simp [seti]; exact hL) (by omega), s_set _ _ _ (by omega)]
          conv => rhs; rw [e]
          rw [splitB_cons hA, List.append_assoc]
          rfl
  have hr := key (l.count c) 0 FU l (List.replicate (l.count c + 1) []) (by omega) (by omega) (FU_gt (by omega)) rfl (by simp) hl
  rw [show ((0 : Nat) : Int) = 0 by rfl] at hr
  rw [hr]
  rfl
end Go.Proofs.YtejhnpimhjmpdaaGreatDoor
/-
  NUMERALS READ, CUTS, SPOTS' TEXTS AND BACK, PLAIN.
-/
set_option linter.unusedSimpArgs false
set_option linter.unusedVariables false
namespace Go.Proofs.YtejhnpimhjmpdaaGreatDoor
open Go
theorem digitB_iff {b : UInt8} : digitB b = true ↔ 48 ≤ b.toNat ∧ b.toNat ≤ 57 := by
  unfold digitB
  simp
theorem wu8_digit {b : UInt8} (h : digitB b = true) : w64 (wu8 ((b.toNat : Int) - 48)) = (b.toNat : Int) - 48 := by
  have := digitB_iff.1 h
  have e : wu8 ((b.toNat : Int) - 48) = (b.toNat : Int) - 48 := by
    unfold wu8
    show ((b.toNat : Int) - 48) % 256 = _
    omega
  rw [e, w64_eq (by omega) (by omega)]
def natAns (l : List UInt8) : Int × Bool := if l = [] ∨ 9 < l.length ∨ (1 < l.length ∧ l[0]? = some 48) then (0, false) else if l.all digitB then (numV l, true) else (0, false)
theorem foldl_bd (l : List UInt8) (n : Int) (i : Nat) (hn : 0 ≤ n) (h : n < 10 ^ i) (hi : i + l.length ≤ 9) : n ≤ 1000000000 := by
  have : (10 : Nat) ^ i ≤ 10 ^ 9 := Nat.pow_le_pow_right (by omega) (by omega)
  have h2 : ((10 ^ i : Nat) : Int) ≤ ((10 ^ 9 : Nat) : Int) := Int.ofNat_le.2 this
  rw [Int.natCast_pow] at h2
  have e : ((10 ^ 9 : Nat) : Int) = 1000000000 := by decide
  rw [e] at h2
  exact Int.le_of_lt (Int.lt_of_lt_of_le h h2)
theorem nat_loop (l : List UInt8) (h9 : l.length ≤ 9) : ∀ (d i m : Nat) (n : Int), l.length - i = d → i ≤ l.length → d < m → 0 ≤ n → n < 10 ^ i →
    F_impl_natural_L1 l m n (i : Int) = some (if (l.drop i).all digitB then ((l.drop i).foldl (fun a b => 10 * a + ((b.toNat : Int) - 48)) n, true) else (0, false)) := by
  intro d
  induction d with
  | zero =>
    intro i m n hd hi hm h0 h1
    have : i = l.length := by omega
    subst this
    cases m with
    | zero => omega
    | succ m =>
      rw [F_impl_natural_L1, if_neg (by simp), List.drop_length]
      rfl
  | succ d ih =>
    intro i m n hd hi hm h0 h1
    cases m with
    | zero => omega
    | succ m =>
      have hlt : i < l.length := by omega
      have hb := foldl_bd (l.drop i) n i h0 h1 (by simp; omega)
      rw [F_impl_natural_L1, if_pos (by simp; omega)]
      unfold jK1
      dsimp only
      rw [idx_lt hlt, Option.bind_some, Option.bind_some]
      rw [List.drop_eq_getElem_cons hlt, List.all_cons, List.foldl_cons]
      by_cases hg : digitB l[i] = true
      · have hg' := digitB_iff.1 hg
        rw [if_neg (by simp; omega), Option.bind_some, if_neg (by simp; omega), hg, Bool.true_and, wu8_digit hg, w64_eq (x := 10 * n) (by omega) (by omega), w64_eq (x := 10 * n + _) (by omega) (by omega), w64_succ (by omega)]
        refine ih (i + 1) m _ (by omega) (by omega) (by omega) (by omega) ?_
        rw [Int.pow_succ]
        omega
      · have hg' : ¬ (48 ≤ l[i].toNat ∧ l[i].toNat ≤ 57) := fun x => hg (digitB_iff.2 x)
        have hf : digitB l[i] = false := by simpa using hg
        rw [hf, Bool.false_and, if_neg (c := false = true) (by simp)]
        by_cases h48 : l[i].toNat < 48
        · rw [if_pos (by simp; omega), if_pos rfl]
        · rw [if_neg (by simp; omega), Option.bind_some, if_pos (by simp; omega)]
theorem impl_natural (l : List UInt8) (h : l.length < 4611686018427387904) : F_impl_natural l = some (natAns l) := by
  unfold F_impl_natural natAns jK1
  dsimp only
  by_cases h0 : l = []
  · rw [if_pos (by simp [h0]), if_pos rfl, if_pos (Or.inl h0)]
  · rw [if_neg (by simpa using h0)]
    by_cases h9 : 9 < l.length
    · rw [if_pos (by simp; omega), if_pos rfl, if_pos (Or.inr (Or.inl h9))]
    · rw [if_neg (by simp; omega)]
      have hlt : 0 < l.length := List.length_pos_iff.2 h0
      have hl := nat_loop l (by omega) l.length 0 FU 0 rfl (by omega) (FU_gt (by omega)) (by omega) (by simp)
      rw [show ((0 : Nat) : Int) = 0 by rfl] at hl
      by_cases h1 : 1 < l.length
      · rw [if_pos (by simp; omega), idx_zero, List.getElem?_eq_getElem hlt, Option.bind_some]
        by_cases h48 : l[0] = 48
        · rw [h48, if_pos (by decide), if_pos (Or.inr (Or.inr ⟨h1, rfl⟩))]
        · have : ((l[0].toNat : Int) == 48) = false := by
            rw [beq_eq_false_iff_ne]
            exact s_byte_ne (c := 48) h48
          have hc : ¬ (l = [] ∨ 9 < l.length ∨ (1 < l.length ∧ some l[0] = some 48)) := by
            rintro (e | e | ⟨_, e⟩)
            · exact h0 e
            · exact h9 e
            · exact h48 (Option.some.inj e)
          rw [this, if_neg (by simp), hl, if_neg hc]
          rfl
      · have hc : ¬ (l = [] ∨ 9 < l.length ∨ (1 < l.length ∧ l[0]? = some 48)) := by
          rintro (e | e | ⟨e, _⟩)
          · exact h0 e
          · exact h9 e
          · exact h1 e
        rw [if_neg (by simp; omega), if_neg (by simp), hl, if_neg hc]
        rfl
theorem natAns_dec {u : Nat} (h : u < 10 ^ 9) : natAns (Lib.decDigits u) = ((u : Int), true) := by
  obtain ⟨a1, a2, a3, a4, a5⟩ := dec_facts 8 u h
  unfold natAns
  rw [if_neg, if_pos (by rw [List.all_eq_true]; exact a1), a2]
  rintro (e | e | ⟨e1, e2⟩)
  · rw [e] at a3; simp at a3
  · omega
  · by_cases h0 : 0 < u
    · exact a5 h0 _ e2 rfl
    · have : u = 0 := by omega
      subst this
      rw [dec_small (by omega)] at e1
      simp at e1
/-! cuts -/
theorem sl_index (l : List UInt8) (c : UInt8) : F_stringslite_Index l [c] = some (idxB l (c.toNat : Int)) := by
  have h := s_index l c
  unfold F_strings_Index at h
  cases hx : F_stringslite_Index l [c] with
  | none => rw [hx] at h; simp at h
  | some v => rw [hx] at h; simpa using h
theorem s_cut_at {A B : List UInt8} {c : UInt8} (h : c ∉ A) (hl : A.length + B.length < 4611686018427387904) : F_strings_Cut (A ++ c :: B) [c] = some (A, B, true) := by
  unfold F_strings_Cut F_stringslite_Cut
  rw [sl_index, Option.bind_some, s_idx_at h, if_pos (by simp), s_take _ (by simp), Option.bind_some, show (List.length ([c] : List UInt8) : Int) = 1 by rfl, w64_succ (by omega), s_drop _ (by simp), Option.bind_some, Option.bind_some, List.take_left' rfl, show A ++ c :: B = (A ++ [c]) ++ B by simp, List.drop_left' (by simp)]
theorem s_cut_none {l : List UInt8} {c : UInt8} (h : c ∉ l) : F_strings_Cut l [c] = some (l, [], false) := by
  unfold F_strings_Cut F_stringslite_Cut
  rw [sl_index, Option.bind_some, s_idx_none h, if_neg (by simp), Option.bind_some]
/-! steps and spots -/
theorem nIn_iff {a lo hi : Int} : okIn a lo hi = true ↔ lo ≤ a ∧ a ≤ hi := by simp [okIn]
theorem okSpot_iff {s : Int × Int} : okSpot s = true ↔ (0 ≤ s.1 ∧ s.1 ≤ 1280) ∧ 0 ≤ s.2 ∧ s.2 ≤ 672 := by
  unfold okSpot
  rw [Bool.and_eq_true, nIn_iff, nIn_iff]
theorem n_app {α : Type} {l m : List α} (h : l.length + m.length ≤ 1073741824) : app l m = some (l ++ m) := by
  unfold app
  rw [if_pos h]
def stepsT (n : Int) : List UInt8 := Lib.decDigits (n.toNat / 8) ++ if 0 < n.toNat % 8 then 43 :: Lib.decDigits (n.toNat % 8) else []
def spotT (s : Int × Int) : List UInt8 := stepsT s.1 ++ 44 :: stepsT s.2
theorem dec_mem {k u : Nat} (h : u < 10 ^ (k + 1)) {b : UInt8} (hb : b ∈ Lib.decDigits u) : 48 ≤ b.toNat ∧ b.toNat ≤ 57 := digitB_iff.1 ((dec_facts k u h).1 b hb)
theorem dec_len {k u : Nat} (h : u < 10 ^ (k + 1)) : (Lib.decDigits u).length ≤ k + 1 := (dec_facts k u h).2.2.2.1
theorem dec_not {k u : Nat} (h : u < 10 ^ (k + 1)) {b : UInt8} (hb : b.toNat < 48 ∨ 57 < b.toNat) : b ∉ Lib.decDigits u := fun hm => by
  have := dec_mem h hm
  omega
theorem itoa_dec {n : Int} (h : 0 ≤ n) (h2 : n ≤ 9223372036854775807) : F_strconv_Itoa n = some (Lib.decDigits n.toNat) := by
  unfold F_strconv_Itoa Lib.itoa
  rw [if_pos (by omega), if_neg (by omega)]
theorem steps_mem {n : Int} (h : 0 ≤ n ∧ n ≤ 1280) {b : UInt8} (hb : b ∈ stepsT n) : b.toNat = 43 ∨ 48 ≤ b.toNat ∧ b.toNat ≤ 57 := by
  unfold stepsT at hb
  rcases List.mem_append.1 hb with hb | hb
  · exact Or.inr (dec_mem (k := 2) (by omega) hb)
  · by_cases h8 : 0 < n.toNat % 8
    · rw [if_pos h8] at hb
      rcases List.mem_cons.1 hb with hb | hb
      · exact Or.inl (by rw [hb]; rfl)
      · exact Or.inr (dec_mem (k := 0) (by omega) hb)
    · rw [if_neg h8] at hb
      simp at hb
theorem steps_len {n : Int} (h : 0 ≤ n ∧ n ≤ 1280) : (stepsT n).length ≤ 5 := by
  unfold stepsT
  have h1 := dec_len (k := 2) (u := n.toNat / 8) (by omega)
  have h2 := dec_len (k := 0) (u := n.toNat % 8) (by omega)
  rw [List.length_append]
  split
  · rw [List.length_cons]; omega
  · simp; omega
theorem impl_stepsText {n : Int} (h : 0 ≤ n ∧ n ≤ 1280) : F_impl_stepsText n = some (stepsT n) := by
  have h1 := dec_len (k := 2) (u := n.toNat / 8) (by omega)
  have h2 := dec_len (k := 0) (u := n.toNat % 8) (by omega)
  unfold F_impl_stepsText stepsT jK1
  dsimp only
  rw [Int.tdiv_eq_ediv_of_nonneg h.1, Int.tmod_eq_emod_of_nonneg h.1, w64_eq (by omega) (by omega), itoa_dec (by omega) (by omega), Option.bind_some, show (n / 8).toNat = n.toNat / 8 by omega]
  by_cases h8 : 0 < n.toNat % 8
  · rw [if_pos (by simp; omega), itoa_dec (by omega) (by omega), Option.bind_some, show (n % 8).toNat = n.toNat % 8 by omega, n_app (by simp; omega), Option.bind_some, n_app (by simp; omega), Option.bind_some, if_pos h8]
    rfl
  · rw [if_neg (by simp; omega), if_neg h8, List.append_nil]
theorem impl_SpotText {s : Int × Int} (h : okSpot s = true) : F_impl_SpotText s = some (spotT s, true) := by
  unfold F_impl_SpotText
  rw [impl_IsSpot, Option.bind_some, h, if_neg (by simp)]
  have hs := okSpot_iff.1 h
  have l1 := steps_len (n := s.1) (by omega)
  have l2 := steps_len (n := s.2) (by omega)
  rw [impl_stepsText (by omega), Option.bind_some, n_app (by simp; omega), Option.bind_some, impl_stepsText (by omega), Option.bind_some, n_app (by simp; omega), Option.bind_some]
  unfold spotT
  rw [List.append_assoc]
  rfl
theorem spotT_len {s : Int × Int} (h : okSpot s = true) : (spotT s).length ≤ 11 := by
  have hs := okSpot_iff.1 h
  have l1 := steps_len (n := s.1) (by omega)
  have l2 := steps_len (n := s.2) (by omega)
  unfold spotT
  rw [List.length_append, List.length_cons]
  omega
theorem spotT_mem {s : Int × Int} (h : okSpot s = true) {b : UInt8} (hb : b ∈ spotT s) : b.toNat = 43 ∨ b.toNat = 44 ∨ 48 ≤ b.toNat ∧ b.toNat ≤ 57 := by
  have hs := okSpot_iff.1 h
  unfold spotT at hb
  rcases List.mem_append.1 hb with hb | hb
  · rcases steps_mem (by omega) hb with h | h
    · exact Or.inl h
    · exact Or.inr (Or.inr h)
  · rcases List.mem_cons.1 hb with hb | hb
    · exact Or.inr (Or.inl (by rw [hb]; rfl))
    · rcases steps_mem (by omega) hb with h | h
      · exact Or.inl h
      · exact Or.inr (Or.inr h)
theorem not_of_nat {c : UInt8} {l : List UInt8} (h : ∀ b ∈ l, b.toNat ≠ c.toNat) : c ∉ l := fun hm => h c hm rfl
theorem impl_readSteps {n : Int} (h : 0 ≤ n ∧ n ≤ 1280) : F_impl_readSteps (stepsT n) = some (n, true) := by
  have l1 := dec_len (k := 2) (u := n.toNat / 8) (by omega)
  have l2 := dec_len (k := 0) (u := n.toNat % 8) (by omega)
  have hno : (43 : UInt8) ∉ Lib.decDigits (n.toNat / 8) := dec_not (k := 2) (by omega) (Or.inl (by decide))
  unfold F_impl_readSteps stepsT jK1
  dsimp only
  by_cases h8 : 0 < n.toNat % 8
  · rw [if_pos h8, s_cut_at hno (by omega), Option.bind_some]
    dsimp only
    rw [impl_natural _ (by omega), natAns_dec (by omega), Option.bind_some]
    dsimp only
    rw [if_neg (by simp), if_neg (by simp), impl_natural _ (by omega), natAns_dec (by omega), Option.bind_some]
    dsimp only
    rw [if_neg (by simp), impl_within, Option.bind_some, nIn_iff.2 (by omega), if_neg (by simp), w64_eq (x := 8 * _) (by omega) (by omega), w64_eq (by omega) (by omega)]
    congr 2
    omega
  · rw [if_neg h8, List.append_nil, s_cut_none hno, Option.bind_some]
    dsimp only
    rw [impl_natural _ (by omega), natAns_dec (by omega), Option.bind_some]
    dsimp only
    rw [if_neg (by simp), if_pos (by simp), w64_eq (x := 8 * _) (by omega) (by omega)]
    congr 2
    omega
theorem impl_ParseSpot {s : Int × Int} (h : okSpot s = true) : F_impl_ParseSpot (spotT s) = some (s, true) := by
  have hs := okSpot_iff.1 h
  have l1 := steps_len (n := s.1) (by omega)
  have l2 := steps_len (n := s.2) (by omega)
  have hno : (44 : UInt8) ∉ stepsT s.1 := not_of_nat fun b hb => by
    have := steps_mem (n := s.1) (by omega) hb
    show b.toNat ≠ 44
    omega
  unfold F_impl_ParseSpot spotT jK1
  dsimp only
  rw [s_cut_at hno (by omega), Option.bind_some]
  dsimp only
  rw [if_neg (by simp), impl_readSteps (by omega), Option.bind_some, impl_readSteps (by omega), Option.bind_some]
  dsimp only
  rw [if_neg (by simp), if_neg (by simp), impl_IsSpot, Option.bind_some]
  show (if (!(okSpot s)) = true then _ else _) = _
  rw [h, if_neg (by simp)]
end Go.Proofs.YtejhnpimhjmpdaaGreatDoor
/-
  A SHEET'S TEXT, AND READ BACK, PLAIN.
-/
set_option linter.unusedSimpArgs false
set_option linter.unusedVariables false
namespace Go.Proofs.YtejhnpimhjmpdaaGreatDoor
open Go
theorem ts_ints (t : List UInt8) : (ints t).length = t.length := by unfold ints; rw [List.length_map]
theorem ts_bwr {t u : List UInt8} (h : t.length + u.length ≤ 1073741824) : bwr (ints t) u = some (ints (t ++ u)) := by
  unfold bwr
  rw [ts_ints, if_pos (by omega)]
  unfold ints
  rw [List.map_append]
theorem ts_bstr (t : List UInt8) : bstr (ints t) = some t := by
  unfold bstr ints
  rw [if_pos]
  · rw [List.map_map]
    congr 1
    conv => rhs; rw [← List.map_id t]
    apply List.map_congr_left
    intro b _
    show UInt8.ofNat (b.toNat : Int).toNat = b
    rw [Int.toNat_natCast]
    exact UInt8.ofNat_toNat
  · rw [List.all_eq_true]
    intro x hx
    obtain ⟨b, _, rfl⟩ := List.mem_map.1 hx
    have := UInt8.toNat_lt b
    simp
    omega
def joinL (L : List (List UInt8)) : List UInt8 := (L.map (· ++ [10])).flatten
theorem joinL_cons (a : List UInt8) (L : List (List UInt8)) : joinL (a :: L) = a ++ 10 :: joinL L := by
  unfold joinL
  rw [List.map_cons, List.flatten_cons, List.append_assoc]
  rfl
theorem joinL_append (L M : List (List UInt8)) : joinL (L ++ M) = joinL L ++ joinL M := by
  unfold joinL
  rw [List.map_append, List.flatten_append]
theorem joinL_len (B : Nat) : ∀ (L : List (List UInt8)), (∀ a ∈ L, a.length ≤ B) → (joinL L).length ≤ (B + 1) * L.length
  | [], _ => by simp [joinL]
  | a :: L, h => by
    have ih := joinL_len B L fun b hb => h b (List.mem_cons_of_mem _ hb)
    have ha := h a (by simp)
    rw [joinL_cons, List.length_append, List.length_cons, List.length_cons, Nat.mul_add]
    omega
theorem split_lines (b : List UInt8) (hb : (10 : UInt8) ∉ b) : ∀ (I : List (List UInt8)), (∀ a ∈ I, (10 : UInt8) ∉ a) → splitB 10 (joinL I ++ b) = I ++ [b]
  | [], _ => splitB_none hb
  | a :: I, h => by
    rw [joinL_cons, List.append_assoc, List.cons_append, splitB_cons (h a (by simp)), split_lines b hb I fun c hc => h c (List.mem_cons_of_mem _ hc)]
    rfl
theorem impl_linesOf {L : List (List UInt8)} (h0 : L ≠ []) (h : ∀ a ∈ L, (10 : UInt8) ∉ a) (hl : (joinL L).length ≤ 4194304) : F_impl_linesOf (joinL L) = some (L, true) := by
  obtain ⟨I, b, rfl⟩ : ∃ I b, L = I ++ [b] := ⟨L.dropLast, L.getLast h0, (List.dropLast_concat_getLast h0).symm⟩
  have e : joinL (I ++ [b]) = (joinL I ++ b) ++ [10] := by
    rw [joinL_append, joinL_cons, List.append_assoc]
    rfl
  rw [e] at hl ⊢
  have hlen : ((joinL I ++ b) ++ [10]).length = (joinL I ++ b).length + 1 := by rw [List.length_append]; rfl
  have e2 : ((((joinL I ++ b) ++ [10]).length : Int) - 1) = (((joinL I ++ b).length : Nat) : Int) := by omega
  have hb := h b (by simp)
  have hI : ∀ a ∈ I, (10 : UInt8) ∉ a := fun a ha => h a (List.mem_append_left _ ha)
  unfold F_impl_linesOf
  rw [if_neg (by simp), e2, w64_eq (by omega) (by omega), idx_lt (by omega), Option.bind_some, List.getElem_append_right (by omega)]
  have e3 : ([10] : List UInt8)[(joinL I ++ b).length - (joinL I ++ b).length]'(by simp) = 10 := by simp
  rw [e3, if_neg (by decide), s_take _ (by omega), Option.bind_some, List.take_left' rfl, s_split _ _ (by omega), Option.bind_some, split_lines b hb I hI]
def perfW : List UInt8 := [112, 101, 114, 102, 111, 114, 109, 101, 114]
def rowT (r : RowT) : List UInt8 := Lib.decDigits r.1.toNat ++ 32 :: spotT r.2
def headT (s : SheetT) : List UInt8 := perfW ++ 32 :: (Lib.decDigits s.1.toNat ++ 32 :: spotT s.2.1)
def sheetT (s : SheetT) : List UInt8 := joinL (headT s :: s.2.2.map rowT)
theorem row_iff {r : RowT} : okRow r = true ↔ (1 ≤ r.1 ∧ r.1 ≤ 64) ∧ okSpot r.2 = true := by
  unfold okRow
  rw [Bool.and_eq_true, nIn_iff]
theorem rowT_len {r : RowT} (h : okRow r = true) : (rowT r).length ≤ 16 := by
  obtain ⟨h1, h2⟩ := row_iff.1 h
  have l1 := dec_len (k := 1) (u := r.1.toNat) (by omega)
  have l2 := spotT_len h2
  unfold rowT
  rw [List.length_append, List.length_cons]
  omega
theorem rowT_no {r : RowT} (h : okRow r = true) : (10 : UInt8) ∉ rowT r := by
  obtain ⟨h1, h2⟩ := row_iff.1 h
  apply not_of_nat
  intro b hb
  unfold rowT at hb
  show b.toNat ≠ 10
  rcases List.mem_append.1 hb with hb | hb
  · have := dec_mem (k := 1) (by omega) hb
    omega
  · rcases List.mem_cons.1 hb with hb | hb
    · rw [hb]; decide
    · have := spotT_mem h2 hb
      omega
theorem sheet_iff {s : SheetT} : okSheet s = true ↔ (0 ≤ s.1 ∧ s.1 ≤ 11) ∧ okSpot s.2.1 = true ∧ s.2.2.all okRow = true ∧ s.2.2.length ≤ 8 := by
  unfold okSheet
  simp only [Bool.and_eq_true, decide_eq_true_eq, nIn_iff]
  constructor
  · rintro ⟨⟨⟨a, b⟩, c⟩, d⟩; exact ⟨a, b, c, d⟩
  · rintro ⟨a, b, c, d⟩; exact ⟨⟨⟨a, b⟩, c⟩, d⟩
theorem headT_len {s : SheetT} (h : okSheet s = true) : (headT s).length ≤ 30 := by
  obtain ⟨h1, h2, _⟩ := sheet_iff.1 h
  have l1 := dec_len (k := 1) (u := s.1.toNat) (by omega)
  have l2 := spotT_len h2
  unfold headT perfW
  simp only [List.length_append, List.length_cons, List.length_nil]
  omega
theorem headT_no {s : SheetT} (h : okSheet s = true) : (10 : UInt8) ∉ headT s := by
  obtain ⟨h1, h2, _⟩ := sheet_iff.1 h
  apply not_of_nat
  intro b hb
  unfold headT at hb
  show b.toNat ≠ 10
  rcases List.mem_append.1 hb with hb | hb
  · unfold perfW at hb
    simp only [List.mem_cons, List.not_mem_nil, or_false] at hb
    rcases hb with rfl | rfl | rfl | rfl | rfl | rfl | rfl | rfl | rfl <;> decide
  · rcases List.mem_cons.1 hb with hb | hb
    · rw [hb]; decide
    · rcases List.mem_append.1 hb with hb | hb
      · have := dec_mem (k := 1) (by omega) hb
        omega
      · rcases List.mem_cons.1 hb with hb | hb
        · rw [hb]; decide
        · have := spotT_mem h2 hb
          omega
theorem text_loop (s : SheetT) (h : okSheet s = true) : ∀ (d k m : Nat) (t : List UInt8), s.2.2.length - k = d → k ≤ s.2.2.length → d < m → t.length ≤ 100 * (k + 1) →
    F_impl_sheetText_L1 s m (ints t) (k : Int) = some (t ++ joinL ((s.2.2.drop k).map rowT)) := by
  obtain ⟨h1, h2, h3, h4⟩ := sheet_iff.1 h
  intro d
  induction d with
  | zero =>
    intro k m t hd hk hm ht
    have : k = s.2.2.length := by omega
    subst this
    cases m with
    | zero => omega
    | succ m =>
      rw [F_impl_sheetText_L1, if_neg (by simp), ts_bstr, Option.bind_some, List.drop_length]
      simp [joinL]
  | succ d ih =>
    intro k m t hd hk hm ht
    cases m with
    | zero => omega
    | succ m =>
      have hlt : k < s.2.2.length := by omega
      have hr : okRow s.2.2[k] = true := (List.all_eq_true.1 h3) _ (List.getElem_mem hlt)
      obtain ⟨r1, r2⟩ := row_iff.1 hr
      have l1 := dec_len (k := 1) (u := s.2.2[k].1.toNat) (by omega)
      have l2 := spotT_len r2
      rw [F_impl_sheetText_L1, if_pos (by simp; omega), idx_lt hlt, Option.bind_some, impl_SpotText r2, Option.bind_some, itoa_dec (by omega) (by omega), Option.bind_some]
      dsimp only
      rw [n_app (by simp; omega), Option.bind_some, n_app (by simp; omega), Option.bind_some, n_app (by simp; omega), Option.bind_some, ts_bwr (by simp; omega), Option.bind_some, w64_succ (by omega)]
      rw [ih (k + 1) m _ (by omega) (by omega) (by omega) (by simp; omega), List.drop_eq_getElem_cons hlt, List.map_cons, joinL_cons]
      unfold rowT
      simp only [List.append_assoc, List.cons_append, List.nil_append]
theorem impl_SheetText {s : SheetT} (h : okSheet s = true) : F_impl_SheetText s = some (sheetT s, true) := by
  obtain ⟨h1, h2, h3, h4⟩ := sheet_iff.1 h
  have l1 := dec_len (k := 1) (u := s.1.toNat) (by omega)
  have l2 := spotT_len h2
  have hl := headT_len h
  have e : headT s ++ [10] = [112, 101, 114, 102, 111, 114, 109, 101, 114, 32] ++ Lib.decDigits s.1.toNat ++ [32] ++ spotT s.2.1 ++ [10] := by
    unfold headT perfW
    simp only [List.append_assoc, List.cons_append, List.nil_append]
  have hb := ts_bwr (t := []) (u := headT s ++ [10]) (by simp; omega)
  rw [e, List.nil_append] at hb
  unfold F_impl_SheetText F_impl_sheetText
  rw [impl_IsSheet s (by omega), Option.bind_some, h, if_neg (by simp), impl_SpotText h2, Option.bind_some, itoa_dec (by omega) (by omega), Option.bind_some]
  dsimp only
  rw [n_app (by simp; omega), Option.bind_some, n_app (by simp; omega), Option.bind_some, n_app (by simp; omega), Option.bind_some, n_app (by simp; omega), Option.bind_some]
  rw [show ([] : List Int) = ints [] by rfl, hb, Option.bind_some, ← e]
  have := text_loop s h s.2.2.length 0 FU (headT s ++ [10]) rfl (by omega) (FU_gt (by omega)) (by simp; omega)
  rw [show ((0 : Nat) : Int) = 0 by rfl] at this
  rw [this, Option.bind_some]
  unfold sheetT
  rw [joinL_cons, List.drop_zero, List.append_assoc]
  rfl
theorem parse_loop (R : List RowT) (hR : R.all okRow = true) (h8 : R.length ≤ 8) (p : Int) (a : Int × Int) (hp : okSheet (p, a, R) = true) : ∀ (d k m : Nat), R.length - k = d → k ≤ R.length → d < m →
    F_impl_ParseSheet_L1 (R.map rowT) (p, true) (a, true) m (R.take k) (k : Int) = some ((p, a, R), true) := by
  intro d
  induction d with
  | zero =>
    intro k m hd hk hm
    have : k = R.length := by omega
    subst this
    cases m with
    | zero => omega
    | succ m =>
      rw [F_impl_ParseSheet_L1, if_neg (by simp), List.take_length]
      dsimp only
      rw [impl_IsSheet _ (by show R.length < _; omega), Option.bind_some, hp, if_neg (by simp)]
  | succ d ih =>
    intro k m hd hk hm
    cases m with
    | zero => omega
    | succ m =>
      have hlt : k < R.length := by omega
      have hr : okRow R[k] = true := (List.all_eq_true.1 hR) _ (List.getElem_mem hlt)
      obtain ⟨r1, r2⟩ := row_iff.1 hr
      have l1 := dec_len (k := 1) (u := R[k].1.toNat) (by omega)
      have l2 := spotT_len r2
      have hno : (32 : UInt8) ∉ Lib.decDigits R[k].1.toNat := dec_not (k := 1) (by omega) (Or.inl (by decide))
      have hlt2 : k < (R.map rowT).length := by simpa using hlt
      rw [F_impl_ParseSheet_L1, if_pos (by simp; omega), idx_lt hlt2, Option.bind_some, List.getElem_map]
      unfold rowT
      rw [s_cut_at hno (by omega), Option.bind_some]
      dsimp only
      rw [impl_natural _ (by omega), natAns_dec (by omega), Option.bind_some, impl_ParseSpot r2, Option.bind_some]
      unfold jK1
      dsimp only
      rw [if_neg (by simp), if_neg (by simp), if_neg (by simp), n_app (by simp; omega), Option.bind_some, w64_succ (by omega)]
      have e : (((R[k].1.toNat : Int), R[k].2) : RowT) = R[k] := by
        rw [Int.toNat_of_nonneg (by omega)]
      rw [e, show R.take k ++ [R[k]] = R.take (k + 1) by rw [List.take_add_one, List.getElem?_eq_getElem hlt]; rfl]
      exact ih (k + 1) m (by omega) (by omega) (by omega)
theorem impl_ParseSheet {s : SheetT} (h : okSheet s = true) : F_impl_ParseSheet (sheetT s) = some (s, true) := by
  obtain ⟨h1, h2, h3, h4⟩ := sheet_iff.1 h
  have l1 := dec_len (k := 1) (u := s.1.toNat) (by omega)
  have l2 := spotT_len h2
  have hno : (32 : UInt8) ∉ Lib.decDigits s.1.toNat := dec_not (k := 1) (by omega) (Or.inl (by decide))
  have hno2 : (32 : UInt8) ∉ spotT s.2.1 := not_of_nat fun b hb => by
    have := spotT_mem h2 hb
    show b.toNat ≠ 32
    omega
  have hnoL : ∀ a ∈ headT s :: s.2.2.map rowT, (10 : UInt8) ∉ a := by
    intro a ha
    rcases List.mem_cons.1 ha with rfl | ha
    · exact headT_no h
    · obtain ⟨r, hr, rfl⟩ := List.mem_map.1 ha
      exact rowT_no ((List.all_eq_true.1 h3) _ hr)
  have hlen : ∀ a ∈ headT s :: s.2.2.map rowT, a.length ≤ 30 := by
    intro a ha
    rcases List.mem_cons.1 ha with rfl | ha
    · exact headT_len h
    · obtain ⟨r, hr, rfl⟩ := List.mem_map.1 ha
      have := rowT_len ((List.all_eq_true.1 h3) _ hr)
      omega
  have hJ := joinL_len 30 _ hlen
  have hLl : (headT s :: s.2.2.map rowT).length = s.2.2.length + 1 := by simp
  rw [hLl] at hJ
  have hsp : splitB 32 (headT s) = [perfW, Lib.decDigits s.1.toNat, spotT s.2.1] := by
    unfold headT
    rw [splitB_cons (by decide), splitB_cons hno, splitB_none hno2]
  have hl := headT_len h
  unfold F_impl_ParseSheet sheetT jK1
  dsimp only
  rw [impl_linesOf (by simp) hnoL (by omega), Option.bind_some]
  dsimp only
  rw [if_neg (by simp), impl_within, Option.bind_some, hLl, nIn_iff.2 (by omega), if_neg (by simp), idx_zero, List.getElem?_cons_zero, Option.bind_some, s_split _ _ (by omega), Option.bind_some, hsp, if_neg (by simp), idx_zero, List.getElem?_cons_zero, Option.bind_some]
  rw [show (perfW != [112, 101, 114, 102, 111, 114, 109, 101, 114]) = false by decide, if_neg (by simp)]
  rw [show (1 : Int) = ((1 : Nat) : Int) by rfl, idx_nat, List.getElem?_cons_succ, List.getElem?_cons_zero, Option.bind_some, impl_natural _ (by omega), natAns_dec (by omega), Option.bind_some]
  rw [show (2 : Int) = ((2 : Nat) : Int) by rfl, idx_nat, List.getElem?_cons_succ, List.getElem?_cons_succ, List.getElem?_cons_zero, Option.bind_some, impl_ParseSpot h2, Option.bind_some]
  dsimp only
  rw [if_neg (by simp), if_neg (by simp), ← hLl, s_drop _ (by simp), Option.bind_some, List.drop_succ_cons, List.drop_zero]
  have hp : okSheet (((s.1.toNat : Nat) : Int), s.2.1, s.2.2) = true := by
    rw [Int.toNat_of_nonneg h1.1]
    exact h
  have := parse_loop s.2.2 h3 h4 ((s.1.toNat : Nat) : Int) s.2.1 hp s.2.2.length 0 FU rfl (by omega) (FU_gt (by omega))
  rw [show ((0 : Nat) : Int) = 0 by rfl, List.take_zero] at this
  rw [this, Int.toNat_of_nonneg h1.1]
end Go.Proofs.YtejhnpimhjmpdaaGreatDoor
/-
  THE LAW FnTop, PLAIN: it answers true.
-/
set_option linter.unusedSimpArgs false
set_option linter.unusedVariables false
namespace Go.Proofs.YtejhnpimhjmpdaaGreatDoor
open Go
/-! what is published is safe -/
theorem p_Sheet' (u : SheetT) (h : u.2.2.length ≤ 1048576) : F_laws_pSameSheet u u = some true := by
  unfold F_laws_pSameSheet jK1
  dsimp only
  rw [if_neg (by simp), if_neg (by simp [eqv_Spot])]
  exact eqL (F_laws_pSameSheet_L1 u u) u.2.2 (fun u v => some (eqv_Row u v)) (fun _ _ => rfl) (S := anyG) (fun u _ => by simp [eqv_Row]) ⟨h, fun _ _ => trivial⟩
theorem p_Sheets' (x : List SheetT) (hs : x.length ≤ 1048576) (h : ∀ u ∈ x, u.2.2.length ≤ 1048576) : F_laws_pSameSheets x x = some true :=
  eqL (F_laws_pSameSheets_L1 x x) x F_laws_pSameSheet (fun _ _ => rfl) (S := fun u => u.2.2.length ≤ 1048576) (fun u hu => p_Sheet' u hu) ⟨hs, h⟩
theorem chart_back' {x : ShowT} (f : ShowFacts x) {k : Nat} (hk : k < x.1.length) : (List.range (firstLen' x)).map (spotAt x k) = chartAt x k := by
  obtain ⟨c0, hc0, he, _, _⟩ := show_first f
  obtain ⟨c, hc⟩ : ∃ c, x.1[k]? = some c := ⟨_, List.getElem?_eq_getElem hk⟩
  have hl := chart_len f hc hc0
  unfold spotAt
  rw [chartAt_of hc]
  apply List.ext_getElem?
  intro i
  by_cases hi : i < c.length
  · rw [List.getElem?_map, List.getElem?_range (by omega), Option.map_some, List.getElem?_eq_getElem hi]
    rfl
  · rw [List.getElem?_eq_none (by simp; omega), List.getElem?_eq_none (by omega)]
theorem top_fold {α : Type} (g : Nat → List α) : ∀ (l : List Nat) (s : List α), l.foldl (fun s i => s ++ g i) s = s ++ l.flatMap g
  | [], s => by simp
  | a :: l, s => by rw [List.foldl_cons, top_fold g l, List.flatMap_cons, List.append_assoc]
theorem nearV_neg (px py qx qy : Int) : nearV (-px) (-py) (-qx) (-qy) = nearV px py qx qy := by
  have e1 : -qx - -px = -(qx - px) := by omega
  have e2 : -qy - -py = -(qy - py) := by omega
  unfold nearV
  rw [e1, e2]
  simp only [Int.neg_mul_neg]
theorem near_comm (a b : MoveT) : near a b = near b a := by
  unfold near
  rw [show a.1.1 - b.1.1 = -(b.1.1 - a.1.1) by omega, show a.1.2 - b.1.2 = -(b.1.2 - a.1.2) by omega, show a.2.1.1 - b.2.1.1 = -(b.2.1.1 - a.2.1.1) by omega, show a.2.1.2 - b.2.1.2 = -(b.2.1.2 - a.2.1.2) by omega]
  exact nearV_neg _ _ _ _
theorem safe_way {x : ShowT} {p : Nat} (h : safeAt x p = true) : (∀ (i : Nat) (u : MoveT), (movesOf x p)[i]? = some u → withinB u x.2.2.2 = true) ∧
    ∀ (i k : Nat) (u v : MoveT), k < i → (movesOf x p)[i]? = some u → (movesOf x p)[k]? = some v → stay v u x.2.2.1 = true := by
  unfold safeAt at h
  rw [Bool.and_eq_true, List.isEmpty_iff, List.isEmpty_iff] at h
  obtain ⟨hc, hw⟩ := h
  constructor
  · intro i u hi
    have hlt : i < (movesOf x p).length := by
      rcases Nat.lt_or_ge i (movesOf x p).length with h | h
      · exact h
      · rw [List.getElem?_eq_none h] at hi; simp at hi
    unfold widesOf filt at hw
    rw [List.map_eq_nil_iff, List.filter_eq_nil_iff] at hw
    have := hw i (List.mem_range.2 hlt)
    unfold wideAt at this
    rw [hi] at this
    simpa using this
  · intro i k u v hki hi hk
    have hlt : i < (movesOf x p).length := by
      rcases Nat.lt_or_ge i (movesOf x p).length with h | h
      · exact h
      · rw [List.getElem?_eq_none h] at hi; simp at hi
    unfold closeOf at hc
    rw [top_fold, List.nil_append, List.flatMap_eq_nil_iff] at hc
    have := hc k (List.mem_range.2 (by omega))
    unfold closeRow at this
    rw [List.map_eq_nil_iff, List.filter_eq_nil_iff] at this
    have h2 := this i (by rw [List.mem_range'_1]; omega)
    unfold stayAt at h2
    rw [hk, hi] at h2
    simpa using h2
theorem top_keep {x : ShowT} (f : ShowFacts x) {p : Nat} (hp : p < x.2.1.length) (hs : safeAt x p = true) {i k : Nat} {u v : MoveT} (hki : k < i) (hi : (movesOf x p)[i]? = some u) (hk : (movesOf x p)[k]? = some v) :
    x.2.2.1 * x.2.2.1 * (near u v).2 ≤ (near u v).1 := by
  have h := (safe_way hs).2 i k u v hki hi hk
  have hu := moves_good f hp u (List.mem_of_getElem? hi)
  have hv := moves_good f hp v (List.mem_of_getElem? hk)
  have hb := near_bd hu hv
  have l0 := f.le
  have l1 : 0 * 0 ≤ x.2.2.1 * x.2.2.1 := Int.mul_le_mul l0.1 l0.1 (by omega) l0.1
  have l2 : x.2.2.1 * x.2.2.1 ≤ 80 * 80 := Int.mul_le_mul l0.2 l0.2 l0.1 (by omega)
  have l3 : 0 * 0 ≤ x.2.2.1 * x.2.2.1 * (near u v).2 := Int.mul_le_mul (by omega) (by have := hb.2.2.1; omega) (by omega) (by omega)
  have l4 : x.2.2.1 * x.2.2.1 * (near u v).2 ≤ 6400 * 8359936 := Int.mul_le_mul (by omega) hb.2.2.2 (by have := hb.2.2.1; omega) (by omega)
  unfold stay at h
  rw [decide_eq_true_eq, near_comm v u, w64_eq (x := x.2.2.1 * x.2.2.1) (by omega) (by omega), w64_eq (by omega) (by omega)] at h
  exact h
theorem top_w {L q B : Int} (h0 : 0 ≤ L ∧ L ≤ 80) (h1 : 0 ≤ q ∧ q ≤ 10000000) : w64 (w64 (L * L) * q) = L * L * q := by
  have l1 : 0 * 0 ≤ L * L := Int.mul_le_mul h0.1 h0.1 (by omega) h0.1
  have l2 : L * L ≤ 80 * 80 := Int.mul_le_mul h0.2 h0.2 h0.1 (by omega)
  have l3 : 0 * 0 ≤ L * L * q := Int.mul_le_mul (by omega) h1.1 (by omega) (by omega)
  have l4 : L * L * q ≤ 6400 * 10000000 := Int.mul_le_mul (by omega) h1.2 h1.1 (by omega)
  rw [w64_eq (x := L * L) (by omega) (by omega), w64_eq (by omega) (by omega)]
theorem moves_cnt {x : ShowT} {p : Nat} {u : MoveT} (h : u ∈ movesOf x p) : u.2.2 = countsAt x p := by
  unfold movesOf at h
  obtain ⟨i, _, rfl⟩ := List.mem_map.1 h
  rfl
/-- Two on their way, at every count. -/
theorem top_counts {x : ShowT} (f : ShowFacts x) {p : Nat} (hp : p < x.2.1.length) (hs : safeAt x p = true) {i k : Nat} {u v : MoveT} (hki : k < i) (hi : (movesOf x p)[i]? = some u) (hk : (movesOf x p)[k]? = some v) (nx : Int → Option Bool) :
    F_laws_FnTop_L4 u (movesOf x p, true) (k : Int) x nx FU 0 = nx (w64 ((k : Int) + 1)) := by
  have hu := moves_good f hp u (List.mem_of_getElem? hi)
  have hv := moves_good f hp v (List.mem_of_getElem? hk)
  have hc := moves_count f hp (List.mem_of_getElem? hi)
  have e : u.2.2 = v.2.2 := by rw [moves_cnt (List.mem_of_getElem? hi), moves_cnt (List.mem_of_getElem? hk)]
  have hL := top_keep f hp hs hki hi hk
  rw [loopR (F_laws_FnTop_L4 u (movesOf x p, true) (k : Int) x nx) (u.2.2.toNat + 1) (fun _ => true) (nx (w64 ((k : Int) + 1))) none (by omega) (fun m c hcl => ?_) (fun m => ?_)]
  · simp
  · have hk2 : 0 ≤ (c : Int) ∧ (c : Int) ≤ u.2.2 := by omega
    obtain ⟨h1, s0, s1, n0, n1⟩ := impl_ApartAt (k := (c : Int)) hu hv hc e hk2
    have hw := way_keep hu hv hc e hk2 hL
    have hb := low_bd s0 s1 n0 (by omega)
    rw [F_laws_FnTop_L4, if_pos (by simp; omega), idx_nat]
    dsimp only
    rw [hk, Option.bind_some, h1, Option.bind_some]
    unfold jK1
    dsimp only
    rw [top_w (B := 0) f.le (by omega), if_neg (by simp), if_neg (by simp; omega), if_neg (by simp; omega), w64_succ (by omega), if_pos rfl]
  · rw [F_laws_FnTop_L4, if_neg (by simp; omega)]
/-- Each of one part. -/
theorem top_pairs {x : ShowT} (f : ShowFacts x) {p : Nat} (hp : p < x.2.1.length) (hs : safeAt x p = true) {i : Nat} {u : MoveT} (hi : (movesOf x p)[i]? = some u) (hlt : i < (movesOf x p).length) (h12 : (movesOf x p).length ≤ 12) (nx : Int → Option Bool) :
    F_laws_FnTop_L3 ((movesOf x p).take i) (movesOf x p, true) u x nx (i : Int) FU 0 = nx (w64 ((i : Int) + 1)) := by
  have hu := moves_good f hp u (List.mem_of_getElem? hi)
  have hc := moves_count f hp (List.mem_of_getElem? hi)
  have hl : ((movesOf x p).take i).length = i := by rw [List.length_take]; omega
  rw [loopR (F_laws_FnTop_L3 ((movesOf x p).take i) (movesOf x p, true) u x nx (i : Int)) i (fun _ => true) (nx (w64 ((i : Int) + 1))) none (by omega) (fun m k hk => ?_) (fun m => ?_)]
  · simp
  · obtain ⟨v, hv⟩ : ∃ v, (movesOf x p)[k]? = some v := ⟨_, List.getElem?_eq_getElem (by omega)⟩
    have hgv := moves_good f hp v (List.mem_of_getElem? hv)
    have e : u.2.2 = v.2.2 := by rw [moves_cnt (List.mem_of_getElem? hi), moves_cnt (List.mem_of_getElem? hv)]
    have hL := top_keep f hp hs hk hi hv
    have hb := near_bd hu hgv
    have hb1 := hb.2.2.1
    have hb2 := hb.2.2.2
    rw [F_laws_FnTop_L3, if_pos (by rw [hl]; simp; omega), idx_nat]
    dsimp only
    rw [hv, Option.bind_some, impl_LeastApart hu hgv hc e, Option.bind_some]
    unfold jK1
    dsimp only
    rw [top_w (B := 0) f.le (by omega), if_neg (by simp), if_neg (by simp; omega), if_neg (by simp; omega), top_counts f hp hs hk hi hv, w64_succ (by omega), if_pos rfl]
  · rw [F_laws_FnTop_L3, if_neg (by rw [hl]; simp)]
theorem top_part {x : ShowT} (f : ShowFacts x) {p : Nat} (hp : p < x.2.1.length) (hs : safeAt x p = true) (h12 : (movesOf x p).length ≤ 12) (nx : Int → Option Bool) :
    F_laws_FnTop_L2 (movesOf x p, true) x nx (p : Int) FU 0 = nx (w64 ((p : Int) + 1)) := by
  rw [loopR (F_laws_FnTop_L2 (movesOf x p, true) x nx (p : Int)) (movesOf x p).length (fun _ => true) (nx (w64 ((p : Int) + 1))) none (by omega) (fun m i hi => ?_) (fun m => ?_)]
  · simp
  · obtain ⟨u, hu⟩ : ∃ v, (movesOf x p)[i]? = some v := ⟨_, List.getElem?_eq_getElem (by omega)⟩
    have hg := moves_good f hp u (List.mem_of_getElem? hu)
    have hc := moves_count f hp (List.mem_of_getElem? hu)
    rw [F_laws_FnTop_L2, if_pos (by simp; omega), idx_nat]
    dsimp only
    rw [hu, Option.bind_some, impl_WithinStep hg hc f.st, Option.bind_some, (safe_way hs).1 i u hu]
    unfold jK1
    dsimp only
    rw [if_neg (by simp), if_neg (by simp), s_take _ (by omega), Option.bind_some, top_pairs f hp hs hu hi h12, w64_succ (by omega), if_pos rfl]
  · rw [F_laws_FnTop_L2, if_neg (by simp)]
/-- The march to its end. -/
theorem top_march {x : ShowT} (h : okShow x = true) (hl : lensOk x) :
    F_laws_FnTop_L7 (sumW x.2.1, true) x FU x.1 x.2.1 x.2.2.1 x.2.2.2 0 [] (List.replicate (firstLen x) 0) 0 = some true := by
  have f := facts h
  have n1 := f.n1
  have n0 := f.n0
  have nc := f.nc
  obtain ⟨s1, s2⟩ := sumW_eq x.2.1 f.cn (by omega)
  have hsum : ∀ l : List Int, (∀ u ∈ l, 1 ≤ u ∧ u ≤ 64) → l.sum ≤ 64 * l.length := by
    intro l
    induction l with
    | nil => intro _; simp
    | cons a l ih =>
      intro hl
      have := ih fun u hu => hl u (by simp [hu])
      have := (hl a (by simp)).2
      rw [List.sum_cons, List.length_cons]
      omega
  have s3 := hsum x.2.1 f.cn
  obtain ⟨n, hn⟩ : ∃ n : Nat, sumW x.2.1 = (n : Int) := ⟨(sumW x.2.1).toNat, by omega⟩
  have hfl : firstLen' x ≤ 12 := by obtain ⟨_, _, _, _, h12⟩ := show_first f; exact h12
  have hmain := (loopS (fun m (s : MarchT) y => F_laws_FnTop_L7 (sumW x.2.1, true) x m s.1.1 s.1.2.1 s.1.2.2.1 s.1.2.2.2 s.2.1 s.2.2.1 s.2.2.2 y) n (fun k _ => onM x ((k : Int) + 1)) (fun _ => some true) (by omega)
    (fun k s => s = onM x (k : Int)) (onM x 0) rfl (fun k s hk hs => rfl) (fun m k s hk hs => ?_) (fun m s hs => ?_)).1
  · exact hmain
  · subst hs
    have hb := impl_BeatOnce (onM x (k : Int)) (on_lens h hl _) (by unfold onM; simp) (by unfold onM; rw [List.length_replicate, first_eq]; omega)
    rw [on_beat h (by omega) (by omega)] at hb
    show F_laws_FnTop_L7 (sumW x.2.1, true) x (m + 1) x.1 x.2.1 x.2.2.1 x.2.2.2 (k : Int) [] (List.replicate (firstLen x) 0) (k : Int) = _
    rw [F_laws_FnTop_L7, if_pos (by simp; omega)]
    show (Option.bind (F_impl_BeatOnce (onM x (k : Int))) _) = _
    rw [hb, Option.bind_some]
    dsimp only
    rw [if_neg (by simp), w64_succ (by omega)]
  · subst hs
    have hpl := impl_PlacesNow (onM x (n : Int)) (on_lens h hl _)
    have hgo := impl_StillGoing (onM x (n : Int)) (on_lens h hl _)
    rw [on_places h hl (by omega) (by omega) (by omega)] at hpl
    rw [on_going h hl (by omega) (by omega) (by omega)] at hgo
    obtain ⟨c, hc⟩ : ∃ c, x.1[x.2.1.length]? = some c := ⟨_, List.getElem?_eq_getElem (by omega)⟩
    show F_laws_FnTop_L7 (sumW x.2.1, true) x (m + 1) x.1 x.2.1 x.2.2.1 x.2.2.2 (n : Int) [] (List.replicate (firstLen x) 0) (n : Int) = _
    rw [F_laws_FnTop_L7, if_neg (by simp; omega)]
    show (Option.bind (F_impl_PlacesNow (onM x (n : Int))) fun u => Option.bind (F_impl_StillGoing (onM x (n : Int))) _) = _
    rw [hpl, Option.bind_some, hgo, Option.bind_some]
    unfold jK1
    dsimp only
    rw [if_pos rfl, if_pos rfl, if_pos (by simp), w64_eq (by omega) (by omega), show ((x.1.length : Int) - 1) = ((x.2.1.length : Nat) : Int) by omega, idx_nat, hc, Option.bind_some, chart_back' f (by omega), chartAt_of hc]
    have hcl := f.cl c (List.mem_of_getElem? hc)
    rw [p_Spots _ (by omega), Option.bind_some]
/-- The sheets. -/
theorem top_sheets {x : ShowT} (h : okShow x = true) (hl : lensOk x) : F_laws_FnTop_L5 (sheetsOf x, true) x (sheetsOf x, true) FU 0 = some true := by
  have f := facts h
  have n1 := f.n1
  have n0 := f.n0
  have nc := f.nc
  obtain ⟨c0, hc0, he, h1, h12⟩ := show_first f
  have hsl : (sheetsOf x).length = firstLen' x := by unfold sheetsOf; simp
  rw [loopR (F_laws_FnTop_L5 (sheetsOf x, true) x (sheetsOf x, true)) (firstLen' x) (fun _ => true) (some true) none (by omega) (fun m i hi => ?_) (fun m => ?_)]
  · simp
  · have hg : (sheetsOf x)[i]? = some (sheetOf x i) := by
      unfold sheetsOf
      rw [List.getElem?_map, List.getElem?_range hi]
      rfl
    have hok := sheet_ok f hi
    have hrl : (sheetOf x i).2.2.length = x.2.1.length := by unfold sheetOf rowsOf; simp
    rw [F_laws_FnTop_L5, if_pos (by simp; omega), idx_nat]
    dsimp only
    rw [hg, Option.bind_some, if_pos rfl]
    have hmain := (loopS (fun m' (s : Int) y => F_laws_FnTop_L6 x (sheetOf x i) (i : Int) (F_laws_FnTop_L5 (sheetsOf x, true) x (sheetsOf x, true) m) (sheetsOf x, true) m' s y) x.2.1.length (fun k _ => (x.2.1.take (k + 1)).sum)
      (fun _ => F_laws_FnTop_L5 (sheetsOf x, true) x (sheetsOf x, true) m ((i + 1 : Nat) : Int)) (by omega) (fun k s => s = (x.2.1.take k).sum) 0 (by simp) (fun k s hk hs => rfl) (fun m' k s hk hs => ?_) (fun m' s hs => ?_)).1
    · exact hmain
    · subst hs
      have ecnt : x.2.1[k]? = some x.2.1[k] := List.getElem?_eq_getElem hk
      have et : (x.2.1.take (k + 1)).sum = (x.2.1.take k).sum + x.2.1[k] := by
        rw [List.take_add_one, ecnt, List.sum_append]
        simp
      have hb : ∀ q, 0 ≤ (x.2.1.take q).sum ∧ (x.2.1.take q).sum ≤ 1000 := by
        intro q
        have hs' : ∀ l : List Int, (∀ u ∈ l, 1 ≤ u ∧ u ≤ 64) → 0 ≤ l.sum ∧ l.sum ≤ 64 * l.length := by
          intro l
          induction l with
          | nil => intro _; simp
          | cons a l ih =>
            intro hl
            have := ih fun u hu => hl u (by simp [hu])
            have := hl a (by simp)
            rw [List.sum_cons, List.length_cons]
            omega
        have := hs' (x.2.1.take q) fun u hu => f.cn u (List.mem_of_mem_take hu)
        have hlen : (x.2.1.take q).length ≤ 7 := by rw [List.length_take]; omega
        omega
      have hbk := hb (k + 1)
      have hsp := spot_at f hi hk
      obtain ⟨d, hd⟩ : ∃ c, x.1[k + 1]? = some c := ⟨_, List.getElem?_eq_getElem (by omega)⟩
      have hdl := chart_len f hd hc0
      obtain ⟨w, hw⟩ : ∃ s, d[i]? = some s := ⟨_, List.getElem?_eq_getElem (by omega)⟩
      have hwe : spotAt x (k + 1) i = w := by unfold spotAt; rw [chartAt_of hd, hw]; rfl
      try dsimp only
      rw [F_laws_FnTop_L6, if_pos (by simp; omega), idx_nat, ecnt, Option.bind_some, w64_eq (x := (x.2.1.take k).sum + x.2.1[k]) (by omega) (by omega), ← et, impl_SpotAfter _ _ (by rw [hrl]; omega) (by omega), Option.bind_some, hsp]
      unfold jK1
      dsimp only
      rw [if_neg (by simp), w64_succ (by omega), idx_nat, hd, Option.bind_some, idx_nat, hw, Option.bind_some, hwe, if_neg (by simp [eqv_Spot])]
    · subst hs
      try dsimp only
      rw [F_laws_FnTop_L6, if_neg (by simp), impl_SheetText hok, Option.bind_some]
      dsimp only
      rw [impl_ParseSheet hok, Option.bind_some]
      unfold jK1
      dsimp only
      rw [if_neg (by simp), if_neg (by simp), idx_nat, hg, Option.bind_some, p_Sheet' _ (by rw [hrl]; omega), Option.bind_some, if_neg (by simp), w64_succ (by omega)]
  · rw [F_laws_FnTop_L5, if_neg (by simp; omega), impl_NewMarch x hl, Option.bind_some, impl_TotalCounts x hl, Option.bind_some]
    have e1 : newAns x = ((x, 0, [], List.replicate (firstLen x) 0), true) := by unfold newAns; rw [h]; rfl
    have e2 : totalAns x = (sumW x.2.1, true) := by unfold totalAns; rw [h]; rfl
    rw [e1, e2]
    unfold jK1
    dsimp only
    rw [if_neg (by simp), if_neg (by simp), p_Sum _ (by omega), Option.bind_some]
    show (if (sumW x.2.1 != sumW x.2.1) = true then _ else _) = _
    rw [if_neg (by simp)]
    exact top_march h hl
theorem P_laws_FnTop (x0 x1 : List Int) (g0 : (allG inU8) x0) (g1 : (allG inU8) x1) : F_laws_FnTop x0 x1 = some true := by
  refine Tot.of ?_
  unfold F_laws_FnTop
  refine big_tot _ _ fun b => Tot.ite (fun _ => Tot.some rfl) fun _ => ?_
  refine Tot.bind (draw_IsShow x0 (Cu.begin g0)) fun x hx => ?_
  have lx := hx.lens
  refine Tot.bindE (impl_PublishSheets _ lx) (Tot.bindE (spec_PublishSheets _ lx) ?_)
  have ss : (pubAns x).1.length ≤ 1048576 ∧ ∀ u ∈ (pubAns x).1, u.2.2.length ≤ 1048576 := by
    unfold pubAns
    cases hs : okShow x with
    | false => simp
    | true =>
      have f := facts hs
      obtain ⟨c, hc, hl, _, h12⟩ := show_first f
      have n1 := f.n1
      have nc := f.nc
      rw [Bool.true_and]
      split
      · refine ⟨by simp [sheetsOf]; omega, fun u hu => ?_⟩
        obtain ⟨i, _, rfl⟩ := List.mem_map.1 hu
        simp [sheetOf, rowsOf]
        omega
      · simp
  refine Tot.j1 (fun y => y = false) (fun y hy => ?_) fun k hk => ?_
  rotate_left
  · rw [if_neg (by simp)]
    refine Tot.bindE (p_Sheets' _ ss.1 ss.2) ?_
    exact hk _ (by simp)
  subst hy
  simp only [Bool.false_eq_true, if_false]
  refine Tot.ite (fun _ => Tot.some rfl) fun hok => ?_
  have hok2 : (pubAns x).2 = true := by simpa using hok
  unfold pubAns at hok2 ⊢
  have hc : (okShow x && decide ((unsafs x).length = 0)) = true := by
    cases hc : (okShow x && decide ((unsafs x).length = 0)) with
    | true => rfl
    | false => rw [hc] at hok2; simp at hok2
  rw [if_pos hc]
  rw [Bool.and_eq_true, decide_eq_true_eq] at hc
  obtain ⟨ho, hu⟩ := hc
  have f := facts ho
  have nc := f.nc
  have n1 := f.n1
  have hsafe : ∀ k, k < x.2.1.length → safeAt x k = true := by
    unfold unsafs filt at hu
    rw [List.length_map, List.length_eq_zero_iff, List.filter_eq_nil_iff] at hu
    intro k hk
    have := hu k (List.mem_range.2 hk)
    simpa using this
  refine ⟨true, ?_, rfl⟩
  rw [loopR (F_laws_FnTop_L1 x (sheetsOf x, true) (sheetsOf x, true)) x.2.1.length (fun _ => true) (some true) none (by omega) (fun m p hp => ?_) (fun m => ?_)]
  · simp
  · have hop : okPart x (p : Int) = true := by unfold okPart; rw [ho, Bool.true_and, okIn_iff]; omega
    have e1 : movesAns x (p : Int) = (movesOf x p, true) := by unfold movesAns; rw [hop, Int.toNat_natCast]; rfl
    have hml := moves_len x f p hp
    rw [F_laws_FnTop_L1, if_pos (by simp; omega), impl_ShowMoves x _ lx, Option.bind_some, spec_ShowMoves x _ lx, Option.bind_some, e1]
    unfold jK1
    dsimp only
    rw [if_neg (by simp), if_neg (by simp), p_Moves _ (by omega), Option.bind_some, if_neg (by simp), top_part f hp (hsafe p hp) (by omega), w64_succ (by omega), if_pos rfl]
  · rw [F_laws_FnTop_L1, if_neg (by simp)]
    exact top_sheets ho lx
end Go.Proofs.YtejhnpimhjmpdaaGreatDoor
