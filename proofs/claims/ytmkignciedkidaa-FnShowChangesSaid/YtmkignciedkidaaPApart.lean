/-
  HOW NEAR TWO MOVES COME, PLAIN.
-/
import Derived.Test.YtmkignciedkidaaPPart
set_option linter.unusedSimpArgs false
set_option linter.unusedVariables false
namespace Go.Proofs.Ytmkignciedkidaa
open Go
theorem mulB {x y A B : Int} (h1 : -A ≤ x) (h2 : x ≤ A) (h3 : -B ≤ y) (h4 : y ≤ B) : -(A * B) ≤ x * y ∧ x * y ≤ A * B := by
  have h : (x * y).natAbs ≤ A.toNat * B.toNat := by rw [Int.natAbs_mul]; exact Nat.mul_le_mul (by omega) (by omega)
  have e : ((A.toNat * B.toNat : Nat) : Int) = A * B := by
    rw [Int.natCast_mul, Int.toNat_of_nonneg (by omega), Int.toNat_of_nonneg (by omega)]
  omega
/-- A fraction in lowest terms. -/
def low (a b : Int) : Int × Int := (w64 (Int.tdiv a (Nat.gcd a.toNat b.toNat : Int)), w64 (Int.tdiv b (Nat.gcd a.toNat b.toNat : Int)))
theorem gcd_loop : ∀ (y x m : Nat), y < m → F_impl_gcdOf_L1 m (x : Int) (y : Int) = some ((Nat.gcd x y : Nat) : Int) := by
  intro y
  induction y using Nat.strongRecOn with
  | _ y ih =>
    intro x m hm
    cases m with
    | zero => omega
    | succ m =>
      rw [F_impl_gcdOf_L1]
      by_cases h : y = 0
      · subst h
        simp
      · have hy : ((y : Int) != 0) = true := by simp; omega
        have hy' : ¬ (y : Int) = 0 := by omega
        rw [if_pos hy, if_neg hy', ← Int.ofNat_tmod, ih (x % y) (Nat.mod_lt _ (by omega)) y m (by have := Nat.mod_lt x (show 0 < y by omega); omega)]
        congr 2
        rw [Nat.gcd_comm x y, Nat.gcd_rec y x]
        exact Nat.gcd_comm _ _
theorem part_loop (a b : Int) : ∀ (y x m : Nat), y < m → 0 < Nat.gcd x y → F_spec_mvPart_L1 a b m (x : Int) (y : Int) = some (w64 (Int.tdiv a (Nat.gcd x y : Int)), w64 (Int.tdiv b (Nat.gcd x y : Int))) := by
  intro y
  induction y using Nat.strongRecOn with
  | _ y ih =>
    intro x m hm hg
    cases m with
    | zero => omega
    | succ m =>
      rw [F_spec_mvPart_L1]
      by_cases h : y = 0
      · subst h
        have hx : ¬ x = 0 := by simp at hg; omega
        simp [hx]
      · have hy : decide (0 < (y : Int)) = true := by simp; omega
        have hy' : ¬ (y : Int) = 0 := by omega
        have e : Nat.gcd x y = Nat.gcd y (x % y) := by rw [Nat.gcd_comm x y, Nat.gcd_rec y x]; exact Nat.gcd_comm _ _
        rw [if_pos hy, if_neg hy', ← Int.ofNat_tmod, ih (x % y) (Nat.mod_lt _ (by omega)) y m (by have := Nat.mod_lt x (show 0 < y by omega); omega) (by rw [← e]; exact hg), e]
theorem impl_lowestTerms (a b : Int) (ha : 0 ≤ a) (ha2 : a ≤ 1000000000000000) (hb : 0 < b) (hb2 : b ≤ 1000000000000000) : F_impl_lowestTerms a b = some (low a b) := by
  unfold F_impl_lowestTerms F_impl_gcdOf low
  have e1 : maxI a (w64 (0 - a)) = ((a.toNat : Nat) : Int) := by unfold maxI; rw [w64_eq (by omega) (by omega)]; split <;> omega
  have e2 : maxI b (w64 (0 - b)) = ((b.toNat : Nat) : Int) := by unfold maxI; rw [w64_eq (by omega) (by omega)]; split <;> omega
  rw [e1, e2, gcd_loop b.toNat a.toNat FU (FU_gt (by omega)), Option.bind_some]
  have hg : 0 < Nat.gcd a.toNat b.toNat := Nat.gcd_pos_of_pos_right _ (by omega)
  have hg' : ¬ ((Nat.gcd a.toNat b.toNat : Nat) : Int) = 0 := by omega
  rw [if_neg hg', if_neg hg']
theorem spec_mvPart (a b : Int) (ha : 0 ≤ a) (ha2 : a ≤ 1000000000000000) (hb : 0 < b) (hb2 : b ≤ 1000000000000000) : F_spec_mvPart a b = some (low a b) := by
  unfold F_spec_mvPart F_spec_l1Abs F_spec_l1Most low
  have e1 : (if decide (w64 (0 - a) < a) = true then some a else some (w64 (0 - a))) = some ((a.toNat : Nat) : Int) := by
    rw [w64_eq (by omega) (by omega)]
    by_cases h : 0 - a < a
    · rw [if_pos (by simp; omega)]; congr 1; omega
    · rw [if_neg (by simp; omega)]; congr 1; omega
  have e2 : b = ((b.toNat : Nat) : Int) := by omega
  rw [e1, Option.bind_some, Option.bind_some]
  have hg : 0 < Nat.gcd a.toNat b.toNat := Nat.gcd_pos_of_pos_right _ (by omega)
  have := part_loop a b b.toNat a.toNat FU (FU_gt (by omega)) hg
  rw [← e2] at this
  exact this
/-- The least square of a way from p to q and where it is. -/
def nearV (px py qx qy : Int) : Int × Int :=
  if 0 ≤ px * (qx - px) + py * (qy - py) then (px * px + py * py, 1)
  else if (qx - px) * (qx - px) + (qy - py) * (qy - py) ≤ 0 - (px * (qx - px) + py * (qy - py)) then (qx * qx + qy * qy, 1)
  else low ((px * qy - py * qx) * (px * qy - py * qx)) ((qx - px) * (qx - px) + (qy - py) * (qy - py))
def near (a b : MoveT) : Int × Int := nearV (a.1.1 - b.1.1) (a.1.2 - b.1.2) (a.2.1.1 - b.2.1.1) (a.2.1.2 - b.2.1.2)
structure InB (px py qx qy : Int) : Prop where
  a1 : -1280 ≤ px
  a2 : px ≤ 1280
  b1 : -672 ≤ py
  b2 : py ≤ 672
  c1 : -1280 ≤ qx
  c2 : qx ≤ 1280
  d1 : -672 ≤ qy
  d2 : qy ≤ 672
theorem sqB {x A : Int} (h1 : -A ≤ x) (h2 : x ≤ A) : 0 ≤ x * x ∧ x * x ≤ A * A := by
  have := mulB h1 h2 h1 h2
  refine ⟨?_, this.2⟩
  have : (0 : Int) ≤ ((x.natAbs * x.natAbs : Nat) : Int) := Int.natCast_nonneg _
  rwa [Int.natAbs_mul_self] at this
structure NearB (px py qx qy : Int) : Prop where
  m1 : -3276800 ≤ px * (qx - px) ∧ px * (qx - px) ≤ 3276800
  m2 : -903168 ≤ py * (qy - py) ∧ py * (qy - py) ≤ 903168
  m3 : 0 ≤ (qx - px) * (qx - px) ∧ (qx - px) * (qx - px) ≤ 6553600
  m4 : 0 ≤ (qy - py) * (qy - py) ∧ (qy - py) * (qy - py) ≤ 1806336
  m5 : 0 ≤ px * px ∧ px * px ≤ 1638400
  m6 : 0 ≤ py * py ∧ py * py ≤ 451584
  m7 : 0 ≤ qx * qx ∧ qx * qx ≤ 1638400
  m8 : 0 ≤ qy * qy ∧ qy * qy ≤ 451584
  m9 : -860160 ≤ px * qy ∧ px * qy ≤ 860160
  m10 : -860160 ≤ py * qx ∧ py * qx ≤ 860160
  m11 : 0 ≤ (px * qy - py * qx) * (px * qy - py * qx) ∧ (px * qy - py * qx) * (px * qy - py * qx) ≤ 2959500902400
theorem nearB {px py qx qy : Int} (h : InB px py qx qy) : NearB px py qx qy := by
  obtain ⟨a1, a2, b1, b2, c1, c2, d1, d2⟩ := h
  have m9 := mulB a1 a2 d1 d2
  have m10 := mulB b1 b2 c1 c2
  have m11 := sqB (x := px * qy - py * qx) (A := 1720320) (by omega) (by omega)
  exact ⟨mulB (A := 1280) (B := 2560) a1 a2 (by omega) (by omega), mulB (A := 672) (B := 1344) b1 b2 (by omega) (by omega), sqB (A := 2560) (by omega) (by omega), sqB (A := 1344) (by omega) (by omega), sqB a1 a2, sqB b1 b2, sqB c1 c2, sqB d1 d2, by omega, by omega, by omega⟩
theorem inB {a b : MoveT} (ha : okSpot a.1 = true) (ha2 : okSpot a.2.1 = true) (hb : okSpot b.1 = true) (hb2 : okSpot b.2.1 = true) : InB (a.1.1 - b.1.1) (a.1.2 - b.1.2) (a.2.1.1 - b.2.1.1) (a.2.1.2 - b.2.1.2) := by
  unfold okSpot at ha ha2 hb hb2
  rw [Bool.and_eq_true, okIn_iff, okIn_iff] at ha ha2 hb hb2
  refine ⟨by omega, by omega, by omega, by omega, by omega, by omega, by omega, by omega⟩
theorem impl_leastApart (a b : MoveT) (ha : okSpot a.1 = true) (ha2 : okSpot a.2.1 = true) (hb : okSpot b.1 = true) (hb2 : okSpot b.2.1 = true) : F_impl_leastApart a b = some (near a b) := by
  have hI := inB ha ha2 hb hb2
  unfold F_impl_leastApart F_impl_between F_impl_squareOf near
  generalize a.1.1 - b.1.1 = px at *
  generalize a.1.2 - b.1.2 = py at *
  generalize a.2.1.1 - b.2.1.1 = qx at *
  generalize a.2.1.2 - b.2.1.2 = qy at *
  obtain ⟨m1, m2, m3, m4, m5, m6, m7, m8, m9, m10, m11⟩ := nearB hI
  obtain ⟨a1, a2, b1, b2, c1, c2, d1, d2⟩ := hI
  have k : (px * (qy - py) - py * (qx - px)) = px * qy - py * qx := by
    rw [Int.mul_sub, Int.mul_sub, Int.mul_comm px py]; omega
  have kb1 := mulB (x := px) (y := qy - py) (A := 1280) (B := 1344) a1 a2 (by omega) (by omega)
  have kb2 := mulB (x := py) (y := qx - px) (A := 672) (B := 2560) b1 b2 (by omega) (by omega)
  simp only [Option.bind_some, w64_eq (x := px) (by omega) (by omega), w64_eq (x := py) (by omega) (by omega), w64_eq (x := qx) (by omega) (by omega), w64_eq (x := qy) (by omega) (by omega),
    w64_eq (x := qx - px) (by omega) (by omega), w64_eq (x := qy - py) (by omega) (by omega), w64_eq (x := px * (qx - px)) (by omega) (by omega), w64_eq (x := py * (qy - py)) (by omega) (by omega),
    w64_eq (x := px * (qx - px) + py * (qy - py)) (by omega) (by omega), w64_eq (x := 0 - (px * (qx - px) + py * (qy - py))) (by omega) (by omega),
    w64_eq (x := (qx - px) * (qx - px)) (by omega) (by omega), w64_eq (x := (qy - py) * (qy - py)) (by omega) (by omega), w64_eq (x := (qx - px) * (qx - px) + (qy - py) * (qy - py)) (by omega) (by omega),
    w64_eq (x := px * px) (by omega) (by omega), w64_eq (x := py * py) (by omega) (by omega), w64_eq (x := px * px + py * py) (by omega) (by omega),
    w64_eq (x := qx * qx) (by omega) (by omega), w64_eq (x := qy * qy) (by omega) (by omega), w64_eq (x := qx * qx + qy * qy) (by omega) (by omega),
    w64_eq (x := px * (qy - py)) (by omega) (by omega), w64_eq (x := py * (qx - px)) (by omega) (by omega), k, w64_eq (x := px * qy - py * qx) (by omega) (by omega), w64_eq (x := (px * qy - py * qx) * (px * qy - py * qx)) (by omega) (by omega)]
  unfold nearV
  by_cases h1 : 0 ≤ px * (qx - px) + py * (qy - py)
  · rw [if_pos (by simpa using h1), if_pos h1]
  · rw [if_neg (by simpa using h1), if_neg h1]
    by_cases h2 : (qx - px) * (qx - px) + (qy - py) * (qy - py) ≤ 0 - (px * (qx - px) + py * (qy - py))
    · rw [if_pos (by simpa using h2), if_pos h2]
    · rw [if_neg (by simpa using h2), if_neg h2, impl_lowestTerms _ _ (by omega) (by omega) (by omega) (by omega)]
      rfl
theorem spec_apLeast (a b : MoveT) (ha : okSpot a.1 = true) (ha2 : okSpot a.2.1 = true) (hb : okSpot b.1 = true) (hb2 : okSpot b.2.1 = true) : F_spec_apLeast a b = some (near a b) := by
  have hI := inB ha ha2 hb hb2
  unfold F_spec_apLeast F_spec_apInner F_spec_apEnds near jK1
  generalize a.1.1 - b.1.1 = px at *
  generalize a.1.2 - b.1.2 = py at *
  generalize a.2.1.1 - b.2.1.1 = qx at *
  generalize a.2.1.2 - b.2.1.2 = qy at *
  obtain ⟨m1, m2, m3, m4, m5, m6, m7, m8, m9, m10, m11⟩ := nearB hI
  obtain ⟨a1, a2, b1, b2, c1, c2, d1, d2⟩ := hI
  simp only [Option.bind_some, w64_eq (x := px) (by omega) (by omega), w64_eq (x := py) (by omega) (by omega), w64_eq (x := qx) (by omega) (by omega), w64_eq (x := qy) (by omega) (by omega),
    w64_eq (x := qx - px) (by omega) (by omega), w64_eq (x := qy - py) (by omega) (by omega), w64_eq (x := px * (qx - px)) (by omega) (by omega), w64_eq (x := py * (qy - py)) (by omega) (by omega),
    w64_eq (x := px * (qx - px) + py * (qy - py)) (by omega) (by omega), w64_eq (x := 0 - (px * (qx - px) + py * (qy - py))) (by omega) (by omega),
    w64_eq (x := (qx - px) * (qx - px)) (by omega) (by omega), w64_eq (x := (qy - py) * (qy - py)) (by omega) (by omega), w64_eq (x := (qx - px) * (qx - px) + (qy - py) * (qy - py)) (by omega) (by omega),
    w64_eq (x := px * px) (by omega) (by omega), w64_eq (x := py * py) (by omega) (by omega), w64_eq (x := px * px + py * py) (by omega) (by omega),
    w64_eq (x := qx * qx) (by omega) (by omega), w64_eq (x := qy * qy) (by omega) (by omega), w64_eq (x := qx * qx + qy * qy) (by omega) (by omega),
    w64_eq (x := px * qy) (by omega) (by omega), w64_eq (x := py * qx) (by omega) (by omega), w64_eq (x := px * qy - py * qx) (by omega) (by omega), w64_eq (x := (px * qy - py * qx) * (px * qy - py * qx)) (by omega) (by omega)]
  have q1 : qx * qx = px * px + 2 * (px * (qx - px)) + (qx - px) * (qx - px) := by
    have : qx * qx = (px + (qx - px)) * (px + (qx - px)) := by rw [show px + (qx - px) = qx by omega]
    rw [this, Int.add_mul, Int.mul_add, Int.mul_add, Int.mul_comm (qx - px) px]; omega
  have q2 : qy * qy = py * py + 2 * (py * (qy - py)) + (qy - py) * (qy - py) := by
    have : qy * qy = (py + (qy - py)) * (py + (qy - py)) := by rw [show py + (qy - py) = qy by omega]
    rw [this, Int.add_mul, Int.mul_add, Int.mul_add, Int.mul_comm (qy - py) py]; omega
  unfold nearV F_spec_l1Least
  generalize hd : px * (qx - px) + py * (qy - py) = dot at *
  generalize hz : (qx - px) * (qx - px) + (qy - py) * (qy - py) = size at *
  by_cases h1 : 0 ≤ dot
  · have h1' : 0 - dot ≤ 0 := by omega
    rw [if_pos h1]
    simp only [h1', decide_true, if_true, Option.bind_some]
    rw [if_neg (by simp)]
    by_cases h3 : px * px + py * py < qx * qx + qy * qy
    · rw [if_pos (by simpa using h3)]; rfl
    · rw [if_neg (by simpa using h3), Option.bind_some]
      have : qx * qx + qy * qy = px * px + py * py := by omega
      rw [this]
  · have h1' : ¬ 0 - dot ≤ 0 := by omega
    rw [if_neg h1]
    by_cases h2 : size ≤ 0 - dot
    · rw [if_pos h2]
      simp only [h1', h2, decide_true, decide_false, Bool.false_eq_true, if_false, if_true, Option.bind_some]
      rw [if_neg (by simp), if_neg (by simp; omega)]
      rfl
    · rw [if_neg h2]
      simp only [h1', h2, decide_true, decide_false, Bool.false_eq_true, if_false, if_true, Option.bind_some]
      rw [if_pos (by simp; omega), spec_mvPart _ _ (by omega) (by omega) (by omega) (by omega)]
      rfl
end Go.Proofs.Ytmkignciedkidaa
