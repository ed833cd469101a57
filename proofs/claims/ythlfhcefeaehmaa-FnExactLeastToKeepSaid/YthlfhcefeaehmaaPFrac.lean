/-
  FRACTIONS COMPARED, PLAIN: by products of two words, and by quotients and rests.
-/
import Derived.Test.YthlfhcefeaehmaaPApart
import Derived.Lib.Mul64
set_option linter.unusedSimpArgs false
set_option linter.unusedVariables false
namespace Go.Proofs.Ythlfhcefeaehmaa
open Go
theorem wu64_eq {x : Int} (h1 : 0 ≤ x) (h2 : x < 18446744073709551616) : wu64 x = x := by
  unfold wu64 IntKind.wrap
  simp only [IntKind.bits, IntKind.signed]
  simp only [ge_iff_le, Bool.false_and, Bool.false_eq_true, if_false]
  omega
theorem wu64_mod (x : Int) : wu64 x = x % 18446744073709551616 := by
  unfold wu64 IntKind.wrap
  simp only [IntKind.bits, IntKind.signed]
  simp only [ge_iff_le, Bool.false_and, Bool.false_eq_true, if_false]
  omega
theorem shr32 (n : Nat) : shrK .u64 (n : Int) 32 = ((n / 4294967296 : Nat) : Int) := by
  unfold shrK
  have e : (2 : Int) ^ (min (32 : Int).toNat IntKind.u64.bits) = 4294967296 := by decide
  rw [e, Int.fdiv_eq_ediv_of_nonneg _ (by decide)]
  omega
theorem and32 (n : Nat) (h : n < 18446744073709551616) : andK .u64 (n : Int) 4294967295 = ((n % 4294967296 : Nat) : Int) := by
  have e1 : BitVec.ofInt 64 (n : Int) = BitVec.ofNat 64 n := BitVec.ofInt_natCast ..
  have e2 : BitVec.ofInt 64 4294967295 = BitVec.ofNat 64 4294967295 := rfl
  have e3 : (BitVec.ofNat 64 n &&& BitVec.ofNat 64 4294967295).toNat = n % 4294967296 := by
    rw [BitVec.toNat_and, BitVec.toNat_ofNat, BitVec.toNat_ofNat, Nat.mod_eq_of_lt (show n < 2 ^ 64 by omega), Nat.mod_eq_of_lt (show 4294967295 < 2 ^ 64 by omega)]
    exact Nat.and_two_pow_sub_one_eq_mod n 32
  show wu64 ((BitVec.ofInt 64 (n : Int) &&& BitVec.ofInt 64 4294967295).toNat : Int) = _
  rw [e1, e2, e3, wu64_eq (by omega) (by omega)]
theorem bits_Mul64 (x y : Nat) (hx : x < 18446744073709551616) (hy : y < 18446744073709551616) : F_bits_Mul64 (x : Int) (y : Int) = some (((x * y / 18446744073709551616 : Nat) : Int), ((x * y % 18446744073709551616 : Nat) : Int)) := by
  obtain ⟨h1, h2, h3, h4⟩ := Go.Lib.mul64_hi x y hx hy
  have hlt : x * y / 18446744073709551616 < 18446744073709551616 := by
    have : x * y < 18446744073709551616 * 18446744073709551616 := Nat.mul_lt_mul'' hx hy
    omega
  unfold F_bits_Mul64
  rw [shr32, shr32, and32 x hx, and32 y hy]
  simp only [← Int.natCast_mul, wu64_eq (x := ((x % 4294967296 * (y % 4294967296) : Nat) : Int)) (by omega) (by omega), shr32]
  have ha := Go.Lib.half_mul_le (a := x / 4294967296) (b := y / 4294967296) (by omega) (by omega)
  have hb := Go.Lib.half_mul_le (a := x / 4294967296) (b := y % 4294967296) (by omega) (by omega)
  have hc := Go.Lib.half_mul_le (a := x % 4294967296) (b := y / 4294967296) (by omega) (by omega)
  rw [wu64_mod ((x * y : Nat) : Int)]
  generalize (x / 4294967296) * (y / 4294967296) = A at *
  generalize (x / 4294967296) * (y % 4294967296) = B at *
  generalize (x % 4294967296) * (y / 4294967296) = C at *
  generalize (x % 4294967296) * (y % 4294967296) = D at *
  rw [wu64_eq (x := (A : Int)) (by omega) (by omega), wu64_eq (x := (B : Int)) (by omega) (by omega), wu64_eq (x := (C : Int)) (by omega) (by omega)]
  simp only [← Int.natCast_add]
  rw [wu64_eq (x := ((B + D / 4294967296 : Nat) : Int)) (by omega) (by omega), shr32, and32 _ h2]
  simp only [← Int.natCast_add]
  rw [wu64_eq (x := (((B + D / 4294967296) % 4294967296 + C : Nat) : Int)) (by omega) (by omega), shr32, wu64_eq (x := ((A + (B + D / 4294967296) / 4294967296 : Nat) : Int)) (by omega) (by omega)]
  simp only [← Int.natCast_add]
  rw [wu64_eq (by omega) (by omega)]
  congr 2
  omega
theorem cmp128 (P Q : Nat) : (if decide (((P / 18446744073709551616 : Nat) : Int) < ((Q / 18446744073709551616 : Nat) : Int)) = true then some true
    else if (((P / 18446744073709551616 : Nat) : Int) == ((Q / 18446744073709551616 : Nat) : Int)) = true then some (decide (((P % 18446744073709551616 : Nat) : Int) < ((Q % 18446744073709551616 : Nat) : Int))) else some false) = some (decide ((P : Int) < (Q : Int))) := by
  by_cases h1 : P / 18446744073709551616 < Q / 18446744073709551616
  · rw [if_pos (by simp; omega)]
    congr 1
    symm
    simp
    omega
  · rw [if_neg (by simp; omega)]
    by_cases h2 : P / 18446744073709551616 = Q / 18446744073709551616
    · rw [if_pos (by simp; omega)]
      congr 1
      rw [Bool.eq_iff_iff]
      simp
      omega
    · rw [if_neg (by simp; omega)]
      congr 1
      symm
      simp
      omega
/-- a / b is less than c / d. -/
def lessF (a b c d : Int) : Bool := decide (a * d < c * b)
theorem impl_lessFraction (a b c d : Int) (ha : 0 ≤ a) (ha2 : a < 18446744073709551616) (hb : 0 ≤ b) (hb2 : b < 18446744073709551616) (hc : 0 ≤ c) (hc2 : c < 18446744073709551616) (hd : 0 ≤ d) (hd2 : d < 18446744073709551616) :
    F_impl_lessFraction a b c d = some (lessF a b c d) := by
  obtain ⟨a, rfl⟩ := Int.eq_ofNat_of_zero_le ha
  obtain ⟨b, rfl⟩ := Int.eq_ofNat_of_zero_le hb
  obtain ⟨c, rfl⟩ := Int.eq_ofNat_of_zero_le hc
  obtain ⟨d, rfl⟩ := Int.eq_ofNat_of_zero_le hd
  unfold F_impl_lessFraction jK1 lessF
  rw [wu64_eq ha ha2, wu64_eq hd hd2, wu64_eq hc hc2, wu64_eq hb hb2, bits_Mul64 a d (by omega) (by omega), Option.bind_some, bits_Mul64 c b (by omega) (by omega), Option.bind_some]
  simp only [← Int.natCast_mul]
  exact cmp128 _ _
theorem spec_apLess (a b c d : Int) (ha : 0 ≤ a) (ha2 : a ≤ 1000000000000000) (hb : 0 < b) (hb2 : b ≤ 1000000000) (hc : 0 ≤ c) (hc2 : c ≤ 1000000000000000) (hd : 0 < d) (hd2 : d ≤ 1000000000) :
    F_spec_apLess a b c d = some (lessF a b c d) := by
  have hb0 : ¬ b = 0 := by omega
  have hd0 : ¬ d = 0 := by omega
  unfold F_spec_apLess lessF
  rw [if_neg hb0, if_neg hd0, if_neg hb0, if_neg hd0, if_neg hb0, if_neg hd0, Int.tdiv_eq_ediv_of_nonneg ha, Int.tdiv_eq_ediv_of_nonneg hc, Int.tmod_eq_emod_of_nonneg ha, Int.tmod_eq_emod_of_nonneg hc]
  have e1 := Int.emod_add_mul_ediv a b
  have e2 := Int.emod_add_mul_ediv c d
  have r1 := Int.emod_nonneg a hb0
  have r2 := Int.emod_lt_of_pos a hb
  have r3 := Int.emod_nonneg c hd0
  have r4 := Int.emod_lt_of_pos c hd
  have q1 := Int.ediv_nonneg ha (Int.le_of_lt hb)
  have q2 := Int.ediv_nonneg hc (Int.le_of_lt hd)
  have q3 : a / b ≤ a := Int.ediv_le_self _ ha
  have q4 : c / d ≤ c := Int.ediv_le_self _ hc
  generalize a / b = p at *
  generalize c / d = q at *
  generalize a % b = r at *
  generalize c % d = s at *
  have hP : 0 < b * d := Int.mul_pos hb hd
  have hPm : b * d ≤ 1000000000 * 1000000000 := Int.mul_le_mul hb2 hd2 (by omega) (by omega)
  have f1 : a * d = r * d + b * d * p := by rw [← e1, Int.add_mul, Int.mul_assoc, Int.mul_assoc, Int.mul_comm p d]
  have f2 : c * b = s * b + b * d * q := by rw [← e2, Int.add_mul, Int.mul_comm b d, Int.mul_assoc, Int.mul_assoc, Int.mul_comm q b]
  have g1 : 0 ≤ r * d := Int.mul_nonneg r1 (by omega)
  have g2 : r * d < b * d := Int.mul_lt_mul_of_pos_right r2 hd
  have g3 : 0 ≤ s * b := Int.mul_nonneg r3 (by omega)
  have g4 : s * b < d * b := Int.mul_lt_mul_of_pos_right r4 hb
  rw [Int.mul_comm d b] at g4
  have m1 : ∀ x y : Int, x + 1 ≤ y → b * d * x + b * d ≤ b * d * y := fun x y h => by
    have := Int.mul_le_mul_of_nonneg_left h (Int.le_of_lt hP)
    rwa [Int.mul_add, Int.mul_one] at this
  rw [w64_eq (x := p) (by omega) (by omega), w64_eq (x := q) (by omega) (by omega), w64_eq (x := r * d) (by omega) (by omega), w64_eq (x := s * b) (by omega) (by omega)]
  by_cases h1 : p = q
  · subst h1
    rw [if_neg (by simp)]
    congr 1
    rw [Bool.eq_iff_iff]
    simp
    omega
  · rw [if_pos (by simpa using h1)]
    congr 1
    rw [Bool.eq_iff_iff]
    simp
    rcases Int.lt_or_gt_of_ne h1 with h2 | h2
    · have := m1 p q (by omega)
      omega
    · have := m1 q p (by omega)
      omega
end Go.Proofs.Ythlfhcefeaehmaa
