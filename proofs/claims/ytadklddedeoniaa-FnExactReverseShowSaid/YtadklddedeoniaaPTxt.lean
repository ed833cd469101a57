/-
  MARKS OF TEXTS, PLAIN: the laws' mark of a text is told for every number.
-/
import Derived.Test.YtadklddedeoniaaPB2
import Derived.Test.YtadklddedeoniaaF
set_option linter.unusedSimpArgs false
set_option linter.unusedVariables false
namespace Go.Proofs.Ytadklddedeoniaa
open Go
theorem txt_loop : ∀ (d m : Nat) (k : Int) (out : List UInt8), k < 2 ^ d → d < m → out.length + d ≤ 1000 → d ≤ 62 → ∃ r, F_laws_markText_L1 m k out = some r := by
  intro d
  induction d with
  | zero =>
    intro m k out hk hm ho hd
    cases m with
    | zero => omega
    | succ m =>
      rw [F_laws_markText_L1, if_neg (by simp; omega)]
      unfold app
      rw [if_pos (by simp; omega)]
      exact ⟨_, rfl⟩
  | succ d ih =>
    intro m k out hk hm ho hd
    cases m with
    | zero => omega
    | succ m =>
      rw [F_laws_markText_L1]
      by_cases h0 : 0 < k
      · rw [if_pos (by simp [h0])]
        unfold app
        rw [if_pos (by simp [bytesOf]; omega), Option.bind_some]
        have h2 : Int.tdiv k 10 = k / 10 := Int.tdiv_eq_ediv_of_nonneg (by omega)
        have h3 : (2 : Int) ^ (d + 1) = 2 * 2 ^ d := by rw [Int.pow_succ, Int.mul_comm]
        have h4 : (2 : Int) ^ d ≤ 2 ^ 62 := by
          have : (2 : Nat) ^ d ≤ 2 ^ 62 := Nat.pow_le_pow_right (by decide) (by omega)
          exact_mod_cast this
        have h5 : k / 10 < 2 ^ d := by omega
        rw [h2, w64_eq (x := k / 10) (by omega) (by omega)]
        exact ih m _ _ h5 (by omega) (by simp [bytesOf]; omega) (by omega)
      · rw [if_neg (by simp; omega)]
        unfold app
        rw [if_pos (by simp; omega)]
        exact ⟨_, rfl⟩
def txt (k : Int) : List UInt8 := (F_laws_markText k).getD []
theorem txt_mark (k : Int) (h : k ≤ BIG) : F_laws_markText k = some (txt k) := by
  have : ∃ r, F_laws_markText k = some r := by
    unfold F_laws_markText
    by_cases h0 : k ≤ 0
    · rw [if_pos (by simp [h0])]
      exact ⟨_, rfl⟩
    · rw [if_neg (by simp [h0])]
      unfold BIG at h
      by_cases h1 : k < 2 ^ 62
      · exact txt_loop 62 FU k [] h1 (FU_gt (by omega)) (by simp) (Nat.le_refl _)
      · have hk : k = 4611686018427387904 := by omega
        subst hk
        obtain ⟨m, hm⟩ : ∃ m, FU = m + 1 := ⟨4611686018427387903, rfl⟩
        rw [hm, F_laws_markText_L1, if_pos (by decide)]
        unfold app
        rw [if_pos (by simp [bytesOf]), Option.bind_some]
        have e : w64 (Int.tdiv 4611686018427387904 10) = 461168601842738790 := by decide
        rw [e]
        exact txt_loop 62 m _ _ (by decide) (by have : FU = 4611686018427387904 := rfl; omega) (by simp [bytesOf]) (Nat.le_refl _)
  obtain ⟨r, hr⟩ := this
  unfold txt
  rw [hr]
  rfl
end Go.Proofs.Ytadklddedeoniaa
