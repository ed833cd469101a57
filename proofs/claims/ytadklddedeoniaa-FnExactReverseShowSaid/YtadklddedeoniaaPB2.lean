/-
  PLAIN BASE, 2: the laws' marks: a mark is put into every place of a list and found there again. No program.
-/
import Derived.Test.YtadklddedeoniaaPB
set_option linter.unusedSimpArgs false
set_option linter.unusedVariables false
namespace Go.Proofs.Ytadklddedeoniaa
open Go
def BIG : Int := 4611686018427387904
theorem mulS (c d : Nat) : (c : Int) * ((d + 1 : Nat) : Int) = (c : Int) * (d : Int) + (c : Int) := by
  rw [Int.natCast_add, Int.mul_add]
  simp
/-- 'f' marks, 'h' finds again. -/
theorem markL {α : Type} {S : α → Prop} (f : Nat → List α → Int → Int → Option (Int × List α)) (h : List α → Nat → Int → Int → Option Int) (c : Nat) (l : List α)
    (hs : ∀ (m j : Nat) (cur : List α) (k : Int) (u : α), cur.length = l.length → j < l.length → cur[j]? = some u → S u → 0 ≤ k → k + c ≤ BIG → ∃ (k1 : Int) (u' : α), k ≤ k1 ∧ k1 ≤ k + c ∧ f (m + 1) cur k (j : Int) = f m (cur.set j u') k1 ((j + 1 : Nat) : Int) ∧
      ∀ (m' : Nat) (l' : List α), l'.length = l.length → l'[j]? = some u' → h l' (m' + 1) k (j : Int) = h l' m' k1 ((j + 1 : Nat) : Int))
    (he : ∀ m cur k, cur.length = l.length → f (m + 1) cur k (l.length : Int) = some (k, cur)) (hh : ∀ l' m k, l'.length = l.length → h l' (m + 1) k (l.length : Int) = some k)
    (hl : l.length < 4611686018427387904) (hS : ∀ u ∈ l, S u) (k : Int) (h0 : 0 ≤ k) (hb : k + c * l.length ≤ BIG) :
    ∃ k' l', f FU l k 0 = some (k', l') ∧ k ≤ k' ∧ k' ≤ k + c * l.length ∧ l'.length = l.length ∧ h l' FU k 0 = some k' := by
  have key : ∀ (d j m : Nat) (cur : List α) (k : Int), l.length - j = d → j ≤ l.length → d < m → cur.length = l.length → (∀ i, j ≤ i → cur[i]? = l[i]?) → 0 ≤ k → k + (c : Int) * (d : Int) ≤ BIG →
      ∃ k' l', f m cur k (j : Int) = some (k', l') ∧ k ≤ k' ∧ k' ≤ k + (c : Int) * (d : Int) ∧ l'.length = l.length ∧ (∀ i, i < j → l'[i]? = cur[i]?) ∧ ∀ m', d < m' → h l' m' k (j : Int) = some k' := by
    intro d
    induction d with
    | zero =>
      intro j m cur k hd hj hm hc hr h0 hb
      have : j = l.length := by omega
      subst this
      cases m with
      | zero => omega
      | succ m =>
        refine ⟨k, cur, he m cur k hc, by omega, by simp, hc, fun i _ => rfl, fun m' hm' => ?_⟩
        cases m' with
        | zero => omega
        | succ m' => exact hh cur m' k hc
    | succ d ih =>
      intro j m cur k hd hj hm hc hr h0 hb
      rw [mulS] at hb
      have hcd : 0 ≤ (c : Int) * (d : Int) := Int.mul_nonneg (by omega) (by omega)
      cases m with
      | zero => omega
      | succ m =>
        have hj' : j < l.length := by omega
        have hu : cur[j]? = some l[j] := by rw [hr j (Nat.le_refl _)]; exact List.getElem?_eq_getElem hj'
        obtain ⟨k1, u', a1, a2, a3, a4⟩ := hs m j cur k l[j] hc hj' hu (hS _ (List.getElem_mem hj')) h0 (by omega)
        obtain ⟨k', l', b1, b2, b3, b4, b5, b6⟩ := ih (j + 1) m (cur.set j u') k1 (by omega) (by omega) (by omega) (by simpa using hc) (fun i hi => by rw [List.getElem?_set_ne (by omega)]; exact hr i (by omega)) (by omega) (by omega)
        refine ⟨k', l', a3.trans b1, by omega, by rw [mulS]; omega, b4, fun i hi => ?_, fun m' hm' => ?_⟩
        · rw [b5 i (by omega), List.getElem?_set_ne (by omega)]
        · cases m' with
          | zero => omega
          | succ m' =>
            have e : l'[j]? = some u' := by rw [b5 j (by omega), List.getElem?_set_self (by omega)]
            rw [a4 m' l' b4 e]
            exact b6 m' (by omega)
  obtain ⟨k', l', b1, b2, b3, b4, _, b6⟩ := key l.length 0 FU l k (by omega) (by omega) (FU_gt (by omega)) rfl (fun _ _ => rfl) h0 hb
  exact ⟨k', l', b1, b2, b3, b4, b6 FU (FU_gt (by omega))⟩
/-- 'f' marks. -/
theorem markL0 {α : Type} {S : α → Prop} (f : Nat → List α → Int → Int → Option (Int × List α)) (c : Nat) (l : List α)
    (hs : ∀ (m j : Nat) (cur : List α) (k : Int) (u : α), cur.length = l.length → j < l.length → cur[j]? = some u → S u → 0 ≤ k → k + c ≤ BIG → ∃ (k1 : Int) (u' : α), k ≤ k1 ∧ k1 ≤ k + c ∧ f (m + 1) cur k (j : Int) = f m (cur.set j u') k1 ((j + 1 : Nat) : Int))
    (he : ∀ m cur k, cur.length = l.length → f (m + 1) cur k (l.length : Int) = some (k, cur))
    (hl : l.length < 4611686018427387904) (hS : ∀ u ∈ l, S u) (k : Int) (h0 : 0 ≤ k) (hb : k + c * l.length ≤ BIG) :
    ∃ k' l', f FU l k 0 = some (k', l') ∧ k ≤ k' ∧ k' ≤ k + c * l.length ∧ l'.length = l.length := by
  have key : ∀ (d j m : Nat) (cur : List α) (k : Int), l.length - j = d → j ≤ l.length → d < m → cur.length = l.length → (∀ i, j ≤ i → cur[i]? = l[i]?) → 0 ≤ k → k + (c : Int) * (d : Int) ≤ BIG →
      ∃ k' l', f m cur k (j : Int) = some (k', l') ∧ k ≤ k' ∧ k' ≤ k + (c : Int) * (d : Int) ∧ l'.length = l.length := by
    intro d
    induction d with
    | zero =>
      intro j m cur k hd hj hm hc hr h0 hb
      have : j = l.length := by omega
      subst this
      cases m with
      | zero => omega
      | succ m => exact ⟨k, cur, he m cur k hc, by omega, by simp, hc⟩
    | succ d ih =>
      intro j m cur k hd hj hm hc hr h0 hb
      rw [mulS] at hb
      have hcd : 0 ≤ (c : Int) * (d : Int) := Int.mul_nonneg (by omega) (by omega)
      cases m with
      | zero => omega
      | succ m =>
        have hj' : j < l.length := by omega
        have hu : cur[j]? = some l[j] := by rw [hr j (Nat.le_refl _)]; exact List.getElem?_eq_getElem hj'
        obtain ⟨k1, u', a1, a2, a3⟩ := hs m j cur k l[j] hc hj' hu (hS _ (List.getElem_mem hj')) h0 (by omega)
        obtain ⟨k', l', b1, b2, b3, b4⟩ := ih (j + 1) m (cur.set j u') k1 (by omega) (by omega) (by omega) (by simpa using hc) (fun i hi => by rw [List.getElem?_set_ne (by omega)]; exact hr i (by omega)) (by omega) (by omega)
        exact ⟨k', l', a3.trans b1, by omega, by rw [mulS]; omega, b4⟩
  exact key l.length 0 FU l k (by omega) (by omega) (FU_gt (by omega)) rfl (fun _ _ => rfl) h0 hb
theorem seti_get {α : Type} {l : List α} {j : Nat} {x : α} (h : j < l.length) : idx (seti l (j : Int) x) (j : Int) = some x := by
  rw [seti_nat, idx_nat, List.getElem?_set_self h]
theorem seti_seti {α : Type} (l : List α) (j : Nat) (x y : α) : seti (seti l (j : Int) x) (j : Int) y = l.set j y := by
  rw [seti_nat, seti_nat, List.set_set]
end Go.Proofs.Ytadklddedeoniaa
