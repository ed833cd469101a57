/-
  CUES SHIFTED AND ADDED, PLAIN.
-/
import Derived.Test.YtmkignciedkidaaPCue
set_option linter.unusedSimpArgs false
set_option linter.unusedVariables false
namespace Go.Proofs.Ytmkignciedkidaa
open Go
/-- A loop that looks for the first place where q does not hold. -/
theorem loopFind {α R : Type} (f : Nat → Int → Option R) (l : List α) (q : α → Bool) (rest : Nat → Option R) (hn : l.length < 4611686018427387904)
    (hs : ∀ m k x, k < l.length → l[k]? = some x → q x = true → f (m + 1) (k : Int) = f m ((k + 1 : Nat) : Int))
    (he : ∀ m k x, k < l.length → l[k]? = some x → q x = false → f (m + 1) (k : Int) = rest k) (hz : ∀ m, f (m + 1) (l.length : Int) = rest l.length) :
    f FU 0 = rest (l.takeWhile q).length := by
  have key : ∀ d k m, l.length - k = d → k ≤ l.length → l.length - k < m → f m (k : Int) = rest (k + ((l.drop k).takeWhile q).length) := by
    intro d
    induction d with
    | zero =>
      intro k m hd hk hm
      have : k = l.length := by omega
      subst this
      cases m with
      | zero => omega
      | succ m => rw [hz]; simp
    | succ d ih =>
      intro k m hd hk hm
      cases m with
      | zero => omega
      | succ m =>
        have hk' : k < l.length := by omega
        have hx : l[k]? = some l[k] := by simp [hk']
        rw [List.drop_eq_getElem_cons hk']
        cases hq : q l[k] with
        | true =>
          rw [hs m k _ hk' hx hq, ih (k + 1) m (by omega) (by omega) (by omega), List.takeWhile_cons_of_pos hq]
          congr 1
          simp
          omega
        | false =>
          rw [he m k _ hk' hx hq, List.takeWhile_cons_of_neg (by simp [hq])]
          simp
  have := key _ 0 FU rfl (by omega) (FU_gt (by omega))
  simpa using this
def addAt (l : List CueT) (c : CueT) : Nat := (l.takeWhile fun d => decide (d.1 < c.1)).length
def added (l : List CueT) (c : CueT) : List CueT := l.take (addAt l c) ++ [c] ++ l.drop (addAt l c)
theorem sl_drop {α : Type} (l : List α) {k : Nat} (h : k ≤ l.length) : sl l (k : Int) (List.length l : Int) = some (l.drop k) := by
  unfold sl
  rw [if_pos (by omega)]
  simp
/-! what comes back is small -/
end Go.Proofs.Ytmkignciedkidaa
