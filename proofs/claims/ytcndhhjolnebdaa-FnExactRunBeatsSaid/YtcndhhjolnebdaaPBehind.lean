/-
  THE MOST BEHIND, PLAIN.
-/
import Derived.Test.YtcndhhjolnebdaaPMarch
set_option linter.unusedSimpArgs false
set_option linter.unusedVariables false
namespace Go.Proofs.Ytcndhhjolnebdaa
open Go
def lensM (x : MarchT) : Prop := lensOk x.1 ∧ x.2.2.1.length < 4611686018427387904 ∧ x.2.2.2.length < 4611686018427387904
def bestAt (l : List Int) : Int := (List.range l.length).foldl (fun s (k : Nat) => match l[k]?, l[s.toNat]? with | some u, some v => if v < u then (k : Int) else s | _, _ => s) 0
theorem best_loop (f : Nat → Int → Int → Option (Int × Bool)) (l : List Int) (hl : l.length < 4611686018427387904) (h0 : 0 < l.length)
    (hs : ∀ m s y, f (m + 1) s y = if (decide (y < (List.length l : Int))) = true then Option.bind (idx l y) fun u => Option.bind (idx l s) fun v => (if (decide (v < u)) = true then f m y (w64 (y + 1)) else f m s (w64 (y + 1))) else some (s, true)) :
    f FU 0 0 = some (bestAt l, true) := by
  have := loopS f l.length (fun (k : Nat) s => match l[k]?, l[s.toNat]? with | some u, some v => if v < u then (k : Int) else s | _, _ => s) (fun s => some (s, true)) hl (fun _ s => 0 ≤ s ∧ s < l.length) 0 (by omega) (fun k s hk hi => ?_)
    (fun m k s hk hi => ?_) (fun m s _ => ?_)
  · exact this.1
  · split
    · split <;> omega
    · exact hi
  · obtain ⟨u, hu⟩ : ∃ u, l[k]? = some u := ⟨_, List.getElem?_eq_getElem hk⟩
    obtain ⟨v, hv⟩ : ∃ v, l[s.toNat]? = some v := ⟨_, List.getElem?_eq_getElem (by omega)⟩
    rw [hs, if_pos (by simp; omega), idx_nat, hu, Option.bind_some, idx_int hi.1, hv, Option.bind_some, w64_succ (by omega)]
    by_cases hq : v < u <;> simp [hq]
  · rw [hs, if_neg (by simp)]
theorem march_behind {x : MarchT} (h : lensM x) (hm : okMarch x = true) : 1 ≤ x.2.2.2.length ∧ x.2.2.2.length ≤ 12 ∧ okShow x.1 = true ∧ x.2.2.2.length = firstLen x.1 := by
  unfold okMarch at hm
  simp only [Bool.and_eq_true, decide_eq_true_eq] at hm
  obtain ⟨⟨⟨⟨h1, h2⟩, h3⟩, h4⟩, h5⟩ := hm
  obtain ⟨c, hc, he, hl, hu⟩ := firstLen_of h.1 h1
  exact ⟨by omega, by omega, h1, h4⟩
def behindAns (x : MarchT) : Int × Bool := if okMarch x then (bestAt x.2.2.2, true) else (0, false)
end Go.Proofs.Ytcndhhjolnebdaa
