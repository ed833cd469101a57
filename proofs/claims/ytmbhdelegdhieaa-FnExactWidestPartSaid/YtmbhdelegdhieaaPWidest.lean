/-
  THE WIDEST PART, PLAIN.
-/
import Derived.Test.YtmbhdelegdhieaaPMoves
set_option linter.unusedSimpArgs false
set_option linter.unusedVariables false
namespace Go.Proofs.Ytmbhdelegdhieaa
open Go
def partSum (x : ShowT) (p : Nat) : Int := ((movesOf x p).map sqM).foldl (fun a u => w64 (a + u)) 0
def widest (x : ShowT) : Int × Int := (List.range x.2.1.length).foldl (fun s k => if s.2 < partSum x k then ((k : Int), partSum x k) else s) (0, -1)
theorem spec_WidestPart (x : ShowT) (h : lensOk x) : F_spec_WidestPart x = some (if okShow x then ((widest x).1, (widest x).2, true) else (0, 0, false)) := by
  unfold F_spec_WidestPart
  rw [spec_swGood x h.1 h.2.1 h.2.2, Option.bind_some]
  cases hs : okShow x with
  | false => simp
  | true =>
    have f := facts hs
    have := f.n1
    have := f.nc
    rw [if_neg (by simp)]
    have := loopS (fun m (s : Int × Int) k => F_spec_WidestPart_L1 x m s.1 s.2 k) x.2.1.length (fun k s => if s.2 < partSum x k then ((k : Int), partSum x k) else s) (fun s => some (s.1, s.2, true)) (by omega) (fun _ _ => True) (0, -1) trivial (fun _ _ _ _ => trivial) (fun m k s hk _ => ?_) (fun m s _ => ?_)
    · exact this.1
    · rw [F_spec_WidestPart_L1, if_pos (by simp; omega)]
      unfold jK2
      dsimp only
      have hl := moves_len x f k hk
      have e : F_spec_cpSum ((movesOf x k).map sqM) = some (partSum x k) := spec_cpSum _ (by simp; omega)
      rw [spec_cpSquares x f k hk, Option.bind_some, e, Option.bind_some, w64_succ (by omega)]
      by_cases hq : s.2 < partSum x k
      · rw [if_pos (show decide (s.2 < partSum x k) = true by simp [hq]), if_pos hq]
      · rw [if_neg (show ¬ decide (s.2 < partSum x k) = true by simp [hq]), if_neg hq]
    · rw [F_spec_WidestPart_L1, if_neg (by simp)]
theorem impl_WidestPart (x : ShowT) (h : lensOk x) : F_impl_WidestPart x = some (if okShow x then ((widest x).1, (widest x).2, true) else (0, 0, false)) := by
  unfold F_impl_WidestPart
  rw [impl_IsShow x h.1 h.2.1 h.2.2, Option.bind_some]
  cases hs : okShow x with
  | false => simp
  | true =>
    have f := facts hs
    have := f.n1
    have := f.nc
    rw [if_neg (by simp)]
    have := loopS (fun m (s : Int × Int) k => F_impl_WidestPart_L1 x m s.1 s.2 k) x.2.1.length (fun k s => if s.2 < partSum x k then ((k : Int), partSum x k) else s) (fun s => some (s.1, s.2, true)) (by omega) (fun _ _ => True) (0, -1) trivial (fun _ _ _ _ => trivial) (fun m k s hk _ => ?_) (fun m s _ => ?_)
    · exact this.1
    · rw [F_impl_WidestPart_L1, if_pos (by simp; omega)]
      unfold jK2
      dsimp only
      have hl := moves_len x f k hk
      rw [impl_showMoves x f k hk, Option.bind_some, loopFold (F_impl_WidestPart_L2 (movesOf x k) s.2 (fun y36 y37 => F_impl_WidestPart_L1 x m y36 y37 (w64 ((k : Int) + 1))) (k : Int) s.1) (movesOf x k) (fun a u => w64 (a + sqM u))
        (fun t => if (decide (s.2 < t)) = true then F_impl_WidestPart_L1 x m (k : Int) t (w64 ((k : Int) + 1)) else F_impl_WidestPart_L1 x m s.1 s.2 (w64 ((k : Int) + 1))) (by omega) (fun m' t j u hj hu => ?_) (fun m' t => ?_)]
      · have e : (movesOf x k).foldl (fun a u => w64 (a + sqM u)) 0 = partSum x k := by unfold partSum; rw [List.foldl_map]
        rw [e, w64_succ (by omega)]
        by_cases hq : s.2 < partSum x k
        · rw [if_pos (show decide (s.2 < partSum x k) = true by simp [hq]), if_pos hq]
        · rw [if_neg (show ¬ decide (s.2 < partSum x k) = true by simp [hq]), if_neg hq]
      · rw [F_impl_WidestPart_L2, if_pos (by simp; omega), idx_nat, hu, Option.bind_some, impl_squareOf, Option.bind_some, w64_succ (k := j) (by omega)]
        rfl
      · rw [F_impl_WidestPart_L2, if_neg (by simp)]
    · rw [F_impl_WidestPart_L1, if_neg (by simp)]
end Go.Proofs.Ytmbhdelegdhieaa
