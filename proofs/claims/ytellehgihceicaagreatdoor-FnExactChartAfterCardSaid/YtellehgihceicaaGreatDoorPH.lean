/-
 THE LAWS' OWN FUNCTIONS: sizes, copies, comparisons; by program (harn.py).
-/
import Derived.Test.YtellehgihceicaaGreatDoorPB2
import Derived.Test.YtellehgihceicaaGreatDoorF
set_option linter.unusedVariables false
set_option linter.unusedSimpArgs false
set_option maxHeartbeats 1600000
namespace Go.Proofs.YtellehgihceicaaGreatDoor
open Go
theorem Abl (x:(Int × Int)) (e:WR x):Kt x x = some true:=eqI (neI _) (eqI (neI _) (rfl))
theorem Aag (x:Aev) (e:(Add WR) x):JO x x = some true:=eqL (Hh x x) x Kt (fun _ _=>rfl) (fun u f=>Abl u f) e
theorem ZU (x:Aev) (v:x.length < 4611686018427387904) (k:Int) (f:0 ≤ k) (g:k + 2 * x.length ≤ PC):∃ k' x',Kc x k = some (k',x') ∧ k ≤ k' ∧ k' ≤ k + 2 * x.length ∧ x'.length = x.length ∧ ID x' k = some k':=by
 exact Adr (S:=WR) Ep Er 2 x (fun m j e k u l hj hu _ f g=>by
  refine ⟨k + 2,(k,k + 1),by omega,by omega,?_,fun m' s h ab=>?_⟩
  ·rw [Ep,if_pos (by simp; omega)]; simp only [AY,J2,hu,Aa,List.set_set,List.getElem?_set_self (show j < e.length by omega),AD (k:=j) (by omega),A6 (x:=k + 1) (by unfold PC at *; omega) (by unfold PC at *; omega),A6 (x:=k + 1 + 1) (by unfold PC at *; omega) (by unfold PC at *; omega)] <;> (congr 1 <;> omega)
  ·rw [Er,if_pos (by simp; omega)]; simp only [AY,ab,Aa,bne_self_eq_false,Bool.false_eq_true,if_false,AD (k:=j) (by omega),A6 (x:=k + 1) (by unfold PC at *; omega) (by unfold PC at *; omega),A6 (x:=k + 1 + 1) (by unfold PC at *; omega) (by unfold PC at *; omega)] <;> (congr 1 <;> omega))
  (fun m e k l=>by rw [Ep,if_neg (by simp; omega)]) (fun s m k h=>by rw [Er,if_neg (by simp; omega)]) v (fun _ _=>trivial) k f g
end Go.Proofs.YtellehgihceicaaGreatDoor
