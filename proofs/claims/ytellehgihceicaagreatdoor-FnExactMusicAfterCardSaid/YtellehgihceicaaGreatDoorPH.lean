/-
 THE LAWS' OWN FUNCTIONS: sizes, copies, comparisons; by program (harn.py).
-/
import Derived.Test.YtellehgihceicaaGreatDoorPB2
import Derived.Test.YtellehgihceicaaGreatDoorF
set_option linter.unusedVariables false
set_option linter.unusedSimpArgs false
set_option maxHeartbeats 1600000
namespace Go.Proofs.YtellehgihceicaaGreatDoor
open Go
theorem Yk (x:(Int × Int)) (e:WR x):IF x x = some true:=eqI (neI _) (eqI (neI _) (rfl))
theorem Xt (x:Aev) (e:(Add WR) x):Ij x x = some true:=eqL (FP x x) x IF (fun _ _=>rfl) (fun u f=>Yk u f) e
theorem Xo (x:Aev) (v:x.length < 4611686018427387904) (k:Int) (f:0 ≤ k) (e:k + 2 * x.length ≤ PD):∃ k' x',IU x k = some (k',x') ∧ k ≤ k' ∧ k' ≤ k + 2 * x.length ∧ x'.length = x.length ∧ Hw x' k = some k':=by
 exact Adr (S:=WR) D6 D7 2 x (fun m j g k u s hj h _ f e=>by
  refine ⟨k + 2,(k,k + 1),by omega,by omega,?_,fun m' l' l aa=>?_⟩
  ·rw [D6,if_pos (by simp; omega)]; simp only [AY,J6,h,Aa,List.set_set,List.getElem?_set_self (show j < g.length by omega),AD (k:=j) (by omega),A6 (x:=k + 1) (by unfold PD at *; omega) (by unfold PD at *; omega),A6 (x:=k + 1 + 1) (by unfold PD at *; omega) (by unfold PD at *; omega)] <;> (congr 1 <;> omega)
  ·rw [D7,if_pos (by simp; omega)]; simp only [AY,aa,Aa,bne_self_eq_false,Bool.false_eq_true,if_false,AD (k:=j) (by omega),A6 (x:=k + 1) (by unfold PD at *; omega) (by unfold PD at *; omega),A6 (x:=k + 1 + 1) (by unfold PD at *; omega) (by unfold PD at *; omega)] <;> (congr 1 <;> omega))
  (fun m g k s=>by rw [D6,if_neg (by simp; omega)]) (fun l' m k l=>by rw [D7,if_neg (by simp; omega)]) v (fun _ _=>trivial) k f e
end Go.Proofs.YtellehgihceicaaGreatDoor
