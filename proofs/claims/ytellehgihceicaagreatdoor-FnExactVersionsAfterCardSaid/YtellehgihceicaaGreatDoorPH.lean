/-
 THE LAWS' OWN FUNCTIONS: sizes, copies, comparisons; by program (harn.py).
-/
import Derived.Test.YtellehgihceicaaGreatDoorPB2
import Derived.Test.YtellehgihceicaaGreatDoorF
set_option linter.unusedVariables false
set_option linter.unusedSimpArgs false
set_option maxHeartbeats 1600000
namespace Go.Proofs.YtellehgihceicaaGreatDoor
open Go
theorem Yj (x:(Int × Int × Int)) (e:WR x):IE x x = some true:=eqI (neI _) (eqI (neI _) (eqI (neI _) (rfl)))
theorem Xt (x:Aey) (f:(Adf WR) x):Ii x x = some true:=eqL (FQ x x) x IE (fun _ _=>rfl) (fun u e=>Yj u e) f
theorem Xo (x:Aey) (hl:x.length < 4611686018427387904) (k:Int) (g:0 ≤ k) (f:k + 3 * x.length ≤ Ng):∃ k' x',IR x k = some (k',x') ∧ k ≤ k' ∧ k' ≤ k + 3 * x.length ∧ x'.length = x.length ∧ Hx x' k = some k':=by
 exact Adt (S:=WR) D6 D7 3 x (fun m j e k u l hj h _ g f=>by
  refine ⟨k + 3,(k,k + 1,k + 1 + 1),by omega,by omega,?_,fun m' l' v s=>?_⟩
  ·rw [D6,if_pos (by simp; omega)]; simp only [AY,J5,h,Aa,List.set_set,List.getElem?_set_self (show j < e.length by omega),AD (k:=j) (by omega),A6 (x:=k + 1) (by unfold Ng at *; omega) (by unfold Ng at *; omega),A6 (x:=k + 1 + 1) (by unfold Ng at *; omega) (by unfold Ng at *; omega),A6 (x:=k + 1 + 1 + 1) (by unfold Ng at *; omega) (by unfold Ng at *; omega)] <;> (congr 1 <;> omega)
  ·rw [D7,if_pos (by simp; omega)]; simp only [AY,s,Aa,bne_self_eq_false,Bool.false_eq_true,if_false,AD (k:=j) (by omega),A6 (x:=k + 1) (by unfold Ng at *; omega) (by unfold Ng at *; omega),A6 (x:=k + 1 + 1) (by unfold Ng at *; omega) (by unfold Ng at *; omega),A6 (x:=k + 1 + 1 + 1) (by unfold Ng at *; omega) (by unfold Ng at *; omega)] <;> (congr 1 <;> omega))
  (fun m e k l=>by rw [D6,if_neg (by simp; omega)]) (fun l' m k v=>by rw [D7,if_neg (by simp; omega)]) hl (fun _ _=>trivial) k g f
end Go.Proofs.YtellehgihceicaaGreatDoor
