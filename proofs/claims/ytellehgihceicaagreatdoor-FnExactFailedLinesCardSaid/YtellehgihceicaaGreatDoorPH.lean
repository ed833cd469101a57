/-
 THE LAWS' OWN FUNCTIONS: sizes, copies, comparisons; by program (harn.py).
-/
import Derived.Test.YtellehgihceicaaGreatDoorPB2
import Derived.Test.YtellehgihceicaaGreatDoorF
set_option linter.unusedVariables false
set_option linter.unusedSimpArgs false
set_option maxHeartbeats 1600000
namespace Go.Proofs.YtellehgihceicaaGreatDoor
open Go
theorem Abx (x:(List Int)) (e:(Adn Y4) x):Kw x x = some true:=Aeo neI (H4 x x) x (fun _ _=>rfl) e
theorem Abu (x:(List Int)) (hl:x.length < 4611686018427387904) (k:Int) (f:0 ≤ k) (g:k + 1 * x.length ≤ TQ):∃ k' x',KK x k = some (k',x') ∧ k ≤ k' ∧ k' ≤ k + 1 * x.length ∧ x'.length = x.length ∧ J1 x' k = some k':=by
 exact Ad1 (S:=Y4) ED EE 1 x (fun m j e k u v hj l _ f g=>by
  refine ⟨k + 1,k,by omega,by omega,?_,fun m' s ab h=>?_⟩
  ·rw [ED,if_pos (by simp; omega)]; simp only [AX,J8,l,Aa,List.set_set,List.getElem?_set_self (show j < e.length by omega),AC (k:=j) (by omega),A8 (x:=k + 1) (by unfold TQ at *; omega) (by unfold TQ at *; omega)] <;> (congr 1 <;> omega)
  ·rw [EE,if_pos (by simp; omega)]; simp only [AX,h,Aa,bne_self_eq_false,Bool.false_eq_true,if_false,AC (k:=j) (by omega),A8 (x:=k + 1) (by unfold TQ at *; omega) (by unfold TQ at *; omega)] <;> (congr 1 <;> omega))
  (fun m e k v=>by rw [ED,if_neg (by simp; omega)]) (fun s m k ab=>by rw [EE,if_neg (by simp; omega)]) hl (fun _ _=>trivial) k f g
end Go.Proofs.YtellehgihceicaaGreatDoor
