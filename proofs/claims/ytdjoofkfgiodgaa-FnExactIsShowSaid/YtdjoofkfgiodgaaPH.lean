/-
  THE LAWS' OWN FUNCTIONS: sizes, copies, comparisons; by program (harn.py).
-/
import Derived.Test.YtdjoofkfgiodgaaPB
import Derived.Test.YtdjoofkfgiodgaaF
set_option linter.unusedVariables false
namespace Go.Proofs.Ytdjoofkfgiodgaa
open Go
theorem eq_IntS (x : (List Int)) (hs : (allS anyG) x) : F_laws_eqIntS x x = some true := eqLB neI (F_laws_eqIntS_L1 x x) x (fun _ _ => rfl) hs
def S_Show (x : ((List (List (Int × Int))) × (List Int) × Int × Int)) : Prop := (allS (allS anyG)) x.1 ∧ (allS anyG) x.2.1 ∧ anyG x.2.2.1 ∧ anyG x.2.2.2
theorem eq_Spot (x : (Int × Int)) (hs : anyG x) : F_laws_eqSpot x x = some true := eqI (neI _) (eqI (neI _) (rfl))
theorem eq_SpotS (x : (List (Int × Int))) (hs : (allS anyG) x) : F_laws_eqSpotS x x = some true := eqL (F_laws_eqSpotS_L1 x x) x F_laws_eqSpot (fun _ _ => rfl) (fun u hu => eq_Spot u hu) hs
theorem eq_SpotSS (x : (List (List (Int × Int)))) (hs : (allS (allS anyG)) x) : F_laws_eqSpotSS x x = some true := eqL (F_laws_eqSpotSS_L1 x x) x F_laws_eqSpotS (fun _ _ => rfl) (fun u hu => eq_SpotS u hu) hs
theorem eq_Show (x : ((List (List (Int × Int))) × (List Int) × Int × Int)) (hs : S_Show x) : F_laws_eqShow x x = some true := eqS (eq_SpotSS x.1 hs.1) (eqS (eq_IntS x.2.1 hs.2.1) (eqI (neI _) (eqI (neI _) (rfl))))
theorem sz_IntS (x : (List Int)) (n : Int) (hg : (allG inI64) x) (h0 : 0 ≤ n) (h1 : n ≤ 1048576) : Szd (F_laws_szIntS x n) n ((allS anyG) x) := szNil x n h0 h1 hg
theorem sz_SpotS (x : (List (Int × Int))) (n : Int) (hg : (allG G_Spot) x) (h0 : 0 ≤ n) (h1 : n ≤ 1048576) : Szd (F_laws_szSpotS x n) n ((allS anyG) x) := szNil x n h0 h1 hg
theorem sz_SpotSS (x : (List (List (Int × Int)))) (n : Int) (hg : (allG (allG G_Spot)) x) (h0 : 0 ≤ n) (h1 : n ≤ 1048576) : Szd (F_laws_szSpotSS x n) n ((allS (allS anyG)) x) := szL (F_laws_szSpotSS_L1 x) x F_laws_szSpotS (fun _ _ _ => rfl) (fun u n hu h0 h1 => sz_SpotS u n hu h0 h1) n h0 h1 hg
theorem sz_Show (x : ((List (List (Int × Int))) × (List Int) × Int × Int)) (n : Int) (hg : G_Show x) (h0 : 0 ≤ n) (h1 : n ≤ 1048576) : Szd (F_laws_szShow x n) n (S_Show x) :=
  Szd.imp (szB (sz_SpotSS x.1 n hg.1 h0 h1) h1 fun n h0 h1 => szB (sz_IntS x.2.1 n hg.2.1 h0 h1) h1 fun n h0 h1 => szE h0) fun h => ⟨h.1, h.2.1, trivial, trivial⟩
theorem to_IntS (x : (List Int)) (hs : (allS anyG) x) : F_laws_toIntS x = some x := toL (F_laws_toIntS_L1 x) x some 0 (fun _ _ _ => rfl) (fun _ _ => rfl) hs
theorem to_Spot (x : (Int × Int)) (hs : anyG x) : F_laws_toSpot x = some x := rfl
theorem to_SpotS (x : (List (Int × Int))) (hs : (allS anyG) x) : F_laws_toSpotS x = some x := toL (F_laws_toSpotS_L1 x) x F_laws_toSpot (0, 0) (fun _ _ _ => rfl) (fun u hu => to_Spot u hu) hs
theorem to_SpotSS (x : (List (List (Int × Int)))) (hs : (allS (allS anyG)) x) : F_laws_toSpotSS x = some x := toL (F_laws_toSpotSS_L1 x) x F_laws_toSpotS [] (fun _ _ _ => rfl) (fun u hu => to_SpotS u hu) hs
theorem to_Show (x : ((List (List (Int × Int))) × (List Int) × Int × Int)) (hs : S_Show x) : F_laws_toShow x = some x := bindS (to_SpotSS x.1 hs.1) (bindS (to_IntS x.2.1 hs.2.1) (rfl))
end Go.Proofs.Ytdjoofkfgiodgaa
