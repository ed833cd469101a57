/-
  THE FUNCTIONS of this seat as plain functions, by program (gen.py).
-/
import Derived.Test.YtdjoofkfgiodgaaCore0
set_option linter.unusedSimpArgs false
set_option linter.unusedVariables false
set_option maxRecDepth 100000
namespace Go.Proofs.Ytdjoofkfgiodgaa
open Go
def eqv_Spot (x y : (Int × Int)) : Bool := (x.1 == y.1) && (x.2 == y.2)
def G_Spot (x : (Int × Int)) : Prop := inI64 x.1 ∧ inI64 x.2
def G_Show (x : ((List (List (Int × Int))) × (List Int) × Int × Int)) : Prop := (allG (allG G_Spot)) x.1 ∧ (allG inI64) x.2.1 ∧ inI64 x.2.2.1 ∧ inI64 x.2.2.2
def F_laws_szSpotS (x0 : (List (Int × Int))) (x1 : Int) : Option Int :=
  (if (decide ((w64 (x1 - (List.length x0 : Int))) < 0)) = true then some (-1) else some (w64 (x1 - (List.length x0 : Int))))
def F_laws_szSpotSS_L1 (x0 : (List (List (Int × Int)))) : Nat → Int → Int → Option Int
  | 0, _, _ => none
  | m + 1, y12, y13 => (if (decide (y13 < (List.length x0 : Int))) = true then Option.bind (idx x0 y13) fun u22 =>
  Option.bind (F_laws_szSpotS u22 y12) fun u27 =>
  (if (decide (u27 < 0)) = true then some (-1) else (F_laws_szSpotSS_L1 x0 m) (u27) ((w64 (y13 + 1)))) else some y12)
def F_laws_szSpotSS (x0 : (List (List (Int × Int)))) (x1 : Int) : Option Int :=
  (if (decide ((w64 (x1 - (List.length x0 : Int))) < 0)) = true then some (-1) else F_laws_szSpotSS_L1 x0 FU ((w64 (x1 - (List.length x0 : Int)))) (0))
def F_laws_szIntS (x0 : (List Int)) (x1 : Int) : Option Int :=
  (if (decide ((w64 (x1 - (List.length x0 : Int))) < 0)) = true then some (-1) else some (w64 (x1 - (List.length x0 : Int))))
def F_laws_szShow (x0 : ((List (List (Int × Int))) × (List Int) × Int × Int)) (x1 : Int) : Option Int :=
  Option.bind (F_laws_szSpotSS x0.1 x1) fun u8 =>
  (if (decide (u8 < 0)) = true then some (-1) else Option.bind (F_laws_szIntS x0.2.1 u8) fun u19 =>
  (if (decide (u19 < 0)) = true then some (-1) else some u19))
def F_laws_toSpot (x0 : (Int × Int)) : Option (Int × Int) :=
  some x0
def F_laws_toSpotS_L1 (x0 : (List (Int × Int))) : Nat → (List (Int × Int)) → Int → Option (List (Int × Int))
  | 0, _, _ => none
  | m + 1, l15, y18 => (if (decide (y18 < (List.length x0 : Int))) = true then Option.bind (idx x0 y18) fun u26 =>
  Option.bind (F_laws_toSpot u26) fun u29 =>
  Option.bind (idx l15 y18) fun u35 =>
  (F_laws_toSpotS_L1 x0 m) ((seti l15 y18 u29)) ((w64 (y18 + 1))) else some l15)
def F_laws_toSpotS (x0 : (List (Int × Int))) : Option (List (Int × Int)) :=
  Option.bind (mkL (List.length x0 : Int) (0, 0)) fun u3 =>
  F_laws_toSpotS_L1 x0 FU (u3) (0)
def F_laws_toSpotSS_L1 (x0 : (List (List (Int × Int)))) : Nat → (List (List (Int × Int))) → Int → Option (List (List (Int × Int)))
  | 0, _, _ => none
  | m + 1, l15, y18 => (if (decide (y18 < (List.length x0 : Int))) = true then Option.bind (idx x0 y18) fun u26 =>
  Option.bind (F_laws_toSpotS u26) fun u31 =>
  Option.bind (idx l15 y18) fun u39 =>
  (F_laws_toSpotSS_L1 x0 m) ((seti l15 y18 u31)) ((w64 (y18 + 1))) else some l15)
def F_laws_toSpotSS (x0 : (List (List (Int × Int)))) : Option (List (List (Int × Int))) :=
  Option.bind (mkL (List.length x0 : Int) []) fun u3 =>
  F_laws_toSpotSS_L1 x0 FU (u3) (0)
def F_laws_toIntS_L1 (x0 : (List Int)) : Nat → (List Int) → Int → Option (List Int)
  | 0, _, _ => none
  | m + 1, l15, y18 => (if (decide (y18 < (List.length x0 : Int))) = true then Option.bind (idx x0 y18) fun u26 =>
  Option.bind (idx l15 y18) fun u29 =>
  (F_laws_toIntS_L1 x0 m) ((seti l15 y18 u26)) ((w64 (y18 + 1))) else some l15)
def F_laws_toIntS (x0 : (List Int)) : Option (List Int) :=
  Option.bind (mkL (List.length x0 : Int) 0) fun u3 =>
  F_laws_toIntS_L1 x0 FU (u3) (0)
def F_laws_toShow (x0 : ((List (List (Int × Int))) × (List Int) × Int × Int)) : Option ((List (List (Int × Int))) × (List Int) × Int × Int) :=
  Option.bind (F_laws_toSpotSS x0.1) fun u19 =>
  Option.bind (F_laws_toIntS x0.2.1) fun u32 =>
  some (u19, u32, x0.2.2.1, x0.2.2.2)
def F_spec_l1In (x0 : Int) (x1 : Int) (x2 : Int) : Option Bool :=
  jK1 (fun (y6 : Bool) => some y6) (fun k7 => (if (decide (x1 ≤ x0)) = true then k7 ((decide (x0 ≤ x2))) else k7 (false)))
def F_spec_stGood (x0 : (Int × Int)) : Option Bool :=
  jK1 (fun (y11 : Bool) => some y11) (fun k12 => Option.bind (F_spec_l1In x0.1 0 1280) fun u14 =>
  (if u14 = true then Option.bind (F_spec_l1In x0.2 0 672) fun u21 =>
  k12 (u21) else k12 (false)))
def F_spec_chGood_L2 (u39 : (List (Int × Int))) (u16 : (Int × Int)) (nx8 : (Int → Option Bool)) (y7 : Int) : Nat → Int → Option Bool
  | 0, _ => none
  | m + 1, y45 => (if (decide (y45 < (List.length u39 : Int))) = true then Option.bind (idx u39 y45) fun u54 =>
  (if (eqv_Spot u16 u54) = true then some false else (F_spec_chGood_L2 u39 u16 nx8 y7 m) ((w64 (y45 + 1)))) else nx8 ((w64 (y7 + 1))))
def F_spec_chGood_L1 (x0 : (List (Int × Int))) : Nat → Int → Option Bool
  | 0, _ => none
  | m + 1, y7 => (if (decide (y7 < (List.length x0 : Int))) = true then Option.bind (idx x0 y7) fun u16 =>
  Option.bind (F_spec_stGood u16) fun u30 =>
  (if (!u30) = true then some false else Option.bind (sl x0 0 y7) fun u39 =>
  F_spec_chGood_L2 u39 u16 (F_spec_chGood_L1 x0 m) y7 FU (0)) else Option.bind (F_spec_l1In (List.length x0 : Int) 1 12) fun u70 =>
  some u70)
def F_spec_chGood (x0 : (List (Int × Int))) : Option Bool :=
  F_spec_chGood_L1 x0 FU (0)
def F_spec_l1All_L1 (x0 : (List Int)) (x1 : Int) (x2 : Int) : Nat → Int → Option Bool
  | 0, _ => none
  | m + 1, y7 => (if (decide (y7 < (List.length x0 : Int))) = true then Option.bind (idx x0 y7) fun u16 =>
  Option.bind (F_spec_l1In u16 x1 x2) fun u20 =>
  (if (!u20) = true then some false else (F_spec_l1All_L1 x0 x1 x2 m) ((w64 (y7 + 1)))) else some true)
def F_spec_l1All (x0 : (List Int)) (x1 : Int) (x2 : Int) : Option Bool :=
  F_spec_l1All_L1 x0 x1 x2 FU (0)
def F_spec_apDistance (x0 : Int) : Option Bool :=
  Option.bind (F_spec_l1In x0 0 80) fun u3 =>
  some u3
def F_spec_mvStep (x0 : Int) : Option Bool :=
  Option.bind (F_spec_l1In x0 1 24) fun u3 =>
  some u3
def F_spec_swGood_L1 (x0 : ((List (List (Int × Int))) × (List Int) × Int × Int)) : Nat → Int → Option Bool
  | 0, _ => none
  | m + 1, y12 => (if (decide (y12 < (List.length x0.1 : Int))) = true then Option.bind (idx x0.1 y12) fun u21 =>
  jK1 (fun (y30 : Bool) => (if y30 = true then some false else (F_spec_swGood_L1 x0 m) ((w64 (y12 + 1))))) (fun k31 => Option.bind (F_spec_chGood u21) fun u35 =>
  (if (!u35) = true then k31 (true) else Option.bind (idx x0.1 0) fun u42 =>
  k31 (((List.length u21 : Int) != (List.length u42 : Int))))) else jK1 (fun (y51 : Bool) => some y51) (fun k52 => Option.bind (F_spec_l1In (List.length x0.1 : Int) 2 8) fun u54 =>
  (if u54 = true then (if ((List.length x0.2.1 : Int) == (w64 ((List.length x0.1 : Int) - 1))) = true then Option.bind (F_spec_l1All x0.2.1 1 64) fun u62 =>
  (if u62 = true then Option.bind (F_spec_apDistance x0.2.2.1) fun u69 =>
  (if u69 = true then Option.bind (F_spec_mvStep x0.2.2.2) fun u76 =>
  k52 (u76) else k52 (false)) else k52 (false)) else k52 (false)) else k52 (false))))
def F_spec_swGood (x0 : ((List (List (Int × Int))) × (List Int) × Int × Int)) : Option Bool :=
  F_spec_swGood_L1 x0 FU (0)
def F_spec_IsShow (x0 : ((List (List (Int × Int))) × (List Int) × Int × Int)) : Option Bool :=
  Option.bind (F_spec_swGood x0) fun u8 =>
  some u8
def F_impl_within (x0 : Int) (x1 : Int) (x2 : Int) : Option Bool :=
  jK1 (fun (y6 : Bool) => some y6) (fun k7 => (if (decide (x1 ≤ x0)) = true then k7 ((decide (x0 ≤ x2))) else k7 (false)))
def F_impl_IsSpot (x0 : (Int × Int)) : Option Bool :=
  jK1 (fun (y11 : Bool) => some y11) (fun k12 => Option.bind (F_impl_within x0.1 0 1280) fun u14 =>
  (if u14 = true then Option.bind (F_impl_within x0.2 0 672) fun u21 =>
  k12 (u21) else k12 (false)))
def F_slices_Index_impl_Spot_impl_Spot_L1 (x0 : (List (Int × Int))) (x1 : (Int × Int)) : Nat → Int → Option Int
  | 0, _ => none
  | m + 1, y12 => (if (decide (y12 < (List.length x0 : Int))) = true then Option.bind (idx x0 y12) fun u27 =>
  (if (eqv_Spot x1 u27) = true then some y12 else (F_slices_Index_impl_Spot_impl_Spot_L1 x0 x1 m) ((w64 (y12 + 1)))) else some (-1))
def F_slices_Index_impl_Spot_impl_Spot (x0 : (List (Int × Int))) (x1 : (Int × Int)) : Option Int :=
  F_slices_Index_impl_Spot_impl_Spot_L1 x0 x1 FU (0)
def F_slices_Contains_impl_Spot_impl_Spot (x0 : (List (Int × Int))) (x1 : (Int × Int)) : Option Bool :=
  Option.bind (F_slices_Index_impl_Spot_impl_Spot x0 x1) fun u8 =>
  some (decide (0 ≤ u8))
def F_impl_IsChart_L1 (x0 : (List (Int × Int))) : Nat → Int → Option Bool
  | 0, _ => none
  | m + 1, y17 => (if (decide (y17 < (List.length x0 : Int))) = true then Option.bind (idx x0 y17) fun u26 =>
  jK1 (fun (y42 : Bool) => (if y42 = true then some false else (F_impl_IsChart_L1 x0 m) ((w64 (y17 + 1))))) (fun k43 => Option.bind (F_impl_IsSpot u26) fun u52 =>
  (if (!u52) = true then k43 (true) else Option.bind (sl x0 0 y17) fun u61 =>
  Option.bind (F_slices_Contains_impl_Spot_impl_Spot u61 u26) fun u64 =>
  k43 (u64))) else some true)
def F_impl_IsChart (x0 : (List (Int × Int))) : Option Bool :=
  Option.bind (F_impl_within (List.length x0 : Int) 1 12) fun u4 =>
  (if (!u4) = true then some false else F_impl_IsChart_L1 x0 FU (0))
def F_impl_areCharts_L2 (x1 : (List Int)) : Nat → Int → Option Bool
  | 0, _ => none
  | m + 1, y57 => (if (decide (y57 < (List.length x1 : Int))) = true then Option.bind (idx x1 y57) fun u66 =>
  Option.bind (F_impl_within u66 1 64) fun u70 =>
  (if (!u70) = true then some false else (F_impl_areCharts_L2 x1 m) ((w64 (y57 + 1)))) else some true)
def F_impl_areCharts_L1 (x0 : (List (List (Int × Int)))) (x1 : (List Int)) : Nat → Int → Option Bool
  | 0, _ => none
  | m + 1, y17 => (if (decide (y17 < (List.length x0 : Int))) = true then Option.bind (idx x0 y17) fun u26 =>
  jK1 (fun (y35 : Bool) => (if y35 = true then some false else (F_impl_areCharts_L1 x0 x1 m) ((w64 (y17 + 1))))) (fun k36 => Option.bind (F_impl_IsChart u26) fun u40 =>
  (if (!u40) = true then k36 (true) else Option.bind (idx x0 0) fun u47 =>
  k36 (((List.length u26 : Int) != (List.length u47 : Int))))) else F_impl_areCharts_L2 x1 FU (0))
def F_impl_areCharts (x0 : (List (List (Int × Int)))) (x1 : (List Int)) : Option Bool :=
  jK1 (fun (y7 : Bool) => (if y7 = true then some false else F_impl_areCharts_L1 x0 x1 FU (0))) (fun k8 => Option.bind (F_impl_within (List.length x0 : Int) 1 9) fun u79 =>
  (if (!u79) = true then k8 (true) else k8 (((List.length x1 : Int) != (w64 ((List.length x0 : Int) - 1))))))
def F_impl_isLeast (x0 : Int) : Option Bool :=
  Option.bind (F_impl_within x0 0 80) fun u3 =>
  some u3
def F_impl_IsShow (x0 : ((List (List (Int × Int))) × (List Int) × Int × Int)) : Option Bool :=
  jK1 (fun (y11 : Bool) => some y11) (fun k12 => Option.bind (F_impl_within (List.length x0.1 : Int) 2 8) fun u14 =>
  (if u14 = true then Option.bind (F_impl_areCharts x0.1 x0.2.1) fun u21 =>
  (if u21 = true then Option.bind (F_impl_isLeast x0.2.2.1) fun u28 =>
  (if u28 = true then Option.bind (F_impl_within x0.2.2.2 1 24) fun u35 =>
  k12 (u35) else k12 (false)) else k12 (false)) else k12 (false)))
def F_laws_eqSpot (x0 : (Int × Int)) (x1 : (Int × Int)) : Option Bool :=
  (if (x0.1 != x1.1) = true then some false else (if (x0.2 != x1.2) = true then some false else some true))
def F_laws_eqSpotS_L1 (x0 : (List (Int × Int))) (x1 : (List (Int × Int))) : Nat → Int → Option Bool
  | 0, _ => none
  | m + 1, y11 => (if (decide (y11 < (List.length x0 : Int))) = true then Option.bind (idx x0 y11) fun u25 =>
  Option.bind (idx x1 y11) fun u28 =>
  Option.bind (F_laws_eqSpot u25 u28) fun u31 =>
  (if (!u31) = true then some false else (F_laws_eqSpotS_L1 x0 x1 m) ((w64 (y11 + 1)))) else some true)
def F_laws_eqSpotS (x0 : (List (Int × Int))) (x1 : (List (Int × Int))) : Option Bool :=
  (if ((List.length x0 : Int) != (List.length x1 : Int)) = true then some false else F_laws_eqSpotS_L1 x0 x1 FU (0))
def F_laws_eqSpotSS_L1 (x0 : (List (List (Int × Int)))) (x1 : (List (List (Int × Int)))) : Nat → Int → Option Bool
  | 0, _ => none
  | m + 1, y11 => (if (decide (y11 < (List.length x0 : Int))) = true then Option.bind (idx x0 y11) fun u25 =>
  Option.bind (idx x1 y11) fun u30 =>
  Option.bind (F_laws_eqSpotS u25 u30) fun u35 =>
  (if (!u35) = true then some false else (F_laws_eqSpotSS_L1 x0 x1 m) ((w64 (y11 + 1)))) else some true)
def F_laws_eqSpotSS (x0 : (List (List (Int × Int)))) (x1 : (List (List (Int × Int)))) : Option Bool :=
  (if ((List.length x0 : Int) != (List.length x1 : Int)) = true then some false else F_laws_eqSpotSS_L1 x0 x1 FU (0))
def F_laws_eqIntS_L1 (x0 : (List Int)) (x1 : (List Int)) : Nat → Int → Option Bool
  | 0, _ => none
  | m + 1, y11 => (if (decide (y11 < (List.length x0 : Int))) = true then Option.bind (idx x0 y11) fun u25 =>
  Option.bind (idx x1 y11) fun u28 =>
  (if (u25 != u28) = true then some false else (F_laws_eqIntS_L1 x0 x1 m) ((w64 (y11 + 1)))) else some true)
def F_laws_eqIntS (x0 : (List Int)) (x1 : (List Int)) : Option Bool :=
  (if ((List.length x0 : Int) != (List.length x1 : Int)) = true then some false else F_laws_eqIntS_L1 x0 x1 FU (0))
def F_laws_eqShow (x0 : ((List (List (Int × Int))) × (List Int) × Int × Int)) (x1 : ((List (List (Int × Int))) × (List Int) × Int × Int)) : Option Bool :=
  Option.bind (F_laws_eqSpotSS x0.1 x1.1) fun u14 =>
  (if (!u14) = true then some false else Option.bind (F_laws_eqIntS x0.2.1 x1.2.1) fun u24 =>
  (if (!u24) = true then some false else (if (x0.2.2.1 != x1.2.2.1) = true then some false else (if (x0.2.2.2 != x1.2.2.2) = true then some false else some true))))
def F_laws_FnExactIsShow (x0 : ((List (List (Int × Int))) × (List Int) × Int × Int)) : Option Bool :=
  Option.bind (F_laws_szShow x0 1048576) fun u9 =>
  (if (decide (u9 < 0)) = true then some true else Option.bind (F_laws_toShow x0) fun u20 =>
  Option.bind (F_spec_IsShow u20) fun u30 =>
  Option.bind (F_laws_toShow x0) fun u37 =>
  Option.bind (F_impl_IsShow u37) fun u57 =>
  (if (u57 != u30) = true then some false else Option.bind (F_laws_toShow x0) fun u74 =>
  Option.bind (F_laws_eqShow u37 u74) fun u86 =>
  (if (!u86) = true then some false else some true)))
end Go.Proofs.Ytdjoofkfgiodgaa
