/-
  THE FUNCTIONS of this seat as plain functions, by program (gen.py).
-/
import Derived.Test.YtmbhdelegdhieaaCore0
set_option linter.unusedSimpArgs false
set_option linter.unusedVariables false
set_option maxRecDepth 100000
namespace Go.Proofs.Ytmbhdelegdhieaa
open Go
def eqv_Spot (x y : (Int × Int)) : Bool := (x.1 == y.1) && (x.2 == y.2)
def G_Spot (x : (Int × Int)) : Prop := inI64 x.1 ∧ inI64 x.2
def G_Show (x : ((List (List (Int × Int))) × (List Int) × Int × Int)) : Prop := (allG (allG G_Spot)) x.1 ∧ (allG inI64) x.2.1 ∧ inI64 x.2.2.1 ∧ inI64 x.2.2.2
def G_March (x : (((List (List (Int × Int))) × (List Int) × Int × Int) × Int × (List Int) × (List Int))) : Prop := G_Show x.1 ∧ inI64 x.2.1 ∧ (allG inI64) x.2.2.1 ∧ (allG inI64) x.2.2.2
def G_Measure (x : (Int × Int)) : Prop := inI64 x.1 ∧ inI64 x.2
def G_Cue (x : (Int × (List UInt8))) : Prop := inI64 x.1 ∧ (allG anyG) x.2
def F_laws_szSpotS (x0 : (List (Int × Int))) (x1 : Int) : Option Int :=
  (if (decide ((w64 (x1 - (List.length x0 : Int))) < 0)) = true then some (-1) else some (w64 (x1 - (List.length x0 : Int))))
def F_laws_szSpotSS_L1 (x0 : (List (List (Int × Int)))) : Nat → Int → Int → Option Int
  | 0, _, _ => none
  | m + 1, y12, y13 => (if (decide (y13 < (List.length x0 : Int))) = true then Option.bind (idx x0 y13) fun u22 =>
  Option.bind (F_laws_szSpotS u22 y12) fun u27 =>
  (if (decide (u27 < 0)) = true then some (-1) else (F_laws_szSpotSS_L1 x0 m) (u27) ((w64 (y13 + 1)))) else some y12)
def F_laws_szSpotSS (x0 : (List (List (Int × Int)))) (x1 : Int) : Option Int :=
  (if (decide ((w64 (x1 - (List.length x0 : Int))) < 0)) = true then some (-1) else F_laws_szSpotSS_L1 x0 FU ((w64 (x1 - (List.length x0 : Int)))) (0))
def F_laws_szIntS (x0 : (List Int)) (x1 : Int) : Option Int :=
  (if (decide ((w64 (x1 - (List.length x0 : Int))) < 0)) = true then some (-1) else some (w64 (x1 - (List.length x0 : Int))))
def F_laws_szShow (x0 : ((List (List (Int × Int))) × (List Int) × Int × Int)) (x1 : Int) : Option Int :=
  Option.bind (F_laws_szSpotSS x0.1 x1) fun u8 =>
  (if (decide (u8 < 0)) = true then some (-1) else Option.bind (F_laws_szIntS x0.2.1 u8) fun u19 =>
  (if (decide (u19 < 0)) = true then some (-1) else some u19))
def F_laws_toSpot (x0 : (Int × Int)) : Option (Int × Int) :=
  some x0
def F_laws_toSpotS_L1 (x0 : (List (Int × Int))) : Nat → (List (Int × Int)) → Int → Option (List (Int × Int))
  | 0, _, _ => none
  | m + 1, l15, y18 => (if (decide (y18 < (List.length x0 : Int))) = true then Option.bind (idx x0 y18) fun u26 =>
  Option.bind (F_laws_toSpot u26) fun u29 =>
  Option.bind (idx l15 y18) fun u35 =>
  (F_laws_toSpotS_L1 x0 m) ((seti l15 y18 u29)) ((w64 (y18 + 1))) else some l15)
def F_laws_toSpotS (x0 : (List (Int × Int))) : Option (List (Int × Int)) :=
  Option.bind (mkL (List.length x0 : Int) (0, 0)) fun u3 =>
  F_laws_toSpotS_L1 x0 FU (u3) (0)
def F_laws_toSpotSS_L1 (x0 : (List (List (Int × Int)))) : Nat → (List (List (Int × Int))) → Int → Option (List (List (Int × Int)))
  | 0, _, _ => none
  | m + 1, l15, y18 => (if (decide (y18 < (List.length x0 : Int))) = true then Option.bind (idx x0 y18) fun u26 =>
  Option.bind (F_laws_toSpotS u26) fun u31 =>
  Option.bind (idx l15 y18) fun u39 =>
  (F_laws_toSpotSS_L1 x0 m) ((seti l15 y18 u31)) ((w64 (y18 + 1))) else some l15)
def F_laws_toSpotSS (x0 : (List (List (Int × Int)))) : Option (List (List (Int × Int))) :=
  Option.bind (mkL (List.length x0 : Int) []) fun u3 =>
  F_laws_toSpotSS_L1 x0 FU (u3) (0)
def F_laws_toIntS_L1 (x0 : (List Int)) : Nat → (List Int) → Int → Option (List Int)
  | 0, _, _ => none
  | m + 1, l15, y18 => (if (decide (y18 < (List.length x0 : Int))) = true then Option.bind (idx x0 y18) fun u26 =>
  Option.bind (idx l15 y18) fun u29 =>
  (F_laws_toIntS_L1 x0 m) ((seti l15 y18 u26)) ((w64 (y18 + 1))) else some l15)
def F_laws_toIntS (x0 : (List Int)) : Option (List Int) :=
  Option.bind (mkL (List.length x0 : Int) 0) fun u3 =>
  F_laws_toIntS_L1 x0 FU (u3) (0)
def F_laws_toShow (x0 : ((List (List (Int × Int))) × (List Int) × Int × Int)) : Option ((List (List (Int × Int))) × (List Int) × Int × Int) :=
  Option.bind (F_laws_toSpotSS x0.1) fun u19 =>
  Option.bind (F_laws_toIntS x0.2.1) fun u32 =>
  some (u19, u32, x0.2.2.1, x0.2.2.2)
def F_spec_l1In (x0 : Int) (x1 : Int) (x2 : Int) : Option Bool :=
  jK1 (fun (y6 : Bool) => some y6) (fun k7 => (if (decide (x1 ≤ x0)) = true then k7 ((decide (x0 ≤ x2))) else k7 (false)))
def F_spec_stGood (x0 : (Int × Int)) : Option Bool :=
  jK1 (fun (y11 : Bool) => some y11) (fun k12 => Option.bind (F_spec_l1In x0.1 0 1280) fun u14 =>
  (if u14 = true then Option.bind (F_spec_l1In x0.2 0 672) fun u21 =>
  k12 (u21) else k12 (false)))
def F_spec_chGood_L2 (u39 : (List (Int × Int))) (u16 : (Int × Int)) (nx8 : (Int → Option Bool)) (y7 : Int) : Nat → Int → Option Bool
  | 0, _ => none
  | m + 1, y45 => (if (decide (y45 < (List.length u39 : Int))) = true then Option.bind (idx u39 y45) fun u54 =>
  (if (eqv_Spot u16 u54) = true then some false else (F_spec_chGood_L2 u39 u16 nx8 y7 m) ((w64 (y45 + 1)))) else nx8 ((w64 (y7 + 1))))
def F_spec_chGood_L1 (x0 : (List (Int × Int))) : Nat → Int → Option Bool
  | 0, _ => none
  | m + 1, y7 => (if (decide (y7 < (List.length x0 : Int))) = true then Option.bind (idx x0 y7) fun u16 =>
  Option.bind (F_spec_stGood u16) fun u30 =>
  (if (!u30) = true then some false else Option.bind (sl x0 0 y7) fun u39 =>
  F_spec_chGood_L2 u39 u16 (F_spec_chGood_L1 x0 m) y7 FU (0)) else Option.bind (F_spec_l1In (List.length x0 : Int) 1 12) fun u70 =>
  some u70)
def F_spec_chGood (x0 : (List (Int × Int))) : Option Bool :=
  F_spec_chGood_L1 x0 FU (0)
def F_spec_l1All_L1 (x0 : (List Int)) (x1 : Int) (x2 : Int) : Nat → Int → Option Bool
  | 0, _ => none
  | m + 1, y7 => (if (decide (y7 < (List.length x0 : Int))) = true then Option.bind (idx x0 y7) fun u16 =>
  Option.bind (F_spec_l1In u16 x1 x2) fun u20 =>
  (if (!u20) = true then some false else (F_spec_l1All_L1 x0 x1 x2 m) ((w64 (y7 + 1)))) else some true)
def F_spec_l1All (x0 : (List Int)) (x1 : Int) (x2 : Int) : Option Bool :=
  F_spec_l1All_L1 x0 x1 x2 FU (0)
def F_spec_apDistance (x0 : Int) : Option Bool :=
  Option.bind (F_spec_l1In x0 0 80) fun u3 =>
  some u3
def F_spec_mvStep (x0 : Int) : Option Bool :=
  Option.bind (F_spec_l1In x0 1 24) fun u3 =>
  some u3
def F_spec_swGood_L1 (x0 : ((List (List (Int × Int))) × (List Int) × Int × Int)) : Nat → Int → Option Bool
  | 0, _ => none
  | m + 1, y12 => (if (decide (y12 < (List.length x0.1 : Int))) = true then Option.bind (idx x0.1 y12) fun u21 =>
  jK1 (fun (y30 : Bool) => (if y30 = true then some false else (F_spec_swGood_L1 x0 m) ((w64 (y12 + 1))))) (fun k31 => Option.bind (F_spec_chGood u21) fun u35 =>
  (if (!u35) = true then k31 (true) else Option.bind (idx x0.1 0) fun u42 =>
  k31 (((List.length u21 : Int) != (List.length u42 : Int))))) else jK1 (fun (y51 : Bool) => some y51) (fun k52 => Option.bind (F_spec_l1In (List.length x0.1 : Int) 2 8) fun u54 =>
  (if u54 = true then (if ((List.length x0.2.1 : Int) == (w64 ((List.length x0.1 : Int) - 1))) = true then Option.bind (F_spec_l1All x0.2.1 1 64) fun u62 =>
  (if u62 = true then Option.bind (F_spec_apDistance x0.2.2.1) fun u69 =>
  (if u69 = true then Option.bind (F_spec_mvStep x0.2.2.2) fun u76 =>
  k52 (u76) else k52 (false)) else k52 (false)) else k52 (false)) else k52 (false))))
def F_spec_swGood (x0 : ((List (List (Int × Int))) × (List Int) × Int × Int)) : Option Bool :=
  F_spec_swGood_L1 x0 FU (0)
def F_spec_IsShow (x0 : ((List (List (Int × Int))) × (List Int) × Int × Int)) : Option Bool :=
  Option.bind (F_spec_swGood x0) fun u8 =>
  some u8
def F_impl_within (x0 : Int) (x1 : Int) (x2 : Int) : Option Bool :=
  jK1 (fun (y6 : Bool) => some y6) (fun k7 => (if (decide (x1 ≤ x0)) = true then k7 ((decide (x0 ≤ x2))) else k7 (false)))
def F_impl_IsSpot (x0 : (Int × Int)) : Option Bool :=
  jK1 (fun (y11 : Bool) => some y11) (fun k12 => Option.bind (F_impl_within x0.1 0 1280) fun u14 =>
  (if u14 = true then Option.bind (F_impl_within x0.2 0 672) fun u21 =>
  k12 (u21) else k12 (false)))
def F_slices_Index_impl_Spot_impl_Spot_L1 (x0 : (List (Int × Int))) (x1 : (Int × Int)) : Nat → Int → Option Int
  | 0, _ => none
  | m + 1, y12 => (if (decide (y12 < (List.length x0 : Int))) = true then Option.bind (idx x0 y12) fun u27 =>
  (if (eqv_Spot x1 u27) = true then some y12 else (F_slices_Index_impl_Spot_impl_Spot_L1 x0 x1 m) ((w64 (y12 + 1)))) else some (-1))
def F_slices_Index_impl_Spot_impl_Spot (x0 : (List (Int × Int))) (x1 : (Int × Int)) : Option Int :=
  F_slices_Index_impl_Spot_impl_Spot_L1 x0 x1 FU (0)
def F_slices_Contains_impl_Spot_impl_Spot (x0 : (List (Int × Int))) (x1 : (Int × Int)) : Option Bool :=
  Option.bind (F_slices_Index_impl_Spot_impl_Spot x0 x1) fun u8 =>
  some (decide (0 ≤ u8))
def F_impl_IsChart_L1 (x0 : (List (Int × Int))) : Nat → Int → Option Bool
  | 0, _ => none
  | m + 1, y17 => (if (decide (y17 < (List.length x0 : Int))) = true then Option.bind (idx x0 y17) fun u26 =>
  jK1 (fun (y42 : Bool) => (if y42 = true then some false else (F_impl_IsChart_L1 x0 m) ((w64 (y17 + 1))))) (fun k43 => Option.bind (F_impl_IsSpot u26) fun u52 =>
  (if (!u52) = true then k43 (true) else Option.bind (sl x0 0 y17) fun u61 =>
  Option.bind (F_slices_Contains_impl_Spot_impl_Spot u61 u26) fun u64 =>
  k43 (u64))) else some true)
def F_impl_IsChart (x0 : (List (Int × Int))) : Option Bool :=
  Option.bind (F_impl_within (List.length x0 : Int) 1 12) fun u4 =>
  (if (!u4) = true then some false else F_impl_IsChart_L1 x0 FU (0))
def F_impl_areCharts_L2 (x1 : (List Int)) : Nat → Int → Option Bool
  | 0, _ => none
  | m + 1, y57 => (if (decide (y57 < (List.length x1 : Int))) = true then Option.bind (idx x1 y57) fun u66 =>
  Option.bind (F_impl_within u66 1 64) fun u70 =>
  (if (!u70) = true then some false else (F_impl_areCharts_L2 x1 m) ((w64 (y57 + 1)))) else some true)
def F_impl_areCharts_L1 (x0 : (List (List (Int × Int)))) (x1 : (List Int)) : Nat → Int → Option Bool
  | 0, _ => none
  | m + 1, y17 => (if (decide (y17 < (List.length x0 : Int))) = true then Option.bind (idx x0 y17) fun u26 =>
  jK1 (fun (y35 : Bool) => (if y35 = true then some false else (F_impl_areCharts_L1 x0 x1 m) ((w64 (y17 + 1))))) (fun k36 => Option.bind (F_impl_IsChart u26) fun u40 =>
  (if (!u40) = true then k36 (true) else Option.bind (idx x0 0) fun u47 =>
  k36 (((List.length u26 : Int) != (List.length u47 : Int))))) else F_impl_areCharts_L2 x1 FU (0))
def F_impl_areCharts (x0 : (List (List (Int × Int)))) (x1 : (List Int)) : Option Bool :=
  jK1 (fun (y7 : Bool) => (if y7 = true then some false else F_impl_areCharts_L1 x0 x1 FU (0))) (fun k8 => Option.bind (F_impl_within (List.length x0 : Int) 1 9) fun u79 =>
  (if (!u79) = true then k8 (true) else k8 (((List.length x1 : Int) != (w64 ((List.length x0 : Int) - 1))))))
def F_impl_isLeast (x0 : Int) : Option Bool :=
  Option.bind (F_impl_within x0 0 80) fun u3 =>
  some u3
def F_impl_IsShow (x0 : ((List (List (Int × Int))) × (List Int) × Int × Int)) : Option Bool :=
  jK1 (fun (y11 : Bool) => some y11) (fun k12 => Option.bind (F_impl_within (List.length x0.1 : Int) 2 8) fun u14 =>
  (if u14 = true then Option.bind (F_impl_areCharts x0.1 x0.2.1) fun u21 =>
  (if u21 = true then Option.bind (F_impl_isLeast x0.2.2.1) fun u28 =>
  (if u28 = true then Option.bind (F_impl_within x0.2.2.2 1 24) fun u35 =>
  k12 (u35) else k12 (false)) else k12 (false)) else k12 (false)))
def F_laws_eqSpot (x0 : (Int × Int)) (x1 : (Int × Int)) : Option Bool :=
  (if (x0.1 != x1.1) = true then some false else (if (x0.2 != x1.2) = true then some false else some true))
def F_laws_eqSpotS_L1 (x0 : (List (Int × Int))) (x1 : (List (Int × Int))) : Nat → Int → Option Bool
  | 0, _ => none
  | m + 1, y11 => (if (decide (y11 < (List.length x0 : Int))) = true then Option.bind (idx x0 y11) fun u25 =>
  Option.bind (idx x1 y11) fun u28 =>
  Option.bind (F_laws_eqSpot u25 u28) fun u31 =>
  (if (!u31) = true then some false else (F_laws_eqSpotS_L1 x0 x1 m) ((w64 (y11 + 1)))) else some true)
def F_laws_eqSpotS (x0 : (List (Int × Int))) (x1 : (List (Int × Int))) : Option Bool :=
  (if ((List.length x0 : Int) != (List.length x1 : Int)) = true then some false else F_laws_eqSpotS_L1 x0 x1 FU (0))
def F_laws_eqSpotSS_L1 (x0 : (List (List (Int × Int)))) (x1 : (List (List (Int × Int)))) : Nat → Int → Option Bool
  | 0, _ => none
  | m + 1, y11 => (if (decide (y11 < (List.length x0 : Int))) = true then Option.bind (idx x0 y11) fun u25 =>
  Option.bind (idx x1 y11) fun u30 =>
  Option.bind (F_laws_eqSpotS u25 u30) fun u35 =>
  (if (!u35) = true then some false else (F_laws_eqSpotSS_L1 x0 x1 m) ((w64 (y11 + 1)))) else some true)
def F_laws_eqSpotSS (x0 : (List (List (Int × Int)))) (x1 : (List (List (Int × Int)))) : Option Bool :=
  (if ((List.length x0 : Int) != (List.length x1 : Int)) = true then some false else F_laws_eqSpotSS_L1 x0 x1 FU (0))
def F_laws_eqIntS_L1 (x0 : (List Int)) (x1 : (List Int)) : Nat → Int → Option Bool
  | 0, _ => none
  | m + 1, y11 => (if (decide (y11 < (List.length x0 : Int))) = true then Option.bind (idx x0 y11) fun u25 =>
  Option.bind (idx x1 y11) fun u28 =>
  (if (u25 != u28) = true then some false else (F_laws_eqIntS_L1 x0 x1 m) ((w64 (y11 + 1)))) else some true)
def F_laws_eqIntS (x0 : (List Int)) (x1 : (List Int)) : Option Bool :=
  (if ((List.length x0 : Int) != (List.length x1 : Int)) = true then some false else F_laws_eqIntS_L1 x0 x1 FU (0))
def F_laws_eqShow (x0 : ((List (List (Int × Int))) × (List Int) × Int × Int)) (x1 : ((List (List (Int × Int))) × (List Int) × Int × Int)) : Option Bool :=
  Option.bind (F_laws_eqSpotSS x0.1 x1.1) fun u14 =>
  (if (!u14) = true then some false else Option.bind (F_laws_eqIntS x0.2.1 x1.2.1) fun u24 =>
  (if (!u24) = true then some false else (if (x0.2.2.1 != x1.2.2.1) = true then some false else (if (x0.2.2.2 != x1.2.2.2) = true then some false else some true))))
def F_laws_FnExactIsShow (x0 : ((List (List (Int × Int))) × (List Int) × Int × Int)) : Option Bool :=
  Option.bind (F_laws_szShow x0 1048576) fun u9 =>
  (if (decide (u9 < 0)) = true then some true else Option.bind (F_laws_toShow x0) fun u20 =>
  Option.bind (F_spec_IsShow u20) fun u30 =>
  Option.bind (F_laws_toShow x0) fun u37 =>
  Option.bind (F_impl_IsShow u37) fun u57 =>
  (if (u57 != u30) = true then some false else Option.bind (F_laws_toShow x0) fun u74 =>
  Option.bind (F_laws_eqShow u37 u74) fun u86 =>
  (if (!u86) = true then some false else some true)))
def F_spec_swTotal_L1 (x0 : ((List (List (Int × Int))) × (List Int) × Int × Int)) : Nat → Int → Int → Option Int
  | 0, _, _ => none
  | m + 1, y13, y14 => (if (decide (y14 < (List.length x0.2.1 : Int))) = true then Option.bind (idx x0.2.1 y14) fun u23 =>
  (F_spec_swTotal_L1 x0 m) ((w64 (y13 + u23))) ((w64 (y14 + 1))) else some y13)
def F_spec_swTotal (x0 : ((List (List (Int × Int))) × (List Int) × Int × Int)) : Option Int :=
  F_spec_swTotal_L1 x0 FU (0) (0)
def F_spec_TotalCounts (x0 : ((List (List (Int × Int))) × (List Int) × Int × Int)) : Option (Int × Bool) :=
  Option.bind (F_spec_swGood x0) fun u9 =>
  (if (!u9) = true then some (0, false) else Option.bind (F_spec_swTotal x0) fun u18 =>
  some (u18, true))
def F_impl_totalCounts_L1 (x0 : ((List (List (Int × Int))) × (List Int) × Int × Int)) : Nat → Int → Int → Option Int
  | 0, _, _ => none
  | m + 1, y13, y14 => (if (decide (y14 < (List.length x0.2.1 : Int))) = true then Option.bind (idx x0.2.1 y14) fun u23 =>
  (F_impl_totalCounts_L1 x0 m) ((w64 (y13 + u23))) ((w64 (y14 + 1))) else some y13)
def F_impl_totalCounts (x0 : ((List (List (Int × Int))) × (List Int) × Int × Int)) : Option Int :=
  F_impl_totalCounts_L1 x0 FU (0) (0)
def F_impl_TotalCounts (x0 : ((List (List (Int × Int))) × (List Int) × Int × Int)) : Option (Int × Bool) :=
  Option.bind (F_impl_IsShow x0) fun u9 =>
  (if (!u9) = true then some (0, false) else Option.bind (F_impl_totalCounts x0) fun u18 =>
  some (u18, true))
def F_laws_FnExactTotalCounts (x0 : ((List (List (Int × Int))) × (List Int) × Int × Int)) : Option Bool :=
  Option.bind (F_laws_szShow x0 1048576) fun u9 =>
  (if (decide (u9 < 0)) = true then some true else Option.bind (F_laws_toShow x0) fun u20 =>
  Option.bind (F_spec_TotalCounts u20) fun u30 =>
  Option.bind (F_laws_toShow x0) fun u37 =>
  Option.bind (F_impl_TotalCounts u37) fun u57 =>
  jK1 (fun (y68 : Bool) => (if y68 = true then some false else Option.bind (F_laws_toShow x0) fun u80 =>
  Option.bind (F_laws_eqShow u37 u80) fun u92 =>
  (if (!u92) = true then some false else some true))) (fun k69 => (if (u57.1 != u30.1) = true then k69 (true) else k69 ((u57.2 != u30.2)))))
def F_laws_szMeasureS (x0 : (List (Int × Int))) (x1 : Int) : Option Int :=
  (if (decide ((w64 (x1 - (List.length x0 : Int))) < 0)) = true then some (-1) else some (w64 (x1 - (List.length x0 : Int))))
def F_laws_szCue (x0 : (Int × (List UInt8))) (x1 : Int) : Option Int :=
  (if (decide ((w64 (x1 - (List.length x0.2 : Int))) < 0)) = true then some (-1) else some (w64 (x1 - (List.length x0.2 : Int))))
def F_laws_szCueS_L1 (x0 : (List (Int × (List UInt8)))) : Nat → Int → Int → Option Int
  | 0, _, _ => none
  | m + 1, y12, y13 => (if (decide (y13 < (List.length x0 : Int))) = true then Option.bind (idx x0 y13) fun u22 =>
  Option.bind (F_laws_szCue u22 y12) fun u25 =>
  (if (decide (u25 < 0)) = true then some (-1) else (F_laws_szCueS_L1 x0 m) (u25) ((w64 (y13 + 1)))) else some y12)
def F_laws_szCueS (x0 : (List (Int × (List UInt8)))) (x1 : Int) : Option Int :=
  (if (decide ((w64 (x1 - (List.length x0 : Int))) < 0)) = true then some (-1) else F_laws_szCueS_L1 x0 FU ((w64 (x1 - (List.length x0 : Int)))) (0))
def F_laws_toMeasure (x0 : (Int × Int)) : Option (Int × Int) :=
  some x0
def F_laws_toMeasureS_L1 (x0 : (List (Int × Int))) : Nat → (List (Int × Int)) → Int → Option (List (Int × Int))
  | 0, _, _ => none
  | m + 1, l15, y18 => (if (decide (y18 < (List.length x0 : Int))) = true then Option.bind (idx x0 y18) fun u26 =>
  Option.bind (F_laws_toMeasure u26) fun u29 =>
  Option.bind (idx l15 y18) fun u35 =>
  (F_laws_toMeasureS_L1 x0 m) ((seti l15 y18 u29)) ((w64 (y18 + 1))) else some l15)
def F_laws_toMeasureS (x0 : (List (Int × Int))) : Option (List (Int × Int)) :=
  Option.bind (mkL (List.length x0 : Int) (0, 0)) fun u3 =>
  F_laws_toMeasureS_L1 x0 FU (u3) (0)
def F_laws_toCue (x0 : (Int × (List UInt8))) : Option (Int × (List UInt8)) :=
  some x0
def F_laws_toCueS_L1 (x0 : (List (Int × (List UInt8)))) : Nat → (List (Int × (List UInt8))) → Int → Option (List (Int × (List UInt8)))
  | 0, _, _ => none
  | m + 1, l15, y18 => (if (decide (y18 < (List.length x0 : Int))) = true then Option.bind (idx x0 y18) fun u26 =>
  Option.bind (F_laws_toCue u26) fun u29 =>
  Option.bind (idx l15 y18) fun u35 =>
  (F_laws_toCueS_L1 x0 m) ((seti l15 y18 u29)) ((w64 (y18 + 1))) else some l15)
def F_laws_toCueS (x0 : (List (Int × (List UInt8)))) : Option (List (Int × (List UInt8))) :=
  Option.bind (mkL (List.length x0 : Int) (0, [])) fun u3 =>
  F_laws_toCueS_L1 x0 FU (u3) (0)
def F_spec_muMeasure (x0 : (Int × Int)) : Option Bool :=
  jK1 (fun (y11 : Bool) => some y11) (fun k12 => Option.bind (F_spec_l1In x0.1 1 12) fun u14 =>
  (if u14 = true then Option.bind (F_spec_l1In x0.2 40 220) fun u21 =>
  k12 (u21) else k12 (false)))
def F_spec_muGood_L1 (x0 : (List (Int × Int))) : Nat → Int → Option Bool
  | 0, _ => none
  | m + 1, y7 => (if (decide (y7 < (List.length x0 : Int))) = true then Option.bind (idx x0 y7) fun u16 =>
  Option.bind (F_spec_muMeasure u16) fun u29 =>
  (if (!u29) = true then some false else (F_spec_muGood_L1 x0 m) ((w64 (y7 + 1)))) else Option.bind (F_spec_l1In (List.length x0 : Int) 1 40) fun u38 =>
  some u38)
def F_spec_muGood (x0 : (List (Int × Int))) : Option Bool :=
  F_spec_muGood_L1 x0 FU (0)
def F_spec_muCounts_L1 (x0 : (List (Int × Int))) : Nat → Int → Int → Option Int
  | 0, _, _ => none
  | m + 1, y8, y9 => (if (decide (y9 < (List.length x0 : Int))) = true then Option.bind (idx x0 y9) fun u18 =>
  (F_spec_muCounts_L1 x0 m) ((w64 (y8 + u18.1))) ((w64 (y9 + 1))) else some y8)
def F_spec_muCounts (x0 : (List (Int × Int))) : Option Int :=
  F_spec_muCounts_L1 x0 FU (0) (0)
def F_spec_tiName_L1 (x0 : (List UInt8)) : Nat → Int → Option Bool
  | 0, _ => none
  | m + 1, y7 => (if (decide (y7 < (List.length x0 : Int))) = true then jK1 (fun (y19 : Bool) => (if y19 = true then some false else (F_spec_tiName_L1 x0 m) ((w64 (y7 + 1))))) (fun k20 => Option.bind (idx x0 y7) fun u24 =>
  (if (decide ((UInt8.toNat u24 : Int) < 97)) = true then k20 (true) else Option.bind (idx x0 y7) fun u26 =>
  k20 ((decide (122 < (UInt8.toNat u26 : Int)))))) else Option.bind (F_spec_l1In (List.length x0 : Int) 1 8) fun u28 =>
  some u28)
def F_spec_tiName (x0 : (List UInt8)) : Option Bool :=
  F_spec_tiName_L1 x0 FU (0)
def F_spec_tiCues_L2 (u39 : (List (Int × (List UInt8)))) (u16 : (Int × (List UInt8))) (nx8 : (Int → Option Bool)) (y7 : Int) : Nat → Int → Option Bool
  | 0, _ => none
  | m + 1, y45 => (if (decide (y45 < (List.length u39 : Int))) = true then Option.bind (idx u39 y45) fun u54 =>
  (if (u54.2 == u16.2) = true then some false else (F_spec_tiCues_L2 u39 u16 nx8 y7 m) ((w64 (y45 + 1)))) else nx8 ((w64 (y7 + 1))))
def F_spec_tiCues_L1 (x1 : (List (Int × (List UInt8)))) (x0 : (List (Int × Int))) : Nat → Int → Option Bool
  | 0, _ => none
  | m + 1, y7 => (if (decide (y7 < (List.length x1 : Int))) = true then Option.bind (idx x1 y7) fun u16 =>
  jK1 (fun (y33 : Bool) => (if y33 = true then some false else Option.bind (sl x1 0 y7) fun u39 =>
  F_spec_tiCues_L2 u39 u16 (F_spec_tiCues_L1 x1 x0 m) y7 FU (0))) (fun k34 => Option.bind (F_spec_muCounts x0) fun u74 =>
  Option.bind (F_spec_l1In u16.1 0 (w64 (u74 - 1))) fun u82 =>
  (if (!u82) = true then k34 (true) else Option.bind (F_spec_tiName u16.2) fun u91 =>
  (if (!u91) = true then k34 (true) else (if (decide (0 < y7)) = true then Option.bind (idx x1 (w64 (y7 - 1))) fun u101 =>
  k34 ((decide (u16.1 ≤ u101.1))) else k34 (false))))) else some (decide ((List.length x1 : Int) ≤ 30)))
def F_spec_tiCues (x0 : (List (Int × Int))) (x1 : (List (Int × (List UInt8)))) : Option Bool :=
  F_spec_tiCues_L1 x1 x0 FU (0)
def F_spec_tiGood (x0 : (List (Int × Int))) (x1 : (List (Int × (List UInt8)))) : Option Bool :=
  jK1 (fun (y6 : Bool) => some y6) (fun k7 => Option.bind (F_spec_muGood x0) fun u9 =>
  (if u9 = true then Option.bind (F_spec_tiCues x0 x1) fun u16 =>
  k7 (u16) else k7 (false)))
def F_spec_tiTime (x0 : Int) : Option Bool :=
  Option.bind (F_spec_l1In x0 0 1000000) fun u3 =>
  some u3
def F_spec_muLasts (x0 : Int) (x1 : Int) : Option Int :=
  (if x1 = 0 then none else some (w64 (Int.tdiv (w64 (60000 * x0)) x1)))
def F_spec_muTime_L1 (x0 : (List (Int × Int))) : Nat → Int → Int → Int → Option Int
  | 0, _, _, _ => none
  | m + 1, y8, y9, y10 => (if (decide (y10 < (List.length x0 : Int))) = true then Option.bind (idx x0 y10) fun u19 =>
  (if (decide (y8 < u19.1)) = true then Option.bind (F_spec_muLasts y8 u19.2) fun u35 =>
  some (w64 (y9 + u35)) else Option.bind (F_spec_muLasts u19.1 u19.2) fun u42 =>
  (F_spec_muTime_L1 x0 m) ((w64 (y8 - u19.1))) ((w64 (y9 + u42))) ((w64 (y10 + 1)))) else some y9)
def F_spec_muTime (x0 : (List (Int × Int))) (x1 : Int) : Option Int :=
  F_spec_muTime_L1 x0 FU (x1) (0) (0)
def F_spec_tiTimes_L1 (x1 : (List (Int × (List UInt8)))) (x0 : (List (Int × Int))) : Nat → (List Int) → Int → Option (List Int)
  | 0, _, _ => none
  | m + 1, l8, y11 => (if (decide (y11 < (List.length x1 : Int))) = true then Option.bind (idx x1 y11) fun u21 =>
  Option.bind (F_spec_muTime x0 u21.1) fun u33 =>
  Option.bind (app l8 [u33]) fun u45 =>
  (F_spec_tiTimes_L1 x1 x0 m) (u45) ((w64 (y11 + 1))) else some l8)
def F_spec_tiTimes (x0 : (List (Int × Int))) (x1 : (List (Int × (List UInt8)))) : Option (List Int) :=
  F_spec_tiTimes_L1 x1 x0 FU ([]) (0)
def F_spec_LastCueAt_L1 (u15 : (List Int)) (x2 : Int) : Nat → Int → Int → Option (Int × Bool)
  | 0, _, _ => none
  | m + 1, y26, y27 => (if (decide (y27 < (List.length u15 : Int))) = true then jK1 (fun (y38 : Int) => (F_spec_LastCueAt_L1 u15 x2 m) (y38) ((w64 (y27 + 1)))) (fun k39 => Option.bind (idx u15 y27) fun u42 =>
  (if (decide (u42 ≤ x2)) = true then k39 (y27) else k39 (y26))) else (if (decide (y26 < 0)) = true then some (0, false) else some (y26, true)))
def F_spec_LastCueAt (x0 : (List (Int × Int))) (x1 : (List (Int × (List UInt8)))) (x2 : Int) : Option (Int × Bool) :=
  jK1 (fun (y7 : Bool) => (if y7 = true then some (0, false) else Option.bind (F_spec_tiTimes x0 x1) fun u15 =>
  F_spec_LastCueAt_L1 u15 x2 FU ((-1)) (0))) (fun k8 => Option.bind (F_spec_tiGood x0 x1) fun u53 =>
  (if (!u53) = true then k8 (true) else Option.bind (F_spec_tiTime x2) fun u60 =>
  k8 ((!u60))))
def F_impl_IsMusic_L1 (x0 : (List (Int × Int))) : Nat → Int → Option Bool
  | 0, _ => none
  | m + 1, y7 => (if (decide (y7 < (List.length x0 : Int))) = true then Option.bind (idx x0 y7) fun u16 =>
  jK1 (fun (y32 : Bool) => (if y32 = true then some false else (F_impl_IsMusic_L1 x0 m) ((w64 (y7 + 1))))) (fun k33 => Option.bind (F_impl_within u16.1 1 12) fun u37 =>
  (if (!u37) = true then k33 (true) else Option.bind (F_impl_within u16.2 40 220) fun u44 =>
  k33 ((!u44)))) else Option.bind (F_impl_within (List.length x0 : Int) 1 40) fun u51 =>
  some u51)
def F_impl_IsMusic (x0 : (List (Int × Int))) : Option Bool :=
  F_impl_IsMusic_L1 x0 FU (0)
def F_impl_countsOf_L1 (x0 : (List (Int × Int))) : Nat → Int → Int → Option Int
  | 0, _, _ => none
  | m + 1, y8, y9 => (if (decide (y9 < (List.length x0 : Int))) = true then Option.bind (idx x0 y9) fun u18 =>
  (F_impl_countsOf_L1 x0 m) ((w64 (y8 + u18.1))) ((w64 (y9 + 1))) else some y8)
def F_impl_countsOf (x0 : (List (Int × Int))) : Option Int :=
  F_impl_countsOf_L1 x0 FU (0) (0)
def F_impl_isName_L1 (x0 : (List UInt8)) : Nat → Int → Option Bool
  | 0, _ => none
  | m + 1, y7 => (if (decide (y7 < (List.length x0 : Int))) = true then jK1 (fun (y19 : Bool) => (if y19 = true then some false else (F_impl_isName_L1 x0 m) ((w64 (y7 + 1))))) (fun k20 => Option.bind (idx x0 y7) fun u24 =>
  (if (decide ((UInt8.toNat u24 : Int) < 97)) = true then k20 (true) else Option.bind (idx x0 y7) fun u26 =>
  k20 ((decide (122 < (UInt8.toNat u26 : Int)))))) else Option.bind (F_impl_within (List.length x0 : Int) 1 12) fun u28 =>
  some u28)
def F_impl_isName (x0 : (List UInt8)) : Option Bool :=
  F_impl_isName_L1 x0 FU (0)
def F_impl_isTime (x0 : Int) : Option Bool :=
  Option.bind (F_impl_within x0 0 1000000) fun u3 =>
  some u3
def F_impl_timeOf_L1 (x0 : (List (Int × Int))) : Nat → Int → Int → Int → Option Int
  | 0, _, _, _ => none
  | m + 1, y8, y9, y10 => (if (decide (y10 < (List.length x0 : Int))) = true then Option.bind (idx x0 y10) fun u19 =>
  (if (decide (y8 < u19.1)) = true then (if u19.2 = 0 then none else some (w64 (y9 + (w64 (Int.tdiv (w64 (60000 * y8)) u19.2))))) else (if u19.2 = 0 then none else (F_impl_timeOf_L1 x0 m) ((w64 (y8 - u19.1))) ((w64 (y9 + (w64 (Int.tdiv (w64 (60000 * u19.1)) u19.2))))) ((w64 (y10 + 1))))) else some y9)
def F_impl_timeOf (x0 : (List (Int × Int))) (x1 : Int) : Option Int :=
  F_impl_timeOf_L1 x0 FU (x1) (0) (0)
def F_impl_cueTimes_L1 (x1 : (List (Int × (List UInt8)))) (x0 : (List (Int × Int))) : Nat → (List Int) → Int → Option (List Int)
  | 0, _, _ => none
  | m + 1, l14, y17 => (if (decide (y17 < (List.length x1 : Int))) = true then Option.bind (idx x1 y17) fun u26 =>
  Option.bind (F_impl_timeOf x0 u26.1) fun u38 =>
  Option.bind (app l14 [u38]) fun u50 =>
  (F_impl_cueTimes_L1 x1 x0 m) (u50) ((w64 (y17 + 1))) else some l14)
def F_impl_cueTimes (x0 : (List (Int × Int))) (x1 : (List (Int × (List UInt8)))) : Option (List Int) :=
  F_impl_cueTimes_L1 x1 x0 FU ([]) (0)
def F_laws_eqMeasure (x0 : (Int × Int)) (x1 : (Int × Int)) : Option Bool :=
  (if (x0.1 != x1.1) = true then some false else (if (x0.2 != x1.2) = true then some false else some true))
def F_laws_eqMeasureS_L1 (x0 : (List (Int × Int))) (x1 : (List (Int × Int))) : Nat → Int → Option Bool
  | 0, _ => none
  | m + 1, y11 => (if (decide (y11 < (List.length x0 : Int))) = true then Option.bind (idx x0 y11) fun u25 =>
  Option.bind (idx x1 y11) fun u28 =>
  Option.bind (F_laws_eqMeasure u25 u28) fun u31 =>
  (if (!u31) = true then some false else (F_laws_eqMeasureS_L1 x0 x1 m) ((w64 (y11 + 1)))) else some true)
def F_laws_eqMeasureS (x0 : (List (Int × Int))) (x1 : (List (Int × Int))) : Option Bool :=
  (if ((List.length x0 : Int) != (List.length x1 : Int)) = true then some false else F_laws_eqMeasureS_L1 x0 x1 FU (0))
def F_laws_eqCue (x0 : (Int × (List UInt8))) (x1 : (Int × (List UInt8))) : Option Bool :=
  (if (x0.1 != x1.1) = true then some false else (if (x0.2 != x1.2) = true then some false else some true))
def F_laws_eqCueS_L1 (x0 : (List (Int × (List UInt8)))) (x1 : (List (Int × (List UInt8)))) : Nat → Int → Option Bool
  | 0, _ => none
  | m + 1, y11 => (if (decide (y11 < (List.length x0 : Int))) = true then Option.bind (idx x0 y11) fun u25 =>
  Option.bind (idx x1 y11) fun u28 =>
  Option.bind (F_laws_eqCue u25 u28) fun u31 =>
  (if (!u31) = true then some false else (F_laws_eqCueS_L1 x0 x1 m) ((w64 (y11 + 1)))) else some true)
def F_laws_eqCueS (x0 : (List (Int × (List UInt8)))) (x1 : (List (Int × (List UInt8)))) : Option Bool :=
  (if ((List.length x0 : Int) != (List.length x1 : Int)) = true then some false else F_laws_eqCueS_L1 x0 x1 FU (0))
def F_spec_tiIf (x0 : (List (Int × Int))) (x1 : (List (Int × (List UInt8)))) : Option ((List (Int × (List UInt8))) × Bool) :=
  Option.bind (F_spec_tiCues x0 x1) fun u4 =>
  (if (!u4) = true then some ([], false) else Option.bind (app [] x1) fun u20 =>
  some (u20, true))
def F_spec_ShiftCues_L1 (u20 : (List (Int × (List UInt8)))) (x2 : Int) (x0 : (List (Int × Int))) : Nat → (List (Int × (List UInt8))) → Int → Option ((List (Int × (List UInt8))) × Bool)
  | 0, _, _ => none
  | m + 1, l32, y35 => (if (decide (y35 < (List.length u20 : Int))) = true then Option.bind (idx l32 y35) fun u44 =>
  Option.bind (idx l32 y35) fun u48 =>
  (F_spec_ShiftCues_L1 u20 x2 x0 m) ((seti l32 y35 ((w64 (u44.1 + x2)), u48.2))) ((w64 (y35 + 1))) else Option.bind (F_spec_tiIf x0 l32) fun u57 =>
  some u57)
def F_spec_ShiftCues (x0 : (List (Int × Int))) (x1 : (List (Int × (List UInt8)))) (x2 : Int) : Option ((List (Int × (List UInt8))) × Bool) :=
  jK1 (fun (y7 : Bool) => (if y7 = true then some ([], false) else Option.bind (app [] x1) fun u20 =>
  F_spec_ShiftCues_L1 u20 x2 x0 FU (u20) (0))) (fun k8 => Option.bind (F_spec_tiGood x0 x1) fun u65 =>
  (if (!u65) = true then k8 (true) else Option.bind (F_spec_l1In x2 (-500) 500) fun u72 =>
  k8 ((!u72))))
def F_spec_swMoves_L1 (u10 : (List (Int × Int))) (x0 : ((List (List (Int × Int))) × (List Int) × Int × Int)) (x1 : Int) : Nat → (List ((Int × Int) × (Int × Int) × Int)) → Int → Option (List ((Int × Int) × (Int × Int) × Int))
  | 0, _, _ => none
  | m + 1, l18, y21 => (if (decide (y21 < (List.length u10 : Int))) = true then Option.bind (idx u10 y21) fun u31 =>
  Option.bind (idx x0.1 (w64 (x1 + 1))) fun u48 =>
  Option.bind (idx u48 y21) fun u53 =>
  Option.bind (idx x0.2.1 x1) fun u56 =>
  Option.bind (app l18 [(u31, u53, u56)]) fun u67 =>
  (F_spec_swMoves_L1 u10 x0 x1 m) (u67) ((w64 (y21 + 1))) else some l18)
def F_spec_swMoves (x0 : ((List (List (Int × Int))) × (List Int) × Int × Int)) (x1 : Int) : Option (List ((Int × Int) × (Int × Int) × Int)) :=
  Option.bind (idx x0.1 x1) fun u10 =>
  F_spec_swMoves_L1 u10 x0 x1 FU ([]) (0)
def F_spec_stSquare (x0 : (Int × Int)) (x1 : (Int × Int)) : Option Int :=
  some (w64 ((w64 ((w64 (x0.1 - x1.1)) * (w64 (x0.1 - x1.1)))) + (w64 ((w64 (x0.2 - x1.2)) * (w64 (x0.2 - x1.2))))))
def F_spec_cpSquares_L1 (u10 : (List ((Int × Int) × (Int × Int) × Int))) : Nat → (List Int) → Int → Option (List Int)
  | 0, _, _ => none
  | m + 1, l21, y24 => (if (decide (y24 < (List.length u10 : Int))) = true then Option.bind (idx u10 y24) fun u34 =>
  Option.bind (F_spec_stSquare u34.1 u34.2.1) fun u47 =>
  Option.bind (app l21 [u47]) fun u59 =>
  (F_spec_cpSquares_L1 u10 m) (u59) ((w64 (y24 + 1))) else some l21)
def F_spec_cpSquares (x0 : ((List (List (Int × Int))) × (List Int) × Int × Int)) (x1 : Int) : Option (List Int) :=
  Option.bind (F_spec_swMoves x0 x1) fun u10 =>
  F_spec_cpSquares_L1 u10 FU ([]) (0)
def F_spec_cpSum_L1 (x0 : (List Int)) : Nat → Int → Int → Option Int
  | 0, _, _ => none
  | m + 1, y8, y9 => (if (decide (y9 < (List.length x0 : Int))) = true then Option.bind (idx x0 y9) fun u18 =>
  (F_spec_cpSum_L1 x0 m) ((w64 (y8 + u18))) ((w64 (y9 + 1))) else some y8)
def F_spec_cpSum (x0 : (List Int)) : Option Int :=
  F_spec_cpSum_L1 x0 FU (0) (0)
def F_spec_WidestPart_L1 (x0 : ((List (List (Int × Int))) × (List Int) × Int × Int)) : Nat → Int → Int → Int → Option (Int × Int × Bool)
  | 0, _, _, _ => none
  | m + 1, y23, y24, y25 => (if (decide (y25 < (List.length x0.2.1 : Int))) = true then jK2 (fun (y36 : Int) (y37 : Int) => (F_spec_WidestPart_L1 x0 m) (y36) (y37) ((w64 (y25 + 1)))) (fun k38 => Option.bind (F_spec_cpSquares x0 y25) fun u42 =>
  Option.bind (F_spec_cpSum u42) fun u50 =>
  (if (decide (y24 < u50)) = true then k38 (y25) (u50) else k38 (y23) (y24))) else some (y23, y24, true))
def F_spec_WidestPart (x0 : ((List (List (Int × Int))) × (List Int) × Int × Int)) : Option (Int × Int × Bool) :=
  Option.bind (F_spec_swGood x0) fun u9 =>
  (if (!u9) = true then some (0, 0, false) else F_spec_WidestPart_L1 x0 FU (0) ((-1)) (0))
def F_impl_showMoves_L1 (u16 : (List (Int × Int))) (x0 : ((List (List (Int × Int))) × (List Int) × Int × Int)) (x1 : Int) : Nat → (List ((Int × Int) × (Int × Int) × Int)) → Int → Option (List ((Int × Int) × (Int × Int) × Int))
  | 0, _, _ => none
  | m + 1, l24, y27 => (if (decide (y27 < (List.length u16 : Int))) = true then Option.bind (idx u16 y27) fun u36 =>
  Option.bind (idx x0.1 (w64 (x1 + 1))) fun u53 =>
  Option.bind (idx u53 y27) fun u58 =>
  Option.bind (idx x0.2.1 x1) fun u61 =>
  Option.bind (app l24 [(u36, u58, u61)]) fun u72 =>
  (F_impl_showMoves_L1 u16 x0 x1 m) (u72) ((w64 (y27 + 1))) else some l24)
def F_impl_showMoves (x0 : ((List (List (Int × Int))) × (List Int) × Int × Int)) (x1 : Int) : Option (List ((Int × Int) × (Int × Int) × Int)) :=
  Option.bind (idx x0.1 x1) fun u16 =>
  F_impl_showMoves_L1 u16 x0 x1 FU ([]) (0)
def F_impl_squareOf (x0 : (Int × Int)) (x1 : (Int × Int)) : Option Int :=
  some (w64 ((w64 ((w64 (x0.1 - x1.1)) * (w64 (x0.1 - x1.1)))) + (w64 ((w64 (x0.2 - x1.2)) * (w64 (x0.2 - x1.2))))))
def F_impl_WidestPart_L2 (u44 : (List ((Int × Int) × (Int × Int) × Int))) (y24 : Int) (k38 : (Int → Int → Option (Int × Int × Bool))) (y25 : Int) (y23 : Int) : Nat → Int → Int → Option (Int × Int × Bool)
  | 0, _, _ => none
  | m + 1, y55, y56 => (if (decide (y56 < (List.length u44 : Int))) = true then Option.bind (idx u44 y56) fun u65 =>
  Option.bind (F_impl_squareOf u65.1 u65.2.1) fun u78 =>
  (F_impl_WidestPart_L2 u44 y24 k38 y25 y23 m) ((w64 (y55 + u78))) ((w64 (y56 + 1))) else (if (decide (y24 < y55)) = true then k38 (y25) (y55) else k38 (y23) (y24)))
def F_impl_WidestPart_L1 (x0 : ((List (List (Int × Int))) × (List Int) × Int × Int)) : Nat → Int → Int → Int → Option (Int × Int × Bool)
  | 0, _, _, _ => none
  | m + 1, y23, y24, y25 => (if (decide (y25 < (List.length x0.2.1 : Int))) = true then jK2 (fun (y36 : Int) (y37 : Int) => (F_impl_WidestPart_L1 x0 m) (y36) (y37) ((w64 (y25 + 1)))) (fun k38 => Option.bind (F_impl_showMoves x0 y25) fun u44 =>
  F_impl_WidestPart_L2 u44 y24 k38 y25 y23 FU (0) (0)) else some (y23, y24, true))
def F_impl_WidestPart (x0 : ((List (List (Int × Int))) × (List Int) × Int × Int)) : Option (Int × Int × Bool) :=
  Option.bind (F_impl_IsShow x0) fun u9 =>
  (if (!u9) = true then some (0, 0, false) else F_impl_WidestPart_L1 x0 FU (0) ((-1)) (0))
def F_laws_FnExactWidestPart (x0 : ((List (List (Int × Int))) × (List Int) × Int × Int)) : Option Bool :=
  Option.bind (F_laws_szShow x0 1048576) fun u9 =>
  (if (decide (u9 < 0)) = true then some true else Option.bind (F_laws_toShow x0) fun u20 =>
  Option.bind (F_spec_WidestPart u20) fun u30 =>
  Option.bind (F_laws_toShow x0) fun u37 =>
  Option.bind (F_impl_WidestPart u37) fun u57 =>
  jK1 (fun (y68 : Bool) => (if y68 = true then some false else Option.bind (F_laws_toShow x0) fun u80 =>
  Option.bind (F_laws_eqShow u37 u80) fun u92 =>
  (if (!u92) = true then some false else some true))) (fun k69 => (if (u57.1 != u30.1) = true then k69 (true) else (if (u57.2.1 != u30.2.1) = true then k69 (true) else k69 ((u57.2.2 != u30.2.2))))))
def F_spec_mgSame_L1 (x0 : (List (Int × Int))) (x1 : (List (Int × Int))) : Nat → Int → Option Bool
  | 0, _ => none
  | m + 1, y7 => (if (decide (y7 < (List.length x0 : Int))) = true then Option.bind (idx x0 y7) fun u16 =>
  Option.bind (idx x1 y7) fun u34 =>
  (if (!(eqv_Spot u16 u34)) = true then some false else (F_spec_mgSame_L1 x0 x1 m) ((w64 (y7 + 1)))) else some true)
def F_spec_mgSame (x0 : (List (Int × Int))) (x1 : (List (Int × Int))) : Option Bool :=
  F_spec_mgSame_L1 x0 x1 FU (0)
def F_spec_cpDifferent_L1 (x0 : ((List (List (Int × Int))) × (List Int) × Int × Int)) (x1 : ((List (List (Int × Int))) × (List Int) × Int × Int)) : Nat → (List Int) → Int → Option (List Int)
  | 0, _, _ => none
  | m + 1, l18, y21 => (if (decide (y21 < (List.length x0.1 : Int))) = true then jK1 (fun (l33 : (List Int)) => (F_spec_cpDifferent_L1 x0 x1 m) (l33) ((w64 (y21 + 1)))) (fun k36 => Option.bind (idx x0.1 y21) fun u39 =>
  Option.bind (idx x1.1 y21) fun u45 =>
  Option.bind (F_spec_mgSame u39 u45) fun u50 =>
  (if (!u50) = true then Option.bind (app l18 [y21]) fun u63 =>
  k36 (u63) else k36 (l18))) else some l18)
def F_spec_cpDifferent (x0 : ((List (List (Int × Int))) × (List Int) × Int × Int)) (x1 : ((List (List (Int × Int))) × (List Int) × Int × Int)) : Option (List Int) :=
  F_spec_cpDifferent_L1 x0 x1 FU ([]) (0)
def F_spec_l1Same_L1 (x0 : (List Int)) (x1 : (List Int)) : Nat → Int → Option Bool
  | 0, _ => none
  | m + 1, y11 => (if (decide (y11 < (List.length x0 : Int))) = true then Option.bind (idx x0 y11) fun u26 =>
  Option.bind (idx x1 y11) fun u29 =>
  (if (u26 != u29) = true then some false else (F_spec_l1Same_L1 x0 x1 m) ((w64 (y11 + 1)))) else some true)
def F_spec_l1Same (x0 : (List Int)) (x1 : (List Int)) : Option Bool :=
  (if ((List.length x0 : Int) != (List.length x1 : Int)) = true then some false else F_spec_l1Same_L1 x0 x1 FU (0))
def F_spec_SameShows (x0 : ((List (List (Int × Int))) × (List Int) × Int × Int)) (x1 : ((List (List (Int × Int))) × (List Int) × Int × Int)) : Option (Bool × Bool) :=
  jK1 (fun (y17 : Bool) => (if y17 = true then some (false, false) else jK1 (fun (y27 : Bool) => (if y27 = true then some (false, true) else jK1 (fun (y36 : Bool) => some (y36, true)) (fun k37 => Option.bind (F_spec_cpDifferent x0 x1) fun u39 =>
  (if ((List.length u39 : Int) == 0) = true then Option.bind (F_spec_l1Same x0.2.1 x1.2.1) fun u48 =>
  (if u48 = true then (if (x0.2.2.1 == x1.2.2.1) = true then k37 ((x0.2.2.2 == x1.2.2.2)) else k37 (false)) else k37 (false)) else k37 (false))))) (fun k28 => (if ((List.length x0.1 : Int) != (List.length x1.1 : Int)) = true then k28 (true) else Option.bind (idx x0.1 0) fun u62 =>
  Option.bind (idx x1.1 0) fun u67 =>
  k28 (((List.length u62 : Int) != (List.length u67 : Int))))))) (fun k18 => Option.bind (F_spec_swGood x0) fun u72 =>
  (if (!u72) = true then k18 (true) else Option.bind (F_spec_swGood x1) fun u79 =>
  k18 ((!u79))))
def F_slices_Equal_int_int_L1 (x0 : (List Int)) (x1 : (List Int)) : Nat → Int → Option Bool
  | 0, _ => none
  | m + 1, y11 => (if (decide (y11 < (List.length x0 : Int))) = true then Option.bind (idx x0 y11) fun u26 =>
  Option.bind (idx x1 y11) fun u29 =>
  (if (u26 != u29) = true then some false else (F_slices_Equal_int_int_L1 x0 x1 m) ((w64 (y11 + 1)))) else some true)
def F_slices_Equal_int_int (x0 : (List Int)) (x1 : (List Int)) : Option Bool :=
  (if ((List.length x0 : Int) != (List.length x1 : Int)) = true then some false else F_slices_Equal_int_int_L1 x0 x1 FU (0))
def F_slices_Equal_impl_Spot_impl_Spot_L1 (x0 : (List (Int × Int))) (x1 : (List (Int × Int))) : Nat → Int → Option Bool
  | 0, _ => none
  | m + 1, y11 => (if (decide (y11 < (List.length x0 : Int))) = true then Option.bind (idx x0 y11) fun u26 =>
  Option.bind (idx x1 y11) fun u29 =>
  (if (!(eqv_Spot u26 u29)) = true then some false else (F_slices_Equal_impl_Spot_impl_Spot_L1 x0 x1 m) ((w64 (y11 + 1)))) else some true)
def F_slices_Equal_impl_Spot_impl_Spot (x0 : (List (Int × Int))) (x1 : (List (Int × Int))) : Option Bool :=
  (if ((List.length x0 : Int) != (List.length x1 : Int)) = true then some false else F_slices_Equal_impl_Spot_impl_Spot_L1 x0 x1 FU (0))
def F_impl_SameShows_L1 (x0 : ((List (List (Int × Int))) × (List Int) × Int × Int)) (x1 : ((List (List (Int × Int))) × (List Int) × Int × Int)) : Nat → Int → Option (Bool × Bool)
  | 0, _ => none
  | m + 1, y37 => (if (decide (y37 < (List.length x0.1 : Int))) = true then Option.bind (idx x0.1 y37) fun u52 =>
  Option.bind (idx x1.1 y37) fun u57 =>
  Option.bind (F_slices_Equal_impl_Spot_impl_Spot u52 u57) fun u62 =>
  (if (!u62) = true then some (false, true) else (F_impl_SameShows_L1 x0 x1 m) ((w64 (y37 + 1)))) else some (true, true))
def F_impl_SameShows (x0 : ((List (List (Int × Int))) × (List Int) × Int × Int)) (x1 : ((List (List (Int × Int))) × (List Int) × Int × Int)) : Option (Bool × Bool) :=
  jK1 (fun (y17 : Bool) => (if y17 = true then some (false, false) else jK1 (fun (y27 : Bool) => (if y27 = true then some (false, true) else F_impl_SameShows_L1 x0 x1 FU (0))) (fun k28 => (if ((List.length x0.1 : Int) != (List.length x1.1 : Int)) = true then k28 (true) else Option.bind (F_slices_Equal_int_int x0.2.1 x1.2.1) fun u74 =>
  (if (!u74) = true then k28 (true) else (if (x0.2.2.1 != x1.2.2.1) = true then k28 (true) else k28 ((x0.2.2.2 != x1.2.2.2)))))))) (fun k18 => Option.bind (F_impl_IsShow x0) fun u82 =>
  (if (!u82) = true then k18 (true) else Option.bind (F_impl_IsShow x1) fun u89 =>
  k18 ((!u89))))
def F_laws_FnExactSameShows (x0 : ((List (List (Int × Int))) × (List Int) × Int × Int)) (x1 : ((List (List (Int × Int))) × (List Int) × Int × Int)) : Option Bool :=
  Option.bind (F_laws_szShow x0 1048576) fun u14 =>
  (if (decide (u14 < 0)) = true then some true else Option.bind (F_laws_szShow x1 u14) fun u25 =>
  (if (decide (u25 < 0)) = true then some true else Option.bind (F_laws_toShow x0) fun u41 =>
  Option.bind (F_laws_toShow x1) fun u53 =>
  Option.bind (F_spec_SameShows u41 u53) fun u65 =>
  Option.bind (F_laws_toShow x0) fun u74 =>
  Option.bind (F_laws_toShow x1) fun u94 =>
  Option.bind (F_impl_SameShows u74 u94) fun u114 =>
  jK1 (fun (y125 : Bool) => (if y125 = true then some false else Option.bind (F_laws_toShow x0) fun u137 =>
  Option.bind (F_laws_eqShow u74 u137) fun u149 =>
  (if (!u149) = true then some false else Option.bind (F_laws_toShow x1) fun u166 =>
  Option.bind (F_laws_eqShow u94 u166) fun u178 =>
  (if (!u178) = true then some false else some true)))) (fun k126 => (if (u114.1 != u65.1) = true then k126 (true) else k126 ((u114.2 != u65.2))))))
def F_spec_mvWithin (x0 : ((Int × Int) × (Int × Int) × Int)) (x1 : Int) : Option Bool :=
  Option.bind (F_spec_stSquare x0.1 x0.2.1) fun u13 =>
  some (decide (u13 ≤ (w64 ((w64 ((w64 (x1 * x1)) * x0.2.2)) * x0.2.2))))
def F_spec_LeastStepOf_L3 (nx47 : (Int → Int → Option (Int × Bool))) (y46 : Int) (u55 : ((Int × Int) × (Int × Int) × Int)) : Nat → Int → Option (Int × Bool)
  | 0, _ => none
  | m + 1, y72 => jK1 (fun (y81 : Bool) => (if y81 = true then (F_spec_LeastStepOf_L3 nx47 y46 u55 m) ((w64 (y72 + 1))) else nx47 (y72) ((w64 (y46 + 1))))) (fun k82 => (if (decide (y72 ≤ 24)) = true then Option.bind (F_spec_mvWithin u55 y72) fun u86 =>
  k82 ((!u86)) else k82 (false)))
def F_spec_LeastStepOf_L2 (u34 : (List ((Int × Int) × (Int × Int) × Int))) (nx25 : (Int → Int → Option (Int × Bool))) (y24 : Int) : Nat → Int → Int → Option (Int × Bool)
  | 0, _, _ => none
  | m + 1, y45, y46 => (if (decide (y46 < (List.length u34 : Int))) = true then Option.bind (idx u34 y46) fun u55 =>
  F_spec_LeastStepOf_L3 (F_spec_LeastStepOf_L2 u34 nx25 y24 m) y46 u55 FU (y45) else nx25 (y45) ((w64 (y24 + 1))))
def F_spec_LeastStepOf_L1 (x0 : ((List (List (Int × Int))) × (List Int) × Int × Int)) : Nat → Int → Int → Option (Int × Bool)
  | 0, _, _ => none
  | m + 1, y23, y24 => (if (decide (y24 < (List.length x0.2.1 : Int))) = true then Option.bind (F_spec_swMoves x0 y24) fun u34 =>
  F_spec_LeastStepOf_L2 u34 (F_spec_LeastStepOf_L1 x0 m) y24 FU (y23) (0) else (if (decide (24 < y23)) = true then some (0, false) else some (y23, true)))
def F_spec_LeastStepOf (x0 : ((List (List (Int × Int))) × (List Int) × Int × Int)) : Option (Int × Bool) :=
  Option.bind (F_spec_swGood x0) fun u9 =>
  (if (!u9) = true then some (0, false) else F_spec_LeastStepOf_L1 x0 FU (1) (0))
def F_impl_withinStep (x0 : ((Int × Int) × (Int × Int) × Int)) (x1 : Int) : Option Bool :=
  Option.bind (F_impl_squareOf x0.1 x0.2.1) fun u13 =>
  some (decide (u13 ≤ (w64 ((w64 ((w64 (x1 * x1)) * x0.2.2)) * x0.2.2))))
def F_impl_wideSteps_L1 (u16 : (List ((Int × Int) × (Int × Int) × Int))) (x0 : ((List (List (Int × Int))) × (List Int) × Int × Int)) : Nat → (List Int) → Int → Option (List Int)
  | 0, _, _ => none
  | m + 1, l27, y30 => (if (decide (y30 < (List.length u16 : Int))) = true then jK1 (fun (l41 : (List Int)) => (F_impl_wideSteps_L1 u16 x0 m) (l41) ((w64 (y30 + 1)))) (fun k44 => Option.bind (idx u16 y30) fun u47 =>
  Option.bind (F_impl_withinStep u47 x0.2.2.2) fun u61 =>
  (if (!u61) = true then Option.bind (app l27 [y30]) fun u74 =>
  k44 (u74) else k44 (l27))) else some l27)
def F_impl_wideSteps (x0 : ((List (List (Int × Int))) × (List Int) × Int × Int)) (x1 : Int) : Option (List Int) :=
  Option.bind (F_impl_showMoves x0 x1) fun u16 =>
  F_impl_wideSteps_L1 u16 x0 FU ([]) (0)
def F_impl_LeastStepOf_L2 (x0 : ((List (List (Int × Int))) × (List Int) × Int × Int)) (y22 : Int) (nx23 : (Int → Option (Int × Bool))) : Nat → Bool → Int → Option (Int × Bool)
  | 0, _, _ => none
  | m + 1, y51, y52 => (if (decide (y52 < (List.length x0.2.1 : Int))) = true then jK1 (fun (y63 : Bool) => (F_impl_LeastStepOf_L2 x0 y22 nx23 m) (y63) ((w64 (y52 + 1)))) (fun k64 => (if y51 = true then k64 (true) else Option.bind (F_impl_wideSteps (x0.1, x0.2.1, x0.2.2.1, y22) y52) fun u68 =>
  k64 ((decide (0 < (List.length u68 : Int)))))) else (if (!y51) = true then some (y22, true) else nx23 ((w64 (y22 + 1)))))
def F_impl_LeastStepOf_L1 (x0 : ((List (List (Int × Int))) × (List Int) × Int × Int)) : Nat → Int → Option (Int × Bool)
  | 0, _ => none
  | m + 1, y22 => (if (decide (y22 ≤ 24)) = true then F_impl_LeastStepOf_L2 x0 y22 (F_impl_LeastStepOf_L1 x0 m) FU (false) (0) else some (0, false))
def F_impl_LeastStepOf (x0 : ((List (List (Int × Int))) × (List Int) × Int × Int)) : Option (Int × Bool) :=
  Option.bind (F_impl_IsShow x0) fun u9 =>
  (if (!u9) = true then some (0, false) else F_impl_LeastStepOf_L1 x0 FU (1))
def F_laws_FnExactLeastStepOf (x0 : ((List (List (Int × Int))) × (List Int) × Int × Int)) : Option Bool :=
  Option.bind (F_laws_szShow x0 1048576) fun u9 =>
  (if (decide (u9 < 0)) = true then some true else Option.bind (F_laws_toShow x0) fun u20 =>
  Option.bind (F_spec_LeastStepOf u20) fun u30 =>
  Option.bind (F_laws_toShow x0) fun u37 =>
  Option.bind (F_impl_LeastStepOf u37) fun u57 =>
  jK1 (fun (y68 : Bool) => (if y68 = true then some false else Option.bind (F_laws_toShow x0) fun u80 =>
  Option.bind (F_laws_eqShow u37 u80) fun u92 =>
  (if (!u92) = true then some false else some true))) (fun k69 => (if (u57.1 != u30.1) = true then k69 (true) else k69 ((u57.2 != u30.2)))))
def F_laws_szMarch (x0 : (((List (List (Int × Int))) × (List Int) × Int × Int) × Int × (List Int) × (List Int))) (x1 : Int) : Option Int :=
  Option.bind (F_laws_szShow x0.1 x1) fun u8 =>
  (if (decide (u8 < 0)) = true then some (-1) else Option.bind (F_laws_szIntS x0.2.2.1 u8) fun u19 =>
  (if (decide (u19 < 0)) = true then some (-1) else Option.bind (F_laws_szIntS x0.2.2.2 u19) fun u30 =>
  (if (decide (u30 < 0)) = true then some (-1) else some u30)))
def F_laws_toMarch (x0 : (((List (List (Int × Int))) × (List Int) × Int × Int) × Int × (List Int) × (List Int))) : Option (((List (List (Int × Int))) × (List Int) × Int × Int) × Int × (List Int) × (List Int)) :=
  Option.bind (F_laws_toShow x0.1) fun u19 =>
  Option.bind (F_laws_toIntS x0.2.2.1) fun u39 =>
  Option.bind (F_laws_toIntS x0.2.2.2) fun u52 =>
  some (u19, x0.2.1, u39, u52)
def F_spec_l1Rising_L1 (x0 : (List Int)) (x1 : Int) (x2 : Int) : Nat → Int → Option Bool
  | 0, _ => none
  | m + 1, y7 => (if (decide (y7 < (List.length x0 : Int))) = true then Option.bind (idx x0 y7) fun u16 =>
  jK1 (fun (y23 : Bool) => (if y23 = true then some false else (F_spec_l1Rising_L1 x0 x1 x2 m) ((w64 (y7 + 1))))) (fun k24 => Option.bind (F_spec_l1In u16 x1 x2) fun u28 =>
  (if (!u28) = true then k24 (true) else (if (decide (0 < y7)) = true then Option.bind (idx x0 (w64 (y7 - 1))) fun u36 =>
  k24 ((decide (u16 ≤ u36))) else k24 (false)))) else some true)
def F_spec_l1Rising (x0 : (List Int)) (x1 : Int) (x2 : Int) : Option Bool :=
  F_spec_l1Rising_L1 x0 x1 x2 FU (0)
def F_spec_mnGood (x0 : (((List (List (Int × Int))) × (List Int) × Int × Int) × Int × (List Int) × (List Int))) : Option Bool :=
  jK1 (fun (y12 : Bool) => (if y12 = true then some false else Option.bind (idx x0.1.1 0) fun u18 =>
  jK1 (fun (y27 : Bool) => some y27) (fun k28 => Option.bind (F_spec_l1Rising x0.2.2.1 0 (w64 ((List.length u18 : Int) - 1))) fun u30 =>
  (if u30 = true then (if ((List.length x0.2.2.2 : Int) == (List.length u18 : Int)) = true then Option.bind (F_spec_l1All x0.2.2.2 0 x0.2.1) fun u38 =>
  k28 (u38) else k28 (false)) else k28 (false))))) (fun k13 => Option.bind (F_spec_swGood x0.1) fun u44 =>
  (if (!u44) = true then k13 (true) else Option.bind (F_spec_l1In x0.2.1 0 1000) fun u51 =>
  k13 ((!u51))))
def F_spec_IsMarch (x0 : (((List (List (Int × Int))) × (List Int) × Int × Int) × Int × (List Int) × (List Int))) : Option Bool :=
  Option.bind (F_spec_mnGood x0) fun u8 =>
  some u8
def F_impl_arePerformers_L1 (x0 : (List Int)) (x1 : Int) : Nat → Int → Option Bool
  | 0, _ => none
  | m + 1, y7 => (if (decide (y7 < (List.length x0 : Int))) = true then Option.bind (idx x0 y7) fun u16 =>
  jK1 (fun (y23 : Bool) => (if y23 = true then some false else (F_impl_arePerformers_L1 x0 x1 m) ((w64 (y7 + 1))))) (fun k24 => Option.bind (F_impl_within u16 0 (w64 (x1 - 1))) fun u28 =>
  (if (!u28) = true then k24 (true) else (if (decide (0 < y7)) = true then Option.bind (idx x0 (w64 (y7 - 1))) fun u36 =>
  k24 ((decide (u16 ≤ u36))) else k24 (false)))) else some true)
def F_impl_arePerformers (x0 : (List Int)) (x1 : Int) : Option Bool :=
  F_impl_arePerformers_L1 x0 x1 FU (0)
def F_impl_IsMarch_L1 (x0 : (((List (List (Int × Int))) × (List Int) × Int × Int) × Int × (List Int) × (List Int))) : Nat → Int → Option Bool
  | 0, _ => none
  | m + 1, y22 => (if (decide (y22 < (List.length x0.2.2.2 : Int))) = true then Option.bind (idx x0.2.2.2 y22) fun u31 =>
  Option.bind (F_impl_within u31 0 x0.2.1) fun u35 =>
  (if (!u35) = true then some false else (F_impl_IsMarch_L1 x0 m) ((w64 (y22 + 1)))) else some true)
def F_impl_IsMarch (x0 : (((List (List (Int × Int))) × (List Int) × Int × Int) × Int × (List Int) × (List Int))) : Option Bool :=
  jK1 (fun (y12 : Bool) => (if y12 = true then some false else F_impl_IsMarch_L1 x0 FU (0))) (fun k13 => Option.bind (F_impl_IsShow x0.1) fun u49 =>
  (if (!u49) = true then k13 (true) else Option.bind (F_impl_within x0.2.1 0 1000) fun u58 =>
  (if (!u58) = true then k13 (true) else Option.bind (idx x0.1.1 0) fun u67 =>
  Option.bind (F_impl_arePerformers x0.2.2.1 (List.length u67 : Int)) fun u72 =>
  (if (!u72) = true then k13 (true) else Option.bind (idx x0.1.1 0) fun u81 =>
  k13 (((List.length x0.2.2.2 : Int) != (List.length u81 : Int)))))))
def F_laws_eqMarch (x0 : (((List (List (Int × Int))) × (List Int) × Int × Int) × Int × (List Int) × (List Int))) (x1 : (((List (List (Int × Int))) × (List Int) × Int × Int) × Int × (List Int) × (List Int))) : Option Bool :=
  Option.bind (F_laws_eqShow x0.1 x1.1) fun u14 =>
  (if (!u14) = true then some false else (if (x0.2.1 != x1.2.1) = true then some false else Option.bind (F_laws_eqIntS x0.2.2.1 x1.2.2.1) fun u28 =>
  (if (!u28) = true then some false else Option.bind (F_laws_eqIntS x0.2.2.2 x1.2.2.2) fun u38 =>
  (if (!u38) = true then some false else some true))))
def F_laws_FnExactIsMarch (x0 : (((List (List (Int × Int))) × (List Int) × Int × Int) × Int × (List Int) × (List Int))) : Option Bool :=
  Option.bind (F_laws_szMarch x0 1048576) fun u9 =>
  (if (decide (u9 < 0)) = true then some true else Option.bind (F_laws_toMarch x0) fun u20 =>
  Option.bind (F_spec_IsMarch u20) fun u34 =>
  Option.bind (F_laws_toMarch x0) fun u41 =>
  Option.bind (F_impl_IsMarch u41) fun u65 =>
  (if (u65 != u34) = true then some false else Option.bind (F_laws_toMarch x0) fun u82 =>
  Option.bind (F_laws_eqMarch u41 u82) fun u98 =>
  (if (!u98) = true then some false else some true)))
def F_spec_CueTimes (x0 : (List (Int × Int))) (x1 : (List (Int × (List UInt8)))) : Option ((List Int) × Bool) :=
  Option.bind (F_spec_tiGood x0 x1) fun u4 =>
  (if (!u4) = true then some ([], false) else Option.bind (F_spec_tiTimes x0 x1) fun u14 =>
  some (u14, true))
def F_laws_heldIntS_L1 (x0 : (List Int)) : Nat → Int → Int → Option Int
  | 0, _, _ => none
  | m + 1, y7, y8 => (if (decide (y8 < (List.length x0 : Int))) = true then Option.bind (idx x0 y8) fun u18 =>
  (if (u18 != y7) = true then some (-1) else (F_laws_heldIntS_L1 x0 m) ((w64 (y7 + 1))) ((w64 (y8 + 1)))) else some y7)
def F_laws_heldIntS (x0 : (List Int)) (x1 : Int) : Option Int :=
  F_laws_heldIntS_L1 x0 FU (x1) (0)
def F_spec_DifferentCharts (x0 : ((List (List (Int × Int))) × (List Int) × Int × Int)) (x1 : ((List (List (Int × Int))) × (List Int) × Int × Int)) : Option ((List Int) × Bool) :=
  jK1 (fun (y17 : Bool) => (if y17 = true then some ([], false) else Option.bind (F_spec_cpDifferent x0 x1) fun u24 =>
  some (u24, true))) (fun k18 => Option.bind (F_spec_swGood x0) fun u37 =>
  (if (!u37) = true then k18 (true) else Option.bind (F_spec_swGood x1) fun u46 =>
  (if (!u46) = true then k18 (true) else (if ((List.length x0.1 : Int) != (List.length x1.1 : Int)) = true then k18 (true) else Option.bind (idx x0.1 0) fun u56 =>
  Option.bind (idx x1.1 0) fun u61 =>
  k18 (((List.length u56 : Int) != (List.length u61 : Int)))))))
def F_impl_DifferentCharts_L1 (x0 : ((List (List (Int × Int))) × (List Int) × Int × Int)) (x1 : ((List (List (Int × Int))) × (List Int) × Int × Int)) : Nat → (List Int) → Int → Option ((List Int) × Bool)
  | 0, _, _ => none
  | m + 1, l35, y38 => (if (decide (y38 < (List.length x0.1 : Int))) = true then jK1 (fun (l49 : (List Int)) => (F_impl_DifferentCharts_L1 x0 x1 m) (l49) ((w64 (y38 + 1)))) (fun k52 => Option.bind (idx x0.1 y38) fun u61 =>
  Option.bind (idx x1.1 y38) fun u66 =>
  Option.bind (F_slices_Equal_impl_Spot_impl_Spot u61 u66) fun u71 =>
  (if (!u71) = true then Option.bind (app l35 [y38]) fun u86 =>
  k52 (u86) else k52 (l35))) else some (l35, true))
def F_impl_DifferentCharts (x0 : ((List (List (Int × Int))) × (List Int) × Int × Int)) (x1 : ((List (List (Int × Int))) × (List Int) × Int × Int)) : Option ((List Int) × Bool) :=
  jK1 (fun (y17 : Bool) => (if y17 = true then some ([], false) else F_impl_DifferentCharts_L1 x0 x1 FU ([]) (0))) (fun k18 => Option.bind (F_impl_IsShow x0) fun u99 =>
  (if (!u99) = true then k18 (true) else Option.bind (F_impl_IsShow x1) fun u108 =>
  (if (!u108) = true then k18 (true) else (if ((List.length x0.1 : Int) != (List.length x1.1 : Int)) = true then k18 (true) else Option.bind (idx x0.1 0) fun u118 =>
  Option.bind (idx x1.1 0) fun u123 =>
  k18 (((List.length u118 : Int) != (List.length u123 : Int)))))))
def F_spec_muRange (x0 : (List (Int × Int))) (x1 : Int) (x2 : Int) : Option Bool :=
  jK1 (fun (y6 : Bool) => some y6) (fun k7 => Option.bind (F_spec_muGood x0) fun u9 =>
  (if u9 = true then Option.bind (F_spec_l1In x1 0 x2) fun u16 =>
  (if u16 = true then Option.bind (F_spec_l1In x2 x1 (w64 ((List.length x0 : Int) - 1))) fun u23 =>
  k7 (u23) else k7 (false)) else k7 (false)))
def F_spec_RepeatMeasures_L1 (x0 : (List (Int × Int))) (x1 : Int) (x2 : Int) : Nat → Int → (List (Int × Int)) → Option ((List (Int × Int)) × Bool)
  | 0, _, _ => none
  | m + 1, y34, l35 => (if (decide (0 < y34)) = true then Option.bind (sl x0 x1 (w64 (x2 + 1))) fun u45 =>
  Option.bind (app l35 u45) fun u48 =>
  (F_spec_RepeatMeasures_L1 x0 x1 x2 m) ((w64 (y34 - 1))) (u48) else Option.bind (sl x0 (w64 (x2 + 1)) (List.length x0 : Int)) fun u56 =>
  Option.bind (app l35 u56) fun u59 =>
  Option.bind (F_spec_muGood u59) fun u68 =>
  (if (!u68) = true then some ([], false) else some (u59, true)))
def F_spec_RepeatMeasures (x0 : (List (Int × Int))) (x1 : Int) (x2 : Int) (x3 : Int) : Option ((List (Int × Int)) × Bool) :=
  jK1 (fun (y7 : Bool) => (if y7 = true then some ([], false) else Option.bind (sl x0 0 x1) fun u20 =>
  Option.bind (app [] u20) fun u23 =>
  F_spec_RepeatMeasures_L1 x0 x1 x2 FU (x3) (u23))) (fun k8 => Option.bind (F_spec_muRange x0 x1 x2) fun u78 =>
  (if (!u78) = true then k8 (true) else Option.bind (F_spec_l1In x3 1 10) fun u85 =>
  k8 ((!u85))))
def F_spec_CuesAfterRepeat_L1 (u57 : (List (Int × (List UInt8)))) (u44 : Int) (u28 : Int) (u34 : Int) : Nat → (List (Int × (List UInt8))) → Int → Option ((List (Int × (List UInt8))) × Bool)
  | 0, _, _ => none
  | m + 1, l69, y72 => (if (decide (y72 < (List.length u57 : Int))) = true then jK1 (fun (l83 : (List (Int × (List UInt8)))) => (F_spec_CuesAfterRepeat_L1 u57 u44 u28 u34 m) (l83) ((w64 (y72 + 1)))) (fun k86 => Option.bind (idx l69 y72) fun u90 =>
  (if (decide (u44 ≤ u90.1)) = true then Option.bind (idx l69 y72) fun u95 =>
  Option.bind (idx l69 y72) fun u99 =>
  k86 ((seti l69 y72 ((w64 (u95.1 + (w64 (u28 - u34)))), u99.2))) else k86 (l69))) else some (l69, true))
def F_spec_CuesAfterRepeat (x0 : (List (Int × Int))) (x1 : (List (Int × (List UInt8)))) (x2 : Int) (x3 : Int) (x4 : Int) : Option ((List (Int × (List UInt8))) × Bool) :=
  Option.bind (F_spec_tiGood x0 x1) fun u4 =>
  (if (!u4) = true then some ([], false) else Option.bind (F_spec_RepeatMeasures x0 x2 x3 x4) fun u14 =>
  (if (!u14.2) = true then some ([], false) else Option.bind (F_spec_muCounts u14.1) fun u28 =>
  Option.bind (F_spec_muCounts x0) fun u34 =>
  Option.bind (sl x0 0 (w64 (x3 + 1))) fun u41 =>
  Option.bind (F_spec_muCounts u41) fun u44 =>
  Option.bind (app [] x1) fun u57 =>
  F_spec_CuesAfterRepeat_L1 u57 u44 u28 u34 FU (u57) (0)))
def F_impl_RepeatMeasures_L1 (x3 : Int) (x0 : (List (Int × Int))) (x1 : Int) (x2 : Int) : Nat → (List (Int × Int)) → Int → Option ((List (Int × Int)) × Bool)
  | 0, _, _ => none
  | m + 1, l35, y38 => (if (decide (y38 < x3)) = true then Option.bind (sl x0 x1 (w64 (x2 + 1))) fun u46 =>
  Option.bind (app l35 u46) fun u49 =>
  (F_impl_RepeatMeasures_L1 x3 x0 x1 x2 m) (u49) ((w64 (y38 + 1))) else Option.bind (sl x0 (w64 (x2 + 1)) (List.length x0 : Int)) fun u57 =>
  Option.bind (app l35 u57) fun u60 =>
  Option.bind (F_impl_IsMusic u60) fun u69 =>
  (if (!u69) = true then some ([], false) else some (u60, true)))
def F_impl_RepeatMeasures (x0 : (List (Int × Int))) (x1 : Int) (x2 : Int) (x3 : Int) : Option ((List (Int × Int)) × Bool) :=
  jK1 (fun (y7 : Bool) => (if y7 = true then some ([], false) else Option.bind (sl x0 0 x1) fun u20 =>
  Option.bind (app [] u20) fun u23 =>
  F_impl_RepeatMeasures_L1 x3 x0 x1 x2 FU (u23) (0))) (fun k8 => Option.bind (F_impl_IsMusic x0) fun u79 =>
  (if (!u79) = true then k8 (true) else (if (decide (x1 < 0)) = true then k8 (true) else (if (decide (x2 < x1)) = true then k8 (true) else (if (decide ((List.length x0 : Int) ≤ x2)) = true then k8 (true) else Option.bind (F_impl_within x3 1 10) fun u89 =>
  k8 ((!u89)))))))
end Go.Proofs.Ytmbhdelegdhieaa
