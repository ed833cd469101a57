/-
  THE FUNCTIONS of this seat as plain functions, by program (gen.py).
-/
import Derived.Test.YtmbhdelegdhieaaCore0
set_option linter.unusedSimpArgs false
set_option linter.unusedVariables false
set_option maxRecDepth 100000
namespace Go.Proofs.Ytmbhdelegdhieaa
open Go
def eqv_Spot (x y : (Int × Int)) : Bool := (x.1 == y.1) && (x.2 == y.2)
def G_Spot (x : (Int × Int)) : Prop := inI64 x.1 ∧ inI64 x.2
def G_Show (x : ((List (List (Int × Int))) × (List Int) × Int × Int)) : Prop := (allG (allG G_Spot)) x.1 ∧ (allG inI64) x.2.1 ∧ inI64 x.2.2.1 ∧ inI64 x.2.2.2
def G_Measure (x : (Int × Int)) : Prop := inI64 x.1 ∧ inI64 x.2
def G_Cue (x : (Int × (List UInt8))) : Prop := inI64 x.1 ∧ (allG anyG) x.2
def G_March (x : (((List (List (Int × Int))) × (List Int) × Int × Int) × Int × (List Int) × (List Int))) : Prop := G_Show x.1 ∧ inI64 x.2.1 ∧ (allG inI64) x.2.2.1 ∧ (allG inI64) x.2.2.2
def F_laws_szSpotS (x0 : (List (Int × Int))) (x1 : Int) : Option Int :=
  (if (decide ((w64 (x1 - (List.length x0 : Int))) < 0)) = true then some (-1) else some (w64 (x1 - (List.length x0 : Int))))
def F_laws_szSpotSS_L1 (x0 : (List (List (Int × Int)))) : Nat → Int → Int → Option Int
  | 0, _, _ => none
  | m + 1, y12, y13 => (if (decide (y13 < (List.length x0 : Int))) = true then Option.bind (idx x0 y13) fun u22 =>
  Option.bind (F_laws_szSpotS u22 y12) fun u27 =>
  (if (decide (u27 < 0)) = true then some (-1) else (F_laws_szSpotSS_L1 x0 m) (u27) ((w64 (y13 + 1)))) else some y12)
def F_laws_szSpotSS (x0 : (List (List (Int × Int)))) (x1 : Int) : Option Int :=
  (if (decide ((w64 (x1 - (List.length x0 : Int))) < 0)) = true then some (-1) else F_laws_szSpotSS_L1 x0 FU ((w64 (x1 - (List.length x0 : Int)))) (0))
def F_laws_szIntS (x0 : (List Int)) (x1 : Int) : Option Int :=
  (if (decide ((w64 (x1 - (List.length x0 : Int))) < 0)) = true then some (-1) else some (w64 (x1 - (List.length x0 : Int))))
def F_laws_szShow (x0 : ((List (List (Int × Int))) × (List Int) × Int × Int)) (x1 : Int) : Option Int :=
  Option.bind (F_laws_szSpotSS x0.1 x1) fun u8 =>
  (if (decide (u8 < 0)) = true then some (-1) else Option.bind (F_laws_szIntS x0.2.1 u8) fun u19 =>
  (if (decide (u19 < 0)) = true then some (-1) else some u19))
def F_laws_toSpot (x0 : (Int × Int)) : Option (Int × Int) :=
  some x0
def F_laws_toSpotS_L1 (x0 : (List (Int × Int))) : Nat → (List (Int × Int)) → Int → Option (List (Int × Int))
  | 0, _, _ => none
  | m + 1, l15, y18 => (if (decide (y18 < (List.length x0 : Int))) = true then Option.bind (idx x0 y18) fun u26 =>
  Option.bind (F_laws_toSpot u26) fun u29 =>
  Option.bind (idx l15 y18) fun u35 =>
  (F_laws_toSpotS_L1 x0 m) ((seti l15 y18 u29)) ((w64 (y18 + 1))) else some l15)
def F_laws_toSpotS (x0 : (List (Int × Int))) : Option (List (Int × Int)) :=
  Option.bind (mkL (List.length x0 : Int) (0, 0)) fun u3 =>
  F_laws_toSpotS_L1 x0 FU (u3) (0)
def F_laws_toSpotSS_L1 (x0 : (List (List (Int × Int)))) : Nat → (List (List (Int × Int))) → Int → Option (List (List (Int × Int)))
  | 0, _, _ => none
  | m + 1, l15, y18 => (if (decide (y18 < (List.length x0 : Int))) = true then Option.bind (idx x0 y18) fun u26 =>
  Option.bind (F_laws_toSpotS u26) fun u31 =>
  Option.bind (idx l15 y18) fun u39 =>
  (F_laws_toSpotSS_L1 x0 m) ((seti l15 y18 u31)) ((w64 (y18 + 1))) else some l15)
def F_laws_toSpotSS (x0 : (List (List (Int × Int)))) : Option (List (List (Int × Int))) :=
  Option.bind (mkL (List.length x0 : Int) []) fun u3 =>
  F_laws_toSpotSS_L1 x0 FU (u3) (0)
def F_laws_toIntS_L1 (x0 : (List Int)) : Nat → (List Int) → Int → Option (List Int)
  | 0, _, _ => none
  | m + 1, l15, y18 => (if (decide (y18 < (List.length x0 : Int))) = true then Option.bind (idx x0 y18) fun u26 =>
  Option.bind (idx l15 y18) fun u29 =>
  (F_laws_toIntS_L1 x0 m) ((seti l15 y18 u26)) ((w64 (y18 + 1))) else some l15)
def F_laws_toIntS (x0 : (List Int)) : Option (List Int) :=
  Option.bind (mkL (List.length x0 : Int) 0) fun u3 =>
  F_laws_toIntS_L1 x0 FU (u3) (0)
def F_laws_toShow (x0 : ((List (List (Int × Int))) × (List Int) × Int × Int)) : Option ((List (List (Int × Int))) × (List Int) × Int × Int) :=
  Option.bind (F_laws_toSpotSS x0.1) fun u19 =>
  Option.bind (F_laws_toIntS x0.2.1) fun u32 =>
  some (u19, u32, x0.2.2.1, x0.2.2.2)
def F_spec_l1In (x0 : Int) (x1 : Int) (x2 : Int) : Option Bool :=
  jK1 (fun (y6 : Bool) => some y6) (fun k7 => (if (decide (x1 ≤ x0)) = true then k7 ((decide (x0 ≤ x2))) else k7 (false)))
def F_spec_stGood (x0 : (Int × Int)) : Option Bool :=
  jK1 (fun (y11 : Bool) => some y11) (fun k12 => Option.bind (F_spec_l1In x0.1 0 1280) fun u14 =>
  (if u14 = true then Option.bind (F_spec_l1In x0.2 0 672) fun u21 =>
  k12 (u21) else k12 (false)))
def F_spec_chGood_L2 (u39 : (List (Int × Int))) (u16 : (Int × Int)) (nx8 : (Int → Option Bool)) (y7 : Int) : Nat → Int → Option Bool
  | 0, _ => none
  | m + 1, y45 => (if (decide (y45 < (List.length u39 : Int))) = true then Option.bind (idx u39 y45) fun u54 =>
  (if (eqv_Spot u16 u54) = true then some false else (F_spec_chGood_L2 u39 u16 nx8 y7 m) ((w64 (y45 + 1)))) else nx8 ((w64 (y7 + 1))))
def F_spec_chGood_L1 (x0 : (List (Int × Int))) : Nat → Int → Option Bool
  | 0, _ => none
  | m + 1, y7 => (if (decide (y7 < (List.length x0 : Int))) = true then Option.bind (idx x0 y7) fun u16 =>
  Option.bind (F_spec_stGood u16) fun u30 =>
  (if (!u30) = true then some false else Option.bind (sl x0 0 y7) fun u39 =>
  F_spec_chGood_L2 u39 u16 (F_spec_chGood_L1 x0 m) y7 FU (0)) else Option.bind (F_spec_l1In (List.length x0 : Int) 1 12) fun u70 =>
  some u70)
def F_spec_chGood (x0 : (List (Int × Int))) : Option Bool :=
  F_spec_chGood_L1 x0 FU (0)
def F_spec_l1All_L1 (x0 : (List Int)) (x1 : Int) (x2 : Int) : Nat → Int → Option Bool
  | 0, _ => none
  | m + 1, y7 => (if (decide (y7 < (List.length x0 : Int))) = true then Option.bind (idx x0 y7) fun u16 =>
  Option.bind (F_spec_l1In u16 x1 x2) fun u20 =>
  (if (!u20) = true then some false else (F_spec_l1All_L1 x0 x1 x2 m) ((w64 (y7 + 1)))) else some true)
def F_spec_l1All (x0 : (List Int)) (x1 : Int) (x2 : Int) : Option Bool :=
  F_spec_l1All_L1 x0 x1 x2 FU (0)
def F_spec_apDistance (x0 : Int) : Option Bool :=
  Option.bind (F_spec_l1In x0 0 80) fun u3 =>
  some u3
def F_spec_mvStep (x0 : Int) : Option Bool :=
  Option.bind (F_spec_l1In x0 1 24) fun u3 =>
  some u3
def F_spec_swGood_L1 (x0 : ((List (List (Int × Int))) × (List Int) × Int × Int)) : Nat → Int → Option Bool
  | 0, _ => none
  | m + 1, y12 => (if (decide (y12 < (List.length x0.1 : Int))) = true then Option.bind (idx x0.1 y12) fun u21 =>
  jK1 (fun (y30 : Bool) => (if y30 = true then some false else (F_spec_swGood_L1 x0 m) ((w64 (y12 + 1))))) (fun k31 => Option.bind (F_spec_chGood u21) fun u35 =>
  (if (!u35) = true then k31 (true) else Option.bind (idx x0.1 0) fun u42 =>
  k31 (((List.length u21 : Int) != (List.length u42 : Int))))) else jK1 (fun (y51 : Bool) => some y51) (fun k52 => Option.bind (F_spec_l1In (List.length x0.1 : Int) 2 8) fun u54 =>
  (if u54 = true then (if ((List.length x0.2.1 : Int) == (w64 ((List.length x0.1 : Int) - 1))) = true then Option.bind (F_spec_l1All x0.2.1 1 64) fun u62 =>
  (if u62 = true then Option.bind (F_spec_apDistance x0.2.2.1) fun u69 =>
  (if u69 = true then Option.bind (F_spec_mvStep x0.2.2.2) fun u76 =>
  k52 (u76) else k52 (false)) else k52 (false)) else k52 (false)) else k52 (false))))
def F_spec_swGood (x0 : ((List (List (Int × Int))) × (List Int) × Int × Int)) : Option Bool :=
  F_spec_swGood_L1 x0 FU (0)
def F_spec_IsShow (x0 : ((List (List (Int × Int))) × (List Int) × Int × Int)) : Option Bool :=
  Option.bind (F_spec_swGood x0) fun u8 =>
  some u8
def F_impl_within (x0 : Int) (x1 : Int) (x2 : Int) : Option Bool :=
  jK1 (fun (y6 : Bool) => some y6) (fun k7 => (if (decide (x1 ≤ x0)) = true then k7 ((decide (x0 ≤ x2))) else k7 (false)))
def F_impl_IsSpot (x0 : (Int × Int)) : Option Bool :=
  jK1 (fun (y11 : Bool) => some y11) (fun k12 => Option.bind (F_impl_within x0.1 0 1280) fun u14 =>
  (if u14 = true then Option.bind (F_impl_within x0.2 0 672) fun u21 =>
  k12 (u21) else k12 (false)))
def F_slices_Index_impl_Spot_impl_Spot_L1 (x0 : (List (Int × Int))) (x1 : (Int × Int)) : Nat → Int → Option Int
  | 0, _ => none
  | m + 1, y12 => (if (decide (y12 < (List.length x0 : Int))) = true then Option.bind (idx x0 y12) fun u27 =>
  (if (eqv_Spot x1 u27) = true then some y12 else (F_slices_Index_impl_Spot_impl_Spot_L1 x0 x1 m) ((w64 (y12 + 1)))) else some (-1))
def F_slices_Index_impl_Spot_impl_Spot (x0 : (List (Int × Int))) (x1 : (Int × Int)) : Option Int :=
  F_slices_Index_impl_Spot_impl_Spot_L1 x0 x1 FU (0)
def F_slices_Contains_impl_Spot_impl_Spot (x0 : (List (Int × Int))) (x1 : (Int × Int)) : Option Bool :=
  Option.bind (F_slices_Index_impl_Spot_impl_Spot x0 x1) fun u8 =>
  some (decide (0 ≤ u8))
def F_impl_IsChart_L1 (x0 : (List (Int × Int))) : Nat → Int → Option Bool
  | 0, _ => none
  | m + 1, y17 => (if (decide (y17 < (List.length x0 : Int))) = true then Option.bind (idx x0 y17) fun u26 =>
  jK1 (fun (y42 : Bool) => (if y42 = true then some false else (F_impl_IsChart_L1 x0 m) ((w64 (y17 + 1))))) (fun k43 => Option.bind (F_impl_IsSpot u26) fun u52 =>
  (if (!u52) = true then k43 (true) else Option.bind (sl x0 0 y17) fun u60 =>
  Option.bind (F_slices_Contains_impl_Spot_impl_Spot u60 u26) fun u63 =>
  k43 (u63))) else some true)
def F_impl_IsChart (x0 : (List (Int × Int))) : Option Bool :=
  Option.bind (F_impl_within (List.length x0 : Int) 1 12) fun u4 =>
  (if (!u4) = true then some false else F_impl_IsChart_L1 x0 FU (0))
def F_impl_areCharts_L2 (x1 : (List Int)) : Nat → Int → Option Bool
  | 0, _ => none
  | m + 1, y57 => (if (decide (y57 < (List.length x1 : Int))) = true then Option.bind (idx x1 y57) fun u66 =>
  Option.bind (F_impl_within u66 1 64) fun u70 =>
  (if (!u70) = true then some false else (F_impl_areCharts_L2 x1 m) ((w64 (y57 + 1)))) else some true)
def F_impl_areCharts_L1 (x0 : (List (List (Int × Int)))) (x1 : (List Int)) : Nat → Int → Option Bool
  | 0, _ => none
  | m + 1, y17 => (if (decide (y17 < (List.length x0 : Int))) = true then Option.bind (idx x0 y17) fun u26 =>
  jK1 (fun (y35 : Bool) => (if y35 = true then some false else (F_impl_areCharts_L1 x0 x1 m) ((w64 (y17 + 1))))) (fun k36 => Option.bind (F_impl_IsChart u26) fun u40 =>
  (if (!u40) = true then k36 (true) else Option.bind (idx x0 0) fun u47 =>
  k36 (((List.length u26 : Int) != (List.length u47 : Int))))) else F_impl_areCharts_L2 x1 FU (0))
def F_impl_areCharts (x0 : (List (List (Int × Int)))) (x1 : (List Int)) : Option Bool :=
  jK1 (fun (y7 : Bool) => (if y7 = true then some false else F_impl_areCharts_L1 x0 x1 FU (0))) (fun k8 => Option.bind (F_impl_within (List.length x0 : Int) 1 9) fun u79 =>
  (if (!u79) = true then k8 (true) else k8 (((List.length x1 : Int) != (w64 ((List.length x0 : Int) - 1))))))
def F_impl_isLeast (x0 : Int) : Option Bool :=
  Option.bind (F_impl_within x0 0 80) fun u3 =>
  some u3
def F_impl_IsShow (x0 : ((List (List (Int × Int))) × (List Int) × Int × Int)) : Option Bool :=
  jK1 (fun (y11 : Bool) => some y11) (fun k12 => Option.bind (F_impl_within (List.length x0.1 : Int) 2 8) fun u14 =>
  (if u14 = true then Option.bind (F_impl_areCharts x0.1 x0.2.1) fun u21 =>
  (if u21 = true then Option.bind (F_impl_isLeast x0.2.2.1) fun u28 =>
  (if u28 = true then Option.bind (F_impl_within x0.2.2.2 1 24) fun u35 =>
  k12 (u35) else k12 (false)) else k12 (false)) else k12 (false)))
def F_laws_eqSpot (x0 : (Int × Int)) (x1 : (Int × Int)) : Option Bool :=
  (if (x0.1 != x1.1) = true then some false else (if (x0.2 != x1.2) = true then some false else some true))
def F_laws_eqSpotS_L1 (x0 : (List (Int × Int))) (x1 : (List (Int × Int))) : Nat → Int → Option Bool
  | 0, _ => none
  | m + 1, y11 => (if (decide (y11 < (List.length x0 : Int))) = true then Option.bind (idx x0 y11) fun u25 =>
  Option.bind (idx x1 y11) fun u28 =>
  Option.bind (F_laws_eqSpot u25 u28) fun u31 =>
  (if (!u31) = true then some false else (F_laws_eqSpotS_L1 x0 x1 m) ((w64 (y11 + 1)))) else some true)
def F_laws_eqSpotS (x0 : (List (Int × Int))) (x1 : (List (Int × Int))) : Option Bool :=
  (if ((List.length x0 : Int) != (List.length x1 : Int)) = true then some false else F_laws_eqSpotS_L1 x0 x1 FU (0))
def F_laws_eqSpotSS_L1 (x0 : (List (List (Int × Int)))) (x1 : (List (List (Int × Int)))) : Nat → Int → Option Bool
  | 0, _ => none
  | m + 1, y11 => (if (decide (y11 < (List.length x0 : Int))) = true then Option.bind (idx x0 y11) fun u25 =>
  Option.bind (idx x1 y11) fun u30 =>
  Option.bind (F_laws_eqSpotS u25 u30) fun u35 =>
  (if (!u35) = true then some false else (F_laws_eqSpotSS_L1 x0 x1 m) ((w64 (y11 + 1)))) else some true)
def F_laws_eqSpotSS (x0 : (List (List (Int × Int)))) (x1 : (List (List (Int × Int)))) : Option Bool :=
  (if ((List.length x0 : Int) != (List.length x1 : Int)) = true then some false else F_laws_eqSpotSS_L1 x0 x1 FU (0))
def F_laws_eqIntS_L1 (x0 : (List Int)) (x1 : (List Int)) : Nat → Int → Option Bool
  | 0, _ => none
  | m + 1, y11 => (if (decide (y11 < (List.length x0 : Int))) = true then Option.bind (idx x0 y11) fun u25 =>
  Option.bind (idx x1 y11) fun u28 =>
  (if (u25 != u28) = true then some false else (F_laws_eqIntS_L1 x0 x1 m) ((w64 (y11 + 1)))) else some true)
def F_laws_eqIntS (x0 : (List Int)) (x1 : (List Int)) : Option Bool :=
  (if ((List.length x0 : Int) != (List.length x1 : Int)) = true then some false else F_laws_eqIntS_L1 x0 x1 FU (0))
def F_laws_eqShow (x0 : ((List (List (Int × Int))) × (List Int) × Int × Int)) (x1 : ((List (List (Int × Int))) × (List Int) × Int × Int)) : Option Bool :=
  Option.bind (F_laws_eqSpotSS x0.1 x1.1) fun u14 =>
  (if (!u14) = true then some false else Option.bind (F_laws_eqIntS x0.2.1 x1.2.1) fun u24 =>
  (if (!u24) = true then some false else (if (x0.2.2.1 != x1.2.2.1) = true then some false else (if (x0.2.2.2 != x1.2.2.2) = true then some false else some true))))
def F_laws_FnExactIsShow (x0 : ((List (List (Int × Int))) × (List Int) × Int × Int)) : Option Bool :=
  Option.bind (F_laws_szShow x0 1048576) fun u9 =>
  (if (decide (u9 < 0)) = true then some true else Option.bind (F_laws_toShow x0) fun u20 =>
  Option.bind (F_spec_IsShow u20) fun u30 =>
  Option.bind (F_laws_toShow x0) fun u37 =>
  Option.bind (F_impl_IsShow u37) fun u57 =>
  (if (u57 != u30) = true then some false else Option.bind (F_laws_toShow x0) fun u74 =>
  Option.bind (F_laws_eqShow u37 u74) fun u85 =>
  (if (!u85) = true then some false else some true)))
def F_spec_swTotal_L1 (x0 : ((List (List (Int × Int))) × (List Int) × Int × Int)) : Nat → Int → Int → Option Int
  | 0, _, _ => none
  | m + 1, y13, y14 => (if (decide (y14 < (List.length x0.2.1 : Int))) = true then Option.bind (idx x0.2.1 y14) fun u23 =>
  (F_spec_swTotal_L1 x0 m) ((w64 (y13 + u23))) ((w64 (y14 + 1))) else some y13)
def F_spec_swTotal (x0 : ((List (List (Int × Int))) × (List Int) × Int × Int)) : Option Int :=
  F_spec_swTotal_L1 x0 FU (0) (0)
def F_spec_TotalCounts (x0 : ((List (List (Int × Int))) × (List Int) × Int × Int)) : Option (Int × Bool) :=
  Option.bind (F_spec_swGood x0) fun u9 =>
  (if (!u9) = true then some (0, false) else Option.bind (F_spec_swTotal x0) fun u18 =>
  some (u18, true))
def F_impl_totalCounts_L1 (x0 : ((List (List (Int × Int))) × (List Int) × Int × Int)) : Nat → Int → Int → Option Int
  | 0, _, _ => none
  | m + 1, y13, y14 => (if (decide (y14 < (List.length x0.2.1 : Int))) = true then Option.bind (idx x0.2.1 y14) fun u23 =>
  (F_impl_totalCounts_L1 x0 m) ((w64 (y13 + u23))) ((w64 (y14 + 1))) else some y13)
def F_impl_totalCounts (x0 : ((List (List (Int × Int))) × (List Int) × Int × Int)) : Option Int :=
  F_impl_totalCounts_L1 x0 FU (0) (0)
def F_impl_TotalCounts (x0 : ((List (List (Int × Int))) × (List Int) × Int × Int)) : Option (Int × Bool) :=
  Option.bind (F_impl_IsShow x0) fun u9 =>
  (if (!u9) = true then some (0, false) else Option.bind (F_impl_totalCounts x0) fun u18 =>
  some (u18, true))
def F_laws_FnExactTotalCounts (x0 : ((List (List (Int × Int))) × (List Int) × Int × Int)) : Option Bool :=
  Option.bind (F_laws_szShow x0 1048576) fun u9 =>
  (if (decide (u9 < 0)) = true then some true else Option.bind (F_laws_toShow x0) fun u20 =>
  Option.bind (F_spec_TotalCounts u20) fun u30 =>
  Option.bind (F_laws_toShow x0) fun u37 =>
  Option.bind (F_impl_TotalCounts u37) fun u57 =>
  jK1 (fun (y68 : Bool) => (if y68 = true then some false else Option.bind (F_laws_toShow x0) fun u80 =>
  Option.bind (F_laws_eqShow u37 u80) fun u91 =>
  (if (!u91) = true then some false else some true))) (fun k69 => (if (u57.1 != u30.1) = true then k69 (true) else k69 ((u57.2 != u30.2)))))
def F_laws_szMeasureS (x0 : (List (Int × Int))) (x1 : Int) : Option Int :=
  (if (decide ((w64 (x1 - (List.length x0 : Int))) < 0)) = true then some (-1) else some (w64 (x1 - (List.length x0 : Int))))
def F_laws_szCue (x0 : (Int × (List UInt8))) (x1 : Int) : Option Int :=
  (if (decide ((w64 (x1 - (List.length x0.2 : Int))) < 0)) = true then some (-1) else some (w64 (x1 - (List.length x0.2 : Int))))
def F_laws_szCueS_L1 (x0 : (List (Int × (List UInt8)))) : Nat → Int → Int → Option Int
  | 0, _, _ => none
  | m + 1, y12, y13 => (if (decide (y13 < (List.length x0 : Int))) = true then Option.bind (idx x0 y13) fun u22 =>
  Option.bind (F_laws_szCue u22 y12) fun u25 =>
  (if (decide (u25 < 0)) = true then some (-1) else (F_laws_szCueS_L1 x0 m) (u25) ((w64 (y13 + 1)))) else some y12)
def F_laws_szCueS (x0 : (List (Int × (List UInt8)))) (x1 : Int) : Option Int :=
  (if (decide ((w64 (x1 - (List.length x0 : Int))) < 0)) = true then some (-1) else F_laws_szCueS_L1 x0 FU ((w64 (x1 - (List.length x0 : Int)))) (0))
def F_laws_toMeasure (x0 : (Int × Int)) : Option (Int × Int) :=
  some x0
def F_laws_toMeasureS_L1 (x0 : (List (Int × Int))) : Nat → (List (Int × Int)) → Int → Option (List (Int × Int))
  | 0, _, _ => none
  | m + 1, l15, y18 => (if (decide (y18 < (List.length x0 : Int))) = true then Option.bind (idx x0 y18) fun u26 =>
  Option.bind (F_laws_toMeasure u26) fun u29 =>
  Option.bind (idx l15 y18) fun u35 =>
  (F_laws_toMeasureS_L1 x0 m) ((seti l15 y18 u29)) ((w64 (y18 + 1))) else some l15)
def F_laws_toMeasureS (x0 : (List (Int × Int))) : Option (List (Int × Int)) :=
  Option.bind (mkL (List.length x0 : Int) (0, 0)) fun u3 =>
  F_laws_toMeasureS_L1 x0 FU (u3) (0)
def F_laws_toCue (x0 : (Int × (List UInt8))) : Option (Int × (List UInt8)) :=
  some x0
def F_laws_toCueS_L1 (x0 : (List (Int × (List UInt8)))) : Nat → (List (Int × (List UInt8))) → Int → Option (List (Int × (List UInt8)))
  | 0, _, _ => none
  | m + 1, l15, y18 => (if (decide (y18 < (List.length x0 : Int))) = true then Option.bind (idx x0 y18) fun u26 =>
  Option.bind (F_laws_toCue u26) fun u29 =>
  Option.bind (idx l15 y18) fun u35 =>
  (F_laws_toCueS_L1 x0 m) ((seti l15 y18 u29)) ((w64 (y18 + 1))) else some l15)
def F_laws_toCueS (x0 : (List (Int × (List UInt8)))) : Option (List (Int × (List UInt8))) :=
  Option.bind (mkL (List.length x0 : Int) (0, [])) fun u3 =>
  F_laws_toCueS_L1 x0 FU (u3) (0)
def F_spec_muMeasure (x0 : (Int × Int)) : Option Bool :=
  jK1 (fun (y11 : Bool) => some y11) (fun k12 => Option.bind (F_spec_l1In x0.1 1 12) fun u14 =>
  (if u14 = true then Option.bind (F_spec_l1In x0.2 40 220) fun u21 =>
  k12 (u21) else k12 (false)))
def F_spec_muGood_L1 (x0 : (List (Int × Int))) : Nat → Int → Option Bool
  | 0, _ => none
  | m + 1, y7 => (if (decide (y7 < (List.length x0 : Int))) = true then Option.bind (idx x0 y7) fun u16 =>
  Option.bind (F_spec_muMeasure u16) fun u29 =>
  (if (!u29) = true then some false else (F_spec_muGood_L1 x0 m) ((w64 (y7 + 1)))) else Option.bind (F_spec_l1In (List.length x0 : Int) 1 40) fun u38 =>
  some u38)
def F_spec_muGood (x0 : (List (Int × Int))) : Option Bool :=
  F_spec_muGood_L1 x0 FU (0)
def F_spec_muCounts_L1 (x0 : (List (Int × Int))) : Nat → Int → Int → Option Int
  | 0, _, _ => none
  | m + 1, y8, y9 => (if (decide (y9 < (List.length x0 : Int))) = true then Option.bind (idx x0 y9) fun u18 =>
  (F_spec_muCounts_L1 x0 m) ((w64 (y8 + u18.1))) ((w64 (y9 + 1))) else some y8)
def F_spec_muCounts (x0 : (List (Int × Int))) : Option Int :=
  F_spec_muCounts_L1 x0 FU (0) (0)
def F_spec_tiName_L1 (x0 : (List UInt8)) : Nat → Int → Option Bool
  | 0, _ => none
  | m + 1, y7 => (if (decide (y7 < (List.length x0 : Int))) = true then jK1 (fun (y19 : Bool) => (if y19 = true then some false else (F_spec_tiName_L1 x0 m) ((w64 (y7 + 1))))) (fun k20 => Option.bind (idx x0 y7) fun u24 =>
  (if (decide ((UInt8.toNat u24 : Int) < 97)) = true then k20 (true) else Option.bind (idx x0 y7) fun u26 =>
  k20 ((decide (122 < (UInt8.toNat u26 : Int)))))) else Option.bind (F_spec_l1In (List.length x0 : Int) 1 8) fun u28 =>
  some u28)
def F_spec_tiName (x0 : (List UInt8)) : Option Bool :=
  F_spec_tiName_L1 x0 FU (0)
def F_spec_tiCues_L2 (u39 : (List (Int × (List UInt8)))) (u16 : (Int × (List UInt8))) (nx8 : (Int → Option Bool)) (y7 : Int) : Nat → Int → Option Bool
  | 0, _ => none
  | m + 1, y45 => (if (decide (y45 < (List.length u39 : Int))) = true then Option.bind (idx u39 y45) fun u54 =>
  (if (u54.2 == u16.2) = true then some false else (F_spec_tiCues_L2 u39 u16 nx8 y7 m) ((w64 (y45 + 1)))) else nx8 ((w64 (y7 + 1))))
def F_spec_tiCues_L1 (x1 : (List (Int × (List UInt8)))) (x0 : (List (Int × Int))) : Nat → Int → Option Bool
  | 0, _ => none
  | m + 1, y7 => (if (decide (y7 < (List.length x1 : Int))) = true then Option.bind (idx x1 y7) fun u16 =>
  jK1 (fun (y33 : Bool) => (if y33 = true then some false else Option.bind (sl x1 0 y7) fun u39 =>
  F_spec_tiCues_L2 u39 u16 (F_spec_tiCues_L1 x1 x0 m) y7 FU (0))) (fun k34 => Option.bind (F_spec_muCounts x0) fun u74 =>
  Option.bind (F_spec_l1In u16.1 0 (w64 (u74 - 1))) fun u81 =>
  (if (!u81) = true then k34 (true) else Option.bind (F_spec_tiName u16.2) fun u89 =>
  (if (!u89) = true then k34 (true) else (if (decide (0 < y7)) = true then Option.bind (idx x1 (w64 (y7 - 1))) fun u98 =>
  k34 ((decide (u16.1 ≤ u98.1))) else k34 (false))))) else some (decide ((List.length x1 : Int) ≤ 30)))
def F_spec_tiCues (x0 : (List (Int × Int))) (x1 : (List (Int × (List UInt8)))) : Option Bool :=
  F_spec_tiCues_L1 x1 x0 FU (0)
def F_spec_tiGood (x0 : (List (Int × Int))) (x1 : (List (Int × (List UInt8)))) : Option Bool :=
  jK1 (fun (y6 : Bool) => some y6) (fun k7 => Option.bind (F_spec_muGood x0) fun u9 =>
  (if u9 = true then Option.bind (F_spec_tiCues x0 x1) fun u16 =>
  k7 (u16) else k7 (false)))
def F_spec_tiTime (x0 : Int) : Option Bool :=
  Option.bind (F_spec_l1In x0 0 1000000) fun u3 =>
  some u3
def F_spec_muLasts (x0 : Int) (x1 : Int) : Option Int :=
  (if x1 = 0 then none else some (w64 (Int.tdiv (w64 (60000 * x0)) x1)))
def F_spec_muTime_L1 (x0 : (List (Int × Int))) : Nat → Int → Int → Int → Option Int
  | 0, _, _, _ => none
  | m + 1, y8, y9, y10 => (if (decide (y10 < (List.length x0 : Int))) = true then Option.bind (idx x0 y10) fun u19 =>
  (if (decide (y8 < u19.1)) = true then Option.bind (F_spec_muLasts y8 u19.2) fun u35 =>
  some (w64 (y9 + u35)) else Option.bind (F_spec_muLasts u19.1 u19.2) fun u42 =>
  (F_spec_muTime_L1 x0 m) ((w64 (y8 - u19.1))) ((w64 (y9 + u42))) ((w64 (y10 + 1)))) else some y9)
def F_spec_muTime (x0 : (List (Int × Int))) (x1 : Int) : Option Int :=
  F_spec_muTime_L1 x0 FU (x1) (0) (0)
def F_spec_tiTimes_L1 (x1 : (List (Int × (List UInt8)))) (x0 : (List (Int × Int))) : Nat → (List Int) → Int → Option (List Int)
  | 0, _, _ => none
  | m + 1, l8, y11 => (if (decide (y11 < (List.length x1 : Int))) = true then Option.bind (idx x1 y11) fun u21 =>
  Option.bind (F_spec_muTime x0 u21.1) fun u33 =>
  Option.bind (app l8 [u33]) fun u45 =>
  (F_spec_tiTimes_L1 x1 x0 m) (u45) ((w64 (y11 + 1))) else some l8)
def F_spec_tiTimes (x0 : (List (Int × Int))) (x1 : (List (Int × (List UInt8)))) : Option (List Int) :=
  F_spec_tiTimes_L1 x1 x0 FU ([]) (0)
def F_spec_LastCueAt_L1 (u15 : (List Int)) (x2 : Int) : Nat → Int → Int → Option (Int × Bool)
  | 0, _, _ => none
  | m + 1, y26, y27 => (if (decide (y27 < (List.length u15 : Int))) = true then jK1 (fun (y38 : Int) => (F_spec_LastCueAt_L1 u15 x2 m) (y38) ((w64 (y27 + 1)))) (fun k39 => Option.bind (idx u15 y27) fun u42 =>
  (if (decide (u42 ≤ x2)) = true then k39 (y27) else k39 (y26))) else (if (decide (y26 < 0)) = true then some (0, false) else some (y26, true)))
def F_spec_LastCueAt (x0 : (List (Int × Int))) (x1 : (List (Int × (List UInt8)))) (x2 : Int) : Option (Int × Bool) :=
  jK1 (fun (y7 : Bool) => (if y7 = true then some (0, false) else Option.bind (F_spec_tiTimes x0 x1) fun u15 =>
  F_spec_LastCueAt_L1 u15 x2 FU ((-1)) (0))) (fun k8 => Option.bind (F_spec_tiGood x0 x1) fun u53 =>
  (if (!u53) = true then k8 (true) else Option.bind (F_spec_tiTime x2) fun u60 =>
  k8 ((!u60))))
def F_impl_IsMusic_L1 (x0 : (List (Int × Int))) : Nat → Int → Option Bool
  | 0, _ => none
  | m + 1, y7 => (if (decide (y7 < (List.length x0 : Int))) = true then Option.bind (idx x0 y7) fun u16 =>
  jK1 (fun (y32 : Bool) => (if y32 = true then some false else (F_impl_IsMusic_L1 x0 m) ((w64 (y7 + 1))))) (fun k33 => Option.bind (F_impl_within u16.1 1 12) fun u37 =>
  (if (!u37) = true then k33 (true) else Option.bind (F_impl_within u16.2 40 220) fun u44 =>
  k33 ((!u44)))) else Option.bind (F_impl_within (List.length x0 : Int) 1 40) fun u51 =>
  some u51)
def F_impl_IsMusic (x0 : (List (Int × Int))) : Option Bool :=
  F_impl_IsMusic_L1 x0 FU (0)
def F_impl_countsOf_L1 (x0 : (List (Int × Int))) : Nat → Int → Int → Option Int
  | 0, _, _ => none
  | m + 1, y8, y9 => (if (decide (y9 < (List.length x0 : Int))) = true then Option.bind (idx x0 y9) fun u18 =>
  (F_impl_countsOf_L1 x0 m) ((w64 (y8 + u18.1))) ((w64 (y9 + 1))) else some y8)
def F_impl_countsOf (x0 : (List (Int × Int))) : Option Int :=
  F_impl_countsOf_L1 x0 FU (0) (0)
def F_impl_isName_L1 (x0 : (List UInt8)) : Nat → Int → Option Bool
  | 0, _ => none
  | m + 1, y7 => (if (decide (y7 < (List.length x0 : Int))) = true then jK1 (fun (y19 : Bool) => (if y19 = true then some false else (F_impl_isName_L1 x0 m) ((w64 (y7 + 1))))) (fun k20 => Option.bind (idx x0 y7) fun u24 =>
  (if (decide ((UInt8.toNat u24 : Int) < 97)) = true then k20 (true) else Option.bind (idx x0 y7) fun u26 =>
  k20 ((decide (122 < (UInt8.toNat u26 : Int)))))) else Option.bind (F_impl_within (List.length x0 : Int) 1 12) fun u28 =>
  some u28)
def F_impl_isName (x0 : (List UInt8)) : Option Bool :=
  F_impl_isName_L1 x0 FU (0)
def F_impl_areCues_1 (x0 : (Int × (List UInt8))) (y1 : (Int × (List UInt8))) : Option Bool :=
  some (x0.2 == y1.2)
def F_slices_IndexFunc_impl_Cue_impl_Cue__impl_areCues_1_L1 (x0 : (List (Int × (List UInt8)))) (y1_0 : (Int × (List UInt8))) : Nat → Int → Option Int
  | 0, _ => none
  | m + 1, y7 => (if (decide (y7 < (List.length x0 : Int))) = true then Option.bind (idx x0 y7) fun u17 =>
  Option.bind (F_impl_areCues_1 u17 y1_0) fun u20 =>
  (if u20 = true then some y7 else (F_slices_IndexFunc_impl_Cue_impl_Cue__impl_areCues_1_L1 x0 y1_0 m) ((w64 (y7 + 1)))) else some (-1))
def F_slices_IndexFunc_impl_Cue_impl_Cue__impl_areCues_1 (x0 : (List (Int × (List UInt8)))) (y1_0 : (Int × (List UInt8))) : Option Int :=
  F_slices_IndexFunc_impl_Cue_impl_Cue__impl_areCues_1_L1 x0 y1_0 FU (0)
def F_slices_ContainsFunc_impl_Cue_impl_Cue__impl_areCues_1 (x0 : (List (Int × (List UInt8)))) (y1_0 : (Int × (List UInt8))) : Option Bool :=
  Option.bind (F_slices_IndexFunc_impl_Cue_impl_Cue__impl_areCues_1 x0 y1_0) fun u3 =>
  some (decide (0 ≤ u3))
def F_impl_areCues_L1 (x1 : (List (Int × (List UInt8)))) (u7 : Int) : Nat → Int → Option Bool
  | 0, _ => none
  | m + 1, y18 => (if (decide (y18 < (List.length x1 : Int))) = true then Option.bind (idx x1 y18) fun u27 =>
  jK1 (fun (y44 : Bool) => (if y44 = true then some false else Option.bind (sl x1 0 y18) fun u50 =>
  Option.bind (F_slices_ContainsFunc_impl_Cue_impl_Cue__impl_areCues_1 u50 u27) fun u53 =>
  (if u53 = true then some false else (F_impl_areCues_L1 x1 u7 m) ((w64 (y18 + 1)))))) (fun k45 => Option.bind (F_impl_within u27.1 0 (w64 (u7 - 1))) fun u66 =>
  (if (!u66) = true then k45 (true) else (if (decide (8 < (List.length u27.2 : Int))) = true then k45 (true) else Option.bind (F_impl_isName u27.2) fun u75 =>
  (if (!u75) = true then k45 (true) else (if (decide (0 < y18)) = true then Option.bind (idx x1 (w64 (y18 - 1))) fun u84 =>
  k45 ((decide (u27.1 ≤ u84.1))) else k45 (false)))))) else some true)
def F_impl_areCues (x0 : (List (Int × Int))) (x1 : (List (Int × (List UInt8)))) : Option Bool :=
  (if (decide (30 < (List.length x1 : Int))) = true then some false else Option.bind (F_impl_countsOf x0) fun u7 =>
  F_impl_areCues_L1 x1 u7 FU (0))
def F_impl_haveCues (x0 : (List (Int × Int))) (x1 : (List (Int × (List UInt8)))) : Option Bool :=
  jK1 (fun (y6 : Bool) => some y6) (fun k7 => Option.bind (F_impl_IsMusic x0) fun u9 =>
  (if u9 = true then Option.bind (F_impl_areCues x0 x1) fun u16 =>
  k7 (u16) else k7 (false)))
def F_impl_isTime (x0 : Int) : Option Bool :=
  Option.bind (F_impl_within x0 0 1000000) fun u3 =>
  some u3
def F_impl_timeOf_L1 (x0 : (List (Int × Int))) : Nat → Int → Int → Int → Option Int
  | 0, _, _, _ => none
  | m + 1, y8, y9, y10 => (if (decide (y10 < (List.length x0 : Int))) = true then Option.bind (idx x0 y10) fun u19 =>
  (if (decide (y8 < u19.1)) = true then (if u19.2 = 0 then none else some (w64 (y9 + (w64 (Int.tdiv (w64 (60000 * y8)) u19.2))))) else (if u19.2 = 0 then none else (F_impl_timeOf_L1 x0 m) ((w64 (y8 - u19.1))) ((w64 (y9 + (w64 (Int.tdiv (w64 (60000 * u19.1)) u19.2))))) ((w64 (y10 + 1))))) else some y9)
def F_impl_timeOf (x0 : (List (Int × Int))) (x1 : Int) : Option Int :=
  F_impl_timeOf_L1 x0 FU (x1) (0) (0)
def F_impl_cueTimes_L1 (x1 : (List (Int × (List UInt8)))) (x0 : (List (Int × Int))) : Nat → (List Int) → Int → Option (List Int)
  | 0, _, _ => none
  | m + 1, l14, y17 => (if (decide (y17 < (List.length x1 : Int))) = true then Option.bind (idx x1 y17) fun u26 =>
  Option.bind (F_impl_timeOf x0 u26.1) fun u38 =>
  Option.bind (app l14 [u38]) fun u50 =>
  (F_impl_cueTimes_L1 x1 x0 m) (u50) ((w64 (y17 + 1))) else some l14)
def F_impl_cueTimes (x0 : (List (Int × Int))) (x1 : (List (Int × (List UInt8)))) : Option (List Int) :=
  F_impl_cueTimes_L1 x1 x0 FU ([]) (0)
def F_impl_LastCueAt_L1 (u15 : (List Int)) (x2 : Int) : Nat → Int → Int → Option (Int × Bool)
  | 0, _, _ => none
  | m + 1, y26, y27 => (if (decide (y27 < (List.length u15 : Int))) = true then jK1 (fun (y38 : Int) => (F_impl_LastCueAt_L1 u15 x2 m) (y38) ((w64 (y27 + 1)))) (fun k39 => Option.bind (idx u15 y27) fun u42 =>
  (if (decide (u42 ≤ x2)) = true then k39 (y27) else k39 (y26))) else (if (decide (y26 < 0)) = true then some (0, false) else some (y26, true)))
def F_impl_LastCueAt (x0 : (List (Int × Int))) (x1 : (List (Int × (List UInt8)))) (x2 : Int) : Option (Int × Bool) :=
  jK1 (fun (y7 : Bool) => (if y7 = true then some (0, false) else Option.bind (F_impl_cueTimes x0 x1) fun u15 =>
  F_impl_LastCueAt_L1 u15 x2 FU ((-1)) (0))) (fun k8 => Option.bind (F_impl_haveCues x0 x1) fun u53 =>
  (if (!u53) = true then k8 (true) else Option.bind (F_impl_isTime x2) fun u60 =>
  k8 ((!u60))))
def F_laws_eqMeasure (x0 : (Int × Int)) (x1 : (Int × Int)) : Option Bool :=
  (if (x0.1 != x1.1) = true then some false else (if (x0.2 != x1.2) = true then some false else some true))
def F_laws_eqMeasureS_L1 (x0 : (List (Int × Int))) (x1 : (List (Int × Int))) : Nat → Int → Option Bool
  | 0, _ => none
  | m + 1, y11 => (if (decide (y11 < (List.length x0 : Int))) = true then Option.bind (idx x0 y11) fun u25 =>
  Option.bind (idx x1 y11) fun u28 =>
  Option.bind (F_laws_eqMeasure u25 u28) fun u31 =>
  (if (!u31) = true then some false else (F_laws_eqMeasureS_L1 x0 x1 m) ((w64 (y11 + 1)))) else some true)
def F_laws_eqMeasureS (x0 : (List (Int × Int))) (x1 : (List (Int × Int))) : Option Bool :=
  (if ((List.length x0 : Int) != (List.length x1 : Int)) = true then some false else F_laws_eqMeasureS_L1 x0 x1 FU (0))
def F_laws_eqCue (x0 : (Int × (List UInt8))) (x1 : (Int × (List UInt8))) : Option Bool :=
  (if (x0.1 != x1.1) = true then some false else (if (x0.2 != x1.2) = true then some false else some true))
def F_laws_eqCueS_L1 (x0 : (List (Int × (List UInt8)))) (x1 : (List (Int × (List UInt8)))) : Nat → Int → Option Bool
  | 0, _ => none
  | m + 1, y11 => (if (decide (y11 < (List.length x0 : Int))) = true then Option.bind (idx x0 y11) fun u25 =>
  Option.bind (idx x1 y11) fun u28 =>
  Option.bind (F_laws_eqCue u25 u28) fun u31 =>
  (if (!u31) = true then some false else (F_laws_eqCueS_L1 x0 x1 m) ((w64 (y11 + 1)))) else some true)
def F_laws_eqCueS (x0 : (List (Int × (List UInt8)))) (x1 : (List (Int × (List UInt8)))) : Option Bool :=
  (if ((List.length x0 : Int) != (List.length x1 : Int)) = true then some false else F_laws_eqCueS_L1 x0 x1 FU (0))
def F_laws_FnExactLastCueAt (x0 : (List (Int × Int))) (x1 : (List (Int × (List UInt8)))) (x2 : Int) : Option Bool :=
  Option.bind (F_laws_szMeasureS x0 1048576) fun u4 =>
  (if (decide (u4 < 0)) = true then some true else Option.bind (F_laws_szCueS x1 u4) fun u15 =>
  (if (decide (u15 < 0)) = true then some true else Option.bind (F_laws_toMeasureS x0) fun u26 =>
  Option.bind (F_laws_toCueS x1) fun u34 =>
  Option.bind (F_spec_LastCueAt u26 u34 x2) fun u42 =>
  Option.bind (F_laws_toMeasureS x0) fun u49 =>
  Option.bind (F_laws_toCueS x1) fun u58 =>
  Option.bind (F_impl_LastCueAt u49 u58 x2) fun u67 =>
  jK1 (fun (y78 : Bool) => (if y78 = true then some false else Option.bind (F_laws_toMeasureS x0) fun u85 =>
  Option.bind (F_laws_eqMeasureS u49 u85) fun u93 =>
  (if (!u93) = true then some false else Option.bind (F_laws_toCueS x1) fun u103 =>
  Option.bind (F_laws_eqCueS u58 u103) fun u111 =>
  (if (!u111) = true then some false else some true)))) (fun k79 => (if (u67.1 != u42.1) = true then k79 (true) else k79 ((u67.2 != u42.2))))))
def F_spec_tiIf (x0 : (List (Int × Int))) (x1 : (List (Int × (List UInt8)))) : Option ((List (Int × (List UInt8))) × Bool) :=
  Option.bind (F_spec_tiCues x0 x1) fun u4 =>
  (if (!u4) = true then some ([], false) else Option.bind (app [] x1) fun u20 =>
  some (u20, true))
def F_spec_ShiftCues_L1 (u20 : (List (Int × (List UInt8)))) (x2 : Int) (x0 : (List (Int × Int))) : Nat → (List (Int × (List UInt8))) → Int → Option ((List (Int × (List UInt8))) × Bool)
  | 0, _, _ => none
  | m + 1, l32, y35 => (if (decide (y35 < (List.length u20 : Int))) = true then Option.bind (idx l32 y35) fun u44 =>
  Option.bind (idx l32 y35) fun u48 =>
  (F_spec_ShiftCues_L1 u20 x2 x0 m) ((seti l32 y35 ((w64 (u44.1 + x2)), u48.2))) ((w64 (y35 + 1))) else Option.bind (F_spec_tiIf x0 l32) fun u57 =>
  some u57)
def F_spec_ShiftCues (x0 : (List (Int × Int))) (x1 : (List (Int × (List UInt8)))) (x2 : Int) : Option ((List (Int × (List UInt8))) × Bool) :=
  jK1 (fun (y7 : Bool) => (if y7 = true then some ([], false) else Option.bind (app [] x1) fun u20 =>
  F_spec_ShiftCues_L1 u20 x2 x0 FU (u20) (0))) (fun k8 => Option.bind (F_spec_tiGood x0 x1) fun u65 =>
  (if (!u65) = true then k8 (true) else Option.bind (F_spec_l1In x2 (-500) 500) fun u72 =>
  k8 ((!u72))))
def F_impl_ShiftCues_L1 (x1 : (List (Int × (List UInt8)))) (x2 : Int) (x0 : (List (Int × Int))) : Nat → (List (Int × (List UInt8))) → Int → Option ((List (Int × (List UInt8))) × Bool)
  | 0, _, _ => none
  | m + 1, l25, y28 => (if (decide (y28 < (List.length x1 : Int))) = true then Option.bind (idx x1 y28) fun u37 =>
  Option.bind (app l25 [((w64 (u37.1 + x2)), u37.2)]) fun u55 =>
  (F_impl_ShiftCues_L1 x1 x2 x0 m) (u55) ((w64 (y28 + 1))) else Option.bind (F_impl_areCues x0 l25) fun u64 =>
  (if (!u64) = true then some ([], false) else some (l25, true)))
def F_impl_ShiftCues (x0 : (List (Int × Int))) (x1 : (List (Int × (List UInt8)))) (x2 : Int) : Option ((List (Int × (List UInt8))) × Bool) :=
  jK1 (fun (y7 : Bool) => (if y7 = true then some ([], false) else F_impl_ShiftCues_L1 x1 x2 x0 FU ([]) (0))) (fun k8 => Option.bind (F_impl_haveCues x0 x1) fun u74 =>
  (if (!u74) = true then k8 (true) else Option.bind (F_impl_within x2 (-500) 500) fun u81 =>
  k8 ((!u81))))
def F_laws_markMeasureS_L1  : Nat → (List (Int × Int)) → Int → Int → Option (Int × (List (Int × Int)))
  | 0, _, _, _ => none
  | m + 1, l7, y8, y9 => (if (decide (y9 < (List.length l7 : Int))) = true then Option.bind (idx l7 y9) fun u18 =>
  Option.bind (idx (seti l7 y9 (y8, u18.2)) y9) fun u28 =>
  (F_laws_markMeasureS_L1 m) ((seti (seti l7 y9 (y8, u18.2)) y9 (u28.1, (w64 (y8 + 1))))) ((w64 ((w64 (y8 + 1)) + 1))) ((w64 (y9 + 1))) else some (y8, l7))
def F_laws_markMeasureS (x0 : (List (Int × Int))) (x1 : Int) : Option (Int × (List (Int × Int))) :=
  F_laws_markMeasureS_L1 FU (x0) (x1) (0)
def F_laws_markText_L1  : Nat → Int → (List UInt8) → Option (List UInt8)
  | 0, _, _ => none
  | m + 1, y11, y12 => (if (decide (0 < y11)) = true then Option.bind (app (bytesOf [(wu8 (w64 (48 + (Int.tmod y11 10))))]) y12) fun u26 =>
  (F_laws_markText_L1 m) ((w64 (Int.tdiv y11 10))) (u26) else Option.bind (app [109] y12) fun u28 =>
  some u28)
def F_laws_markText (x0 : Int) : Option (List UInt8) :=
  (if (decide (x0 ≤ 0)) = true then some ([109, 48]) else F_laws_markText_L1 FU (x0) ([]))
def F_laws_markCueS_L1  : Nat → (List (Int × (List UInt8))) → Int → Int → Option (Int × (List (Int × (List UInt8))))
  | 0, _, _, _ => none
  | m + 1, l7, y8, y9 => (if (decide (y9 < (List.length l7 : Int))) = true then Option.bind (idx l7 y9) fun u18 =>
  Option.bind (F_laws_markText (w64 (y8 + 1))) fun u28 =>
  Option.bind (idx (seti l7 y9 (y8, u18.2)) y9) fun u34 =>
  (F_laws_markCueS_L1 m) ((seti (seti l7 y9 (y8, u18.2)) y9 (u34.1, u28))) ((w64 ((w64 (y8 + 1)) + 1))) ((w64 (y9 + 1))) else some (y8, l7))
def F_laws_markCueS (x0 : (List (Int × (List UInt8)))) (x1 : Int) : Option (Int × (List (Int × (List UInt8)))) :=
  F_laws_markCueS_L1 FU (x0) (x1) (0)
def F_laws_heldCueS_L1 (x0 : (List (Int × (List UInt8)))) : Nat → Int → Int → Option Int
  | 0, _, _ => none
  | m + 1, y7, y8 => (if (decide (y8 < (List.length x0 : Int))) = true then Option.bind (idx x0 y8) fun u18 =>
  (if (u18.1 != y7) = true then some (-1) else Option.bind (idx x0 y8) fun u31 =>
  Option.bind (F_laws_markText (w64 (y7 + 1))) fun u34 =>
  (if (u31.2 != u34) = true then some (-1) else (F_laws_heldCueS_L1 x0 m) ((w64 ((w64 (y7 + 1)) + 1))) ((w64 (y8 + 1))))) else some y7)
def F_laws_heldCueS (x0 : (List (Int × (List UInt8)))) (x1 : Int) : Option Int :=
  F_laws_heldCueS_L1 x0 FU (x1) (0)
def F_laws_FnExactShiftCues (x0 : (List (Int × Int))) (x1 : (List (Int × (List UInt8)))) (x2 : Int) : Option Bool :=
  Option.bind (F_laws_szMeasureS x0 1048576) fun u4 =>
  (if (decide (u4 < 0)) = true then some true else Option.bind (F_laws_szCueS x1 u4) fun u15 =>
  (if (decide (u15 < 0)) = true then some true else Option.bind (F_laws_toMeasureS x0) fun u26 =>
  Option.bind (F_laws_toCueS x1) fun u34 =>
  Option.bind (F_spec_ShiftCues u26 u34 x2) fun u42 =>
  Option.bind (F_laws_toMeasureS x0) fun u51 =>
  Option.bind (F_laws_toCueS x1) fun u60 =>
  Option.bind (F_impl_ShiftCues u51 u60 x2) fun u69 =>
  jK1 (fun (y82 : Bool) => (if y82 = true then some false else Option.bind (F_laws_toMeasureS x0) fun u89 =>
  Option.bind (F_laws_eqMeasureS u51 u89) fun u97 =>
  (if (!u97) = true then some false else Option.bind (F_laws_toCueS x1) fun u107 =>
  Option.bind (F_laws_eqCueS u60 u107) fun u115 =>
  (if (!u115) = true then some false else Option.bind (F_laws_markMeasureS u51 1) fun u125 =>
  Option.bind (F_laws_markCueS u60 u125.1) fun u132 =>
  jK1 (fun (y143 : Bool) => (if y143 = true then some false else Option.bind (F_laws_markCueS u69.1 1) fun u150 =>
  Option.bind (F_laws_heldCueS u150.2 1) fun u158 =>
  (if (decide (u158 < 0)) = true then some false else (if (u158 != u150.1) = true then some false else Option.bind (F_laws_toMeasureS x0) fun u173 =>
  Option.bind (F_laws_toCueS x1) fun u181 =>
  Option.bind (F_impl_ShiftCues u173 u181 x2) fun u189 =>
  jK1 (fun (y202 : Bool) => (if y202 = true then some false else Option.bind (F_laws_heldCueS u150.2 1) fun u209 =>
  (if (decide (u209 < 0)) = true then some false else (if (u209 != u150.1) = true then some false else some true)))) (fun k203 => Option.bind (F_laws_eqCueS u189.1 u42.1) fun u224 =>
  (if (!u224) = true then k203 (true) else k203 ((u189.2 != u42.2)))))))) (fun k144 => (if (decide (u132.1 < 0)) = true then k144 (true) else Option.bind (F_laws_eqCueS u69.1 u42.1) fun u232 =>
  (if (!u232) = true then k144 (true) else k144 ((u69.2 != u42.2))))))))) (fun k83 => Option.bind (F_laws_eqCueS u69.1 u42.1) fun u239 =>
  (if (!u239) = true then k83 (true) else k83 ((u69.2 != u42.2))))))
def F_spec_AddCue_L1 (x1 : (List (Int × (List UInt8)))) (x2 : (Int × (List UInt8))) (x0 : (List (Int × Int))) : Nat → Int → Option ((List (Int × (List UInt8))) × Bool)
  | 0, _ => none
  | m + 1, y23 => jK1 (fun (y32 : Bool) => (if y32 = true then (F_spec_AddCue_L1 x1 x2 x0 m) ((w64 (y23 + 1))) else jK2 (fun (l40 : (List (Int × (List UInt8)))) (y43 : Bool) => some (l40, y43)) (fun k44 => Option.bind (sl x1 0 y23) fun u51 =>
  Option.bind (sl x1 y23 (List.length x1 : Int)) fun u54 =>
  Option.bind (app [] u51) fun u67 =>
  Option.bind (app u67 [x2]) fun u86 =>
  Option.bind (app u86 u54) fun u95 =>
  Option.bind (F_spec_tiIf x0 u95) fun u104 =>
  k44 (u104.1) (u104.2)))) (fun k33 => (if (decide (y23 < (List.length x1 : Int))) = true then Option.bind (idx x1 y23) fun u221 =>
  k33 ((decide (u221.1 < x2.1))) else k33 (false)))
def F_spec_AddCue (x0 : (List (Int × Int))) (x1 : (List (Int × (List UInt8)))) (x2 : (Int × (List UInt8))) : Option ((List (Int × (List UInt8))) × Bool) :=
  Option.bind (F_spec_tiGood x0 x1) fun u9 =>
  (if (!u9) = true then some ([], false) else F_spec_AddCue_L1 x1 x2 x0 FU (0))
def F_impl_AddCue_L1 (x1 : (List (Int × (List UInt8)))) (x2 : (Int × (List UInt8))) (x0 : (List (Int × Int))) : Nat → Int → Option ((List (Int × (List UInt8))) × Bool)
  | 0, _ => none
  | m + 1, y23 => jK1 (fun (y32 : Bool) => (if y32 = true then (F_impl_AddCue_L1 x1 x2 x0 m) ((w64 (y23 + 1))) else Option.bind (sl x1 0 y23) fun u43 =>
  Option.bind (app [] u43) fun u46 =>
  Option.bind (sl x1 y23 (List.length x1 : Int)) fun u59 =>
  Option.bind (app u46 [x2]) fun u74 =>
  Option.bind (app u74 u59) fun u82 =>
  Option.bind (F_impl_areCues x0 u82) fun u92 =>
  (if (!u92) = true then some ([], false) else some (u82, true)))) (fun k33 => (if (decide (y23 < (List.length x1 : Int))) = true then Option.bind (idx x1 y23) fun u108 =>
  k33 ((decide (u108.1 < x2.1))) else k33 (false)))
def F_impl_AddCue (x0 : (List (Int × Int))) (x1 : (List (Int × (List UInt8)))) (x2 : (Int × (List UInt8))) : Option ((List (Int × (List UInt8))) × Bool) :=
  Option.bind (F_impl_haveCues x0 x1) fun u9 =>
  (if (!u9) = true then some ([], false) else F_impl_AddCue_L1 x1 x2 x0 FU (0))
def F_laws_FnExactAddCue (x0 : (List (Int × Int))) (x1 : (List (Int × (List UInt8)))) (x2 : (Int × (List UInt8))) : Option Bool :=
  Option.bind (F_laws_szMeasureS x0 1048576) fun u9 =>
  (if (decide (u9 < 0)) = true then some true else Option.bind (F_laws_szCueS x1 u9) fun u20 =>
  (if (decide (u20 < 0)) = true then some true else Option.bind (F_laws_szCue x2 u20) fun u31 =>
  (if (decide (u31 < 0)) = true then some true else Option.bind (F_laws_toMeasureS x0) fun u47 =>
  Option.bind (F_laws_toCueS x1) fun u56 =>
  Option.bind (F_laws_toCue x2) fun u65 =>
  Option.bind (F_spec_AddCue u47 u56 u65) fun u72 =>
  Option.bind (F_laws_toMeasureS x0) fun u82 =>
  Option.bind (F_laws_toCueS x1) fun u91 =>
  Option.bind (F_laws_toCue x2) fun u100 =>
  Option.bind (F_impl_AddCue u82 u91 u100) fun u106 =>
  jK1 (fun (y119 : Bool) => (if y119 = true then some false else Option.bind (F_laws_toMeasureS x0) fun u126 =>
  Option.bind (F_laws_eqMeasureS u82 u126) fun u134 =>
  (if (!u134) = true then some false else Option.bind (F_laws_toCueS x1) fun u144 =>
  Option.bind (F_laws_eqCueS u91 u144) fun u152 =>
  (if (!u152) = true then some false else Option.bind (F_laws_markMeasureS u82 1) fun u162 =>
  Option.bind (F_laws_markCueS u91 u162.1) fun u169 =>
  jK1 (fun (y180 : Bool) => (if y180 = true then some false else Option.bind (F_laws_markCueS u106.1 1) fun u187 =>
  Option.bind (F_laws_heldCueS u187.2 1) fun u195 =>
  (if (decide (u195 < 0)) = true then some false else (if (u195 != u187.1) = true then some false else Option.bind (F_laws_toMeasureS x0) fun u215 =>
  Option.bind (F_laws_toCueS x1) fun u224 =>
  Option.bind (F_laws_toCue x2) fun u233 =>
  Option.bind (F_impl_AddCue u215 u224 u233) fun u240 =>
  jK1 (fun (y254 : Bool) => (if y254 = true then some false else Option.bind (F_laws_heldCueS u187.2 1) fun u261 =>
  (if (decide (u261 < 0)) = true then some false else (if (u261 != u187.1) = true then some false else some true)))) (fun k255 => Option.bind (F_laws_eqCueS u240.1 u72.1) fun u276 =>
  (if (!u276) = true then k255 (true) else k255 ((u240.2 != u72.2)))))))) (fun k181 => (if (decide (u169.1 < 0)) = true then k181 (true) else Option.bind (F_laws_eqCueS u106.1 u72.1) fun u284 =>
  (if (!u284) = true then k181 (true) else k181 ((u106.2 != u72.2))))))))) (fun k120 => Option.bind (F_laws_eqCueS u106.1 u72.1) fun u291 =>
  (if (!u291) = true then k120 (true) else k120 ((u106.2 != u72.2)))))))
def F_spec_swMoves_L1 (u10 : (List (Int × Int))) (x0 : ((List (List (Int × Int))) × (List Int) × Int × Int)) (x1 : Int) : Nat → (List ((Int × Int) × (Int × Int) × Int)) → Int → Option (List ((Int × Int) × (Int × Int) × Int))
  | 0, _, _ => none
  | m + 1, l18, y21 => (if (decide (y21 < (List.length u10 : Int))) = true then Option.bind (idx u10 y21) fun u31 =>
  Option.bind (idx x0.1 (w64 (x1 + 1))) fun u48 =>
  Option.bind (idx u48 y21) fun u53 =>
  Option.bind (idx x0.2.1 x1) fun u56 =>
  Option.bind (app l18 [(u31, u53, u56)]) fun u70 =>
  (F_spec_swMoves_L1 u10 x0 x1 m) (u70) ((w64 (y21 + 1))) else some l18)
def F_spec_swMoves (x0 : ((List (List (Int × Int))) × (List Int) × Int × Int)) (x1 : Int) : Option (List ((Int × Int) × (Int × Int) × Int)) :=
  Option.bind (idx x0.1 x1) fun u10 =>
  F_spec_swMoves_L1 u10 x0 x1 FU ([]) (0)
def F_spec_stSquare (x0 : (Int × Int)) (x1 : (Int × Int)) : Option Int :=
  some (w64 ((w64 ((w64 (x0.1 - x1.1)) * (w64 (x0.1 - x1.1)))) + (w64 ((w64 (x0.2 - x1.2)) * (w64 (x0.2 - x1.2))))))
def F_spec_cpSquares_L1 (u10 : (List ((Int × Int) × (Int × Int) × Int))) : Nat → (List Int) → Int → Option (List Int)
  | 0, _, _ => none
  | m + 1, l21, y24 => (if (decide (y24 < (List.length u10 : Int))) = true then Option.bind (idx u10 y24) fun u34 =>
  Option.bind (F_spec_stSquare u34.1 u34.2.1) fun u47 =>
  Option.bind (app l21 [u47]) fun u59 =>
  (F_spec_cpSquares_L1 u10 m) (u59) ((w64 (y24 + 1))) else some l21)
def F_spec_cpSquares (x0 : ((List (List (Int × Int))) × (List Int) × Int × Int)) (x1 : Int) : Option (List Int) :=
  Option.bind (F_spec_swMoves x0 x1) fun u10 =>
  F_spec_cpSquares_L1 u10 FU ([]) (0)
def F_spec_cpSum_L1 (x0 : (List Int)) : Nat → Int → Int → Option Int
  | 0, _, _ => none
  | m + 1, y8, y9 => (if (decide (y9 < (List.length x0 : Int))) = true then Option.bind (idx x0 y9) fun u18 =>
  (F_spec_cpSum_L1 x0 m) ((w64 (y8 + u18))) ((w64 (y9 + 1))) else some y8)
def F_spec_cpSum (x0 : (List Int)) : Option Int :=
  F_spec_cpSum_L1 x0 FU (0) (0)
def F_spec_WidestPart_L1 (x0 : ((List (List (Int × Int))) × (List Int) × Int × Int)) : Nat → Int → Int → Int → Option (Int × Int × Bool)
  | 0, _, _, _ => none
  | m + 1, y23, y24, y25 => (if (decide (y25 < (List.length x0.2.1 : Int))) = true then jK2 (fun (y36 : Int) (y37 : Int) => (F_spec_WidestPart_L1 x0 m) (y36) (y37) ((w64 (y25 + 1)))) (fun k38 => Option.bind (F_spec_cpSquares x0 y25) fun u42 =>
  Option.bind (F_spec_cpSum u42) fun u50 =>
  (if (decide (y24 < u50)) = true then k38 (y25) (u50) else k38 (y23) (y24))) else some (y23, y24, true))
def F_spec_WidestPart (x0 : ((List (List (Int × Int))) × (List Int) × Int × Int)) : Option (Int × Int × Bool) :=
  Option.bind (F_spec_swGood x0) fun u9 =>
  (if (!u9) = true then some (0, 0, false) else F_spec_WidestPart_L1 x0 FU (0) ((-1)) (0))
def F_impl_showMoves_L1 (u16 : (List (Int × Int))) (x0 : ((List (List (Int × Int))) × (List Int) × Int × Int)) (x1 : Int) : Nat → (List ((Int × Int) × (Int × Int) × Int)) → Int → Option (List ((Int × Int) × (Int × Int) × Int))
  | 0, _, _ => none
  | m + 1, l24, y27 => (if (decide (y27 < (List.length u16 : Int))) = true then Option.bind (idx u16 y27) fun u36 =>
  Option.bind (idx x0.1 (w64 (x1 + 1))) fun u53 =>
  Option.bind (idx u53 y27) fun u58 =>
  Option.bind (idx x0.2.1 x1) fun u61 =>
  Option.bind (app l24 [(u36, u58, u61)]) fun u75 =>
  (F_impl_showMoves_L1 u16 x0 x1 m) (u75) ((w64 (y27 + 1))) else some l24)
def F_impl_showMoves (x0 : ((List (List (Int × Int))) × (List Int) × Int × Int)) (x1 : Int) : Option (List ((Int × Int) × (Int × Int) × Int)) :=
  Option.bind (idx x0.1 x1) fun u16 =>
  F_impl_showMoves_L1 u16 x0 x1 FU ([]) (0)
def F_impl_squareOf (x0 : (Int × Int)) (x1 : (Int × Int)) : Option Int :=
  some (w64 ((w64 ((w64 (x0.1 - x1.1)) * (w64 (x0.1 - x1.1)))) + (w64 ((w64 (x0.2 - x1.2)) * (w64 (x0.2 - x1.2))))))
def F_impl_WidestPart_L2 (u44 : (List ((Int × Int) × (Int × Int) × Int))) (y24 : Int) (k38 : (Int → Int → Option (Int × Int × Bool))) (y25 : Int) (y23 : Int) : Nat → Int → Int → Option (Int × Int × Bool)
  | 0, _, _ => none
  | m + 1, y55, y56 => (if (decide (y56 < (List.length u44 : Int))) = true then Option.bind (idx u44 y56) fun u65 =>
  Option.bind (F_impl_squareOf u65.1 u65.2.1) fun u78 =>
  (F_impl_WidestPart_L2 u44 y24 k38 y25 y23 m) ((w64 (y55 + u78))) ((w64 (y56 + 1))) else (if (decide (y24 < y55)) = true then k38 (y25) (y55) else k38 (y23) (y24)))
def F_impl_WidestPart_L1 (x0 : ((List (List (Int × Int))) × (List Int) × Int × Int)) : Nat → Int → Int → Int → Option (Int × Int × Bool)
  | 0, _, _, _ => none
  | m + 1, y23, y24, y25 => (if (decide (y25 < (List.length x0.2.1 : Int))) = true then jK2 (fun (y36 : Int) (y37 : Int) => (F_impl_WidestPart_L1 x0 m) (y36) (y37) ((w64 (y25 + 1)))) (fun k38 => Option.bind (F_impl_showMoves x0 y25) fun u44 =>
  F_impl_WidestPart_L2 u44 y24 k38 y25 y23 FU (0) (0)) else some (y23, y24, true))
def F_impl_WidestPart (x0 : ((List (List (Int × Int))) × (List Int) × Int × Int)) : Option (Int × Int × Bool) :=
  Option.bind (F_impl_IsShow x0) fun u9 =>
  (if (!u9) = true then some (0, 0, false) else F_impl_WidestPart_L1 x0 FU (0) ((-1)) (0))
def F_laws_FnExactWidestPart (x0 : ((List (List (Int × Int))) × (List Int) × Int × Int)) : Option Bool :=
  Option.bind (F_laws_szShow x0 1048576) fun u9 =>
  (if (decide (u9 < 0)) = true then some true else Option.bind (F_laws_toShow x0) fun u20 =>
  Option.bind (F_spec_WidestPart u20) fun u30 =>
  Option.bind (F_laws_toShow x0) fun u37 =>
  Option.bind (F_impl_WidestPart u37) fun u57 =>
  jK1 (fun (y68 : Bool) => (if y68 = true then some false else Option.bind (F_laws_toShow x0) fun u80 =>
  Option.bind (F_laws_eqShow u37 u80) fun u91 =>
  (if (!u91) = true then some false else some true))) (fun k69 => (if (u57.1 != u30.1) = true then k69 (true) else (if (u57.2.1 != u30.2.1) = true then k69 (true) else k69 ((u57.2.2 != u30.2.2))))))
def F_spec_mgSame_L1 (x0 : (List (Int × Int))) (x1 : (List (Int × Int))) : Nat → Int → Option Bool
  | 0, _ => none
  | m + 1, y7 => (if (decide (y7 < (List.length x0 : Int))) = true then Option.bind (idx x0 y7) fun u16 =>
  Option.bind (idx x1 y7) fun u34 =>
  (if (!(eqv_Spot u16 u34)) = true then some false else (F_spec_mgSame_L1 x0 x1 m) ((w64 (y7 + 1)))) else some true)
def F_spec_mgSame (x0 : (List (Int × Int))) (x1 : (List (Int × Int))) : Option Bool :=
  F_spec_mgSame_L1 x0 x1 FU (0)
def F_spec_cpDifferent_L1 (x0 : ((List (List (Int × Int))) × (List Int) × Int × Int)) (x1 : ((List (List (Int × Int))) × (List Int) × Int × Int)) : Nat → (List Int) → Int → Option (List Int)
  | 0, _, _ => none
  | m + 1, l18, y21 => (if (decide (y21 < (List.length x0.1 : Int))) = true then jK1 (fun (l33 : (List Int)) => (F_spec_cpDifferent_L1 x0 x1 m) (l33) ((w64 (y21 + 1)))) (fun k36 => Option.bind (idx x0.1 y21) fun u39 =>
  Option.bind (idx x1.1 y21) fun u45 =>
  Option.bind (F_spec_mgSame u39 u45) fun u50 =>
  (if (!u50) = true then Option.bind (app l18 [y21]) fun u63 =>
  k36 (u63) else k36 (l18))) else some l18)
def F_spec_cpDifferent (x0 : ((List (List (Int × Int))) × (List Int) × Int × Int)) (x1 : ((List (List (Int × Int))) × (List Int) × Int × Int)) : Option (List Int) :=
  F_spec_cpDifferent_L1 x0 x1 FU ([]) (0)
def F_spec_l1Same_L1 (x0 : (List Int)) (x1 : (List Int)) : Nat → Int → Option Bool
  | 0, _ => none
  | m + 1, y11 => (if (decide (y11 < (List.length x0 : Int))) = true then Option.bind (idx x0 y11) fun u26 =>
  Option.bind (idx x1 y11) fun u29 =>
  (if (u26 != u29) = true then some false else (F_spec_l1Same_L1 x0 x1 m) ((w64 (y11 + 1)))) else some true)
def F_spec_l1Same (x0 : (List Int)) (x1 : (List Int)) : Option Bool :=
  (if ((List.length x0 : Int) != (List.length x1 : Int)) = true then some false else F_spec_l1Same_L1 x0 x1 FU (0))
def F_spec_SameShows (x0 : ((List (List (Int × Int))) × (List Int) × Int × Int)) (x1 : ((List (List (Int × Int))) × (List Int) × Int × Int)) : Option (Bool × Bool) :=
  jK1 (fun (y17 : Bool) => (if y17 = true then some (false, false) else jK1 (fun (y27 : Bool) => (if y27 = true then some (false, true) else jK1 (fun (y36 : Bool) => some (y36, true)) (fun k37 => Option.bind (F_spec_cpDifferent x0 x1) fun u39 =>
  (if ((List.length u39 : Int) == 0) = true then Option.bind (F_spec_l1Same x0.2.1 x1.2.1) fun u48 =>
  (if u48 = true then (if (x0.2.2.1 == x1.2.2.1) = true then k37 ((x0.2.2.2 == x1.2.2.2)) else k37 (false)) else k37 (false)) else k37 (false))))) (fun k28 => (if ((List.length x0.1 : Int) != (List.length x1.1 : Int)) = true then k28 (true) else Option.bind (idx x0.1 0) fun u62 =>
  Option.bind (idx x1.1 0) fun u67 =>
  k28 (((List.length u62 : Int) != (List.length u67 : Int))))))) (fun k18 => Option.bind (F_spec_swGood x0) fun u72 =>
  (if (!u72) = true then k18 (true) else Option.bind (F_spec_swGood x1) fun u79 =>
  k18 ((!u79))))
def F_slices_Equal_int_int_L1 (x0 : (List Int)) (x1 : (List Int)) : Nat → Int → Option Bool
  | 0, _ => none
  | m + 1, y11 => (if (decide (y11 < (List.length x0 : Int))) = true then Option.bind (idx x0 y11) fun u26 =>
  Option.bind (idx x1 y11) fun u29 =>
  (if (u26 != u29) = true then some false else (F_slices_Equal_int_int_L1 x0 x1 m) ((w64 (y11 + 1)))) else some true)
def F_slices_Equal_int_int (x0 : (List Int)) (x1 : (List Int)) : Option Bool :=
  (if ((List.length x0 : Int) != (List.length x1 : Int)) = true then some false else F_slices_Equal_int_int_L1 x0 x1 FU (0))
def F_slices_Equal_impl_Spot_impl_Spot_L1 (x0 : (List (Int × Int))) (x1 : (List (Int × Int))) : Nat → Int → Option Bool
  | 0, _ => none
  | m + 1, y11 => (if (decide (y11 < (List.length x0 : Int))) = true then Option.bind (idx x0 y11) fun u26 =>
  Option.bind (idx x1 y11) fun u29 =>
  (if (!(eqv_Spot u26 u29)) = true then some false else (F_slices_Equal_impl_Spot_impl_Spot_L1 x0 x1 m) ((w64 (y11 + 1)))) else some true)
def F_slices_Equal_impl_Spot_impl_Spot (x0 : (List (Int × Int))) (x1 : (List (Int × Int))) : Option Bool :=
  (if ((List.length x0 : Int) != (List.length x1 : Int)) = true then some false else F_slices_Equal_impl_Spot_impl_Spot_L1 x0 x1 FU (0))
def F_impl_SameShows_L1 (x0 : ((List (List (Int × Int))) × (List Int) × Int × Int)) (x1 : ((List (List (Int × Int))) × (List Int) × Int × Int)) : Nat → Int → Option (Bool × Bool)
  | 0, _ => none
  | m + 1, y37 => (if (decide (y37 < (List.length x0.1 : Int))) = true then Option.bind (idx x0.1 y37) fun u52 =>
  Option.bind (idx x1.1 y37) fun u57 =>
  Option.bind (F_slices_Equal_impl_Spot_impl_Spot u52 u57) fun u62 =>
  (if (!u62) = true then some (false, true) else (F_impl_SameShows_L1 x0 x1 m) ((w64 (y37 + 1)))) else some (true, true))
def F_impl_SameShows (x0 : ((List (List (Int × Int))) × (List Int) × Int × Int)) (x1 : ((List (List (Int × Int))) × (List Int) × Int × Int)) : Option (Bool × Bool) :=
  jK1 (fun (y17 : Bool) => (if y17 = true then some (false, false) else jK1 (fun (y27 : Bool) => (if y27 = true then some (false, true) else F_impl_SameShows_L1 x0 x1 FU (0))) (fun k28 => (if ((List.length x0.1 : Int) != (List.length x1.1 : Int)) = true then k28 (true) else Option.bind (F_slices_Equal_int_int x0.2.1 x1.2.1) fun u73 =>
  (if (!u73) = true then k28 (true) else (if (x0.2.2.1 != x1.2.2.1) = true then k28 (true) else k28 ((x0.2.2.2 != x1.2.2.2)))))))) (fun k18 => Option.bind (F_impl_IsShow x0) fun u81 =>
  (if (!u81) = true then k18 (true) else Option.bind (F_impl_IsShow x1) fun u88 =>
  k18 ((!u88))))
def F_laws_FnExactSameShows (x0 : ((List (List (Int × Int))) × (List Int) × Int × Int)) (x1 : ((List (List (Int × Int))) × (List Int) × Int × Int)) : Option Bool :=
  Option.bind (F_laws_szShow x0 1048576) fun u14 =>
  (if (decide (u14 < 0)) = true then some true else Option.bind (F_laws_szShow x1 u14) fun u25 =>
  (if (decide (u25 < 0)) = true then some true else Option.bind (F_laws_toShow x0) fun u41 =>
  Option.bind (F_laws_toShow x1) fun u52 =>
  Option.bind (F_spec_SameShows u41 u52) fun u63 =>
  Option.bind (F_laws_toShow x0) fun u72 =>
  Option.bind (F_laws_toShow x1) fun u92 =>
  Option.bind (F_impl_SameShows u72 u92) fun u112 =>
  jK1 (fun (y123 : Bool) => (if y123 = true then some false else Option.bind (F_laws_toShow x0) fun u135 =>
  Option.bind (F_laws_eqShow u72 u135) fun u146 =>
  (if (!u146) = true then some false else Option.bind (F_laws_toShow x1) fun u162 =>
  Option.bind (F_laws_eqShow u92 u162) fun u173 =>
  (if (!u173) = true then some false else some true)))) (fun k124 => (if (u112.1 != u63.1) = true then k124 (true) else k124 ((u112.2 != u63.2))))))
def F_spec_mvWithin (x0 : ((Int × Int) × (Int × Int) × Int)) (x1 : Int) : Option Bool :=
  Option.bind (F_spec_stSquare x0.1 x0.2.1) fun u13 =>
  some (decide (u13 ≤ (w64 ((w64 ((w64 (x1 * x1)) * x0.2.2)) * x0.2.2))))
def F_spec_LeastStepOf_L3 (nx47 : (Int → Int → Option (Int × Bool))) (y46 : Int) (u55 : ((Int × Int) × (Int × Int) × Int)) : Nat → Int → Option (Int × Bool)
  | 0, _ => none
  | m + 1, y72 => jK1 (fun (y81 : Bool) => (if y81 = true then (F_spec_LeastStepOf_L3 nx47 y46 u55 m) ((w64 (y72 + 1))) else nx47 (y72) ((w64 (y46 + 1))))) (fun k82 => (if (decide (y72 ≤ 24)) = true then Option.bind (F_spec_mvWithin u55 y72) fun u86 =>
  k82 ((!u86)) else k82 (false)))
def F_spec_LeastStepOf_L2 (u34 : (List ((Int × Int) × (Int × Int) × Int))) (nx25 : (Int → Int → Option (Int × Bool))) (y24 : Int) : Nat → Int → Int → Option (Int × Bool)
  | 0, _, _ => none
  | m + 1, y45, y46 => (if (decide (y46 < (List.length u34 : Int))) = true then Option.bind (idx u34 y46) fun u55 =>
  F_spec_LeastStepOf_L3 (F_spec_LeastStepOf_L2 u34 nx25 y24 m) y46 u55 FU (y45) else nx25 (y45) ((w64 (y24 + 1))))
def F_spec_LeastStepOf_L1 (x0 : ((List (List (Int × Int))) × (List Int) × Int × Int)) : Nat → Int → Int → Option (Int × Bool)
  | 0, _, _ => none
  | m + 1, y23, y24 => (if (decide (y24 < (List.length x0.2.1 : Int))) = true then Option.bind (F_spec_swMoves x0 y24) fun u34 =>
  F_spec_LeastStepOf_L2 u34 (F_spec_LeastStepOf_L1 x0 m) y24 FU (y23) (0) else (if (decide (24 < y23)) = true then some (0, false) else some (y23, true)))
def F_spec_LeastStepOf (x0 : ((List (List (Int × Int))) × (List Int) × Int × Int)) : Option (Int × Bool) :=
  Option.bind (F_spec_swGood x0) fun u9 =>
  (if (!u9) = true then some (0, false) else F_spec_LeastStepOf_L1 x0 FU (1) (0))
def F_impl_withinStep (x0 : ((Int × Int) × (Int × Int) × Int)) (x1 : Int) : Option Bool :=
  Option.bind (F_impl_squareOf x0.1 x0.2.1) fun u13 =>
  some (decide (u13 ≤ (w64 ((w64 ((w64 (x1 * x1)) * x0.2.2)) * x0.2.2))))
def F_impl_wideSteps_L1 (u16 : (List ((Int × Int) × (Int × Int) × Int))) (x0 : ((List (List (Int × Int))) × (List Int) × Int × Int)) : Nat → (List Int) → Int → Option (List Int)
  | 0, _, _ => none
  | m + 1, l27, y30 => (if (decide (y30 < (List.length u16 : Int))) = true then jK1 (fun (l41 : (List Int)) => (F_impl_wideSteps_L1 u16 x0 m) (l41) ((w64 (y30 + 1)))) (fun k44 => Option.bind (idx u16 y30) fun u47 =>
  Option.bind (F_impl_withinStep u47 x0.2.2.2) fun u61 =>
  (if (!u61) = true then Option.bind (app l27 [y30]) fun u74 =>
  k44 (u74) else k44 (l27))) else some l27)
def F_impl_wideSteps (x0 : ((List (List (Int × Int))) × (List Int) × Int × Int)) (x1 : Int) : Option (List Int) :=
  Option.bind (F_impl_showMoves x0 x1) fun u16 =>
  F_impl_wideSteps_L1 u16 x0 FU ([]) (0)
def F_impl_LeastStepOf_L2 (x0 : ((List (List (Int × Int))) × (List Int) × Int × Int)) (y22 : Int) (nx23 : (Int → Option (Int × Bool))) : Nat → Bool → Int → Option (Int × Bool)
  | 0, _, _ => none
  | m + 1, y51, y52 => (if (decide (y52 < (List.length x0.2.1 : Int))) = true then jK1 (fun (y63 : Bool) => (F_impl_LeastStepOf_L2 x0 y22 nx23 m) (y63) ((w64 (y52 + 1)))) (fun k64 => (if y51 = true then k64 (true) else Option.bind (F_impl_wideSteps (x0.1, x0.2.1, x0.2.2.1, y22) y52) fun u68 =>
  k64 ((decide (0 < (List.length u68 : Int)))))) else (if (!y51) = true then some (y22, true) else nx23 ((w64 (y22 + 1)))))
def F_impl_LeastStepOf_L1 (x0 : ((List (List (Int × Int))) × (List Int) × Int × Int)) : Nat → Int → Option (Int × Bool)
  | 0, _ => none
  | m + 1, y22 => (if (decide (y22 ≤ 24)) = true then F_impl_LeastStepOf_L2 x0 y22 (F_impl_LeastStepOf_L1 x0 m) FU (false) (0) else some (0, false))
def F_impl_LeastStepOf (x0 : ((List (List (Int × Int))) × (List Int) × Int × Int)) : Option (Int × Bool) :=
  Option.bind (F_impl_IsShow x0) fun u9 =>
  (if (!u9) = true then some (0, false) else F_impl_LeastStepOf_L1 x0 FU (1))
def F_laws_FnExactLeastStepOf (x0 : ((List (List (Int × Int))) × (List Int) × Int × Int)) : Option Bool :=
  Option.bind (F_laws_szShow x0 1048576) fun u9 =>
  (if (decide (u9 < 0)) = true then some true else Option.bind (F_laws_toShow x0) fun u20 =>
  Option.bind (F_spec_LeastStepOf u20) fun u30 =>
  Option.bind (F_laws_toShow x0) fun u37 =>
  Option.bind (F_impl_LeastStepOf u37) fun u57 =>
  jK1 (fun (y68 : Bool) => (if y68 = true then some false else Option.bind (F_laws_toShow x0) fun u80 =>
  Option.bind (F_laws_eqShow u37 u80) fun u91 =>
  (if (!u91) = true then some false else some true))) (fun k69 => (if (u57.1 != u30.1) = true then k69 (true) else k69 ((u57.2 != u30.2)))))
def F_laws_szMarch (x0 : (((List (List (Int × Int))) × (List Int) × Int × Int) × Int × (List Int) × (List Int))) (x1 : Int) : Option Int :=
  Option.bind (F_laws_szShow x0.1 x1) fun u8 =>
  (if (decide (u8 < 0)) = true then some (-1) else Option.bind (F_laws_szIntS x0.2.2.1 u8) fun u19 =>
  (if (decide (u19 < 0)) = true then some (-1) else Option.bind (F_laws_szIntS x0.2.2.2 u19) fun u30 =>
  (if (decide (u30 < 0)) = true then some (-1) else some u30)))
def F_laws_toMarch (x0 : (((List (List (Int × Int))) × (List Int) × Int × Int) × Int × (List Int) × (List Int))) : Option (((List (List (Int × Int))) × (List Int) × Int × Int) × Int × (List Int) × (List Int)) :=
  Option.bind (F_laws_toShow x0.1) fun u19 =>
  Option.bind (F_laws_toIntS x0.2.2.1) fun u39 =>
  Option.bind (F_laws_toIntS x0.2.2.2) fun u52 =>
  some (u19, x0.2.1, u39, u52)
def F_spec_l1Rising_L1 (x0 : (List Int)) (x1 : Int) (x2 : Int) : Nat → Int → Option Bool
  | 0, _ => none
  | m + 1, y7 => (if (decide (y7 < (List.length x0 : Int))) = true then Option.bind (idx x0 y7) fun u16 =>
  jK1 (fun (y23 : Bool) => (if y23 = true then some false else (F_spec_l1Rising_L1 x0 x1 x2 m) ((w64 (y7 + 1))))) (fun k24 => Option.bind (F_spec_l1In u16 x1 x2) fun u28 =>
  (if (!u28) = true then k24 (true) else (if (decide (0 < y7)) = true then Option.bind (idx x0 (w64 (y7 - 1))) fun u36 =>
  k24 ((decide (u16 ≤ u36))) else k24 (false)))) else some true)
def F_spec_l1Rising (x0 : (List Int)) (x1 : Int) (x2 : Int) : Option Bool :=
  F_spec_l1Rising_L1 x0 x1 x2 FU (0)
def F_spec_mnGood (x0 : (((List (List (Int × Int))) × (List Int) × Int × Int) × Int × (List Int) × (List Int))) : Option Bool :=
  jK1 (fun (y12 : Bool) => (if y12 = true then some false else Option.bind (idx x0.1.1 0) fun u18 =>
  jK1 (fun (y27 : Bool) => some y27) (fun k28 => Option.bind (F_spec_l1Rising x0.2.2.1 0 (w64 ((List.length u18 : Int) - 1))) fun u30 =>
  (if u30 = true then (if ((List.length x0.2.2.2 : Int) == (List.length u18 : Int)) = true then Option.bind (F_spec_l1All x0.2.2.2 0 x0.2.1) fun u38 =>
  k28 (u38) else k28 (false)) else k28 (false))))) (fun k13 => Option.bind (F_spec_swGood x0.1) fun u44 =>
  (if (!u44) = true then k13 (true) else Option.bind (F_spec_l1In x0.2.1 0 1000) fun u51 =>
  k13 ((!u51))))
def F_spec_IsMarch (x0 : (((List (List (Int × Int))) × (List Int) × Int × Int) × Int × (List Int) × (List Int))) : Option Bool :=
  Option.bind (F_spec_mnGood x0) fun u8 =>
  some u8
def F_impl_arePerformers_L1 (x0 : (List Int)) (x1 : Int) : Nat → Int → Option Bool
  | 0, _ => none
  | m + 1, y7 => (if (decide (y7 < (List.length x0 : Int))) = true then Option.bind (idx x0 y7) fun u16 =>
  jK1 (fun (y23 : Bool) => (if y23 = true then some false else (F_impl_arePerformers_L1 x0 x1 m) ((w64 (y7 + 1))))) (fun k24 => Option.bind (F_impl_within u16 0 (w64 (x1 - 1))) fun u28 =>
  (if (!u28) = true then k24 (true) else (if (decide (0 < y7)) = true then Option.bind (idx x0 (w64 (y7 - 1))) fun u36 =>
  k24 ((decide (u16 ≤ u36))) else k24 (false)))) else some true)
def F_impl_arePerformers (x0 : (List Int)) (x1 : Int) : Option Bool :=
  F_impl_arePerformers_L1 x0 x1 FU (0)
def F_impl_IsMarch_L1 (x0 : (((List (List (Int × Int))) × (List Int) × Int × Int) × Int × (List Int) × (List Int))) : Nat → Int → Option Bool
  | 0, _ => none
  | m + 1, y22 => (if (decide (y22 < (List.length x0.2.2.2 : Int))) = true then Option.bind (idx x0.2.2.2 y22) fun u31 =>
  Option.bind (F_impl_within u31 0 x0.2.1) fun u35 =>
  (if (!u35) = true then some false else (F_impl_IsMarch_L1 x0 m) ((w64 (y22 + 1)))) else some true)
def F_impl_IsMarch (x0 : (((List (List (Int × Int))) × (List Int) × Int × Int) × Int × (List Int) × (List Int))) : Option Bool :=
  jK1 (fun (y12 : Bool) => (if y12 = true then some false else F_impl_IsMarch_L1 x0 FU (0))) (fun k13 => Option.bind (F_impl_IsShow x0.1) fun u49 =>
  (if (!u49) = true then k13 (true) else Option.bind (F_impl_within x0.2.1 0 1000) fun u57 =>
  (if (!u57) = true then k13 (true) else Option.bind (idx x0.1.1 0) fun u65 =>
  Option.bind (F_impl_arePerformers x0.2.2.1 (List.length u65 : Int)) fun u70 =>
  (if (!u70) = true then k13 (true) else Option.bind (idx x0.1.1 0) fun u78 =>
  k13 (((List.length x0.2.2.2 : Int) != (List.length u78 : Int)))))))
def F_laws_eqMarch (x0 : (((List (List (Int × Int))) × (List Int) × Int × Int) × Int × (List Int) × (List Int))) (x1 : (((List (List (Int × Int))) × (List Int) × Int × Int) × Int × (List Int) × (List Int))) : Option Bool :=
  Option.bind (F_laws_eqShow x0.1 x1.1) fun u14 =>
  (if (!u14) = true then some false else (if (x0.2.1 != x1.2.1) = true then some false else Option.bind (F_laws_eqIntS x0.2.2.1 x1.2.2.1) fun u28 =>
  (if (!u28) = true then some false else Option.bind (F_laws_eqIntS x0.2.2.2 x1.2.2.2) fun u38 =>
  (if (!u38) = true then some false else some true))))
def F_laws_FnExactIsMarch (x0 : (((List (List (Int × Int))) × (List Int) × Int × Int) × Int × (List Int) × (List Int))) : Option Bool :=
  Option.bind (F_laws_szMarch x0 1048576) fun u9 =>
  (if (decide (u9 < 0)) = true then some true else Option.bind (F_laws_toMarch x0) fun u20 =>
  Option.bind (F_spec_IsMarch u20) fun u34 =>
  Option.bind (F_laws_toMarch x0) fun u41 =>
  Option.bind (F_impl_IsMarch u41) fun u65 =>
  (if (u65 != u34) = true then some false else Option.bind (F_laws_toMarch x0) fun u82 =>
  Option.bind (F_laws_eqMarch u41 u82) fun u97 =>
  (if (!u97) = true then some false else some true)))
def F_spec_CueTimes (x0 : (List (Int × Int))) (x1 : (List (Int × (List UInt8)))) : Option ((List Int) × Bool) :=
  Option.bind (F_spec_tiGood x0 x1) fun u4 =>
  (if (!u4) = true then some ([], false) else Option.bind (F_spec_tiTimes x0 x1) fun u14 =>
  some (u14, true))
def F_impl_CueTimes (x0 : (List (Int × Int))) (x1 : (List (Int × (List UInt8)))) : Option ((List Int) × Bool) :=
  Option.bind (F_impl_haveCues x0 x1) fun u4 =>
  (if (!u4) = true then some ([], false) else Option.bind (F_impl_cueTimes x0 x1) fun u14 =>
  some (u14, true))
def F_laws_markIntS_L1  : Nat → (List Int) → Int → Int → Option (Int × (List Int))
  | 0, _, _, _ => none
  | m + 1, l7, y8, y9 => (if (decide (y9 < (List.length l7 : Int))) = true then Option.bind (idx l7 y9) fun u18 =>
  (F_laws_markIntS_L1 m) ((seti l7 y9 y8)) ((w64 (y8 + 1))) ((w64 (y9 + 1))) else some (y8, l7))
def F_laws_markIntS (x0 : (List Int)) (x1 : Int) : Option (Int × (List Int)) :=
  F_laws_markIntS_L1 FU (x0) (x1) (0)
def F_laws_heldIntS_L1 (x0 : (List Int)) : Nat → Int → Int → Option Int
  | 0, _, _ => none
  | m + 1, y7, y8 => (if (decide (y8 < (List.length x0 : Int))) = true then Option.bind (idx x0 y8) fun u18 =>
  (if (u18 != y7) = true then some (-1) else (F_laws_heldIntS_L1 x0 m) ((w64 (y7 + 1))) ((w64 (y8 + 1)))) else some y7)
def F_laws_heldIntS (x0 : (List Int)) (x1 : Int) : Option Int :=
  F_laws_heldIntS_L1 x0 FU (x1) (0)
def F_laws_FnExactCueTimes (x0 : (List (Int × Int))) (x1 : (List (Int × (List UInt8)))) : Option Bool :=
  Option.bind (F_laws_szMeasureS x0 1048576) fun u4 =>
  (if (decide (u4 < 0)) = true then some true else Option.bind (F_laws_szCueS x1 u4) fun u15 =>
  (if (decide (u15 < 0)) = true then some true else Option.bind (F_laws_toMeasureS x0) fun u26 =>
  Option.bind (F_laws_toCueS x1) fun u34 =>
  Option.bind (F_spec_CueTimes u26 u34) fun u42 =>
  Option.bind (F_laws_toMeasureS x0) fun u51 =>
  Option.bind (F_laws_toCueS x1) fun u60 =>
  Option.bind (F_impl_CueTimes u51 u60) fun u69 =>
  jK1 (fun (y82 : Bool) => (if y82 = true then some false else Option.bind (F_laws_toMeasureS x0) fun u89 =>
  Option.bind (F_laws_eqMeasureS u51 u89) fun u97 =>
  (if (!u97) = true then some false else Option.bind (F_laws_toCueS x1) fun u107 =>
  Option.bind (F_laws_eqCueS u60 u107) fun u115 =>
  (if (!u115) = true then some false else Option.bind (F_laws_markMeasureS u51 1) fun u125 =>
  Option.bind (F_laws_markCueS u60 u125.1) fun u132 =>
  jK1 (fun (y143 : Bool) => (if y143 = true then some false else Option.bind (F_laws_markIntS u69.1 1) fun u150 =>
  Option.bind (F_laws_heldIntS u150.2 1) fun u158 =>
  (if (decide (u158 < 0)) = true then some false else (if (u158 != u150.1) = true then some false else Option.bind (F_laws_toMeasureS x0) fun u173 =>
  Option.bind (F_laws_toCueS x1) fun u181 =>
  Option.bind (F_impl_CueTimes u173 u181) fun u189 =>
  jK1 (fun (y202 : Bool) => (if y202 = true then some false else Option.bind (F_laws_heldIntS u150.2 1) fun u209 =>
  (if (decide (u209 < 0)) = true then some false else (if (u209 != u150.1) = true then some false else some true)))) (fun k203 => Option.bind (F_laws_eqIntS u189.1 u42.1) fun u224 =>
  (if (!u224) = true then k203 (true) else k203 ((u189.2 != u42.2)))))))) (fun k144 => (if (decide (u132.1 < 0)) = true then k144 (true) else Option.bind (F_laws_eqIntS u69.1 u42.1) fun u232 =>
  (if (!u232) = true then k144 (true) else k144 ((u69.2 != u42.2))))))))) (fun k83 => Option.bind (F_laws_eqIntS u69.1 u42.1) fun u239 =>
  (if (!u239) = true then k83 (true) else k83 ((u69.2 != u42.2))))))
def F_spec_DifferentCharts (x0 : ((List (List (Int × Int))) × (List Int) × Int × Int)) (x1 : ((List (List (Int × Int))) × (List Int) × Int × Int)) : Option ((List Int) × Bool) :=
  jK1 (fun (y17 : Bool) => (if y17 = true then some ([], false) else Option.bind (F_spec_cpDifferent x0 x1) fun u24 =>
  some (u24, true))) (fun k18 => Option.bind (F_spec_swGood x0) fun u37 =>
  (if (!u37) = true then k18 (true) else Option.bind (F_spec_swGood x1) fun u45 =>
  (if (!u45) = true then k18 (true) else (if ((List.length x0.1 : Int) != (List.length x1.1 : Int)) = true then k18 (true) else Option.bind (idx x0.1 0) fun u54 =>
  Option.bind (idx x1.1 0) fun u59 =>
  k18 (((List.length u54 : Int) != (List.length u59 : Int)))))))
def F_impl_DifferentCharts_L1 (x0 : ((List (List (Int × Int))) × (List Int) × Int × Int)) (x1 : ((List (List (Int × Int))) × (List Int) × Int × Int)) : Nat → (List Int) → Int → Option ((List Int) × Bool)
  | 0, _, _ => none
  | m + 1, l35, y38 => (if (decide (y38 < (List.length x0.1 : Int))) = true then jK1 (fun (l49 : (List Int)) => (F_impl_DifferentCharts_L1 x0 x1 m) (l49) ((w64 (y38 + 1)))) (fun k52 => Option.bind (idx x0.1 y38) fun u61 =>
  Option.bind (idx x1.1 y38) fun u66 =>
  Option.bind (F_slices_Equal_impl_Spot_impl_Spot u61 u66) fun u71 =>
  (if (!u71) = true then Option.bind (app l35 [y38]) fun u85 =>
  k52 (u85) else k52 (l35))) else some (l35, true))
def F_impl_DifferentCharts (x0 : ((List (List (Int × Int))) × (List Int) × Int × Int)) (x1 : ((List (List (Int × Int))) × (List Int) × Int × Int)) : Option ((List Int) × Bool) :=
  jK1 (fun (y17 : Bool) => (if y17 = true then some ([], false) else F_impl_DifferentCharts_L1 x0 x1 FU ([]) (0))) (fun k18 => Option.bind (F_impl_IsShow x0) fun u98 =>
  (if (!u98) = true then k18 (true) else Option.bind (F_impl_IsShow x1) fun u106 =>
  (if (!u106) = true then k18 (true) else (if ((List.length x0.1 : Int) != (List.length x1.1 : Int)) = true then k18 (true) else Option.bind (idx x0.1 0) fun u115 =>
  Option.bind (idx x1.1 0) fun u120 =>
  k18 (((List.length u115 : Int) != (List.length u120 : Int)))))))
def F_laws_markSpotS_L1  : Nat → (List (Int × Int)) → Int → Int → Option (Int × (List (Int × Int)))
  | 0, _, _, _ => none
  | m + 1, l7, y8, y9 => (if (decide (y9 < (List.length l7 : Int))) = true then Option.bind (idx l7 y9) fun u18 =>
  Option.bind (idx (seti l7 y9 (y8, u18.2)) y9) fun u28 =>
  (F_laws_markSpotS_L1 m) ((seti (seti l7 y9 (y8, u18.2)) y9 (u28.1, (w64 (y8 + 1))))) ((w64 ((w64 (y8 + 1)) + 1))) ((w64 (y9 + 1))) else some (y8, l7))
def F_laws_markSpotS (x0 : (List (Int × Int))) (x1 : Int) : Option (Int × (List (Int × Int))) :=
  F_laws_markSpotS_L1 FU (x0) (x1) (0)
def F_laws_markSpotSS_L1  : Nat → (List (List (Int × Int))) → Int → Int → Option (Int × (List (List (Int × Int))))
  | 0, _, _, _ => none
  | m + 1, l7, y8, y9 => (if (decide (y9 < (List.length l7 : Int))) = true then Option.bind (idx l7 y9) fun u17 =>
  Option.bind (F_laws_markSpotS u17 y8) fun u28 =>
  (F_laws_markSpotSS_L1 m) ((seti l7 y9 u28.2)) (u28.1) ((w64 (y9 + 1))) else some (y8, l7))
def F_laws_markSpotSS (x0 : (List (List (Int × Int)))) (x1 : Int) : Option (Int × (List (List (Int × Int)))) :=
  F_laws_markSpotSS_L1 FU (x0) (x1) (0)
def F_laws_markShow (x0 : ((List (List (Int × Int))) × (List Int) × Int × Int)) (x1 : Int) : Option (Int × ((List (List (Int × Int))) × (List Int) × Int × Int)) :=
  Option.bind (F_laws_markSpotSS x0.1 x1) fun u8 =>
  Option.bind (F_laws_markIntS x0.2.1 u8.1) fun u15 =>
  some (u15.1, (u8.2, u15.2, x0.2.2.1, x0.2.2.2))
def F_laws_FnExactDifferentCharts (x0 : ((List (List (Int × Int))) × (List Int) × Int × Int)) (x1 : ((List (List (Int × Int))) × (List Int) × Int × Int)) : Option Bool :=
  Option.bind (F_laws_szShow x0 1048576) fun u14 =>
  (if (decide (u14 < 0)) = true then some true else Option.bind (F_laws_szShow x1 u14) fun u25 =>
  (if (decide (u25 < 0)) = true then some true else Option.bind (F_laws_toShow x0) fun u41 =>
  Option.bind (F_laws_toShow x1) fun u52 =>
  Option.bind (F_spec_DifferentCharts u41 u52) fun u63 =>
  Option.bind (F_laws_toShow x0) fun u73 =>
  Option.bind (F_laws_toShow x1) fun u93 =>
  Option.bind (F_impl_DifferentCharts u73 u93) fun u113 =>
  jK1 (fun (y126 : Bool) => (if y126 = true then some false else Option.bind (F_laws_toShow x0) fun u138 =>
  Option.bind (F_laws_eqShow u73 u138) fun u149 =>
  (if (!u149) = true then some false else Option.bind (F_laws_toShow x1) fun u165 =>
  Option.bind (F_laws_eqShow u93 u165) fun u176 =>
  (if (!u176) = true then some false else Option.bind (F_laws_markShow u73 1) fun u187 =>
  Option.bind (F_laws_markShow u93 u187.1) fun u194 =>
  jK1 (fun (y205 : Bool) => (if y205 = true then some false else Option.bind (F_laws_markIntS u113.1 1) fun u212 =>
  Option.bind (F_laws_heldIntS u212.2 1) fun u220 =>
  (if (decide (u220 < 0)) = true then some false else (if (u220 != u212.1) = true then some false else Option.bind (F_laws_toShow x0) fun u240 =>
  Option.bind (F_laws_toShow x1) fun u251 =>
  Option.bind (F_impl_DifferentCharts u240 u251) fun u262 =>
  jK1 (fun (y276 : Bool) => (if y276 = true then some false else Option.bind (F_laws_heldIntS u212.2 1) fun u283 =>
  (if (decide (u283 < 0)) = true then some false else (if (u283 != u212.1) = true then some false else some true)))) (fun k277 => Option.bind (F_laws_eqIntS u262.1 u63.1) fun u298 =>
  (if (!u298) = true then k277 (true) else k277 ((u262.2 != u63.2)))))))) (fun k206 => (if (decide (u194.1 < 0)) = true then k206 (true) else Option.bind (F_laws_eqIntS u113.1 u63.1) fun u306 =>
  (if (!u306) = true then k206 (true) else k206 ((u113.2 != u63.2))))))))) (fun k127 => Option.bind (F_laws_eqIntS u113.1 u63.1) fun u313 =>
  (if (!u313) = true then k127 (true) else k127 ((u113.2 != u63.2))))))
def F_spec_muRange (x0 : (List (Int × Int))) (x1 : Int) (x2 : Int) : Option Bool :=
  jK1 (fun (y6 : Bool) => some y6) (fun k7 => Option.bind (F_spec_muGood x0) fun u9 =>
  (if u9 = true then Option.bind (F_spec_l1In x1 0 x2) fun u16 =>
  (if u16 = true then Option.bind (F_spec_l1In x2 x1 (w64 ((List.length x0 : Int) - 1))) fun u23 =>
  k7 (u23) else k7 (false)) else k7 (false)))
def F_spec_RepeatMeasures_L1 (x0 : (List (Int × Int))) (x1 : Int) (x2 : Int) : Nat → Int → (List (Int × Int)) → Option ((List (Int × Int)) × Bool)
  | 0, _, _ => none
  | m + 1, y34, l35 => (if (decide (0 < y34)) = true then Option.bind (sl x0 x1 (w64 (x2 + 1))) fun u45 =>
  Option.bind (app l35 u45) fun u48 =>
  (F_spec_RepeatMeasures_L1 x0 x1 x2 m) ((w64 (y34 - 1))) (u48) else Option.bind (sl x0 (w64 (x2 + 1)) (List.length x0 : Int)) fun u56 =>
  Option.bind (app l35 u56) fun u59 =>
  Option.bind (F_spec_muGood u59) fun u68 =>
  (if (!u68) = true then some ([], false) else some (u59, true)))
def F_spec_RepeatMeasures (x0 : (List (Int × Int))) (x1 : Int) (x2 : Int) (x3 : Int) : Option ((List (Int × Int)) × Bool) :=
  jK1 (fun (y7 : Bool) => (if y7 = true then some ([], false) else Option.bind (sl x0 0 x1) fun u20 =>
  Option.bind (app [] u20) fun u23 =>
  F_spec_RepeatMeasures_L1 x0 x1 x2 FU (x3) (u23))) (fun k8 => Option.bind (F_spec_muRange x0 x1 x2) fun u78 =>
  (if (!u78) = true then k8 (true) else Option.bind (F_spec_l1In x3 1 10) fun u85 =>
  k8 ((!u85))))
def F_spec_CuesAfterRepeat_L1 (u57 : (List (Int × (List UInt8)))) (u44 : Int) (u28 : Int) (u34 : Int) : Nat → (List (Int × (List UInt8))) → Int → Option ((List (Int × (List UInt8))) × Bool)
  | 0, _, _ => none
  | m + 1, l69, y72 => (if (decide (y72 < (List.length u57 : Int))) = true then jK1 (fun (l83 : (List (Int × (List UInt8)))) => (F_spec_CuesAfterRepeat_L1 u57 u44 u28 u34 m) (l83) ((w64 (y72 + 1)))) (fun k86 => Option.bind (idx l69 y72) fun u90 =>
  (if (decide (u44 ≤ u90.1)) = true then Option.bind (idx l69 y72) fun u95 =>
  Option.bind (idx l69 y72) fun u99 =>
  k86 ((seti l69 y72 ((w64 (u95.1 + (w64 (u28 - u34)))), u99.2))) else k86 (l69))) else some (l69, true))
def F_spec_CuesAfterRepeat (x0 : (List (Int × Int))) (x1 : (List (Int × (List UInt8)))) (x2 : Int) (x3 : Int) (x4 : Int) : Option ((List (Int × (List UInt8))) × Bool) :=
  Option.bind (F_spec_tiGood x0 x1) fun u4 =>
  (if (!u4) = true then some ([], false) else Option.bind (F_spec_RepeatMeasures x0 x2 x3 x4) fun u14 =>
  (if (!u14.2) = true then some ([], false) else Option.bind (F_spec_muCounts u14.1) fun u28 =>
  Option.bind (F_spec_muCounts x0) fun u34 =>
  Option.bind (sl x0 0 (w64 (x3 + 1))) fun u41 =>
  Option.bind (F_spec_muCounts u41) fun u44 =>
  Option.bind (app [] x1) fun u57 =>
  F_spec_CuesAfterRepeat_L1 u57 u44 u28 u34 FU (u57) (0)))
def F_impl_RepeatMeasures_L1 (x3 : Int) (x0 : (List (Int × Int))) (x1 : Int) (x2 : Int) : Nat → (List (Int × Int)) → Int → Option ((List (Int × Int)) × Bool)
  | 0, _, _ => none
  | m + 1, l35, y38 => (if (decide (y38 < x3)) = true then Option.bind (sl x0 x1 (w64 (x2 + 1))) fun u46 =>
  Option.bind (app l35 u46) fun u49 =>
  (F_impl_RepeatMeasures_L1 x3 x0 x1 x2 m) (u49) ((w64 (y38 + 1))) else Option.bind (sl x0 (w64 (x2 + 1)) (List.length x0 : Int)) fun u57 =>
  Option.bind (app l35 u57) fun u60 =>
  Option.bind (F_impl_IsMusic u60) fun u69 =>
  (if (!u69) = true then some ([], false) else some (u60, true)))
def F_impl_RepeatMeasures (x0 : (List (Int × Int))) (x1 : Int) (x2 : Int) (x3 : Int) : Option ((List (Int × Int)) × Bool) :=
  jK1 (fun (y7 : Bool) => (if y7 = true then some ([], false) else Option.bind (sl x0 0 x1) fun u20 =>
  Option.bind (app [] u20) fun u23 =>
  F_impl_RepeatMeasures_L1 x3 x0 x1 x2 FU (u23) (0))) (fun k8 => Option.bind (F_impl_IsMusic x0) fun u79 =>
  (if (!u79) = true then k8 (true) else (if (decide (x1 < 0)) = true then k8 (true) else (if (decide (x2 < x1)) = true then k8 (true) else (if (decide ((List.length x0 : Int) ≤ x2)) = true then k8 (true) else Option.bind (F_impl_within x3 1 10) fun u89 =>
  k8 ((!u89)))))))
def F_impl_CuesAfterRepeat_L1 (x1 : (List (Int × (List UInt8)))) (u39 : Int) (x4 : Int) (u46 : Int) : Nat → (List (Int × (List UInt8))) → Int → Option ((List (Int × (List UInt8))) × Bool)
  | 0, _, _ => none
  | m + 1, l65, y68 => (if (decide (y68 < (List.length x1 : Int))) = true then Option.bind (idx x1 y68) fun u77 =>
  jK1 (fun (y93 : Int) => Option.bind (app l65 [(y93, u77.2)]) fun u102 =>
  (F_impl_CuesAfterRepeat_L1 x1 u39 x4 u46 m) (u102) ((w64 (y68 + 1)))) (fun k94 => (if (decide (u39 ≤ u77.1)) = true then k94 ((w64 (u77.1 + (w64 ((w64 (x4 - 1)) * u46))))) else k94 (u77.1))) else some (l65, true))
def F_impl_CuesAfterRepeat (x0 : (List (Int × Int))) (x1 : (List (Int × (List UInt8)))) (x2 : Int) (x3 : Int) (x4 : Int) : Option ((List (Int × (List UInt8))) × Bool) :=
  Option.bind (F_impl_haveCues x0 x1) fun u4 =>
  (if (!u4) = true then some ([], false) else Option.bind (F_impl_RepeatMeasures x0 x2 x3 x4) fun u15 =>
  (if (!u15.2) = true then some ([], false) else Option.bind (sl x0 0 (w64 (x3 + 1))) fun u33 =>
  Option.bind (sl x0 x2 (w64 (x3 + 1))) fun u36 =>
  Option.bind (F_impl_countsOf u33) fun u39 =>
  Option.bind (F_impl_countsOf u36) fun u46 =>
  F_impl_CuesAfterRepeat_L1 x1 u39 x4 u46 FU ([]) (0)))
def F_laws_FnExactCuesAfterRepeat (x0 : (List (Int × Int))) (x1 : (List (Int × (List UInt8)))) (x2 : Int) (x3 : Int) (x4 : Int) : Option Bool :=
  Option.bind (F_laws_szMeasureS x0 1048576) fun u4 =>
  (if (decide (u4 < 0)) = true then some true else Option.bind (F_laws_szCueS x1 u4) fun u15 =>
  (if (decide (u15 < 0)) = true then some true else Option.bind (F_laws_toMeasureS x0) fun u26 =>
  Option.bind (F_laws_toCueS x1) fun u34 =>
  Option.bind (F_spec_CuesAfterRepeat u26 u34 x2 x3 x4) fun u42 =>
  Option.bind (F_laws_toMeasureS x0) fun u51 =>
  Option.bind (F_laws_toCueS x1) fun u60 =>
  Option.bind (F_impl_CuesAfterRepeat u51 u60 x2 x3 x4) fun u69 =>
  jK1 (fun (y82 : Bool) => (if y82 = true then some false else Option.bind (F_laws_toMeasureS x0) fun u89 =>
  Option.bind (F_laws_eqMeasureS u51 u89) fun u97 =>
  (if (!u97) = true then some false else Option.bind (F_laws_toCueS x1) fun u107 =>
  Option.bind (F_laws_eqCueS u60 u107) fun u115 =>
  (if (!u115) = true then some false else Option.bind (F_laws_markMeasureS u51 1) fun u125 =>
  Option.bind (F_laws_markCueS u60 u125.1) fun u132 =>
  jK1 (fun (y143 : Bool) => (if y143 = true then some false else Option.bind (F_laws_markCueS u69.1 1) fun u150 =>
  Option.bind (F_laws_heldCueS u150.2 1) fun u158 =>
  (if (decide (u158 < 0)) = true then some false else (if (u158 != u150.1) = true then some false else Option.bind (F_laws_toMeasureS x0) fun u173 =>
  Option.bind (F_laws_toCueS x1) fun u181 =>
  Option.bind (F_impl_CuesAfterRepeat u173 u181 x2 x3 x4) fun u189 =>
  jK1 (fun (y202 : Bool) => (if y202 = true then some false else Option.bind (F_laws_heldCueS u150.2 1) fun u209 =>
  (if (decide (u209 < 0)) = true then some false else (if (u209 != u150.1) = true then some false else some true)))) (fun k203 => Option.bind (F_laws_eqCueS u189.1 u42.1) fun u224 =>
  (if (!u224) = true then k203 (true) else k203 ((u189.2 != u42.2)))))))) (fun k144 => (if (decide (u132.1 < 0)) = true then k144 (true) else Option.bind (F_laws_eqCueS u69.1 u42.1) fun u232 =>
  (if (!u232) = true then k144 (true) else k144 ((u69.2 != u42.2))))))))) (fun k83 => Option.bind (F_laws_eqCueS u69.1 u42.1) fun u239 =>
  (if (!u239) = true then k83 (true) else k83 ((u69.2 != u42.2))))))
end Go.Proofs.Ytmbhdelegdhieaa
