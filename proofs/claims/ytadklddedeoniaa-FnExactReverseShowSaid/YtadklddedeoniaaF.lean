/-
  THE FUNCTIONS of this seat as plain functions, by program (gen.py).
-/
import Derived.Test.YtadklddedeoniaaCore0
set_option linter.unusedSimpArgs false
set_option linter.unusedVariables false
set_option maxRecDepth 100000
namespace Go.Proofs.Ytadklddedeoniaa
open Go
def eqv_Spot (x y : (Int × Int)) : Bool := (x.1 == y.1) && (x.2 == y.2)
def G_Spot (x : (Int × Int)) : Prop := inI64 x.1 ∧ inI64 x.2
def G_Show (x : ((List (List (Int × Int))) × (List Int) × Int × Int)) : Prop := (allG (allG G_Spot)) x.1 ∧ (allG inI64) x.2.1 ∧ inI64 x.2.2.1 ∧ inI64 x.2.2.2
def G_Measure (x : (Int × Int)) : Prop := inI64 x.1 ∧ inI64 x.2
def G_Cue (x : (Int × (List UInt8))) : Prop := inI64 x.1 ∧ (allG anyG) x.2
def G_March (x : (((List (List (Int × Int))) × (List Int) × Int × Int) × Int × (List Int) × (List Int))) : Prop := G_Show x.1 ∧ inI64 x.2.1 ∧ (allG inI64) x.2.2.1 ∧ (allG inI64) x.2.2.2
def F_laws_szSpotS (x0 : (List (Int × Int))) (x1 : Int) : Option Int :=
  (if (decide ((w64 (x1 - (List.length x0 : Int))) < 0)) = true then some (-1) else some (w64 (x1 - (List.length x0 : Int))))
def F_laws_szSpotSS_L1 (x0 : (List (List (Int × Int)))) : Nat → Int → Int → Option Int
  | 0, _, _ => none
  | m + 1, y12, y13 => (if (decide (y13 < (List.length x0 : Int))) = true then Option.bind (idx x0 y13) fun u22 =>
  Option.bind (F_laws_szSpotS u22 y12) fun u27 =>
  (if (decide (u27 < 0)) = true then some (-1) else (F_laws_szSpotSS_L1 x0 m) (u27) ((w64 (y13 + 1)))) else some y12)
def F_laws_szSpotSS (x0 : (List (List (Int × Int)))) (x1 : Int) : Option Int :=
  (if (decide ((w64 (x1 - (List.length x0 : Int))) < 0)) = true then some (-1) else F_laws_szSpotSS_L1 x0 FU ((w64 (x1 - (List.length x0 : Int)))) (0))
def F_laws_szIntS (x0 : (List Int)) (x1 : Int) : Option Int :=
  (if (decide ((w64 (x1 - (List.length x0 : Int))) < 0)) = true then some (-1) else some (w64 (x1 - (List.length x0 : Int))))
def F_laws_szShow (x0 : ((List (List (Int × Int))) × (List Int) × Int × Int)) (x1 : Int) : Option Int :=
  Option.bind (F_laws_szSpotSS x0.1 x1) fun u8 =>
  (if (decide (u8 < 0)) = true then some (-1) else Option.bind (F_laws_szIntS x0.2.1 u8) fun u19 =>
  (if (decide (u19 < 0)) = true then some (-1) else some u19))
def F_laws_toSpot (x0 : (Int × Int)) : Option (Int × Int) :=
  some x0
def F_laws_toSpotS_L1 (x0 : (List (Int × Int))) : Nat → (List (Int × Int)) → Int → Option (List (Int × Int))
  | 0, _, _ => none
  | m + 1, l15, y18 => (if (decide (y18 < (List.length x0 : Int))) = true then Option.bind (idx x0 y18) fun u26 =>
  Option.bind (F_laws_toSpot u26) fun u29 =>
  Option.bind (idx l15 y18) fun u35 =>
  (F_laws_toSpotS_L1 x0 m) ((seti l15 y18 u29)) ((w64 (y18 + 1))) else some l15)
def F_laws_toSpotS (x0 : (List (Int × Int))) : Option (List (Int × Int)) :=
  Option.bind (mkL (List.length x0 : Int) (0, 0)) fun u3 =>
  F_laws_toSpotS_L1 x0 FU (u3) (0)
def F_laws_toSpotSS_L1 (x0 : (List (List (Int × Int)))) : Nat → (List (List (Int × Int))) → Int → Option (List (List (Int × Int)))
  | 0, _, _ => none
  | m + 1, l15, y18 => (if (decide (y18 < (List.length x0 : Int))) = true then Option.bind (idx x0 y18) fun u26 =>
  Option.bind (F_laws_toSpotS u26) fun u31 =>
  Option.bind (idx l15 y18) fun u39 =>
  (F_laws_toSpotSS_L1 x0 m) ((seti l15 y18 u31)) ((w64 (y18 + 1))) else some l15)
def F_laws_toSpotSS (x0 : (List (List (Int × Int)))) : Option (List (List (Int × Int))) :=
  Option.bind (mkL (List.length x0 : Int) []) fun u3 =>
  F_laws_toSpotSS_L1 x0 FU (u3) (0)
def F_laws_toIntS_L1 (x0 : (List Int)) : Nat → (List Int) → Int → Option (List Int)
  | 0, _, _ => none
  | m + 1, l15, y18 => (if (decide (y18 < (List.length x0 : Int))) = true then Option.bind (idx x0 y18) fun u26 =>
  Option.bind (idx l15 y18) fun u29 =>
  (F_laws_toIntS_L1 x0 m) ((seti l15 y18 u26)) ((w64 (y18 + 1))) else some l15)
def F_laws_toIntS (x0 : (List Int)) : Option (List Int) :=
  Option.bind (mkL (List.length x0 : Int) 0) fun u3 =>
  F_laws_toIntS_L1 x0 FU (u3) (0)
def F_laws_toShow (x0 : ((List (List (Int × Int))) × (List Int) × Int × Int)) : Option ((List (List (Int × Int))) × (List Int) × Int × Int) :=
  Option.bind (F_laws_toSpotSS x0.1) fun u19 =>
  Option.bind (F_laws_toIntS x0.2.1) fun u32 =>
  some (u19, u32, x0.2.2.1, x0.2.2.2)
def F_spec_l1In (x0 : Int) (x1 : Int) (x2 : Int) : Option Bool :=
  jK1 (fun (y6 : Bool) => some y6) (fun k7 => (if (decide (x1 ≤ x0)) = true then k7 ((decide (x0 ≤ x2))) else k7 (false)))
def F_spec_stGood (x0 : (Int × Int)) : Option Bool :=
  jK1 (fun (y11 : Bool) => some y11) (fun k12 => Option.bind (F_spec_l1In x0.1 0 1280) fun u14 =>
  (if u14 = true then Option.bind (F_spec_l1In x0.2 0 672) fun u21 =>
  k12 (u21) else k12 (false)))
def F_spec_chGood_L2 (u39 : (List (Int × Int))) (u16 : (Int × Int)) (nx8 : (Int → Option Bool)) (y7 : Int) : Nat → Int → Option Bool
  | 0, _ => none
  | m + 1, y45 => (if (decide (y45 < (List.length u39 : Int))) = true then Option.bind (idx u39 y45) fun u54 =>
  (if (eqv_Spot u16 u54) = true then some false else (F_spec_chGood_L2 u39 u16 nx8 y7 m) ((w64 (y45 + 1)))) else nx8 ((w64 (y7 + 1))))
def F_spec_chGood_L1 (x0 : (List (Int × Int))) : Nat → Int → Option Bool
  | 0, _ => none
  | m + 1, y7 => (if (decide (y7 < (List.length x0 : Int))) = true then Option.bind (idx x0 y7) fun u16 =>
  Option.bind (F_spec_stGood u16) fun u30 =>
  (if (!u30) = true then some false else Option.bind (sl x0 0 y7) fun u39 =>
  F_spec_chGood_L2 u39 u16 (F_spec_chGood_L1 x0 m) y7 FU (0)) else Option.bind (F_spec_l1In (List.length x0 : Int) 1 12) fun u70 =>
  some u70)
def F_spec_chGood (x0 : (List (Int × Int))) : Option Bool :=
  F_spec_chGood_L1 x0 FU (0)
def F_spec_l1All_L1 (x0 : (List Int)) (x1 : Int) (x2 : Int) : Nat → Int → Option Bool
  | 0, _ => none
  | m + 1, y7 => (if (decide (y7 < (List.length x0 : Int))) = true then Option.bind (idx x0 y7) fun u16 =>
  Option.bind (F_spec_l1In u16 x1 x2) fun u20 =>
  (if (!u20) = true then some false else (F_spec_l1All_L1 x0 x1 x2 m) ((w64 (y7 + 1)))) else some true)
def F_spec_l1All (x0 : (List Int)) (x1 : Int) (x2 : Int) : Option Bool :=
  F_spec_l1All_L1 x0 x1 x2 FU (0)
def F_spec_apDistance (x0 : Int) : Option Bool :=
  Option.bind (F_spec_l1In x0 0 80) fun u3 =>
  some u3
def F_spec_mvStep (x0 : Int) : Option Bool :=
  Option.bind (F_spec_l1In x0 1 24) fun u3 =>
  some u3
def F_spec_swGood_L1 (x0 : ((List (List (Int × Int))) × (List Int) × Int × Int)) : Nat → Int → Option Bool
  | 0, _ => none
  | m + 1, y12 => (if (decide (y12 < (List.length x0.1 : Int))) = true then Option.bind (idx x0.1 y12) fun u21 =>
  jK1 (fun (y30 : Bool) => (if y30 = true then some false else (F_spec_swGood_L1 x0 m) ((w64 (y12 + 1))))) (fun k31 => Option.bind (F_spec_chGood u21) fun u35 =>
  (if (!u35) = true then k31 (true) else Option.bind (idx x0.1 0) fun u42 =>
  k31 (((List.length u21 : Int) != (List.length u42 : Int))))) else jK1 (fun (y51 : Bool) => some y51) (fun k52 => Option.bind (F_spec_l1In (List.length x0.1 : Int) 2 8) fun u54 =>
  (if u54 = true then (if ((List.length x0.2.1 : Int) == (w64 ((List.length x0.1 : Int) - 1))) = true then Option.bind (F_spec_l1All x0.2.1 1 64) fun u62 =>
  (if u62 = true then Option.bind (F_spec_apDistance x0.2.2.1) fun u69 =>
  (if u69 = true then Option.bind (F_spec_mvStep x0.2.2.2) fun u76 =>
  k52 (u76) else k52 (false)) else k52 (false)) else k52 (false)) else k52 (false))))
def F_spec_swGood (x0 : ((List (List (Int × Int))) × (List Int) × Int × Int)) : Option Bool :=
  F_spec_swGood_L1 x0 FU (0)
def F_spec_swMoves_L1 (u10 : (List (Int × Int))) (x0 : ((List (List (Int × Int))) × (List Int) × Int × Int)) (x1 : Int) : Nat → (List ((Int × Int) × (Int × Int) × Int)) → Int → Option (List ((Int × Int) × (Int × Int) × Int))
  | 0, _, _ => none
  | m + 1, l18, y21 => (if (decide (y21 < (List.length u10 : Int))) = true then Option.bind (idx u10 y21) fun u31 =>
  Option.bind (idx x0.1 (w64 (x1 + 1))) fun u48 =>
  Option.bind (idx u48 y21) fun u53 =>
  Option.bind (idx x0.2.1 x1) fun u56 =>
  Option.bind (app l18 [(u31, u53, u56)]) fun u70 =>
  (F_spec_swMoves_L1 u10 x0 x1 m) (u70) ((w64 (y21 + 1))) else some l18)
def F_spec_swMoves (x0 : ((List (List (Int × Int))) × (List Int) × Int × Int)) (x1 : Int) : Option (List ((Int × Int) × (Int × Int) × Int)) :=
  Option.bind (idx x0.1 x1) fun u10 =>
  F_spec_swMoves_L1 u10 x0 x1 FU ([]) (0)
def F_spec_stSquare (x0 : (Int × Int)) (x1 : (Int × Int)) : Option Int :=
  some (w64 ((w64 ((w64 (x0.1 - x1.1)) * (w64 (x0.1 - x1.1)))) + (w64 ((w64 (x0.2 - x1.2)) * (w64 (x0.2 - x1.2))))))
def F_spec_cpSquares_L1 (u10 : (List ((Int × Int) × (Int × Int) × Int))) : Nat → (List Int) → Int → Option (List Int)
  | 0, _, _ => none
  | m + 1, l21, y24 => (if (decide (y24 < (List.length u10 : Int))) = true then Option.bind (idx u10 y24) fun u34 =>
  Option.bind (F_spec_stSquare u34.1 u34.2.1) fun u47 =>
  Option.bind (app l21 [u47]) fun u59 =>
  (F_spec_cpSquares_L1 u10 m) (u59) ((w64 (y24 + 1))) else some l21)
def F_spec_cpSquares (x0 : ((List (List (Int × Int))) × (List Int) × Int × Int)) (x1 : Int) : Option (List Int) :=
  Option.bind (F_spec_swMoves x0 x1) fun u10 =>
  F_spec_cpSquares_L1 u10 FU ([]) (0)
def F_spec_cpWays_L2 (u38 : (List Int)) (nx29 : ((List Int) → Int → Option (List Int))) (y28 : Int) : Nat → (List Int) → Int → Option (List Int)
  | 0, _, _ => none
  | m + 1, l49, y52 => (if (decide (y52 < (List.length u38 : Int))) = true then Option.bind (idx u38 y52) fun u61 =>
  Option.bind (idx l49 y52) fun u65 =>
  Option.bind (idx l49 y52) fun u69 =>
  (F_spec_cpWays_L2 u38 nx29 y28 m) ((seti l49 y52 (w64 (u65 + u61)))) ((w64 (y52 + 1))) else nx29 (l49) ((w64 (y28 + 1))))
def F_spec_cpWays_L1 (x0 : ((List (List (Int × Int))) × (List Int) × Int × Int)) : Nat → (List Int) → Int → Option (List Int)
  | 0, _, _ => none
  | m + 1, l25, y28 => (if (decide (y28 < (List.length x0.2.1 : Int))) = true then Option.bind (F_spec_cpSquares x0 y28) fun u38 =>
  F_spec_cpWays_L2 u38 (F_spec_cpWays_L1 x0 m) y28 FU (l25) (0) else some l25)
def F_spec_cpWays (x0 : ((List (List (Int × Int))) × (List Int) × Int × Int)) : Option (List Int) :=
  Option.bind (idx x0.1 0) fun u8 =>
  Option.bind (mkL (List.length u8 : Int) 0) fun u13 =>
  F_spec_cpWays_L1 x0 FU (u13) (0)
def F_spec_WaySums (x0 : ((List (List (Int × Int))) × (List Int) × Int × Int)) : Option ((List Int) × Bool) :=
  Option.bind (F_spec_swGood x0) fun u9 =>
  (if (!u9) = true then some ([], false) else Option.bind (F_spec_cpWays x0) fun u19 =>
  some (u19, true))
def F_impl_within (x0 : Int) (x1 : Int) (x2 : Int) : Option Bool :=
  jK1 (fun (y6 : Bool) => some y6) (fun k7 => (if (decide (x1 ≤ x0)) = true then k7 ((decide (x0 ≤ x2))) else k7 (false)))
def F_impl_IsSpot (x0 : (Int × Int)) : Option Bool :=
  jK1 (fun (y11 : Bool) => some y11) (fun k12 => Option.bind (F_impl_within x0.1 0 1280) fun u14 =>
  (if u14 = true then Option.bind (F_impl_within x0.2 0 672) fun u21 =>
  k12 (u21) else k12 (false)))
def F_slices_Index_impl_Spot_impl_Spot_L1 (x0 : (List (Int × Int))) (x1 : (Int × Int)) : Nat → Int → Option Int
  | 0, _ => none
  | m + 1, y12 => (if (decide (y12 < (List.length x0 : Int))) = true then Option.bind (idx x0 y12) fun u27 =>
  (if (eqv_Spot x1 u27) = true then some y12 else (F_slices_Index_impl_Spot_impl_Spot_L1 x0 x1 m) ((w64 (y12 + 1)))) else some (-1))
def F_slices_Index_impl_Spot_impl_Spot (x0 : (List (Int × Int))) (x1 : (Int × Int)) : Option Int :=
  F_slices_Index_impl_Spot_impl_Spot_L1 x0 x1 FU (0)
def F_slices_Contains_impl_Spot_impl_Spot (x0 : (List (Int × Int))) (x1 : (Int × Int)) : Option Bool :=
  Option.bind (F_slices_Index_impl_Spot_impl_Spot x0 x1) fun u8 =>
  some (decide (0 ≤ u8))
def F_impl_IsChart_L1 (x0 : (List (Int × Int))) : Nat → Int → Option Bool
  | 0, _ => none
  | m + 1, y17 => (if (decide (y17 < (List.length x0 : Int))) = true then Option.bind (idx x0 y17) fun u26 =>
  jK1 (fun (y42 : Bool) => (if y42 = true then some false else (F_impl_IsChart_L1 x0 m) ((w64 (y17 + 1))))) (fun k43 => Option.bind (F_impl_IsSpot u26) fun u52 =>
  (if (!u52) = true then k43 (true) else Option.bind (sl x0 0 y17) fun u60 =>
  Option.bind (F_slices_Contains_impl_Spot_impl_Spot u60 u26) fun u63 =>
  k43 (u63))) else some true)
def F_impl_IsChart (x0 : (List (Int × Int))) : Option Bool :=
  Option.bind (F_impl_within (List.length x0 : Int) 1 12) fun u4 =>
  (if (!u4) = true then some false else F_impl_IsChart_L1 x0 FU (0))
def F_impl_areCharts_L2 (x1 : (List Int)) : Nat → Int → Option Bool
  | 0, _ => none
  | m + 1, y57 => (if (decide (y57 < (List.length x1 : Int))) = true then Option.bind (idx x1 y57) fun u66 =>
  Option.bind (F_impl_within u66 1 64) fun u70 =>
  (if (!u70) = true then some false else (F_impl_areCharts_L2 x1 m) ((w64 (y57 + 1)))) else some true)
def F_impl_areCharts_L1 (x0 : (List (List (Int × Int)))) (x1 : (List Int)) : Nat → Int → Option Bool
  | 0, _ => none
  | m + 1, y17 => (if (decide (y17 < (List.length x0 : Int))) = true then Option.bind (idx x0 y17) fun u26 =>
  jK1 (fun (y35 : Bool) => (if y35 = true then some false else (F_impl_areCharts_L1 x0 x1 m) ((w64 (y17 + 1))))) (fun k36 => Option.bind (F_impl_IsChart u26) fun u40 =>
  (if (!u40) = true then k36 (true) else Option.bind (idx x0 0) fun u47 =>
  k36 (((List.length u26 : Int) != (List.length u47 : Int))))) else F_impl_areCharts_L2 x1 FU (0))
def F_impl_areCharts (x0 : (List (List (Int × Int)))) (x1 : (List Int)) : Option Bool :=
  jK1 (fun (y7 : Bool) => (if y7 = true then some false else F_impl_areCharts_L1 x0 x1 FU (0))) (fun k8 => Option.bind (F_impl_within (List.length x0 : Int) 1 9) fun u79 =>
  (if (!u79) = true then k8 (true) else k8 (((List.length x1 : Int) != (w64 ((List.length x0 : Int) - 1))))))
def F_impl_isLeast (x0 : Int) : Option Bool :=
  Option.bind (F_impl_within x0 0 80) fun u3 =>
  some u3
def F_impl_IsShow (x0 : ((List (List (Int × Int))) × (List Int) × Int × Int)) : Option Bool :=
  jK1 (fun (y11 : Bool) => some y11) (fun k12 => Option.bind (F_impl_within (List.length x0.1 : Int) 2 8) fun u14 =>
  (if u14 = true then Option.bind (F_impl_areCharts x0.1 x0.2.1) fun u21 =>
  (if u21 = true then Option.bind (F_impl_isLeast x0.2.2.1) fun u28 =>
  (if u28 = true then Option.bind (F_impl_within x0.2.2.2 1 24) fun u35 =>
  k12 (u35) else k12 (false)) else k12 (false)) else k12 (false)))
def F_impl_showMoves_L1 (u16 : (List (Int × Int))) (x0 : ((List (List (Int × Int))) × (List Int) × Int × Int)) (x1 : Int) : Nat → (List ((Int × Int) × (Int × Int) × Int)) → Int → Option (List ((Int × Int) × (Int × Int) × Int))
  | 0, _, _ => none
  | m + 1, l24, y27 => (if (decide (y27 < (List.length u16 : Int))) = true then Option.bind (idx u16 y27) fun u36 =>
  Option.bind (idx x0.1 (w64 (x1 + 1))) fun u53 =>
  Option.bind (idx u53 y27) fun u58 =>
  Option.bind (idx x0.2.1 x1) fun u61 =>
  Option.bind (app l24 [(u36, u58, u61)]) fun u75 =>
  (F_impl_showMoves_L1 u16 x0 x1 m) (u75) ((w64 (y27 + 1))) else some l24)
def F_impl_showMoves (x0 : ((List (List (Int × Int))) × (List Int) × Int × Int)) (x1 : Int) : Option (List ((Int × Int) × (Int × Int) × Int)) :=
  Option.bind (idx x0.1 x1) fun u16 =>
  F_impl_showMoves_L1 u16 x0 x1 FU ([]) (0)
def F_impl_squareOf (x0 : (Int × Int)) (x1 : (Int × Int)) : Option Int :=
  some (w64 ((w64 ((w64 (x0.1 - x1.1)) * (w64 (x0.1 - x1.1)))) + (w64 ((w64 (x0.2 - x1.2)) * (w64 (x0.2 - x1.2))))))
def F_impl_waySums_L2 (u38 : (List ((Int × Int) × (Int × Int) × Int))) (nx29 : ((List Int) → Int → Option (List Int))) (y28 : Int) : Nat → (List Int) → Int → Option (List Int)
  | 0, _, _ => none
  | m + 1, l49, y52 => (if (decide (y52 < (List.length u38 : Int))) = true then jK1 (fun (l63 : (List Int)) => (F_impl_waySums_L2 u38 nx29 y28 m) (l63) ((w64 (y52 + 1)))) (fun k66 => Option.bind (idx u38 y52) fun u69 =>
  Option.bind (idx l49 y52) fun u87 =>
  Option.bind (F_impl_squareOf u69.1 u69.2.1) fun u91 =>
  Option.bind (idx l49 y52) fun u99 =>
  k66 ((seti l49 y52 (w64 (u87 + u91))))) else nx29 (l49) ((w64 (y28 + 1))))
def F_impl_waySums_L1 (x0 : ((List (List (Int × Int))) × (List Int) × Int × Int)) : Nat → (List Int) → Int → Option (List Int)
  | 0, _, _ => none
  | m + 1, l25, y28 => (if (decide (y28 < (List.length x0.2.1 : Int))) = true then Option.bind (F_impl_showMoves x0 y28) fun u38 =>
  F_impl_waySums_L2 u38 (F_impl_waySums_L1 x0 m) y28 FU (l25) (0) else some l25)
def F_impl_waySums (x0 : ((List (List (Int × Int))) × (List Int) × Int × Int)) : Option (List Int) :=
  Option.bind (idx x0.1 0) fun u8 =>
  Option.bind (mkL (List.length u8 : Int) 0) fun u13 =>
  F_impl_waySums_L1 x0 FU (u13) (0)
def F_impl_WaySums (x0 : ((List (List (Int × Int))) × (List Int) × Int × Int)) : Option ((List Int) × Bool) :=
  Option.bind (F_impl_IsShow x0) fun u9 =>
  (if (!u9) = true then some ([], false) else Option.bind (F_impl_waySums x0) fun u19 =>
  some (u19, true))
def F_laws_eqIntS_L1 (x0 : (List Int)) (x1 : (List Int)) : Nat → Int → Option Bool
  | 0, _ => none
  | m + 1, y11 => (if (decide (y11 < (List.length x0 : Int))) = true then Option.bind (idx x0 y11) fun u25 =>
  Option.bind (idx x1 y11) fun u28 =>
  (if (u25 != u28) = true then some false else (F_laws_eqIntS_L1 x0 x1 m) ((w64 (y11 + 1)))) else some true)
def F_laws_eqIntS (x0 : (List Int)) (x1 : (List Int)) : Option Bool :=
  (if ((List.length x0 : Int) != (List.length x1 : Int)) = true then some false else F_laws_eqIntS_L1 x0 x1 FU (0))
def F_laws_eqSpot (x0 : (Int × Int)) (x1 : (Int × Int)) : Option Bool :=
  (if (x0.1 != x1.1) = true then some false else (if (x0.2 != x1.2) = true then some false else some true))
def F_laws_eqSpotS_L1 (x0 : (List (Int × Int))) (x1 : (List (Int × Int))) : Nat → Int → Option Bool
  | 0, _ => none
  | m + 1, y11 => (if (decide (y11 < (List.length x0 : Int))) = true then Option.bind (idx x0 y11) fun u25 =>
  Option.bind (idx x1 y11) fun u28 =>
  Option.bind (F_laws_eqSpot u25 u28) fun u31 =>
  (if (!u31) = true then some false else (F_laws_eqSpotS_L1 x0 x1 m) ((w64 (y11 + 1)))) else some true)
def F_laws_eqSpotS (x0 : (List (Int × Int))) (x1 : (List (Int × Int))) : Option Bool :=
  (if ((List.length x0 : Int) != (List.length x1 : Int)) = true then some false else F_laws_eqSpotS_L1 x0 x1 FU (0))
def F_laws_eqSpotSS_L1 (x0 : (List (List (Int × Int)))) (x1 : (List (List (Int × Int)))) : Nat → Int → Option Bool
  | 0, _ => none
  | m + 1, y11 => (if (decide (y11 < (List.length x0 : Int))) = true then Option.bind (idx x0 y11) fun u25 =>
  Option.bind (idx x1 y11) fun u30 =>
  Option.bind (F_laws_eqSpotS u25 u30) fun u35 =>
  (if (!u35) = true then some false else (F_laws_eqSpotSS_L1 x0 x1 m) ((w64 (y11 + 1)))) else some true)
def F_laws_eqSpotSS (x0 : (List (List (Int × Int)))) (x1 : (List (List (Int × Int)))) : Option Bool :=
  (if ((List.length x0 : Int) != (List.length x1 : Int)) = true then some false else F_laws_eqSpotSS_L1 x0 x1 FU (0))
def F_laws_eqShow (x0 : ((List (List (Int × Int))) × (List Int) × Int × Int)) (x1 : ((List (List (Int × Int))) × (List Int) × Int × Int)) : Option Bool :=
  Option.bind (F_laws_eqSpotSS x0.1 x1.1) fun u14 =>
  (if (!u14) = true then some false else Option.bind (F_laws_eqIntS x0.2.1 x1.2.1) fun u24 =>
  (if (!u24) = true then some false else (if (x0.2.2.1 != x1.2.2.1) = true then some false else (if (x0.2.2.2 != x1.2.2.2) = true then some false else some true))))
def F_laws_markSpotS_L1  : Nat → (List (Int × Int)) → Int → Int → Option (Int × (List (Int × Int)))
  | 0, _, _, _ => none
  | m + 1, l7, y8, y9 => (if (decide (y9 < (List.length l7 : Int))) = true then Option.bind (idx l7 y9) fun u18 =>
  Option.bind (idx (seti l7 y9 (y8, u18.2)) y9) fun u28 =>
  (F_laws_markSpotS_L1 m) ((seti (seti l7 y9 (y8, u18.2)) y9 (u28.1, (w64 (y8 + 1))))) ((w64 ((w64 (y8 + 1)) + 1))) ((w64 (y9 + 1))) else some (y8, l7))
def F_laws_markSpotS (x0 : (List (Int × Int))) (x1 : Int) : Option (Int × (List (Int × Int))) :=
  F_laws_markSpotS_L1 FU (x0) (x1) (0)
def F_laws_markSpotSS_L1  : Nat → (List (List (Int × Int))) → Int → Int → Option (Int × (List (List (Int × Int))))
  | 0, _, _, _ => none
  | m + 1, l7, y8, y9 => (if (decide (y9 < (List.length l7 : Int))) = true then Option.bind (idx l7 y9) fun u17 =>
  Option.bind (F_laws_markSpotS u17 y8) fun u28 =>
  (F_laws_markSpotSS_L1 m) ((seti l7 y9 u28.2)) (u28.1) ((w64 (y9 + 1))) else some (y8, l7))
def F_laws_markSpotSS (x0 : (List (List (Int × Int)))) (x1 : Int) : Option (Int × (List (List (Int × Int)))) :=
  F_laws_markSpotSS_L1 FU (x0) (x1) (0)
def F_laws_markIntS_L1  : Nat → (List Int) → Int → Int → Option (Int × (List Int))
  | 0, _, _, _ => none
  | m + 1, l7, y8, y9 => (if (decide (y9 < (List.length l7 : Int))) = true then Option.bind (idx l7 y9) fun u18 =>
  (F_laws_markIntS_L1 m) ((seti l7 y9 y8)) ((w64 (y8 + 1))) ((w64 (y9 + 1))) else some (y8, l7))
def F_laws_markIntS (x0 : (List Int)) (x1 : Int) : Option (Int × (List Int)) :=
  F_laws_markIntS_L1 FU (x0) (x1) (0)
def F_laws_markShow (x0 : ((List (List (Int × Int))) × (List Int) × Int × Int)) (x1 : Int) : Option (Int × ((List (List (Int × Int))) × (List Int) × Int × Int)) :=
  Option.bind (F_laws_markSpotSS x0.1 x1) fun u8 =>
  Option.bind (F_laws_markIntS x0.2.1 u8.1) fun u15 =>
  some (u15.1, (u8.2, u15.2, x0.2.2.1, x0.2.2.2))
def F_laws_heldIntS_L1 (x0 : (List Int)) : Nat → Int → Int → Option Int
  | 0, _, _ => none
  | m + 1, y7, y8 => (if (decide (y8 < (List.length x0 : Int))) = true then Option.bind (idx x0 y8) fun u18 =>
  (if (u18 != y7) = true then some (-1) else (F_laws_heldIntS_L1 x0 m) ((w64 (y7 + 1))) ((w64 (y8 + 1)))) else some y7)
def F_laws_heldIntS (x0 : (List Int)) (x1 : Int) : Option Int :=
  F_laws_heldIntS_L1 x0 FU (x1) (0)
def F_laws_FnExactWaySums (x0 : ((List (List (Int × Int))) × (List Int) × Int × Int)) : Option Bool :=
  Option.bind (F_laws_szShow x0 1048576) fun u9 =>
  (if (decide (u9 < 0)) = true then some true else Option.bind (F_laws_toShow x0) fun u20 =>
  Option.bind (F_spec_WaySums u20) fun u30 =>
  Option.bind (F_laws_toShow x0) fun u39 =>
  Option.bind (F_impl_WaySums u39) fun u59 =>
  jK1 (fun (y72 : Bool) => (if y72 = true then some false else Option.bind (F_laws_toShow x0) fun u84 =>
  Option.bind (F_laws_eqShow u39 u84) fun u97 =>
  (if (!u97) = true then some false else Option.bind (F_laws_markShow u39 1) fun u108 =>
  jK1 (fun (y119 : Bool) => (if y119 = true then some false else Option.bind (F_laws_markIntS u59.1 1) fun u126 =>
  Option.bind (F_laws_heldIntS u126.2 1) fun u134 =>
  (if (decide (u134 < 0)) = true then some false else (if (u134 != u126.1) = true then some false else Option.bind (F_laws_toShow x0) fun u149 =>
  Option.bind (F_impl_WaySums u149) fun u159 =>
  jK1 (fun (y172 : Bool) => (if y172 = true then some false else Option.bind (F_laws_heldIntS u126.2 1) fun u179 =>
  (if (decide (u179 < 0)) = true then some false else (if (u179 != u126.1) = true then some false else some true)))) (fun k173 => Option.bind (F_laws_eqIntS u159.1 u30.1) fun u194 =>
  (if (!u194) = true then k173 (true) else k173 ((u159.2 != u30.2)))))))) (fun k120 => (if (decide (u108.1 < 0)) = true then k120 (true) else Option.bind (F_laws_eqIntS u59.1 u30.1) fun u202 =>
  (if (!u202) = true then k120 (true) else k120 ((u59.2 != u30.2)))))))) (fun k73 => Option.bind (F_laws_eqIntS u59.1 u30.1) fun u209 =>
  (if (!u209) = true then k73 (true) else k73 ((u59.2 != u30.2)))))
def F_spec_swHas (x0 : ((List (List (Int × Int))) × (List Int) × Int × Int)) (x1 : Int) : Option Bool :=
  jK1 (fun (y11 : Bool) => some y11) (fun k12 => Option.bind (F_spec_swGood x0) fun u14 =>
  (if u14 = true then Option.bind (F_spec_l1In x1 0 (w64 ((List.length x0.2.1 : Int) - 1))) fun u21 =>
  k12 (u21) else k12 (false)))
def F_spec_mvWithin (x0 : ((Int × Int) × (Int × Int) × Int)) (x1 : Int) : Option Bool :=
  Option.bind (F_spec_stSquare x0.1 x0.2.1) fun u13 =>
  some (decide (u13 ≤ (w64 ((w64 ((w64 (x1 * x1)) * x0.2.2)) * x0.2.2))))
def F_spec_swWide_L1 (u10 : (List ((Int × Int) × (Int × Int) × Int))) (x0 : ((List (List (Int × Int))) × (List Int) × Int × Int)) : Nat → (List Int) → Int → Option (List Int)
  | 0, _, _ => none
  | m + 1, l21, y24 => (if (decide (y24 < (List.length u10 : Int))) = true then jK1 (fun (l36 : (List Int)) => (F_spec_swWide_L1 u10 x0 m) (l36) ((w64 (y24 + 1)))) (fun k39 => Option.bind (idx u10 y24) fun u42 =>
  Option.bind (F_spec_mvWithin u42 x0.2.2.2) fun u56 =>
  (if (!u56) = true then Option.bind (app l21 [y24]) fun u69 =>
  k39 (u69) else k39 (l21))) else some l21)
def F_spec_swWide (x0 : ((List (List (Int × Int))) × (List Int) × Int × Int)) (x1 : Int) : Option (List Int) :=
  Option.bind (F_spec_swMoves x0 x1) fun u10 =>
  F_spec_swWide_L1 u10 x0 FU ([]) (0)
def F_spec_WideSteps (x0 : ((List (List (Int × Int))) × (List Int) × Int × Int)) (x1 : Int) : Option ((List Int) × Bool) :=
  Option.bind (F_spec_swHas x0 x1) fun u9 =>
  (if (!u9) = true then some ([], false) else Option.bind (F_spec_swWide x0 x1) fun u19 =>
  some (u19, true))
def F_impl_isPart (x0 : ((List (List (Int × Int))) × (List Int) × Int × Int)) (x1 : Int) : Option Bool :=
  jK1 (fun (y11 : Bool) => some y11) (fun k12 => Option.bind (F_impl_IsShow x0) fun u14 =>
  (if u14 = true then Option.bind (F_impl_within x1 0 (w64 ((List.length x0.2.1 : Int) - 1))) fun u21 =>
  k12 (u21) else k12 (false)))
def F_impl_withinStep (x0 : ((Int × Int) × (Int × Int) × Int)) (x1 : Int) : Option Bool :=
  Option.bind (F_impl_squareOf x0.1 x0.2.1) fun u13 =>
  some (decide (u13 ≤ (w64 ((w64 ((w64 (x1 * x1)) * x0.2.2)) * x0.2.2))))
def F_impl_wideSteps_L1 (u16 : (List ((Int × Int) × (Int × Int) × Int))) (x0 : ((List (List (Int × Int))) × (List Int) × Int × Int)) : Nat → (List Int) → Int → Option (List Int)
  | 0, _, _ => none
  | m + 1, l27, y30 => (if (decide (y30 < (List.length u16 : Int))) = true then jK1 (fun (l41 : (List Int)) => (F_impl_wideSteps_L1 u16 x0 m) (l41) ((w64 (y30 + 1)))) (fun k44 => Option.bind (idx u16 y30) fun u47 =>
  Option.bind (F_impl_withinStep u47 x0.2.2.2) fun u61 =>
  (if (!u61) = true then Option.bind (app l27 [y30]) fun u74 =>
  k44 (u74) else k44 (l27))) else some l27)
def F_impl_wideSteps (x0 : ((List (List (Int × Int))) × (List Int) × Int × Int)) (x1 : Int) : Option (List Int) :=
  Option.bind (F_impl_showMoves x0 x1) fun u16 =>
  F_impl_wideSteps_L1 u16 x0 FU ([]) (0)
def F_impl_WideSteps (x0 : ((List (List (Int × Int))) × (List Int) × Int × Int)) (x1 : Int) : Option ((List Int) × Bool) :=
  Option.bind (F_impl_isPart x0 x1) fun u9 =>
  (if (!u9) = true then some ([], false) else Option.bind (F_impl_wideSteps x0 x1) fun u19 =>
  some (u19, true))
def F_laws_FnExactWideSteps (x0 : ((List (List (Int × Int))) × (List Int) × Int × Int)) (x1 : Int) : Option Bool :=
  Option.bind (F_laws_szShow x0 1048576) fun u9 =>
  (if (decide (u9 < 0)) = true then some true else Option.bind (F_laws_toShow x0) fun u20 =>
  Option.bind (F_spec_WideSteps u20 x1) fun u30 =>
  Option.bind (F_laws_toShow x0) fun u39 =>
  Option.bind (F_impl_WideSteps u39 x1) fun u59 =>
  jK1 (fun (y72 : Bool) => (if y72 = true then some false else Option.bind (F_laws_toShow x0) fun u84 =>
  Option.bind (F_laws_eqShow u39 u84) fun u97 =>
  (if (!u97) = true then some false else Option.bind (F_laws_markShow u39 1) fun u108 =>
  jK1 (fun (y119 : Bool) => (if y119 = true then some false else Option.bind (F_laws_markIntS u59.1 1) fun u126 =>
  Option.bind (F_laws_heldIntS u126.2 1) fun u134 =>
  (if (decide (u134 < 0)) = true then some false else (if (u134 != u126.1) = true then some false else Option.bind (F_laws_toShow x0) fun u149 =>
  Option.bind (F_impl_WideSteps u149 x1) fun u159 =>
  jK1 (fun (y172 : Bool) => (if y172 = true then some false else Option.bind (F_laws_heldIntS u126.2 1) fun u179 =>
  (if (decide (u179 < 0)) = true then some false else (if (u179 != u126.1) = true then some false else some true)))) (fun k173 => Option.bind (F_laws_eqIntS u159.1 u30.1) fun u194 =>
  (if (!u194) = true then k173 (true) else k173 ((u159.2 != u30.2)))))))) (fun k120 => (if (decide (u108.1 < 0)) = true then k120 (true) else Option.bind (F_laws_eqIntS u59.1 u30.1) fun u202 =>
  (if (!u202) = true then k120 (true) else k120 ((u59.2 != u30.2)))))))) (fun k73 => Option.bind (F_laws_eqIntS u59.1 u30.1) fun u209 =>
  (if (!u209) = true then k73 (true) else k73 ((u59.2 != u30.2)))))
def F_laws_szMeasureS (x0 : (List (Int × Int))) (x1 : Int) : Option Int :=
  (if (decide ((w64 (x1 - (List.length x0 : Int))) < 0)) = true then some (-1) else some (w64 (x1 - (List.length x0 : Int))))
def F_laws_szCue (x0 : (Int × (List UInt8))) (x1 : Int) : Option Int :=
  (if (decide ((w64 (x1 - (List.length x0.2 : Int))) < 0)) = true then some (-1) else some (w64 (x1 - (List.length x0.2 : Int))))
def F_laws_szCueS_L1 (x0 : (List (Int × (List UInt8)))) : Nat → Int → Int → Option Int
  | 0, _, _ => none
  | m + 1, y12, y13 => (if (decide (y13 < (List.length x0 : Int))) = true then Option.bind (idx x0 y13) fun u22 =>
  Option.bind (F_laws_szCue u22 y12) fun u25 =>
  (if (decide (u25 < 0)) = true then some (-1) else (F_laws_szCueS_L1 x0 m) (u25) ((w64 (y13 + 1)))) else some y12)
def F_laws_szCueS (x0 : (List (Int × (List UInt8)))) (x1 : Int) : Option Int :=
  (if (decide ((w64 (x1 - (List.length x0 : Int))) < 0)) = true then some (-1) else F_laws_szCueS_L1 x0 FU ((w64 (x1 - (List.length x0 : Int)))) (0))
def F_laws_toMeasure (x0 : (Int × Int)) : Option (Int × Int) :=
  some x0
def F_laws_toMeasureS_L1 (x0 : (List (Int × Int))) : Nat → (List (Int × Int)) → Int → Option (List (Int × Int))
  | 0, _, _ => none
  | m + 1, l15, y18 => (if (decide (y18 < (List.length x0 : Int))) = true then Option.bind (idx x0 y18) fun u26 =>
  Option.bind (F_laws_toMeasure u26) fun u29 =>
  Option.bind (idx l15 y18) fun u35 =>
  (F_laws_toMeasureS_L1 x0 m) ((seti l15 y18 u29)) ((w64 (y18 + 1))) else some l15)
def F_laws_toMeasureS (x0 : (List (Int × Int))) : Option (List (Int × Int)) :=
  Option.bind (mkL (List.length x0 : Int) (0, 0)) fun u3 =>
  F_laws_toMeasureS_L1 x0 FU (u3) (0)
def F_laws_toCue (x0 : (Int × (List UInt8))) : Option (Int × (List UInt8)) :=
  some x0
def F_laws_toCueS_L1 (x0 : (List (Int × (List UInt8)))) : Nat → (List (Int × (List UInt8))) → Int → Option (List (Int × (List UInt8)))
  | 0, _, _ => none
  | m + 1, l15, y18 => (if (decide (y18 < (List.length x0 : Int))) = true then Option.bind (idx x0 y18) fun u26 =>
  Option.bind (F_laws_toCue u26) fun u29 =>
  Option.bind (idx l15 y18) fun u35 =>
  (F_laws_toCueS_L1 x0 m) ((seti l15 y18 u29)) ((w64 (y18 + 1))) else some l15)
def F_laws_toCueS (x0 : (List (Int × (List UInt8)))) : Option (List (Int × (List UInt8))) :=
  Option.bind (mkL (List.length x0 : Int) (0, [])) fun u3 =>
  F_laws_toCueS_L1 x0 FU (u3) (0)
def F_spec_muMeasure (x0 : (Int × Int)) : Option Bool :=
  jK1 (fun (y11 : Bool) => some y11) (fun k12 => Option.bind (F_spec_l1In x0.1 1 12) fun u14 =>
  (if u14 = true then Option.bind (F_spec_l1In x0.2 40 220) fun u21 =>
  k12 (u21) else k12 (false)))
def F_spec_muGood_L1 (x0 : (List (Int × Int))) : Nat → Int → Option Bool
  | 0, _ => none
  | m + 1, y7 => (if (decide (y7 < (List.length x0 : Int))) = true then Option.bind (idx x0 y7) fun u16 =>
  Option.bind (F_spec_muMeasure u16) fun u29 =>
  (if (!u29) = true then some false else (F_spec_muGood_L1 x0 m) ((w64 (y7 + 1)))) else Option.bind (F_spec_l1In (List.length x0 : Int) 1 40) fun u38 =>
  some u38)
def F_spec_muGood (x0 : (List (Int × Int))) : Option Bool :=
  F_spec_muGood_L1 x0 FU (0)
def F_spec_muCounts_L1 (x0 : (List (Int × Int))) : Nat → Int → Int → Option Int
  | 0, _, _ => none
  | m + 1, y8, y9 => (if (decide (y9 < (List.length x0 : Int))) = true then Option.bind (idx x0 y9) fun u18 =>
  (F_spec_muCounts_L1 x0 m) ((w64 (y8 + u18.1))) ((w64 (y9 + 1))) else some y8)
def F_spec_muCounts (x0 : (List (Int × Int))) : Option Int :=
  F_spec_muCounts_L1 x0 FU (0) (0)
def F_spec_tiName_L1 (x0 : (List UInt8)) : Nat → Int → Option Bool
  | 0, _ => none
  | m + 1, y7 => (if (decide (y7 < (List.length x0 : Int))) = true then jK1 (fun (y19 : Bool) => (if y19 = true then some false else (F_spec_tiName_L1 x0 m) ((w64 (y7 + 1))))) (fun k20 => Option.bind (idx x0 y7) fun u24 =>
  (if (decide ((UInt8.toNat u24 : Int) < 97)) = true then k20 (true) else Option.bind (idx x0 y7) fun u26 =>
  k20 ((decide (122 < (UInt8.toNat u26 : Int)))))) else Option.bind (F_spec_l1In (List.length x0 : Int) 1 8) fun u28 =>
  some u28)
def F_spec_tiName (x0 : (List UInt8)) : Option Bool :=
  F_spec_tiName_L1 x0 FU (0)
def F_spec_tiCues_L2 (u39 : (List (Int × (List UInt8)))) (u16 : (Int × (List UInt8))) (nx8 : (Int → Option Bool)) (y7 : Int) : Nat → Int → Option Bool
  | 0, _ => none
  | m + 1, y45 => (if (decide (y45 < (List.length u39 : Int))) = true then Option.bind (idx u39 y45) fun u54 =>
  (if (u54.2 == u16.2) = true then some false else (F_spec_tiCues_L2 u39 u16 nx8 y7 m) ((w64 (y45 + 1)))) else nx8 ((w64 (y7 + 1))))
def F_spec_tiCues_L1 (x1 : (List (Int × (List UInt8)))) (x0 : (List (Int × Int))) : Nat → Int → Option Bool
  | 0, _ => none
  | m + 1, y7 => (if (decide (y7 < (List.length x1 : Int))) = true then Option.bind (idx x1 y7) fun u16 =>
  jK1 (fun (y33 : Bool) => (if y33 = true then some false else Option.bind (sl x1 0 y7) fun u39 =>
  F_spec_tiCues_L2 u39 u16 (F_spec_tiCues_L1 x1 x0 m) y7 FU (0))) (fun k34 => Option.bind (F_spec_muCounts x0) fun u74 =>
  Option.bind (F_spec_l1In u16.1 0 (w64 (u74 - 1))) fun u81 =>
  (if (!u81) = true then k34 (true) else Option.bind (F_spec_tiName u16.2) fun u89 =>
  (if (!u89) = true then k34 (true) else (if (decide (0 < y7)) = true then Option.bind (idx x1 (w64 (y7 - 1))) fun u98 =>
  k34 ((decide (u16.1 ≤ u98.1))) else k34 (false))))) else some (decide ((List.length x1 : Int) ≤ 30)))
def F_spec_tiCues (x0 : (List (Int × Int))) (x1 : (List (Int × (List UInt8)))) : Option Bool :=
  F_spec_tiCues_L1 x1 x0 FU (0)
def F_spec_tiGood (x0 : (List (Int × Int))) (x1 : (List (Int × (List UInt8)))) : Option Bool :=
  jK1 (fun (y6 : Bool) => some y6) (fun k7 => Option.bind (F_spec_muGood x0) fun u9 =>
  (if u9 = true then Option.bind (F_spec_tiCues x0 x1) fun u16 =>
  k7 (u16) else k7 (false)))
def F_spec_tiTime (x0 : Int) : Option Bool :=
  Option.bind (F_spec_l1In x0 0 1000000) fun u3 =>
  some u3
def F_spec_muLasts (x0 : Int) (x1 : Int) : Option Int :=
  (if x1 = 0 then none else some (w64 (Int.tdiv (w64 (60000 * x0)) x1)))
def F_spec_muTime_L1 (x0 : (List (Int × Int))) : Nat → Int → Int → Int → Option Int
  | 0, _, _, _ => none
  | m + 1, y8, y9, y10 => (if (decide (y10 < (List.length x0 : Int))) = true then Option.bind (idx x0 y10) fun u19 =>
  (if (decide (y8 < u19.1)) = true then Option.bind (F_spec_muLasts y8 u19.2) fun u35 =>
  some (w64 (y9 + u35)) else Option.bind (F_spec_muLasts u19.1 u19.2) fun u42 =>
  (F_spec_muTime_L1 x0 m) ((w64 (y8 - u19.1))) ((w64 (y9 + u42))) ((w64 (y10 + 1)))) else some y9)
def F_spec_muTime (x0 : (List (Int × Int))) (x1 : Int) : Option Int :=
  F_spec_muTime_L1 x0 FU (x1) (0) (0)
def F_spec_tiTimes_L1 (x1 : (List (Int × (List UInt8)))) (x0 : (List (Int × Int))) : Nat → (List Int) → Int → Option (List Int)
  | 0, _, _ => none
  | m + 1, l8, y11 => (if (decide (y11 < (List.length x1 : Int))) = true then Option.bind (idx x1 y11) fun u21 =>
  Option.bind (F_spec_muTime x0 u21.1) fun u33 =>
  Option.bind (app l8 [u33]) fun u45 =>
  (F_spec_tiTimes_L1 x1 x0 m) (u45) ((w64 (y11 + 1))) else some l8)
def F_spec_tiTimes (x0 : (List (Int × Int))) (x1 : (List (Int × (List UInt8)))) : Option (List Int) :=
  F_spec_tiTimes_L1 x1 x0 FU ([]) (0)
def F_spec_CuesBetween_L1 (u16 : (List Int)) (x2 : Int) (x3 : Int) : Nat → (List Int) → Int → Option ((List Int) × Bool)
  | 0, _, _ => none
  | m + 1, l27, y30 => (if (decide (y30 < (List.length u16 : Int))) = true then jK1 (fun (l42 : (List Int)) => (F_spec_CuesBetween_L1 u16 x2 x3 m) (l42) ((w64 (y30 + 1)))) (fun k45 => Option.bind (idx u16 y30) fun u48 =>
  jK1 (fun (y56 : Bool) => (if y56 = true then Option.bind (app l27 [y30]) fun u66 =>
  k45 (u66) else k45 (l27))) (fun k57 => (if (decide (x2 ≤ u48)) = true then k57 ((decide (u48 < x3))) else k57 (false)))) else some (l27, true))
def F_spec_CuesBetween (x0 : (List (Int × Int))) (x1 : (List (Int × (List UInt8)))) (x2 : Int) (x3 : Int) : Option ((List Int) × Bool) :=
  jK1 (fun (y7 : Bool) => (if y7 = true then some ([], false) else Option.bind (F_spec_tiTimes x0 x1) fun u16 =>
  F_spec_CuesBetween_L1 u16 x2 x3 FU ([]) (0))) (fun k8 => Option.bind (F_spec_tiGood x0 x1) fun u75 =>
  (if (!u75) = true then k8 (true) else Option.bind (F_spec_tiTime x2) fun u82 =>
  (if (!u82) = true then k8 (true) else Option.bind (F_spec_tiTime x3) fun u89 =>
  k8 ((!u89)))))
def F_impl_IsMusic_L1 (x0 : (List (Int × Int))) : Nat → Int → Option Bool
  | 0, _ => none
  | m + 1, y7 => (if (decide (y7 < (List.length x0 : Int))) = true then Option.bind (idx x0 y7) fun u16 =>
  jK1 (fun (y32 : Bool) => (if y32 = true then some false else (F_impl_IsMusic_L1 x0 m) ((w64 (y7 + 1))))) (fun k33 => Option.bind (F_impl_within u16.1 1 12) fun u37 =>
  (if (!u37) = true then k33 (true) else Option.bind (F_impl_within u16.2 40 220) fun u44 =>
  k33 ((!u44)))) else Option.bind (F_impl_within (List.length x0 : Int) 1 40) fun u51 =>
  some u51)
def F_impl_IsMusic (x0 : (List (Int × Int))) : Option Bool :=
  F_impl_IsMusic_L1 x0 FU (0)
def F_impl_countsOf_L1 (x0 : (List (Int × Int))) : Nat → Int → Int → Option Int
  | 0, _, _ => none
  | m + 1, y8, y9 => (if (decide (y9 < (List.length x0 : Int))) = true then Option.bind (idx x0 y9) fun u18 =>
  (F_impl_countsOf_L1 x0 m) ((w64 (y8 + u18.1))) ((w64 (y9 + 1))) else some y8)
def F_impl_countsOf (x0 : (List (Int × Int))) : Option Int :=
  F_impl_countsOf_L1 x0 FU (0) (0)
def F_impl_isName_L1 (x0 : (List UInt8)) : Nat → Int → Option Bool
  | 0, _ => none
  | m + 1, y7 => (if (decide (y7 < (List.length x0 : Int))) = true then jK1 (fun (y19 : Bool) => (if y19 = true then some false else (F_impl_isName_L1 x0 m) ((w64 (y7 + 1))))) (fun k20 => Option.bind (idx x0 y7) fun u24 =>
  (if (decide ((UInt8.toNat u24 : Int) < 97)) = true then k20 (true) else Option.bind (idx x0 y7) fun u26 =>
  k20 ((decide (122 < (UInt8.toNat u26 : Int)))))) else Option.bind (F_impl_within (List.length x0 : Int) 1 12) fun u28 =>
  some u28)
def F_impl_isName (x0 : (List UInt8)) : Option Bool :=
  F_impl_isName_L1 x0 FU (0)
def F_impl_areCues_1 (x0 : (Int × (List UInt8))) (y1 : (Int × (List UInt8))) : Option Bool :=
  some (x0.2 == y1.2)
def F_slices_IndexFunc_impl_Cue_impl_Cue__impl_areCues_1_L1 (x0 : (List (Int × (List UInt8)))) (y1_0 : (Int × (List UInt8))) : Nat → Int → Option Int
  | 0, _ => none
  | m + 1, y7 => (if (decide (y7 < (List.length x0 : Int))) = true then Option.bind (idx x0 y7) fun u17 =>
  Option.bind (F_impl_areCues_1 u17 y1_0) fun u20 =>
  (if u20 = true then some y7 else (F_slices_IndexFunc_impl_Cue_impl_Cue__impl_areCues_1_L1 x0 y1_0 m) ((w64 (y7 + 1)))) else some (-1))
def F_slices_IndexFunc_impl_Cue_impl_Cue__impl_areCues_1 (x0 : (List (Int × (List UInt8)))) (y1_0 : (Int × (List UInt8))) : Option Int :=
  F_slices_IndexFunc_impl_Cue_impl_Cue__impl_areCues_1_L1 x0 y1_0 FU (0)
def F_slices_ContainsFunc_impl_Cue_impl_Cue__impl_areCues_1 (x0 : (List (Int × (List UInt8)))) (y1_0 : (Int × (List UInt8))) : Option Bool :=
  Option.bind (F_slices_IndexFunc_impl_Cue_impl_Cue__impl_areCues_1 x0 y1_0) fun u3 =>
  some (decide (0 ≤ u3))
def F_impl_areCues_L1 (x1 : (List (Int × (List UInt8)))) (u7 : Int) : Nat → Int → Option Bool
  | 0, _ => none
  | m + 1, y18 => (if (decide (y18 < (List.length x1 : Int))) = true then Option.bind (idx x1 y18) fun u27 =>
  jK1 (fun (y44 : Bool) => (if y44 = true then some false else Option.bind (sl x1 0 y18) fun u50 =>
  Option.bind (F_slices_ContainsFunc_impl_Cue_impl_Cue__impl_areCues_1 u50 u27) fun u53 =>
  (if u53 = true then some false else (F_impl_areCues_L1 x1 u7 m) ((w64 (y18 + 1)))))) (fun k45 => Option.bind (F_impl_within u27.1 0 (w64 (u7 - 1))) fun u66 =>
  (if (!u66) = true then k45 (true) else (if (decide (8 < (List.length u27.2 : Int))) = true then k45 (true) else Option.bind (F_impl_isName u27.2) fun u75 =>
  (if (!u75) = true then k45 (true) else (if (decide (0 < y18)) = true then Option.bind (idx x1 (w64 (y18 - 1))) fun u84 =>
  k45 ((decide (u27.1 ≤ u84.1))) else k45 (false)))))) else some true)
def F_impl_areCues (x0 : (List (Int × Int))) (x1 : (List (Int × (List UInt8)))) : Option Bool :=
  (if (decide (30 < (List.length x1 : Int))) = true then some false else Option.bind (F_impl_countsOf x0) fun u7 =>
  F_impl_areCues_L1 x1 u7 FU (0))
def F_impl_haveCues (x0 : (List (Int × Int))) (x1 : (List (Int × (List UInt8)))) : Option Bool :=
  jK1 (fun (y6 : Bool) => some y6) (fun k7 => Option.bind (F_impl_IsMusic x0) fun u9 =>
  (if u9 = true then Option.bind (F_impl_areCues x0 x1) fun u16 =>
  k7 (u16) else k7 (false)))
def F_impl_isTime (x0 : Int) : Option Bool :=
  Option.bind (F_impl_within x0 0 1000000) fun u3 =>
  some u3
def F_impl_timeOf_L1 (x0 : (List (Int × Int))) : Nat → Int → Int → Int → Option Int
  | 0, _, _, _ => none
  | m + 1, y8, y9, y10 => (if (decide (y10 < (List.length x0 : Int))) = true then Option.bind (idx x0 y10) fun u19 =>
  (if (decide (y8 < u19.1)) = true then (if u19.2 = 0 then none else some (w64 (y9 + (w64 (Int.tdiv (w64 (60000 * y8)) u19.2))))) else (if u19.2 = 0 then none else (F_impl_timeOf_L1 x0 m) ((w64 (y8 - u19.1))) ((w64 (y9 + (w64 (Int.tdiv (w64 (60000 * u19.1)) u19.2))))) ((w64 (y10 + 1))))) else some y9)
def F_impl_timeOf (x0 : (List (Int × Int))) (x1 : Int) : Option Int :=
  F_impl_timeOf_L1 x0 FU (x1) (0) (0)
def F_impl_cueTimes_L1 (x1 : (List (Int × (List UInt8)))) (x0 : (List (Int × Int))) : Nat → (List Int) → Int → Option (List Int)
  | 0, _, _ => none
  | m + 1, l14, y17 => (if (decide (y17 < (List.length x1 : Int))) = true then Option.bind (idx x1 y17) fun u26 =>
  Option.bind (F_impl_timeOf x0 u26.1) fun u38 =>
  Option.bind (app l14 [u38]) fun u50 =>
  (F_impl_cueTimes_L1 x1 x0 m) (u50) ((w64 (y17 + 1))) else some l14)
def F_impl_cueTimes (x0 : (List (Int × Int))) (x1 : (List (Int × (List UInt8)))) : Option (List Int) :=
  F_impl_cueTimes_L1 x1 x0 FU ([]) (0)
def F_impl_CuesBetween_L1 (u22 : (List Int)) (x2 : Int) (x3 : Int) : Nat → (List Int) → Int → Option ((List Int) × Bool)
  | 0, _, _ => none
  | m + 1, l33, y36 => (if (decide (y36 < (List.length u22 : Int))) = true then jK1 (fun (l47 : (List Int)) => (F_impl_CuesBetween_L1 u22 x2 x3 m) (l47) ((w64 (y36 + 1)))) (fun k50 => Option.bind (idx u22 y36) fun u53 =>
  jK1 (fun (y61 : Bool) => (if y61 = true then Option.bind (app l33 [y36]) fun u71 =>
  k50 (u71) else k50 (l33))) (fun k62 => (if (decide (x2 ≤ u53)) = true then k62 ((decide (u53 < x3))) else k62 (false)))) else some (l33, true))
def F_impl_CuesBetween (x0 : (List (Int × Int))) (x1 : (List (Int × (List UInt8)))) (x2 : Int) (x3 : Int) : Option ((List Int) × Bool) :=
  jK1 (fun (y7 : Bool) => (if y7 = true then some ([], false) else Option.bind (F_impl_cueTimes x0 x1) fun u22 =>
  F_impl_CuesBetween_L1 u22 x2 x3 FU ([]) (0))) (fun k8 => Option.bind (F_impl_haveCues x0 x1) fun u80 =>
  (if (!u80) = true then k8 (true) else Option.bind (F_impl_isTime x2) fun u87 =>
  (if (!u87) = true then k8 (true) else Option.bind (F_impl_isTime x3) fun u94 =>
  k8 ((!u94)))))
def F_laws_eqMeasure (x0 : (Int × Int)) (x1 : (Int × Int)) : Option Bool :=
  (if (x0.1 != x1.1) = true then some false else (if (x0.2 != x1.2) = true then some false else some true))
def F_laws_eqMeasureS_L1 (x0 : (List (Int × Int))) (x1 : (List (Int × Int))) : Nat → Int → Option Bool
  | 0, _ => none
  | m + 1, y11 => (if (decide (y11 < (List.length x0 : Int))) = true then Option.bind (idx x0 y11) fun u25 =>
  Option.bind (idx x1 y11) fun u28 =>
  Option.bind (F_laws_eqMeasure u25 u28) fun u31 =>
  (if (!u31) = true then some false else (F_laws_eqMeasureS_L1 x0 x1 m) ((w64 (y11 + 1)))) else some true)
def F_laws_eqMeasureS (x0 : (List (Int × Int))) (x1 : (List (Int × Int))) : Option Bool :=
  (if ((List.length x0 : Int) != (List.length x1 : Int)) = true then some false else F_laws_eqMeasureS_L1 x0 x1 FU (0))
def F_laws_eqCue (x0 : (Int × (List UInt8))) (x1 : (Int × (List UInt8))) : Option Bool :=
  (if (x0.1 != x1.1) = true then some false else (if (x0.2 != x1.2) = true then some false else some true))
def F_laws_eqCueS_L1 (x0 : (List (Int × (List UInt8)))) (x1 : (List (Int × (List UInt8)))) : Nat → Int → Option Bool
  | 0, _ => none
  | m + 1, y11 => (if (decide (y11 < (List.length x0 : Int))) = true then Option.bind (idx x0 y11) fun u25 =>
  Option.bind (idx x1 y11) fun u28 =>
  Option.bind (F_laws_eqCue u25 u28) fun u31 =>
  (if (!u31) = true then some false else (F_laws_eqCueS_L1 x0 x1 m) ((w64 (y11 + 1)))) else some true)
def F_laws_eqCueS (x0 : (List (Int × (List UInt8)))) (x1 : (List (Int × (List UInt8)))) : Option Bool :=
  (if ((List.length x0 : Int) != (List.length x1 : Int)) = true then some false else F_laws_eqCueS_L1 x0 x1 FU (0))
def F_laws_markMeasureS_L1  : Nat → (List (Int × Int)) → Int → Int → Option (Int × (List (Int × Int)))
  | 0, _, _, _ => none
  | m + 1, l7, y8, y9 => (if (decide (y9 < (List.length l7 : Int))) = true then Option.bind (idx l7 y9) fun u18 =>
  Option.bind (idx (seti l7 y9 (y8, u18.2)) y9) fun u28 =>
  (F_laws_markMeasureS_L1 m) ((seti (seti l7 y9 (y8, u18.2)) y9 (u28.1, (w64 (y8 + 1))))) ((w64 ((w64 (y8 + 1)) + 1))) ((w64 (y9 + 1))) else some (y8, l7))
def F_laws_markMeasureS (x0 : (List (Int × Int))) (x1 : Int) : Option (Int × (List (Int × Int))) :=
  F_laws_markMeasureS_L1 FU (x0) (x1) (0)
def F_laws_markText_L1  : Nat → Int → (List UInt8) → Option (List UInt8)
  | 0, _, _ => none
  | m + 1, y11, y12 => (if (decide (0 < y11)) = true then Option.bind (app (bytesOf [(wu8 (w64 (48 + (Int.tmod y11 10))))]) y12) fun u26 =>
  (F_laws_markText_L1 m) ((w64 (Int.tdiv y11 10))) (u26) else Option.bind (app [109] y12) fun u28 =>
  some u28)
def F_laws_markText (x0 : Int) : Option (List UInt8) :=
  (if (decide (x0 ≤ 0)) = true then some ([109, 48]) else F_laws_markText_L1 FU (x0) ([]))
def F_laws_markCueS_L1  : Nat → (List (Int × (List UInt8))) → Int → Int → Option (Int × (List (Int × (List UInt8))))
  | 0, _, _, _ => none
  | m + 1, l7, y8, y9 => (if (decide (y9 < (List.length l7 : Int))) = true then Option.bind (idx l7 y9) fun u18 =>
  Option.bind (F_laws_markText (w64 (y8 + 1))) fun u28 =>
  Option.bind (idx (seti l7 y9 (y8, u18.2)) y9) fun u34 =>
  (F_laws_markCueS_L1 m) ((seti (seti l7 y9 (y8, u18.2)) y9 (u34.1, u28))) ((w64 ((w64 (y8 + 1)) + 1))) ((w64 (y9 + 1))) else some (y8, l7))
def F_laws_markCueS (x0 : (List (Int × (List UInt8)))) (x1 : Int) : Option (Int × (List (Int × (List UInt8)))) :=
  F_laws_markCueS_L1 FU (x0) (x1) (0)
def F_laws_FnExactCuesBetween (x0 : (List (Int × Int))) (x1 : (List (Int × (List UInt8)))) (x2 : Int) (x3 : Int) : Option Bool :=
  Option.bind (F_laws_szMeasureS x0 1048576) fun u4 =>
  (if (decide (u4 < 0)) = true then some true else Option.bind (F_laws_szCueS x1 u4) fun u15 =>
  (if (decide (u15 < 0)) = true then some true else Option.bind (F_laws_toMeasureS x0) fun u26 =>
  Option.bind (F_laws_toCueS x1) fun u34 =>
  Option.bind (F_spec_CuesBetween u26 u34 x2 x3) fun u42 =>
  Option.bind (F_laws_toMeasureS x0) fun u51 =>
  Option.bind (F_laws_toCueS x1) fun u60 =>
  Option.bind (F_impl_CuesBetween u51 u60 x2 x3) fun u69 =>
  jK1 (fun (y82 : Bool) => (if y82 = true then some false else Option.bind (F_laws_toMeasureS x0) fun u89 =>
  Option.bind (F_laws_eqMeasureS u51 u89) fun u97 =>
  (if (!u97) = true then some false else Option.bind (F_laws_toCueS x1) fun u107 =>
  Option.bind (F_laws_eqCueS u60 u107) fun u115 =>
  (if (!u115) = true then some false else Option.bind (F_laws_markMeasureS u51 1) fun u125 =>
  Option.bind (F_laws_markCueS u60 u125.1) fun u132 =>
  jK1 (fun (y143 : Bool) => (if y143 = true then some false else Option.bind (F_laws_markIntS u69.1 1) fun u150 =>
  Option.bind (F_laws_heldIntS u150.2 1) fun u158 =>
  (if (decide (u158 < 0)) = true then some false else (if (u158 != u150.1) = true then some false else Option.bind (F_laws_toMeasureS x0) fun u173 =>
  Option.bind (F_laws_toCueS x1) fun u181 =>
  Option.bind (F_impl_CuesBetween u173 u181 x2 x3) fun u189 =>
  jK1 (fun (y202 : Bool) => (if y202 = true then some false else Option.bind (F_laws_heldIntS u150.2 1) fun u209 =>
  (if (decide (u209 < 0)) = true then some false else (if (u209 != u150.1) = true then some false else some true)))) (fun k203 => Option.bind (F_laws_eqIntS u189.1 u42.1) fun u224 =>
  (if (!u224) = true then k203 (true) else k203 ((u189.2 != u42.2)))))))) (fun k144 => (if (decide (u132.1 < 0)) = true then k144 (true) else Option.bind (F_laws_eqIntS u69.1 u42.1) fun u232 =>
  (if (!u232) = true then k144 (true) else k144 ((u69.2 != u42.2))))))))) (fun k83 => Option.bind (F_laws_eqIntS u69.1 u42.1) fun u239 =>
  (if (!u239) = true then k83 (true) else k83 ((u69.2 != u42.2))))))
def F_laws_szMarch (x0 : (((List (List (Int × Int))) × (List Int) × Int × Int) × Int × (List Int) × (List Int))) (x1 : Int) : Option Int :=
  Option.bind (F_laws_szShow x0.1 x1) fun u8 =>
  (if (decide (u8 < 0)) = true then some (-1) else Option.bind (F_laws_szIntS x0.2.2.1 u8) fun u19 =>
  (if (decide (u19 < 0)) = true then some (-1) else Option.bind (F_laws_szIntS x0.2.2.2 u19) fun u30 =>
  (if (decide (u30 < 0)) = true then some (-1) else some u30)))
def F_laws_toMarch (x0 : (((List (List (Int × Int))) × (List Int) × Int × Int) × Int × (List Int) × (List Int))) : Option (((List (List (Int × Int))) × (List Int) × Int × Int) × Int × (List Int) × (List Int)) :=
  Option.bind (F_laws_toShow x0.1) fun u19 =>
  Option.bind (F_laws_toIntS x0.2.2.1) fun u39 =>
  Option.bind (F_laws_toIntS x0.2.2.2) fun u52 =>
  some (u19, x0.2.1, u39, u52)
def F_spec_l1Rising_L1 (x0 : (List Int)) (x1 : Int) (x2 : Int) : Nat → Int → Option Bool
  | 0, _ => none
  | m + 1, y7 => (if (decide (y7 < (List.length x0 : Int))) = true then Option.bind (idx x0 y7) fun u16 =>
  jK1 (fun (y23 : Bool) => (if y23 = true then some false else (F_spec_l1Rising_L1 x0 x1 x2 m) ((w64 (y7 + 1))))) (fun k24 => Option.bind (F_spec_l1In u16 x1 x2) fun u28 =>
  (if (!u28) = true then k24 (true) else (if (decide (0 < y7)) = true then Option.bind (idx x0 (w64 (y7 - 1))) fun u36 =>
  k24 ((decide (u16 ≤ u36))) else k24 (false)))) else some true)
def F_spec_l1Rising (x0 : (List Int)) (x1 : Int) (x2 : Int) : Option Bool :=
  F_spec_l1Rising_L1 x0 x1 x2 FU (0)
def F_spec_mnGood (x0 : (((List (List (Int × Int))) × (List Int) × Int × Int) × Int × (List Int) × (List Int))) : Option Bool :=
  jK1 (fun (y12 : Bool) => (if y12 = true then some false else Option.bind (idx x0.1.1 0) fun u18 =>
  jK1 (fun (y27 : Bool) => some y27) (fun k28 => Option.bind (F_spec_l1Rising x0.2.2.1 0 (w64 ((List.length u18 : Int) - 1))) fun u30 =>
  (if u30 = true then (if ((List.length x0.2.2.2 : Int) == (List.length u18 : Int)) = true then Option.bind (F_spec_l1All x0.2.2.2 0 x0.2.1) fun u38 =>
  k28 (u38) else k28 (false)) else k28 (false))))) (fun k13 => Option.bind (F_spec_swGood x0.1) fun u44 =>
  (if (!u44) = true then k13 (true) else Option.bind (F_spec_l1In x0.2.1 0 1000) fun u51 =>
  k13 ((!u51))))
def F_spec_MostBehind_L1 (x0 : (((List (List (Int × Int))) × (List Int) × Int × Int) × Int × (List Int) × (List Int))) : Nat → Int → Int → Option (Int × Bool)
  | 0, _, _ => none
  | m + 1, y23, y24 => (if (decide (y24 < (List.length x0.2.2.2 : Int))) = true then jK1 (fun (y35 : Int) => (F_spec_MostBehind_L1 x0 m) (y35) ((w64 (y24 + 1)))) (fun k36 => Option.bind (idx x0.2.2.2 y24) fun u39 =>
  Option.bind (idx x0.2.2.2 y23) fun u43 =>
  (if (decide (u43 < u39)) = true then k36 (y24) else k36 (y23))) else some (y23, true))
def F_spec_MostBehind (x0 : (((List (List (Int × Int))) × (List Int) × Int × Int) × Int × (List Int) × (List Int))) : Option (Int × Bool) :=
  Option.bind (F_spec_mnGood x0) fun u9 =>
  (if (!u9) = true then some (0, false) else F_spec_MostBehind_L1 x0 FU (0) (0))
def F_impl_arePerformers_L1 (x0 : (List Int)) (x1 : Int) : Nat → Int → Option Bool
  | 0, _ => none
  | m + 1, y7 => (if (decide (y7 < (List.length x0 : Int))) = true then Option.bind (idx x0 y7) fun u16 =>
  jK1 (fun (y23 : Bool) => (if y23 = true then some false else (F_impl_arePerformers_L1 x0 x1 m) ((w64 (y7 + 1))))) (fun k24 => Option.bind (F_impl_within u16 0 (w64 (x1 - 1))) fun u28 =>
  (if (!u28) = true then k24 (true) else (if (decide (0 < y7)) = true then Option.bind (idx x0 (w64 (y7 - 1))) fun u36 =>
  k24 ((decide (u16 ≤ u36))) else k24 (false)))) else some true)
def F_impl_arePerformers (x0 : (List Int)) (x1 : Int) : Option Bool :=
  F_impl_arePerformers_L1 x0 x1 FU (0)
def F_impl_IsMarch_L1 (x0 : (((List (List (Int × Int))) × (List Int) × Int × Int) × Int × (List Int) × (List Int))) : Nat → Int → Option Bool
  | 0, _ => none
  | m + 1, y22 => (if (decide (y22 < (List.length x0.2.2.2 : Int))) = true then Option.bind (idx x0.2.2.2 y22) fun u31 =>
  Option.bind (F_impl_within u31 0 x0.2.1) fun u35 =>
  (if (!u35) = true then some false else (F_impl_IsMarch_L1 x0 m) ((w64 (y22 + 1)))) else some true)
def F_impl_IsMarch (x0 : (((List (List (Int × Int))) × (List Int) × Int × Int) × Int × (List Int) × (List Int))) : Option Bool :=
  jK1 (fun (y12 : Bool) => (if y12 = true then some false else F_impl_IsMarch_L1 x0 FU (0))) (fun k13 => Option.bind (F_impl_IsShow x0.1) fun u49 =>
  (if (!u49) = true then k13 (true) else Option.bind (F_impl_within x0.2.1 0 1000) fun u57 =>
  (if (!u57) = true then k13 (true) else Option.bind (idx x0.1.1 0) fun u65 =>
  Option.bind (F_impl_arePerformers x0.2.2.1 (List.length u65 : Int)) fun u70 =>
  (if (!u70) = true then k13 (true) else Option.bind (idx x0.1.1 0) fun u78 =>
  k13 (((List.length x0.2.2.2 : Int) != (List.length u78 : Int)))))))
def F_impl_MostBehind_L1 (x0 : (((List (List (Int × Int))) × (List Int) × Int × Int) × Int × (List Int) × (List Int))) : Nat → Int → Int → Option (Int × Bool)
  | 0, _, _ => none
  | m + 1, y23, y24 => (if (decide (y24 < (List.length x0.2.2.2 : Int))) = true then jK1 (fun (y35 : Int) => (F_impl_MostBehind_L1 x0 m) (y35) ((w64 (y24 + 1)))) (fun k36 => Option.bind (idx x0.2.2.2 y24) fun u39 =>
  Option.bind (idx x0.2.2.2 y23) fun u43 =>
  (if (decide (u43 < u39)) = true then k36 (y24) else k36 (y23))) else some (y23, true))
def F_impl_MostBehind (x0 : (((List (List (Int × Int))) × (List Int) × Int × Int) × Int × (List Int) × (List Int))) : Option (Int × Bool) :=
  Option.bind (F_impl_IsMarch x0) fun u9 =>
  (if (!u9) = true then some (0, false) else F_impl_MostBehind_L1 x0 FU (0) (0))
def F_laws_eqMarch (x0 : (((List (List (Int × Int))) × (List Int) × Int × Int) × Int × (List Int) × (List Int))) (x1 : (((List (List (Int × Int))) × (List Int) × Int × Int) × Int × (List Int) × (List Int))) : Option Bool :=
  Option.bind (F_laws_eqShow x0.1 x1.1) fun u14 =>
  (if (!u14) = true then some false else (if (x0.2.1 != x1.2.1) = true then some false else Option.bind (F_laws_eqIntS x0.2.2.1 x1.2.2.1) fun u28 =>
  (if (!u28) = true then some false else Option.bind (F_laws_eqIntS x0.2.2.2 x1.2.2.2) fun u38 =>
  (if (!u38) = true then some false else some true))))
def F_laws_FnExactMostBehind (x0 : (((List (List (Int × Int))) × (List Int) × Int × Int) × Int × (List Int) × (List Int))) : Option Bool :=
  Option.bind (F_laws_szMarch x0 1048576) fun u9 =>
  (if (decide (u9 < 0)) = true then some true else Option.bind (F_laws_toMarch x0) fun u20 =>
  Option.bind (F_spec_MostBehind u20) fun u34 =>
  Option.bind (F_laws_toMarch x0) fun u41 =>
  Option.bind (F_impl_MostBehind u41) fun u65 =>
  jK1 (fun (y76 : Bool) => (if y76 = true then some false else Option.bind (F_laws_toMarch x0) fun u88 =>
  Option.bind (F_laws_eqMarch u41 u88) fun u107 =>
  (if (!u107) = true then some false else some true))) (fun k77 => (if (u65.1 != u34.1) = true then k77 (true) else k77 ((u65.2 != u34.2)))))
def F_spec_chOwn (x0 : (List (Int × Int))) : Option (List (Int × Int)) :=
  Option.bind (app [] x0) fun u9 =>
  some u9
def F_spec_ReverseShow_L2 (x0 : ((List (List (Int × Int))) × (List Int) × Int × Int)) (l43 : (List (List (Int × Int)))) : Nat → (List Int) → Int → Option (((List (List (Int × Int))) × (List Int) × Int × Int) × Bool)
  | 0, _, _ => none
  | m + 1, l175, y178 => (if (decide (0 ≤ y178)) = true then jK1 (fun (l190 : (List Int)) => (F_spec_ReverseShow_L2 x0 l43 m) (l190) ((w64 (y178 - 1)))) (fun k193 => Option.bind (idx x0.2.1 y178) fun u200 =>
  Option.bind (app l175 [u200]) fun u214 =>
  k193 (u214)) else some ((l43, l175, x0.2.2.1, x0.2.2.2), true))
def F_spec_ReverseShow_L1 (x0 : ((List (List (Int × Int))) × (List Int) × Int × Int)) : Nat → (List (List (Int × Int))) → Int → Option (((List (List (Int × Int))) × (List Int) × Int × Int) × Bool)
  | 0, _, _ => none
  | m + 1, l43, y46 => (if (decide (0 ≤ y46)) = true then jK1 (fun (l58 : (List (List (Int × Int)))) => (F_spec_ReverseShow_L1 x0 m) (l58) ((w64 (y46 - 1)))) (fun k61 => Option.bind (idx x0.1 y46) fun u68 =>
  Option.bind (F_spec_chOwn u68) fun u73 =>
  Option.bind (app l43 [u73]) fun u96 =>
  k61 (u96)) else F_spec_ReverseShow_L2 x0 l43 FU ([]) ((w64 ((List.length x0.2.1 : Int) - 1))))
def F_spec_ReverseShow (x0 : ((List (List (Int × Int))) × (List Int) × Int × Int)) : Option (((List (List (Int × Int))) × (List Int) × Int × Int) × Bool) :=
  Option.bind (F_spec_swGood x0) fun u14 =>
  (if (!u14) = true then some (([], [], 0, 0), false) else F_spec_ReverseShow_L1 x0 FU ([]) ((w64 ((List.length x0.1 : Int) - 1))))
def F_impl_copyInts (x0 : (List Int)) : Option (List Int) :=
  Option.bind (app [] x0) fun u9 =>
  some u9
def F_impl_copyShow_L1 (x0 : ((List (List (Int × Int))) × (List Int) × Int × Int)) (l20 : (List Int)) (y23 : Int) (y24 : Int) : Nat → (List (List (Int × Int))) → Int → Option ((List (List (Int × Int))) × (List Int) × Int × Int)
  | 0, _, _ => none
  | m + 1, l32, y35 => (if (decide (y35 < (List.length x0.1 : Int))) = true then jK1 (fun (l46 : (List (List (Int × Int)))) => (F_impl_copyShow_L1 x0 l20 y23 y24 m) (l46) ((w64 (y35 + 1)))) (fun k49 => Option.bind (idx x0.1 y35) fun u52 =>
  Option.bind (app [] u52) fun u74 =>
  Option.bind (app l32 [u74]) fun u94 =>
  k49 (u94)) else some (l32, l20, y23, y24))
def F_impl_copyShow (x0 : ((List (List (Int × Int))) × (List Int) × Int × Int)) : Option ((List (List (Int × Int))) × (List Int) × Int × Int) :=
  jK4 (fun (l17 : (List (List (Int × Int)))) (l20 : (List Int)) (y23 : Int) (y24 : Int) => F_impl_copyShow_L1 x0 l20 y23 y24 FU (l17) (0)) (fun k25 => Option.bind (F_impl_copyInts x0.2.1) fun u228 =>
  k25 ([]) (u228) (x0.2.2.1) (x0.2.2.2))
def F_slices_Reverse_impl_Spot_impl_Spot__mut__raw_L1  : Nat → (List RawCell) → Int → Int → Option (List RawCell)
  | 0, _, _, _ => none
  | m + 1, l5, y6, y7 => (if (decide (y6 < y7)) = true then jK1 (fun (l18 : (List RawCell)) => (F_slices_Reverse_impl_Spot_impl_Spot__mut__raw_L1 m) (l18) ((w64 (y6 + 1))) ((w64 (y7 - 1)))) (fun k19 => Option.bind (idx l5 y7) fun u26 =>
  Option.bind (idx l5 y6) fun u30 =>
  Option.bind (idx l5 y6) fun u34 =>
  Option.bind (idx (seti l5 y6 u26) y7) fun u43 =>
  k19 ((seti (seti l5 y6 u26) y7 u30))) else some l5)
def F_slices_Reverse_impl_Spot_impl_Spot__mut__raw (x0 : (List RawCell)) : Option (List RawCell) :=
  F_slices_Reverse_impl_Spot_impl_Spot__mut__raw_L1 FU (x0) (0) ((w64 ((List.length x0 : Int) - 1)))
def F_slices_Reverse_int_int__mut_L1  : Nat → (List Int) → Int → Int → Option (List Int)
  | 0, _, _, _ => none
  | m + 1, l5, y6, y7 => (if (decide (y6 < y7)) = true then jK1 (fun (l18 : (List Int)) => (F_slices_Reverse_int_int__mut_L1 m) (l18) ((w64 (y6 + 1))) ((w64 (y7 - 1)))) (fun k19 => Option.bind (idx l5 y7) fun u26 =>
  Option.bind (idx l5 y6) fun u30 =>
  Option.bind (idx l5 y6) fun u34 =>
  Option.bind (idx (seti l5 y6 u26) y7) fun u43 =>
  k19 ((seti (seti l5 y6 u26) y7 u30))) else some l5)
def F_slices_Reverse_int_int__mut (x0 : (List Int)) : Option (List Int) :=
  F_slices_Reverse_int_int__mut_L1 FU (x0) (0) ((w64 ((List.length x0 : Int) - 1)))
def F_impl_ReverseShow (x0 : ((List (List (Int × Int))) × (List Int) × Int × Int)) : Option (((List (List (Int × Int))) × (List Int) × Int × Int) × Bool) :=
  Option.bind (F_impl_IsShow x0) fun u14 =>
  (if (!u14) = true then some (([], [], 0, 0), false) else Option.bind (F_impl_copyShow x0) fun u29 =>
  Option.bind (F_slices_Reverse_int_int__mut u29.2.1) fun u65 =>
  some (((List.reverse u29.1), u65, u29.2.2.1, u29.2.2.2), true))
def F_laws_heldSpotS_L1 (x0 : (List (Int × Int))) : Nat → Int → Int → Option Int
  | 0, _, _ => none
  | m + 1, y7, y8 => (if (decide (y8 < (List.length x0 : Int))) = true then Option.bind (idx x0 y8) fun u18 =>
  (if (u18.1 != y7) = true then some (-1) else Option.bind (idx x0 y8) fun u26 =>
  (if (u26.2 != (w64 (y7 + 1))) = true then some (-1) else (F_laws_heldSpotS_L1 x0 m) ((w64 ((w64 (y7 + 1)) + 1))) ((w64 (y8 + 1))))) else some y7)
def F_laws_heldSpotS (x0 : (List (Int × Int))) (x1 : Int) : Option Int :=
  F_laws_heldSpotS_L1 x0 FU (x1) (0)
def F_laws_heldSpotSS_L1 (x0 : (List (List (Int × Int)))) : Nat → Int → Int → Option Int
  | 0, _, _ => none
  | m + 1, y7, y8 => (if (decide (y8 < (List.length x0 : Int))) = true then Option.bind (idx x0 y8) fun u17 =>
  Option.bind (F_laws_heldSpotS u17 y7) fun u22 =>
  (if (decide (u22 < 0)) = true then some (-1) else (F_laws_heldSpotSS_L1 x0 m) (u22) ((w64 (y8 + 1)))) else some y7)
def F_laws_heldSpotSS (x0 : (List (List (Int × Int)))) (x1 : Int) : Option Int :=
  F_laws_heldSpotSS_L1 x0 FU (x1) (0)
def F_laws_heldShow (x0 : ((List (List (Int × Int))) × (List Int) × Int × Int)) (x1 : Int) : Option Int :=
  Option.bind (F_laws_heldSpotSS x0.1 x1) fun u8 =>
  (if (decide (u8 < 0)) = true then some (-1) else Option.bind (F_laws_heldIntS x0.2.1 u8) fun u19 =>
  (if (decide (u19 < 0)) = true then some (-1) else some u19))
def F_laws_FnExactReverseShow (x0 : ((List (List (Int × Int))) × (List Int) × Int × Int)) : Option Bool :=
  Option.bind (F_laws_szShow x0 1048576) fun u9 =>
  (if (decide (u9 < 0)) = true then some true else Option.bind (F_laws_toShow x0) fun u20 =>
  Option.bind (F_spec_ReverseShow u20) fun u30 =>
  Option.bind (F_laws_toShow x0) fun u50 =>
  Option.bind (F_impl_ReverseShow u50) fun u70 =>
  jK1 (fun (y94 : Bool) => (if y94 = true then some false else Option.bind (F_laws_toShow x0) fun u106 =>
  Option.bind (F_laws_eqShow u50 u106) fun u119 =>
  (if (!u119) = true then some false else Option.bind (F_laws_markShow u50 1) fun u130 =>
  jK1 (fun (y141 : Bool) => (if y141 = true then some false else Option.bind (F_laws_markShow u70.1 1) fun u148 =>
  Option.bind (F_laws_heldShow (u148.2.1, u148.2.2.1, u70.1.2.2.1, u70.1.2.2.2) 1) fun u156 =>
  (if (decide (u156 < 0)) = true then some false else (if (u156 != u148.1) = true then some false else Option.bind (F_laws_toShow x0) fun u171 =>
  Option.bind (F_impl_ReverseShow u171) fun u181 =>
  jK1 (fun (y205 : Bool) => (if y205 = true then some false else Option.bind (F_laws_heldShow (u148.2.1, u148.2.2.1, u70.1.2.2.1, u70.1.2.2.2) 1) fun u212 =>
  (if (decide (u212 < 0)) = true then some false else (if (u212 != u148.1) = true then some false else some true)))) (fun k206 => Option.bind (F_laws_eqShow u181.1 u30.1) fun u227 =>
  (if (!u227) = true then k206 (true) else k206 ((u181.2 != u30.2)))))))) (fun k142 => (if (decide (u130.1 < 0)) = true then k142 (true) else Option.bind (F_laws_eqShow u70.1 u30.1) fun u235 =>
  (if (!u235) = true then k142 (true) else k142 ((u70.2 != u30.2)))))))) (fun k95 => Option.bind (F_laws_eqShow u70.1 u30.1) fun u242 =>
  (if (!u242) = true then k95 (true) else k95 ((u70.2 != u30.2)))))
def F_spec_l1Own (x0 : (List Int)) : Option (List Int) :=
  Option.bind (app [] x0) fun u9 =>
  some u9
def F_spec_swOwn_L1 (x0 : ((List (List (Int × Int))) × (List Int) × Int × Int)) (l17 : (List Int)) (y20 : Int) (y21 : Int) : Nat → (List (List (Int × Int))) → Int → Option ((List (List (Int × Int))) × (List Int) × Int × Int)
  | 0, _, _ => none
  | m + 1, l29, y32 => (if (decide (y32 < (List.length x0.1 : Int))) = true then jK1 (fun (l44 : (List (List (Int × Int)))) => (F_spec_swOwn_L1 x0 l17 y20 y21 m) (l44) ((w64 (y32 + 1)))) (fun k47 => Option.bind (idx x0.1 y32) fun u50 =>
  Option.bind (F_spec_chOwn u50) fun u60 =>
  Option.bind (app l29 [u60]) fun u83 =>
  k47 (u83)) else some (l29, l17, y20, y21))
def F_spec_swOwn (x0 : ((List (List (Int × Int))) × (List Int) × Int × Int)) : Option ((List (List (Int × Int))) × (List Int) × Int × Int) :=
  jK3 (fun (l17 : (List Int)) (y20 : Int) (y21 : Int) => F_spec_swOwn_L1 x0 l17 y20 y21 FU ([]) (0)) (fun k22 => Option.bind (F_spec_l1Own x0.2.1) fun u167 =>
  k22 (u167) (x0.2.2.1) (x0.2.2.2))
def F_spec_swIf__take (x0 : ((List (List (Int × Int))) × (List Int) × Int × Int)) : Option (((List (List (Int × Int))) × (List Int) × Int × Int) × Bool) :=
  Option.bind (F_spec_swGood x0) fun u14 =>
  (if (!u14) = true then some (([], [], 0, 0), false) else some (x0, true))
def F_spec_AddShowChart (x0 : ((List (List (Int × Int))) × (List Int) × Int × Int)) (x1 : (List (Int × Int))) (x2 : Int) : Option (((List (List (Int × Int))) × (List Int) × Int × Int) × Bool) :=
  Option.bind (F_spec_swGood x0) fun u14 =>
  (if (!u14) = true then some (([], [], 0, 0), false) else Option.bind (F_spec_swOwn x0) fun u29 =>
  jK1 (fun (l52 : (List (List (Int × Int)))) => Option.bind (app u29.2.1 [x2]) fun u64 =>
  Option.bind (F_spec_swIf__take (l52, u64, u29.2.2.1, u29.2.2.2)) fun u76 =>
  some u76) (fun k55 => Option.bind (F_spec_chOwn x1) fun u95 =>
  Option.bind (app u29.1 [u95]) fun u118 =>
  k55 (u118)))
def F_impl_asShow__take (x0 : ((List (List (Int × Int))) × (List Int) × Int × Int)) : Option (((List (List (Int × Int))) × (List Int) × Int × Int) × Bool) :=
  Option.bind (F_impl_IsShow x0) fun u14 =>
  (if (!u14) = true then some (([], [], 0, 0), false) else some (x0, true))
def F_impl_AddShowChart (x0 : ((List (List (Int × Int))) × (List Int) × Int × Int)) (x1 : (List (Int × Int))) (x2 : Int) : Option (((List (List (Int × Int))) × (List Int) × Int × Int) × Bool) :=
  Option.bind (F_impl_IsShow x0) fun u14 =>
  (if (!u14) = true then some (([], [], 0, 0), false) else Option.bind (F_impl_copyShow x0) fun u29 =>
  jK1 (fun (l52 : (List (List (Int × Int)))) => Option.bind (app u29.2.1 [x2]) fun u64 =>
  Option.bind (F_impl_asShow__take (l52, u64, u29.2.2.1, u29.2.2.2)) fun u76 =>
  some u76) (fun k55 => Option.bind (app [] x1) fun u106 =>
  Option.bind (app u29.1 [u106]) fun u126 =>
  k55 (u126)))
def F_laws_FnExactAddShowChart (x0 : ((List (List (Int × Int))) × (List Int) × Int × Int)) (x1 : (List (Int × Int))) (x2 : Int) : Option Bool :=
  Option.bind (F_laws_szShow x0 1048576) fun u9 =>
  (if (decide (u9 < 0)) = true then some true else Option.bind (F_laws_szSpotS x1 u9) fun u20 =>
  (if (decide (u20 < 0)) = true then some true else Option.bind (F_laws_toShow x0) fun u31 =>
  Option.bind (F_laws_toSpotS x1) fun u41 =>
  Option.bind (F_spec_AddShowChart u31 u41 x2) fun u49 =>
  Option.bind (F_laws_toShow x0) fun u70 =>
  Option.bind (F_laws_toSpotS x1) fun u90 =>
  Option.bind (F_impl_AddShowChart u70 u90 x2) fun u99 =>
  jK1 (fun (y123 : Bool) => (if y123 = true then some false else Option.bind (F_laws_toShow x0) fun u135 =>
  Option.bind (F_laws_eqShow u70 u135) fun u148 =>
  (if (!u148) = true then some false else Option.bind (F_laws_toSpotS x1) fun u159 =>
  Option.bind (F_laws_eqSpotS u90 u159) fun u167 =>
  (if (!u167) = true then some false else Option.bind (F_laws_markShow u70 1) fun u177 =>
  Option.bind (F_laws_markSpotS u90 u177.1) fun u184 =>
  jK1 (fun (y195 : Bool) => (if y195 = true then some false else Option.bind (F_laws_markShow u99.1 1) fun u202 =>
  Option.bind (F_laws_heldShow (u202.2.1, u202.2.2.1, u99.1.2.2.1, u99.1.2.2.2) 1) fun u210 =>
  (if (decide (u210 < 0)) = true then some false else (if (u210 != u202.1) = true then some false else Option.bind (F_laws_toShow x0) fun u225 =>
  Option.bind (F_laws_toSpotS x1) fun u235 =>
  Option.bind (F_impl_AddShowChart u225 u235 x2) fun u243 =>
  jK1 (fun (y267 : Bool) => (if y267 = true then some false else Option.bind (F_laws_heldShow (u202.2.1, u202.2.2.1, u99.1.2.2.1, u99.1.2.2.2) 1) fun u274 =>
  (if (decide (u274 < 0)) = true then some false else (if (u274 != u202.1) = true then some false else some true)))) (fun k268 => Option.bind (F_laws_eqShow u243.1 u49.1) fun u289 =>
  (if (!u289) = true then k268 (true) else k268 ((u243.2 != u49.2)))))))) (fun k196 => (if (decide (u184.1 < 0)) = true then k196 (true) else Option.bind (F_laws_eqShow u99.1 u49.1) fun u297 =>
  (if (!u297) = true then k196 (true) else k196 ((u99.2 != u49.2))))))))) (fun k124 => Option.bind (F_laws_eqShow u99.1 u49.1) fun u304 =>
  (if (!u304) = true then k124 (true) else k124 ((u99.2 != u49.2))))))
def F_spec_StretchShow (x0 : ((List (List (Int × Int))) × (List Int) × Int × Int)) (x1 : Int) (x2 : Int) : Option (((List (List (Int × Int))) × (List Int) × Int × Int) × Bool) :=
  Option.bind (F_spec_swHas x0 x1) fun u14 =>
  (if (!u14) = true then some (([], [], 0, 0), false) else Option.bind (F_spec_swOwn x0) fun u29 =>
  Option.bind (idx u29.2.1 x1) fun u49 =>
  Option.bind (F_spec_swIf__take (u29.1, (seti u29.2.1 x1 x2), u29.2.2.1, u29.2.2.2)) fun u58 =>
  some u58)
def F_impl_StretchShow (x0 : ((List (List (Int × Int))) × (List Int) × Int × Int)) (x1 : Int) (x2 : Int) : Option (((List (List (Int × Int))) × (List Int) × Int × Int) × Bool) :=
  Option.bind (F_impl_isPart x0 x1) fun u14 =>
  (if (!u14) = true then some (([], [], 0, 0), false) else Option.bind (F_impl_copyShow x0) fun u29 =>
  Option.bind (idx u29.2.1 x1) fun u49 =>
  Option.bind (F_impl_asShow__take (u29.1, (seti u29.2.1 x1 x2), u29.2.2.1, u29.2.2.2)) fun u58 =>
  some u58)
def F_laws_FnExactStretchShow (x0 : ((List (List (Int × Int))) × (List Int) × Int × Int)) (x1 : Int) (x2 : Int) : Option Bool :=
  Option.bind (F_laws_szShow x0 1048576) fun u9 =>
  (if (decide (u9 < 0)) = true then some true else Option.bind (F_laws_toShow x0) fun u20 =>
  Option.bind (F_spec_StretchShow u20 x1 x2) fun u30 =>
  Option.bind (F_laws_toShow x0) fun u50 =>
  Option.bind (F_impl_StretchShow u50 x1 x2) fun u70 =>
  jK1 (fun (y94 : Bool) => (if y94 = true then some false else Option.bind (F_laws_toShow x0) fun u106 =>
  Option.bind (F_laws_eqShow u50 u106) fun u119 =>
  (if (!u119) = true then some false else Option.bind (F_laws_markShow u50 1) fun u130 =>
  jK1 (fun (y141 : Bool) => (if y141 = true then some false else Option.bind (F_laws_markShow u70.1 1) fun u148 =>
  Option.bind (F_laws_heldShow (u148.2.1, u148.2.2.1, u70.1.2.2.1, u70.1.2.2.2) 1) fun u156 =>
  (if (decide (u156 < 0)) = true then some false else (if (u156 != u148.1) = true then some false else Option.bind (F_laws_toShow x0) fun u171 =>
  Option.bind (F_impl_StretchShow u171 x1 x2) fun u181 =>
  jK1 (fun (y205 : Bool) => (if y205 = true then some false else Option.bind (F_laws_heldShow (u148.2.1, u148.2.2.1, u70.1.2.2.1, u70.1.2.2.2) 1) fun u212 =>
  (if (decide (u212 < 0)) = true then some false else (if (u212 != u148.1) = true then some false else some true)))) (fun k206 => Option.bind (F_laws_eqShow u181.1 u30.1) fun u227 =>
  (if (!u227) = true then k206 (true) else k206 ((u181.2 != u30.2)))))))) (fun k142 => (if (decide (u130.1 < 0)) = true then k142 (true) else Option.bind (F_laws_eqShow u70.1 u30.1) fun u235 =>
  (if (!u235) = true then k142 (true) else k142 ((u70.2 != u30.2)))))))) (fun k95 => Option.bind (F_laws_eqShow u70.1 u30.1) fun u242 =>
  (if (!u242) = true then k95 (true) else k95 ((u70.2 != u30.2)))))
def F_spec_ShowMoves (x0 : ((List (List (Int × Int))) × (List Int) × Int × Int)) (x1 : Int) : Option ((List ((Int × Int) × (Int × Int) × Int)) × Bool) :=
  Option.bind (F_spec_swHas x0 x1) fun u9 =>
  (if (!u9) = true then some ([], false) else Option.bind (F_spec_swMoves x0 x1) fun u19 =>
  some (u19, true))
def F_impl_ShowMoves (x0 : ((List (List (Int × Int))) × (List Int) × Int × Int)) (x1 : Int) : Option ((List ((Int × Int) × (Int × Int) × Int)) × Bool) :=
  Option.bind (F_impl_isPart x0 x1) fun u9 =>
  (if (!u9) = true then some ([], false) else Option.bind (F_impl_showMoves x0 x1) fun u19 =>
  some (u19, true))
def F_laws_eqMove (x0 : ((Int × Int) × (Int × Int) × Int)) (x1 : ((Int × Int) × (Int × Int) × Int)) : Option Bool :=
  Option.bind (F_laws_eqSpot x0.1 x1.1) fun u14 =>
  (if (!u14) = true then some false else Option.bind (F_laws_eqSpot x0.2.1 x1.2.1) fun u24 =>
  (if (!u24) = true then some false else (if (x0.2.2 != x1.2.2) = true then some false else some true)))
def F_laws_eqMoveS_L1 (x0 : (List ((Int × Int) × (Int × Int) × Int))) (x1 : (List ((Int × Int) × (Int × Int) × Int))) : Nat → Int → Option Bool
  | 0, _ => none
  | m + 1, y11 => (if (decide (y11 < (List.length x0 : Int))) = true then Option.bind (idx x0 y11) fun u25 =>
  Option.bind (idx x1 y11) fun u28 =>
  Option.bind (F_laws_eqMove u25 u28) fun u31 =>
  (if (!u31) = true then some false else (F_laws_eqMoveS_L1 x0 x1 m) ((w64 (y11 + 1)))) else some true)
def F_laws_eqMoveS (x0 : (List ((Int × Int) × (Int × Int) × Int))) (x1 : (List ((Int × Int) × (Int × Int) × Int))) : Option Bool :=
  (if ((List.length x0 : Int) != (List.length x1 : Int)) = true then some false else F_laws_eqMoveS_L1 x0 x1 FU (0))
def F_laws_markMoveS_L1  : Nat → (List ((Int × Int) × (Int × Int) × Int)) → Int → Int → Option (Int × (List ((Int × Int) × (Int × Int) × Int)))
  | 0, _, _, _ => none
  | m + 1, l7, y8, y9 => (if (decide (y9 < (List.length l7 : Int))) = true then Option.bind (idx l7 y9) fun u18 =>
  Option.bind (idx (seti l7 y9 ((y8, u18.1.2), u18.2.1, u18.2.2)) y9) fun u28 =>
  Option.bind (idx (seti (seti l7 y9 ((y8, u18.1.2), u18.2.1, u18.2.2)) y9 ((u28.1.1, (w64 (y8 + 1))), u28.2.1, u28.2.2)) y9) fun u38 =>
  Option.bind (idx (seti (seti (seti l7 y9 ((y8, u18.1.2), u18.2.1, u18.2.2)) y9 ((u28.1.1, (w64 (y8 + 1))), u28.2.1, u28.2.2)) y9 (u38.1, ((w64 ((w64 (y8 + 1)) + 1)), u38.2.1.2), u38.2.2)) y9) fun u48 =>
  Option.bind (idx (seti (seti (seti (seti l7 y9 ((y8, u18.1.2), u18.2.1, u18.2.2)) y9 ((u28.1.1, (w64 (y8 + 1))), u28.2.1, u28.2.2)) y9 (u38.1, ((w64 ((w64 (y8 + 1)) + 1)), u38.2.1.2), u38.2.2)) y9 (u48.1, (u48.2.1.1, (w64 ((w64 ((w64 (y8 + 1)) + 1)) + 1))), u48.2.2)) y9) fun u58 =>
  (F_laws_markMoveS_L1 m) ((seti (seti (seti (seti (seti l7 y9 ((y8, u18.1.2), u18.2.1, u18.2.2)) y9 ((u28.1.1, (w64 (y8 + 1))), u28.2.1, u28.2.2)) y9 (u38.1, ((w64 ((w64 (y8 + 1)) + 1)), u38.2.1.2), u38.2.2)) y9 (u48.1, (u48.2.1.1, (w64 ((w64 ((w64 (y8 + 1)) + 1)) + 1))), u48.2.2)) y9 (u58.1, u58.2.1, (w64 ((w64 ((w64 ((w64 (y8 + 1)) + 1)) + 1)) + 1))))) ((w64 ((w64 ((w64 ((w64 ((w64 (y8 + 1)) + 1)) + 1)) + 1)) + 1))) ((w64 (y9 + 1))) else some (y8, l7))
def F_laws_markMoveS (x0 : (List ((Int × Int) × (Int × Int) × Int))) (x1 : Int) : Option (Int × (List ((Int × Int) × (Int × Int) × Int))) :=
  F_laws_markMoveS_L1 FU (x0) (x1) (0)
def F_laws_heldMoveS_L1 (x0 : (List ((Int × Int) × (Int × Int) × Int))) : Nat → Int → Int → Option Int
  | 0, _, _ => none
  | m + 1, y7, y8 => (if (decide (y8 < (List.length x0 : Int))) = true then Option.bind (idx x0 y8) fun u18 =>
  (if (u18.1.1 != y7) = true then some (-1) else Option.bind (idx x0 y8) fun u26 =>
  (if (u26.1.2 != (w64 (y7 + 1))) = true then some (-1) else Option.bind (idx x0 y8) fun u34 =>
  (if (u34.2.1.1 != (w64 ((w64 (y7 + 1)) + 1))) = true then some (-1) else Option.bind (idx x0 y8) fun u42 =>
  (if (u42.2.1.2 != (w64 ((w64 ((w64 (y7 + 1)) + 1)) + 1))) = true then some (-1) else Option.bind (idx x0 y8) fun u50 =>
  (if (u50.2.2 != (w64 ((w64 ((w64 ((w64 (y7 + 1)) + 1)) + 1)) + 1))) = true then some (-1) else (F_laws_heldMoveS_L1 x0 m) ((w64 ((w64 ((w64 ((w64 ((w64 (y7 + 1)) + 1)) + 1)) + 1)) + 1))) ((w64 (y8 + 1)))))))) else some y7)
def F_laws_heldMoveS (x0 : (List ((Int × Int) × (Int × Int) × Int))) (x1 : Int) : Option Int :=
  F_laws_heldMoveS_L1 x0 FU (x1) (0)
def F_laws_FnExactShowMoves (x0 : ((List (List (Int × Int))) × (List Int) × Int × Int)) (x1 : Int) : Option Bool :=
  Option.bind (F_laws_szShow x0 1048576) fun u9 =>
  (if (decide (u9 < 0)) = true then some true else Option.bind (F_laws_toShow x0) fun u20 =>
  Option.bind (F_spec_ShowMoves u20 x1) fun u30 =>
  Option.bind (F_laws_toShow x0) fun u39 =>
  Option.bind (F_impl_ShowMoves u39 x1) fun u59 =>
  jK1 (fun (y72 : Bool) => (if y72 = true then some false else Option.bind (F_laws_toShow x0) fun u84 =>
  Option.bind (F_laws_eqShow u39 u84) fun u97 =>
  (if (!u97) = true then some false else Option.bind (F_laws_markShow u39 1) fun u108 =>
  jK1 (fun (y119 : Bool) => (if y119 = true then some false else Option.bind (F_laws_markMoveS u59.1 1) fun u126 =>
  Option.bind (F_laws_heldMoveS u126.2 1) fun u134 =>
  (if (decide (u134 < 0)) = true then some false else (if (u134 != u126.1) = true then some false else Option.bind (F_laws_toShow x0) fun u149 =>
  Option.bind (F_impl_ShowMoves u149 x1) fun u159 =>
  jK1 (fun (y172 : Bool) => (if y172 = true then some false else Option.bind (F_laws_heldMoveS u126.2 1) fun u179 =>
  (if (decide (u179 < 0)) = true then some false else (if (u179 != u126.1) = true then some false else some true)))) (fun k173 => Option.bind (F_laws_eqMoveS u159.1 u30.1) fun u194 =>
  (if (!u194) = true then k173 (true) else k173 ((u159.2 != u30.2)))))))) (fun k120 => (if (decide (u108.1 < 0)) = true then k120 (true) else Option.bind (F_laws_eqMoveS u59.1 u30.1) fun u202 =>
  (if (!u202) = true then k120 (true) else k120 ((u59.2 != u30.2)))))))) (fun k73 => Option.bind (F_laws_eqMoveS u59.1 u30.1) fun u209 =>
  (if (!u209) = true then k73 (true) else k73 ((u59.2 != u30.2)))))
def F_spec_stTwo (x0 : (Int × Int)) (x1 : (Int × Int)) : Option Bool :=
  jK1 (fun (y16 : Bool) => some y16) (fun k17 => Option.bind (F_spec_stGood x0) fun u19 =>
  (if u19 = true then Option.bind (F_spec_stGood x1) fun u26 =>
  k17 (u26) else k17 (false)))
def F_spec_LeastCounts_L1 (x0 : (Int × Int)) (x1 : (Int × Int)) (x2 : Int) : Nat → Int → Option (Int × Bool)
  | 0, _ => none
  | m + 1, y27 => (if (decide (y27 ≤ 64)) = true then Option.bind (F_spec_mvWithin (x0, x1, y27) x2) fun u36 =>
  (if u36 = true then some (y27, true) else (F_spec_LeastCounts_L1 x0 x1 x2 m) ((w64 (y27 + 1)))) else some (0, false))
def F_spec_LeastCounts (x0 : (Int × Int)) (x1 : (Int × Int)) (x2 : Int) : Option (Int × Bool) :=
  jK1 (fun (y17 : Bool) => (if y17 = true then some (0, false) else F_spec_LeastCounts_L1 x0 x1 x2 FU (1))) (fun k18 => Option.bind (F_spec_stTwo x0 x1) fun u45 =>
  (if (!u45) = true then k18 (true) else Option.bind (F_spec_mvStep x2) fun u52 =>
  k18 ((!u52))))
def F_spec_l1Most (x0 : Int) (x1 : Int) : Option Int :=
  (if (decide (x1 < x0)) = true then some x0 else some x1)
def F_spec_LeastCountsOf_L2 (u40 : (List ((Int × Int) × (Int × Int) × Int))) (x0 : ((List (List (Int × Int))) × (List Int) × Int × Int)) (l24 : (List Int)) (nx28 : ((List Int) → Int → Option ((List Int) × Bool))) (y27 : Int) : Nat → Int → Int → Option ((List Int) × Bool)
  | 0, _, _ => none
  | m + 1, y51, y52 => (if (decide (y52 < (List.length u40 : Int))) = true then Option.bind (idx u40 y52) fun u61 =>
  Option.bind (F_spec_LeastCounts u61.1 u61.2.1 x0.2.2.2) fun u75 =>
  (if (!u75.2) = true then some ([], false) else Option.bind (F_spec_l1Most y51 u75.1) fun u86 =>
  (F_spec_LeastCountsOf_L2 u40 x0 l24 nx28 y27 m) (u86) ((w64 (y52 + 1)))) else Option.bind (app l24 [y51]) fun u98 =>
  nx28 (u98) ((w64 (y27 + 1))))
def F_spec_LeastCountsOf_L1 (x0 : ((List (List (Int × Int))) × (List Int) × Int × Int)) : Nat → (List Int) → Int → Option ((List Int) × Bool)
  | 0, _, _ => none
  | m + 1, l24, y27 => (if (decide (y27 < (List.length x0.2.1 : Int))) = true then Option.bind (F_spec_swMoves x0 y27) fun u40 =>
  F_spec_LeastCountsOf_L2 u40 x0 l24 (F_spec_LeastCountsOf_L1 x0 m) y27 FU (1) (0) else some (l24, true))
def F_spec_LeastCountsOf (x0 : ((List (List (Int × Int))) × (List Int) × Int × Int)) : Option ((List Int) × Bool) :=
  Option.bind (F_spec_swGood x0) fun u9 =>
  (if (!u9) = true then some ([], false) else F_spec_LeastCountsOf_L1 x0 FU ([]) (0))
def F_impl_LeastCounts_L1 (x0 : (Int × Int)) (x1 : (Int × Int)) (x2 : Int) : Nat → Int → Option (Int × Bool)
  | 0, _ => none
  | m + 1, y27 => (if (decide (y27 ≤ 64)) = true then Option.bind (F_impl_withinStep (x0, x1, y27) x2) fun u36 =>
  (if u36 = true then some (y27, true) else (F_impl_LeastCounts_L1 x0 x1 x2 m) ((w64 (y27 + 1)))) else some (0, false))
def F_impl_LeastCounts (x0 : (Int × Int)) (x1 : (Int × Int)) (x2 : Int) : Option (Int × Bool) :=
  jK1 (fun (y17 : Bool) => (if y17 = true then some (0, false) else F_impl_LeastCounts_L1 x0 x1 x2 FU (1))) (fun k18 => Option.bind (F_impl_IsSpot x0) fun u45 =>
  (if (!u45) = true then k18 (true) else Option.bind (F_impl_IsSpot x1) fun u52 =>
  (if (!u52) = true then k18 (true) else Option.bind (F_impl_within x2 1 24) fun u59 =>
  k18 ((!u59)))))
def F_impl_LeastCountsOf_L2 (u45 : (List ((Int × Int) × (Int × Int) × Int))) (x0 : ((List (List (Int × Int))) × (List Int) × Int × Int)) (l30 : (List Int)) (nx34 : ((List Int) → Int → Option ((List Int) × Bool))) (y33 : Int) : Nat → Int → Int → Option ((List Int) × Bool)
  | 0, _, _ => none
  | m + 1, y56, y57 => (if (decide (y57 < (List.length u45 : Int))) = true then Option.bind (idx u45 y57) fun u66 =>
  Option.bind (F_impl_LeastCounts u66.1 u66.2.1 x0.2.2.2) fun u80 =>
  (if (!u80.2) = true then some ([], false) else (F_impl_LeastCountsOf_L2 u45 x0 l30 nx34 y33 m) ((maxI y56 u80.1)) ((w64 (y57 + 1)))) else Option.bind (app l30 [y56]) fun u97 =>
  nx34 (u97) ((w64 (y33 + 1))))
def F_impl_LeastCountsOf_L1 (x0 : ((List (List (Int × Int))) × (List Int) × Int × Int)) : Nat → (List Int) → Int → Option ((List Int) × Bool)
  | 0, _, _ => none
  | m + 1, l30, y33 => (if (decide (y33 < (List.length x0.2.1 : Int))) = true then Option.bind (F_impl_showMoves x0 y33) fun u45 =>
  F_impl_LeastCountsOf_L2 u45 x0 l30 (F_impl_LeastCountsOf_L1 x0 m) y33 FU (0) (0) else some (l30, true))
def F_impl_LeastCountsOf (x0 : ((List (List (Int × Int))) × (List Int) × Int × Int)) : Option ((List Int) × Bool) :=
  Option.bind (F_impl_IsShow x0) fun u9 =>
  (if (!u9) = true then some ([], false) else F_impl_LeastCountsOf_L1 x0 FU ([]) (0))
def F_laws_FnExactLeastCountsOf (x0 : ((List (List (Int × Int))) × (List Int) × Int × Int)) : Option Bool :=
  Option.bind (F_laws_szShow x0 1048576) fun u9 =>
  (if (decide (u9 < 0)) = true then some true else Option.bind (F_laws_toShow x0) fun u20 =>
  Option.bind (F_spec_LeastCountsOf u20) fun u30 =>
  Option.bind (F_laws_toShow x0) fun u39 =>
  Option.bind (F_impl_LeastCountsOf u39) fun u59 =>
  jK1 (fun (y72 : Bool) => (if y72 = true then some false else Option.bind (F_laws_toShow x0) fun u84 =>
  Option.bind (F_laws_eqShow u39 u84) fun u97 =>
  (if (!u97) = true then some false else Option.bind (F_laws_markShow u39 1) fun u108 =>
  jK1 (fun (y119 : Bool) => (if y119 = true then some false else Option.bind (F_laws_markIntS u59.1 1) fun u126 =>
  Option.bind (F_laws_heldIntS u126.2 1) fun u134 =>
  (if (decide (u134 < 0)) = true then some false else (if (u134 != u126.1) = true then some false else Option.bind (F_laws_toShow x0) fun u149 =>
  Option.bind (F_impl_LeastCountsOf u149) fun u159 =>
  jK1 (fun (y172 : Bool) => (if y172 = true then some false else Option.bind (F_laws_heldIntS u126.2 1) fun u179 =>
  (if (decide (u179 < 0)) = true then some false else (if (u179 != u126.1) = true then some false else some true)))) (fun k173 => Option.bind (F_laws_eqIntS u159.1 u30.1) fun u194 =>
  (if (!u194) = true then k173 (true) else k173 ((u159.2 != u30.2)))))))) (fun k120 => (if (decide (u108.1 < 0)) = true then k120 (true) else Option.bind (F_laws_eqIntS u59.1 u30.1) fun u202 =>
  (if (!u202) = true then k120 (true) else k120 ((u59.2 != u30.2)))))))) (fun k73 => Option.bind (F_laws_eqIntS u59.1 u30.1) fun u209 =>
  (if (!u209) = true then k73 (true) else k73 ((u59.2 != u30.2)))))
def F_spec_NewMarch (x0 : ((List (List (Int × Int))) × (List Int) × Int × Int)) : Option ((((List (List (Int × Int))) × (List Int) × Int × Int) × Int × (List Int) × (List Int)) × Bool) :=
  Option.bind (F_spec_swGood x0) fun u14 =>
  (if (!u14) = true then some ((([], [], 0, 0), 0, [], []), false) else jK6 (fun (l34 : (List (List (Int × Int)))) (l37 : (List Int)) (y40 : Int) (y41 : Int) (l42 : (List Int)) (y45 : Bool) => some (((l34, l37, y40, y41), 0, [], l42), y45)) (fun k46 => Option.bind (idx x0.1 0) fun u54 =>
  Option.bind (F_spec_swOwn x0) fun u59 =>
  Option.bind (mkL (List.length u54 : Int) 0) fun u74 =>
  k46 (u59.1) (u59.2.1) (u59.2.2.1) (u59.2.2.2) (u74) (true)))
def F_impl_NewMarch (x0 : ((List (List (Int × Int))) × (List Int) × Int × Int)) : Option ((((List (List (Int × Int))) × (List Int) × Int × Int) × Int × (List Int) × (List Int)) × Bool) :=
  Option.bind (F_impl_IsShow x0) fun u14 =>
  (if (!u14) = true then some ((([], [], 0, 0), 0, [], []), false) else jK7 (fun (l34 : (List (List (Int × Int)))) (l37 : (List Int)) (y40 : Int) (y41 : Int) (l42 : (List Int)) (l45 : (List Int)) (y48 : Bool) => some (((l34, l37, y40, y41), 0, l42, l45), y48)) (fun k49 => Option.bind (idx x0.1 0) fun u56 =>
  Option.bind (F_impl_copyShow x0) fun u61 =>
  Option.bind (mkL (List.length u56 : Int) 0) fun u86 =>
  k49 (u61.1) (u61.2.1) (u61.2.2.1) (u61.2.2.2) ([]) (u86) (true)))
def F_laws_markMarch (x0 : (((List (List (Int × Int))) × (List Int) × Int × Int) × Int × (List Int) × (List Int))) (x1 : Int) : Option (Int × (((List (List (Int × Int))) × (List Int) × Int × Int) × Int × (List Int) × (List Int))) :=
  Option.bind (F_laws_markShow x0.1 x1) fun u8 =>
  Option.bind (F_laws_markIntS x0.2.2.1 u8.1) fun u15 =>
  Option.bind (F_laws_markIntS x0.2.2.2 u15.1) fun u22 =>
  some (u22.1, ((u8.2.1, u8.2.2.1, x0.1.2.2.1, x0.1.2.2.2), x0.2.1, u15.2, u22.2))
def F_laws_heldMarch (x0 : (((List (List (Int × Int))) × (List Int) × Int × Int) × Int × (List Int) × (List Int))) (x1 : Int) : Option Int :=
  Option.bind (F_laws_heldShow x0.1 x1) fun u8 =>
  (if (decide (u8 < 0)) = true then some (-1) else Option.bind (F_laws_heldIntS x0.2.2.1 u8) fun u19 =>
  (if (decide (u19 < 0)) = true then some (-1) else Option.bind (F_laws_heldIntS x0.2.2.2 u19) fun u30 =>
  (if (decide (u30 < 0)) = true then some (-1) else some u30)))
def F_laws_FnExactNewMarch (x0 : ((List (List (Int × Int))) × (List Int) × Int × Int)) : Option Bool :=
  Option.bind (F_laws_szShow x0 1048576) fun u9 =>
  (if (decide (u9 < 0)) = true then some true else Option.bind (F_laws_toShow x0) fun u20 =>
  Option.bind (F_spec_NewMarch u20) fun u30 =>
  Option.bind (F_laws_toShow x0) fun u54 =>
  Option.bind (F_impl_NewMarch u54) fun u74 =>
  jK1 (fun (y102 : Bool) => (if y102 = true then some false else Option.bind (F_laws_toShow x0) fun u114 =>
  Option.bind (F_laws_eqShow u54 u114) fun u127 =>
  (if (!u127) = true then some false else Option.bind (F_laws_markShow u54 1) fun u138 =>
  jK1 (fun (y149 : Bool) => (if y149 = true then some false else Option.bind (F_laws_markMarch u74.1 1) fun u156 =>
  Option.bind (F_laws_heldMarch ((u156.2.1.1, u156.2.1.2.1, u74.1.1.2.2.1, u74.1.1.2.2.2), u74.1.2.1, u156.2.2.2.1, u156.2.2.2.2) 1) fun u164 =>
  (if (decide (u164 < 0)) = true then some false else (if (u164 != u156.1) = true then some false else Option.bind (F_laws_toShow x0) fun u179 =>
  Option.bind (F_impl_NewMarch u179) fun u189 =>
  jK1 (fun (y217 : Bool) => (if y217 = true then some false else Option.bind (F_laws_heldMarch ((u156.2.1.1, u156.2.1.2.1, u74.1.1.2.2.1, u74.1.1.2.2.2), u74.1.2.1, u156.2.2.2.1, u156.2.2.2.2) 1) fun u224 =>
  (if (decide (u224 < 0)) = true then some false else (if (u224 != u156.1) = true then some false else some true)))) (fun k218 => Option.bind (F_laws_eqMarch u189.1 u30.1) fun u239 =>
  (if (!u239) = true then k218 (true) else k218 ((u189.2 != u30.2)))))))) (fun k150 => (if (decide (u138.1 < 0)) = true then k150 (true) else Option.bind (F_laws_eqMarch u74.1 u30.1) fun u247 =>
  (if (!u247) = true then k150 (true) else k150 ((u74.2 != u30.2)))))))) (fun k103 => Option.bind (F_laws_eqMarch u74.1 u30.1) fun u254 =>
  (if (!u254) = true then k103 (true) else k103 ((u74.2 != u30.2)))))
def F_spec_swIf__take__fr1 (x0 : ((List (List (Int × Int))) × (List Int) × Int × Int)) : Option (((List (List (Int × Int))) × (List Int) × Int × Int) × Bool) :=
  Option.bind (F_spec_swGood x0) fun u14 =>
  (if (!u14) = true then some (([], [], 0, 0), false) else some (x0, true))
def F_spec_DropShowChart (x0 : ((List (List (Int × Int))) × (List Int) × Int × Int)) (x1 : Int) : Option (((List (List (Int × Int))) × (List Int) × Int × Int) × Bool) :=
  jK1 (fun (y17 : Bool) => (if y17 = true then some (([], [], 0, 0), false) else Option.bind (F_spec_swOwn x0) fun u29 =>
  jK1 (fun (l52 : (List (List (Int × Int)))) => jK1 (fun (l61 : (List Int)) => Option.bind (F_spec_swIf__take__fr1 (l52, l61, u29.2.2.1, u29.2.2.2)) fun u67 =>
  some u67) (fun k64 => (if (x1 == 0) = true then Option.bind (sl u29.2.1 1 (List.length u29.2.1 : Int)) fun u83 =>
  k64 (u83) else (if (x1 == (w64 ((List.length x0.1 : Int) - 1))) = true then Option.bind (sl u29.2.1 0 (w64 (x1 - 1))) fun u95 =>
  k64 (u95) else jK1 (fun (l115 : (List Int)) => Option.bind (idx x0.2.1 (w64 (x1 - 1))) fun u125 =>
  Option.bind (idx x0.2.1 x1) fun u128 =>
  Option.bind (idx l115 (w64 (x1 - 1))) fun u131 =>
  k64 ((seti l115 (w64 (x1 - 1)) (w64 (u125 + u128))))) (fun k118 => Option.bind (sl u29.2.1 0 x1) fun u146 =>
  Option.bind (sl u29.2.1 (w64 (x1 + 1)) (List.length u29.2.1 : Int)) fun u151 =>
  Option.bind (cutL u29.2.1 x1 (w64 (x1 + 1))) fun u156 =>
  k118 (u156)))))) (fun k55 => Option.bind (sl u29.1 0 x1) fun u209 =>
  Option.bind (sl u29.1 (w64 (x1 + 1)) (List.length u29.1 : Int)) fun u214 =>
  Option.bind (cutL u29.1 x1 (w64 (x1 + 1))) fun u219 =>
  k55 (u219)))) (fun k18 => Option.bind (F_spec_swGood x0) fun u267 =>
  (if (!u267) = true then k18 (true) else Option.bind (F_spec_l1In x1 0 (w64 ((List.length x0.1 : Int) - 1))) fun u274 =>
  k18 ((!u274))))
def F_slices_Delete_impl_Spot_impl_Spot__take (x0 : (List (List (Int × Int)))) (x1 : Int) (x2 : Int) : Option (List (List (Int × Int))) :=
  Option.bind (sl x0 x1 x2) fun u3 =>
  (if (x1 == x2) = true then some x0 else Option.bind (sl x0 0 x1) fun u16 =>
  Option.bind (sl x0 x2 (List.length x0 : Int)) fun u21 =>
  Option.bind (cutL x0 x1 x2) fun u26 =>
  some u26)
def F_slices_Delete_int_int__take (x0 : (List Int)) (x1 : Int) (x2 : Int) : Option (List Int) :=
  Option.bind (sl x0 x1 x2) fun u3 =>
  (if (x1 == x2) = true then some x0 else Option.bind (sl x0 0 x1) fun u16 =>
  Option.bind (sl x0 x2 (List.length x0 : Int)) fun u21 =>
  Option.bind (cutL x0 x1 x2) fun u26 =>
  some u26)
def F_impl_DropShowChart (x0 : ((List (List (Int × Int))) × (List Int) × Int × Int)) (x1 : Int) : Option (((List (List (Int × Int))) × (List Int) × Int × Int) × Bool) :=
  jK1 (fun (y17 : Bool) => (if y17 = true then some (([], [], 0, 0), false) else Option.bind (F_impl_copyShow x0) fun u29 =>
  Option.bind (F_slices_Delete_impl_Spot_impl_Spot__take u29.1 x1 (w64 (x1 + 1))) fun u50 =>
  jK1 (fun (l66 : (List Int)) => Option.bind (F_impl_asShow__take (u50, l66, u29.2.2.1, u29.2.2.2)) fun u72 =>
  some u72) (fun k69 => (if (x1 == 0) = true then Option.bind (F_slices_Delete_int_int__take u29.2.1 0 1) fun u88 =>
  k69 (u88) else (if (decide ((w64 ((List.length u29.2.1 : Int) - 1)) < x1)) = true then Option.bind (F_slices_Delete_int_int__take u29.2.1 (w64 ((List.length u29.2.1 : Int) - 1)) (w64 ((w64 ((List.length u29.2.1 : Int) - 1)) + 1))) fun u102 =>
  k69 (u102) else jK1 (fun (l118 : (List Int)) => Option.bind (F_slices_Delete_int_int__take l118 x1 (w64 (x1 + 1))) fun u123 =>
  k69 (u123)) (fun k121 => Option.bind (idx u29.2.1 (w64 (x1 - 1))) fun u140 =>
  Option.bind (idx u29.2.1 x1) fun u144 =>
  Option.bind (idx u29.2.1 (w64 (x1 - 1))) fun u148 =>
  k121 ((seti u29.2.1 (w64 (x1 - 1)) (w64 (u140 + u144)))))))))) (fun k18 => Option.bind (F_impl_IsShow x0) fun u217 =>
  (if (!u217) = true then k18 (true) else Option.bind (F_impl_within x1 0 (w64 ((List.length x0.1 : Int) - 1))) fun u224 =>
  k18 ((!u224))))
def F_laws_FnExactDropShowChart (x0 : ((List (List (Int × Int))) × (List Int) × Int × Int)) (x1 : Int) : Option Bool :=
  Option.bind (F_laws_szShow x0 1048576) fun u9 =>
  (if (decide (u9 < 0)) = true then some true else Option.bind (F_laws_toShow x0) fun u20 =>
  Option.bind (F_spec_DropShowChart u20 x1) fun u30 =>
  Option.bind (F_laws_toShow x0) fun u50 =>
  Option.bind (F_impl_DropShowChart u50 x1) fun u70 =>
  jK2 (fun (l94 : (List Int)) (y97 : Bool) => (if y97 = true then some false else Option.bind (F_laws_toShow x0) fun u109 =>
  Option.bind (F_laws_eqShow u50 u109) fun u122 =>
  (if (!u122) = true then some false else Option.bind (F_laws_markShow u50 1) fun u133 =>
  jK2 (fun (l144 : (List Int)) (y147 : Bool) => (if y147 = true then some false else Option.bind (F_laws_markShow u70.1 1) fun u154 =>
  Option.bind (F_laws_heldShow (u154.2.1, u154.2.2.1, u70.1.2.2.1, u70.1.2.2.2) 1) fun u162 =>
  (if (decide (u162 < 0)) = true then some false else (if (u162 != u154.1) = true then some false else Option.bind (F_laws_toShow x0) fun u177 =>
  Option.bind (F_impl_DropShowChart u177 x1) fun u187 =>
  jK1 (fun (y211 : Bool) => (if y211 = true then some false else Option.bind (F_laws_heldShow (u154.2.1, u154.2.2.1, u70.1.2.2.1, u70.1.2.2.2) 1) fun u218 =>
  (if (decide (u218 < 0)) = true then some false else (if (u218 != u154.1) = true then some false else some true)))) (fun k212 => Option.bind (F_laws_eqShow u187.1 (u30.1.1, l144, u30.1.2.2.1, u30.1.2.2.2)) fun u233 =>
  (if (!u233) = true then k212 (true) else k212 ((u187.2 != u30.2)))))))) (fun k148 => (if (decide (u133.1 < 0)) = true then k148 (l94) (true) else Option.bind (F_laws_eqShow u70.1 (u30.1.1, l94, u30.1.2.2.1, u30.1.2.2.2)) fun u241 =>
  (if (!u241) = true then k148 (l94) (true) else k148 (l94) ((u70.2 != u30.2)))))))) (fun k98 => Option.bind (F_laws_eqShow u70.1 u30.1) fun u248 =>
  (if (!u248) = true then k98 (u30.1.2.1) (true) else k98 (u30.1.2.1) ((u70.2 != u30.2)))))
def F_spec_swTotal_L1 (x0 : ((List (List (Int × Int))) × (List Int) × Int × Int)) : Nat → Int → Int → Option Int
  | 0, _, _ => none
  | m + 1, y13, y14 => (if (decide (y14 < (List.length x0.2.1 : Int))) = true then Option.bind (idx x0.2.1 y14) fun u23 =>
  (F_spec_swTotal_L1 x0 m) ((w64 (y13 + u23))) ((w64 (y14 + 1))) else some y13)
def F_spec_swTotal (x0 : ((List (List (Int × Int))) × (List Int) × Int × Int)) : Option Int :=
  F_spec_swTotal_L1 x0 FU (0) (0)
def F_spec_l1Least (x0 : Int) (x1 : Int) : Option Int :=
  (if (decide (x0 < x1)) = true then some x0 else some x1)
def F_spec_mnCount (x0 : (((List (List (Int × Int))) × (List Int) × Int × Int) × Int × (List Int) × (List Int))) (x1 : Int) : Option Int :=
  Option.bind (idx x0.2.2.2 x1) fun u13 =>
  Option.bind (F_spec_swTotal x0.1) fun u16 =>
  Option.bind (F_spec_l1Least u16 (w64 (x0.2.1 - u13))) fun u23 =>
  some u23
def F_spec_StillGoing_L1 (x0 : (((List (List (Int × Int))) × (List Int) × Int × Int) × Int × (List Int) × (List Int))) : Nat → (List Int) → Int → Option ((List Int) × Bool)
  | 0, _, _ => none
  | m + 1, l24, y27 => (if (decide (y27 < (List.length x0.2.2.2 : Int))) = true then jK1 (fun (l39 : (List Int)) => (F_spec_StillGoing_L1 x0 m) (l39) ((w64 (y27 + 1)))) (fun k42 => Option.bind (F_spec_mnCount x0 y27) fun u51 =>
  Option.bind (F_spec_swTotal x0.1) fun u58 =>
  (if (decide (u51 < u58)) = true then Option.bind (app l24 [y27]) fun u72 =>
  k42 (u72) else k42 (l24))) else some (l24, true))
def F_spec_StillGoing (x0 : (((List (List (Int × Int))) × (List Int) × Int × Int) × Int × (List Int) × (List Int))) : Option ((List Int) × Bool) :=
  Option.bind (F_spec_mnGood x0) fun u9 =>
  (if (!u9) = true then some ([], false) else F_spec_StillGoing_L1 x0 FU ([]) (0))
def F_impl_totalCounts_L1 (x0 : ((List (List (Int × Int))) × (List Int) × Int × Int)) : Nat → Int → Int → Option Int
  | 0, _, _ => none
  | m + 1, y13, y14 => (if (decide (y14 < (List.length x0.2.1 : Int))) = true then Option.bind (idx x0.2.1 y14) fun u23 =>
  (F_impl_totalCounts_L1 x0 m) ((w64 (y13 + u23))) ((w64 (y14 + 1))) else some y13)
def F_impl_totalCounts (x0 : ((List (List (Int × Int))) × (List Int) × Int × Int)) : Option Int :=
  F_impl_totalCounts_L1 x0 FU (0) (0)
def F_impl_ownCount (x0 : (((List (List (Int × Int))) × (List Int) × Int × Int) × Int × (List Int) × (List Int))) (x1 : Int) : Option Int :=
  Option.bind (idx x0.2.2.2 x1) fun u13 =>
  Option.bind (F_impl_totalCounts x0.1) fun u16 =>
  some (minI (w64 (x0.2.1 - u13)) u16)
def F_impl_StillGoing_L1 (x0 : (((List (List (Int × Int))) × (List Int) × Int × Int) × Int × (List Int) × (List Int))) : Nat → (List Int) → Int → Option ((List Int) × Bool)
  | 0, _, _ => none
  | m + 1, l30, y33 => (if (decide (y33 < (List.length x0.2.2.2 : Int))) = true then jK1 (fun (l44 : (List Int)) => (F_impl_StillGoing_L1 x0 m) (l44) ((w64 (y33 + 1)))) (fun k47 => Option.bind (F_impl_ownCount x0 y33) fun u56 =>
  Option.bind (F_impl_totalCounts x0.1) fun u63 =>
  (if (decide (u56 < u63)) = true then Option.bind (app l30 [y33]) fun u78 =>
  k47 (u78) else k47 (l30))) else some (l30, true))
def F_impl_StillGoing (x0 : (((List (List (Int × Int))) × (List Int) × Int × Int) × Int × (List Int) × (List Int))) : Option ((List Int) × Bool) :=
  Option.bind (F_impl_IsMarch x0) fun u9 =>
  (if (!u9) = true then some ([], false) else F_impl_StillGoing_L1 x0 FU ([]) (0))
def F_laws_FnExactStillGoing (x0 : (((List (List (Int × Int))) × (List Int) × Int × Int) × Int × (List Int) × (List Int))) : Option Bool :=
  Option.bind (F_laws_szMarch x0 1048576) fun u9 =>
  (if (decide (u9 < 0)) = true then some true else Option.bind (F_laws_toMarch x0) fun u20 =>
  Option.bind (F_spec_StillGoing u20) fun u34 =>
  Option.bind (F_laws_toMarch x0) fun u43 =>
  Option.bind (F_impl_StillGoing u43) fun u67 =>
  jK1 (fun (y80 : Bool) => (if y80 = true then some false else Option.bind (F_laws_toMarch x0) fun u92 =>
  Option.bind (F_laws_eqMarch u43 u92) fun u111 =>
  (if (!u111) = true then some false else Option.bind (F_laws_markMarch u43 1) fun u122 =>
  jK1 (fun (y133 : Bool) => (if y133 = true then some false else Option.bind (F_laws_markIntS u67.1 1) fun u140 =>
  Option.bind (F_laws_heldIntS u140.2 1) fun u148 =>
  (if (decide (u148 < 0)) = true then some false else (if (u148 != u140.1) = true then some false else Option.bind (F_laws_toMarch x0) fun u163 =>
  Option.bind (F_impl_StillGoing u163) fun u177 =>
  jK1 (fun (y190 : Bool) => (if y190 = true then some false else Option.bind (F_laws_heldIntS u140.2 1) fun u197 =>
  (if (decide (u197 < 0)) = true then some false else (if (u197 != u140.1) = true then some false else some true)))) (fun k191 => Option.bind (F_laws_eqIntS u177.1 u34.1) fun u212 =>
  (if (!u212) = true then k191 (true) else k191 ((u177.2 != u34.2)))))))) (fun k134 => (if (decide (u122.1 < 0)) = true then k134 (true) else Option.bind (F_laws_eqIntS u67.1 u34.1) fun u220 =>
  (if (!u220) = true then k134 (true) else k134 ((u67.2 != u34.2)))))))) (fun k81 => Option.bind (F_laws_eqIntS u67.1 u34.1) fun u227 =>
  (if (!u227) = true then k81 (true) else k81 ((u67.2 != u34.2)))))
end Go.Proofs.Ytadklddedeoniaa
