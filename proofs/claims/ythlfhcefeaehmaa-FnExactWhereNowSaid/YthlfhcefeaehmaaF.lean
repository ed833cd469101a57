/-
  THE FUNCTIONS of this seat as plain functions, by program (gen.py).
-/
import Derived.Test.YthlfhcefeaehmaaCore0
set_option linter.unusedSimpArgs false
set_option linter.unusedVariables false
set_option maxRecDepth 100000
namespace Go.Proofs.Ythlfhcefeaehmaa
open Go
def eqv_Spot (x y : (Int × Int)) : Bool := (x.1 == y.1) && (x.2 == y.2)
def G_Spot (x : (Int × Int)) : Prop := inI64 x.1 ∧ inI64 x.2
def G_Show (x : ((List (List (Int × Int))) × (List Int) × Int × Int)) : Prop := (allG (allG G_Spot)) x.1 ∧ (allG inI64) x.2.1 ∧ inI64 x.2.2.1 ∧ inI64 x.2.2.2
def G_March (x : (((List (List (Int × Int))) × (List Int) × Int × Int) × Int × (List Int) × (List Int))) : Prop := G_Show x.1 ∧ inI64 x.2.1 ∧ (allG inI64) x.2.2.1 ∧ (allG inI64) x.2.2.2
def F_laws_szSpotS (x0 : (List (Int × Int))) (x1 : Int) : Option Int :=
  (if (decide ((w64 (x1 - (List.length x0 : Int))) < 0)) = true then some (-1) else some (w64 (x1 - (List.length x0 : Int))))
def F_laws_szSpotSS_L1 (x0 : (List (List (Int × Int)))) : Nat → Int → Int → Option Int
  | 0, _, _ => none
  | m + 1, y12, y13 => (if (decide (y13 < (List.length x0 : Int))) = true then Option.bind (idx x0 y13) fun u22 =>
  Option.bind (F_laws_szSpotS u22 y12) fun u27 =>
  (if (decide (u27 < 0)) = true then some (-1) else (F_laws_szSpotSS_L1 x0 m) (u27) ((w64 (y13 + 1)))) else some y12)
def F_laws_szSpotSS (x0 : (List (List (Int × Int)))) (x1 : Int) : Option Int :=
  (if (decide ((w64 (x1 - (List.length x0 : Int))) < 0)) = true then some (-1) else F_laws_szSpotSS_L1 x0 FU ((w64 (x1 - (List.length x0 : Int)))) (0))
def F_laws_szIntS (x0 : (List Int)) (x1 : Int) : Option Int :=
  (if (decide ((w64 (x1 - (List.length x0 : Int))) < 0)) = true then some (-1) else some (w64 (x1 - (List.length x0 : Int))))
def F_laws_szShow (x0 : ((List (List (Int × Int))) × (List Int) × Int × Int)) (x1 : Int) : Option Int :=
  Option.bind (F_laws_szSpotSS x0.1 x1) fun u8 =>
  (if (decide (u8 < 0)) = true then some (-1) else Option.bind (F_laws_szIntS x0.2.1 u8) fun u19 =>
  (if (decide (u19 < 0)) = true then some (-1) else some u19))
def F_laws_toSpot (x0 : (Int × Int)) : Option (Int × Int) :=
  some x0
def F_laws_toSpotS_L1 (x0 : (List (Int × Int))) : Nat → (List (Int × Int)) → Int → Option (List (Int × Int))
  | 0, _, _ => none
  | m + 1, l15, y18 => (if (decide (y18 < (List.length x0 : Int))) = true then Option.bind (idx x0 y18) fun u26 =>
  Option.bind (F_laws_toSpot u26) fun u29 =>
  Option.bind (idx l15 y18) fun u35 =>
  (F_laws_toSpotS_L1 x0 m) ((seti l15 y18 u29)) ((w64 (y18 + 1))) else some l15)
def F_laws_toSpotS (x0 : (List (Int × Int))) : Option (List (Int × Int)) :=
  Option.bind (mkL (List.length x0 : Int) (0, 0)) fun u3 =>
  F_laws_toSpotS_L1 x0 FU (u3) (0)
def F_laws_toSpotSS_L1 (x0 : (List (List (Int × Int)))) : Nat → (List (List (Int × Int))) → Int → Option (List (List (Int × Int)))
  | 0, _, _ => none
  | m + 1, l15, y18 => (if (decide (y18 < (List.length x0 : Int))) = true then Option.bind (idx x0 y18) fun u26 =>
  Option.bind (F_laws_toSpotS u26) fun u31 =>
  Option.bind (idx l15 y18) fun u39 =>
  (F_laws_toSpotSS_L1 x0 m) ((seti l15 y18 u31)) ((w64 (y18 + 1))) else some l15)
def F_laws_toSpotSS (x0 : (List (List (Int × Int)))) : Option (List (List (Int × Int))) :=
  Option.bind (mkL (List.length x0 : Int) []) fun u3 =>
  F_laws_toSpotSS_L1 x0 FU (u3) (0)
def F_laws_toIntS_L1 (x0 : (List Int)) : Nat → (List Int) → Int → Option (List Int)
  | 0, _, _ => none
  | m + 1, l15, y18 => (if (decide (y18 < (List.length x0 : Int))) = true then Option.bind (idx x0 y18) fun u26 =>
  Option.bind (idx l15 y18) fun u29 =>
  (F_laws_toIntS_L1 x0 m) ((seti l15 y18 u26)) ((w64 (y18 + 1))) else some l15)
def F_laws_toIntS (x0 : (List Int)) : Option (List Int) :=
  Option.bind (mkL (List.length x0 : Int) 0) fun u3 =>
  F_laws_toIntS_L1 x0 FU (u3) (0)
def F_laws_toShow (x0 : ((List (List (Int × Int))) × (List Int) × Int × Int)) : Option ((List (List (Int × Int))) × (List Int) × Int × Int) :=
  Option.bind (F_laws_toSpotSS x0.1) fun u19 =>
  Option.bind (F_laws_toIntS x0.2.1) fun u32 =>
  some (u19, u32, x0.2.2.1, x0.2.2.2)
def F_spec_l1In (x0 : Int) (x1 : Int) (x2 : Int) : Option Bool :=
  jK1 (fun (y6 : Bool) => some y6) (fun k7 => (if (decide (x1 ≤ x0)) = true then k7 ((decide (x0 ≤ x2))) else k7 (false)))
def F_spec_stGood (x0 : (Int × Int)) : Option Bool :=
  jK1 (fun (y11 : Bool) => some y11) (fun k12 => Option.bind (F_spec_l1In x0.1 0 1280) fun u14 =>
  (if u14 = true then Option.bind (F_spec_l1In x0.2 0 672) fun u21 =>
  k12 (u21) else k12 (false)))
def F_spec_chGood_L2 (u39 : (List (Int × Int))) (u16 : (Int × Int)) (nx8 : (Int → Option Bool)) (y7 : Int) : Nat → Int → Option Bool
  | 0, _ => none
  | m + 1, y45 => (if (decide (y45 < (List.length u39 : Int))) = true then Option.bind (idx u39 y45) fun u54 =>
  (if (eqv_Spot u16 u54) = true then some false else (F_spec_chGood_L2 u39 u16 nx8 y7 m) ((w64 (y45 + 1)))) else nx8 ((w64 (y7 + 1))))
def F_spec_chGood_L1 (x0 : (List (Int × Int))) : Nat → Int → Option Bool
  | 0, _ => none
  | m + 1, y7 => (if (decide (y7 < (List.length x0 : Int))) = true then Option.bind (idx x0 y7) fun u16 =>
  Option.bind (F_spec_stGood u16) fun u30 =>
  (if (!u30) = true then some false else Option.bind (sl x0 0 y7) fun u39 =>
  F_spec_chGood_L2 u39 u16 (F_spec_chGood_L1 x0 m) y7 FU (0)) else Option.bind (F_spec_l1In (List.length x0 : Int) 1 12) fun u70 =>
  some u70)
def F_spec_chGood (x0 : (List (Int × Int))) : Option Bool :=
  F_spec_chGood_L1 x0 FU (0)
def F_spec_l1All_L1 (x0 : (List Int)) (x1 : Int) (x2 : Int) : Nat → Int → Option Bool
  | 0, _ => none
  | m + 1, y7 => (if (decide (y7 < (List.length x0 : Int))) = true then Option.bind (idx x0 y7) fun u16 =>
  Option.bind (F_spec_l1In u16 x1 x2) fun u20 =>
  (if (!u20) = true then some false else (F_spec_l1All_L1 x0 x1 x2 m) ((w64 (y7 + 1)))) else some true)
def F_spec_l1All (x0 : (List Int)) (x1 : Int) (x2 : Int) : Option Bool :=
  F_spec_l1All_L1 x0 x1 x2 FU (0)
def F_spec_apDistance (x0 : Int) : Option Bool :=
  Option.bind (F_spec_l1In x0 0 80) fun u3 =>
  some u3
def F_spec_mvStep (x0 : Int) : Option Bool :=
  Option.bind (F_spec_l1In x0 1 24) fun u3 =>
  some u3
def F_spec_swGood_L1 (x0 : ((List (List (Int × Int))) × (List Int) × Int × Int)) : Nat → Int → Option Bool
  | 0, _ => none
  | m + 1, y12 => (if (decide (y12 < (List.length x0.1 : Int))) = true then Option.bind (idx x0.1 y12) fun u21 =>
  jK1 (fun (y30 : Bool) => (if y30 = true then some false else (F_spec_swGood_L1 x0 m) ((w64 (y12 + 1))))) (fun k31 => Option.bind (F_spec_chGood u21) fun u35 =>
  (if (!u35) = true then k31 (true) else Option.bind (idx x0.1 0) fun u42 =>
  k31 (((List.length u21 : Int) != (List.length u42 : Int))))) else jK1 (fun (y51 : Bool) => some y51) (fun k52 => Option.bind (F_spec_l1In (List.length x0.1 : Int) 2 8) fun u54 =>
  (if u54 = true then (if ((List.length x0.2.1 : Int) == (w64 ((List.length x0.1 : Int) - 1))) = true then Option.bind (F_spec_l1All x0.2.1 1 64) fun u62 =>
  (if u62 = true then Option.bind (F_spec_apDistance x0.2.2.1) fun u69 =>
  (if u69 = true then Option.bind (F_spec_mvStep x0.2.2.2) fun u76 =>
  k52 (u76) else k52 (false)) else k52 (false)) else k52 (false)) else k52 (false))))
def F_spec_swGood (x0 : ((List (List (Int × Int))) × (List Int) × Int × Int)) : Option Bool :=
  F_spec_swGood_L1 x0 FU (0)
def F_spec_swMoves_L1 (u10 : (List (Int × Int))) (x0 : ((List (List (Int × Int))) × (List Int) × Int × Int)) (x1 : Int) : Nat → (List ((Int × Int) × (Int × Int) × Int)) → Int → Option (List ((Int × Int) × (Int × Int) × Int))
  | 0, _, _ => none
  | m + 1, l18, y21 => (if (decide (y21 < (List.length u10 : Int))) = true then Option.bind (idx u10 y21) fun u31 =>
  Option.bind (idx x0.1 (w64 (x1 + 1))) fun u48 =>
  Option.bind (idx u48 y21) fun u53 =>
  Option.bind (idx x0.2.1 x1) fun u56 =>
  Option.bind (app l18 [(u31, u53, u56)]) fun u70 =>
  (F_spec_swMoves_L1 u10 x0 x1 m) (u70) ((w64 (y21 + 1))) else some l18)
def F_spec_swMoves (x0 : ((List (List (Int × Int))) × (List Int) × Int × Int)) (x1 : Int) : Option (List ((Int × Int) × (Int × Int) × Int)) :=
  Option.bind (idx x0.1 x1) fun u10 =>
  F_spec_swMoves_L1 u10 x0 x1 FU ([]) (0)
def F_spec_apEnds (x0 : ((Int × Int) × (Int × Int) × Int)) (x1 : ((Int × Int) × (Int × Int) × Int)) : Option (Int × Int × Int × Int) :=
  some ((w64 (x0.1.1 - x1.1.1)), (w64 (x0.1.2 - x1.1.2)), (w64 (x0.2.1.1 - x1.2.1.1)), (w64 (x0.2.1.2 - x1.2.1.2)))
def F_spec_apInner (x0 : ((Int × Int) × (Int × Int) × Int)) (x1 : ((Int × Int) × (Int × Int) × Int)) : Option (Int × Int) :=
  Option.bind (F_spec_apEnds x0 x1) fun u13 =>
  jK1 (fun (y26 : Bool) => (if y26 = true then some (0, 0) else some ((w64 (0 - (w64 ((w64 (u13.1 * (w64 (u13.2.2.1 - u13.1)))) + (w64 (u13.2.1 * (w64 (u13.2.2.2 - u13.2.1)))))))), (w64 ((w64 ((w64 (u13.2.2.1 - u13.1)) * (w64 (u13.2.2.1 - u13.1)))) + (w64 ((w64 (u13.2.2.2 - u13.2.1)) * (w64 (u13.2.2.2 - u13.2.1))))))))) (fun k27 => (if (decide ((w64 (0 - (w64 ((w64 (u13.1 * (w64 (u13.2.2.1 - u13.1)))) + (w64 (u13.2.1 * (w64 (u13.2.2.2 - u13.2.1)))))))) ≤ 0)) = true then k27 (true) else k27 ((decide ((w64 ((w64 ((w64 (u13.2.2.1 - u13.1)) * (w64 (u13.2.2.1 - u13.1)))) + (w64 ((w64 (u13.2.2.2 - u13.2.1)) * (w64 (u13.2.2.2 - u13.2.1)))))) ≤ (w64 (0 - (w64 ((w64 (u13.1 * (w64 (u13.2.2.1 - u13.1)))) + (w64 (u13.2.1 * (w64 (u13.2.2.2 - u13.2.1)))))))))))))
def F_spec_l1Most (x0 : Int) (x1 : Int) : Option Int :=
  (if (decide (x1 < x0)) = true then some x0 else some x1)
def F_spec_l1Abs (x0 : Int) : Option Int :=
  Option.bind (F_spec_l1Most x0 (w64 (0 - x0))) fun u3 =>
  some u3
def F_spec_mvPart_L1 (x0 : Int) (x1 : Int) : Nat → Int → Int → Option (Int × Int)
  | 0, _, _ => none
  | m + 1, y13, y14 => (if (decide (0 < y14)) = true then (if y14 = 0 then none else (F_spec_mvPart_L1 x0 x1 m) (y14) ((Int.tmod y13 y14))) else (if y13 = 0 then none else (if y13 = 0 then none else some ((w64 (Int.tdiv x0 y13)), (w64 (Int.tdiv x1 y13))))))
def F_spec_mvPart (x0 : Int) (x1 : Int) : Option (Int × Int) :=
  Option.bind (F_spec_l1Abs x0) fun u3 =>
  F_spec_mvPart_L1 x0 x1 FU (u3) (x1)
def F_spec_l1Least (x0 : Int) (x1 : Int) : Option Int :=
  (if (decide (x0 < x1)) = true then some x0 else some x1)
def F_spec_apLeast (x0 : ((Int × Int) × (Int × Int) × Int)) (x1 : ((Int × Int) × (Int × Int) × Int)) : Option (Int × Int) :=
  Option.bind (F_spec_apEnds x0 x1) fun u13 =>
  Option.bind (F_spec_apInner x0 x1) fun u21 =>
  (if (decide (0 < u21.2)) = true then Option.bind (F_spec_mvPart (w64 ((w64 ((w64 (u13.1 * u13.2.2.2)) - (w64 (u13.2.1 * u13.2.2.1)))) * (w64 ((w64 (u13.1 * u13.2.2.2)) - (w64 (u13.2.1 * u13.2.2.1)))))) u21.2) fun u31 =>
  some u31 else Option.bind (F_spec_l1Least (w64 ((w64 (u13.1 * u13.1)) + (w64 (u13.2.1 * u13.2.1)))) (w64 ((w64 (u13.2.2.1 * u13.2.2.1)) + (w64 (u13.2.2.2 * u13.2.2.2))))) fun u38 =>
  some (u38, 1))
def F_spec_apStay (x0 : ((Int × Int) × (Int × Int) × Int)) (x1 : ((Int × Int) × (Int × Int) × Int)) (x2 : Int) : Option Bool :=
  Option.bind (F_spec_apLeast x0 x1) fun u13 =>
  some (decide ((w64 ((w64 (x2 * x2)) * u13.2)) ≤ u13.1))
def F_spec_swClose_L2 (u8 : (List ((Int × Int) × (Int × Int) × Int))) (u35 : ((Int × Int) × (Int × Int) × Int)) (x0 : ((List (List (Int × Int))) × (List Int) × Int × Int)) (y25 : Int) (nx26 : ((List (List Int)) → Int → Option (List (List Int)))) : Nat → (List (List Int)) → Int → Option (List (List Int))
  | 0, _, _ => none
  | m + 1, l52, y55 => (if (decide (y55 < (List.length u8 : Int))) = true then jK1 (fun (l66 : (List (List Int))) => (F_spec_swClose_L2 u8 u35 x0 y25 nx26 m) (l66) ((w64 (y55 + 1)))) (fun k69 => Option.bind (idx u8 y55) fun u77 =>
  Option.bind (F_spec_apStay u35 u77 x0.2.2.1) fun u81 =>
  (if (!u81) = true then Option.bind (app l52 [[y25, y55]]) fun u104 =>
  k69 (u104) else k69 (l52))) else nx26 (l52) ((w64 (y25 + 1))))
def F_spec_swClose_L1 (u8 : (List ((Int × Int) × (Int × Int) × Int))) (x0 : ((List (List (Int × Int))) × (List Int) × Int × Int)) : Nat → (List (List Int)) → Int → Option (List (List Int))
  | 0, _, _ => none
  | m + 1, l22, y25 => (if (decide (y25 < (List.length u8 : Int))) = true then Option.bind (idx u8 y25) fun u35 =>
  F_spec_swClose_L2 u8 u35 x0 y25 (F_spec_swClose_L1 u8 x0 m) FU (l22) ((w64 (y25 + 1))) else some l22)
def F_spec_swClose (x0 : ((List (List (Int × Int))) × (List Int) × Int × Int)) (x1 : Int) : Option (List (List Int)) :=
  Option.bind (F_spec_swMoves x0 x1) fun u8 =>
  F_spec_swClose_L1 u8 x0 FU ([]) (0)
def F_spec_stSquare (x0 : (Int × Int)) (x1 : (Int × Int)) : Option Int :=
  some (w64 ((w64 ((w64 (x0.1 - x1.1)) * (w64 (x0.1 - x1.1)))) + (w64 ((w64 (x0.2 - x1.2)) * (w64 (x0.2 - x1.2))))))
def F_spec_mvWithin (x0 : ((Int × Int) × (Int × Int) × Int)) (x1 : Int) : Option Bool :=
  Option.bind (F_spec_stSquare x0.1 x0.2.1) fun u13 =>
  some (decide (u13 ≤ (w64 ((w64 ((w64 (x1 * x1)) * x0.2.2)) * x0.2.2))))
def F_spec_swWide_L1 (u10 : (List ((Int × Int) × (Int × Int) × Int))) (x0 : ((List (List (Int × Int))) × (List Int) × Int × Int)) : Nat → (List Int) → Int → Option (List Int)
  | 0, _, _ => none
  | m + 1, l21, y24 => (if (decide (y24 < (List.length u10 : Int))) = true then jK1 (fun (l36 : (List Int)) => (F_spec_swWide_L1 u10 x0 m) (l36) ((w64 (y24 + 1)))) (fun k39 => Option.bind (idx u10 y24) fun u42 =>
  Option.bind (F_spec_mvWithin u42 x0.2.2.2) fun u56 =>
  (if (!u56) = true then Option.bind (app l21 [y24]) fun u69 =>
  k39 (u69) else k39 (l21))) else some l21)
def F_spec_swWide (x0 : ((List (List (Int × Int))) × (List Int) × Int × Int)) (x1 : Int) : Option (List Int) :=
  Option.bind (F_spec_swMoves x0 x1) fun u10 =>
  F_spec_swWide_L1 u10 x0 FU ([]) (0)
def F_spec_swUnsafe_L1 (x0 : ((List (List (Int × Int))) × (List Int) × Int × Int)) : Nat → (List Int) → Int → Option (List Int)
  | 0, _, _ => none
  | m + 1, l13, y16 => (if (decide (y16 < (List.length x0.2.1 : Int))) = true then jK1 (fun (l28 : (List Int)) => (F_spec_swUnsafe_L1 x0 m) (l28) ((w64 (y16 + 1)))) (fun k31 => Option.bind (F_spec_swClose x0 y16) fun u40 =>
  Option.bind (F_spec_swWide x0 y16) fun u49 =>
  (if (decide (0 < (w64 ((List.length u40 : Int) + (List.length u49 : Int))))) = true then Option.bind (app l13 [y16]) fun u65 =>
  k31 (u65) else k31 (l13))) else some l13)
def F_spec_swUnsafe (x0 : ((List (List (Int × Int))) × (List Int) × Int × Int)) : Option (List Int) :=
  F_spec_swUnsafe_L1 x0 FU ([]) (0)
def F_spec_CanPublish (x0 : ((List (List (Int × Int))) × (List Int) × Int × Int)) : Option (Bool × Bool) :=
  Option.bind (F_spec_swGood x0) fun u9 =>
  (if (!u9) = true then some (false, false) else Option.bind (F_spec_swUnsafe x0) fun u18 =>
  some (((List.length u18 : Int) == 0), true))
def F_impl_within (x0 : Int) (x1 : Int) (x2 : Int) : Option Bool :=
  jK1 (fun (y6 : Bool) => some y6) (fun k7 => (if (decide (x1 ≤ x0)) = true then k7 ((decide (x0 ≤ x2))) else k7 (false)))
def F_impl_IsSpot (x0 : (Int × Int)) : Option Bool :=
  jK1 (fun (y11 : Bool) => some y11) (fun k12 => Option.bind (F_impl_within x0.1 0 1280) fun u14 =>
  (if u14 = true then Option.bind (F_impl_within x0.2 0 672) fun u21 =>
  k12 (u21) else k12 (false)))
def F_slices_Index_impl_Spot_impl_Spot_L1 (x0 : (List (Int × Int))) (x1 : (Int × Int)) : Nat → Int → Option Int
  | 0, _ => none
  | m + 1, y12 => (if (decide (y12 < (List.length x0 : Int))) = true then Option.bind (idx x0 y12) fun u27 =>
  (if (eqv_Spot x1 u27) = true then some y12 else (F_slices_Index_impl_Spot_impl_Spot_L1 x0 x1 m) ((w64 (y12 + 1)))) else some (-1))
def F_slices_Index_impl_Spot_impl_Spot (x0 : (List (Int × Int))) (x1 : (Int × Int)) : Option Int :=
  F_slices_Index_impl_Spot_impl_Spot_L1 x0 x1 FU (0)
def F_slices_Contains_impl_Spot_impl_Spot (x0 : (List (Int × Int))) (x1 : (Int × Int)) : Option Bool :=
  Option.bind (F_slices_Index_impl_Spot_impl_Spot x0 x1) fun u8 =>
  some (decide (0 ≤ u8))
def F_impl_IsChart_L1 (x0 : (List (Int × Int))) : Nat → Int → Option Bool
  | 0, _ => none
  | m + 1, y17 => (if (decide (y17 < (List.length x0 : Int))) = true then Option.bind (idx x0 y17) fun u26 =>
  jK1 (fun (y42 : Bool) => (if y42 = true then some false else (F_impl_IsChart_L1 x0 m) ((w64 (y17 + 1))))) (fun k43 => Option.bind (F_impl_IsSpot u26) fun u52 =>
  (if (!u52) = true then k43 (true) else Option.bind (sl x0 0 y17) fun u60 =>
  Option.bind (F_slices_Contains_impl_Spot_impl_Spot u60 u26) fun u63 =>
  k43 (u63))) else some true)
def F_impl_IsChart (x0 : (List (Int × Int))) : Option Bool :=
  Option.bind (F_impl_within (List.length x0 : Int) 1 12) fun u4 =>
  (if (!u4) = true then some false else F_impl_IsChart_L1 x0 FU (0))
def F_impl_areCharts_L2 (x1 : (List Int)) : Nat → Int → Option Bool
  | 0, _ => none
  | m + 1, y57 => (if (decide (y57 < (List.length x1 : Int))) = true then Option.bind (idx x1 y57) fun u66 =>
  Option.bind (F_impl_within u66 1 64) fun u70 =>
  (if (!u70) = true then some false else (F_impl_areCharts_L2 x1 m) ((w64 (y57 + 1)))) else some true)
def F_impl_areCharts_L1 (x0 : (List (List (Int × Int)))) (x1 : (List Int)) : Nat → Int → Option Bool
  | 0, _ => none
  | m + 1, y17 => (if (decide (y17 < (List.length x0 : Int))) = true then Option.bind (idx x0 y17) fun u26 =>
  jK1 (fun (y35 : Bool) => (if y35 = true then some false else (F_impl_areCharts_L1 x0 x1 m) ((w64 (y17 + 1))))) (fun k36 => Option.bind (F_impl_IsChart u26) fun u40 =>
  (if (!u40) = true then k36 (true) else Option.bind (idx x0 0) fun u47 =>
  k36 (((List.length u26 : Int) != (List.length u47 : Int))))) else F_impl_areCharts_L2 x1 FU (0))
def F_impl_areCharts (x0 : (List (List (Int × Int)))) (x1 : (List Int)) : Option Bool :=
  jK1 (fun (y7 : Bool) => (if y7 = true then some false else F_impl_areCharts_L1 x0 x1 FU (0))) (fun k8 => Option.bind (F_impl_within (List.length x0 : Int) 1 9) fun u79 =>
  (if (!u79) = true then k8 (true) else k8 (((List.length x1 : Int) != (w64 ((List.length x0 : Int) - 1))))))
def F_impl_isLeast (x0 : Int) : Option Bool :=
  Option.bind (F_impl_within x0 0 80) fun u3 =>
  some u3
def F_impl_IsShow (x0 : ((List (List (Int × Int))) × (List Int) × Int × Int)) : Option Bool :=
  jK1 (fun (y11 : Bool) => some y11) (fun k12 => Option.bind (F_impl_within (List.length x0.1 : Int) 2 8) fun u14 =>
  (if u14 = true then Option.bind (F_impl_areCharts x0.1 x0.2.1) fun u21 =>
  (if u21 = true then Option.bind (F_impl_isLeast x0.2.2.1) fun u28 =>
  (if u28 = true then Option.bind (F_impl_within x0.2.2.2 1 24) fun u35 =>
  k12 (u35) else k12 (false)) else k12 (false)) else k12 (false)))
def F_impl_showMoves_L1 (u16 : (List (Int × Int))) (x0 : ((List (List (Int × Int))) × (List Int) × Int × Int)) (x1 : Int) : Nat → (List ((Int × Int) × (Int × Int) × Int)) → Int → Option (List ((Int × Int) × (Int × Int) × Int))
  | 0, _, _ => none
  | m + 1, l24, y27 => (if (decide (y27 < (List.length u16 : Int))) = true then Option.bind (idx u16 y27) fun u36 =>
  Option.bind (idx x0.1 (w64 (x1 + 1))) fun u53 =>
  Option.bind (idx u53 y27) fun u58 =>
  Option.bind (idx x0.2.1 x1) fun u61 =>
  Option.bind (app l24 [(u36, u58, u61)]) fun u75 =>
  (F_impl_showMoves_L1 u16 x0 x1 m) (u75) ((w64 (y27 + 1))) else some l24)
def F_impl_showMoves (x0 : ((List (List (Int × Int))) × (List Int) × Int × Int)) (x1 : Int) : Option (List ((Int × Int) × (Int × Int) × Int)) :=
  Option.bind (idx x0.1 x1) fun u16 =>
  F_impl_showMoves_L1 u16 x0 x1 FU ([]) (0)
def F_impl_squareOf (x0 : (Int × Int)) (x1 : (Int × Int)) : Option Int :=
  some (w64 ((w64 ((w64 (x0.1 - x1.1)) * (w64 (x0.1 - x1.1)))) + (w64 ((w64 (x0.2 - x1.2)) * (w64 (x0.2 - x1.2))))))
def F_impl_withinStep (x0 : ((Int × Int) × (Int × Int) × Int)) (x1 : Int) : Option Bool :=
  Option.bind (F_impl_squareOf x0.1 x0.2.1) fun u13 =>
  some (decide (u13 ≤ (w64 ((w64 ((w64 (x1 * x1)) * x0.2.2)) * x0.2.2))))
def F_impl_wideSteps_L1 (u16 : (List ((Int × Int) × (Int × Int) × Int))) (x0 : ((List (List (Int × Int))) × (List Int) × Int × Int)) : Nat → (List Int) → Int → Option (List Int)
  | 0, _, _ => none
  | m + 1, l27, y30 => (if (decide (y30 < (List.length u16 : Int))) = true then jK1 (fun (l41 : (List Int)) => (F_impl_wideSteps_L1 u16 x0 m) (l41) ((w64 (y30 + 1)))) (fun k44 => Option.bind (idx u16 y30) fun u47 =>
  Option.bind (F_impl_withinStep u47 x0.2.2.2) fun u61 =>
  (if (!u61) = true then Option.bind (app l27 [y30]) fun u74 =>
  k44 (u74) else k44 (l27))) else some l27)
def F_impl_wideSteps (x0 : ((List (List (Int × Int))) × (List Int) × Int × Int)) (x1 : Int) : Option (List Int) :=
  Option.bind (F_impl_showMoves x0 x1) fun u16 =>
  F_impl_wideSteps_L1 u16 x0 FU ([]) (0)
def F_impl_between (x0 : ((Int × Int) × (Int × Int) × Int)) (x1 : ((Int × Int) × (Int × Int) × Int)) : Option ((Int × Int) × (Int × Int) × Int × Int) :=
  some (((w64 (x0.1.1 - x1.1.1)), (w64 (x0.1.2 - x1.1.2))), ((w64 ((w64 (x0.2.1.1 - x1.2.1.1)) - (w64 (x0.1.1 - x1.1.1)))), (w64 ((w64 (x0.2.1.2 - x1.2.1.2)) - (w64 (x0.1.2 - x1.1.2))))), (w64 ((w64 ((w64 (x0.1.1 - x1.1.1)) * (w64 ((w64 (x0.2.1.1 - x1.2.1.1)) - (w64 (x0.1.1 - x1.1.1)))))) + (w64 ((w64 (x0.1.2 - x1.1.2)) * (w64 ((w64 (x0.2.1.2 - x1.2.1.2)) - (w64 (x0.1.2 - x1.1.2)))))))), (w64 ((w64 ((w64 ((w64 (x0.2.1.1 - x1.2.1.1)) - (w64 (x0.1.1 - x1.1.1)))) * (w64 ((w64 (x0.2.1.1 - x1.2.1.1)) - (w64 (x0.1.1 - x1.1.1)))))) + (w64 ((w64 ((w64 (x0.2.1.2 - x1.2.1.2)) - (w64 (x0.1.2 - x1.1.2)))) * (w64 ((w64 (x0.2.1.2 - x1.2.1.2)) - (w64 (x0.1.2 - x1.1.2)))))))))
def F_impl_gcdOf_L1  : Nat → Int → Int → Option Int
  | 0, _, _ => none
  | m + 1, y7, y8 => (if (y8 != 0) = true then (if y8 = 0 then none else (F_impl_gcdOf_L1 m) (y8) ((Int.tmod y7 y8))) else some y7)
def F_impl_gcdOf (x0 : Int) (x1 : Int) : Option Int :=
  F_impl_gcdOf_L1 FU ((maxI x0 (w64 (0 - x0)))) ((maxI x1 (w64 (0 - x1))))
def F_impl_lowestTerms (x0 : Int) (x1 : Int) : Option (Int × Int) :=
  Option.bind (F_impl_gcdOf x0 x1) fun u3 =>
  (if u3 = 0 then none else (if u3 = 0 then none else some ((w64 (Int.tdiv x0 u3)), (w64 (Int.tdiv x1 u3)))))
def F_impl_leastApart (x0 : ((Int × Int) × (Int × Int) × Int)) (x1 : ((Int × Int) × (Int × Int) × Int)) : Option (Int × Int) :=
  Option.bind (F_impl_between x0 x1) fun u13 =>
  (if (decide (0 ≤ u13.2.2.1)) = true then some ((w64 ((w64 (u13.1.1 * u13.1.1)) + (w64 (u13.1.2 * u13.1.2)))), 1) else (if (decide (u13.2.2.2 ≤ (w64 (0 - u13.2.2.1)))) = true then Option.bind (F_impl_squareOf x0.2.1 x1.2.1) fun u44 =>
  some (u44, 1) else Option.bind (F_impl_lowestTerms (w64 ((w64 ((w64 (u13.1.1 * u13.2.1.2)) - (w64 (u13.1.2 * u13.2.1.1)))) * (w64 ((w64 (u13.1.1 * u13.2.1.2)) - (w64 (u13.1.2 * u13.2.1.1)))))) u13.2.2.2) fun u52 =>
  some u52))
def F_impl_stayApart (x0 : ((Int × Int) × (Int × Int) × Int)) (x1 : ((Int × Int) × (Int × Int) × Int)) (x2 : Int) : Option Bool :=
  Option.bind (F_impl_leastApart x0 x1) fun u13 =>
  some (decide ((w64 ((w64 (x2 * x2)) * u13.2)) ≤ u13.1))
def F_impl_pairsTooClose_L2 (x0 : (List ((Int × Int) × (Int × Int) × Int))) (y17 : Int) (x1 : Int) (nx18 : ((List (List Int)) → Int → Option (List (List Int)))) : Nat → (List (List Int)) → Int → Option (List (List Int))
  | 0, _, _ => none
  | m + 1, l30, y33 => (if (decide (y33 < (List.length x0 : Int))) = true then jK1 (fun (l44 : (List (List Int))) => (F_impl_pairsTooClose_L2 x0 y17 x1 nx18 m) (l44) ((w64 (y33 + 1)))) (fun k47 => Option.bind (idx x0 y17) fun u55 =>
  Option.bind (idx x0 y33) fun u58 =>
  Option.bind (F_impl_stayApart u55 u58 x1) fun u61 =>
  (if (!u61) = true then Option.bind (app l30 [[y17, y33]]) fun u84 =>
  k47 (u84) else k47 (l30))) else nx18 (l30) ((w64 (y17 + 1))))
def F_impl_pairsTooClose_L1 (x0 : (List ((Int × Int) × (Int × Int) × Int))) (x1 : Int) : Nat → (List (List Int)) → Int → Option (List (List Int))
  | 0, _, _ => none
  | m + 1, l14, y17 => (if (decide (y17 < (List.length x0 : Int))) = true then F_impl_pairsTooClose_L2 x0 y17 x1 (F_impl_pairsTooClose_L1 x0 x1 m) FU (l14) ((w64 (y17 + 1))) else some l14)
def F_impl_pairsTooClose (x0 : (List ((Int × Int) × (Int × Int) × Int))) (x1 : Int) : Option (List (List Int)) :=
  F_impl_pairsTooClose_L1 x0 x1 FU ([]) (0)
def F_impl_unsafParts_L1 (x0 : ((List (List (Int × Int))) × (List Int) × Int × Int)) : Nat → (List Int) → Int → Option (List Int)
  | 0, _, _ => none
  | m + 1, l19, y22 => (if (decide (y22 < (List.length x0.2.1 : Int))) = true then jK1 (fun (l33 : (List Int)) => (F_impl_unsafParts_L1 x0 m) (l33) ((w64 (y22 + 1)))) (fun k36 => jK1 (fun (y43 : Bool) => (if y43 = true then Option.bind (app l19 [y22]) fun u53 =>
  k36 (u53) else k36 (l19))) (fun k44 => Option.bind (F_impl_wideSteps x0 y22) fun u65 =>
  (if (decide (0 < (List.length u65 : Int))) = true then k44 (true) else Option.bind (F_impl_showMoves x0 y22) fun u75 =>
  Option.bind (F_impl_pairsTooClose u75 x0.2.2.1) fun u84 =>
  k44 ((decide (0 < (List.length u84 : Int))))))) else some l19)
def F_impl_unsafParts (x0 : ((List (List (Int × Int))) × (List Int) × Int × Int)) : Option (List Int) :=
  F_impl_unsafParts_L1 x0 FU ([]) (0)
def F_impl_CanPublish (x0 : ((List (List (Int × Int))) × (List Int) × Int × Int)) : Option (Bool × Bool) :=
  Option.bind (F_impl_IsShow x0) fun u9 =>
  (if (!u9) = true then some (false, false) else Option.bind (F_impl_unsafParts x0) fun u18 =>
  some (((List.length u18 : Int) == 0), true))
def F_laws_eqSpot (x0 : (Int × Int)) (x1 : (Int × Int)) : Option Bool :=
  (if (x0.1 != x1.1) = true then some false else (if (x0.2 != x1.2) = true then some false else some true))
def F_laws_eqSpotS_L1 (x0 : (List (Int × Int))) (x1 : (List (Int × Int))) : Nat → Int → Option Bool
  | 0, _ => none
  | m + 1, y11 => (if (decide (y11 < (List.length x0 : Int))) = true then Option.bind (idx x0 y11) fun u25 =>
  Option.bind (idx x1 y11) fun u28 =>
  Option.bind (F_laws_eqSpot u25 u28) fun u31 =>
  (if (!u31) = true then some false else (F_laws_eqSpotS_L1 x0 x1 m) ((w64 (y11 + 1)))) else some true)
def F_laws_eqSpotS (x0 : (List (Int × Int))) (x1 : (List (Int × Int))) : Option Bool :=
  (if ((List.length x0 : Int) != (List.length x1 : Int)) = true then some false else F_laws_eqSpotS_L1 x0 x1 FU (0))
def F_laws_eqSpotSS_L1 (x0 : (List (List (Int × Int)))) (x1 : (List (List (Int × Int)))) : Nat → Int → Option Bool
  | 0, _ => none
  | m + 1, y11 => (if (decide (y11 < (List.length x0 : Int))) = true then Option.bind (idx x0 y11) fun u25 =>
  Option.bind (idx x1 y11) fun u30 =>
  Option.bind (F_laws_eqSpotS u25 u30) fun u35 =>
  (if (!u35) = true then some false else (F_laws_eqSpotSS_L1 x0 x1 m) ((w64 (y11 + 1)))) else some true)
def F_laws_eqSpotSS (x0 : (List (List (Int × Int)))) (x1 : (List (List (Int × Int)))) : Option Bool :=
  (if ((List.length x0 : Int) != (List.length x1 : Int)) = true then some false else F_laws_eqSpotSS_L1 x0 x1 FU (0))
def F_laws_eqIntS_L1 (x0 : (List Int)) (x1 : (List Int)) : Nat → Int → Option Bool
  | 0, _ => none
  | m + 1, y11 => (if (decide (y11 < (List.length x0 : Int))) = true then Option.bind (idx x0 y11) fun u25 =>
  Option.bind (idx x1 y11) fun u28 =>
  (if (u25 != u28) = true then some false else (F_laws_eqIntS_L1 x0 x1 m) ((w64 (y11 + 1)))) else some true)
def F_laws_eqIntS (x0 : (List Int)) (x1 : (List Int)) : Option Bool :=
  (if ((List.length x0 : Int) != (List.length x1 : Int)) = true then some false else F_laws_eqIntS_L1 x0 x1 FU (0))
def F_laws_eqShow (x0 : ((List (List (Int × Int))) × (List Int) × Int × Int)) (x1 : ((List (List (Int × Int))) × (List Int) × Int × Int)) : Option Bool :=
  Option.bind (F_laws_eqSpotSS x0.1 x1.1) fun u14 =>
  (if (!u14) = true then some false else Option.bind (F_laws_eqIntS x0.2.1 x1.2.1) fun u24 =>
  (if (!u24) = true then some false else (if (x0.2.2.1 != x1.2.2.1) = true then some false else (if (x0.2.2.2 != x1.2.2.2) = true then some false else some true))))
def F_laws_FnExactCanPublish (x0 : ((List (List (Int × Int))) × (List Int) × Int × Int)) : Option Bool :=
  Option.bind (F_laws_szShow x0 1048576) fun u9 =>
  (if (decide (u9 < 0)) = true then some true else Option.bind (F_laws_toShow x0) fun u20 =>
  Option.bind (F_spec_CanPublish u20) fun u30 =>
  Option.bind (F_laws_toShow x0) fun u37 =>
  Option.bind (F_impl_CanPublish u37) fun u57 =>
  jK1 (fun (y68 : Bool) => (if y68 = true then some false else Option.bind (F_laws_toShow x0) fun u80 =>
  Option.bind (F_laws_eqShow u37 u80) fun u91 =>
  (if (!u91) = true then some false else some true))) (fun k69 => (if (u57.1 != u30.1) = true then k69 (true) else k69 ((u57.2 != u30.2)))))
def F_spec_mvGood (x0 : ((Int × Int) × (Int × Int) × Int)) : Option Bool :=
  jK1 (fun (y11 : Bool) => some y11) (fun k12 => Option.bind (F_spec_stGood x0.1) fun u14 =>
  (if u14 = true then Option.bind (F_spec_stGood x0.2.1) fun u21 =>
  (if u21 = true then Option.bind (F_spec_l1In x0.2.2 1 64) fun u28 =>
  k12 (u28) else k12 (false)) else k12 (false)))
def F_spec_apGood (x0 : ((Int × Int) × (Int × Int) × Int)) (x1 : ((Int × Int) × (Int × Int) × Int)) : Option Bool :=
  jK1 (fun (y16 : Bool) => some y16) (fun k17 => Option.bind (F_spec_mvGood x0) fun u19 =>
  (if u19 = true then Option.bind (F_spec_mvGood x1) fun u26 =>
  (if u26 = true then k17 ((x0.2.2 == x1.2.2)) else k17 (false)) else k17 (false)))
def F_spec_apList_L1 (x0 : (List ((Int × Int) × (Int × Int) × Int))) : Nat → Int → Option Bool
  | 0, _ => none
  | m + 1, y7 => (if (decide (y7 < (List.length x0 : Int))) = true then Option.bind (idx x0 y7) fun u16 =>
  Option.bind (idx x0 0) fun u34 =>
  Option.bind (F_spec_apGood u34 u16) fun u37 =>
  (if (!u37) = true then some false else (F_spec_apList_L1 x0 m) ((w64 (y7 + 1)))) else Option.bind (F_spec_l1In (List.length x0 : Int) 2 12) fun u47 =>
  some u47)
def F_spec_apList (x0 : (List ((Int × Int) × (Int × Int) × Int))) : Option Bool :=
  F_spec_apList_L1 x0 FU (0)
def F_spec_apLess (x0 : Int) (x1 : Int) (x2 : Int) (x3 : Int) : Option Bool :=
  (if x1 = 0 then none else (if x3 = 0 then none else (if ((w64 (Int.tdiv x0 x1)) != (w64 (Int.tdiv x2 x3))) = true then (if x1 = 0 then none else (if x3 = 0 then none else some (decide ((w64 (Int.tdiv x0 x1)) < (w64 (Int.tdiv x2 x3)))))) else (if x1 = 0 then none else (if x3 = 0 then none else some (decide ((w64 ((Int.tmod x0 x1) * x3)) < (w64 ((Int.tmod x2 x3) * x1)))))))))
def F_spec_apClosest_L2 (x0 : (List ((Int × Int) × (Int × Int) × Int))) (u40 : ((Int × Int) × (Int × Int) × Int)) (y31 : Int) (nx32 : (Int → Int → Int → Int → Int → Option (Int × Int))) : Nat → Int → Int → Int → Int → Int → Option (Int × Int)
  | 0, _, _, _, _, _ => none
  | m + 1, y56, y57, y58, y59, y60 => (if (decide (y60 < (List.length x0 : Int))) = true then jK4 (fun (y71 : Int) (y72 : Int) (y73 : Int) (y74 : Int) => (F_spec_apClosest_L2 x0 u40 y31 nx32 m) (y71) (y72) (y73) (y74) ((w64 (y60 + 1)))) (fun k75 => Option.bind (idx x0 y60) fun u83 =>
  Option.bind (F_spec_apLeast u40 u83) fun u86 =>
  Option.bind (F_spec_apLess u86.1 u86.2 y58 y59) fun u94 =>
  (if u94 = true then k75 (y31) (y60) (u86.1) (u86.2) else k75 (y56) (y57) (y58) (y59))) else nx32 (y56) (y57) (y58) (y59) ((w64 (y31 + 1))))
def F_spec_apClosest_L1 (x0 : (List ((Int × Int) × (Int × Int) × Int))) : Nat → Int → Int → Int → Int → Int → Option (Int × Int)
  | 0, _, _, _, _, _ => none
  | m + 1, y27, y28, y29, y30, y31 => (if (decide (y31 < (List.length x0 : Int))) = true then Option.bind (idx x0 y31) fun u40 =>
  F_spec_apClosest_L2 x0 u40 y31 (F_spec_apClosest_L1 x0 m) FU (y27) (y28) (y29) (y30) ((w64 (y31 + 1))) else some (y27, y28))
def F_spec_apClosest (x0 : (List ((Int × Int) × (Int × Int) × Int))) : Option (Int × Int) :=
  Option.bind (idx x0 0) fun u9 =>
  Option.bind (idx x0 1) fun u12 =>
  Option.bind (F_spec_apLeast u9 u12) fun u15 =>
  F_spec_apClosest_L1 x0 FU (0) (1) (u15.1) (u15.2) (0)
def F_spec_LeastOfAll (x0 : (List ((Int × Int) × (Int × Int) × Int))) : Option (Int × Int × Bool) :=
  Option.bind (F_spec_apList x0) fun u4 =>
  (if (!u4) = true then some (0, 0, false) else Option.bind (F_spec_apClosest x0) fun u13 =>
  Option.bind (idx x0 u13.1) fun u25 =>
  Option.bind (idx x0 u13.2) fun u28 =>
  Option.bind (F_spec_apLeast u25 u28) fun u31 =>
  some (u31.1, u31.2, true))
def F_spec_LeastOfShow_L1 (x0 : ((List (List (Int × Int))) × (List Int) × Int × Int)) : Nat → Int → Int → Int → Option (Int × Int × Bool)
  | 0, _, _, _ => none
  | m + 1, y23, y24, y25 => (if (decide (y25 < (List.length x0.2.1 : Int))) = true then jK2 (fun (y36 : Int) (y37 : Int) => (F_spec_LeastOfShow_L1 x0 m) (y36) (y37) ((w64 (y25 + 1)))) (fun k38 => Option.bind (F_spec_swMoves x0 y25) fun u42 =>
  Option.bind (F_spec_LeastOfAll u42) fun u50 =>
  jK1 (fun (y60 : Bool) => (if y60 = true then k38 (u50.1) (u50.2.1) else k38 (y23) (y24))) (fun k61 => (if (decide (y23 < 0)) = true then k61 (true) else Option.bind (F_spec_apLess u50.1 u50.2.1 y23 y24) fun u66 =>
  k61 (u66)))) else some (y23, y24, true))
def F_spec_LeastOfShow (x0 : ((List (List (Int × Int))) × (List Int) × Int × Int)) : Option (Int × Int × Bool) :=
  jK1 (fun (y12 : Bool) => (if y12 = true then some (0, 0, false) else F_spec_LeastOfShow_L1 x0 FU ((-1)) (1) (0))) (fun k13 => Option.bind (F_spec_swGood x0) fun u73 =>
  (if (!u73) = true then k13 (true) else Option.bind (idx x0.1 0) fun u80 =>
  k13 ((decide ((List.length u80 : Int) < 2)))))
def F_spec_LeastToKeep_L1 (u27 : (Int × Int × Bool)) : Nat → Int → Option (Int × Bool)
  | 0, _ => none
  | m + 1, y38 => (if (decide (u27.1 < (w64 ((w64 (y38 * y38)) * u27.2.1)))) = true then (F_spec_LeastToKeep_L1 u27 m) ((w64 (y38 - 1))) else some (y38, true))
def F_spec_LeastToKeep (x0 : ((List (List (Int × Int))) × (List Int) × Int × Int)) : Option (Int × Bool) :=
  Option.bind (F_spec_swGood x0) fun u9 =>
  (if (!u9) = true then some (0, false) else Option.bind (idx x0.1 0) fun u19 =>
  (if (decide ((List.length u19 : Int) < 2)) = true then some (80, true) else Option.bind (F_spec_LeastOfShow x0) fun u27 =>
  F_spec_LeastToKeep_L1 u27 FU (80)))
def F_impl_LeastToKeep_L2 (u34 : (List ((Int × Int) × (Int × Int) × Int))) (nx25 : (Int → Int → Option (Int × Bool))) (y24 : Int) : Nat → Int → Option (Int × Bool)
  | 0, _ => none
  | m + 1, y45 => Option.bind (F_impl_pairsTooClose u34 y45) fun u51 =>
  (if (decide (0 < (List.length u51 : Int))) = true then (F_impl_LeastToKeep_L2 u34 nx25 y24 m) ((w64 (y45 - 1))) else nx25 (y45) ((w64 (y24 + 1))))
def F_impl_LeastToKeep_L1 (x0 : ((List (List (Int × Int))) × (List Int) × Int × Int)) : Nat → Int → Int → Option (Int × Bool)
  | 0, _, _ => none
  | m + 1, y23, y24 => (if (decide (y24 < (List.length x0.2.1 : Int))) = true then Option.bind (F_impl_showMoves x0 y24) fun u34 =>
  F_impl_LeastToKeep_L2 u34 (F_impl_LeastToKeep_L1 x0 m) y24 FU (y23) else some (y23, true))
def F_impl_LeastToKeep (x0 : ((List (List (Int × Int))) × (List Int) × Int × Int)) : Option (Int × Bool) :=
  Option.bind (F_impl_IsShow x0) fun u9 =>
  (if (!u9) = true then some (0, false) else F_impl_LeastToKeep_L1 x0 FU (80) (0))
def F_laws_FnExactLeastToKeep (x0 : ((List (List (Int × Int))) × (List Int) × Int × Int)) : Option Bool :=
  Option.bind (F_laws_szShow x0 1048576) fun u9 =>
  (if (decide (u9 < 0)) = true then some true else Option.bind (F_laws_toShow x0) fun u20 =>
  Option.bind (F_spec_LeastToKeep u20) fun u30 =>
  Option.bind (F_laws_toShow x0) fun u37 =>
  Option.bind (F_impl_LeastToKeep u37) fun u57 =>
  jK1 (fun (y68 : Bool) => (if y68 = true then some false else Option.bind (F_laws_toShow x0) fun u80 =>
  Option.bind (F_laws_eqShow u37 u80) fun u91 =>
  (if (!u91) = true then some false else some true))) (fun k69 => (if (u57.1 != u30.1) = true then k69 (true) else k69 ((u57.2 != u30.2)))))
def F_bits_Mul64 (x0 : Int) (x1 : Int) : Option (Int × Int) :=
  some ((wu64 ((wu64 ((wu64 ((shrK .u64 x0 32) * (shrK .u64 x1 32))) + (shrK .u64 (wu64 ((wu64 ((shrK .u64 x0 32) * (andK .u64 x1 4294967295))) + (shrK .u64 (wu64 ((andK .u64 x0 4294967295) * (andK .u64 x1 4294967295))) 32))) 32))) + (shrK .u64 (wu64 ((andK .u64 (wu64 ((wu64 ((shrK .u64 x0 32) * (andK .u64 x1 4294967295))) + (shrK .u64 (wu64 ((andK .u64 x0 4294967295) * (andK .u64 x1 4294967295))) 32))) 4294967295) + (wu64 ((andK .u64 x0 4294967295) * (shrK .u64 x1 32))))) 32))), (wu64 (x0 * x1)))
def F_impl_lessFraction (x0 : Int) (x1 : Int) (x2 : Int) (x3 : Int) : Option Bool :=
  Option.bind (F_bits_Mul64 (wu64 x0) (wu64 x3)) fun u3 =>
  Option.bind (F_bits_Mul64 (wu64 x2) (wu64 x1)) fun u10 =>
  jK1 (fun (y20 : Bool) => some y20) (fun k21 => (if (decide (u3.1 < u10.1)) = true then k21 (true) else (if (u3.1 == u10.1) = true then k21 ((decide (u3.2 < u10.2))) else k21 (false))))
def F_impl_closestMoves_L2 (x0 : (List ((Int × Int) × (Int × Int) × Int))) (y31 : Int) (nx32 : (Int → Int → Int → Int → Int → Option (Int × Int))) : Nat → Int → Int → Int → Int → Int → Option (Int × Int)
  | 0, _, _, _, _, _ => none
  | m + 1, y44, y45, y46, y47, y48 => (if (decide (y48 < (List.length x0 : Int))) = true then jK4 (fun (y59 : Int) (y60 : Int) (y61 : Int) (y62 : Int) => (F_impl_closestMoves_L2 x0 y31 nx32 m) (y59) (y60) (y61) (y62) ((w64 (y48 + 1)))) (fun k63 => Option.bind (idx x0 y31) fun u71 =>
  Option.bind (idx x0 y48) fun u74 =>
  Option.bind (F_impl_leastApart u71 u74) fun u77 =>
  Option.bind (F_impl_lessFraction u77.1 u77.2 y46 y47) fun u85 =>
  (if u85 = true then k63 (y31) (y48) (u77.1) (u77.2) else k63 (y44) (y45) (y46) (y47))) else nx32 (y44) (y45) (y46) (y47) ((w64 (y31 + 1))))
def F_impl_closestMoves_L1 (x0 : (List ((Int × Int) × (Int × Int) × Int))) : Nat → Int → Int → Int → Int → Int → Option (Int × Int)
  | 0, _, _, _, _, _ => none
  | m + 1, y27, y28, y29, y30, y31 => (if (decide (y31 < (List.length x0 : Int))) = true then F_impl_closestMoves_L2 x0 y31 (F_impl_closestMoves_L1 x0 m) FU (y27) (y28) (y29) (y30) ((w64 (y31 + 1))) else some (y27, y28))
def F_impl_closestMoves (x0 : (List ((Int × Int) × (Int × Int) × Int))) : Option (Int × Int) :=
  Option.bind (idx x0 0) fun u9 =>
  Option.bind (idx x0 1) fun u12 =>
  Option.bind (F_impl_leastApart u9 u12) fun u15 =>
  F_impl_closestMoves_L1 x0 FU (0) (1) (u15.1) (u15.2) (0)
def F_impl_LeastOfShow_L1 (x0 : ((List (List (Int × Int))) × (List Int) × Int × Int)) : Nat → Int → Int → Int → Option (Int × Int × Bool)
  | 0, _, _, _ => none
  | m + 1, y23, y24, y25 => (if (decide (y25 < (List.length x0.2.1 : Int))) = true then jK2 (fun (y36 : Int) (y37 : Int) => (F_impl_LeastOfShow_L1 x0 m) (y36) (y37) ((w64 (y25 + 1)))) (fun k38 => Option.bind (F_impl_showMoves x0 y25) fun u42 =>
  Option.bind (F_impl_closestMoves u42) fun u51 =>
  Option.bind (idx u42 u51.1) fun u63 =>
  Option.bind (idx u42 u51.2) fun u67 =>
  Option.bind (F_impl_leastApart u63 u67) fun u71 =>
  jK1 (fun (y82 : Bool) => (if y82 = true then k38 (u71.1) (u71.2) else k38 (y23) (y24))) (fun k83 => (if (y25 == 0) = true then k83 (true) else Option.bind (F_impl_lessFraction u71.1 u71.2 y23 y24) fun u87 =>
  k83 (u87)))) else some (y23, y24, true))
def F_impl_LeastOfShow (x0 : ((List (List (Int × Int))) × (List Int) × Int × Int)) : Option (Int × Int × Bool) :=
  jK1 (fun (y12 : Bool) => (if y12 = true then some (0, 0, false) else F_impl_LeastOfShow_L1 x0 FU (0) (0) (0))) (fun k13 => Option.bind (F_impl_IsShow x0) fun u94 =>
  (if (!u94) = true then k13 (true) else Option.bind (idx x0.1 0) fun u101 =>
  k13 ((decide ((List.length u101 : Int) < 2)))))
def F_laws_FnExactLeastOfShow (x0 : ((List (List (Int × Int))) × (List Int) × Int × Int)) : Option Bool :=
  Option.bind (F_laws_szShow x0 1048576) fun u9 =>
  (if (decide (u9 < 0)) = true then some true else Option.bind (F_laws_toShow x0) fun u20 =>
  Option.bind (F_spec_LeastOfShow u20) fun u30 =>
  Option.bind (F_laws_toShow x0) fun u37 =>
  Option.bind (F_impl_LeastOfShow u37) fun u57 =>
  jK1 (fun (y68 : Bool) => (if y68 = true then some false else Option.bind (F_laws_toShow x0) fun u80 =>
  Option.bind (F_laws_eqShow u37 u80) fun u91 =>
  (if (!u91) = true then some false else some true))) (fun k69 => (if (u57.1 != u30.1) = true then k69 (true) else (if (u57.2.1 != u30.2.1) = true then k69 (true) else k69 ((u57.2.2 != u30.2.2))))))
def F_spec_swHas (x0 : ((List (List (Int × Int))) × (List Int) × Int × Int)) (x1 : Int) : Option Bool :=
  jK1 (fun (y11 : Bool) => some y11) (fun k12 => Option.bind (F_spec_swGood x0) fun u14 =>
  (if u14 = true then Option.bind (F_spec_l1In x1 0 (w64 ((List.length x0.2.1 : Int) - 1))) fun u21 =>
  k12 (u21) else k12 (false)))
def F_spec_ClosePairs (x0 : ((List (List (Int × Int))) × (List Int) × Int × Int)) (x1 : Int) : Option ((List (List Int)) × Bool) :=
  Option.bind (F_spec_swHas x0 x1) fun u9 =>
  (if (!u9) = true then some ([], false) else Option.bind (F_spec_swClose x0 x1) fun u19 =>
  some (u19, true))
def F_impl_isPart (x0 : ((List (List (Int × Int))) × (List Int) × Int × Int)) (x1 : Int) : Option Bool :=
  jK1 (fun (y11 : Bool) => some y11) (fun k12 => Option.bind (F_impl_IsShow x0) fun u14 =>
  (if u14 = true then Option.bind (F_impl_within x1 0 (w64 ((List.length x0.2.1 : Int) - 1))) fun u21 =>
  k12 (u21) else k12 (false)))
def F_impl_ClosePairs (x0 : ((List (List (Int × Int))) × (List Int) × Int × Int)) (x1 : Int) : Option ((List (List Int)) × Bool) :=
  Option.bind (F_impl_isPart x0 x1) fun u9 =>
  (if (!u9) = true then some ([], false) else Option.bind (F_impl_showMoves x0 x1) fun u24 =>
  Option.bind (F_impl_pairsTooClose u24 x0.2.2.1) fun u33 =>
  some (u33, true))
def F_laws_eqIntSS_L1 (x0 : (List (List Int))) (x1 : (List (List Int))) : Nat → Int → Option Bool
  | 0, _ => none
  | m + 1, y11 => (if (decide (y11 < (List.length x0 : Int))) = true then Option.bind (idx x0 y11) fun u25 =>
  Option.bind (idx x1 y11) fun u30 =>
  Option.bind (F_laws_eqIntS u25 u30) fun u35 =>
  (if (!u35) = true then some false else (F_laws_eqIntSS_L1 x0 x1 m) ((w64 (y11 + 1)))) else some true)
def F_laws_eqIntSS (x0 : (List (List Int))) (x1 : (List (List Int))) : Option Bool :=
  (if ((List.length x0 : Int) != (List.length x1 : Int)) = true then some false else F_laws_eqIntSS_L1 x0 x1 FU (0))
def F_laws_markSpotS_L1  : Nat → (List (Int × Int)) → Int → Int → Option (Int × (List (Int × Int)))
  | 0, _, _, _ => none
  | m + 1, l7, y8, y9 => (if (decide (y9 < (List.length l7 : Int))) = true then Option.bind (idx l7 y9) fun u18 =>
  Option.bind (idx (seti l7 y9 (y8, u18.2)) y9) fun u28 =>
  (F_laws_markSpotS_L1 m) ((seti (seti l7 y9 (y8, u18.2)) y9 (u28.1, (w64 (y8 + 1))))) ((w64 ((w64 (y8 + 1)) + 1))) ((w64 (y9 + 1))) else some (y8, l7))
def F_laws_markSpotS (x0 : (List (Int × Int))) (x1 : Int) : Option (Int × (List (Int × Int))) :=
  F_laws_markSpotS_L1 FU (x0) (x1) (0)
def F_laws_markSpotSS_L1  : Nat → (List (List (Int × Int))) → Int → Int → Option (Int × (List (List (Int × Int))))
  | 0, _, _, _ => none
  | m + 1, l7, y8, y9 => (if (decide (y9 < (List.length l7 : Int))) = true then Option.bind (idx l7 y9) fun u17 =>
  Option.bind (F_laws_markSpotS u17 y8) fun u28 =>
  (F_laws_markSpotSS_L1 m) ((seti l7 y9 u28.2)) (u28.1) ((w64 (y9 + 1))) else some (y8, l7))
def F_laws_markSpotSS (x0 : (List (List (Int × Int)))) (x1 : Int) : Option (Int × (List (List (Int × Int)))) :=
  F_laws_markSpotSS_L1 FU (x0) (x1) (0)
def F_laws_markIntS_L1  : Nat → (List Int) → Int → Int → Option (Int × (List Int))
  | 0, _, _, _ => none
  | m + 1, l7, y8, y9 => (if (decide (y9 < (List.length l7 : Int))) = true then Option.bind (idx l7 y9) fun u18 =>
  (F_laws_markIntS_L1 m) ((seti l7 y9 y8)) ((w64 (y8 + 1))) ((w64 (y9 + 1))) else some (y8, l7))
def F_laws_markIntS (x0 : (List Int)) (x1 : Int) : Option (Int × (List Int)) :=
  F_laws_markIntS_L1 FU (x0) (x1) (0)
def F_laws_markShow (x0 : ((List (List (Int × Int))) × (List Int) × Int × Int)) (x1 : Int) : Option (Int × ((List (List (Int × Int))) × (List Int) × Int × Int)) :=
  Option.bind (F_laws_markSpotSS x0.1 x1) fun u8 =>
  Option.bind (F_laws_markIntS x0.2.1 u8.1) fun u15 =>
  some (u15.1, (u8.2, u15.2, x0.2.2.1, x0.2.2.2))
def F_laws_markIntSS_L1  : Nat → (List (List Int)) → Int → Int → Option (Int × (List (List Int)))
  | 0, _, _, _ => none
  | m + 1, l7, y8, y9 => (if (decide (y9 < (List.length l7 : Int))) = true then Option.bind (idx l7 y9) fun u17 =>
  Option.bind (F_laws_markIntS u17 y8) fun u28 =>
  (F_laws_markIntSS_L1 m) ((seti l7 y9 u28.2)) (u28.1) ((w64 (y9 + 1))) else some (y8, l7))
def F_laws_markIntSS (x0 : (List (List Int))) (x1 : Int) : Option (Int × (List (List Int))) :=
  F_laws_markIntSS_L1 FU (x0) (x1) (0)
def F_laws_heldIntS_L1 (x0 : (List Int)) : Nat → Int → Int → Option Int
  | 0, _, _ => none
  | m + 1, y7, y8 => (if (decide (y8 < (List.length x0 : Int))) = true then Option.bind (idx x0 y8) fun u18 =>
  (if (u18 != y7) = true then some (-1) else (F_laws_heldIntS_L1 x0 m) ((w64 (y7 + 1))) ((w64 (y8 + 1)))) else some y7)
def F_laws_heldIntS (x0 : (List Int)) (x1 : Int) : Option Int :=
  F_laws_heldIntS_L1 x0 FU (x1) (0)
def F_laws_heldIntSS_L1 (x0 : (List (List Int))) : Nat → Int → Int → Option Int
  | 0, _, _ => none
  | m + 1, y7, y8 => (if (decide (y8 < (List.length x0 : Int))) = true then Option.bind (idx x0 y8) fun u17 =>
  Option.bind (F_laws_heldIntS u17 y7) fun u22 =>
  (if (decide (u22 < 0)) = true then some (-1) else (F_laws_heldIntSS_L1 x0 m) (u22) ((w64 (y8 + 1)))) else some y7)
def F_laws_heldIntSS (x0 : (List (List Int))) (x1 : Int) : Option Int :=
  F_laws_heldIntSS_L1 x0 FU (x1) (0)
def F_laws_FnExactClosePairs (x0 : ((List (List (Int × Int))) × (List Int) × Int × Int)) (x1 : Int) : Option Bool :=
  Option.bind (F_laws_szShow x0 1048576) fun u9 =>
  (if (decide (u9 < 0)) = true then some true else Option.bind (F_laws_toShow x0) fun u20 =>
  Option.bind (F_spec_ClosePairs u20 x1) fun u30 =>
  Option.bind (F_laws_toShow x0) fun u39 =>
  Option.bind (F_impl_ClosePairs u39 x1) fun u59 =>
  jK1 (fun (y72 : Bool) => (if y72 = true then some false else Option.bind (F_laws_toShow x0) fun u84 =>
  Option.bind (F_laws_eqShow u39 u84) fun u95 =>
  (if (!u95) = true then some false else Option.bind (F_laws_markShow u39 1) fun u106 =>
  jK1 (fun (y117 : Bool) => (if y117 = true then some false else Option.bind (F_laws_markIntSS u59.1 1) fun u124 =>
  Option.bind (F_laws_heldIntSS u124.2 1) fun u132 =>
  (if (decide (u132 < 0)) = true then some false else (if (u132 != u124.1) = true then some false else Option.bind (F_laws_toShow x0) fun u147 =>
  Option.bind (F_impl_ClosePairs u147 x1) fun u157 =>
  jK1 (fun (y170 : Bool) => (if y170 = true then some false else Option.bind (F_laws_heldIntSS u124.2 1) fun u177 =>
  (if (decide (u177 < 0)) = true then some false else (if (u177 != u124.1) = true then some false else some true)))) (fun k171 => Option.bind (F_laws_eqIntSS u157.1 u30.1) fun u192 =>
  (if (!u192) = true then k171 (true) else k171 ((u157.2 != u30.2)))))))) (fun k118 => (if (decide (u106.1 < 0)) = true then k118 (true) else Option.bind (F_laws_eqIntSS u59.1 u30.1) fun u200 =>
  (if (!u200) = true then k118 (true) else k118 ((u59.2 != u30.2)))))))) (fun k73 => Option.bind (F_laws_eqIntSS u59.1 u30.1) fun u207 =>
  (if (!u207) = true then k73 (true) else k73 ((u59.2 != u30.2)))))
def F_spec_UnsafeParts (x0 : ((List (List (Int × Int))) × (List Int) × Int × Int)) : Option ((List Int) × Bool) :=
  Option.bind (F_spec_swGood x0) fun u9 =>
  (if (!u9) = true then some ([], false) else Option.bind (F_spec_swUnsafe x0) fun u19 =>
  some (u19, true))
def F_impl_UnsafeParts (x0 : ((List (List (Int × Int))) × (List Int) × Int × Int)) : Option ((List Int) × Bool) :=
  Option.bind (F_impl_IsShow x0) fun u9 =>
  (if (!u9) = true then some ([], false) else Option.bind (F_impl_unsafParts x0) fun u19 =>
  some (u19, true))
def F_laws_FnExactUnsafeParts (x0 : ((List (List (Int × Int))) × (List Int) × Int × Int)) : Option Bool :=
  Option.bind (F_laws_szShow x0 1048576) fun u9 =>
  (if (decide (u9 < 0)) = true then some true else Option.bind (F_laws_toShow x0) fun u20 =>
  Option.bind (F_spec_UnsafeParts u20) fun u30 =>
  Option.bind (F_laws_toShow x0) fun u39 =>
  Option.bind (F_impl_UnsafeParts u39) fun u59 =>
  jK1 (fun (y72 : Bool) => (if y72 = true then some false else Option.bind (F_laws_toShow x0) fun u84 =>
  Option.bind (F_laws_eqShow u39 u84) fun u95 =>
  (if (!u95) = true then some false else Option.bind (F_laws_markShow u39 1) fun u106 =>
  jK1 (fun (y117 : Bool) => (if y117 = true then some false else Option.bind (F_laws_markIntS u59.1 1) fun u124 =>
  Option.bind (F_laws_heldIntS u124.2 1) fun u132 =>
  (if (decide (u132 < 0)) = true then some false else (if (u132 != u124.1) = true then some false else Option.bind (F_laws_toShow x0) fun u147 =>
  Option.bind (F_impl_UnsafeParts u147) fun u157 =>
  jK1 (fun (y170 : Bool) => (if y170 = true then some false else Option.bind (F_laws_heldIntS u124.2 1) fun u177 =>
  (if (decide (u177 < 0)) = true then some false else (if (u177 != u124.1) = true then some false else some true)))) (fun k171 => Option.bind (F_laws_eqIntS u157.1 u30.1) fun u192 =>
  (if (!u192) = true then k171 (true) else k171 ((u157.2 != u30.2)))))))) (fun k118 => (if (decide (u106.1 < 0)) = true then k118 (true) else Option.bind (F_laws_eqIntS u59.1 u30.1) fun u200 =>
  (if (!u200) = true then k118 (true) else k118 ((u59.2 != u30.2)))))))) (fun k73 => Option.bind (F_laws_eqIntS u59.1 u30.1) fun u207 =>
  (if (!u207) = true then k73 (true) else k73 ((u59.2 != u30.2)))))
def F_laws_szMarch (x0 : (((List (List (Int × Int))) × (List Int) × Int × Int) × Int × (List Int) × (List Int))) (x1 : Int) : Option Int :=
  Option.bind (F_laws_szShow x0.1 x1) fun u8 =>
  (if (decide (u8 < 0)) = true then some (-1) else Option.bind (F_laws_szIntS x0.2.2.1 u8) fun u19 =>
  (if (decide (u19 < 0)) = true then some (-1) else Option.bind (F_laws_szIntS x0.2.2.2 u19) fun u30 =>
  (if (decide (u30 < 0)) = true then some (-1) else some u30)))
def F_laws_toMarch (x0 : (((List (List (Int × Int))) × (List Int) × Int × Int) × Int × (List Int) × (List Int))) : Option (((List (List (Int × Int))) × (List Int) × Int × Int) × Int × (List Int) × (List Int)) :=
  Option.bind (F_laws_toShow x0.1) fun u19 =>
  Option.bind (F_laws_toIntS x0.2.2.1) fun u39 =>
  Option.bind (F_laws_toIntS x0.2.2.2) fun u52 =>
  some (u19, x0.2.1, u39, u52)
def F_spec_l1Rising_L1 (x0 : (List Int)) (x1 : Int) (x2 : Int) : Nat → Int → Option Bool
  | 0, _ => none
  | m + 1, y7 => (if (decide (y7 < (List.length x0 : Int))) = true then Option.bind (idx x0 y7) fun u16 =>
  jK1 (fun (y23 : Bool) => (if y23 = true then some false else (F_spec_l1Rising_L1 x0 x1 x2 m) ((w64 (y7 + 1))))) (fun k24 => Option.bind (F_spec_l1In u16 x1 x2) fun u28 =>
  (if (!u28) = true then k24 (true) else (if (decide (0 < y7)) = true then Option.bind (idx x0 (w64 (y7 - 1))) fun u36 =>
  k24 ((decide (u16 ≤ u36))) else k24 (false)))) else some true)
def F_spec_l1Rising (x0 : (List Int)) (x1 : Int) (x2 : Int) : Option Bool :=
  F_spec_l1Rising_L1 x0 x1 x2 FU (0)
def F_spec_mnGood (x0 : (((List (List (Int × Int))) × (List Int) × Int × Int) × Int × (List Int) × (List Int))) : Option Bool :=
  jK1 (fun (y12 : Bool) => (if y12 = true then some false else Option.bind (idx x0.1.1 0) fun u18 =>
  jK1 (fun (y27 : Bool) => some y27) (fun k28 => Option.bind (F_spec_l1Rising x0.2.2.1 0 (w64 ((List.length u18 : Int) - 1))) fun u30 =>
  (if u30 = true then (if ((List.length x0.2.2.2 : Int) == (List.length u18 : Int)) = true then Option.bind (F_spec_l1All x0.2.2.2 0 x0.2.1) fun u38 =>
  k28 (u38) else k28 (false)) else k28 (false))))) (fun k13 => Option.bind (F_spec_swGood x0.1) fun u44 =>
  (if (!u44) = true then k13 (true) else Option.bind (F_spec_l1In x0.2.1 0 1000) fun u51 =>
  k13 ((!u51))))
def F_spec_mnHas (x0 : (((List (List (Int × Int))) × (List Int) × Int × Int) × Int × (List Int) × (List Int))) (x1 : Int) : Option Bool :=
  jK1 (fun (y11 : Bool) => some y11) (fun k12 => Option.bind (F_spec_mnGood x0) fun u14 =>
  (if u14 = true then Option.bind (F_spec_l1In x1 0 (w64 ((List.length x0.2.2.2 : Int) - 1))) fun u21 =>
  k12 (u21) else k12 (false)))
def F_spec_shOf_L1 (x1 : (List Int)) (x0 : (List (List (Int × Int)))) (x2 : Int) (u13 : (Int × Int)) : Nat → (List (Int × (Int × Int))) → Int → Option (Int × (Int × Int) × (List (Int × (Int × Int))))
  | 0, _, _ => none
  | m + 1, l30, y33 => (if (decide (y33 < (List.length x1 : Int))) = true then jK1 (fun (l45 : (List (Int × (Int × Int)))) => (F_spec_shOf_L1 x1 x0 x2 u13 m) (l45) ((w64 (y33 + 1)))) (fun k48 => Option.bind (idx x1 y33) fun u51 =>
  Option.bind (idx x0 (w64 (y33 + 1))) fun u59 =>
  Option.bind (idx u59 x2) fun u64 =>
  Option.bind (app l30 [(u51, u64)]) fun u78 =>
  k48 (u78)) else some (x2, u13, l30))
def F_spec_shOf (x0 : (List (List (Int × Int)))) (x1 : (List Int)) (x2 : Int) : Option (Int × (Int × Int) × (List (Int × (Int × Int)))) :=
  Option.bind (idx x0 0) fun u8 =>
  Option.bind (idx u8 x2) fun u13 =>
  F_spec_shOf_L1 x1 x0 x2 u13 FU ([]) (0)
def F_spec_swTotal_L1 (x0 : ((List (List (Int × Int))) × (List Int) × Int × Int)) : Nat → Int → Int → Option Int
  | 0, _, _ => none
  | m + 1, y13, y14 => (if (decide (y14 < (List.length x0.2.1 : Int))) = true then Option.bind (idx x0.2.1 y14) fun u23 =>
  (F_spec_swTotal_L1 x0 m) ((w64 (y13 + u23))) ((w64 (y14 + 1))) else some y13)
def F_spec_swTotal (x0 : ((List (List (Int × Int))) × (List Int) × Int × Int)) : Option Int :=
  F_spec_swTotal_L1 x0 FU (0) (0)
def F_spec_mnCount (x0 : (((List (List (Int × Int))) × (List Int) × Int × Int) × Int × (List Int) × (List Int))) (x1 : Int) : Option Int :=
  Option.bind (idx x0.2.2.2 x1) fun u13 =>
  Option.bind (F_spec_swTotal x0.1) fun u16 =>
  Option.bind (F_spec_l1Least u16 (w64 (x0.2.1 - u13))) fun u23 =>
  some u23
def F_spec_shGood_L1 (x0 : (Int × (Int × Int) × (List (Int × (Int × Int))))) : Nat → Int → Option Bool
  | 0, _ => none
  | m + 1, y12 => (if (decide (y12 < (List.length x0.2.2 : Int))) = true then Option.bind (idx x0.2.2 y12) fun u21 =>
  jK1 (fun (y37 : Bool) => (if y37 = true then some false else (F_spec_shGood_L1 x0 m) ((w64 (y12 + 1))))) (fun k38 => Option.bind (F_spec_l1In u21.1 1 64) fun u42 =>
  (if (!u42) = true then k38 (true) else Option.bind (F_spec_stGood u21.2) fun u49 =>
  k38 ((!u49)))) else jK1 (fun (y59 : Bool) => some y59) (fun k60 => Option.bind (F_spec_l1In x0.1 0 11) fun u62 =>
  (if u62 = true then Option.bind (F_spec_stGood x0.2.1) fun u69 =>
  (if u69 = true then k60 ((decide ((List.length x0.2.2 : Int) ≤ 8))) else k60 (false)) else k60 (false))))
def F_spec_shGood (x0 : (Int × (Int × Int) × (List (Int × (Int × Int))))) : Option Bool :=
  F_spec_shGood_L1 x0 FU (0)
def F_spec_shRows_L1 (x0 : (Int × (Int × Int) × (List (Int × (Int × Int))))) : Nat → (List ((Int × Int) × (Int × Int) × Int)) → Int → Int → Int → Option (List ((Int × Int) × (Int × Int) × Int))
  | 0, _, _, _, _ => none
  | m + 1, l23, y26, y27, y28 => (if (decide (y28 < (List.length x0.2.2 : Int))) = true then Option.bind (idx x0.2.2 y28) fun u38 =>
  Option.bind (app l23 [((y26, y27), u38.2, u38.1)]) fun u57 =>
  (F_spec_shRows_L1 x0 m) (u57) (u38.2.1) (u38.2.2) ((w64 (y28 + 1))) else some l23)
def F_spec_shRows (x0 : (Int × (Int × Int) × (List (Int × (Int × Int))))) : Option (List ((Int × Int) × (Int × Int) × Int)) :=
  F_spec_shRows_L1 x0 FU ([]) (x0.2.1.1) (x0.2.1.2) (0)
def F_spec_mvAt (x0 : ((Int × Int) × (Int × Int) × Int)) (x1 : Int) : Option (Int × Int) :=
  some ((w64 ((w64 (x0.1.1 * x0.2.2)) + (w64 ((w64 (x0.2.1.1 - x0.1.1)) * x1)))), (w64 ((w64 (x0.1.2 * x0.2.2)) + (w64 ((w64 (x0.2.1.2 - x0.1.2)) * x1)))))
def F_spec_mvRound (x0 : ((Int × Int) × (Int × Int) × Int)) (x1 : Int) : Option (Int × Int) :=
  Option.bind (F_spec_mvAt x0 x1) fun u13 =>
  (if (w64 (2 * x0.2.2)) = 0 then none else (if (w64 (2 * x0.2.2)) = 0 then none else some ((w64 (Int.tdiv (w64 ((w64 (2 * u13.1)) + x0.2.2)) (w64 (2 * x0.2.2)))), (w64 (Int.tdiv (w64 ((w64 (2 * u13.2)) + x0.2.2)) (w64 (2 * x0.2.2)))))))
def F_spec_SpotAfter_L1 (u36 : (List ((Int × Int) × (Int × Int) × Int))) : Nat → Int → Int → Option ((Int × Int) × Bool)
  | 0, _, _ => none
  | m + 1, y47, y48 => (if (decide (y48 < (List.length u36 : Int))) = true then Option.bind (idx u36 y48) fun u57 =>
  (if (decide (y47 ≤ u57.2.2)) = true then Option.bind (F_spec_mvRound u57 y47) fun u74 =>
  some (u74, true) else (F_spec_SpotAfter_L1 u36 m) ((w64 (y47 - u57.2.2))) ((w64 (y48 + 1)))) else some ((0, 0), false))
def F_spec_SpotAfter (x0 : (Int × (Int × Int) × (List (Int × (Int × Int))))) (x1 : Int) : Option ((Int × Int) × Bool) :=
  jK1 (fun (y17 : Bool) => (if y17 = true then some ((0, 0), false) else (if (x1 == 0) = true then some (x0.2.1, true) else Option.bind (F_spec_shRows x0) fun u36 =>
  F_spec_SpotAfter_L1 u36 FU (x1) (0)))) (fun k18 => Option.bind (F_spec_shGood x0) fun u89 =>
  (if (!u89) = true then k18 (true) else k18 ((decide (x1 < 0)))))
def F_spec_mnWhere (x0 : (((List (List (Int × Int))) × (List Int) × Int × Int) × Int × (List Int) × (List Int))) (x1 : Int) : Option (Int × Int) :=
  jK2 (fun (y17 : Int) (y18 : Int) => some (y17, y18)) (fun k19 => Option.bind (F_spec_shOf x0.1.1 x0.1.2.1 x1) fun u31 =>
  Option.bind (F_spec_mnCount x0 x1) fun u40 =>
  Option.bind (F_spec_SpotAfter u31 u40) fun u47 =>
  k19 (u47.1.1) (u47.1.2))
def F_spec_WhereNow (x0 : (((List (List (Int × Int))) × (List Int) × Int × Int) × Int × (List Int) × (List Int))) (x1 : Int) : Option ((Int × Int) × Bool) :=
  Option.bind (F_spec_mnHas x0 x1) fun u14 =>
  (if (!u14) = true then some ((0, 0), false) else Option.bind (F_spec_mnWhere x0 x1) fun u27 =>
  some (u27, true))
def F_impl_arePerformers_L1 (x0 : (List Int)) (x1 : Int) : Nat → Int → Option Bool
  | 0, _ => none
  | m + 1, y7 => (if (decide (y7 < (List.length x0 : Int))) = true then Option.bind (idx x0 y7) fun u16 =>
  jK1 (fun (y23 : Bool) => (if y23 = true then some false else (F_impl_arePerformers_L1 x0 x1 m) ((w64 (y7 + 1))))) (fun k24 => Option.bind (F_impl_within u16 0 (w64 (x1 - 1))) fun u28 =>
  (if (!u28) = true then k24 (true) else (if (decide (0 < y7)) = true then Option.bind (idx x0 (w64 (y7 - 1))) fun u36 =>
  k24 ((decide (u16 ≤ u36))) else k24 (false)))) else some true)
def F_impl_arePerformers (x0 : (List Int)) (x1 : Int) : Option Bool :=
  F_impl_arePerformers_L1 x0 x1 FU (0)
def F_impl_IsMarch_L1 (x0 : (((List (List (Int × Int))) × (List Int) × Int × Int) × Int × (List Int) × (List Int))) : Nat → Int → Option Bool
  | 0, _ => none
  | m + 1, y22 => (if (decide (y22 < (List.length x0.2.2.2 : Int))) = true then Option.bind (idx x0.2.2.2 y22) fun u31 =>
  Option.bind (F_impl_within u31 0 x0.2.1) fun u35 =>
  (if (!u35) = true then some false else (F_impl_IsMarch_L1 x0 m) ((w64 (y22 + 1)))) else some true)
def F_impl_IsMarch (x0 : (((List (List (Int × Int))) × (List Int) × Int × Int) × Int × (List Int) × (List Int))) : Option Bool :=
  jK1 (fun (y12 : Bool) => (if y12 = true then some false else F_impl_IsMarch_L1 x0 FU (0))) (fun k13 => Option.bind (F_impl_IsShow x0.1) fun u49 =>
  (if (!u49) = true then k13 (true) else Option.bind (F_impl_within x0.2.1 0 1000) fun u57 =>
  (if (!u57) = true then k13 (true) else Option.bind (idx x0.1.1 0) fun u65 =>
  Option.bind (F_impl_arePerformers x0.2.2.1 (List.length u65 : Int)) fun u70 =>
  (if (!u70) = true then k13 (true) else Option.bind (idx x0.1.1 0) fun u78 =>
  k13 (((List.length x0.2.2.2 : Int) != (List.length u78 : Int)))))))
def F_impl_hasPerformer (x0 : (((List (List (Int × Int))) × (List Int) × Int × Int) × Int × (List Int) × (List Int))) (x1 : Int) : Option Bool :=
  jK1 (fun (y11 : Bool) => some y11) (fun k12 => Option.bind (F_impl_IsMarch x0) fun u14 =>
  (if u14 = true then Option.bind (F_impl_within x1 0 (w64 ((List.length x0.2.2.2 : Int) - 1))) fun u21 =>
  k12 (u21) else k12 (false)))
def F_impl_sheetOf_L1 (x1 : (List Int)) (x0 : (List (List (Int × Int)))) (x2 : Int) (u13 : (Int × Int)) : Nat → (List (Int × (Int × Int))) → Int → Option (Int × (Int × Int) × (List (Int × (Int × Int))))
  | 0, _, _ => none
  | m + 1, l36, y39 => (if (decide (y39 < (List.length x1 : Int))) = true then jK1 (fun (l50 : (List (Int × (Int × Int)))) => (F_impl_sheetOf_L1 x1 x0 x2 u13 m) (l50) ((w64 (y39 + 1)))) (fun k53 => Option.bind (idx x1 y39) fun u56 =>
  Option.bind (idx x0 (w64 (y39 + 1))) fun u64 =>
  Option.bind (idx u64 x2) fun u69 =>
  Option.bind (app l36 [(u56, u69)]) fun u83 =>
  k53 (u83)) else some (x2, u13, l36))
def F_impl_sheetOf (x0 : (List (List (Int × Int)))) (x1 : (List Int)) (x2 : Int) : Option (Int × (Int × Int) × (List (Int × (Int × Int)))) :=
  Option.bind (idx x0 0) fun u8 =>
  Option.bind (idx u8 x2) fun u13 =>
  F_impl_sheetOf_L1 x1 x0 x2 u13 FU ([]) (0)
def F_impl_totalCounts_L1 (x0 : ((List (List (Int × Int))) × (List Int) × Int × Int)) : Nat → Int → Int → Option Int
  | 0, _, _ => none
  | m + 1, y13, y14 => (if (decide (y14 < (List.length x0.2.1 : Int))) = true then Option.bind (idx x0.2.1 y14) fun u23 =>
  (F_impl_totalCounts_L1 x0 m) ((w64 (y13 + u23))) ((w64 (y14 + 1))) else some y13)
def F_impl_totalCounts (x0 : ((List (List (Int × Int))) × (List Int) × Int × Int)) : Option Int :=
  F_impl_totalCounts_L1 x0 FU (0) (0)
def F_impl_ownCount (x0 : (((List (List (Int × Int))) × (List Int) × Int × Int) × Int × (List Int) × (List Int))) (x1 : Int) : Option Int :=
  Option.bind (idx x0.2.2.2 x1) fun u13 =>
  Option.bind (F_impl_totalCounts x0.1) fun u16 =>
  some (minI (w64 (x0.2.1 - u13)) u16)
def F_impl_IsSheet_L1 (x0 : (Int × (Int × Int) × (List (Int × (Int × Int))))) : Nat → Int → Option Bool
  | 0, _ => none
  | m + 1, y22 => (if (decide (y22 < (List.length x0.2.2 : Int))) = true then Option.bind (idx x0.2.2 y22) fun u31 =>
  jK1 (fun (y47 : Bool) => (if y47 = true then some false else (F_impl_IsSheet_L1 x0 m) ((w64 (y22 + 1))))) (fun k48 => Option.bind (F_impl_within u31.1 1 64) fun u52 =>
  (if (!u52) = true then k48 (true) else Option.bind (F_impl_IsSpot u31.2) fun u59 =>
  k48 ((!u59)))) else some true)
def F_impl_IsSheet (x0 : (Int × (Int × Int) × (List (Int × (Int × Int))))) : Option Bool :=
  jK1 (fun (y12 : Bool) => (if y12 = true then some false else F_impl_IsSheet_L1 x0 FU (0))) (fun k13 => Option.bind (F_impl_within x0.1 0 11) fun u66 =>
  (if (!u66) = true then k13 (true) else Option.bind (F_impl_IsSpot x0.2.1) fun u73 =>
  (if (!u73) = true then k13 (true) else k13 ((decide (8 < (List.length x0.2.2 : Int)))))))
def F_impl_sheetMoves_L1 (x0 : (Int × (Int × Int) × (List (Int × (Int × Int))))) : Nat → (List ((Int × Int) × (Int × Int) × Int)) → Int → Int → Int → Option (List ((Int × Int) × (Int × Int) × Int))
  | 0, _, _, _, _ => none
  | m + 1, l24, y27, y28, y29 => (if (decide (y29 < (List.length x0.2.2 : Int))) = true then Option.bind (idx x0.2.2 y29) fun u38 =>
  Option.bind (app l24 [((y27, y28), u38.2, u38.1)]) fun u57 =>
  (F_impl_sheetMoves_L1 x0 m) (u57) (u38.2.1) (u38.2.2) ((w64 (y29 + 1))) else some l24)
def F_impl_sheetMoves (x0 : (Int × (Int × Int) × (List (Int × (Int × Int))))) : Option (List ((Int × Int) × (Int × Int) × Int)) :=
  jK3 (fun (l11 : (List ((Int × Int) × (Int × Int) × Int))) (y15 : Int) (y16 : Int) => F_impl_sheetMoves_L1 x0 FU (l11) (y15) (y16) (0)) (fun k17 => k17 ([]) (x0.2.1.1) (x0.2.1.2))
def F_impl_placeAt (x0 : ((Int × Int) × (Int × Int) × Int)) (x1 : Int) : Option (Int × Int) :=
  some ((w64 ((w64 (x0.1.1 * x0.2.2)) + (w64 (x1 * (w64 (x0.2.1.1 - x0.1.1)))))), (w64 ((w64 (x0.1.2 * x0.2.2)) + (w64 (x1 * (w64 (x0.2.1.2 - x0.1.2)))))))
def F_impl_floorDiv (x0 : Int) (x1 : Int) : Option Int :=
  (if x1 = 0 then none else jK1 (fun (y8 : Int) => some y8) (fun k9 => (if x1 = 0 then none else (if (decide ((Int.tmod x0 x1) < 0)) = true then k9 ((w64 ((w64 (Int.tdiv x0 x1)) - 1))) else k9 ((w64 (Int.tdiv x0 x1)))))))
def F_impl_roundDiv (x0 : Int) (x1 : Int) : Option Int :=
  Option.bind (F_impl_floorDiv (w64 ((w64 (2 * x0)) + x1)) (w64 (2 * x1))) fun u3 =>
  some u3
def F_impl_roundedAt (x0 : ((Int × Int) × (Int × Int) × Int)) (x1 : Int) : Option (Int × Int) :=
  Option.bind (F_impl_placeAt x0 x1) fun u13 =>
  Option.bind (F_impl_roundDiv u13.1 x0.2.2) fun u25 =>
  Option.bind (F_impl_roundDiv u13.2 x0.2.2) fun u33 =>
  some (u25, u33)
def F_impl_SpotAfter_L1 (u28 : (List ((Int × Int) × (Int × Int) × Int))) (x0 : (Int × (Int × Int) × (List (Int × (Int × Int))))) : Nat → Int → Int → Option ((Int × Int) × Bool)
  | 0, _, _ => none
  | m + 1, y39, y40 => (if (decide (y40 < (List.length u28 : Int))) = true then Option.bind (idx u28 y40) fun u49 =>
  (if (decide (y39 ≤ u49.2.2)) = true then Option.bind (F_impl_roundedAt u49 y39) fun u66 =>
  some (u66, true) else (F_impl_SpotAfter_L1 u28 x0 m) ((w64 (y39 - u49.2.2))) ((w64 (y40 + 1)))) else (if (decide (0 < y39)) = true then some ((0, 0), false) else some (x0.2.1, true)))
def F_impl_SpotAfter (x0 : (Int × (Int × Int) × (List (Int × (Int × Int))))) (x1 : Int) : Option ((Int × Int) × Bool) :=
  jK1 (fun (y17 : Bool) => (if y17 = true then some ((0, 0), false) else Option.bind (F_impl_sheetMoves x0) fun u28 =>
  F_impl_SpotAfter_L1 u28 x0 FU (x1) (0))) (fun k18 => Option.bind (F_impl_IsSheet x0) fun u89 =>
  (if (!u89) = true then k18 (true) else k18 ((decide (x1 < 0)))))
def F_impl_whereNow (x0 : (((List (List (Int × Int))) × (List Int) × Int × Int) × Int × (List Int) × (List Int))) (x1 : Int) : Option (Int × Int) :=
  jK2 (fun (y17 : Int) (y18 : Int) => some (y17, y18)) (fun k19 => Option.bind (F_impl_sheetOf x0.1.1 x0.1.2.1 x1) fun u31 =>
  Option.bind (F_impl_ownCount x0 x1) fun u40 =>
  Option.bind (F_impl_SpotAfter u31 u40) fun u47 =>
  k19 (u47.1.1) (u47.1.2))
def F_impl_WhereNow (x0 : (((List (List (Int × Int))) × (List Int) × Int × Int) × Int × (List Int) × (List Int))) (x1 : Int) : Option ((Int × Int) × Bool) :=
  Option.bind (F_impl_hasPerformer x0 x1) fun u14 =>
  (if (!u14) = true then some ((0, 0), false) else Option.bind (F_impl_whereNow x0 x1) fun u27 =>
  some (u27, true))
def F_laws_eqMarch (x0 : (((List (List (Int × Int))) × (List Int) × Int × Int) × Int × (List Int) × (List Int))) (x1 : (((List (List (Int × Int))) × (List Int) × Int × Int) × Int × (List Int) × (List Int))) : Option Bool :=
  Option.bind (F_laws_eqShow x0.1 x1.1) fun u14 =>
  (if (!u14) = true then some false else (if (x0.2.1 != x1.2.1) = true then some false else Option.bind (F_laws_eqIntS x0.2.2.1 x1.2.2.1) fun u28 =>
  (if (!u28) = true then some false else Option.bind (F_laws_eqIntS x0.2.2.2 x1.2.2.2) fun u38 =>
  (if (!u38) = true then some false else some true))))
def F_laws_FnExactWhereNow (x0 : (((List (List (Int × Int))) × (List Int) × Int × Int) × Int × (List Int) × (List Int))) (x1 : Int) : Option Bool :=
  Option.bind (F_laws_szMarch x0 1048576) fun u9 =>
  (if (decide (u9 < 0)) = true then some true else Option.bind (F_laws_toMarch x0) fun u20 =>
  Option.bind (F_spec_WhereNow u20 x1) fun u34 =>
  Option.bind (F_laws_toMarch x0) fun u50 =>
  Option.bind (F_impl_WhereNow u50 x1) fun u74 =>
  jK1 (fun (y94 : Bool) => (if y94 = true then some false else Option.bind (F_laws_toMarch x0) fun u106 =>
  Option.bind (F_laws_eqMarch u50 u106) fun u121 =>
  (if (!u121) = true then some false else some true))) (fun k95 => Option.bind (F_laws_eqSpot u74.1 u34.1) fun u131 =>
  (if (!u131) = true then k95 (true) else k95 ((u74.2 != u34.2)))))
def F_spec_l1Own (x0 : (List Int)) : Option (List Int) :=
  Option.bind (app [] x0) fun u9 =>
  some u9
def F_spec_chOwn (x0 : (List (Int × Int))) : Option (List (Int × Int)) :=
  Option.bind (app [] x0) fun u9 =>
  some u9
def F_spec_swOwn_L1 (x0 : ((List (List (Int × Int))) × (List Int) × Int × Int)) (l17 : (List Int)) (y20 : Int) (y21 : Int) : Nat → (List (List (Int × Int))) → Int → Option ((List (List (Int × Int))) × (List Int) × Int × Int)
  | 0, _, _ => none
  | m + 1, l29, y32 => (if (decide (y32 < (List.length x0.1 : Int))) = true then jK1 (fun (l44 : (List (List (Int × Int)))) => (F_spec_swOwn_L1 x0 l17 y20 y21 m) (l44) ((w64 (y32 + 1)))) (fun k47 => Option.bind (idx x0.1 y32) fun u50 =>
  Option.bind (F_spec_chOwn u50) fun u60 =>
  Option.bind (app l29 [u60]) fun u82 =>
  k47 (u82)) else some (l29, l17, y20, y21))
def F_spec_swOwn (x0 : ((List (List (Int × Int))) × (List Int) × Int × Int)) : Option ((List (List (Int × Int))) × (List Int) × Int × Int) :=
  jK3 (fun (l17 : (List Int)) (y20 : Int) (y21 : Int) => F_spec_swOwn_L1 x0 l17 y20 y21 FU ([]) (0)) (fun k22 => Option.bind (F_spec_l1Own x0.2.1) fun u165 =>
  k22 (u165) (x0.2.2.1) (x0.2.2.2))
def F_spec_mnOwn (x0 : (((List (List (Int × Int))) × (List Int) × Int × Int) × Int × (List Int) × (List Int))) : Option (((List (List (Int × Int))) × (List Int) × Int × Int) × Int × (List Int) × (List Int)) :=
  Option.bind (F_spec_swOwn x0.1) fun u18 =>
  Option.bind (F_spec_l1Own x0.2.2.1) fun u30 =>
  Option.bind (F_spec_l1Own x0.2.2.2) fun u40 =>
  some (u18, x0.2.1, u30, u40)
def F_spec_l1Has_L1 (x0 : (List Int)) (x1 : Int) : Nat → Int → Option Bool
  | 0, _ => none
  | m + 1, y7 => (if (decide (y7 < (List.length x0 : Int))) = true then Option.bind (idx x0 y7) fun u16 =>
  (if (u16 == x1) = true then some true else (F_spec_l1Has_L1 x0 x1 m) ((w64 (y7 + 1)))) else some false)
def F_spec_l1Has (x0 : (List Int)) (x1 : Int) : Option Bool :=
  F_spec_l1Has_L1 x0 x1 FU (0)
def F_spec_l1Put__take_L1 (x0 : (List Int)) (x1 : Int) : Nat → Int → Option (List Int)
  | 0, _ => none
  | m + 1, y7 => jK1 (fun (y16 : Bool) => (if y16 = true then (F_spec_l1Put__take_L1 x0 x1 m) ((w64 (y7 + 1))) else jK1 (fun (y25 : Bool) => (if y25 = true then some x0 else Option.bind (sl x0 0 y7) fun u37 =>
  Option.bind (app [] u37) fun u40 =>
  Option.bind (app u40 [x1]) fun u54 =>
  Option.bind (sl x0 y7 (List.length x0 : Int)) fun u62 =>
  Option.bind (app u54 u62) fun u65 =>
  some u65)) (fun k26 => (if (decide (y7 < (List.length x0 : Int))) = true then Option.bind (idx x0 y7) fun u73 =>
  k26 ((u73 == x1)) else k26 (false))))) (fun k17 => (if (decide (y7 < (List.length x0 : Int))) = true then Option.bind (idx x0 y7) fun u78 =>
  k17 ((decide (u78 < x1))) else k17 (false)))
def F_spec_l1Put__take (x0 : (List Int)) (x1 : Int) : Option (List Int) :=
  F_spec_l1Put__take_L1 x0 x1 FU (0)
def F_spec_mnStep_L1 (x0 : (((List (List (Int × Int))) × (List Int) × Int × Int) × Int × (List Int) × (List Int))) (k77 : (Int → (List Int) → (List Int) → Option ((((List (List (Int × Int))) × (List Int) × Int × Int) × Int × (List Int) × (List Int)) × Bool))) (u36 : (((List (List (Int × Int))) × (List Int) × Int × Int) × Int × (List Int) × (List Int))) : Nat → (List Int) → Int → Option ((((List (List (Int × Int))) × (List Int) × Int × Int) × Int × (List Int) × (List Int)) × Bool)
  | 0, _, _ => none
  | m + 1, l101, y104 => (if (decide (y104 < (List.length x0.2.2.1 : Int))) = true then Option.bind (idx x0.2.2.1 y104) fun u113 =>
  Option.bind (idx l101 u113) fun u116 =>
  Option.bind (idx l101 u113) fun u120 =>
  (F_spec_mnStep_L1 x0 k77 u36 m) ((seti l101 u113 (w64 (u116 + 1)))) ((w64 (y104 + 1))) else k77 ((w64 (u36.2.1 + 1))) (u36.2.2.1) (l101))
def F_spec_mnStep_L2 (x0 : (((List (List (Int × Int))) × (List Int) × Int × Int) × Int × (List Int) × (List Int))) (x1 : (Int × Int)) (k77 : (Int → (List Int) → (List Int) → Option ((((List (List (Int × Int))) × (List Int) × Int × Int) × Int × (List Int) × (List Int)) × Bool))) (u36 : (((List (List (Int × Int))) × (List Int) × Int × Int) × Int × (List Int) × (List Int))) : Nat → (List Int) → Int → Option ((((List (List (Int × Int))) × (List Int) × Int × Int) × Int × (List Int) × (List Int)) × Bool)
  | 0, _, _ => none
  | m + 1, l165, y168 => (if (decide (y168 < (List.length x0.2.2.1 : Int))) = true then jK1 (fun (l180 : (List Int)) => (F_spec_mnStep_L2 x0 x1 k77 u36 m) (l180) ((w64 (y168 + 1)))) (fun k183 => Option.bind (idx x0.2.2.1 y168) fun u186 =>
  (if (u186 != x1.2) = true then Option.bind (app l165 [u186]) fun u197 =>
  k183 (u197) else k183 (l165))) else k77 (u36.2.1) (l165) (u36.2.2.2))
def F_spec_mnStep (x0 : (((List (List (Int × Int))) × (List Int) × Int × Int) × Int × (List Int) × (List Int))) (x1 : (Int × Int)) : Option ((((List (List (Int × Int))) × (List Int) × Int × Int) × Int × (List Int) × (List Int)) × Bool) :=
  Option.bind (F_spec_l1In x1.2 0 (w64 ((List.length x0.2.2.2 : Int) - 1))) fun u19 =>
  (if (!u19) = true then some ((([], [], 0, 0), 0, [], []), false) else Option.bind (F_spec_mnOwn x0) fun u36 =>
  Option.bind (F_spec_l1Has x0.2.2.1 x1.2) fun u60 =>
  jK3 (fun (y70 : Int) (l71 : (List Int)) (l74 : (List Int)) => some ((u36.1, y70, l71, l74), true)) (fun k77 => jK1 (fun (y88 : Bool) => (if y88 = true then F_spec_mnStep_L1 x0 k77 u36 FU (u36.2.2.2) (0) else jK1 (fun (y132 : Bool) => (if y132 = true then Option.bind (F_spec_l1Put__take u36.2.2.1 x1.2) fun u136 =>
  k77 (u36.2.1) (u136) (u36.2.2.2) else jK1 (fun (y152 : Bool) => (if y152 = true then F_spec_mnStep_L2 x0 x1 k77 u36 FU ([]) (0) else some ((([], [], 0, 0), 0, [], []), false))) (fun k153 => (if (x1.1 == 3) = true then k153 (u60) else k153 (false))))) (fun k133 => (if (x1.1 == 2) = true then k133 ((!u60)) else k133 (false))))) (fun k89 => (if (x1.1 == 1) = true then (if (x1.2 == 0) = true then k89 ((decide (x0.2.1 < 1000))) else k89 (false)) else k89 (false)))))
def F_spec_mnAsked (x0 : (((List (List (Int × Int))) × (List Int) × Int × Int) × Int × (List Int) × (List Int))) (x1 : (Int × Int)) : Option ((((List (List (Int × Int))) × (List Int) × Int × Int) × Int × (List Int) × (List Int)) × Bool) :=
  Option.bind (F_spec_mnGood x0) fun u19 =>
  (if (!u19) = true then some ((([], [], 0, 0), 0, [], []), false) else Option.bind (F_spec_mnStep x0 x1) fun u36 =>
  some u36)
def F_spec_BeatOnce (x0 : (((List (List (Int × Int))) × (List Int) × Int × Int) × Int × (List Int) × (List Int))) : Option ((((List (List (Int × Int))) × (List Int) × Int × Int) × Int × (List Int) × (List Int)) × Bool) :=
  Option.bind (F_spec_mnAsked x0 (1, 0)) fun u13 =>
  some u13
def F_impl_copyInts (x0 : (List Int)) : Option (List Int) :=
  Option.bind (app [] x0) fun u9 =>
  some u9
def F_impl_copyShow_L1 (x0 : ((List (List (Int × Int))) × (List Int) × Int × Int)) (l20 : (List Int)) (y23 : Int) (y24 : Int) : Nat → (List (List (Int × Int))) → Int → Option ((List (List (Int × Int))) × (List Int) × Int × Int)
  | 0, _, _ => none
  | m + 1, l32, y35 => (if (decide (y35 < (List.length x0.1 : Int))) = true then jK1 (fun (l46 : (List (List (Int × Int)))) => (F_impl_copyShow_L1 x0 l20 y23 y24 m) (l46) ((w64 (y35 + 1)))) (fun k49 => Option.bind (idx x0.1 y35) fun u52 =>
  Option.bind (app [] u52) fun u74 =>
  Option.bind (app l32 [u74]) fun u94 =>
  k49 (u94)) else some (l32, l20, y23, y24))
def F_impl_copyShow (x0 : ((List (List (Int × Int))) × (List Int) × Int × Int)) : Option ((List (List (Int × Int))) × (List Int) × Int × Int) :=
  jK4 (fun (l17 : (List (List (Int × Int)))) (l20 : (List Int)) (y23 : Int) (y24 : Int) => F_impl_copyShow_L1 x0 l20 y23 y24 FU (l17) (0)) (fun k25 => Option.bind (F_impl_copyInts x0.2.1) fun u228 =>
  k25 ([]) (u228) (x0.2.2.1) (x0.2.2.2))
def F_impl_copyMarch (x0 : (((List (List (Int × Int))) × (List Int) × Int × Int) × Int × (List Int) × (List Int))) : Option (((List (List (Int × Int))) × (List Int) × Int × Int) × Int × (List Int) × (List Int)) :=
  Option.bind (F_impl_copyShow x0.1) fun u18 =>
  Option.bind (F_impl_copyInts x0.2.2.1) fun u30 =>
  Option.bind (F_impl_copyInts x0.2.2.2) fun u40 =>
  some (u18, x0.2.1, u30, u40)
def F_impl_BeatOnce_L1 (u31 : (((List (List (Int × Int))) × (List Int) × Int × Int) × Int × (List Int) × (List Int))) : Nat → (List Int) → Int → Option ((((List (List (Int × Int))) × (List Int) × Int × Int) × Int × (List Int) × (List Int)) × Bool)
  | 0, _, _ => none
  | m + 1, l64, y67 => (if (decide (y67 < (List.length u31.2.2.1 : Int))) = true then Option.bind (idx u31.2.2.1 y67) fun u76 =>
  Option.bind (idx l64 u76) fun u80 =>
  Option.bind (idx l64 u76) fun u84 =>
  (F_impl_BeatOnce_L1 u31 m) ((seti l64 u76 (w64 (u80 + 1)))) ((w64 (y67 + 1))) else some ((u31.1, (w64 (u31.2.1 + 1)), u31.2.2.1, l64), true))
def F_impl_BeatOnce (x0 : (((List (List (Int × Int))) × (List Int) × Int × Int) × Int × (List Int) × (List Int))) : Option ((((List (List (Int × Int))) × (List Int) × Int × Int) × Int × (List Int) × (List Int)) × Bool) :=
  jK1 (fun (y17 : Bool) => (if y17 = true then some ((([], [], 0, 0), 0, [], []), false) else Option.bind (F_impl_copyMarch x0) fun u31 =>
  F_impl_BeatOnce_L1 u31 FU (u31.2.2.2) (0))) (fun k18 => Option.bind (F_impl_IsMarch x0) fun u97 =>
  (if (!u97) = true then k18 (true) else k18 ((x0.2.1 == 1000))))
def F_laws_markMarch (x0 : (((List (List (Int × Int))) × (List Int) × Int × Int) × Int × (List Int) × (List Int))) (x1 : Int) : Option (Int × (((List (List (Int × Int))) × (List Int) × Int × Int) × Int × (List Int) × (List Int))) :=
  Option.bind (F_laws_markShow x0.1 x1) fun u8 =>
  Option.bind (F_laws_markIntS x0.2.2.1 u8.1) fun u15 =>
  Option.bind (F_laws_markIntS x0.2.2.2 u15.1) fun u22 =>
  some (u22.1, ((u8.2.1, u8.2.2.1, x0.1.2.2.1, x0.1.2.2.2), x0.2.1, u15.2, u22.2))
def F_laws_heldSpotS_L1 (x0 : (List (Int × Int))) : Nat → Int → Int → Option Int
  | 0, _, _ => none
  | m + 1, y7, y8 => (if (decide (y8 < (List.length x0 : Int))) = true then Option.bind (idx x0 y8) fun u18 =>
  (if (u18.1 != y7) = true then some (-1) else Option.bind (idx x0 y8) fun u26 =>
  (if (u26.2 != (w64 (y7 + 1))) = true then some (-1) else (F_laws_heldSpotS_L1 x0 m) ((w64 ((w64 (y7 + 1)) + 1))) ((w64 (y8 + 1))))) else some y7)
def F_laws_heldSpotS (x0 : (List (Int × Int))) (x1 : Int) : Option Int :=
  F_laws_heldSpotS_L1 x0 FU (x1) (0)
def F_laws_heldSpotSS_L1 (x0 : (List (List (Int × Int)))) : Nat → Int → Int → Option Int
  | 0, _, _ => none
  | m + 1, y7, y8 => (if (decide (y8 < (List.length x0 : Int))) = true then Option.bind (idx x0 y8) fun u17 =>
  Option.bind (F_laws_heldSpotS u17 y7) fun u22 =>
  (if (decide (u22 < 0)) = true then some (-1) else (F_laws_heldSpotSS_L1 x0 m) (u22) ((w64 (y8 + 1)))) else some y7)
def F_laws_heldSpotSS (x0 : (List (List (Int × Int)))) (x1 : Int) : Option Int :=
  F_laws_heldSpotSS_L1 x0 FU (x1) (0)
def F_laws_heldShow (x0 : ((List (List (Int × Int))) × (List Int) × Int × Int)) (x1 : Int) : Option Int :=
  Option.bind (F_laws_heldSpotSS x0.1 x1) fun u8 =>
  (if (decide (u8 < 0)) = true then some (-1) else Option.bind (F_laws_heldIntS x0.2.1 u8) fun u19 =>
  (if (decide (u19 < 0)) = true then some (-1) else some u19))
def F_laws_heldMarch (x0 : (((List (List (Int × Int))) × (List Int) × Int × Int) × Int × (List Int) × (List Int))) (x1 : Int) : Option Int :=
  Option.bind (F_laws_heldShow x0.1 x1) fun u8 =>
  (if (decide (u8 < 0)) = true then some (-1) else Option.bind (F_laws_heldIntS x0.2.2.1 u8) fun u19 =>
  (if (decide (u19 < 0)) = true then some (-1) else Option.bind (F_laws_heldIntS x0.2.2.2 u19) fun u30 =>
  (if (decide (u30 < 0)) = true then some (-1) else some u30)))
def F_laws_FnExactBeatOnce (x0 : (((List (List (Int × Int))) × (List Int) × Int × Int) × Int × (List Int) × (List Int))) : Option Bool :=
  Option.bind (F_laws_szMarch x0 1048576) fun u9 =>
  (if (decide (u9 < 0)) = true then some true else Option.bind (F_laws_toMarch x0) fun u20 =>
  Option.bind (F_spec_BeatOnce u20) fun u34 =>
  Option.bind (F_laws_toMarch x0) fun u58 =>
  Option.bind (F_impl_BeatOnce u58) fun u82 =>
  jK1 (fun (y110 : Bool) => (if y110 = true then some false else Option.bind (F_laws_toMarch x0) fun u122 =>
  Option.bind (F_laws_eqMarch u58 u122) fun u137 =>
  (if (!u137) = true then some false else Option.bind (F_laws_markMarch u58 1) fun u148 =>
  jK1 (fun (y159 : Bool) => (if y159 = true then some false else Option.bind (F_laws_markMarch u82.1 1) fun u166 =>
  Option.bind (F_laws_heldMarch ((u166.2.1.1, u166.2.1.2.1, u82.1.1.2.2.1, u82.1.1.2.2.2), u82.1.2.1, u166.2.2.2.1, u166.2.2.2.2) 1) fun u174 =>
  (if (decide (u174 < 0)) = true then some false else (if (u174 != u166.1) = true then some false else Option.bind (F_laws_toMarch x0) fun u189 =>
  Option.bind (F_impl_BeatOnce u189) fun u203 =>
  jK1 (fun (y231 : Bool) => (if y231 = true then some false else Option.bind (F_laws_heldMarch ((u166.2.1.1, u166.2.1.2.1, u82.1.1.2.2.1, u82.1.1.2.2.2), u82.1.2.1, u166.2.2.2.1, u166.2.2.2.2) 1) fun u238 =>
  (if (decide (u238 < 0)) = true then some false else (if (u238 != u166.1) = true then some false else some true)))) (fun k232 => Option.bind (F_laws_eqMarch u203.1 u34.1) fun u253 =>
  (if (!u253) = true then k232 (true) else k232 ((u203.2 != u34.2)))))))) (fun k160 => (if (decide (u148.1 < 0)) = true then k160 (true) else Option.bind (F_laws_eqMarch u82.1 u34.1) fun u261 =>
  (if (!u261) = true then k160 (true) else k160 ((u82.2 != u34.2)))))))) (fun k111 => Option.bind (F_laws_eqMarch u82.1 u34.1) fun u268 =>
  (if (!u268) = true then k111 (true) else k111 ((u82.2 != u34.2)))))
def F_spec_GoOn (x0 : (((List (List (Int × Int))) × (List Int) × Int × Int) × Int × (List Int) × (List Int))) (x1 : Int) : Option ((((List (List (Int × Int))) × (List Int) × Int × Int) × Int × (List Int) × (List Int)) × Bool) :=
  Option.bind (F_spec_mnAsked x0 (3, x1)) fun u13 =>
  some u13
def F_slices_Index_int_int_L1 (x0 : (List Int)) (x1 : Int) : Nat → Int → Option Int
  | 0, _ => none
  | m + 1, y7 => (if (decide (y7 < (List.length x0 : Int))) = true then Option.bind (idx x0 y7) fun u17 =>
  (if (x1 == u17) = true then some y7 else (F_slices_Index_int_int_L1 x0 x1 m) ((w64 (y7 + 1)))) else some (-1))
def F_slices_Index_int_int (x0 : (List Int)) (x1 : Int) : Option Int :=
  F_slices_Index_int_int_L1 x0 x1 FU (0)
def F_slices_Contains_int_int (x0 : (List Int)) (x1 : Int) : Option Bool :=
  Option.bind (F_slices_Index_int_int x0 x1) fun u3 =>
  some (decide (0 ≤ u3))
def F_spec_l1Sign (x0 : Int) : Option Int :=
  (if (decide (0 < x0)) = true then some 1 else (if (decide (x0 < 0)) = true then some (-1) else some 0))
def F_spec_cpSquares_L1 (u10 : (List ((Int × Int) × (Int × Int) × Int))) : Nat → (List Int) → Int → Option (List Int)
  | 0, _, _ => none
  | m + 1, l21, y24 => (if (decide (y24 < (List.length u10 : Int))) = true then Option.bind (idx u10 y24) fun u34 =>
  Option.bind (F_spec_stSquare u34.1 u34.2.1) fun u47 =>
  Option.bind (app l21 [u47]) fun u59 =>
  (F_spec_cpSquares_L1 u10 m) (u59) ((w64 (y24 + 1))) else some l21)
def F_spec_cpSquares (x0 : ((List (List (Int × Int))) × (List Int) × Int × Int)) (x1 : Int) : Option (List Int) :=
  Option.bind (F_spec_swMoves x0 x1) fun u10 =>
  F_spec_cpSquares_L1 u10 FU ([]) (0)
def F_spec_cpWays_L2 (u38 : (List Int)) (nx29 : ((List Int) → Int → Option (List Int))) (y28 : Int) : Nat → (List Int) → Int → Option (List Int)
  | 0, _, _ => none
  | m + 1, l49, y52 => (if (decide (y52 < (List.length u38 : Int))) = true then Option.bind (idx u38 y52) fun u61 =>
  Option.bind (idx l49 y52) fun u65 =>
  Option.bind (idx l49 y52) fun u69 =>
  (F_spec_cpWays_L2 u38 nx29 y28 m) ((seti l49 y52 (w64 (u65 + u61)))) ((w64 (y52 + 1))) else nx29 (l49) ((w64 (y28 + 1))))
def F_spec_cpWays_L1 (x0 : ((List (List (Int × Int))) × (List Int) × Int × Int)) : Nat → (List Int) → Int → Option (List Int)
  | 0, _, _ => none
  | m + 1, l25, y28 => (if (decide (y28 < (List.length x0.2.1 : Int))) = true then Option.bind (F_spec_cpSquares x0 y28) fun u38 =>
  F_spec_cpWays_L2 u38 (F_spec_cpWays_L1 x0 m) y28 FU (l25) (0) else some l25)
def F_spec_cpWays (x0 : ((List (List (Int × Int))) × (List Int) × Int × Int)) : Option (List Int) :=
  Option.bind (idx x0.1 0) fun u8 =>
  Option.bind (mkL (List.length u8 : Int) 0) fun u13 =>
  F_spec_cpWays_L1 x0 FU (u13) (0)
def F_spec_cpSum_L1 (x0 : (List Int)) : Nat → Int → Int → Option Int
  | 0, _, _ => none
  | m + 1, y8, y9 => (if (decide (y9 < (List.length x0 : Int))) = true then Option.bind (idx x0 y9) fun u18 =>
  (F_spec_cpSum_L1 x0 m) ((w64 (y8 + u18))) ((w64 (y9 + 1))) else some y8)
def F_spec_cpSum (x0 : (List Int)) : Option Int :=
  F_spec_cpSum_L1 x0 FU (0) (0)
def F_spec_cpCompare (x0 : ((List (List (Int × Int))) × (List Int) × Int × Int)) (x1 : ((List (List (Int × Int))) × (List Int) × Int × Int)) : Option Int :=
  Option.bind (F_spec_UnsafeParts x0) fun u13 =>
  Option.bind (F_spec_UnsafeParts x1) fun u22 =>
  (if ((List.length u13.1 : Int) != (List.length u22.1 : Int)) = true then Option.bind (F_spec_l1Sign (w64 ((List.length u13.1 : Int) - (List.length u22.1 : Int)))) fun u34 =>
  some u34 else Option.bind (F_spec_swTotal x0) fun u47 =>
  Option.bind (F_spec_swTotal x1) fun u54 =>
  (if (u47 != u54) = true then Option.bind (F_spec_swTotal x1) fun u68 =>
  Option.bind (F_spec_swTotal x0) fun u75 =>
  Option.bind (F_spec_l1Sign (w64 (u68 - u75))) fun u82 =>
  some u82 else Option.bind (F_spec_cpWays x0) fun u95 =>
  Option.bind (F_spec_cpSum u95) fun u104 =>
  Option.bind (F_spec_cpWays x1) fun u111 =>
  Option.bind (F_spec_cpSum u111) fun u120 =>
  Option.bind (F_spec_l1Sign (w64 (u104 - u120))) fun u127 =>
  some u127))
def F_spec_CompareDemand (x0 : ((List (List (Int × Int))) × (List Int) × Int × Int)) (x1 : ((List (List (Int × Int))) × (List Int) × Int × Int)) : Option (Int × Bool) :=
  jK1 (fun (y17 : Bool) => (if y17 = true then some (0, false) else Option.bind (F_spec_cpCompare x0 x1) fun u23 =>
  some (u23, true))) (fun k18 => Option.bind (F_spec_swGood x0) fun u29 =>
  (if (!u29) = true then k18 (true) else Option.bind (F_spec_swGood x1) fun u36 =>
  k18 ((!u36))))
def F_impl_sideOf (x0 : Int) : Option Int :=
  (if (decide (0 < x0)) = true then some 1 else (if (decide (x0 < 0)) = true then some (-1) else some 0))
def F_impl_waySums_L2 (u38 : (List ((Int × Int) × (Int × Int) × Int))) (nx29 : ((List Int) → Int → Option (List Int))) (y28 : Int) : Nat → (List Int) → Int → Option (List Int)
  | 0, _, _ => none
  | m + 1, l49, y52 => (if (decide (y52 < (List.length u38 : Int))) = true then jK1 (fun (l63 : (List Int)) => (F_impl_waySums_L2 u38 nx29 y28 m) (l63) ((w64 (y52 + 1)))) (fun k66 => Option.bind (idx u38 y52) fun u69 =>
  Option.bind (idx l49 y52) fun u87 =>
  Option.bind (F_impl_squareOf u69.1 u69.2.1) fun u91 =>
  Option.bind (idx l49 y52) fun u99 =>
  k66 ((seti l49 y52 (w64 (u87 + u91))))) else nx29 (l49) ((w64 (y28 + 1))))
def F_impl_waySums_L1 (x0 : ((List (List (Int × Int))) × (List Int) × Int × Int)) : Nat → (List Int) → Int → Option (List Int)
  | 0, _, _ => none
  | m + 1, l25, y28 => (if (decide (y28 < (List.length x0.2.1 : Int))) = true then Option.bind (F_impl_showMoves x0 y28) fun u38 =>
  F_impl_waySums_L2 u38 (F_impl_waySums_L1 x0 m) y28 FU (l25) (0) else some l25)
def F_impl_waySums (x0 : ((List (List (Int × Int))) × (List Int) × Int × Int)) : Option (List Int) :=
  Option.bind (idx x0.1 0) fun u8 =>
  Option.bind (mkL (List.length u8 : Int) 0) fun u13 =>
  F_impl_waySums_L1 x0 FU (u13) (0)
def F_impl_compareDemand_L2 (u106 : (List Int)) : Nat → Int → Int → Option Int
  | 0, _, _ => none
  | m + 1, y117, y118 => (if (decide (y118 < (List.length u106 : Int))) = true then Option.bind (idx u106 y118) fun u127 =>
  (F_impl_compareDemand_L2 u106 m) ((w64 (y117 - u127))) ((w64 (y118 + 1))) else Option.bind (F_impl_sideOf y117) fun u132 =>
  some u132)
def F_impl_compareDemand_L1 (u79 : (List Int)) (x1 : ((List (List (Int × Int))) × (List Int) × Int × Int)) : Nat → Int → Int → Option Int
  | 0, _, _ => none
  | m + 1, y90, y91 => (if (decide (y91 < (List.length u79 : Int))) = true then Option.bind (idx u79 y91) fun u100 =>
  (F_impl_compareDemand_L1 u79 x1 m) ((w64 (y90 + u100))) ((w64 (y91 + 1))) else Option.bind (F_impl_waySums x1) fun u106 =>
  F_impl_compareDemand_L2 u106 FU (y90) (0))
def F_impl_compareDemand (x0 : ((List (List (Int × Int))) × (List Int) × Int × Int)) (x1 : ((List (List (Int × Int))) × (List Int) × Int × Int)) : Option Int :=
  Option.bind (F_impl_unsafParts x0) fun u19 =>
  Option.bind (F_impl_unsafParts x1) fun u28 =>
  (if ((List.length u19 : Int) != (List.length u28 : Int)) = true then Option.bind (F_impl_sideOf (w64 ((List.length u19 : Int) - (List.length u28 : Int)))) fun u40 =>
  some u40 else Option.bind (F_impl_totalCounts x0) fun u53 =>
  Option.bind (F_impl_totalCounts x1) fun u60 =>
  (if (u53 != u60) = true then Option.bind (F_impl_sideOf (w64 (u60 - u53))) fun u70 =>
  some u70 else Option.bind (F_impl_waySums x0) fun u79 =>
  F_impl_compareDemand_L1 u79 x1 FU (0) (0)))
def F_impl_CompareDemand (x0 : ((List (List (Int × Int))) × (List Int) × Int × Int)) (x1 : ((List (List (Int × Int))) × (List Int) × Int × Int)) : Option (Int × Bool) :=
  jK1 (fun (y17 : Bool) => (if y17 = true then some (0, false) else Option.bind (F_impl_compareDemand x0 x1) fun u23 =>
  some (u23, true))) (fun k18 => Option.bind (F_impl_IsShow x0) fun u29 =>
  (if (!u29) = true then k18 (true) else Option.bind (F_impl_IsShow x1) fun u36 =>
  k18 ((!u36))))
def F_laws_FnExactCompareDemand (x0 : ((List (List (Int × Int))) × (List Int) × Int × Int)) (x1 : ((List (List (Int × Int))) × (List Int) × Int × Int)) : Option Bool :=
  Option.bind (F_laws_szShow x0 1048576) fun u14 =>
  (if (decide (u14 < 0)) = true then some true else Option.bind (F_laws_szShow x1 u14) fun u25 =>
  (if (decide (u25 < 0)) = true then some true else Option.bind (F_laws_toShow x0) fun u41 =>
  Option.bind (F_laws_toShow x1) fun u52 =>
  Option.bind (F_spec_CompareDemand u41 u52) fun u63 =>
  Option.bind (F_laws_toShow x0) fun u72 =>
  Option.bind (F_laws_toShow x1) fun u92 =>
  Option.bind (F_impl_CompareDemand u72 u92) fun u112 =>
  jK1 (fun (y123 : Bool) => (if y123 = true then some false else Option.bind (F_laws_toShow x0) fun u135 =>
  Option.bind (F_laws_eqShow u72 u135) fun u146 =>
  (if (!u146) = true then some false else Option.bind (F_laws_toShow x1) fun u162 =>
  Option.bind (F_laws_eqShow u92 u162) fun u173 =>
  (if (!u173) = true then some false else some true)))) (fun k124 => (if (u112.1 != u63.1) = true then k124 (true) else k124 ((u112.2 != u63.2))))))
def F_spec_mnPlaces_L1 (x0 : (((List (List (Int × Int))) × (List Int) × Int × Int) × Int × (List Int) × (List Int))) : Nat → (List (Int × Int)) → Int → Option (List (Int × Int))
  | 0, _, _ => none
  | m + 1, l13, y16 => (if (decide (y16 < (List.length x0.2.2.2 : Int))) = true then Option.bind (F_spec_mnWhere x0 y16) fun u26 =>
  Option.bind (app l13 [u26]) fun u38 =>
  (F_spec_mnPlaces_L1 x0 m) (u38) ((w64 (y16 + 1))) else some l13)
def F_spec_mnPlaces (x0 : (((List (List (Int × Int))) × (List Int) × Int × Int) × Int × (List Int) × (List Int))) : Option (List (Int × Int)) :=
  F_spec_mnPlaces_L1 x0 FU ([]) (0)
def F_spec_PlacesNow (x0 : (((List (List (Int × Int))) × (List Int) × Int × Int) × Int × (List Int) × (List Int))) : Option ((List (Int × Int)) × Bool) :=
  Option.bind (F_spec_mnGood x0) fun u9 =>
  (if (!u9) = true then some ([], false) else Option.bind (F_spec_mnPlaces x0) fun u19 =>
  some (u19, true))
def F_impl_placesNow_L1 (x0 : (((List (List (Int × Int))) × (List Int) × Int × Int) × Int × (List Int) × (List Int))) : Nat → (List (Int × Int)) → Int → Option (List (Int × Int))
  | 0, _, _ => none
  | m + 1, l19, y22 => (if (decide (y22 < (List.length x0.2.2.2 : Int))) = true then Option.bind (F_impl_whereNow x0 y22) fun u31 =>
  Option.bind (app l19 [u31]) fun u43 =>
  (F_impl_placesNow_L1 x0 m) (u43) ((w64 (y22 + 1))) else some l19)
def F_impl_placesNow (x0 : (((List (List (Int × Int))) × (List Int) × Int × Int) × Int × (List Int) × (List Int))) : Option (List (Int × Int)) :=
  F_impl_placesNow_L1 x0 FU ([]) (0)
def F_impl_PlacesNow (x0 : (((List (List (Int × Int))) × (List Int) × Int × Int) × Int × (List Int) × (List Int))) : Option ((List (Int × Int)) × Bool) :=
  Option.bind (F_impl_IsMarch x0) fun u9 =>
  (if (!u9) = true then some ([], false) else Option.bind (F_impl_placesNow x0) fun u19 =>
  some (u19, true))
def F_laws_FnExactPlacesNow (x0 : (((List (List (Int × Int))) × (List Int) × Int × Int) × Int × (List Int) × (List Int))) : Option Bool :=
  Option.bind (F_laws_szMarch x0 1048576) fun u9 =>
  (if (decide (u9 < 0)) = true then some true else Option.bind (F_laws_toMarch x0) fun u20 =>
  Option.bind (F_spec_PlacesNow u20) fun u34 =>
  Option.bind (F_laws_toMarch x0) fun u43 =>
  Option.bind (F_impl_PlacesNow u43) fun u67 =>
  jK1 (fun (y80 : Bool) => (if y80 = true then some false else Option.bind (F_laws_toMarch x0) fun u92 =>
  Option.bind (F_laws_eqMarch u43 u92) fun u107 =>
  (if (!u107) = true then some false else Option.bind (F_laws_markMarch u43 1) fun u118 =>
  jK1 (fun (y129 : Bool) => (if y129 = true then some false else Option.bind (F_laws_markSpotS u67.1 1) fun u136 =>
  Option.bind (F_laws_heldSpotS u136.2 1) fun u144 =>
  (if (decide (u144 < 0)) = true then some false else (if (u144 != u136.1) = true then some false else Option.bind (F_laws_toMarch x0) fun u159 =>
  Option.bind (F_impl_PlacesNow u159) fun u173 =>
  jK1 (fun (y186 : Bool) => (if y186 = true then some false else Option.bind (F_laws_heldSpotS u136.2 1) fun u193 =>
  (if (decide (u193 < 0)) = true then some false else (if (u193 != u136.1) = true then some false else some true)))) (fun k187 => Option.bind (F_laws_eqSpotS u173.1 u34.1) fun u208 =>
  (if (!u208) = true then k187 (true) else k187 ((u173.2 != u34.2)))))))) (fun k130 => (if (decide (u118.1 < 0)) = true then k130 (true) else Option.bind (F_laws_eqSpotS u67.1 u34.1) fun u216 =>
  (if (!u216) = true then k130 (true) else k130 ((u67.2 != u34.2)))))))) (fun k81 => Option.bind (F_laws_eqSpotS u67.1 u34.1) fun u223 =>
  (if (!u223) = true then k81 (true) else k81 ((u67.2 != u34.2)))))
def F_spec_TooCloseNow_L2 (u19 : (List (Int × Int))) (u46 : (Int × Int)) (x0 : (((List (List (Int × Int))) × (List Int) × Int × Int) × Int × (List Int) × (List Int))) (y36 : Int) (nx37 : ((List (List Int)) → Int → Option ((List (List Int)) × Bool))) : Nat → (List (List Int)) → Int → Option ((List (List Int)) × Bool)
  | 0, _, _ => none
  | m + 1, l63, y66 => (if (decide (y66 < (List.length u19 : Int))) = true then jK1 (fun (l77 : (List (List Int))) => (F_spec_TooCloseNow_L2 u19 u46 x0 y36 nx37 m) (l77) ((w64 (y66 + 1)))) (fun k80 => Option.bind (idx u19 y66) fun u88 =>
  Option.bind (F_spec_stSquare u46 u88) fun u92 =>
  (if (decide (u92 < (w64 (x0.1.2.2.1 * x0.1.2.2.1)))) = true then Option.bind (app l63 [[y36, y66]]) fun u115 =>
  k80 (u115) else k80 (l63))) else nx37 (l63) ((w64 (y36 + 1))))
def F_spec_TooCloseNow_L1 (u19 : (List (Int × Int))) (x0 : (((List (List (Int × Int))) × (List Int) × Int × Int) × Int × (List Int) × (List Int))) : Nat → (List (List Int)) → Int → Option ((List (List Int)) × Bool)
  | 0, _, _ => none
  | m + 1, l33, y36 => (if (decide (y36 < (List.length u19 : Int))) = true then Option.bind (idx u19 y36) fun u46 =>
  F_spec_TooCloseNow_L2 u19 u46 x0 y36 (F_spec_TooCloseNow_L1 u19 x0 m) FU (l33) ((w64 (y36 + 1))) else some (l33, true))
def F_spec_TooCloseNow (x0 : (((List (List (Int × Int))) × (List Int) × Int × Int) × Int × (List Int) × (List Int))) : Option ((List (List Int)) × Bool) :=
  Option.bind (F_spec_mnGood x0) fun u9 =>
  (if (!u9) = true then some ([], false) else Option.bind (F_spec_mnPlaces x0) fun u19 =>
  F_spec_TooCloseNow_L1 u19 x0 FU ([]) (0))
def F_impl_TooCloseNow_L2 (u19 : (List (Int × Int))) (y41 : Int) (x0 : (((List (List (Int × Int))) × (List Int) × Int × Int) × Int × (List Int) × (List Int))) (nx42 : ((List (List Int)) → Int → Option ((List (List Int)) × Bool))) : Nat → (List (List Int)) → Int → Option ((List (List Int)) × Bool)
  | 0, _, _ => none
  | m + 1, l54, y57 => (if (decide (y57 < (List.length u19 : Int))) = true then jK1 (fun (l68 : (List (List Int))) => (F_impl_TooCloseNow_L2 u19 y41 x0 nx42 m) (l68) ((w64 (y57 + 1)))) (fun k71 => Option.bind (idx u19 y41) fun u79 =>
  Option.bind (idx u19 y57) fun u83 =>
  Option.bind (F_impl_squareOf u79 u83) fun u87 =>
  (if (decide (u87 < (w64 (x0.1.2.2.1 * x0.1.2.2.1)))) = true then Option.bind (app l54 [[y41, y57]]) fun u110 =>
  k71 (u110) else k71 (l54))) else nx42 (l54) ((w64 (y41 + 1))))
def F_impl_TooCloseNow_L1 (u19 : (List (Int × Int))) (x0 : (((List (List (Int × Int))) × (List Int) × Int × Int) × Int × (List Int) × (List Int))) : Nat → (List (List Int)) → Int → Option ((List (List Int)) × Bool)
  | 0, _, _ => none
  | m + 1, l38, y41 => (if (decide (y41 < (List.length u19 : Int))) = true then F_impl_TooCloseNow_L2 u19 y41 x0 (F_impl_TooCloseNow_L1 u19 x0 m) FU (l38) ((w64 (y41 + 1))) else some (l38, true))
def F_impl_TooCloseNow (x0 : (((List (List (Int × Int))) × (List Int) × Int × Int) × Int × (List Int) × (List Int))) : Option ((List (List Int)) × Bool) :=
  Option.bind (F_impl_IsMarch x0) fun u9 =>
  (if (!u9) = true then some ([], false) else Option.bind (F_impl_placesNow x0) fun u19 =>
  F_impl_TooCloseNow_L1 u19 x0 FU ([]) (0))
def F_laws_FnExactTooCloseNow (x0 : (((List (List (Int × Int))) × (List Int) × Int × Int) × Int × (List Int) × (List Int))) : Option Bool :=
  Option.bind (F_laws_szMarch x0 1048576) fun u9 =>
  (if (decide (u9 < 0)) = true then some true else Option.bind (F_laws_toMarch x0) fun u20 =>
  Option.bind (F_spec_TooCloseNow u20) fun u34 =>
  Option.bind (F_laws_toMarch x0) fun u43 =>
  Option.bind (F_impl_TooCloseNow u43) fun u67 =>
  jK1 (fun (y80 : Bool) => (if y80 = true then some false else Option.bind (F_laws_toMarch x0) fun u92 =>
  Option.bind (F_laws_eqMarch u43 u92) fun u107 =>
  (if (!u107) = true then some false else Option.bind (F_laws_markMarch u43 1) fun u118 =>
  jK1 (fun (y129 : Bool) => (if y129 = true then some false else Option.bind (F_laws_markIntSS u67.1 1) fun u136 =>
  Option.bind (F_laws_heldIntSS u136.2 1) fun u144 =>
  (if (decide (u144 < 0)) = true then some false else (if (u144 != u136.1) = true then some false else Option.bind (F_laws_toMarch x0) fun u159 =>
  Option.bind (F_impl_TooCloseNow u159) fun u173 =>
  jK1 (fun (y186 : Bool) => (if y186 = true then some false else Option.bind (F_laws_heldIntSS u136.2 1) fun u193 =>
  (if (decide (u193 < 0)) = true then some false else (if (u193 != u136.1) = true then some false else some true)))) (fun k187 => Option.bind (F_laws_eqIntSS u173.1 u34.1) fun u208 =>
  (if (!u208) = true then k187 (true) else k187 ((u173.2 != u34.2)))))))) (fun k130 => (if (decide (u118.1 < 0)) = true then k130 (true) else Option.bind (F_laws_eqIntSS u67.1 u34.1) fun u216 =>
  (if (!u216) = true then k130 (true) else k130 ((u67.2 != u34.2)))))))) (fun k81 => Option.bind (F_laws_eqIntSS u67.1 u34.1) fun u223 =>
  (if (!u223) = true then k81 (true) else k81 ((u67.2 != u34.2)))))
def F_spec_PublishSheets_L1 (u21 : (List (Int × Int))) (x0 : ((List (List (Int × Int))) × (List Int) × Int × Int)) : Nat → (List (Int × (Int × Int) × (List (Int × (Int × Int))))) → Int → Option ((List (Int × (Int × Int) × (List (Int × (Int × Int))))) × Bool)
  | 0, _, _ => none
  | m + 1, l29, y32 => (if (decide (y32 < (List.length u21 : Int))) = true then Option.bind (F_spec_shOf x0.1 x0.2.1 y32) fun u42 =>
  Option.bind (app l29 [u42]) fun u59 =>
  (F_spec_PublishSheets_L1 u21 x0 m) (u59) ((w64 (y32 + 1))) else some (l29, true))
def F_spec_PublishSheets (x0 : ((List (List (Int × Int))) × (List Int) × Int × Int)) : Option ((List (Int × (Int × Int) × (List (Int × (Int × Int))))) × Bool) :=
  jK1 (fun (y12 : Bool) => (if y12 = true then some ([], false) else Option.bind (idx x0.1 0) fun u21 =>
  F_spec_PublishSheets_L1 u21 x0 FU ([]) (0))) (fun k13 => Option.bind (F_spec_swGood x0) fun u67 =>
  (if (!u67) = true then k13 (true) else Option.bind (F_spec_swUnsafe x0) fun u74 =>
  k13 ((decide (0 < (List.length u74 : Int))))))
def F_impl_PublishSheets_L1 (u27 : (List (Int × Int))) (x0 : ((List (List (Int × Int))) × (List Int) × Int × Int)) : Nat → (List (Int × (Int × Int) × (List (Int × (Int × Int))))) → Int → Option ((List (Int × (Int × Int) × (List (Int × (Int × Int))))) × Bool)
  | 0, _, _ => none
  | m + 1, l35, y38 => (if (decide (y38 < (List.length u27 : Int))) = true then Option.bind (F_impl_sheetOf x0.1 x0.2.1 y38) fun u47 =>
  Option.bind (app l35 [u47]) fun u64 =>
  (F_impl_PublishSheets_L1 u27 x0 m) (u64) ((w64 (y38 + 1))) else some (l35, true))
def F_impl_PublishSheets (x0 : ((List (List (Int × Int))) × (List Int) × Int × Int)) : Option ((List (Int × (Int × Int) × (List (Int × (Int × Int))))) × Bool) :=
  jK1 (fun (y12 : Bool) => (if y12 = true then some ([], false) else Option.bind (idx x0.1 0) fun u27 =>
  F_impl_PublishSheets_L1 u27 x0 FU ([]) (0))) (fun k13 => Option.bind (F_impl_IsShow x0) fun u72 =>
  (if (!u72) = true then k13 (true) else Option.bind (F_impl_unsafParts x0) fun u79 =>
  k13 ((decide (0 < (List.length u79 : Int))))))
def F_laws_eqRow (x0 : (Int × (Int × Int))) (x1 : (Int × (Int × Int))) : Option Bool :=
  (if (x0.1 != x1.1) = true then some false else Option.bind (F_laws_eqSpot x0.2 x1.2) fun u18 =>
  (if (!u18) = true then some false else some true))
def F_laws_eqRowS_L1 (x0 : (List (Int × (Int × Int)))) (x1 : (List (Int × (Int × Int)))) : Nat → Int → Option Bool
  | 0, _ => none
  | m + 1, y11 => (if (decide (y11 < (List.length x0 : Int))) = true then Option.bind (idx x0 y11) fun u25 =>
  Option.bind (idx x1 y11) fun u28 =>
  Option.bind (F_laws_eqRow u25 u28) fun u31 =>
  (if (!u31) = true then some false else (F_laws_eqRowS_L1 x0 x1 m) ((w64 (y11 + 1)))) else some true)
def F_laws_eqRowS (x0 : (List (Int × (Int × Int)))) (x1 : (List (Int × (Int × Int)))) : Option Bool :=
  (if ((List.length x0 : Int) != (List.length x1 : Int)) = true then some false else F_laws_eqRowS_L1 x0 x1 FU (0))
def F_laws_eqSheet (x0 : (Int × (Int × Int) × (List (Int × (Int × Int))))) (x1 : (Int × (Int × Int) × (List (Int × (Int × Int))))) : Option Bool :=
  (if (x0.1 != x1.1) = true then some false else Option.bind (F_laws_eqSpot x0.2.1 x1.2.1) fun u18 =>
  (if (!u18) = true then some false else Option.bind (F_laws_eqRowS x0.2.2 x1.2.2) fun u28 =>
  (if (!u28) = true then some false else some true)))
def F_laws_eqSheetS_L1 (x0 : (List (Int × (Int × Int) × (List (Int × (Int × Int)))))) (x1 : (List (Int × (Int × Int) × (List (Int × (Int × Int)))))) : Nat → Int → Option Bool
  | 0, _ => none
  | m + 1, y11 => (if (decide (y11 < (List.length x0 : Int))) = true then Option.bind (idx x0 y11) fun u25 =>
  Option.bind (idx x1 y11) fun u30 =>
  Option.bind (F_laws_eqSheet u25 u30) fun u35 =>
  (if (!u35) = true then some false else (F_laws_eqSheetS_L1 x0 x1 m) ((w64 (y11 + 1)))) else some true)
def F_laws_eqSheetS (x0 : (List (Int × (Int × Int) × (List (Int × (Int × Int)))))) (x1 : (List (Int × (Int × Int) × (List (Int × (Int × Int)))))) : Option Bool :=
  (if ((List.length x0 : Int) != (List.length x1 : Int)) = true then some false else F_laws_eqSheetS_L1 x0 x1 FU (0))
def F_laws_markRowS_L1  : Nat → (List (Int × (Int × Int))) → Int → Int → Option (Int × (List (Int × (Int × Int))))
  | 0, _, _, _ => none
  | m + 1, l7, y8, y9 => (if (decide (y9 < (List.length l7 : Int))) = true then Option.bind (idx l7 y9) fun u18 =>
  Option.bind (idx (seti l7 y9 (y8, u18.2)) y9) fun u28 =>
  Option.bind (idx (seti (seti l7 y9 (y8, u18.2)) y9 (u28.1, ((w64 (y8 + 1)), u28.2.2))) y9) fun u38 =>
  (F_laws_markRowS_L1 m) ((seti (seti (seti l7 y9 (y8, u18.2)) y9 (u28.1, ((w64 (y8 + 1)), u28.2.2))) y9 (u38.1, (u38.2.1, (w64 ((w64 (y8 + 1)) + 1)))))) ((w64 ((w64 ((w64 (y8 + 1)) + 1)) + 1))) ((w64 (y9 + 1))) else some (y8, l7))
def F_laws_markRowS (x0 : (List (Int × (Int × Int)))) (x1 : Int) : Option (Int × (List (Int × (Int × Int)))) :=
  F_laws_markRowS_L1 FU (x0) (x1) (0)
def F_laws_heldRowS_L1 (x0 : (List (Int × (Int × Int)))) : Nat → Int → Int → Option Int
  | 0, _, _ => none
  | m + 1, y7, y8 => (if (decide (y8 < (List.length x0 : Int))) = true then Option.bind (idx x0 y8) fun u18 =>
  (if (u18.1 != y7) = true then some (-1) else Option.bind (idx x0 y8) fun u26 =>
  (if (u26.2.1 != (w64 (y7 + 1))) = true then some (-1) else Option.bind (idx x0 y8) fun u34 =>
  (if (u34.2.2 != (w64 ((w64 (y7 + 1)) + 1))) = true then some (-1) else (F_laws_heldRowS_L1 x0 m) ((w64 ((w64 ((w64 (y7 + 1)) + 1)) + 1))) ((w64 (y8 + 1)))))) else some y7)
def F_laws_heldRowS (x0 : (List (Int × (Int × Int)))) (x1 : Int) : Option Int :=
  F_laws_heldRowS_L1 x0 FU (x1) (0)
def F_laws_heldSheetS_L1 (x0 : (List (Int × (Int × Int) × (List (Int × (Int × Int)))))) : Nat → Int → Int → Option Int
  | 0, _, _ => none
  | m + 1, y7, y8 => (if (decide (y8 < (List.length x0 : Int))) = true then Option.bind (idx x0 y8) fun u18 =>
  (if (u18.1 != y7) = true then some (-1) else Option.bind (idx x0 y8) fun u28 =>
  (if (u28.2.1.1 != (w64 (y7 + 1))) = true then some (-1) else Option.bind (idx x0 y8) fun u38 =>
  (if (u38.2.1.2 != (w64 ((w64 (y7 + 1)) + 1))) = true then some (-1) else Option.bind (idx x0 y8) fun u47 =>
  Option.bind (F_laws_heldRowS u47.2.2 (w64 ((w64 ((w64 (y7 + 1)) + 1)) + 1))) fun u52 =>
  (if (decide (u52 < 0)) = true then some (-1) else (F_laws_heldSheetS_L1 x0 m) (u52) ((w64 (y8 + 1))))))) else some y7)
def F_laws_heldSheetS (x0 : (List (Int × (Int × Int) × (List (Int × (Int × Int)))))) (x1 : Int) : Option Int :=
  F_laws_heldSheetS_L1 x0 FU (x1) (0)
end Go.Proofs.Ythlfhcefeaehmaa
