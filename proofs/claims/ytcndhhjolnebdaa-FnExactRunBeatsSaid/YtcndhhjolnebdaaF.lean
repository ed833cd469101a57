/-
  THE FUNCTIONS of this seat as plain functions, by program (gen.py).
-/
import Derived.Test.YtcndhhjolnebdaaCore0
set_option linter.unusedSimpArgs false
set_option linter.unusedVariables false
set_option maxRecDepth 100000
namespace Go.Proofs.Ytcndhhjolnebdaa
open Go
def eqv_Spot (x y : (Int × Int)) : Bool := (x.1 == y.1) && (x.2 == y.2)
def G_Spot (x : (Int × Int)) : Prop := inI64 x.1 ∧ inI64 x.2
def G_Show (x : ((List (List (Int × Int))) × (List Int) × Int × Int)) : Prop := (allG (allG G_Spot)) x.1 ∧ (allG inI64) x.2.1 ∧ inI64 x.2.2.1 ∧ inI64 x.2.2.2
def G_March (x : (((List (List (Int × Int))) × (List Int) × Int × Int) × Int × (List Int) × (List Int))) : Prop := G_Show x.1 ∧ inI64 x.2.1 ∧ (allG inI64) x.2.2.1 ∧ (allG inI64) x.2.2.2
def G_Beat (x : (Int × Int)) : Prop := inI64 x.1 ∧ inI64 x.2
def F_laws_szSpotS (x0 : (List (Int × Int))) (x1 : Int) : Option Int :=
  (if (decide ((w64 (x1 - (List.length x0 : Int))) < 0)) = true then some (-1) else some (w64 (x1 - (List.length x0 : Int))))
def F_laws_szSpotSS_L1 (x0 : (List (List (Int × Int)))) : Nat → Int → Int → Option Int
  | 0, _, _ => none
  | m + 1, y12, y13 => (if (decide (y13 < (List.length x0 : Int))) = true then Option.bind (idx x0 y13) fun u22 =>
  Option.bind (F_laws_szSpotS u22 y12) fun u27 =>
  (if (decide (u27 < 0)) = true then some (-1) else (F_laws_szSpotSS_L1 x0 m) (u27) ((w64 (y13 + 1)))) else some y12)
def F_laws_szSpotSS (x0 : (List (List (Int × Int)))) (x1 : Int) : Option Int :=
  (if (decide ((w64 (x1 - (List.length x0 : Int))) < 0)) = true then some (-1) else F_laws_szSpotSS_L1 x0 FU ((w64 (x1 - (List.length x0 : Int)))) (0))
def F_laws_szIntS (x0 : (List Int)) (x1 : Int) : Option Int :=
  (if (decide ((w64 (x1 - (List.length x0 : Int))) < 0)) = true then some (-1) else some (w64 (x1 - (List.length x0 : Int))))
def F_laws_szShow (x0 : ((List (List (Int × Int))) × (List Int) × Int × Int)) (x1 : Int) : Option Int :=
  Option.bind (F_laws_szSpotSS x0.1 x1) fun u8 =>
  (if (decide (u8 < 0)) = true then some (-1) else Option.bind (F_laws_szIntS x0.2.1 u8) fun u19 =>
  (if (decide (u19 < 0)) = true then some (-1) else some u19))
def F_laws_szShowS_L1 (x0 : (List ((List (List (Int × Int))) × (List Int) × Int × Int))) : Nat → Int → Int → Option Int
  | 0, _, _ => none
  | m + 1, y12, y13 => (if (decide (y13 < (List.length x0 : Int))) = true then Option.bind (idx x0 y13) fun u22 =>
  Option.bind (F_laws_szShow u22 y12) fun u29 =>
  (if (decide (u29 < 0)) = true then some (-1) else (F_laws_szShowS_L1 x0 m) (u29) ((w64 (y13 + 1)))) else some y12)
def F_laws_szShowS (x0 : (List ((List (List (Int × Int))) × (List Int) × Int × Int))) (x1 : Int) : Option Int :=
  (if (decide ((w64 (x1 - (List.length x0 : Int))) < 0)) = true then some (-1) else F_laws_szShowS_L1 x0 FU ((w64 (x1 - (List.length x0 : Int)))) (0))
def F_laws_toSpot (x0 : (Int × Int)) : Option (Int × Int) :=
  some x0
def F_laws_toSpotS_L1 (x0 : (List (Int × Int))) : Nat → (List (Int × Int)) → Int → Option (List (Int × Int))
  | 0, _, _ => none
  | m + 1, l15, y18 => (if (decide (y18 < (List.length x0 : Int))) = true then Option.bind (idx x0 y18) fun u26 =>
  Option.bind (F_laws_toSpot u26) fun u29 =>
  Option.bind (idx l15 y18) fun u35 =>
  (F_laws_toSpotS_L1 x0 m) ((seti l15 y18 u29)) ((w64 (y18 + 1))) else some l15)
def F_laws_toSpotS (x0 : (List (Int × Int))) : Option (List (Int × Int)) :=
  Option.bind (mkL (List.length x0 : Int) (0, 0)) fun u3 =>
  F_laws_toSpotS_L1 x0 FU (u3) (0)
def F_laws_toSpotSS_L1 (x0 : (List (List (Int × Int)))) : Nat → (List (List (Int × Int))) → Int → Option (List (List (Int × Int)))
  | 0, _, _ => none
  | m + 1, l15, y18 => (if (decide (y18 < (List.length x0 : Int))) = true then Option.bind (idx x0 y18) fun u26 =>
  Option.bind (F_laws_toSpotS u26) fun u31 =>
  Option.bind (idx l15 y18) fun u39 =>
  (F_laws_toSpotSS_L1 x0 m) ((seti l15 y18 u31)) ((w64 (y18 + 1))) else some l15)
def F_laws_toSpotSS (x0 : (List (List (Int × Int)))) : Option (List (List (Int × Int))) :=
  Option.bind (mkL (List.length x0 : Int) []) fun u3 =>
  F_laws_toSpotSS_L1 x0 FU (u3) (0)
def F_laws_toIntS_L1 (x0 : (List Int)) : Nat → (List Int) → Int → Option (List Int)
  | 0, _, _ => none
  | m + 1, l15, y18 => (if (decide (y18 < (List.length x0 : Int))) = true then Option.bind (idx x0 y18) fun u26 =>
  Option.bind (idx l15 y18) fun u29 =>
  (F_laws_toIntS_L1 x0 m) ((seti l15 y18 u26)) ((w64 (y18 + 1))) else some l15)
def F_laws_toIntS (x0 : (List Int)) : Option (List Int) :=
  Option.bind (mkL (List.length x0 : Int) 0) fun u3 =>
  F_laws_toIntS_L1 x0 FU (u3) (0)
def F_laws_toShow (x0 : ((List (List (Int × Int))) × (List Int) × Int × Int)) : Option ((List (List (Int × Int))) × (List Int) × Int × Int) :=
  Option.bind (F_laws_toSpotSS x0.1) fun u19 =>
  Option.bind (F_laws_toIntS x0.2.1) fun u32 =>
  some (u19, u32, x0.2.2.1, x0.2.2.2)
def F_spec_l1In (x0 : Int) (x1 : Int) (x2 : Int) : Option Bool :=
  jK1 (fun (y6 : Bool) => some y6) (fun k7 => (if (decide (x1 ≤ x0)) = true then k7 ((decide (x0 ≤ x2))) else k7 (false)))
def F_spec_stGood (x0 : (Int × Int)) : Option Bool :=
  jK1 (fun (y11 : Bool) => some y11) (fun k12 => Option.bind (F_spec_l1In x0.1 0 1280) fun u14 =>
  (if u14 = true then Option.bind (F_spec_l1In x0.2 0 672) fun u21 =>
  k12 (u21) else k12 (false)))
def F_spec_chGood_L2 (u39 : (List (Int × Int))) (u16 : (Int × Int)) (nx8 : (Int → Option Bool)) (y7 : Int) : Nat → Int → Option Bool
  | 0, _ => none
  | m + 1, y45 => (if (decide (y45 < (List.length u39 : Int))) = true then Option.bind (idx u39 y45) fun u54 =>
  (if (eqv_Spot u16 u54) = true then some false else (F_spec_chGood_L2 u39 u16 nx8 y7 m) ((w64 (y45 + 1)))) else nx8 ((w64 (y7 + 1))))
def F_spec_chGood_L1 (x0 : (List (Int × Int))) : Nat → Int → Option Bool
  | 0, _ => none
  | m + 1, y7 => (if (decide (y7 < (List.length x0 : Int))) = true then Option.bind (idx x0 y7) fun u16 =>
  Option.bind (F_spec_stGood u16) fun u30 =>
  (if (!u30) = true then some false else Option.bind (sl x0 0 y7) fun u39 =>
  F_spec_chGood_L2 u39 u16 (F_spec_chGood_L1 x0 m) y7 FU (0)) else Option.bind (F_spec_l1In (List.length x0 : Int) 1 12) fun u70 =>
  some u70)
def F_spec_chGood (x0 : (List (Int × Int))) : Option Bool :=
  F_spec_chGood_L1 x0 FU (0)
def F_spec_l1All_L1 (x0 : (List Int)) (x1 : Int) (x2 : Int) : Nat → Int → Option Bool
  | 0, _ => none
  | m + 1, y7 => (if (decide (y7 < (List.length x0 : Int))) = true then Option.bind (idx x0 y7) fun u16 =>
  Option.bind (F_spec_l1In u16 x1 x2) fun u20 =>
  (if (!u20) = true then some false else (F_spec_l1All_L1 x0 x1 x2 m) ((w64 (y7 + 1)))) else some true)
def F_spec_l1All (x0 : (List Int)) (x1 : Int) (x2 : Int) : Option Bool :=
  F_spec_l1All_L1 x0 x1 x2 FU (0)
def F_spec_apDistance (x0 : Int) : Option Bool :=
  Option.bind (F_spec_l1In x0 0 80) fun u3 =>
  some u3
def F_spec_mvStep (x0 : Int) : Option Bool :=
  Option.bind (F_spec_l1In x0 1 24) fun u3 =>
  some u3
def F_spec_swGood_L1 (x0 : ((List (List (Int × Int))) × (List Int) × Int × Int)) : Nat → Int → Option Bool
  | 0, _ => none
  | m + 1, y12 => (if (decide (y12 < (List.length x0.1 : Int))) = true then Option.bind (idx x0.1 y12) fun u21 =>
  jK1 (fun (y30 : Bool) => (if y30 = true then some false else (F_spec_swGood_L1 x0 m) ((w64 (y12 + 1))))) (fun k31 => Option.bind (F_spec_chGood u21) fun u35 =>
  (if (!u35) = true then k31 (true) else Option.bind (idx x0.1 0) fun u42 =>
  k31 (((List.length u21 : Int) != (List.length u42 : Int))))) else jK1 (fun (y51 : Bool) => some y51) (fun k52 => Option.bind (F_spec_l1In (List.length x0.1 : Int) 2 8) fun u54 =>
  (if u54 = true then (if ((List.length x0.2.1 : Int) == (w64 ((List.length x0.1 : Int) - 1))) = true then Option.bind (F_spec_l1All x0.2.1 1 64) fun u62 =>
  (if u62 = true then Option.bind (F_spec_apDistance x0.2.2.1) fun u69 =>
  (if u69 = true then Option.bind (F_spec_mvStep x0.2.2.2) fun u76 =>
  k52 (u76) else k52 (false)) else k52 (false)) else k52 (false)) else k52 (false))))
def F_spec_swGood (x0 : ((List (List (Int × Int))) × (List Int) × Int × Int)) : Option Bool :=
  F_spec_swGood_L1 x0 FU (0)
def F_spec_swMoves_L1 (u10 : (List (Int × Int))) (x0 : ((List (List (Int × Int))) × (List Int) × Int × Int)) (x1 : Int) : Nat → (List ((Int × Int) × (Int × Int) × Int)) → Int → Option (List ((Int × Int) × (Int × Int) × Int))
  | 0, _, _ => none
  | m + 1, l18, y21 => (if (decide (y21 < (List.length u10 : Int))) = true then Option.bind (idx u10 y21) fun u31 =>
  Option.bind (idx x0.1 (w64 (x1 + 1))) fun u48 =>
  Option.bind (idx u48 y21) fun u53 =>
  Option.bind (idx x0.2.1 x1) fun u56 =>
  Option.bind (app l18 [(u31, u53, u56)]) fun u70 =>
  (F_spec_swMoves_L1 u10 x0 x1 m) (u70) ((w64 (y21 + 1))) else some l18)
def F_spec_swMoves (x0 : ((List (List (Int × Int))) × (List Int) × Int × Int)) (x1 : Int) : Option (List ((Int × Int) × (Int × Int) × Int)) :=
  Option.bind (idx x0.1 x1) fun u10 =>
  F_spec_swMoves_L1 u10 x0 x1 FU ([]) (0)
def F_spec_apEnds (x0 : ((Int × Int) × (Int × Int) × Int)) (x1 : ((Int × Int) × (Int × Int) × Int)) : Option (Int × Int × Int × Int) :=
  some ((w64 (x0.1.1 - x1.1.1)), (w64 (x0.1.2 - x1.1.2)), (w64 (x0.2.1.1 - x1.2.1.1)), (w64 (x0.2.1.2 - x1.2.1.2)))
def F_spec_apInner (x0 : ((Int × Int) × (Int × Int) × Int)) (x1 : ((Int × Int) × (Int × Int) × Int)) : Option (Int × Int) :=
  Option.bind (F_spec_apEnds x0 x1) fun u13 =>
  jK1 (fun (y26 : Bool) => (if y26 = true then some (0, 0) else some ((w64 (0 - (w64 ((w64 (u13.1 * (w64 (u13.2.2.1 - u13.1)))) + (w64 (u13.2.1 * (w64 (u13.2.2.2 - u13.2.1)))))))), (w64 ((w64 ((w64 (u13.2.2.1 - u13.1)) * (w64 (u13.2.2.1 - u13.1)))) + (w64 ((w64 (u13.2.2.2 - u13.2.1)) * (w64 (u13.2.2.2 - u13.2.1))))))))) (fun k27 => (if (decide ((w64 (0 - (w64 ((w64 (u13.1 * (w64 (u13.2.2.1 - u13.1)))) + (w64 (u13.2.1 * (w64 (u13.2.2.2 - u13.2.1)))))))) ≤ 0)) = true then k27 (true) else k27 ((decide ((w64 ((w64 ((w64 (u13.2.2.1 - u13.1)) * (w64 (u13.2.2.1 - u13.1)))) + (w64 ((w64 (u13.2.2.2 - u13.2.1)) * (w64 (u13.2.2.2 - u13.2.1)))))) ≤ (w64 (0 - (w64 ((w64 (u13.1 * (w64 (u13.2.2.1 - u13.1)))) + (w64 (u13.2.1 * (w64 (u13.2.2.2 - u13.2.1)))))))))))))
def F_spec_l1Most (x0 : Int) (x1 : Int) : Option Int :=
  (if (decide (x1 < x0)) = true then some x0 else some x1)
def F_spec_l1Abs (x0 : Int) : Option Int :=
  Option.bind (F_spec_l1Most x0 (w64 (0 - x0))) fun u3 =>
  some u3
def F_spec_mvPart_L1 (x0 : Int) (x1 : Int) : Nat → Int → Int → Option (Int × Int)
  | 0, _, _ => none
  | m + 1, y13, y14 => (if (decide (0 < y14)) = true then (if y14 = 0 then none else (F_spec_mvPart_L1 x0 x1 m) (y14) ((Int.tmod y13 y14))) else (if y13 = 0 then none else (if y13 = 0 then none else some ((w64 (Int.tdiv x0 y13)), (w64 (Int.tdiv x1 y13))))))
def F_spec_mvPart (x0 : Int) (x1 : Int) : Option (Int × Int) :=
  Option.bind (F_spec_l1Abs x0) fun u3 =>
  F_spec_mvPart_L1 x0 x1 FU (u3) (x1)
def F_spec_l1Least (x0 : Int) (x1 : Int) : Option Int :=
  (if (decide (x0 < x1)) = true then some x0 else some x1)
def F_spec_apLeast (x0 : ((Int × Int) × (Int × Int) × Int)) (x1 : ((Int × Int) × (Int × Int) × Int)) : Option (Int × Int) :=
  Option.bind (F_spec_apEnds x0 x1) fun u13 =>
  Option.bind (F_spec_apInner x0 x1) fun u21 =>
  (if (decide (0 < u21.2)) = true then Option.bind (F_spec_mvPart (w64 ((w64 ((w64 (u13.1 * u13.2.2.2)) - (w64 (u13.2.1 * u13.2.2.1)))) * (w64 ((w64 (u13.1 * u13.2.2.2)) - (w64 (u13.2.1 * u13.2.2.1)))))) u21.2) fun u31 =>
  some u31 else Option.bind (F_spec_l1Least (w64 ((w64 (u13.1 * u13.1)) + (w64 (u13.2.1 * u13.2.1)))) (w64 ((w64 (u13.2.2.1 * u13.2.2.1)) + (w64 (u13.2.2.2 * u13.2.2.2))))) fun u38 =>
  some (u38, 1))
def F_spec_apStay (x0 : ((Int × Int) × (Int × Int) × Int)) (x1 : ((Int × Int) × (Int × Int) × Int)) (x2 : Int) : Option Bool :=
  Option.bind (F_spec_apLeast x0 x1) fun u13 =>
  some (decide ((w64 ((w64 (x2 * x2)) * u13.2)) ≤ u13.1))
def F_spec_swClose_L2 (u8 : (List ((Int × Int) × (Int × Int) × Int))) (u35 : ((Int × Int) × (Int × Int) × Int)) (x0 : ((List (List (Int × Int))) × (List Int) × Int × Int)) (y25 : Int) (nx26 : ((List (List Int)) → Int → Option (List (List Int)))) : Nat → (List (List Int)) → Int → Option (List (List Int))
  | 0, _, _ => none
  | m + 1, l52, y55 => (if (decide (y55 < (List.length u8 : Int))) = true then jK1 (fun (l66 : (List (List Int))) => (F_spec_swClose_L2 u8 u35 x0 y25 nx26 m) (l66) ((w64 (y55 + 1)))) (fun k69 => Option.bind (idx u8 y55) fun u77 =>
  Option.bind (F_spec_apStay u35 u77 x0.2.2.1) fun u81 =>
  (if (!u81) = true then Option.bind (app l52 [[y25, y55]]) fun u104 =>
  k69 (u104) else k69 (l52))) else nx26 (l52) ((w64 (y25 + 1))))
def F_spec_swClose_L1 (u8 : (List ((Int × Int) × (Int × Int) × Int))) (x0 : ((List (List (Int × Int))) × (List Int) × Int × Int)) : Nat → (List (List Int)) → Int → Option (List (List Int))
  | 0, _, _ => none
  | m + 1, l22, y25 => (if (decide (y25 < (List.length u8 : Int))) = true then Option.bind (idx u8 y25) fun u35 =>
  F_spec_swClose_L2 u8 u35 x0 y25 (F_spec_swClose_L1 u8 x0 m) FU (l22) ((w64 (y25 + 1))) else some l22)
def F_spec_swClose (x0 : ((List (List (Int × Int))) × (List Int) × Int × Int)) (x1 : Int) : Option (List (List Int)) :=
  Option.bind (F_spec_swMoves x0 x1) fun u8 =>
  F_spec_swClose_L1 u8 x0 FU ([]) (0)
def F_spec_stSquare (x0 : (Int × Int)) (x1 : (Int × Int)) : Option Int :=
  some (w64 ((w64 ((w64 (x0.1 - x1.1)) * (w64 (x0.1 - x1.1)))) + (w64 ((w64 (x0.2 - x1.2)) * (w64 (x0.2 - x1.2))))))
def F_spec_mvWithin (x0 : ((Int × Int) × (Int × Int) × Int)) (x1 : Int) : Option Bool :=
  Option.bind (F_spec_stSquare x0.1 x0.2.1) fun u13 =>
  some (decide (u13 ≤ (w64 ((w64 ((w64 (x1 * x1)) * x0.2.2)) * x0.2.2))))
def F_spec_swWide_L1 (u10 : (List ((Int × Int) × (Int × Int) × Int))) (x0 : ((List (List (Int × Int))) × (List Int) × Int × Int)) : Nat → (List Int) → Int → Option (List Int)
  | 0, _, _ => none
  | m + 1, l21, y24 => (if (decide (y24 < (List.length u10 : Int))) = true then jK1 (fun (l36 : (List Int)) => (F_spec_swWide_L1 u10 x0 m) (l36) ((w64 (y24 + 1)))) (fun k39 => Option.bind (idx u10 y24) fun u42 =>
  Option.bind (F_spec_mvWithin u42 x0.2.2.2) fun u56 =>
  (if (!u56) = true then Option.bind (app l21 [y24]) fun u69 =>
  k39 (u69) else k39 (l21))) else some l21)
def F_spec_swWide (x0 : ((List (List (Int × Int))) × (List Int) × Int × Int)) (x1 : Int) : Option (List Int) :=
  Option.bind (F_spec_swMoves x0 x1) fun u10 =>
  F_spec_swWide_L1 u10 x0 FU ([]) (0)
def F_spec_swUnsafe_L1 (x0 : ((List (List (Int × Int))) × (List Int) × Int × Int)) : Nat → (List Int) → Int → Option (List Int)
  | 0, _, _ => none
  | m + 1, l13, y16 => (if (decide (y16 < (List.length x0.2.1 : Int))) = true then jK1 (fun (l28 : (List Int)) => (F_spec_swUnsafe_L1 x0 m) (l28) ((w64 (y16 + 1)))) (fun k31 => Option.bind (F_spec_swClose x0 y16) fun u40 =>
  Option.bind (F_spec_swWide x0 y16) fun u49 =>
  (if (decide (0 < (w64 ((List.length u40 : Int) + (List.length u49 : Int))))) = true then Option.bind (app l13 [y16]) fun u65 =>
  k31 (u65) else k31 (l13))) else some l13)
def F_spec_swUnsafe (x0 : ((List (List (Int × Int))) × (List Int) × Int × Int)) : Option (List Int) :=
  F_spec_swUnsafe_L1 x0 FU ([]) (0)
def F_spec_UnsafeParts (x0 : ((List (List (Int × Int))) × (List Int) × Int × Int)) : Option ((List Int) × Bool) :=
  Option.bind (F_spec_swGood x0) fun u9 =>
  (if (!u9) = true then some ([], false) else Option.bind (F_spec_swUnsafe x0) fun u19 =>
  some (u19, true))
def F_spec_l1Sign (x0 : Int) : Option Int :=
  (if (decide (0 < x0)) = true then some 1 else (if (decide (x0 < 0)) = true then some (-1) else some 0))
def F_spec_swTotal_L1 (x0 : ((List (List (Int × Int))) × (List Int) × Int × Int)) : Nat → Int → Int → Option Int
  | 0, _, _ => none
  | m + 1, y13, y14 => (if (decide (y14 < (List.length x0.2.1 : Int))) = true then Option.bind (idx x0.2.1 y14) fun u23 =>
  (F_spec_swTotal_L1 x0 m) ((w64 (y13 + u23))) ((w64 (y14 + 1))) else some y13)
def F_spec_swTotal (x0 : ((List (List (Int × Int))) × (List Int) × Int × Int)) : Option Int :=
  F_spec_swTotal_L1 x0 FU (0) (0)
def F_spec_cpSquares_L1 (u10 : (List ((Int × Int) × (Int × Int) × Int))) : Nat → (List Int) → Int → Option (List Int)
  | 0, _, _ => none
  | m + 1, l21, y24 => (if (decide (y24 < (List.length u10 : Int))) = true then Option.bind (idx u10 y24) fun u34 =>
  Option.bind (F_spec_stSquare u34.1 u34.2.1) fun u47 =>
  Option.bind (app l21 [u47]) fun u59 =>
  (F_spec_cpSquares_L1 u10 m) (u59) ((w64 (y24 + 1))) else some l21)
def F_spec_cpSquares (x0 : ((List (List (Int × Int))) × (List Int) × Int × Int)) (x1 : Int) : Option (List Int) :=
  Option.bind (F_spec_swMoves x0 x1) fun u10 =>
  F_spec_cpSquares_L1 u10 FU ([]) (0)
def F_spec_cpWays_L2 (u38 : (List Int)) (nx29 : ((List Int) → Int → Option (List Int))) (y28 : Int) : Nat → (List Int) → Int → Option (List Int)
  | 0, _, _ => none
  | m + 1, l49, y52 => (if (decide (y52 < (List.length u38 : Int))) = true then Option.bind (idx u38 y52) fun u61 =>
  Option.bind (idx l49 y52) fun u65 =>
  Option.bind (idx l49 y52) fun u69 =>
  (F_spec_cpWays_L2 u38 nx29 y28 m) ((seti l49 y52 (w64 (u65 + u61)))) ((w64 (y52 + 1))) else nx29 (l49) ((w64 (y28 + 1))))
def F_spec_cpWays_L1 (x0 : ((List (List (Int × Int))) × (List Int) × Int × Int)) : Nat → (List Int) → Int → Option (List Int)
  | 0, _, _ => none
  | m + 1, l25, y28 => (if (decide (y28 < (List.length x0.2.1 : Int))) = true then Option.bind (F_spec_cpSquares x0 y28) fun u38 =>
  F_spec_cpWays_L2 u38 (F_spec_cpWays_L1 x0 m) y28 FU (l25) (0) else some l25)
def F_spec_cpWays (x0 : ((List (List (Int × Int))) × (List Int) × Int × Int)) : Option (List Int) :=
  Option.bind (idx x0.1 0) fun u8 =>
  Option.bind (mkL (List.length u8 : Int) 0) fun u13 =>
  F_spec_cpWays_L1 x0 FU (u13) (0)
def F_spec_cpSum_L1 (x0 : (List Int)) : Nat → Int → Int → Option Int
  | 0, _, _ => none
  | m + 1, y8, y9 => (if (decide (y9 < (List.length x0 : Int))) = true then Option.bind (idx x0 y9) fun u18 =>
  (F_spec_cpSum_L1 x0 m) ((w64 (y8 + u18))) ((w64 (y9 + 1))) else some y8)
def F_spec_cpSum (x0 : (List Int)) : Option Int :=
  F_spec_cpSum_L1 x0 FU (0) (0)
def F_spec_cpCompare (x0 : ((List (List (Int × Int))) × (List Int) × Int × Int)) (x1 : ((List (List (Int × Int))) × (List Int) × Int × Int)) : Option Int :=
  Option.bind (F_spec_UnsafeParts x0) fun u13 =>
  Option.bind (F_spec_UnsafeParts x1) fun u22 =>
  (if ((List.length u13.1 : Int) != (List.length u22.1 : Int)) = true then Option.bind (F_spec_l1Sign (w64 ((List.length u13.1 : Int) - (List.length u22.1 : Int)))) fun u34 =>
  some u34 else Option.bind (F_spec_swTotal x0) fun u47 =>
  Option.bind (F_spec_swTotal x1) fun u54 =>
  (if (u47 != u54) = true then Option.bind (F_spec_swTotal x1) fun u68 =>
  Option.bind (F_spec_swTotal x0) fun u75 =>
  Option.bind (F_spec_l1Sign (w64 (u68 - u75))) fun u82 =>
  some u82 else Option.bind (F_spec_cpWays x0) fun u95 =>
  Option.bind (F_spec_cpSum u95) fun u104 =>
  Option.bind (F_spec_cpWays x1) fun u111 =>
  Option.bind (F_spec_cpSum u111) fun u120 =>
  Option.bind (F_spec_l1Sign (w64 (u104 - u120))) fun u127 =>
  some u127))
def F_spec_l1Own (x0 : (List Int)) : Option (List Int) :=
  Option.bind (app [] x0) fun u9 =>
  some u9
def F_impl_within (x0 : Int) (x1 : Int) (x2 : Int) : Option Bool :=
  jK1 (fun (y6 : Bool) => some y6) (fun k7 => (if (decide (x1 ≤ x0)) = true then k7 ((decide (x0 ≤ x2))) else k7 (false)))
def F_impl_IsSpot (x0 : (Int × Int)) : Option Bool :=
  jK1 (fun (y11 : Bool) => some y11) (fun k12 => Option.bind (F_impl_within x0.1 0 1280) fun u14 =>
  (if u14 = true then Option.bind (F_impl_within x0.2 0 672) fun u21 =>
  k12 (u21) else k12 (false)))
def F_slices_Index_impl_Spot_impl_Spot_L1 (x0 : (List (Int × Int))) (x1 : (Int × Int)) : Nat → Int → Option Int
  | 0, _ => none
  | m + 1, y12 => (if (decide (y12 < (List.length x0 : Int))) = true then Option.bind (idx x0 y12) fun u27 =>
  (if (eqv_Spot x1 u27) = true then some y12 else (F_slices_Index_impl_Spot_impl_Spot_L1 x0 x1 m) ((w64 (y12 + 1)))) else some (-1))
def F_slices_Index_impl_Spot_impl_Spot (x0 : (List (Int × Int))) (x1 : (Int × Int)) : Option Int :=
  F_slices_Index_impl_Spot_impl_Spot_L1 x0 x1 FU (0)
def F_slices_Contains_impl_Spot_impl_Spot (x0 : (List (Int × Int))) (x1 : (Int × Int)) : Option Bool :=
  Option.bind (F_slices_Index_impl_Spot_impl_Spot x0 x1) fun u8 =>
  some (decide (0 ≤ u8))
def F_impl_IsChart_L1 (x0 : (List (Int × Int))) : Nat → Int → Option Bool
  | 0, _ => none
  | m + 1, y17 => (if (decide (y17 < (List.length x0 : Int))) = true then Option.bind (idx x0 y17) fun u26 =>
  jK1 (fun (y42 : Bool) => (if y42 = true then some false else (F_impl_IsChart_L1 x0 m) ((w64 (y17 + 1))))) (fun k43 => Option.bind (F_impl_IsSpot u26) fun u52 =>
  (if (!u52) = true then k43 (true) else Option.bind (sl x0 0 y17) fun u60 =>
  Option.bind (F_slices_Contains_impl_Spot_impl_Spot u60 u26) fun u63 =>
  k43 (u63))) else some true)
def F_impl_IsChart (x0 : (List (Int × Int))) : Option Bool :=
  Option.bind (F_impl_within (List.length x0 : Int) 1 12) fun u4 =>
  (if (!u4) = true then some false else F_impl_IsChart_L1 x0 FU (0))
def F_impl_areCharts_L2 (x1 : (List Int)) : Nat → Int → Option Bool
  | 0, _ => none
  | m + 1, y57 => (if (decide (y57 < (List.length x1 : Int))) = true then Option.bind (idx x1 y57) fun u66 =>
  Option.bind (F_impl_within u66 1 64) fun u70 =>
  (if (!u70) = true then some false else (F_impl_areCharts_L2 x1 m) ((w64 (y57 + 1)))) else some true)
def F_impl_areCharts_L1 (x0 : (List (List (Int × Int)))) (x1 : (List Int)) : Nat → Int → Option Bool
  | 0, _ => none
  | m + 1, y17 => (if (decide (y17 < (List.length x0 : Int))) = true then Option.bind (idx x0 y17) fun u26 =>
  jK1 (fun (y35 : Bool) => (if y35 = true then some false else (F_impl_areCharts_L1 x0 x1 m) ((w64 (y17 + 1))))) (fun k36 => Option.bind (F_impl_IsChart u26) fun u40 =>
  (if (!u40) = true then k36 (true) else Option.bind (idx x0 0) fun u47 =>
  k36 (((List.length u26 : Int) != (List.length u47 : Int))))) else F_impl_areCharts_L2 x1 FU (0))
def F_impl_areCharts (x0 : (List (List (Int × Int)))) (x1 : (List Int)) : Option Bool :=
  jK1 (fun (y7 : Bool) => (if y7 = true then some false else F_impl_areCharts_L1 x0 x1 FU (0))) (fun k8 => Option.bind (F_impl_within (List.length x0 : Int) 1 9) fun u79 =>
  (if (!u79) = true then k8 (true) else k8 (((List.length x1 : Int) != (w64 ((List.length x0 : Int) - 1))))))
def F_impl_isLeast (x0 : Int) : Option Bool :=
  Option.bind (F_impl_within x0 0 80) fun u3 =>
  some u3
def F_impl_IsShow (x0 : ((List (List (Int × Int))) × (List Int) × Int × Int)) : Option Bool :=
  jK1 (fun (y11 : Bool) => some y11) (fun k12 => Option.bind (F_impl_within (List.length x0.1 : Int) 2 8) fun u14 =>
  (if u14 = true then Option.bind (F_impl_areCharts x0.1 x0.2.1) fun u21 =>
  (if u21 = true then Option.bind (F_impl_isLeast x0.2.2.1) fun u28 =>
  (if u28 = true then Option.bind (F_impl_within x0.2.2.2 1 24) fun u35 =>
  k12 (u35) else k12 (false)) else k12 (false)) else k12 (false)))
def F_impl_showMoves_L1 (u16 : (List (Int × Int))) (x0 : ((List (List (Int × Int))) × (List Int) × Int × Int)) (x1 : Int) : Nat → (List ((Int × Int) × (Int × Int) × Int)) → Int → Option (List ((Int × Int) × (Int × Int) × Int))
  | 0, _, _ => none
  | m + 1, l24, y27 => (if (decide (y27 < (List.length u16 : Int))) = true then Option.bind (idx u16 y27) fun u36 =>
  Option.bind (idx x0.1 (w64 (x1 + 1))) fun u53 =>
  Option.bind (idx u53 y27) fun u58 =>
  Option.bind (idx x0.2.1 x1) fun u61 =>
  Option.bind (app l24 [(u36, u58, u61)]) fun u75 =>
  (F_impl_showMoves_L1 u16 x0 x1 m) (u75) ((w64 (y27 + 1))) else some l24)
def F_impl_showMoves (x0 : ((List (List (Int × Int))) × (List Int) × Int × Int)) (x1 : Int) : Option (List ((Int × Int) × (Int × Int) × Int)) :=
  Option.bind (idx x0.1 x1) fun u16 =>
  F_impl_showMoves_L1 u16 x0 x1 FU ([]) (0)
def F_impl_squareOf (x0 : (Int × Int)) (x1 : (Int × Int)) : Option Int :=
  some (w64 ((w64 ((w64 (x0.1 - x1.1)) * (w64 (x0.1 - x1.1)))) + (w64 ((w64 (x0.2 - x1.2)) * (w64 (x0.2 - x1.2))))))
def F_impl_withinStep (x0 : ((Int × Int) × (Int × Int) × Int)) (x1 : Int) : Option Bool :=
  Option.bind (F_impl_squareOf x0.1 x0.2.1) fun u13 =>
  some (decide (u13 ≤ (w64 ((w64 ((w64 (x1 * x1)) * x0.2.2)) * x0.2.2))))
def F_impl_wideSteps_L1 (u16 : (List ((Int × Int) × (Int × Int) × Int))) (x0 : ((List (List (Int × Int))) × (List Int) × Int × Int)) : Nat → (List Int) → Int → Option (List Int)
  | 0, _, _ => none
  | m + 1, l27, y30 => (if (decide (y30 < (List.length u16 : Int))) = true then jK1 (fun (l41 : (List Int)) => (F_impl_wideSteps_L1 u16 x0 m) (l41) ((w64 (y30 + 1)))) (fun k44 => Option.bind (idx u16 y30) fun u47 =>
  Option.bind (F_impl_withinStep u47 x0.2.2.2) fun u61 =>
  (if (!u61) = true then Option.bind (app l27 [y30]) fun u74 =>
  k44 (u74) else k44 (l27))) else some l27)
def F_impl_wideSteps (x0 : ((List (List (Int × Int))) × (List Int) × Int × Int)) (x1 : Int) : Option (List Int) :=
  Option.bind (F_impl_showMoves x0 x1) fun u16 =>
  F_impl_wideSteps_L1 u16 x0 FU ([]) (0)
def F_impl_between (x0 : ((Int × Int) × (Int × Int) × Int)) (x1 : ((Int × Int) × (Int × Int) × Int)) : Option ((Int × Int) × (Int × Int) × Int × Int) :=
  some (((w64 (x0.1.1 - x1.1.1)), (w64 (x0.1.2 - x1.1.2))), ((w64 ((w64 (x0.2.1.1 - x1.2.1.1)) - (w64 (x0.1.1 - x1.1.1)))), (w64 ((w64 (x0.2.1.2 - x1.2.1.2)) - (w64 (x0.1.2 - x1.1.2))))), (w64 ((w64 ((w64 (x0.1.1 - x1.1.1)) * (w64 ((w64 (x0.2.1.1 - x1.2.1.1)) - (w64 (x0.1.1 - x1.1.1)))))) + (w64 ((w64 (x0.1.2 - x1.1.2)) * (w64 ((w64 (x0.2.1.2 - x1.2.1.2)) - (w64 (x0.1.2 - x1.1.2)))))))), (w64 ((w64 ((w64 ((w64 (x0.2.1.1 - x1.2.1.1)) - (w64 (x0.1.1 - x1.1.1)))) * (w64 ((w64 (x0.2.1.1 - x1.2.1.1)) - (w64 (x0.1.1 - x1.1.1)))))) + (w64 ((w64 ((w64 (x0.2.1.2 - x1.2.1.2)) - (w64 (x0.1.2 - x1.1.2)))) * (w64 ((w64 (x0.2.1.2 - x1.2.1.2)) - (w64 (x0.1.2 - x1.1.2)))))))))
def F_impl_gcdOf_L1  : Nat → Int → Int → Option Int
  | 0, _, _ => none
  | m + 1, y7, y8 => (if (y8 != 0) = true then (if y8 = 0 then none else (F_impl_gcdOf_L1 m) (y8) ((Int.tmod y7 y8))) else some y7)
def F_impl_gcdOf (x0 : Int) (x1 : Int) : Option Int :=
  F_impl_gcdOf_L1 FU ((maxI x0 (w64 (0 - x0)))) ((maxI x1 (w64 (0 - x1))))
def F_impl_lowestTerms (x0 : Int) (x1 : Int) : Option (Int × Int) :=
  Option.bind (F_impl_gcdOf x0 x1) fun u3 =>
  (if u3 = 0 then none else (if u3 = 0 then none else some ((w64 (Int.tdiv x0 u3)), (w64 (Int.tdiv x1 u3)))))
def F_impl_leastApart (x0 : ((Int × Int) × (Int × Int) × Int)) (x1 : ((Int × Int) × (Int × Int) × Int)) : Option (Int × Int) :=
  Option.bind (F_impl_between x0 x1) fun u13 =>
  (if (decide (0 ≤ u13.2.2.1)) = true then some ((w64 ((w64 (u13.1.1 * u13.1.1)) + (w64 (u13.1.2 * u13.1.2)))), 1) else (if (decide (u13.2.2.2 ≤ (w64 (0 - u13.2.2.1)))) = true then Option.bind (F_impl_squareOf x0.2.1 x1.2.1) fun u44 =>
  some (u44, 1) else Option.bind (F_impl_lowestTerms (w64 ((w64 ((w64 (u13.1.1 * u13.2.1.2)) - (w64 (u13.1.2 * u13.2.1.1)))) * (w64 ((w64 (u13.1.1 * u13.2.1.2)) - (w64 (u13.1.2 * u13.2.1.1)))))) u13.2.2.2) fun u52 =>
  some u52))
def F_impl_stayApart (x0 : ((Int × Int) × (Int × Int) × Int)) (x1 : ((Int × Int) × (Int × Int) × Int)) (x2 : Int) : Option Bool :=
  Option.bind (F_impl_leastApart x0 x1) fun u13 =>
  some (decide ((w64 ((w64 (x2 * x2)) * u13.2)) ≤ u13.1))
def F_impl_pairsTooClose_L2 (x0 : (List ((Int × Int) × (Int × Int) × Int))) (y17 : Int) (x1 : Int) (nx18 : ((List (List Int)) → Int → Option (List (List Int)))) : Nat → (List (List Int)) → Int → Option (List (List Int))
  | 0, _, _ => none
  | m + 1, l30, y33 => (if (decide (y33 < (List.length x0 : Int))) = true then jK1 (fun (l44 : (List (List Int))) => (F_impl_pairsTooClose_L2 x0 y17 x1 nx18 m) (l44) ((w64 (y33 + 1)))) (fun k47 => Option.bind (idx x0 y17) fun u55 =>
  Option.bind (idx x0 y33) fun u58 =>
  Option.bind (F_impl_stayApart u55 u58 x1) fun u61 =>
  (if (!u61) = true then Option.bind (app l30 [[y17, y33]]) fun u84 =>
  k47 (u84) else k47 (l30))) else nx18 (l30) ((w64 (y17 + 1))))
def F_impl_pairsTooClose_L1 (x0 : (List ((Int × Int) × (Int × Int) × Int))) (x1 : Int) : Nat → (List (List Int)) → Int → Option (List (List Int))
  | 0, _, _ => none
  | m + 1, l14, y17 => (if (decide (y17 < (List.length x0 : Int))) = true then F_impl_pairsTooClose_L2 x0 y17 x1 (F_impl_pairsTooClose_L1 x0 x1 m) FU (l14) ((w64 (y17 + 1))) else some l14)
def F_impl_pairsTooClose (x0 : (List ((Int × Int) × (Int × Int) × Int))) (x1 : Int) : Option (List (List Int)) :=
  F_impl_pairsTooClose_L1 x0 x1 FU ([]) (0)
def F_impl_unsafParts_L1 (x0 : ((List (List (Int × Int))) × (List Int) × Int × Int)) : Nat → (List Int) → Int → Option (List Int)
  | 0, _, _ => none
  | m + 1, l19, y22 => (if (decide (y22 < (List.length x0.2.1 : Int))) = true then jK1 (fun (l33 : (List Int)) => (F_impl_unsafParts_L1 x0 m) (l33) ((w64 (y22 + 1)))) (fun k36 => jK1 (fun (y43 : Bool) => (if y43 = true then Option.bind (app l19 [y22]) fun u53 =>
  k36 (u53) else k36 (l19))) (fun k44 => Option.bind (F_impl_wideSteps x0 y22) fun u65 =>
  (if (decide (0 < (List.length u65 : Int))) = true then k44 (true) else Option.bind (F_impl_showMoves x0 y22) fun u75 =>
  Option.bind (F_impl_pairsTooClose u75 x0.2.2.1) fun u84 =>
  k44 ((decide (0 < (List.length u84 : Int))))))) else some l19)
def F_impl_unsafParts (x0 : ((List (List (Int × Int))) × (List Int) × Int × Int)) : Option (List Int) :=
  F_impl_unsafParts_L1 x0 FU ([]) (0)
def F_impl_sideOf (x0 : Int) : Option Int :=
  (if (decide (0 < x0)) = true then some 1 else (if (decide (x0 < 0)) = true then some (-1) else some 0))
def F_impl_totalCounts_L1 (x0 : ((List (List (Int × Int))) × (List Int) × Int × Int)) : Nat → Int → Int → Option Int
  | 0, _, _ => none
  | m + 1, y13, y14 => (if (decide (y14 < (List.length x0.2.1 : Int))) = true then Option.bind (idx x0.2.1 y14) fun u23 =>
  (F_impl_totalCounts_L1 x0 m) ((w64 (y13 + u23))) ((w64 (y14 + 1))) else some y13)
def F_impl_totalCounts (x0 : ((List (List (Int × Int))) × (List Int) × Int × Int)) : Option Int :=
  F_impl_totalCounts_L1 x0 FU (0) (0)
def F_impl_waySums_L2 (u38 : (List ((Int × Int) × (Int × Int) × Int))) (nx29 : ((List Int) → Int → Option (List Int))) (y28 : Int) : Nat → (List Int) → Int → Option (List Int)
  | 0, _, _ => none
  | m + 1, l49, y52 => (if (decide (y52 < (List.length u38 : Int))) = true then jK1 (fun (l63 : (List Int)) => (F_impl_waySums_L2 u38 nx29 y28 m) (l63) ((w64 (y52 + 1)))) (fun k66 => Option.bind (idx u38 y52) fun u69 =>
  Option.bind (idx l49 y52) fun u87 =>
  Option.bind (F_impl_squareOf u69.1 u69.2.1) fun u91 =>
  Option.bind (idx l49 y52) fun u99 =>
  k66 ((seti l49 y52 (w64 (u87 + u91))))) else nx29 (l49) ((w64 (y28 + 1))))
def F_impl_waySums_L1 (x0 : ((List (List (Int × Int))) × (List Int) × Int × Int)) : Nat → (List Int) → Int → Option (List Int)
  | 0, _, _ => none
  | m + 1, l25, y28 => (if (decide (y28 < (List.length x0.2.1 : Int))) = true then Option.bind (F_impl_showMoves x0 y28) fun u38 =>
  F_impl_waySums_L2 u38 (F_impl_waySums_L1 x0 m) y28 FU (l25) (0) else some l25)
def F_impl_waySums (x0 : ((List (List (Int × Int))) × (List Int) × Int × Int)) : Option (List Int) :=
  Option.bind (idx x0.1 0) fun u8 =>
  Option.bind (mkL (List.length u8 : Int) 0) fun u13 =>
  F_impl_waySums_L1 x0 FU (u13) (0)
def F_impl_compareDemand_L2 (u106 : (List Int)) : Nat → Int → Int → Option Int
  | 0, _, _ => none
  | m + 1, y117, y118 => (if (decide (y118 < (List.length u106 : Int))) = true then Option.bind (idx u106 y118) fun u127 =>
  (F_impl_compareDemand_L2 u106 m) ((w64 (y117 - u127))) ((w64 (y118 + 1))) else Option.bind (F_impl_sideOf y117) fun u132 =>
  some u132)
def F_impl_compareDemand_L1 (u79 : (List Int)) (x1 : ((List (List (Int × Int))) × (List Int) × Int × Int)) : Nat → Int → Int → Option Int
  | 0, _, _ => none
  | m + 1, y90, y91 => (if (decide (y91 < (List.length u79 : Int))) = true then Option.bind (idx u79 y91) fun u100 =>
  (F_impl_compareDemand_L1 u79 x1 m) ((w64 (y90 + u100))) ((w64 (y91 + 1))) else Option.bind (F_impl_waySums x1) fun u106 =>
  F_impl_compareDemand_L2 u106 FU (y90) (0))
def F_impl_compareDemand (x0 : ((List (List (Int × Int))) × (List Int) × Int × Int)) (x1 : ((List (List (Int × Int))) × (List Int) × Int × Int)) : Option Int :=
  Option.bind (F_impl_unsafParts x0) fun u19 =>
  Option.bind (F_impl_unsafParts x1) fun u28 =>
  (if ((List.length u19 : Int) != (List.length u28 : Int)) = true then Option.bind (F_impl_sideOf (w64 ((List.length u19 : Int) - (List.length u28 : Int)))) fun u40 =>
  some u40 else Option.bind (F_impl_totalCounts x0) fun u53 =>
  Option.bind (F_impl_totalCounts x1) fun u60 =>
  (if (u53 != u60) = true then Option.bind (F_impl_sideOf (w64 (u60 - u53))) fun u70 =>
  some u70 else Option.bind (F_impl_waySums x0) fun u79 =>
  F_impl_compareDemand_L1 u79 x1 FU (0) (0)))
def F_impl_RankShows_1 (x0 : Int) (x1 : Int) (y2 : (List ((List (List (Int × Int))) × (List Int) × Int × Int))) : Option Int :=
  Option.bind (idx y2 x0) fun u8 =>
  Option.bind (idx y2 x1) fun u15 =>
  Option.bind (F_impl_compareDemand u8 u15) fun u22 =>
  some u22
def F_slices_insertionSortCmpFunc_int__impl_RankShows_1__mut_L2 (nx7 : ((List Int) → Int → Option (List Int))) (y6 : Int) (x1 : Int) (y3_0 : (List ((List (List (Int × Int))) × (List Int) × Int × Int))) : Nat → (List Int) → Int → Option (List Int)
  | 0, _, _ => none
  | m + 1, l18, y19 => jK1 (fun (y28 : Bool) => (if y28 = true then jK1 (fun (l36 : (List Int)) => (F_slices_insertionSortCmpFunc_int__impl_RankShows_1__mut_L2 nx7 y6 x1 y3_0 m) (l36) ((w64 (y19 - 1)))) (fun k37 => Option.bind (idx l18 (w64 (y19 - 1))) fun u44 =>
  Option.bind (idx l18 y19) fun u48 =>
  Option.bind (idx l18 y19) fun u52 =>
  Option.bind (idx (seti l18 y19 u44) (w64 (y19 - 1))) fun u61 =>
  k37 ((seti (seti l18 y19 u44) (w64 (y19 - 1)) u48))) else nx7 (l18) ((w64 (y6 + 1))))) (fun k29 => (if (decide (x1 < y19)) = true then Option.bind (idx l18 y19) fun u94 =>
  Option.bind (idx l18 (w64 (y19 - 1))) fun u98 =>
  Option.bind (F_impl_RankShows_1 u94 u98 y3_0) fun u102 =>
  k29 ((decide (u102 < 0))) else k29 (false)))
def F_slices_insertionSortCmpFunc_int__impl_RankShows_1__mut_L1 (x2 : Int) (x1 : Int) (y3_0 : (List ((List (List (Int × Int))) × (List Int) × Int × Int))) : Nat → (List Int) → Int → Option (List Int)
  | 0, _, _ => none
  | m + 1, l5, y6 => (if (decide (y6 < x2)) = true then F_slices_insertionSortCmpFunc_int__impl_RankShows_1__mut_L2 (F_slices_insertionSortCmpFunc_int__impl_RankShows_1__mut_L1 x2 x1 y3_0 m) y6 x1 y3_0 FU (l5) (y6) else some l5)
def F_slices_insertionSortCmpFunc_int__impl_RankShows_1__mut (x0 : (List Int)) (x1 : Int) (x2 : Int) (y3_0 : (List ((List (List (Int × Int))) × (List Int) × Int × Int))) : Option (List Int) :=
  F_slices_insertionSortCmpFunc_int__impl_RankShows_1__mut_L1 x2 x1 y3_0 FU (x0) ((w64 (x1 + 1)))
def F_slices_swapRangeCmpFunc_int__impl_RankShows_1__mut_L1 (x3 : Int) (x2 : Int) (x1 : Int) : Nat → (List Int) → Int → Option (List Int)
  | 0, _, _ => none
  | m + 1, l5, y6 => (if (decide (y6 < x3)) = true then jK1 (fun (l17 : (List Int)) => (F_slices_swapRangeCmpFunc_int__impl_RankShows_1__mut_L1 x3 x2 x1 m) (l17) ((w64 (y6 + 1)))) (fun k18 => Option.bind (idx l5 (w64 (x2 + y6))) fun u25 =>
  Option.bind (idx l5 (w64 (x1 + y6))) fun u29 =>
  Option.bind (idx l5 (w64 (x1 + y6))) fun u33 =>
  Option.bind (idx (seti l5 (w64 (x1 + y6)) u25) (w64 (x2 + y6))) fun u42 =>
  k18 ((seti (seti l5 (w64 (x1 + y6)) u25) (w64 (x2 + y6)) u29))) else some l5)
def F_slices_swapRangeCmpFunc_int__impl_RankShows_1__mut (x0 : (List Int)) (x1 : Int) (x2 : Int) (x3 : Int) (y4_0 : (List ((List (List (Int × Int))) × (List Int) × Int × Int))) : Option (List Int) :=
  F_slices_swapRangeCmpFunc_int__impl_RankShows_1__mut_L1 x3 x2 x1 FU (x0) (0)
def F_slices_rotateCmpFunc_int__impl_RankShows_1__mut_L1 (x2 : Int) (y4_0 : (List ((List (List (Int × Int))) × (List Int) × Int × Int))) : Nat → (List Int) → Int → Int → Option (List Int)
  | 0, _, _, _ => none
  | m + 1, l7, y8, y9 => (if (y8 != y9) = true then (if (decide (y9 < y8)) = true then Option.bind (F_slices_swapRangeCmpFunc_int__impl_RankShows_1__mut l7 (w64 (x2 - y8)) x2 y9 y4_0) fun u19 =>
  (F_slices_rotateCmpFunc_int__impl_RankShows_1__mut_L1 x2 y4_0 m) (u19) ((w64 (y8 - y9))) (y9) else Option.bind (F_slices_swapRangeCmpFunc_int__impl_RankShows_1__mut l7 (w64 (x2 - y8)) (w64 ((w64 (x2 + y9)) - y8)) y8 y4_0) fun u26 =>
  (F_slices_rotateCmpFunc_int__impl_RankShows_1__mut_L1 x2 y4_0 m) (u26) (y8) ((w64 (y9 - y8)))) else Option.bind (F_slices_swapRangeCmpFunc_int__impl_RankShows_1__mut l7 (w64 (x2 - y8)) x2 y8 y4_0) fun u32 =>
  some u32)
def F_slices_rotateCmpFunc_int__impl_RankShows_1__mut (x0 : (List Int)) (x1 : Int) (x2 : Int) (x3 : Int) (y4_0 : (List ((List (List (Int × Int))) × (List Int) × Int × Int))) : Option (List Int) :=
  F_slices_rotateCmpFunc_int__impl_RankShows_1__mut_L1 x2 y4_0 FU (x0) ((w64 (x2 - x1))) ((w64 (x3 - x2)))
def F_laws_eqIntS_L1 (x0 : (List Int)) (x1 : (List Int)) : Nat → Int → Option Bool
  | 0, _ => none
  | m + 1, y11 => (if (decide (y11 < (List.length x0 : Int))) = true then Option.bind (idx x0 y11) fun u25 =>
  Option.bind (idx x1 y11) fun u28 =>
  (if (u25 != u28) = true then some false else (F_laws_eqIntS_L1 x0 x1 m) ((w64 (y11 + 1)))) else some true)
def F_laws_eqIntS (x0 : (List Int)) (x1 : (List Int)) : Option Bool :=
  (if ((List.length x0 : Int) != (List.length x1 : Int)) = true then some false else F_laws_eqIntS_L1 x0 x1 FU (0))
def F_laws_eqSpot (x0 : (Int × Int)) (x1 : (Int × Int)) : Option Bool :=
  (if (x0.1 != x1.1) = true then some false else (if (x0.2 != x1.2) = true then some false else some true))
def F_laws_eqSpotS_L1 (x0 : (List (Int × Int))) (x1 : (List (Int × Int))) : Nat → Int → Option Bool
  | 0, _ => none
  | m + 1, y11 => (if (decide (y11 < (List.length x0 : Int))) = true then Option.bind (idx x0 y11) fun u25 =>
  Option.bind (idx x1 y11) fun u28 =>
  Option.bind (F_laws_eqSpot u25 u28) fun u31 =>
  (if (!u31) = true then some false else (F_laws_eqSpotS_L1 x0 x1 m) ((w64 (y11 + 1)))) else some true)
def F_laws_eqSpotS (x0 : (List (Int × Int))) (x1 : (List (Int × Int))) : Option Bool :=
  (if ((List.length x0 : Int) != (List.length x1 : Int)) = true then some false else F_laws_eqSpotS_L1 x0 x1 FU (0))
def F_laws_eqSpotSS_L1 (x0 : (List (List (Int × Int)))) (x1 : (List (List (Int × Int)))) : Nat → Int → Option Bool
  | 0, _ => none
  | m + 1, y11 => (if (decide (y11 < (List.length x0 : Int))) = true then Option.bind (idx x0 y11) fun u25 =>
  Option.bind (idx x1 y11) fun u30 =>
  Option.bind (F_laws_eqSpotS u25 u30) fun u35 =>
  (if (!u35) = true then some false else (F_laws_eqSpotSS_L1 x0 x1 m) ((w64 (y11 + 1)))) else some true)
def F_laws_eqSpotSS (x0 : (List (List (Int × Int)))) (x1 : (List (List (Int × Int)))) : Option Bool :=
  (if ((List.length x0 : Int) != (List.length x1 : Int)) = true then some false else F_laws_eqSpotSS_L1 x0 x1 FU (0))
def F_laws_eqShow (x0 : ((List (List (Int × Int))) × (List Int) × Int × Int)) (x1 : ((List (List (Int × Int))) × (List Int) × Int × Int)) : Option Bool :=
  Option.bind (F_laws_eqSpotSS x0.1 x1.1) fun u14 =>
  (if (!u14) = true then some false else Option.bind (F_laws_eqIntS x0.2.1 x1.2.1) fun u24 =>
  (if (!u24) = true then some false else (if (x0.2.2.1 != x1.2.2.1) = true then some false else (if (x0.2.2.2 != x1.2.2.2) = true then some false else some true))))
def F_laws_eqShowS_L1 (x0 : (List ((List (List (Int × Int))) × (List Int) × Int × Int))) (x1 : (List ((List (List (Int × Int))) × (List Int) × Int × Int))) : Nat → Int → Option Bool
  | 0, _ => none
  | m + 1, y11 => (if (decide (y11 < (List.length x0 : Int))) = true then Option.bind (idx x0 y11) fun u25 =>
  Option.bind (idx x1 y11) fun u32 =>
  Option.bind (F_laws_eqShow u25 u32) fun u39 =>
  (if (!u39) = true then some false else (F_laws_eqShowS_L1 x0 x1 m) ((w64 (y11 + 1)))) else some true)
def F_laws_eqShowS (x0 : (List ((List (List (Int × Int))) × (List Int) × Int × Int))) (x1 : (List ((List (List (Int × Int))) × (List Int) × Int × Int))) : Option Bool :=
  (if ((List.length x0 : Int) != (List.length x1 : Int)) = true then some false else F_laws_eqShowS_L1 x0 x1 FU (0))
def F_laws_markSpotS_L1  : Nat → (List (Int × Int)) → Int → Int → Option (Int × (List (Int × Int)))
  | 0, _, _, _ => none
  | m + 1, l7, y8, y9 => (if (decide (y9 < (List.length l7 : Int))) = true then Option.bind (idx l7 y9) fun u18 =>
  Option.bind (idx (seti l7 y9 (y8, u18.2)) y9) fun u28 =>
  (F_laws_markSpotS_L1 m) ((seti (seti l7 y9 (y8, u18.2)) y9 (u28.1, (w64 (y8 + 1))))) ((w64 ((w64 (y8 + 1)) + 1))) ((w64 (y9 + 1))) else some (y8, l7))
def F_laws_markSpotS (x0 : (List (Int × Int))) (x1 : Int) : Option (Int × (List (Int × Int))) :=
  F_laws_markSpotS_L1 FU (x0) (x1) (0)
def F_laws_markSpotSS_L1  : Nat → (List (List (Int × Int))) → Int → Int → Option (Int × (List (List (Int × Int))))
  | 0, _, _, _ => none
  | m + 1, l7, y8, y9 => (if (decide (y9 < (List.length l7 : Int))) = true then Option.bind (idx l7 y9) fun u17 =>
  Option.bind (F_laws_markSpotS u17 y8) fun u28 =>
  (F_laws_markSpotSS_L1 m) ((seti l7 y9 u28.2)) (u28.1) ((w64 (y9 + 1))) else some (y8, l7))
def F_laws_markSpotSS (x0 : (List (List (Int × Int)))) (x1 : Int) : Option (Int × (List (List (Int × Int)))) :=
  F_laws_markSpotSS_L1 FU (x0) (x1) (0)
def F_laws_markIntS_L1  : Nat → (List Int) → Int → Int → Option (Int × (List Int))
  | 0, _, _, _ => none
  | m + 1, l7, y8, y9 => (if (decide (y9 < (List.length l7 : Int))) = true then Option.bind (idx l7 y9) fun u18 =>
  (F_laws_markIntS_L1 m) ((seti l7 y9 y8)) ((w64 (y8 + 1))) ((w64 (y9 + 1))) else some (y8, l7))
def F_laws_markIntS (x0 : (List Int)) (x1 : Int) : Option (Int × (List Int)) :=
  F_laws_markIntS_L1 FU (x0) (x1) (0)
def F_laws_heldIntS_L1 (x0 : (List Int)) : Nat → Int → Int → Option Int
  | 0, _, _ => none
  | m + 1, y7, y8 => (if (decide (y8 < (List.length x0 : Int))) = true then Option.bind (idx x0 y8) fun u18 =>
  (if (u18 != y7) = true then some (-1) else (F_laws_heldIntS_L1 x0 m) ((w64 (y7 + 1))) ((w64 (y8 + 1)))) else some y7)
def F_laws_heldIntS (x0 : (List Int)) (x1 : Int) : Option Int :=
  F_laws_heldIntS_L1 x0 FU (x1) (0)
def F_laws_szMarch (x0 : (((List (List (Int × Int))) × (List Int) × Int × Int) × Int × (List Int) × (List Int))) (x1 : Int) : Option Int :=
  Option.bind (F_laws_szShow x0.1 x1) fun u8 =>
  (if (decide (u8 < 0)) = true then some (-1) else Option.bind (F_laws_szIntS x0.2.2.1 u8) fun u19 =>
  (if (decide (u19 < 0)) = true then some (-1) else Option.bind (F_laws_szIntS x0.2.2.2 u19) fun u30 =>
  (if (decide (u30 < 0)) = true then some (-1) else some u30)))
def F_laws_toMarch (x0 : (((List (List (Int × Int))) × (List Int) × Int × Int) × Int × (List Int) × (List Int))) : Option (((List (List (Int × Int))) × (List Int) × Int × Int) × Int × (List Int) × (List Int)) :=
  Option.bind (F_laws_toShow x0.1) fun u19 =>
  Option.bind (F_laws_toIntS x0.2.2.1) fun u39 =>
  Option.bind (F_laws_toIntS x0.2.2.2) fun u52 =>
  some (u19, x0.2.1, u39, u52)
def F_spec_l1Rising_L1 (x0 : (List Int)) (x1 : Int) (x2 : Int) : Nat → Int → Option Bool
  | 0, _ => none
  | m + 1, y7 => (if (decide (y7 < (List.length x0 : Int))) = true then Option.bind (idx x0 y7) fun u16 =>
  jK1 (fun (y23 : Bool) => (if y23 = true then some false else (F_spec_l1Rising_L1 x0 x1 x2 m) ((w64 (y7 + 1))))) (fun k24 => Option.bind (F_spec_l1In u16 x1 x2) fun u28 =>
  (if (!u28) = true then k24 (true) else (if (decide (0 < y7)) = true then Option.bind (idx x0 (w64 (y7 - 1))) fun u36 =>
  k24 ((decide (u16 ≤ u36))) else k24 (false)))) else some true)
def F_spec_l1Rising (x0 : (List Int)) (x1 : Int) (x2 : Int) : Option Bool :=
  F_spec_l1Rising_L1 x0 x1 x2 FU (0)
def F_spec_mnGood (x0 : (((List (List (Int × Int))) × (List Int) × Int × Int) × Int × (List Int) × (List Int))) : Option Bool :=
  jK1 (fun (y12 : Bool) => (if y12 = true then some false else Option.bind (idx x0.1.1 0) fun u18 =>
  jK1 (fun (y27 : Bool) => some y27) (fun k28 => Option.bind (F_spec_l1Rising x0.2.2.1 0 (w64 ((List.length u18 : Int) - 1))) fun u30 =>
  (if u30 = true then (if ((List.length x0.2.2.2 : Int) == (List.length u18 : Int)) = true then Option.bind (F_spec_l1All x0.2.2.2 0 x0.2.1) fun u38 =>
  k28 (u38) else k28 (false)) else k28 (false))))) (fun k13 => Option.bind (F_spec_swGood x0.1) fun u44 =>
  (if (!u44) = true then k13 (true) else Option.bind (F_spec_l1In x0.2.1 0 1000) fun u51 =>
  k13 ((!u51))))
def F_spec_chOwn (x0 : (List (Int × Int))) : Option (List (Int × Int)) :=
  Option.bind (app [] x0) fun u9 =>
  some u9
def F_spec_swOwn_L1 (x0 : ((List (List (Int × Int))) × (List Int) × Int × Int)) (l17 : (List Int)) (y20 : Int) (y21 : Int) : Nat → (List (List (Int × Int))) → Int → Option ((List (List (Int × Int))) × (List Int) × Int × Int)
  | 0, _, _ => none
  | m + 1, l29, y32 => (if (decide (y32 < (List.length x0.1 : Int))) = true then jK1 (fun (l44 : (List (List (Int × Int)))) => (F_spec_swOwn_L1 x0 l17 y20 y21 m) (l44) ((w64 (y32 + 1)))) (fun k47 => Option.bind (idx x0.1 y32) fun u50 =>
  Option.bind (F_spec_chOwn u50) fun u60 =>
  Option.bind (app l29 [u60]) fun u82 =>
  k47 (u82)) else some (l29, l17, y20, y21))
def F_spec_swOwn (x0 : ((List (List (Int × Int))) × (List Int) × Int × Int)) : Option ((List (List (Int × Int))) × (List Int) × Int × Int) :=
  jK3 (fun (l17 : (List Int)) (y20 : Int) (y21 : Int) => F_spec_swOwn_L1 x0 l17 y20 y21 FU ([]) (0)) (fun k22 => Option.bind (F_spec_l1Own x0.2.1) fun u165 =>
  k22 (u165) (x0.2.2.1) (x0.2.2.2))
def F_spec_mnOwn (x0 : (((List (List (Int × Int))) × (List Int) × Int × Int) × Int × (List Int) × (List Int))) : Option (((List (List (Int × Int))) × (List Int) × Int × Int) × Int × (List Int) × (List Int)) :=
  Option.bind (F_spec_swOwn x0.1) fun u18 =>
  Option.bind (F_spec_l1Own x0.2.2.1) fun u30 =>
  Option.bind (F_spec_l1Own x0.2.2.2) fun u40 =>
  some (u18, x0.2.1, u30, u40)
def F_spec_l1Has_L1 (x0 : (List Int)) (x1 : Int) : Nat → Int → Option Bool
  | 0, _ => none
  | m + 1, y7 => (if (decide (y7 < (List.length x0 : Int))) = true then Option.bind (idx x0 y7) fun u16 =>
  (if (u16 == x1) = true then some true else (F_spec_l1Has_L1 x0 x1 m) ((w64 (y7 + 1)))) else some false)
def F_spec_l1Has (x0 : (List Int)) (x1 : Int) : Option Bool :=
  F_spec_l1Has_L1 x0 x1 FU (0)
def F_spec_l1Put__take_L1 (x0 : (List Int)) (x1 : Int) : Nat → Int → Option (List Int)
  | 0, _ => none
  | m + 1, y7 => jK1 (fun (y16 : Bool) => (if y16 = true then (F_spec_l1Put__take_L1 x0 x1 m) ((w64 (y7 + 1))) else jK1 (fun (y25 : Bool) => (if y25 = true then some x0 else Option.bind (sl x0 0 y7) fun u37 =>
  Option.bind (app [] u37) fun u42 =>
  Option.bind (app u42 [x1]) fun u56 =>
  Option.bind (sl x0 y7 (List.length x0 : Int)) fun u64 =>
  Option.bind (app u56 u64) fun u69 =>
  some u69)) (fun k26 => (if (decide (y7 < (List.length x0 : Int))) = true then Option.bind (idx x0 y7) fun u77 =>
  k26 ((u77 == x1)) else k26 (false))))) (fun k17 => (if (decide (y7 < (List.length x0 : Int))) = true then Option.bind (idx x0 y7) fun u82 =>
  k17 ((decide (u82 < x1))) else k17 (false)))
def F_spec_l1Put__take (x0 : (List Int)) (x1 : Int) : Option (List Int) :=
  F_spec_l1Put__take_L1 x0 x1 FU (0)
def F_spec_mnStep_L1 (x0 : (((List (List (Int × Int))) × (List Int) × Int × Int) × Int × (List Int) × (List Int))) (k77 : (Int → (List Int) → (List Int) → Option ((((List (List (Int × Int))) × (List Int) × Int × Int) × Int × (List Int) × (List Int)) × Bool))) (u36 : (((List (List (Int × Int))) × (List Int) × Int × Int) × Int × (List Int) × (List Int))) : Nat → (List Int) → Int → Option ((((List (List (Int × Int))) × (List Int) × Int × Int) × Int × (List Int) × (List Int)) × Bool)
  | 0, _, _ => none
  | m + 1, l101, y104 => (if (decide (y104 < (List.length x0.2.2.1 : Int))) = true then Option.bind (idx x0.2.2.1 y104) fun u113 =>
  Option.bind (idx l101 u113) fun u116 =>
  Option.bind (idx l101 u113) fun u120 =>
  (F_spec_mnStep_L1 x0 k77 u36 m) ((seti l101 u113 (w64 (u116 + 1)))) ((w64 (y104 + 1))) else k77 ((w64 (u36.2.1 + 1))) (u36.2.2.1) (l101))
def F_spec_mnStep_L2 (x0 : (((List (List (Int × Int))) × (List Int) × Int × Int) × Int × (List Int) × (List Int))) (x1 : (Int × Int)) (k77 : (Int → (List Int) → (List Int) → Option ((((List (List (Int × Int))) × (List Int) × Int × Int) × Int × (List Int) × (List Int)) × Bool))) (u36 : (((List (List (Int × Int))) × (List Int) × Int × Int) × Int × (List Int) × (List Int))) : Nat → (List Int) → Int → Option ((((List (List (Int × Int))) × (List Int) × Int × Int) × Int × (List Int) × (List Int)) × Bool)
  | 0, _, _ => none
  | m + 1, l165, y168 => (if (decide (y168 < (List.length x0.2.2.1 : Int))) = true then jK1 (fun (l180 : (List Int)) => (F_spec_mnStep_L2 x0 x1 k77 u36 m) (l180) ((w64 (y168 + 1)))) (fun k183 => Option.bind (idx x0.2.2.1 y168) fun u186 =>
  (if (u186 != x1.2) = true then Option.bind (app l165 [u186]) fun u197 =>
  k183 (u197) else k183 (l165))) else k77 (u36.2.1) (l165) (u36.2.2.2))
def F_spec_mnStep (x0 : (((List (List (Int × Int))) × (List Int) × Int × Int) × Int × (List Int) × (List Int))) (x1 : (Int × Int)) : Option ((((List (List (Int × Int))) × (List Int) × Int × Int) × Int × (List Int) × (List Int)) × Bool) :=
  Option.bind (F_spec_l1In x1.2 0 (w64 ((List.length x0.2.2.2 : Int) - 1))) fun u19 =>
  (if (!u19) = true then some ((([], [], 0, 0), 0, [], []), false) else Option.bind (F_spec_mnOwn x0) fun u36 =>
  Option.bind (F_spec_l1Has x0.2.2.1 x1.2) fun u60 =>
  jK3 (fun (y70 : Int) (l71 : (List Int)) (l74 : (List Int)) => some ((u36.1, y70, l71, l74), true)) (fun k77 => jK1 (fun (y88 : Bool) => (if y88 = true then F_spec_mnStep_L1 x0 k77 u36 FU (u36.2.2.2) (0) else jK1 (fun (y132 : Bool) => (if y132 = true then Option.bind (F_spec_l1Put__take u36.2.2.1 x1.2) fun u136 =>
  k77 (u36.2.1) (u136) (u36.2.2.2) else jK1 (fun (y152 : Bool) => (if y152 = true then F_spec_mnStep_L2 x0 x1 k77 u36 FU ([]) (0) else some ((([], [], 0, 0), 0, [], []), false))) (fun k153 => (if (x1.1 == 3) = true then k153 (u60) else k153 (false))))) (fun k133 => (if (x1.1 == 2) = true then k133 ((!u60)) else k133 (false))))) (fun k89 => (if (x1.1 == 1) = true then (if (x1.2 == 0) = true then k89 ((decide (x0.2.1 < 1000))) else k89 (false)) else k89 (false)))))
def F_spec_mnAsked (x0 : (((List (List (Int × Int))) × (List Int) × Int × Int) × Int × (List Int) × (List Int))) (x1 : (Int × Int)) : Option ((((List (List (Int × Int))) × (List Int) × Int × Int) × Int × (List Int) × (List Int)) × Bool) :=
  Option.bind (F_spec_mnGood x0) fun u19 =>
  (if (!u19) = true then some ((([], [], 0, 0), 0, [], []), false) else Option.bind (F_spec_mnStep x0 x1) fun u36 =>
  some u36)
def F_spec_HaltPerformer (x0 : (((List (List (Int × Int))) × (List Int) × Int × Int) × Int × (List Int) × (List Int))) (x1 : Int) : Option ((((List (List (Int × Int))) × (List Int) × Int × Int) × Int × (List Int) × (List Int)) × Bool) :=
  Option.bind (F_spec_mnAsked x0 (2, x1)) fun u13 =>
  some u13
def F_impl_arePerformers_L1 (x0 : (List Int)) (x1 : Int) : Nat → Int → Option Bool
  | 0, _ => none
  | m + 1, y7 => (if (decide (y7 < (List.length x0 : Int))) = true then Option.bind (idx x0 y7) fun u16 =>
  jK1 (fun (y23 : Bool) => (if y23 = true then some false else (F_impl_arePerformers_L1 x0 x1 m) ((w64 (y7 + 1))))) (fun k24 => Option.bind (F_impl_within u16 0 (w64 (x1 - 1))) fun u28 =>
  (if (!u28) = true then k24 (true) else (if (decide (0 < y7)) = true then Option.bind (idx x0 (w64 (y7 - 1))) fun u36 =>
  k24 ((decide (u16 ≤ u36))) else k24 (false)))) else some true)
def F_impl_arePerformers (x0 : (List Int)) (x1 : Int) : Option Bool :=
  F_impl_arePerformers_L1 x0 x1 FU (0)
def F_impl_IsMarch_L1 (x0 : (((List (List (Int × Int))) × (List Int) × Int × Int) × Int × (List Int) × (List Int))) : Nat → Int → Option Bool
  | 0, _ => none
  | m + 1, y22 => (if (decide (y22 < (List.length x0.2.2.2 : Int))) = true then Option.bind (idx x0.2.2.2 y22) fun u31 =>
  Option.bind (F_impl_within u31 0 x0.2.1) fun u35 =>
  (if (!u35) = true then some false else (F_impl_IsMarch_L1 x0 m) ((w64 (y22 + 1)))) else some true)
def F_impl_IsMarch (x0 : (((List (List (Int × Int))) × (List Int) × Int × Int) × Int × (List Int) × (List Int))) : Option Bool :=
  jK1 (fun (y12 : Bool) => (if y12 = true then some false else F_impl_IsMarch_L1 x0 FU (0))) (fun k13 => Option.bind (F_impl_IsShow x0.1) fun u49 =>
  (if (!u49) = true then k13 (true) else Option.bind (F_impl_within x0.2.1 0 1000) fun u57 =>
  (if (!u57) = true then k13 (true) else Option.bind (idx x0.1.1 0) fun u65 =>
  Option.bind (F_impl_arePerformers x0.2.2.1 (List.length u65 : Int)) fun u70 =>
  (if (!u70) = true then k13 (true) else Option.bind (idx x0.1.1 0) fun u78 =>
  k13 (((List.length x0.2.2.2 : Int) != (List.length u78 : Int)))))))
def F_impl_hasPerformer (x0 : (((List (List (Int × Int))) × (List Int) × Int × Int) × Int × (List Int) × (List Int))) (x1 : Int) : Option Bool :=
  jK1 (fun (y11 : Bool) => some y11) (fun k12 => Option.bind (F_impl_IsMarch x0) fun u14 =>
  (if u14 = true then Option.bind (F_impl_within x1 0 (w64 ((List.length x0.2.2.2 : Int) - 1))) fun u21 =>
  k12 (u21) else k12 (false)))
def F_slices_Index_int_int_L1 (x0 : (List Int)) (x1 : Int) : Nat → Int → Option Int
  | 0, _ => none
  | m + 1, y7 => (if (decide (y7 < (List.length x0 : Int))) = true then Option.bind (idx x0 y7) fun u17 =>
  (if (x1 == u17) = true then some y7 else (F_slices_Index_int_int_L1 x0 x1 m) ((w64 (y7 + 1)))) else some (-1))
def F_slices_Index_int_int (x0 : (List Int)) (x1 : Int) : Option Int :=
  F_slices_Index_int_int_L1 x0 x1 FU (0)
def F_slices_Contains_int_int (x0 : (List Int)) (x1 : Int) : Option Bool :=
  Option.bind (F_slices_Index_int_int x0 x1) fun u3 =>
  some (decide (0 ≤ u3))
def F_impl_copyInts (x0 : (List Int)) : Option (List Int) :=
  Option.bind (app [] x0) fun u9 =>
  some u9
def F_impl_copyShow_L1 (x0 : ((List (List (Int × Int))) × (List Int) × Int × Int)) (l20 : (List Int)) (y23 : Int) (y24 : Int) : Nat → (List (List (Int × Int))) → Int → Option ((List (List (Int × Int))) × (List Int) × Int × Int)
  | 0, _, _ => none
  | m + 1, l32, y35 => (if (decide (y35 < (List.length x0.1 : Int))) = true then jK1 (fun (l46 : (List (List (Int × Int)))) => (F_impl_copyShow_L1 x0 l20 y23 y24 m) (l46) ((w64 (y35 + 1)))) (fun k49 => Option.bind (idx x0.1 y35) fun u52 =>
  Option.bind (app [] u52) fun u74 =>
  Option.bind (app l32 [u74]) fun u94 =>
  k49 (u94)) else some (l32, l20, y23, y24))
def F_impl_copyShow (x0 : ((List (List (Int × Int))) × (List Int) × Int × Int)) : Option ((List (List (Int × Int))) × (List Int) × Int × Int) :=
  jK4 (fun (l17 : (List (List (Int × Int)))) (l20 : (List Int)) (y23 : Int) (y24 : Int) => F_impl_copyShow_L1 x0 l20 y23 y24 FU (l17) (0)) (fun k25 => Option.bind (F_impl_copyInts x0.2.1) fun u228 =>
  k25 ([]) (u228) (x0.2.2.1) (x0.2.2.2))
def F_impl_copyMarch (x0 : (((List (List (Int × Int))) × (List Int) × Int × Int) × Int × (List Int) × (List Int))) : Option (((List (List (Int × Int))) × (List Int) × Int × Int) × Int × (List Int) × (List Int)) :=
  Option.bind (F_impl_copyShow x0.1) fun u18 =>
  Option.bind (F_impl_copyInts x0.2.2.1) fun u30 =>
  Option.bind (F_impl_copyInts x0.2.2.2) fun u40 =>
  some (u18, x0.2.1, u30, u40)
def F_bits_Len32 (x0 : Int) : Option Int :=
  jK2 (fun (y6 : Int) (y7 : Int) => jK2 (fun (y14 : Int) (y15 : Int) => Option.bind (idx [0, 1, 2, 2, 3, 3, 3, 3, 4, 4, 4, 4, 4, 4, 4, 4, 5, 5, 5, 5, 5, 5, 5, 5, 5, 5, 5, 5, 5, 5, 5, 5, 6, 6, 6, 6, 6, 6, 6, 6, 6, 6, 6, 6, 6, 6, 6, 6, 6, 6, 6, 6, 6, 6, 6, 6, 6, 6, 6, 6, 6, 6, 6, 6, 7, 7, 7, 7, 7, 7, 7, 7, 7, 7, 7, 7, 7, 7, 7, 7, 7, 7, 7, 7, 7, 7, 7, 7, 7, 7, 7, 7, 7, 7, 7, 7, 7, 7, 7, 7, 7, 7, 7, 7, 7, 7, 7, 7, 7, 7, 7, 7, 7, 7, 7, 7, 7, 7, 7, 7, 7, 7, 7, 7, 7, 7, 7, 7, 8, 8, 8, 8, 8, 8, 8, 8, 8, 8, 8, 8, 8, 8, 8, 8, 8, 8, 8, 8, 8, 8, 8, 8, 8, 8, 8, 8, 8, 8, 8, 8, 8, 8, 8, 8, 8, 8, 8, 8, 8, 8, 8, 8, 8, 8, 8, 8, 8, 8, 8, 8, 8, 8, 8, 8, 8, 8, 8, 8, 8, 8, 8, 8, 8, 8, 8, 8, 8, 8, 8, 8, 8, 8, 8, 8, 8, 8, 8, 8, 8, 8, 8, 8, 8, 8, 8, 8, 8, 8, 8, 8, 8, 8, 8, 8, 8, 8, 8, 8, 8, 8, 8, 8, 8, 8, 8, 8, 8, 8, 8, 8, 8, 8, 8, 8, 8, 8, 8, 8, 8, 8, 8, 8, 8, 8, 8, 8] (wu8 y14)) fun u19 =>
  some (w64 (y15 + (w64 (UInt8.toNat u19 : Int))))) (fun k16 => (if (decide (256 ≤ y6)) = true then k16 ((shrK .u32 y6 8)) ((w64 (y7 + 8))) else k16 (y6) (y7)))) (fun k8 => (if (decide (65536 ≤ x0)) = true then k8 ((shrK .u32 x0 16)) (16) else k8 (x0) (0)))
def F_bits_Len64 (x0 : Int) : Option Int :=
  jK2 (fun (y6 : Int) (y7 : Int) => jK2 (fun (y14 : Int) (y15 : Int) => jK2 (fun (y22 : Int) (y23 : Int) => Option.bind (idx [0, 1, 2, 2, 3, 3, 3, 3, 4, 4, 4, 4, 4, 4, 4, 4, 5, 5, 5, 5, 5, 5, 5, 5, 5, 5, 5, 5, 5, 5, 5, 5, 6, 6, 6, 6, 6, 6, 6, 6, 6, 6, 6, 6, 6, 6, 6, 6, 6, 6, 6, 6, 6, 6, 6, 6, 6, 6, 6, 6, 6, 6, 6, 6, 7, 7, 7, 7, 7, 7, 7, 7, 7, 7, 7, 7, 7, 7, 7, 7, 7, 7, 7, 7, 7, 7, 7, 7, 7, 7, 7, 7, 7, 7, 7, 7, 7, 7, 7, 7, 7, 7, 7, 7, 7, 7, 7, 7, 7, 7, 7, 7, 7, 7, 7, 7, 7, 7, 7, 7, 7, 7, 7, 7, 7, 7, 7, 7, 8, 8, 8, 8, 8, 8, 8, 8, 8, 8, 8, 8, 8, 8, 8, 8, 8, 8, 8, 8, 8, 8, 8, 8, 8, 8, 8, 8, 8, 8, 8, 8, 8, 8, 8, 8, 8, 8, 8, 8, 8, 8, 8, 8, 8, 8, 8, 8, 8, 8, 8, 8, 8, 8, 8, 8, 8, 8, 8, 8, 8, 8, 8, 8, 8, 8, 8, 8, 8, 8, 8, 8, 8, 8, 8, 8, 8, 8, 8, 8, 8, 8, 8, 8, 8, 8, 8, 8, 8, 8, 8, 8, 8, 8, 8, 8, 8, 8, 8, 8, 8, 8, 8, 8, 8, 8, 8, 8, 8, 8, 8, 8, 8, 8, 8, 8, 8, 8, 8, 8, 8, 8, 8, 8, 8, 8, 8, 8] (wu8 y22)) fun u27 =>
  some (w64 (y23 + (w64 (UInt8.toNat u27 : Int))))) (fun k24 => (if (decide (256 ≤ y14)) = true then k24 ((shrK .u64 y14 8)) ((w64 (y15 + 8))) else k24 (y14) (y15)))) (fun k16 => (if (decide (65536 ≤ y6)) = true then k16 ((shrK .u64 y6 16)) ((w64 (y7 + 16))) else k16 (y6) (y7)))) (fun k8 => (if (decide (4294967296 ≤ x0)) = true then k8 ((shrK .u64 x0 32)) (32) else k8 (x0) (0)))
def F_bits_Len (x0 : Int) : Option Int :=
  Option.bind (F_bits_Len64 x0) fun u4 =>
  some u4
def F_cmp_isNaN_int (x0 : Int) : Option Bool :=
  some (x0 != x0)
def F_cmp_Less_int (x0 : Int) (x1 : Int) : Option Bool :=
  jK1 (fun (y6 : Bool) => some y6) (fun k7 => Option.bind (F_cmp_isNaN_int x0) fun u9 =>
  (if u9 = true then Option.bind (F_cmp_isNaN_int x1) fun u16 =>
  (if (!u16) = true then k7 (true) else k7 ((decide (x0 < x1)))) else k7 ((decide (x0 < x1)))))
def F_slices_insertionSortOrdered_int__mut_L2 (nx7 : ((List Int) → Int → Option (List Int))) (y6 : Int) (x1 : Int) : Nat → (List Int) → Int → Option (List Int)
  | 0, _, _ => none
  | m + 1, l18, y19 => jK1 (fun (y28 : Bool) => (if y28 = true then jK1 (fun (l36 : (List Int)) => (F_slices_insertionSortOrdered_int__mut_L2 nx7 y6 x1 m) (l36) ((w64 (y19 - 1)))) (fun k37 => Option.bind (idx l18 (w64 (y19 - 1))) fun u44 =>
  Option.bind (idx l18 y19) fun u48 =>
  Option.bind (idx l18 y19) fun u52 =>
  Option.bind (idx (seti l18 y19 u44) (w64 (y19 - 1))) fun u61 =>
  k37 ((seti (seti l18 y19 u44) (w64 (y19 - 1)) u48))) else nx7 (l18) ((w64 (y6 + 1))))) (fun k29 => (if (decide (x1 < y19)) = true then Option.bind (idx l18 y19) fun u94 =>
  Option.bind (idx l18 (w64 (y19 - 1))) fun u98 =>
  Option.bind (F_cmp_Less_int u94 u98) fun u102 =>
  k29 (u102) else k29 (false)))
def F_slices_insertionSortOrdered_int__mut_L1 (x2 : Int) (x1 : Int) : Nat → (List Int) → Int → Option (List Int)
  | 0, _, _ => none
  | m + 1, l5, y6 => (if (decide (y6 < x2)) = true then F_slices_insertionSortOrdered_int__mut_L2 (F_slices_insertionSortOrdered_int__mut_L1 x2 x1 m) y6 x1 FU (l5) (y6) else some l5)
def F_slices_insertionSortOrdered_int__mut (x0 : (List Int)) (x1 : Int) (x2 : Int) : Option (List Int) :=
  F_slices_insertionSortOrdered_int__mut_L1 x2 x1 FU (x0) ((w64 (x1 + 1)))
def F_slices_pdqsortOrdered_int__mut_L1 (x2 : Int) (x1 : Int) (x0 : (List Int)) : Nat → Option (List Int)
  | 0 => none
  | m + 1 => (if (decide ((w64 (x2 - x1)) ≤ 12)) = true then Option.bind (F_slices_insertionSortOrdered_int__mut x0 x1 x2) fun u14 =>
  some u14 else none)
def F_slices_pdqsortOrdered_int__mut (x0 : (List Int)) (x1 : Int) (x2 : Int) (x3 : Int) : Option (List Int) :=
  F_slices_pdqsortOrdered_int__mut_L1 x2 x1 x0 FU
def F_slices_Sort_int_int__mut (x0 : (List Int)) : Option (List Int) :=
  Option.bind (F_bits_Len (wu64 (List.length x0 : Int))) fun u2 =>
  Option.bind (F_slices_pdqsortOrdered_int__mut x0 0 (List.length x0 : Int) u2) fun u8 =>
  some u8
def F_impl_HaltPerformer (x0 : (((List (List (Int × Int))) × (List Int) × Int × Int) × Int × (List Int) × (List Int))) (x1 : Int) : Option ((((List (List (Int × Int))) × (List Int) × Int × Int) × Int × (List Int) × (List Int)) × Bool) :=
  jK1 (fun (y17 : Bool) => (if y17 = true then some ((([], [], 0, 0), 0, [], []), false) else Option.bind (F_impl_copyMarch x0) fun u31 =>
  Option.bind (app u31.2.2.1 [x1]) fun u61 =>
  Option.bind (F_slices_Sort_int_int__mut u61) fun u74 =>
  some ((u31.1, u31.2.1, u74, u31.2.2.2), true))) (fun k18 => Option.bind (F_impl_hasPerformer x0 x1) fun u85 =>
  (if (!u85) = true then k18 (true) else Option.bind (F_slices_Contains_int_int x0.2.2.1 x1) fun u92 =>
  k18 (u92)))
def F_laws_eqMarch (x0 : (((List (List (Int × Int))) × (List Int) × Int × Int) × Int × (List Int) × (List Int))) (x1 : (((List (List (Int × Int))) × (List Int) × Int × Int) × Int × (List Int) × (List Int))) : Option Bool :=
  Option.bind (F_laws_eqShow x0.1 x1.1) fun u14 =>
  (if (!u14) = true then some false else (if (x0.2.1 != x1.2.1) = true then some false else Option.bind (F_laws_eqIntS x0.2.2.1 x1.2.2.1) fun u28 =>
  (if (!u28) = true then some false else Option.bind (F_laws_eqIntS x0.2.2.2 x1.2.2.2) fun u38 =>
  (if (!u38) = true then some false else some true))))
def F_laws_markShow (x0 : ((List (List (Int × Int))) × (List Int) × Int × Int)) (x1 : Int) : Option (Int × ((List (List (Int × Int))) × (List Int) × Int × Int)) :=
  Option.bind (F_laws_markSpotSS x0.1 x1) fun u8 =>
  Option.bind (F_laws_markIntS x0.2.1 u8.1) fun u15 =>
  some (u15.1, (u8.2, u15.2, x0.2.2.1, x0.2.2.2))
def F_laws_markMarch (x0 : (((List (List (Int × Int))) × (List Int) × Int × Int) × Int × (List Int) × (List Int))) (x1 : Int) : Option (Int × (((List (List (Int × Int))) × (List Int) × Int × Int) × Int × (List Int) × (List Int))) :=
  Option.bind (F_laws_markShow x0.1 x1) fun u8 =>
  Option.bind (F_laws_markIntS x0.2.2.1 u8.1) fun u15 =>
  Option.bind (F_laws_markIntS x0.2.2.2 u15.1) fun u22 =>
  some (u22.1, ((u8.2.1, u8.2.2.1, x0.1.2.2.1, x0.1.2.2.2), x0.2.1, u15.2, u22.2))
def F_laws_heldSpotS_L1 (x0 : (List (Int × Int))) : Nat → Int → Int → Option Int
  | 0, _, _ => none
  | m + 1, y7, y8 => (if (decide (y8 < (List.length x0 : Int))) = true then Option.bind (idx x0 y8) fun u18 =>
  (if (u18.1 != y7) = true then some (-1) else Option.bind (idx x0 y8) fun u26 =>
  (if (u26.2 != (w64 (y7 + 1))) = true then some (-1) else (F_laws_heldSpotS_L1 x0 m) ((w64 ((w64 (y7 + 1)) + 1))) ((w64 (y8 + 1))))) else some y7)
def F_laws_heldSpotS (x0 : (List (Int × Int))) (x1 : Int) : Option Int :=
  F_laws_heldSpotS_L1 x0 FU (x1) (0)
def F_laws_heldSpotSS_L1 (x0 : (List (List (Int × Int)))) : Nat → Int → Int → Option Int
  | 0, _, _ => none
  | m + 1, y7, y8 => (if (decide (y8 < (List.length x0 : Int))) = true then Option.bind (idx x0 y8) fun u17 =>
  Option.bind (F_laws_heldSpotS u17 y7) fun u22 =>
  (if (decide (u22 < 0)) = true then some (-1) else (F_laws_heldSpotSS_L1 x0 m) (u22) ((w64 (y8 + 1)))) else some y7)
def F_laws_heldSpotSS (x0 : (List (List (Int × Int)))) (x1 : Int) : Option Int :=
  F_laws_heldSpotSS_L1 x0 FU (x1) (0)
def F_laws_heldShow (x0 : ((List (List (Int × Int))) × (List Int) × Int × Int)) (x1 : Int) : Option Int :=
  Option.bind (F_laws_heldSpotSS x0.1 x1) fun u8 =>
  (if (decide (u8 < 0)) = true then some (-1) else Option.bind (F_laws_heldIntS x0.2.1 u8) fun u19 =>
  (if (decide (u19 < 0)) = true then some (-1) else some u19))
def F_laws_heldMarch (x0 : (((List (List (Int × Int))) × (List Int) × Int × Int) × Int × (List Int) × (List Int))) (x1 : Int) : Option Int :=
  Option.bind (F_laws_heldShow x0.1 x1) fun u8 =>
  (if (decide (u8 < 0)) = true then some (-1) else Option.bind (F_laws_heldIntS x0.2.2.1 u8) fun u19 =>
  (if (decide (u19 < 0)) = true then some (-1) else Option.bind (F_laws_heldIntS x0.2.2.2 u19) fun u30 =>
  (if (decide (u30 < 0)) = true then some (-1) else some u30)))
def F_laws_FnExactHaltPerformer (x0 : (((List (List (Int × Int))) × (List Int) × Int × Int) × Int × (List Int) × (List Int))) (x1 : Int) : Option Bool :=
  Option.bind (F_laws_szMarch x0 1048576) fun u9 =>
  (if (decide (u9 < 0)) = true then some true else Option.bind (F_laws_toMarch x0) fun u20 =>
  Option.bind (F_spec_HaltPerformer u20 x1) fun u34 =>
  Option.bind (F_laws_toMarch x0) fun u58 =>
  Option.bind (F_impl_HaltPerformer u58 x1) fun u82 =>
  jK1 (fun (y110 : Bool) => (if y110 = true then some false else Option.bind (F_laws_toMarch x0) fun u122 =>
  Option.bind (F_laws_eqMarch u58 u122) fun u137 =>
  (if (!u137) = true then some false else Option.bind (F_laws_markMarch u58 1) fun u148 =>
  jK1 (fun (y159 : Bool) => (if y159 = true then some false else Option.bind (F_laws_markMarch u82.1 1) fun u166 =>
  Option.bind (F_laws_heldMarch ((u166.2.1.1, u166.2.1.2.1, u82.1.1.2.2.1, u82.1.1.2.2.2), u82.1.2.1, u166.2.2.2.1, u166.2.2.2.2) 1) fun u174 =>
  (if (decide (u174 < 0)) = true then some false else (if (u174 != u166.1) = true then some false else Option.bind (F_laws_toMarch x0) fun u189 =>
  Option.bind (F_impl_HaltPerformer u189 x1) fun u203 =>
  jK1 (fun (y231 : Bool) => (if y231 = true then some false else Option.bind (F_laws_heldMarch ((u166.2.1.1, u166.2.1.2.1, u82.1.1.2.2.1, u82.1.1.2.2.2), u82.1.2.1, u166.2.2.2.1, u166.2.2.2.2) 1) fun u238 =>
  (if (decide (u238 < 0)) = true then some false else (if (u238 != u166.1) = true then some false else some true)))) (fun k232 => Option.bind (F_laws_eqMarch u203.1 u34.1) fun u253 =>
  (if (!u253) = true then k232 (true) else k232 ((u203.2 != u34.2)))))))) (fun k160 => (if (decide (u148.1 < 0)) = true then k160 (true) else Option.bind (F_laws_eqMarch u82.1 u34.1) fun u261 =>
  (if (!u261) = true then k160 (true) else k160 ((u82.2 != u34.2)))))))) (fun k111 => Option.bind (F_laws_eqMarch u82.1 u34.1) fun u268 =>
  (if (!u268) = true then k111 (true) else k111 ((u82.2 != u34.2)))))
def F_laws_szBeatS (x0 : (List (Int × Int))) (x1 : Int) : Option Int :=
  (if (decide ((w64 (x1 - (List.length x0 : Int))) < 0)) = true then some (-1) else some (w64 (x1 - (List.length x0 : Int))))
def F_laws_toBeat (x0 : (Int × Int)) : Option (Int × Int) :=
  some x0
def F_laws_toBeatS_L1 (x0 : (List (Int × Int))) : Nat → (List (Int × Int)) → Int → Option (List (Int × Int))
  | 0, _, _ => none
  | m + 1, l15, y18 => (if (decide (y18 < (List.length x0 : Int))) = true then Option.bind (idx x0 y18) fun u26 =>
  Option.bind (F_laws_toBeat u26) fun u29 =>
  Option.bind (idx l15 y18) fun u35 =>
  (F_laws_toBeatS_L1 x0 m) ((seti l15 y18 u29)) ((w64 (y18 + 1))) else some l15)
def F_laws_toBeatS (x0 : (List (Int × Int))) : Option (List (Int × Int)) :=
  Option.bind (mkL (List.length x0 : Int) (0, 0)) fun u3 =>
  F_laws_toBeatS_L1 x0 FU (u3) (0)
def F_spec_RunBeats_L1 (x1 : (List (Int × Int))) : Nat → (List (List (Int × Int))) → (List Int) → Int → Int → Int → (List Int) → (List Int) → Int → Option ((((List (List (Int × Int))) × (List Int) × Int × Int) × Int × (List Int) × (List Int)) × Int × Bool)
  | 0, _, _, _, _, _, _, _, _ => none
  | m + 1, l59, l62, y65, y66, y67, l68, l71, y74 => (if (decide (y74 < (List.length x1 : Int))) = true then Option.bind (idx x1 y74) fun u83 =>
  Option.bind (F_spec_mnStep ((l59, l62, y65, y66), y67, l68, l71) u83) fun u96 =>
  (if (!u96.2) = true then some (((l59, l62, y65, y66), y67, l68, l71), y74, true) else (F_spec_RunBeats_L1 x1 m) (u96.1.1.1) (u96.1.1.2.1) (u96.1.1.2.2.1) (u96.1.1.2.2.2) (u96.1.2.1) (u96.1.2.2.1) (u96.1.2.2.2) ((w64 (y74 + 1)))) else some (((l59, l62, y65, y66), y67, l68, l71), (List.length x1 : Int), true))
def F_spec_RunBeats (x0 : (((List (List (Int × Int))) × (List Int) × Int × Int) × Int × (List Int) × (List Int))) (x1 : (List (Int × Int))) : Option ((((List (List (Int × Int))) × (List Int) × Int × Int) × Int × (List Int) × (List Int)) × Int × Bool) :=
  jK1 (fun (y17 : Bool) => (if y17 = true then some ((([], [], 0, 0), 0, [], []), 0, false) else Option.bind (F_spec_mnOwn x0) fun u31 =>
  F_spec_RunBeats_L1 x1 FU (u31.1.1) (u31.1.2.1) (u31.1.2.2.1) (u31.1.2.2.2) (u31.2.1) (u31.2.2.1) (u31.2.2.2) (0))) (fun k18 => Option.bind (F_spec_mnGood x0) fun u136 =>
  (if (!u136) = true then k18 (true) else k18 ((decide (100 < (List.length x1 : Int))))))
def F_impl_BeatOnce_L1 (u31 : (((List (List (Int × Int))) × (List Int) × Int × Int) × Int × (List Int) × (List Int))) : Nat → (List Int) → Int → Option ((((List (List (Int × Int))) × (List Int) × Int × Int) × Int × (List Int) × (List Int)) × Bool)
  | 0, _, _ => none
  | m + 1, l64, y67 => (if (decide (y67 < (List.length u31.2.2.1 : Int))) = true then Option.bind (idx u31.2.2.1 y67) fun u76 =>
  Option.bind (idx l64 u76) fun u80 =>
  Option.bind (idx l64 u76) fun u84 =>
  (F_impl_BeatOnce_L1 u31 m) ((seti l64 u76 (w64 (u80 + 1)))) ((w64 (y67 + 1))) else some ((u31.1, (w64 (u31.2.1 + 1)), u31.2.2.1, l64), true))
def F_impl_BeatOnce (x0 : (((List (List (Int × Int))) × (List Int) × Int × Int) × Int × (List Int) × (List Int))) : Option ((((List (List (Int × Int))) × (List Int) × Int × Int) × Int × (List Int) × (List Int)) × Bool) :=
  jK1 (fun (y17 : Bool) => (if y17 = true then some ((([], [], 0, 0), 0, [], []), false) else Option.bind (F_impl_copyMarch x0) fun u31 =>
  F_impl_BeatOnce_L1 u31 FU (u31.2.2.2) (0))) (fun k18 => Option.bind (F_impl_IsMarch x0) fun u97 =>
  (if (!u97) = true then k18 (true) else k18 ((x0.2.1 == 1000))))
def F_slices_Delete_int_int__take (x0 : (List Int)) (x1 : Int) (x2 : Int) : Option (List Int) :=
  Option.bind (sl x0 x1 x2) fun u3 =>
  (if (x1 == x2) = true then some x0 else Option.bind (sl x0 0 x1) fun u16 =>
  Option.bind (sl x0 x2 (List.length x0 : Int)) fun u21 =>
  Option.bind (cutL x0 x1 x2) fun u26 =>
  some u26)
def F_impl_GoOn (x0 : (((List (List (Int × Int))) × (List Int) × Int × Int) × Int × (List Int) × (List Int))) (x1 : Int) : Option ((((List (List (Int × Int))) × (List Int) × Int × Int) × Int × (List Int) × (List Int)) × Bool) :=
  jK1 (fun (y17 : Bool) => (if y17 = true then some ((([], [], 0, 0), 0, [], []), false) else Option.bind (F_impl_copyMarch x0) fun u31 =>
  Option.bind (F_slices_Index_int_int u31.2.2.1 x1) fun u55 =>
  Option.bind (F_slices_Delete_int_int__take u31.2.2.1 u55 (w64 (u55 + 1))) fun u62 =>
  some ((u31.1, u31.2.1, u62, u31.2.2.2), true))) (fun k18 => Option.bind (F_impl_hasPerformer x0 x1) fun u79 =>
  (if (!u79) = true then k18 (true) else Option.bind (F_slices_Contains_int_int x0.2.2.1 x1) fun u86 =>
  k18 ((!u86))))
def F_impl_doBeat (x0 : (((List (List (Int × Int))) × (List Int) × Int × Int) × Int × (List Int) × (List Int))) (x1 : (Int × Int)) : Option ((((List (List (Int × Int))) × (List Int) × Int × Int) × Int × (List Int) × (List Int)) × Bool) :=
  jK1 (fun (y22 : Bool) => (if y22 = true then Option.bind (F_impl_BeatOnce x0) fun u27 =>
  some u27 else (if (x1.1 == 2) = true then Option.bind (F_impl_HaltPerformer x0 x1.2) fun u48 =>
  some u48 else (if (x1.1 == 3) = true then Option.bind (F_impl_GoOn x0 x1.2) fun u69 =>
  some u69 else some ((([], [], 0, 0), 0, [], []), false))))) (fun k23 => (if (x1.1 == 1) = true then k23 ((x1.2 == 0)) else k23 (false)))
def F_impl_RunBeats_L1 (x1 : (List (Int × Int))) : Nat → (List (List (Int × Int))) → (List Int) → Int → Int → Int → (List Int) → (List Int) → Int → Option ((((List (List (Int × Int))) × (List Int) × Int × Int) × Int × (List Int) × (List Int)) × Int × Bool)
  | 0, _, _, _, _, _, _, _, _ => none
  | m + 1, l59, l62, y65, y66, y67, l68, l71, y74 => (if (decide (y74 < (List.length x1 : Int))) = true then Option.bind (idx x1 y74) fun u83 =>
  Option.bind (F_impl_doBeat ((l59, l62, y65, y66), y67, l68, l71) u83) fun u96 =>
  (if (!u96.2) = true then some (((l59, l62, y65, y66), y67, l68, l71), y74, true) else (F_impl_RunBeats_L1 x1 m) (u96.1.1.1) (u96.1.1.2.1) (u96.1.1.2.2.1) (u96.1.1.2.2.2) (u96.1.2.1) (u96.1.2.2.1) (u96.1.2.2.2) ((w64 (y74 + 1)))) else some (((l59, l62, y65, y66), y67, l68, l71), (List.length x1 : Int), true))
def F_impl_RunBeats (x0 : (((List (List (Int × Int))) × (List Int) × Int × Int) × Int × (List Int) × (List Int))) (x1 : (List (Int × Int))) : Option ((((List (List (Int × Int))) × (List Int) × Int × Int) × Int × (List Int) × (List Int)) × Int × Bool) :=
  jK1 (fun (y17 : Bool) => (if y17 = true then some ((([], [], 0, 0), 0, [], []), 0, false) else Option.bind (F_impl_copyMarch x0) fun u31 =>
  F_impl_RunBeats_L1 x1 FU (u31.1.1) (u31.1.2.1) (u31.1.2.2.1) (u31.1.2.2.2) (u31.2.1) (u31.2.2.1) (u31.2.2.2) (0))) (fun k18 => Option.bind (F_impl_IsMarch x0) fun u136 =>
  (if (!u136) = true then k18 (true) else k18 ((decide (100 < (List.length x1 : Int))))))
def F_laws_eqBeat (x0 : (Int × Int)) (x1 : (Int × Int)) : Option Bool :=
  (if (x0.1 != x1.1) = true then some false else (if (x0.2 != x1.2) = true then some false else some true))
def F_laws_eqBeatS_L1 (x0 : (List (Int × Int))) (x1 : (List (Int × Int))) : Nat → Int → Option Bool
  | 0, _ => none
  | m + 1, y11 => (if (decide (y11 < (List.length x0 : Int))) = true then Option.bind (idx x0 y11) fun u25 =>
  Option.bind (idx x1 y11) fun u28 =>
  Option.bind (F_laws_eqBeat u25 u28) fun u31 =>
  (if (!u31) = true then some false else (F_laws_eqBeatS_L1 x0 x1 m) ((w64 (y11 + 1)))) else some true)
def F_laws_eqBeatS (x0 : (List (Int × Int))) (x1 : (List (Int × Int))) : Option Bool :=
  (if ((List.length x0 : Int) != (List.length x1 : Int)) = true then some false else F_laws_eqBeatS_L1 x0 x1 FU (0))
def F_laws_markBeatS_L1  : Nat → (List (Int × Int)) → Int → Int → Option (Int × (List (Int × Int)))
  | 0, _, _, _ => none
  | m + 1, l7, y8, y9 => (if (decide (y9 < (List.length l7 : Int))) = true then Option.bind (idx l7 y9) fun u18 =>
  Option.bind (idx (seti l7 y9 (y8, u18.2)) y9) fun u28 =>
  (F_laws_markBeatS_L1 m) ((seti (seti l7 y9 (y8, u18.2)) y9 (u28.1, (w64 (y8 + 1))))) ((w64 ((w64 (y8 + 1)) + 1))) ((w64 (y9 + 1))) else some (y8, l7))
def F_laws_markBeatS (x0 : (List (Int × Int))) (x1 : Int) : Option (Int × (List (Int × Int))) :=
  F_laws_markBeatS_L1 FU (x0) (x1) (0)
def F_laws_FnExactRunBeats (x0 : (((List (List (Int × Int))) × (List Int) × Int × Int) × Int × (List Int) × (List Int))) (x1 : (List (Int × Int))) : Option Bool :=
  Option.bind (F_laws_szMarch x0 1048576) fun u9 =>
  (if (decide (u9 < 0)) = true then some true else Option.bind (F_laws_szBeatS x1 u9) fun u20 =>
  (if (decide (u20 < 0)) = true then some true else Option.bind (F_laws_toMarch x0) fun u31 =>
  Option.bind (F_laws_toBeatS x1) fun u45 =>
  Option.bind (F_spec_RunBeats u31 u45) fun u53 =>
  Option.bind (F_laws_toMarch x0) fun u77 =>
  Option.bind (F_laws_toBeatS x1) fun u101 =>
  Option.bind (F_impl_RunBeats u77 u101) fun u110 =>
  jK1 (fun (y138 : Bool) => (if y138 = true then some false else Option.bind (F_laws_toMarch x0) fun u150 =>
  Option.bind (F_laws_eqMarch u77 u150) fun u165 =>
  (if (!u165) = true then some false else Option.bind (F_laws_toBeatS x1) fun u176 =>
  Option.bind (F_laws_eqBeatS u101 u176) fun u184 =>
  (if (!u184) = true then some false else Option.bind (F_laws_markMarch u77 1) fun u194 =>
  Option.bind (F_laws_markBeatS u101 u194.1) fun u201 =>
  jK1 (fun (y212 : Bool) => (if y212 = true then some false else Option.bind (F_laws_markMarch u110.1 1) fun u219 =>
  Option.bind (F_laws_heldMarch ((u219.2.1.1, u219.2.1.2.1, u110.1.1.2.2.1, u110.1.1.2.2.2), u110.1.2.1, u219.2.2.2.1, u219.2.2.2.2) 1) fun u227 =>
  (if (decide (u227 < 0)) = true then some false else (if (u227 != u219.1) = true then some false else Option.bind (F_laws_toMarch x0) fun u242 =>
  Option.bind (F_laws_toBeatS x1) fun u256 =>
  Option.bind (F_impl_RunBeats u242 u256) fun u264 =>
  jK1 (fun (y292 : Bool) => (if y292 = true then some false else Option.bind (F_laws_heldMarch ((u219.2.1.1, u219.2.1.2.1, u110.1.1.2.2.1, u110.1.1.2.2.2), u110.1.2.1, u219.2.2.2.1, u219.2.2.2.2) 1) fun u299 =>
  (if (decide (u299 < 0)) = true then some false else (if (u299 != u219.1) = true then some false else some true)))) (fun k293 => Option.bind (F_laws_eqMarch u264.1 u53.1) fun u314 =>
  (if (!u314) = true then k293 (true) else (if (u264.2.1 != u53.2.1) = true then k293 (true) else k293 ((u264.2.2 != u53.2.2))))))))) (fun k213 => (if (decide (u201.1 < 0)) = true then k213 (true) else Option.bind (F_laws_eqMarch u110.1 u53.1) fun u323 =>
  (if (!u323) = true then k213 (true) else (if (u110.2.1 != u53.2.1) = true then k213 (true) else k213 ((u110.2.2 != u53.2.2)))))))))) (fun k139 => Option.bind (F_laws_eqMarch u110.1 u53.1) fun u331 =>
  (if (!u331) = true then k139 (true) else (if (u110.2.1 != u53.2.1) = true then k139 (true) else k139 ((u110.2.2 != u53.2.2)))))))
end Go.Proofs.Ytcndhhjolnebdaa
