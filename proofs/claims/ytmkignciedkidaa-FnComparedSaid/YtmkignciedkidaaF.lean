/-
  THE FUNCTIONS of this seat as plain functions, by program (gen.py).
-/
import Derived.Test.YtmkignciedkidaaCore0
set_option linter.unusedSimpArgs false
set_option linter.unusedVariables false
set_option maxRecDepth 100000
set_option maxHeartbeats 1600000
namespace Go.Proofs.Ytmkignciedkidaa
open Go
def eqv_Spot (x y : (Int × Int)) : Bool := (x.1 == y.1) && (x.2 == y.2)
def F_spec_l1In (x0 : Int) (x1 : Int) (x2 : Int) : Option Bool :=
  jK1 (fun (y6 : Bool) => some y6) (fun k7 => (if (decide (x1 ≤ x0)) = true then k7 ((decide (x0 ≤ x2))) else k7 (false)))
def F_spec_l1Cur__next__mut__box (x0 : ((List Int) × Int × Int)) : Option (Int × ((List Int) × Int × Int)) :=
  jK1 (fun (y7 : Int) => (if (decide ((w64 (x0.2.1 + 1)) ≤ (List.length x0.1 : Int))) = true then some (y7, (x0.1, (w64 (x0.2.1 + 1)), (wu64 ((wu64 ((wu64 (x0.2.2 * 6364136223846793005)) + (wu64 y7))) + 1442695040888963407)))) else some ((w64 (andK .u64 (shrK .u64 (wu64 ((wu64 ((wu64 (x0.2.2 * 6364136223846793005)) + (wu64 y7))) + 1442695040888963407)) 40) 255)), (x0.1, (w64 (x0.2.1 + 1)), (wu64 ((wu64 ((wu64 (x0.2.2 * 6364136223846793005)) + (wu64 y7))) + 1442695040888963407)))))) (fun k8 => (if (decide (x0.2.1 < (List.length x0.1 : Int))) = true then Option.bind (idx x0.1 x0.2.1) fun u42 =>
  k8 ((w64 u42)) else k8 (0)))
def F_spec_l1Cur__pick__mut__box (x0 : ((List Int) × Int × Int)) (x1 : Int) : Option (Int × ((List Int) × Int × Int)) :=
  (if (decide (x1 ≤ 1)) = true then some (0, x0) else Option.bind (F_spec_l1Cur__next__mut__box x0) fun u7 =>
  jK3 (fun (y17 : Int) (y18 : Int) (y19 : Int) => (if x1 = 0 then none else some ((Int.tmod y19 x1), (x0.1, y17, y18)))) (fun k20 => (if (decide (200 < x1)) = true then Option.bind (F_spec_l1Cur__next__mut__box (x0.1, u7.2.2.1, u7.2.2.2)) fun u26 =>
  k20 (u26.2.2.1) (u26.2.2.2) ((w64 ((w64 (u7.1 * 256)) + u26.1))) else k20 (u7.2.2.1) (u7.2.2.2) (u7.1))))
def F_spec_l1Cur__one__mut__box (x0 : ((List Int) × Int × Int)) (x1 : Int) : Option (Bool × ((List Int) × Int × Int)) :=
  Option.bind (F_spec_l1Cur__pick__mut__box x0 x1) fun u3 =>
  some ((u3.1 == 0), (x0.1, u3.2.2.1, u3.2.2.2))
def F_spec_l1Cur__among__mut__box (x0 : ((List Int) × Int × Int)) (x1 : (List Int)) : Option (Int × ((List Int) × Int × Int)) :=
  Option.bind (F_spec_l1Cur__pick__mut__box x0 (List.length x1 : Int)) fun u3 =>
  Option.bind (idx x1 u3.1) fun u9 =>
  some (u9, (x0.1, u3.2.2.1, u3.2.2.2))
def F_impl_within (x0 : Int) (x1 : Int) (x2 : Int) : Option Bool :=
  jK1 (fun (y6 : Bool) => some y6) (fun k7 => (if (decide (x1 ≤ x0)) = true then k7 ((decide (x0 ≤ x2))) else k7 (false)))
def F_spec_l1Most (x0 : Int) (x1 : Int) : Option Int :=
  (if (decide (x1 < x0)) = true then some x0 else some x1)
def F_laws_qInts_L1 (x0 : (List Int)) (x1 : (List Int)) : Nat → Int → Option Bool
  | 0, _ => none
  | m + 1, y11 => (if (decide (y11 < (List.length x0 : Int))) = true then Option.bind (idx x0 y11) fun u26 =>
  Option.bind (idx x1 y11) fun u29 =>
  (if (u26 != u29) = true then some false else (F_laws_qInts_L1 x0 x1 m) ((w64 (y11 + 1)))) else some true)
def F_laws_qInts (x0 : (List Int)) (x1 : (List Int)) : Option Bool :=
  (if ((List.length x0 : Int) != (List.length x1 : Int)) = true then some false else F_laws_qInts_L1 x0 x1 FU (0))
def F_laws_qHas_L1 (x0 : (List Int)) (x1 : Int) : Nat → Int → Option Bool
  | 0, _ => none
  | m + 1, y7 => (if (decide (y7 < (List.length x0 : Int))) = true then Option.bind (idx x0 y7) fun u16 =>
  (if (u16 == x1) = true then some true else (F_laws_qHas_L1 x0 x1 m) ((w64 (y7 + 1)))) else some false)
def F_laws_qHas (x0 : (List Int)) (x1 : Int) : Option Bool :=
  F_laws_qHas_L1 x0 x1 FU (0)
def F_spec_l1Least (x0 : Int) (x1 : Int) : Option Int :=
  (if (decide (x0 < x1)) = true then some x0 else some x1)
def F_spec_chFind_L1 (x0 : (List (Int × Int))) (x1 : (Int × Int)) : Nat → Int → Option Int
  | 0, _ => none
  | m + 1, y12 => (if (decide (y12 < (List.length x0 : Int))) = true then Option.bind (idx x0 y12) fun u21 =>
  (if (eqv_Spot u21 x1) = true then some y12 else (F_spec_chFind_L1 x0 x1 m) ((w64 (y12 + 1)))) else some (-1))
def F_spec_chFind (x0 : (List (Int × Int))) (x1 : (Int × Int)) : Option Int :=
  F_spec_chFind_L1 x0 x1 FU (0)
def F_spec_chOwn (x0 : (List (Int × Int))) : Option (List (Int × Int)) :=
  Option.bind (app [] x0) fun u9 =>
  some u9
def F_spec_stGood (x0 : (Int × Int)) : Option Bool :=
  jK1 (fun (y11 : Bool) => some y11) (fun k12 => Option.bind (F_spec_l1In x0.1 0 1280) fun u14 =>
  (if u14 = true then Option.bind (F_spec_l1In x0.2 0 672) fun u21 =>
  k12 (u21) else k12 (false)))
def F_spec_chGood_L2 (u39 : (List (Int × Int))) (u16 : (Int × Int)) (nx8 : (Int → Option Bool)) (y7 : Int) : Nat → Int → Option Bool
  | 0, _ => none
  | m + 1, y45 => (if (decide (y45 < (List.length u39 : Int))) = true then Option.bind (idx u39 y45) fun u54 =>
  (if (eqv_Spot u16 u54) = true then some false else (F_spec_chGood_L2 u39 u16 nx8 y7 m) ((w64 (y45 + 1)))) else nx8 ((w64 (y7 + 1))))
def F_spec_chGood_L1 (x0 : (List (Int × Int))) : Nat → Int → Option Bool
  | 0, _ => none
  | m + 1, y7 => (if (decide (y7 < (List.length x0 : Int))) = true then Option.bind (idx x0 y7) fun u16 =>
  Option.bind (F_spec_stGood u16) fun u30 =>
  (if (!u30) = true then some false else Option.bind (sl x0 0 y7) fun u39 =>
  F_spec_chGood_L2 u39 u16 (F_spec_chGood_L1 x0 m) y7 FU (0)) else Option.bind (F_spec_l1In (List.length x0 : Int) 1 12) fun u70 =>
  some u70)
def F_spec_chGood (x0 : (List (Int × Int))) : Option Bool :=
  F_spec_chGood_L1 x0 FU (0)
def F_spec_l1All_L1 (x0 : (List Int)) (x1 : Int) (x2 : Int) : Nat → Int → Option Bool
  | 0, _ => none
  | m + 1, y7 => (if (decide (y7 < (List.length x0 : Int))) = true then Option.bind (idx x0 y7) fun u16 =>
  Option.bind (F_spec_l1In u16 x1 x2) fun u20 =>
  (if (!u20) = true then some false else (F_spec_l1All_L1 x0 x1 x2 m) ((w64 (y7 + 1)))) else some true)
def F_spec_l1All (x0 : (List Int)) (x1 : Int) (x2 : Int) : Option Bool :=
  F_spec_l1All_L1 x0 x1 x2 FU (0)
def F_spec_apDistance (x0 : Int) : Option Bool :=
  Option.bind (F_spec_l1In x0 0 80) fun u3 =>
  some u3
def F_spec_mvStep (x0 : Int) : Option Bool :=
  Option.bind (F_spec_l1In x0 1 24) fun u3 =>
  some u3
def F_spec_swGood_L1 (x0 : ((List (List (Int × Int))) × (List Int) × Int × Int)) : Nat → Int → Option Bool
  | 0, _ => none
  | m + 1, y12 => (if (decide (y12 < (List.length x0.1 : Int))) = true then Option.bind (idx x0.1 y12) fun u21 =>
  jK1 (fun (y30 : Bool) => (if y30 = true then some false else (F_spec_swGood_L1 x0 m) ((w64 (y12 + 1))))) (fun k31 => Option.bind (F_spec_chGood u21) fun u35 =>
  (if (!u35) = true then k31 (true) else Option.bind (idx x0.1 0) fun u42 =>
  k31 (((List.length u21 : Int) != (List.length u42 : Int))))) else jK1 (fun (y51 : Bool) => some y51) (fun k52 => Option.bind (F_spec_l1In (List.length x0.1 : Int) 2 8) fun u54 =>
  (if u54 = true then (if ((List.length x0.2.1 : Int) == (w64 ((List.length x0.1 : Int) - 1))) = true then Option.bind (F_spec_l1All x0.2.1 1 64) fun u62 =>
  (if u62 = true then Option.bind (F_spec_apDistance x0.2.2.1) fun u69 =>
  (if u69 = true then Option.bind (F_spec_mvStep x0.2.2.2) fun u76 =>
  k52 (u76) else k52 (false)) else k52 (false)) else k52 (false)) else k52 (false))))
def F_spec_swGood (x0 : ((List (List (Int × Int))) × (List Int) × Int × Int)) : Option Bool :=
  F_spec_swGood_L1 x0 FU (0)
def F_spec_l1Own (x0 : (List Int)) : Option (List Int) :=
  Option.bind (app [] x0) fun u9 =>
  some u9
def F_spec_l1Cur__spot__mut__box (x0 : ((List Int) × Int × Int)) : Option ((Int × Int) × ((List Int) × Int × Int)) :=
  Option.bind (F_spec_l1Cur__pick__mut__box x0 161) fun u8 =>
  Option.bind (F_spec_l1Cur__pick__mut__box (x0.1, u8.2.2.1, u8.2.2.2) 1281) fun u14 =>
  Option.bind (F_spec_l1Cur__among__mut__box (x0.1, u14.2.2.1, u14.2.2.2) [0, 80, 160, 640, (w64 (8 * u8.1)), u14.1, 1280]) fun u26 =>
  Option.bind (F_spec_l1Cur__pick__mut__box (x0.1, u26.2.2.1, u26.2.2.2) 85) fun u32 =>
  Option.bind (F_spec_l1Cur__pick__mut__box (x0.1, u32.2.2.1, u32.2.2.2) 673) fun u38 =>
  Option.bind (F_spec_l1Cur__among__mut__box (x0.1, u38.2.2.1, u38.2.2.2) [0, 80, 336, (w64 (8 * u32.1)), u38.1, 672]) fun u50 =>
  some ((u26.1, u50.1), (x0.1, u50.2.2.1, u50.2.2.2))
def F_spec_l1Cur__chartOf__mut__box_L1 (x1 : Int) (x0 : ((List Int) × Int × Int)) : Nat → Int → Int → (List (Int × Int)) → Int → Option ((List (Int × Int)) × ((List Int) × Int × Int))
  | 0, _, _, _, _ => none
  | m + 1, y8, y9, l10, y13 => (if (decide ((List.length l10 : Int) < x1)) = true then jK3 (fun (y25 : Int) (y26 : Int) (l27 : (List (Int × Int))) => (F_spec_l1Cur__chartOf__mut__box_L1 x1 x0 m) (y25) (y26) (l27) ((w64 (y13 + 1)))) (fun k30 => Option.bind (F_spec_l1Cur__spot__mut__box (x0.1, y8, y9)) fun u33 =>
  jK4 (fun (y52 : Int) (y53 : Int) (y54 : Int) (y55 : Int) => jK2 (fun (y62 : Int) (y63 : Int) => Option.bind (F_spec_chFind l10 (y62, y63)) fun u67 =>
  (if (decide (u67 < 0)) = true then Option.bind (app l10 [(y62, y63)]) fun u80 =>
  k30 (y52) (y53) (u80) else k30 (y52) (y53) (l10))) (fun k64 => (if (decide (60 < y13)) = true then k64 ((w64 (3 * (List.length l10 : Int)))) ((w64 (7 + y13))) else k64 (y54) (y55)))) (fun k56 => jK3 (fun (y97 : Int) (y98 : Int) (y99 : Bool) => (if y99 = true then Option.bind (F_spec_l1Cur__pick__mut__box (x0.1, y97, y98) (List.length l10 : Int)) fun u104 =>
  Option.bind (idx l10 u104.1) fun u110 =>
  Option.bind (F_spec_l1Cur__among__mut__box (x0.1, u104.2.2.1, u104.2.2.2) [0, 8, 16, 24, 5]) fun u140 =>
  Option.bind (F_spec_l1Least 1280 (w64 (u110.1 + u140.1))) fun u150 =>
  Option.bind (F_spec_l1Cur__among__mut__box (x0.1, u140.2.2.1, u140.2.2.2) [0, 8, 16, 3]) fun u169 =>
  Option.bind (F_spec_l1Least 672 (w64 (u110.2 + u169.1))) fun u179 =>
  k56 (u169.2.2.1) (u169.2.2.2) (u150) (u179) else k56 (y97) (y98) (u33.1.1) (u33.1.2))) (fun k100 => (if (decide (0 < (List.length l10 : Int))) = true then Option.bind (F_spec_l1Cur__one__mut__box (x0.1, u33.2.2.1, u33.2.2.2) 2) fun u361 =>
  k100 (u361.2.2.1) (u361.2.2.2) (u361.1) else k100 (u33.2.2.1) (u33.2.2.2) (false))))) else some (l10, (x0.1, y8, y9)))
def F_spec_l1Cur__chartOf__mut__box (x0 : ((List Int) × Int × Int)) (x1 : Int) : Option ((List (Int × Int)) × ((List Int) × Int × Int)) :=
  F_spec_l1Cur__chartOf__mut__box_L1 x1 x0 FU (x0.2.1) (x0.2.2) ([]) (0)
def F_spec_l1Cur__chart__mut__box (x0 : ((List Int) × Int × Int)) : Option ((List (Int × Int)) × ((List Int) × Int × Int)) :=
  Option.bind (F_spec_l1Cur__one__mut__box x0 20) fun u4 =>
  (if u4.1 = true then Option.bind (F_spec_l1Cur__chartOf__mut__box (x0.1, u4.2.2.1, u4.2.2.2) 12) fun u12 =>
  some (u12.1, (x0.1, u12.2.2.1, u12.2.2.2)) else Option.bind (F_spec_l1Cur__pick__mut__box (x0.1, u4.2.2.1, u4.2.2.2) 6) fun u21 =>
  Option.bind (F_spec_l1Cur__chartOf__mut__box (x0.1, u21.2.2.1, u21.2.2.2) (w64 (1 + u21.1))) fun u27 =>
  some (u27.1, (x0.1, u27.2.2.1, u27.2.2.2)))
def F_spec_l1Cur__anySpot__mut__box (x0 : ((List Int) × Int × Int)) : Option ((Int × Int) × ((List Int) × Int × Int)) :=
  Option.bind (F_spec_l1Cur__spot__mut__box x0) fun u8 =>
  jK4 (fun (y27 : Int) (y28 : Int) (y29 : Int) (y30 : Int) => some ((y29, y30), (x0.1, y27, y28))) (fun k31 => Option.bind (F_spec_l1Cur__pick__mut__box (x0.1, u8.2.2.1, u8.2.2.2) 30) fun u39 =>
  (if (u39.1 == 0) = true then Option.bind (F_spec_l1Cur__among__mut__box (x0.1, u39.2.2.1, u39.2.2.2) [(-1), 1281]) fun u53 =>
  k31 (u53.2.2.1) (u53.2.2.2) (u53.1) (u8.1.2) else (if (u39.1 == 1) = true then Option.bind (F_spec_l1Cur__among__mut__box (x0.1, u39.2.2.1, u39.2.2.2) [(-1), 673]) fun u71 =>
  k31 (u71.2.2.1) (u71.2.2.2) (u8.1.1) (u71.1) else k31 (u39.2.2.1) (u39.2.2.2) (u8.1.1) (u8.1.2))))
def F_spec_l1Cur__anyChart__mut__box (x0 : ((List Int) × Int × Int)) : Option ((List (Int × Int)) × ((List Int) × Int × Int)) :=
  Option.bind (F_spec_l1Cur__chart__mut__box x0) fun u3 =>
  Option.bind (F_spec_l1Cur__pick__mut__box (x0.1, u3.2.2.1, u3.2.2.2) (List.length u3.1 : Int)) fun u12 =>
  jK3 (fun (y22 : Int) (y23 : Int) (l24 : (List (Int × Int))) => some (l24, (x0.1, y22, y23))) (fun k27 => Option.bind (F_spec_l1Cur__pick__mut__box (x0.1, u12.2.2.1, u12.2.2.2) 30) fun u31 =>
  (if (u31.1 == 0) = true then Option.bind (F_spec_l1Cur__anySpot__mut__box (x0.1, u31.2.2.1, u31.2.2.2)) fun u39 =>
  Option.bind (idx u3.1 u12.1) fun u45 =>
  k27 (u39.2.2.1) (u39.2.2.2) ((seti u3.1 u12.1 u39.1)) else (if (u31.1 == 1) = true then Option.bind (idx u3.1 0) fun u55 =>
  Option.bind (idx u3.1 u12.1) fun u59 =>
  k27 (u31.2.2.1) (u31.2.2.2) ((seti u3.1 u12.1 u55)) else (if (u31.1 == 2) = true then some ([], (x0.1, u31.2.2.1, u31.2.2.2)) else (if (u31.1 == 3) = true then Option.bind (F_spec_l1Cur__chartOf__mut__box (x0.1, u31.2.2.1, u31.2.2.2) 13) fun u74 =>
  some (u74.1, (x0.1, u74.2.2.1, u74.2.2.2)) else k27 (u31.2.2.1) (u31.2.2.2) (u3.1))))))
def F_spec_l1Cur__show__mut__box_L2 (u311 : (List (Int × Int))) (x0 : ((List Int) × Int × Int)) (u101 : (List (Int × Int))) (k125 : (Int → Int → (List (Int × Int)) → Option (((List (List (Int × Int))) × (List Int) × Int × Int) × ((List Int) × Int × Int)))) : Nat → Int → Int → (List (Int × Int)) → Int → Option (((List (List (Int × Int))) × (List Int) × Int × Int) × ((List Int) × Int × Int))
  | 0, _, _, _, _ => none
  | m + 1, y324, y325, l327, y330 => (if (decide (y330 < (List.length u311 : Int))) = true then jK3 (fun (y341 : Int) (y342 : Int) (l344 : (List (Int × Int))) => (F_spec_l1Cur__show__mut__box_L2 u311 x0 u101 k125 m) (y341) (y342) (l344) ((w64 (y330 + 1)))) (fun k347 => Option.bind (idx l327 y330) fun u355 =>
  Option.bind (F_spec_l1Cur__among__mut__box (x0.1, y324, y325) [0, 8, 16, 40]) fun u372 =>
  Option.bind (F_spec_l1Least 1280 (w64 (u355.1 + u372.1))) fun u383 =>
  Option.bind (idx l327 y330) fun u392 =>
  k347 (u372.2.2.1) (u372.2.2.2) ((seti l327 y330 (u383, u392.2)))) else Option.bind (F_spec_chGood l327) fun u479 =>
  (if (!u479) = true then Option.bind (F_spec_chOwn u101) fun u486 =>
  k125 (y324) (y325) (u486) else k125 (y324) (y325) (l327)))
def F_spec_l1Cur__show__mut__box_L1 (y78 : Int) (x0 : ((List Int) × Int × Int)) (u8 : (Int × ((List Int) × Int × Int))) (u50 : (Int × ((List Int) × Int × Int))) (u38 : (Int × ((List Int) × Int × Int))) : Nat → Int → Int → (List (List (Int × Int))) → (List Int) → Option (((List (List (Int × Int))) × (List Int) × Int × Int) × ((List Int) × Int × Int))
  | 0, _, _, _, _ => none
  | m + 1, y85, y86, l87, l90 => (if (decide ((List.length l87 : Int) < y78)) = true then Option.bind (idx l87 (w64 ((List.length l87 : Int) - 1))) fun u101 =>
  Option.bind (F_spec_l1Cur__chartOf__mut__box (x0.1, y85, y86) (w64 (1 + u8.1))) fun u108 =>
  jK3 (fun (y120 : Int) (y121 : Int) (l122 : (List (Int × Int))) => Option.bind (app l87 [l122]) fun u137 =>
  Option.bind (F_spec_l1Cur__among__mut__box (x0.1, y120, y121) [1, 4, 8, 16, 64]) fun u164 =>
  Option.bind (app l90 [u164.1]) fun u183 =>
  (F_spec_l1Cur__show__mut__box_L1 y78 x0 u8 u50 u38 m) (u164.2.2.1) (u164.2.2.2) (u137) (u183)) (fun k125 => Option.bind (F_spec_l1Cur__one__mut__box (x0.1, u108.2.2.1, u108.2.2.2) 3) fun u303 =>
  (if (!u303.1) = true then Option.bind (F_spec_chOwn u101) fun u311 =>
  F_spec_l1Cur__show__mut__box_L2 u311 x0 u101 k125 FU (u303.2.2.1) (u303.2.2.2) (u311) (0) else k125 (u303.2.2.1) (u303.2.2.2) (u108.1))) else jK6 (fun (y498 : Int) (y499 : Int) (l500 : (List (List (Int × Int)))) (l503 : (List Int)) (y506 : Int) (y507 : Int) => some ((l500, l503, y506, y507), (x0.1, y498, y499))) (fun k508 => Option.bind (F_spec_l1Cur__pick__mut__box (x0.1, y85, y86) 36) fun u516 =>
  (if (u516.1 == 0) = true then Option.bind (F_spec_l1Cur__among__mut__box (x0.1, u516.2.2.1, u516.2.2.2) [(-1), 80, 81]) fun u530 =>
  k508 (u530.2.2.1) (u530.2.2.2) (l87) (l90) (u530.1) (u50.1) else (if (u516.1 == 1) = true then Option.bind (F_spec_l1Cur__among__mut__box (x0.1, u516.2.2.1, u516.2.2.2) [0, 1, 25]) fun u548 =>
  k508 (u548.2.2.1) (u548.2.2.2) (l87) (l90) (u38.1) (u548.1) else (if (u516.1 == 2) = true then Option.bind (F_spec_l1Cur__among__mut__box (x0.1, u516.2.2.1, u516.2.2.2) [0, 64, 65]) fun u576 =>
  Option.bind (idx l90 0) fun u585 =>
  k508 (u576.2.2.1) (u576.2.2.2) (l87) ((seti l90 0 u576.1)) (u38.1) (u50.1) else (if (u516.1 == 3) = true then Option.bind (F_spec_l1Cur__anyChart__mut__box (x0.1, u516.2.2.1, u516.2.2.2)) fun u651 =>
  Option.bind (idx l87 (w64 ((List.length l87 : Int) - 1))) fun u663 =>
  k508 (u651.2.2.1) (u651.2.2.2) ((seti l87 (w64 ((List.length l87 : Int) - 1)) u651.1)) (l90) (u38.1) (u50.1) else (if (u516.1 == 4) = true then Option.bind (app l90 [8]) fun u797 =>
  k508 (u516.2.2.1) (u516.2.2.2) (l87) (u797) (u38.1) (u50.1) else (if (u516.1 == 5) = true then Option.bind (sl l87 0 1) fun u811 =>
  k508 (u516.2.2.1) (u516.2.2.2) (u811) ([]) (u38.1) (u50.1) else k508 (u516.2.2.1) (u516.2.2.2) (l87) (l90) (u38.1) (u50.1)))))))))
def F_spec_l1Cur__show__mut__box (x0 : ((List Int) × Int × Int)) : Option (((List (List (Int × Int))) × (List Int) × Int × Int) × ((List Int) × Int × Int)) :=
  Option.bind (F_spec_l1Cur__pick__mut__box x0 4) fun u8 =>
  Option.bind (F_spec_l1Cur__chartOf__mut__box (x0.1, u8.2.2.1, u8.2.2.2) (w64 (1 + u8.1))) fun u15 =>
  Option.bind (F_spec_l1Cur__among__mut__box (x0.1, u15.2.2.1, u15.2.2.2) [0, 1, 8, 8, 16]) fun u38 =>
  Option.bind (F_spec_l1Cur__among__mut__box (x0.1, u38.2.2.1, u38.2.2.2) [8, 12, 24, 24]) fun u50 =>
  Option.bind (F_spec_l1Cur__pick__mut__box (x0.1, u50.2.2.1, u50.2.2.2) 3) fun u66 =>
  jK3 (fun (y76 : Int) (y77 : Int) (y78 : Int) => F_spec_l1Cur__show__mut__box_L1 y78 x0 u8 u50 u38 FU (y76) (y77) ([u15.1]) ([])) (fun k79 => Option.bind (F_spec_l1Cur__one__mut__box (x0.1, u66.2.2.1, u66.2.2.2) 20) fun u832 =>
  (if u832.1 = true then Option.bind (F_spec_l1Cur__pick__mut__box (x0.1, u832.2.2.1, u832.2.2.2) 2) fun u839 =>
  k79 (u839.2.2.1) (u839.2.2.2) ((w64 (8 + u839.1))) else k79 (u832.2.2.1) (u832.2.2.2) ((w64 (2 + u66.1)))))
def F_spec_l1Cur__showsTwo__mut__box_L2 (x0 : ((List Int) × Int × Int)) (u13 : (((List (List (Int × Int))) × (List Int) × Int × Int) × ((List Int) × Int × Int))) (l82 : (List Int)) (y85 : Int) (y86 : Int) : Nat → Int → Int → (List (List (Int × Int))) → Int → Option (((List (List (Int × Int))) × (List Int) × Int × Int) × ((List (List (Int × Int))) × (List Int) × Int × Int) × ((List Int) × Int × Int))
  | 0, _, _, _, _ => none
  | m + 1, y262, y263, l264, y267 => (if (decide (0 < y267)) = true then Option.bind (F_spec_l1Cur__pick__mut__box (x0.1, y262, y263) (List.length l264 : Int)) fun u281 =>
  Option.bind (idx l264 u281.1) fun u290 =>
  Option.bind (F_spec_l1Cur__pick__mut__box (x0.1, u281.2.2.1, u281.2.2.2) (List.length u290 : Int)) fun u296 =>
  Option.bind (F_spec_l1Cur__spot__mut__box (x0.1, u296.2.2.1, u296.2.2.2)) fun u302 =>
  Option.bind (idx u290 u296.1) fun u308 =>
  (F_spec_l1Cur__showsTwo__mut__box_L2 x0 u13 l82 y85 y86 m) (u302.2.2.1) (u302.2.2.2) ((seti l264 u281.1 (seti u290 u296.1 u302.1))) ((w64 (y267 - 1))) else jK5 (fun (y328 : Int) (y329 : Int) (l330 : (List Int)) (y333 : Int) (y334 : Int) => some (u13.1, (l264, l330, y333, y334), (x0.1, y328, y329))) (fun k335 => Option.bind (F_spec_l1Cur__pick__mut__box (x0.1, y262, y263) 5) fun u356 =>
  (if (u356.1 == 0) = true then Option.bind (F_spec_l1Cur__pick__mut__box (x0.1, u356.2.2.1, u356.2.2.2) (List.length l82 : Int)) fun u369 =>
  Option.bind (F_spec_l1Cur__pick__mut__box (x0.1, u369.2.2.1, u369.2.2.2) 20) fun u378 =>
  Option.bind (idx l82 u369.1) fun u387 =>
  k335 (u378.2.2.1) (u378.2.2.2) ((seti l82 u369.1 (w64 (1 + u378.1)))) (y85) (y86) else (if (u356.1 == 1) = true then Option.bind (F_spec_l1Cur__pick__mut__box (x0.1, u356.2.2.1, u356.2.2.2) 20) fun u474 =>
  k335 (u474.2.2.1) (u474.2.2.2) (l82) (u474.1) (y86) else (if (u356.1 == 2) = true then Option.bind (F_spec_l1Cur__pick__mut__box (x0.1, u356.2.2.1, u356.2.2.2) 24) fun u486 =>
  k335 (u486.2.2.1) (u486.2.2.2) (l82) (y85) ((w64 (1 + u486.1))) else k335 (u356.2.2.1) (u356.2.2.2) (l82) (y85) (y86))))))
def F_spec_l1Cur__showsTwo__mut__box_L1 (u13 : (((List (List (Int × Int))) × (List Int) × Int × Int) × ((List Int) × Int × Int))) (x0 : ((List Int) × Int × Int)) (y37 : Int) (y38 : Int) (l82 : (List Int)) (y85 : Int) (y86 : Int) : Nat → (List (List (Int × Int))) → Int → Option (((List (List (Int × Int))) × (List Int) × Int × Int) × ((List (List (Int × Int))) × (List Int) × Int × Int) × ((List Int) × Int × Int))
  | 0, _, _ => none
  | m + 1, l94, y97 => (if (decide (y97 < (List.length u13.1.1 : Int))) = true then jK1 (fun (l109 : (List (List (Int × Int)))) => (F_spec_l1Cur__showsTwo__mut__box_L1 u13 x0 y37 y38 l82 y85 y86 m) (l109) ((w64 (y97 + 1)))) (fun k112 => Option.bind (idx u13.1.1 y97) fun u115 =>
  Option.bind (F_spec_chOwn u115) fun u126 =>
  Option.bind (app l94 [u126]) fun u153 =>
  k112 (u153)) else Option.bind (F_spec_l1Cur__pick__mut__box (x0.1, y37, y38) 3) fun u253 =>
  F_spec_l1Cur__showsTwo__mut__box_L2 x0 u13 l82 y85 y86 FU (u253.2.2.1) (u253.2.2.2) (l94) (u253.1))
def F_spec_l1Cur__showsTwo__mut__box (x0 : ((List Int) × Int × Int)) : Option (((List (List (Int × Int))) × (List Int) × Int × Int) × ((List (List (Int × Int))) × (List Int) × Int × Int) × ((List Int) × Int × Int)) :=
  Option.bind (F_spec_l1Cur__show__mut__box x0) fun u13 =>
  jK3 (fun (y37 : Int) (y38 : Int) (y39 : Bool) => (if y39 = true then Option.bind (F_spec_l1Cur__show__mut__box (x0.1, y37, y38)) fun u49 =>
  some (u13.1, u49.1, (x0.1, u49.2.2.1, u49.2.2.2)) else jK3 (fun (l82 : (List Int)) (y85 : Int) (y86 : Int) => F_spec_l1Cur__showsTwo__mut__box_L1 u13 x0 y37 y38 l82 y85 y86 FU ([]) (0)) (fun k87 => Option.bind (F_spec_l1Own u13.1.2.1) fun u501 =>
  k87 (u501) (u13.1.2.2.1) (u13.1.2.2.2)))) (fun k40 => Option.bind (F_spec_swGood u13.1) fun u551 =>
  (if (!u551) = true then k40 (u13.2.2.1) (u13.2.2.2) (true) else Option.bind (F_spec_l1Cur__one__mut__box (x0.1, u13.2.2.1, u13.2.2.2) 4) fun u558 =>
  k40 (u558.2.2.1) (u558.2.2.2) (u558.1)))
def F_spec_DrawSameShows (x0 : (List Int)) : Option (((List (List (Int × Int))) × (List Int) × Int × Int) × ((List (List (Int × Int))) × (List Int) × Int × Int)) :=
  Option.bind (F_spec_l1Cur__showsTwo__mut__box (x0, 0, 0)) fun u19 =>
  some (u19.1, u19.2.1)
def F_spec_DrawDifferentCharts (x0 : (List Int)) : Option (((List (List (Int × Int))) × (List Int) × Int × Int) × ((List (List (Int × Int))) × (List Int) × Int × Int)) :=
  Option.bind (F_spec_DrawSameShows x0) fun u13 =>
  some u13
def F_impl_IsSpot (x0 : (Int × Int)) : Option Bool :=
  jK1 (fun (y11 : Bool) => some y11) (fun k12 => Option.bind (F_impl_within x0.1 0 1280) fun u14 =>
  (if u14 = true then Option.bind (F_impl_within x0.2 0 672) fun u21 =>
  k12 (u21) else k12 (false)))
def F_slices_Index_impl_Spot_impl_Spot_L1 (x0 : (List (Int × Int))) (x1 : (Int × Int)) : Nat → Int → Option Int
  | 0, _ => none
  | m + 1, y12 => (if (decide (y12 < (List.length x0 : Int))) = true then Option.bind (idx x0 y12) fun u27 =>
  (if (eqv_Spot x1 u27) = true then some y12 else (F_slices_Index_impl_Spot_impl_Spot_L1 x0 x1 m) ((w64 (y12 + 1)))) else some (-1))
def F_slices_Index_impl_Spot_impl_Spot (x0 : (List (Int × Int))) (x1 : (Int × Int)) : Option Int :=
  F_slices_Index_impl_Spot_impl_Spot_L1 x0 x1 FU (0)
def F_slices_Contains_impl_Spot_impl_Spot (x0 : (List (Int × Int))) (x1 : (Int × Int)) : Option Bool :=
  Option.bind (F_slices_Index_impl_Spot_impl_Spot x0 x1) fun u8 =>
  some (decide (0 ≤ u8))
def F_impl_IsChart_L1 (x0 : (List (Int × Int))) : Nat → Int → Option Bool
  | 0, _ => none
  | m + 1, y17 => (if (decide (y17 < (List.length x0 : Int))) = true then Option.bind (idx x0 y17) fun u26 =>
  jK1 (fun (y42 : Bool) => (if y42 = true then some false else (F_impl_IsChart_L1 x0 m) ((w64 (y17 + 1))))) (fun k43 => Option.bind (F_impl_IsSpot u26) fun u52 =>
  (if (!u52) = true then k43 (true) else Option.bind (sl x0 0 y17) fun u60 =>
  Option.bind (F_slices_Contains_impl_Spot_impl_Spot u60 u26) fun u63 =>
  k43 (u63))) else some true)
def F_impl_IsChart (x0 : (List (Int × Int))) : Option Bool :=
  Option.bind (F_impl_within (List.length x0 : Int) 1 12) fun u4 =>
  (if (!u4) = true then some false else F_impl_IsChart_L1 x0 FU (0))
def F_impl_areCharts_L2 (x1 : (List Int)) : Nat → Int → Option Bool
  | 0, _ => none
  | m + 1, y57 => (if (decide (y57 < (List.length x1 : Int))) = true then Option.bind (idx x1 y57) fun u66 =>
  Option.bind (F_impl_within u66 1 64) fun u70 =>
  (if (!u70) = true then some false else (F_impl_areCharts_L2 x1 m) ((w64 (y57 + 1)))) else some true)
def F_impl_areCharts_L1 (x0 : (List (List (Int × Int)))) (x1 : (List Int)) : Nat → Int → Option Bool
  | 0, _ => none
  | m + 1, y17 => (if (decide (y17 < (List.length x0 : Int))) = true then Option.bind (idx x0 y17) fun u26 =>
  jK1 (fun (y35 : Bool) => (if y35 = true then some false else (F_impl_areCharts_L1 x0 x1 m) ((w64 (y17 + 1))))) (fun k36 => Option.bind (F_impl_IsChart u26) fun u40 =>
  (if (!u40) = true then k36 (true) else Option.bind (idx x0 0) fun u47 =>
  k36 (((List.length u26 : Int) != (List.length u47 : Int))))) else F_impl_areCharts_L2 x1 FU (0))
def F_impl_areCharts (x0 : (List (List (Int × Int)))) (x1 : (List Int)) : Option Bool :=
  jK1 (fun (y7 : Bool) => (if y7 = true then some false else F_impl_areCharts_L1 x0 x1 FU (0))) (fun k8 => Option.bind (F_impl_within (List.length x0 : Int) 1 9) fun u79 =>
  (if (!u79) = true then k8 (true) else k8 (((List.length x1 : Int) != (w64 ((List.length x0 : Int) - 1))))))
def F_impl_isLeast (x0 : Int) : Option Bool :=
  Option.bind (F_impl_within x0 0 80) fun u3 =>
  some u3
def F_impl_IsShow (x0 : ((List (List (Int × Int))) × (List Int) × Int × Int)) : Option Bool :=
  jK1 (fun (y11 : Bool) => some y11) (fun k12 => Option.bind (F_impl_within (List.length x0.1 : Int) 2 8) fun u14 =>
  (if u14 = true then Option.bind (F_impl_areCharts x0.1 x0.2.1) fun u21 =>
  (if u21 = true then Option.bind (F_impl_isLeast x0.2.2.1) fun u28 =>
  (if u28 = true then Option.bind (F_impl_within x0.2.2.2 1 24) fun u35 =>
  k12 (u35) else k12 (false)) else k12 (false)) else k12 (false)))
def F_slices_Equal_impl_Spot_impl_Spot_L1 (x0 : (List (Int × Int))) (x1 : (List (Int × Int))) : Nat → Int → Option Bool
  | 0, _ => none
  | m + 1, y11 => (if (decide (y11 < (List.length x0 : Int))) = true then Option.bind (idx x0 y11) fun u26 =>
  Option.bind (idx x1 y11) fun u29 =>
  (if (!(eqv_Spot u26 u29)) = true then some false else (F_slices_Equal_impl_Spot_impl_Spot_L1 x0 x1 m) ((w64 (y11 + 1)))) else some true)
def F_slices_Equal_impl_Spot_impl_Spot (x0 : (List (Int × Int))) (x1 : (List (Int × Int))) : Option Bool :=
  (if ((List.length x0 : Int) != (List.length x1 : Int)) = true then some false else F_slices_Equal_impl_Spot_impl_Spot_L1 x0 x1 FU (0))
def F_impl_DifferentCharts_L1 (x0 : ((List (List (Int × Int))) × (List Int) × Int × Int)) (x1 : ((List (List (Int × Int))) × (List Int) × Int × Int)) : Nat → (List Int) → Int → Option ((List Int) × Bool)
  | 0, _, _ => none
  | m + 1, l35, y38 => (if (decide (y38 < (List.length x0.1 : Int))) = true then jK1 (fun (l49 : (List Int)) => (F_impl_DifferentCharts_L1 x0 x1 m) (l49) ((w64 (y38 + 1)))) (fun k52 => Option.bind (idx x0.1 y38) fun u61 =>
  Option.bind (idx x1.1 y38) fun u66 =>
  Option.bind (F_slices_Equal_impl_Spot_impl_Spot u61 u66) fun u71 =>
  (if (!u71) = true then Option.bind (app l35 [y38]) fun u85 =>
  k52 (u85) else k52 (l35))) else some (l35, true))
def F_impl_DifferentCharts (x0 : ((List (List (Int × Int))) × (List Int) × Int × Int)) (x1 : ((List (List (Int × Int))) × (List Int) × Int × Int)) : Option ((List Int) × Bool) :=
  jK1 (fun (y17 : Bool) => (if y17 = true then some ([], false) else F_impl_DifferentCharts_L1 x0 x1 FU ([]) (0))) (fun k18 => Option.bind (F_impl_IsShow x0) fun u98 =>
  (if (!u98) = true then k18 (true) else Option.bind (F_impl_IsShow x1) fun u106 =>
  (if (!u106) = true then k18 (true) else (if ((List.length x0.1 : Int) != (List.length x1.1 : Int)) = true then k18 (true) else Option.bind (idx x0.1 0) fun u115 =>
  Option.bind (idx x1.1 0) fun u120 =>
  k18 (((List.length u115 : Int) != (List.length u120 : Int)))))))
def F_spec_mgSame_L1 (x0 : (List (Int × Int))) (x1 : (List (Int × Int))) : Nat → Int → Option Bool
  | 0, _ => none
  | m + 1, y7 => (if (decide (y7 < (List.length x0 : Int))) = true then Option.bind (idx x0 y7) fun u16 =>
  Option.bind (idx x1 y7) fun u34 =>
  (if (!(eqv_Spot u16 u34)) = true then some false else (F_spec_mgSame_L1 x0 x1 m) ((w64 (y7 + 1)))) else some true)
def F_spec_mgSame (x0 : (List (Int × Int))) (x1 : (List (Int × Int))) : Option Bool :=
  F_spec_mgSame_L1 x0 x1 FU (0)
def F_spec_cpDifferent_L1 (x0 : ((List (List (Int × Int))) × (List Int) × Int × Int)) (x1 : ((List (List (Int × Int))) × (List Int) × Int × Int)) : Nat → (List Int) → Int → Option (List Int)
  | 0, _, _ => none
  | m + 1, l18, y21 => (if (decide (y21 < (List.length x0.1 : Int))) = true then jK1 (fun (l33 : (List Int)) => (F_spec_cpDifferent_L1 x0 x1 m) (l33) ((w64 (y21 + 1)))) (fun k36 => Option.bind (idx x0.1 y21) fun u39 =>
  Option.bind (idx x1.1 y21) fun u45 =>
  Option.bind (F_spec_mgSame u39 u45) fun u50 =>
  (if (!u50) = true then Option.bind (app l18 [y21]) fun u63 =>
  k36 (u63) else k36 (l18))) else some l18)
def F_spec_cpDifferent (x0 : ((List (List (Int × Int))) × (List Int) × Int × Int)) (x1 : ((List (List (Int × Int))) × (List Int) × Int × Int)) : Option (List Int) :=
  F_spec_cpDifferent_L1 x0 x1 FU ([]) (0)
def F_spec_DifferentCharts (x0 : ((List (List (Int × Int))) × (List Int) × Int × Int)) (x1 : ((List (List (Int × Int))) × (List Int) × Int × Int)) : Option ((List Int) × Bool) :=
  jK1 (fun (y17 : Bool) => (if y17 = true then some ([], false) else Option.bind (F_spec_cpDifferent x0 x1) fun u24 =>
  some (u24, true))) (fun k18 => Option.bind (F_spec_swGood x0) fun u37 =>
  (if (!u37) = true then k18 (true) else Option.bind (F_spec_swGood x1) fun u45 =>
  (if (!u45) = true then k18 (true) else (if ((List.length x0.1 : Int) != (List.length x1.1 : Int)) = true then k18 (true) else Option.bind (idx x0.1 0) fun u54 =>
  Option.bind (idx x1.1 0) fun u59 =>
  k18 (((List.length u54 : Int) != (List.length u59 : Int)))))))
def F_slices_Equal_int_int_L1 (x0 : (List Int)) (x1 : (List Int)) : Nat → Int → Option Bool
  | 0, _ => none
  | m + 1, y11 => (if (decide (y11 < (List.length x0 : Int))) = true then Option.bind (idx x0 y11) fun u26 =>
  Option.bind (idx x1 y11) fun u29 =>
  (if (u26 != u29) = true then some false else (F_slices_Equal_int_int_L1 x0 x1 m) ((w64 (y11 + 1)))) else some true)
def F_slices_Equal_int_int (x0 : (List Int)) (x1 : (List Int)) : Option Bool :=
  (if ((List.length x0 : Int) != (List.length x1 : Int)) = true then some false else F_slices_Equal_int_int_L1 x0 x1 FU (0))
def F_impl_SameShows_L1 (x0 : ((List (List (Int × Int))) × (List Int) × Int × Int)) (x1 : ((List (List (Int × Int))) × (List Int) × Int × Int)) : Nat → Int → Option (Bool × Bool)
  | 0, _ => none
  | m + 1, y37 => (if (decide (y37 < (List.length x0.1 : Int))) = true then Option.bind (idx x0.1 y37) fun u52 =>
  Option.bind (idx x1.1 y37) fun u57 =>
  Option.bind (F_slices_Equal_impl_Spot_impl_Spot u52 u57) fun u62 =>
  (if (!u62) = true then some (false, true) else (F_impl_SameShows_L1 x0 x1 m) ((w64 (y37 + 1)))) else some (true, true))
def F_impl_SameShows (x0 : ((List (List (Int × Int))) × (List Int) × Int × Int)) (x1 : ((List (List (Int × Int))) × (List Int) × Int × Int)) : Option (Bool × Bool) :=
  jK1 (fun (y17 : Bool) => (if y17 = true then some (false, false) else jK1 (fun (y27 : Bool) => (if y27 = true then some (false, true) else F_impl_SameShows_L1 x0 x1 FU (0))) (fun k28 => (if ((List.length x0.1 : Int) != (List.length x1.1 : Int)) = true then k28 (true) else Option.bind (F_slices_Equal_int_int x0.2.1 x1.2.1) fun u73 =>
  (if (!u73) = true then k28 (true) else (if (x0.2.2.1 != x1.2.2.1) = true then k28 (true) else k28 ((x0.2.2.2 != x1.2.2.2)))))))) (fun k18 => Option.bind (F_impl_IsShow x0) fun u81 =>
  (if (!u81) = true then k18 (true) else Option.bind (F_impl_IsShow x1) fun u88 =>
  k18 ((!u88))))
def F_spec_l1Same_L1 (x0 : (List Int)) (x1 : (List Int)) : Nat → Int → Option Bool
  | 0, _ => none
  | m + 1, y11 => (if (decide (y11 < (List.length x0 : Int))) = true then Option.bind (idx x0 y11) fun u26 =>
  Option.bind (idx x1 y11) fun u29 =>
  (if (u26 != u29) = true then some false else (F_spec_l1Same_L1 x0 x1 m) ((w64 (y11 + 1)))) else some true)
def F_spec_l1Same (x0 : (List Int)) (x1 : (List Int)) : Option Bool :=
  (if ((List.length x0 : Int) != (List.length x1 : Int)) = true then some false else F_spec_l1Same_L1 x0 x1 FU (0))
def F_spec_SameShows (x0 : ((List (List (Int × Int))) × (List Int) × Int × Int)) (x1 : ((List (List (Int × Int))) × (List Int) × Int × Int)) : Option (Bool × Bool) :=
  jK1 (fun (y17 : Bool) => (if y17 = true then some (false, false) else jK1 (fun (y27 : Bool) => (if y27 = true then some (false, true) else jK1 (fun (y36 : Bool) => some (y36, true)) (fun k37 => Option.bind (F_spec_cpDifferent x0 x1) fun u39 =>
  (if ((List.length u39 : Int) == 0) = true then Option.bind (F_spec_l1Same x0.2.1 x1.2.1) fun u48 =>
  (if u48 = true then (if (x0.2.2.1 == x1.2.2.1) = true then k37 ((x0.2.2.2 == x1.2.2.2)) else k37 (false)) else k37 (false)) else k37 (false))))) (fun k28 => (if ((List.length x0.1 : Int) != (List.length x1.1 : Int)) = true then k28 (true) else Option.bind (idx x0.1 0) fun u62 =>
  Option.bind (idx x1.1 0) fun u67 =>
  k28 (((List.length u62 : Int) != (List.length u67 : Int))))))) (fun k18 => Option.bind (F_spec_swGood x0) fun u72 =>
  (if (!u72) = true then k18 (true) else Option.bind (F_spec_swGood x1) fun u79 =>
  k18 ((!u79))))
def F_spec_DrawWaySums (x0 : (List Int)) : Option ((List (List (Int × Int))) × (List Int) × Int × Int) :=
  Option.bind (F_spec_l1Cur__show__mut__box (x0, 0, 0)) fun u14 =>
  some u14.1
def F_impl_showMoves_L1 (u16 : (List (Int × Int))) (x0 : ((List (List (Int × Int))) × (List Int) × Int × Int)) (x1 : Int) : Nat → (List ((Int × Int) × (Int × Int) × Int)) → Int → Option (List ((Int × Int) × (Int × Int) × Int))
  | 0, _, _ => none
  | m + 1, l24, y27 => (if (decide (y27 < (List.length u16 : Int))) = true then Option.bind (idx u16 y27) fun u36 =>
  Option.bind (idx x0.1 (w64 (x1 + 1))) fun u53 =>
  Option.bind (idx u53 y27) fun u58 =>
  Option.bind (idx x0.2.1 x1) fun u61 =>
  Option.bind (app l24 [(u36, u58, u61)]) fun u75 =>
  (F_impl_showMoves_L1 u16 x0 x1 m) (u75) ((w64 (y27 + 1))) else some l24)
def F_impl_showMoves (x0 : ((List (List (Int × Int))) × (List Int) × Int × Int)) (x1 : Int) : Option (List ((Int × Int) × (Int × Int) × Int)) :=
  Option.bind (idx x0.1 x1) fun u16 =>
  F_impl_showMoves_L1 u16 x0 x1 FU ([]) (0)
def F_impl_squareOf (x0 : (Int × Int)) (x1 : (Int × Int)) : Option Int :=
  some (w64 ((w64 ((w64 (x0.1 - x1.1)) * (w64 (x0.1 - x1.1)))) + (w64 ((w64 (x0.2 - x1.2)) * (w64 (x0.2 - x1.2))))))
def F_impl_waySums_L2 (u38 : (List ((Int × Int) × (Int × Int) × Int))) (nx29 : ((List Int) → Int → Option (List Int))) (y28 : Int) : Nat → (List Int) → Int → Option (List Int)
  | 0, _, _ => none
  | m + 1, l49, y52 => (if (decide (y52 < (List.length u38 : Int))) = true then jK1 (fun (l63 : (List Int)) => (F_impl_waySums_L2 u38 nx29 y28 m) (l63) ((w64 (y52 + 1)))) (fun k66 => Option.bind (idx u38 y52) fun u69 =>
  Option.bind (idx l49 y52) fun u87 =>
  Option.bind (F_impl_squareOf u69.1 u69.2.1) fun u91 =>
  Option.bind (idx l49 y52) fun u99 =>
  k66 ((seti l49 y52 (w64 (u87 + u91))))) else nx29 (l49) ((w64 (y28 + 1))))
def F_impl_waySums_L1 (x0 : ((List (List (Int × Int))) × (List Int) × Int × Int)) : Nat → (List Int) → Int → Option (List Int)
  | 0, _, _ => none
  | m + 1, l25, y28 => (if (decide (y28 < (List.length x0.2.1 : Int))) = true then Option.bind (F_impl_showMoves x0 y28) fun u38 =>
  F_impl_waySums_L2 u38 (F_impl_waySums_L1 x0 m) y28 FU (l25) (0) else some l25)
def F_impl_waySums (x0 : ((List (List (Int × Int))) × (List Int) × Int × Int)) : Option (List Int) :=
  Option.bind (idx x0.1 0) fun u8 =>
  Option.bind (mkL (List.length u8 : Int) 0) fun u13 =>
  F_impl_waySums_L1 x0 FU (u13) (0)
def F_impl_WaySums (x0 : ((List (List (Int × Int))) × (List Int) × Int × Int)) : Option ((List Int) × Bool) :=
  Option.bind (F_impl_IsShow x0) fun u9 =>
  (if (!u9) = true then some ([], false) else Option.bind (F_impl_waySums x0) fun u19 =>
  some (u19, true))
def F_spec_swMoves_L1 (u10 : (List (Int × Int))) (x0 : ((List (List (Int × Int))) × (List Int) × Int × Int)) (x1 : Int) : Nat → (List ((Int × Int) × (Int × Int) × Int)) → Int → Option (List ((Int × Int) × (Int × Int) × Int))
  | 0, _, _ => none
  | m + 1, l18, y21 => (if (decide (y21 < (List.length u10 : Int))) = true then Option.bind (idx u10 y21) fun u31 =>
  Option.bind (idx x0.1 (w64 (x1 + 1))) fun u48 =>
  Option.bind (idx u48 y21) fun u53 =>
  Option.bind (idx x0.2.1 x1) fun u56 =>
  Option.bind (app l18 [(u31, u53, u56)]) fun u70 =>
  (F_spec_swMoves_L1 u10 x0 x1 m) (u70) ((w64 (y21 + 1))) else some l18)
def F_spec_swMoves (x0 : ((List (List (Int × Int))) × (List Int) × Int × Int)) (x1 : Int) : Option (List ((Int × Int) × (Int × Int) × Int)) :=
  Option.bind (idx x0.1 x1) fun u10 =>
  F_spec_swMoves_L1 u10 x0 x1 FU ([]) (0)
def F_spec_stSquare (x0 : (Int × Int)) (x1 : (Int × Int)) : Option Int :=
  some (w64 ((w64 ((w64 (x0.1 - x1.1)) * (w64 (x0.1 - x1.1)))) + (w64 ((w64 (x0.2 - x1.2)) * (w64 (x0.2 - x1.2))))))
def F_spec_cpSquares_L1 (u10 : (List ((Int × Int) × (Int × Int) × Int))) : Nat → (List Int) → Int → Option (List Int)
  | 0, _, _ => none
  | m + 1, l21, y24 => (if (decide (y24 < (List.length u10 : Int))) = true then Option.bind (idx u10 y24) fun u34 =>
  Option.bind (F_spec_stSquare u34.1 u34.2.1) fun u47 =>
  Option.bind (app l21 [u47]) fun u59 =>
  (F_spec_cpSquares_L1 u10 m) (u59) ((w64 (y24 + 1))) else some l21)
def F_spec_cpSquares (x0 : ((List (List (Int × Int))) × (List Int) × Int × Int)) (x1 : Int) : Option (List Int) :=
  Option.bind (F_spec_swMoves x0 x1) fun u10 =>
  F_spec_cpSquares_L1 u10 FU ([]) (0)
def F_spec_cpWays_L2 (u38 : (List Int)) (nx29 : ((List Int) → Int → Option (List Int))) (y28 : Int) : Nat → (List Int) → Int → Option (List Int)
  | 0, _, _ => none
  | m + 1, l49, y52 => (if (decide (y52 < (List.length u38 : Int))) = true then Option.bind (idx u38 y52) fun u61 =>
  Option.bind (idx l49 y52) fun u65 =>
  Option.bind (idx l49 y52) fun u69 =>
  (F_spec_cpWays_L2 u38 nx29 y28 m) ((seti l49 y52 (w64 (u65 + u61)))) ((w64 (y52 + 1))) else nx29 (l49) ((w64 (y28 + 1))))
def F_spec_cpWays_L1 (x0 : ((List (List (Int × Int))) × (List Int) × Int × Int)) : Nat → (List Int) → Int → Option (List Int)
  | 0, _, _ => none
  | m + 1, l25, y28 => (if (decide (y28 < (List.length x0.2.1 : Int))) = true then Option.bind (F_spec_cpSquares x0 y28) fun u38 =>
  F_spec_cpWays_L2 u38 (F_spec_cpWays_L1 x0 m) y28 FU (l25) (0) else some l25)
def F_spec_cpWays (x0 : ((List (List (Int × Int))) × (List Int) × Int × Int)) : Option (List Int) :=
  Option.bind (idx x0.1 0) fun u8 =>
  Option.bind (mkL (List.length u8 : Int) 0) fun u13 =>
  F_spec_cpWays_L1 x0 FU (u13) (0)
def F_spec_WaySums (x0 : ((List (List (Int × Int))) × (List Int) × Int × Int)) : Option ((List Int) × Bool) :=
  Option.bind (F_spec_swGood x0) fun u9 =>
  (if (!u9) = true then some ([], false) else Option.bind (F_spec_cpWays x0) fun u19 =>
  some (u19, true))
def F_impl_WidestPart_L2 (u44 : (List ((Int × Int) × (Int × Int) × Int))) (y24 : Int) (k38 : (Int → Int → Option (Int × Int × Bool))) (y25 : Int) (y23 : Int) : Nat → Int → Int → Option (Int × Int × Bool)
  | 0, _, _ => none
  | m + 1, y55, y56 => (if (decide (y56 < (List.length u44 : Int))) = true then Option.bind (idx u44 y56) fun u65 =>
  Option.bind (F_impl_squareOf u65.1 u65.2.1) fun u78 =>
  (F_impl_WidestPart_L2 u44 y24 k38 y25 y23 m) ((w64 (y55 + u78))) ((w64 (y56 + 1))) else (if (decide (y24 < y55)) = true then k38 (y25) (y55) else k38 (y23) (y24)))
def F_impl_WidestPart_L1 (x0 : ((List (List (Int × Int))) × (List Int) × Int × Int)) : Nat → Int → Int → Int → Option (Int × Int × Bool)
  | 0, _, _, _ => none
  | m + 1, y23, y24, y25 => (if (decide (y25 < (List.length x0.2.1 : Int))) = true then jK2 (fun (y36 : Int) (y37 : Int) => (F_impl_WidestPart_L1 x0 m) (y36) (y37) ((w64 (y25 + 1)))) (fun k38 => Option.bind (F_impl_showMoves x0 y25) fun u44 =>
  F_impl_WidestPart_L2 u44 y24 k38 y25 y23 FU (0) (0)) else some (y23, y24, true))
def F_impl_WidestPart (x0 : ((List (List (Int × Int))) × (List Int) × Int × Int)) : Option (Int × Int × Bool) :=
  Option.bind (F_impl_IsShow x0) fun u9 =>
  (if (!u9) = true then some (0, 0, false) else F_impl_WidestPart_L1 x0 FU (0) ((-1)) (0))
def F_spec_cpSum_L1 (x0 : (List Int)) : Nat → Int → Int → Option Int
  | 0, _, _ => none
  | m + 1, y8, y9 => (if (decide (y9 < (List.length x0 : Int))) = true then Option.bind (idx x0 y9) fun u18 =>
  (F_spec_cpSum_L1 x0 m) ((w64 (y8 + u18))) ((w64 (y9 + 1))) else some y8)
def F_spec_cpSum (x0 : (List Int)) : Option Int :=
  F_spec_cpSum_L1 x0 FU (0) (0)
def F_spec_WidestPart_L1 (x0 : ((List (List (Int × Int))) × (List Int) × Int × Int)) : Nat → Int → Int → Int → Option (Int × Int × Bool)
  | 0, _, _, _ => none
  | m + 1, y23, y24, y25 => (if (decide (y25 < (List.length x0.2.1 : Int))) = true then jK2 (fun (y36 : Int) (y37 : Int) => (F_spec_WidestPart_L1 x0 m) (y36) (y37) ((w64 (y25 + 1)))) (fun k38 => Option.bind (F_spec_cpSquares x0 y25) fun u42 =>
  Option.bind (F_spec_cpSum u42) fun u50 =>
  (if (decide (y24 < u50)) = true then k38 (y25) (u50) else k38 (y23) (y24))) else some (y23, y24, true))
def F_spec_WidestPart (x0 : ((List (List (Int × Int))) × (List Int) × Int × Int)) : Option (Int × Int × Bool) :=
  Option.bind (F_spec_swGood x0) fun u9 =>
  (if (!u9) = true then some (0, 0, false) else F_spec_WidestPart_L1 x0 FU (0) ((-1)) (0))
def F_impl_between (x0 : ((Int × Int) × (Int × Int) × Int)) (x1 : ((Int × Int) × (Int × Int) × Int)) : Option ((Int × Int) × (Int × Int) × Int × Int) :=
  some (((w64 (x0.1.1 - x1.1.1)), (w64 (x0.1.2 - x1.1.2))), ((w64 ((w64 (x0.2.1.1 - x1.2.1.1)) - (w64 (x0.1.1 - x1.1.1)))), (w64 ((w64 (x0.2.1.2 - x1.2.1.2)) - (w64 (x0.1.2 - x1.1.2))))), (w64 ((w64 ((w64 (x0.1.1 - x1.1.1)) * (w64 ((w64 (x0.2.1.1 - x1.2.1.1)) - (w64 (x0.1.1 - x1.1.1)))))) + (w64 ((w64 (x0.1.2 - x1.1.2)) * (w64 ((w64 (x0.2.1.2 - x1.2.1.2)) - (w64 (x0.1.2 - x1.1.2)))))))), (w64 ((w64 ((w64 ((w64 (x0.2.1.1 - x1.2.1.1)) - (w64 (x0.1.1 - x1.1.1)))) * (w64 ((w64 (x0.2.1.1 - x1.2.1.1)) - (w64 (x0.1.1 - x1.1.1)))))) + (w64 ((w64 ((w64 (x0.2.1.2 - x1.2.1.2)) - (w64 (x0.1.2 - x1.1.2)))) * (w64 ((w64 (x0.2.1.2 - x1.2.1.2)) - (w64 (x0.1.2 - x1.1.2)))))))))
def F_impl_gcdOf_L1  : Nat → Int → Int → Option Int
  | 0, _, _ => none
  | m + 1, y7, y8 => (if (y8 != 0) = true then (if y8 = 0 then none else (F_impl_gcdOf_L1 m) (y8) ((Int.tmod y7 y8))) else some y7)
def F_impl_gcdOf (x0 : Int) (x1 : Int) : Option Int :=
  F_impl_gcdOf_L1 FU ((maxI x0 (w64 (0 - x0)))) ((maxI x1 (w64 (0 - x1))))
def F_impl_lowestTerms (x0 : Int) (x1 : Int) : Option (Int × Int) :=
  Option.bind (F_impl_gcdOf x0 x1) fun u3 =>
  (if u3 = 0 then none else (if u3 = 0 then none else some ((w64 (Int.tdiv x0 u3)), (w64 (Int.tdiv x1 u3)))))
def F_impl_leastApart (x0 : ((Int × Int) × (Int × Int) × Int)) (x1 : ((Int × Int) × (Int × Int) × Int)) : Option (Int × Int) :=
  Option.bind (F_impl_between x0 x1) fun u13 =>
  (if (decide (0 ≤ u13.2.2.1)) = true then some ((w64 ((w64 (u13.1.1 * u13.1.1)) + (w64 (u13.1.2 * u13.1.2)))), 1) else (if (decide (u13.2.2.2 ≤ (w64 (0 - u13.2.2.1)))) = true then Option.bind (F_impl_squareOf x0.2.1 x1.2.1) fun u44 =>
  some (u44, 1) else Option.bind (F_impl_lowestTerms (w64 ((w64 ((w64 (u13.1.1 * u13.2.1.2)) - (w64 (u13.1.2 * u13.2.1.1)))) * (w64 ((w64 (u13.1.1 * u13.2.1.2)) - (w64 (u13.1.2 * u13.2.1.1)))))) u13.2.2.2) fun u52 =>
  some u52))
def F_bits_Mul64 (x0 : Int) (x1 : Int) : Option (Int × Int) :=
  some ((wu64 ((wu64 ((wu64 ((shrK .u64 x0 32) * (shrK .u64 x1 32))) + (shrK .u64 (wu64 ((wu64 ((shrK .u64 x0 32) * (andK .u64 x1 4294967295))) + (shrK .u64 (wu64 ((andK .u64 x0 4294967295) * (andK .u64 x1 4294967295))) 32))) 32))) + (shrK .u64 (wu64 ((andK .u64 (wu64 ((wu64 ((shrK .u64 x0 32) * (andK .u64 x1 4294967295))) + (shrK .u64 (wu64 ((andK .u64 x0 4294967295) * (andK .u64 x1 4294967295))) 32))) 4294967295) + (wu64 ((andK .u64 x0 4294967295) * (shrK .u64 x1 32))))) 32))), (wu64 (x0 * x1)))
def F_impl_lessFraction (x0 : Int) (x1 : Int) (x2 : Int) (x3 : Int) : Option Bool :=
  Option.bind (F_bits_Mul64 (wu64 x0) (wu64 x3)) fun u3 =>
  Option.bind (F_bits_Mul64 (wu64 x2) (wu64 x1)) fun u10 =>
  jK1 (fun (y20 : Bool) => some y20) (fun k21 => (if (decide (u3.1 < u10.1)) = true then k21 (true) else (if (u3.1 == u10.1) = true then k21 ((decide (u3.2 < u10.2))) else k21 (false))))
def F_impl_closestMoves_L2 (x0 : (List ((Int × Int) × (Int × Int) × Int))) (y31 : Int) (nx32 : (Int → Int → Int → Int → Int → Option (Int × Int))) : Nat → Int → Int → Int → Int → Int → Option (Int × Int)
  | 0, _, _, _, _, _ => none
  | m + 1, y44, y45, y46, y47, y48 => (if (decide (y48 < (List.length x0 : Int))) = true then jK4 (fun (y59 : Int) (y60 : Int) (y61 : Int) (y62 : Int) => (F_impl_closestMoves_L2 x0 y31 nx32 m) (y59) (y60) (y61) (y62) ((w64 (y48 + 1)))) (fun k63 => Option.bind (idx x0 y31) fun u71 =>
  Option.bind (idx x0 y48) fun u74 =>
  Option.bind (F_impl_leastApart u71 u74) fun u77 =>
  Option.bind (F_impl_lessFraction u77.1 u77.2 y46 y47) fun u85 =>
  (if u85 = true then k63 (y31) (y48) (u77.1) (u77.2) else k63 (y44) (y45) (y46) (y47))) else nx32 (y44) (y45) (y46) (y47) ((w64 (y31 + 1))))
def F_impl_closestMoves_L1 (x0 : (List ((Int × Int) × (Int × Int) × Int))) : Nat → Int → Int → Int → Int → Int → Option (Int × Int)
  | 0, _, _, _, _, _ => none
  | m + 1, y27, y28, y29, y30, y31 => (if (decide (y31 < (List.length x0 : Int))) = true then F_impl_closestMoves_L2 x0 y31 (F_impl_closestMoves_L1 x0 m) FU (y27) (y28) (y29) (y30) ((w64 (y31 + 1))) else some (y27, y28))
def F_impl_closestMoves (x0 : (List ((Int × Int) × (Int × Int) × Int))) : Option (Int × Int) :=
  Option.bind (idx x0 0) fun u9 =>
  Option.bind (idx x0 1) fun u12 =>
  Option.bind (F_impl_leastApart u9 u12) fun u15 =>
  F_impl_closestMoves_L1 x0 FU (0) (1) (u15.1) (u15.2) (0)
def F_impl_LeastOfShow_L1 (x0 : ((List (List (Int × Int))) × (List Int) × Int × Int)) : Nat → Int → Int → Int → Option (Int × Int × Bool)
  | 0, _, _, _ => none
  | m + 1, y23, y24, y25 => (if (decide (y25 < (List.length x0.2.1 : Int))) = true then jK2 (fun (y36 : Int) (y37 : Int) => (F_impl_LeastOfShow_L1 x0 m) (y36) (y37) ((w64 (y25 + 1)))) (fun k38 => Option.bind (F_impl_showMoves x0 y25) fun u42 =>
  Option.bind (F_impl_closestMoves u42) fun u51 =>
  Option.bind (idx u42 u51.1) fun u63 =>
  Option.bind (idx u42 u51.2) fun u67 =>
  Option.bind (F_impl_leastApart u63 u67) fun u71 =>
  jK1 (fun (y82 : Bool) => (if y82 = true then k38 (u71.1) (u71.2) else k38 (y23) (y24))) (fun k83 => (if (y25 == 0) = true then k83 (true) else Option.bind (F_impl_lessFraction u71.1 u71.2 y23 y24) fun u87 =>
  k83 (u87)))) else some (y23, y24, true))
def F_impl_LeastOfShow (x0 : ((List (List (Int × Int))) × (List Int) × Int × Int)) : Option (Int × Int × Bool) :=
  jK1 (fun (y12 : Bool) => (if y12 = true then some (0, 0, false) else F_impl_LeastOfShow_L1 x0 FU (0) (0) (0))) (fun k13 => Option.bind (F_impl_IsShow x0) fun u94 =>
  (if (!u94) = true then k13 (true) else Option.bind (idx x0.1 0) fun u101 =>
  k13 ((decide ((List.length u101 : Int) < 2)))))
def F_spec_mvGood (x0 : ((Int × Int) × (Int × Int) × Int)) : Option Bool :=
  jK1 (fun (y11 : Bool) => some y11) (fun k12 => Option.bind (F_spec_stGood x0.1) fun u14 =>
  (if u14 = true then Option.bind (F_spec_stGood x0.2.1) fun u21 =>
  (if u21 = true then Option.bind (F_spec_l1In x0.2.2 1 64) fun u28 =>
  k12 (u28) else k12 (false)) else k12 (false)))
def F_spec_apGood (x0 : ((Int × Int) × (Int × Int) × Int)) (x1 : ((Int × Int) × (Int × Int) × Int)) : Option Bool :=
  jK1 (fun (y16 : Bool) => some y16) (fun k17 => Option.bind (F_spec_mvGood x0) fun u19 =>
  (if u19 = true then Option.bind (F_spec_mvGood x1) fun u26 =>
  (if u26 = true then k17 ((x0.2.2 == x1.2.2)) else k17 (false)) else k17 (false)))
def F_spec_apList_L1 (x0 : (List ((Int × Int) × (Int × Int) × Int))) : Nat → Int → Option Bool
  | 0, _ => none
  | m + 1, y7 => (if (decide (y7 < (List.length x0 : Int))) = true then Option.bind (idx x0 y7) fun u16 =>
  Option.bind (idx x0 0) fun u34 =>
  Option.bind (F_spec_apGood u34 u16) fun u37 =>
  (if (!u37) = true then some false else (F_spec_apList_L1 x0 m) ((w64 (y7 + 1)))) else Option.bind (F_spec_l1In (List.length x0 : Int) 2 12) fun u47 =>
  some u47)
def F_spec_apList (x0 : (List ((Int × Int) × (Int × Int) × Int))) : Option Bool :=
  F_spec_apList_L1 x0 FU (0)
def F_spec_apEnds (x0 : ((Int × Int) × (Int × Int) × Int)) (x1 : ((Int × Int) × (Int × Int) × Int)) : Option (Int × Int × Int × Int) :=
  some ((w64 (x0.1.1 - x1.1.1)), (w64 (x0.1.2 - x1.1.2)), (w64 (x0.2.1.1 - x1.2.1.1)), (w64 (x0.2.1.2 - x1.2.1.2)))
def F_spec_apInner (x0 : ((Int × Int) × (Int × Int) × Int)) (x1 : ((Int × Int) × (Int × Int) × Int)) : Option (Int × Int) :=
  Option.bind (F_spec_apEnds x0 x1) fun u13 =>
  jK1 (fun (y26 : Bool) => (if y26 = true then some (0, 0) else some ((w64 (0 - (w64 ((w64 (u13.1 * (w64 (u13.2.2.1 - u13.1)))) + (w64 (u13.2.1 * (w64 (u13.2.2.2 - u13.2.1)))))))), (w64 ((w64 ((w64 (u13.2.2.1 - u13.1)) * (w64 (u13.2.2.1 - u13.1)))) + (w64 ((w64 (u13.2.2.2 - u13.2.1)) * (w64 (u13.2.2.2 - u13.2.1))))))))) (fun k27 => (if (decide ((w64 (0 - (w64 ((w64 (u13.1 * (w64 (u13.2.2.1 - u13.1)))) + (w64 (u13.2.1 * (w64 (u13.2.2.2 - u13.2.1)))))))) ≤ 0)) = true then k27 (true) else k27 ((decide ((w64 ((w64 ((w64 (u13.2.2.1 - u13.1)) * (w64 (u13.2.2.1 - u13.1)))) + (w64 ((w64 (u13.2.2.2 - u13.2.1)) * (w64 (u13.2.2.2 - u13.2.1)))))) ≤ (w64 (0 - (w64 ((w64 (u13.1 * (w64 (u13.2.2.1 - u13.1)))) + (w64 (u13.2.1 * (w64 (u13.2.2.2 - u13.2.1)))))))))))))
def F_spec_l1Abs (x0 : Int) : Option Int :=
  Option.bind (F_spec_l1Most x0 (w64 (0 - x0))) fun u3 =>
  some u3
def F_spec_mvPart_L1 (x0 : Int) (x1 : Int) : Nat → Int → Int → Option (Int × Int)
  | 0, _, _ => none
  | m + 1, y13, y14 => (if (decide (0 < y14)) = true then (if y14 = 0 then none else (F_spec_mvPart_L1 x0 x1 m) (y14) ((Int.tmod y13 y14))) else (if y13 = 0 then none else (if y13 = 0 then none else some ((w64 (Int.tdiv x0 y13)), (w64 (Int.tdiv x1 y13))))))
def F_spec_mvPart (x0 : Int) (x1 : Int) : Option (Int × Int) :=
  Option.bind (F_spec_l1Abs x0) fun u3 =>
  F_spec_mvPart_L1 x0 x1 FU (u3) (x1)
def F_spec_apLeast (x0 : ((Int × Int) × (Int × Int) × Int)) (x1 : ((Int × Int) × (Int × Int) × Int)) : Option (Int × Int) :=
  Option.bind (F_spec_apEnds x0 x1) fun u13 =>
  Option.bind (F_spec_apInner x0 x1) fun u21 =>
  (if (decide (0 < u21.2)) = true then Option.bind (F_spec_mvPart (w64 ((w64 ((w64 (u13.1 * u13.2.2.2)) - (w64 (u13.2.1 * u13.2.2.1)))) * (w64 ((w64 (u13.1 * u13.2.2.2)) - (w64 (u13.2.1 * u13.2.2.1)))))) u21.2) fun u31 =>
  some u31 else Option.bind (F_spec_l1Least (w64 ((w64 (u13.1 * u13.1)) + (w64 (u13.2.1 * u13.2.1)))) (w64 ((w64 (u13.2.2.1 * u13.2.2.1)) + (w64 (u13.2.2.2 * u13.2.2.2))))) fun u38 =>
  some (u38, 1))
def F_spec_apLess (x0 : Int) (x1 : Int) (x2 : Int) (x3 : Int) : Option Bool :=
  (if x1 = 0 then none else (if x3 = 0 then none else (if ((w64 (Int.tdiv x0 x1)) != (w64 (Int.tdiv x2 x3))) = true then (if x1 = 0 then none else (if x3 = 0 then none else some (decide ((w64 (Int.tdiv x0 x1)) < (w64 (Int.tdiv x2 x3)))))) else (if x1 = 0 then none else (if x3 = 0 then none else some (decide ((w64 ((Int.tmod x0 x1) * x3)) < (w64 ((Int.tmod x2 x3) * x1)))))))))
def F_spec_apClosest_L2 (x0 : (List ((Int × Int) × (Int × Int) × Int))) (u40 : ((Int × Int) × (Int × Int) × Int)) (y31 : Int) (nx32 : (Int → Int → Int → Int → Int → Option (Int × Int))) : Nat → Int → Int → Int → Int → Int → Option (Int × Int)
  | 0, _, _, _, _, _ => none
  | m + 1, y56, y57, y58, y59, y60 => (if (decide (y60 < (List.length x0 : Int))) = true then jK4 (fun (y71 : Int) (y72 : Int) (y73 : Int) (y74 : Int) => (F_spec_apClosest_L2 x0 u40 y31 nx32 m) (y71) (y72) (y73) (y74) ((w64 (y60 + 1)))) (fun k75 => Option.bind (idx x0 y60) fun u83 =>
  Option.bind (F_spec_apLeast u40 u83) fun u86 =>
  Option.bind (F_spec_apLess u86.1 u86.2 y58 y59) fun u94 =>
  (if u94 = true then k75 (y31) (y60) (u86.1) (u86.2) else k75 (y56) (y57) (y58) (y59))) else nx32 (y56) (y57) (y58) (y59) ((w64 (y31 + 1))))
def F_spec_apClosest_L1 (x0 : (List ((Int × Int) × (Int × Int) × Int))) : Nat → Int → Int → Int → Int → Int → Option (Int × Int)
  | 0, _, _, _, _, _ => none
  | m + 1, y27, y28, y29, y30, y31 => (if (decide (y31 < (List.length x0 : Int))) = true then Option.bind (idx x0 y31) fun u40 =>
  F_spec_apClosest_L2 x0 u40 y31 (F_spec_apClosest_L1 x0 m) FU (y27) (y28) (y29) (y30) ((w64 (y31 + 1))) else some (y27, y28))
def F_spec_apClosest (x0 : (List ((Int × Int) × (Int × Int) × Int))) : Option (Int × Int) :=
  Option.bind (idx x0 0) fun u9 =>
  Option.bind (idx x0 1) fun u12 =>
  Option.bind (F_spec_apLeast u9 u12) fun u15 =>
  F_spec_apClosest_L1 x0 FU (0) (1) (u15.1) (u15.2) (0)
def F_spec_LeastOfAll (x0 : (List ((Int × Int) × (Int × Int) × Int))) : Option (Int × Int × Bool) :=
  Option.bind (F_spec_apList x0) fun u4 =>
  (if (!u4) = true then some (0, 0, false) else Option.bind (F_spec_apClosest x0) fun u13 =>
  Option.bind (idx x0 u13.1) fun u25 =>
  Option.bind (idx x0 u13.2) fun u28 =>
  Option.bind (F_spec_apLeast u25 u28) fun u31 =>
  some (u31.1, u31.2, true))
def F_spec_LeastOfShow_L1 (x0 : ((List (List (Int × Int))) × (List Int) × Int × Int)) : Nat → Int → Int → Int → Option (Int × Int × Bool)
  | 0, _, _, _ => none
  | m + 1, y23, y24, y25 => (if (decide (y25 < (List.length x0.2.1 : Int))) = true then jK2 (fun (y36 : Int) (y37 : Int) => (F_spec_LeastOfShow_L1 x0 m) (y36) (y37) ((w64 (y25 + 1)))) (fun k38 => Option.bind (F_spec_swMoves x0 y25) fun u42 =>
  Option.bind (F_spec_LeastOfAll u42) fun u50 =>
  jK1 (fun (y60 : Bool) => (if y60 = true then k38 (u50.1) (u50.2.1) else k38 (y23) (y24))) (fun k61 => (if (decide (y23 < 0)) = true then k61 (true) else Option.bind (F_spec_apLess u50.1 u50.2.1 y23 y24) fun u66 =>
  k61 (u66)))) else some (y23, y24, true))
def F_spec_LeastOfShow (x0 : ((List (List (Int × Int))) × (List Int) × Int × Int)) : Option (Int × Int × Bool) :=
  jK1 (fun (y12 : Bool) => (if y12 = true then some (0, 0, false) else F_spec_LeastOfShow_L1 x0 FU ((-1)) (1) (0))) (fun k13 => Option.bind (F_spec_swGood x0) fun u73 =>
  (if (!u73) = true then k13 (true) else Option.bind (idx x0.1 0) fun u80 =>
  k13 ((decide ((List.length u80 : Int) < 2)))))
def F_impl_stayApart (x0 : ((Int × Int) × (Int × Int) × Int)) (x1 : ((Int × Int) × (Int × Int) × Int)) (x2 : Int) : Option Bool :=
  Option.bind (F_impl_leastApart x0 x1) fun u13 =>
  some (decide ((w64 ((w64 (x2 * x2)) * u13.2)) ≤ u13.1))
def F_impl_pairsTooClose_L2 (x0 : (List ((Int × Int) × (Int × Int) × Int))) (y17 : Int) (x1 : Int) (nx18 : ((List (List Int)) → Int → Option (List (List Int)))) : Nat → (List (List Int)) → Int → Option (List (List Int))
  | 0, _, _ => none
  | m + 1, l30, y33 => (if (decide (y33 < (List.length x0 : Int))) = true then jK1 (fun (l44 : (List (List Int))) => (F_impl_pairsTooClose_L2 x0 y17 x1 nx18 m) (l44) ((w64 (y33 + 1)))) (fun k47 => Option.bind (idx x0 y17) fun u55 =>
  Option.bind (idx x0 y33) fun u58 =>
  Option.bind (F_impl_stayApart u55 u58 x1) fun u61 =>
  (if (!u61) = true then Option.bind (app l30 [[y17, y33]]) fun u84 =>
  k47 (u84) else k47 (l30))) else nx18 (l30) ((w64 (y17 + 1))))
def F_impl_pairsTooClose_L1 (x0 : (List ((Int × Int) × (Int × Int) × Int))) (x1 : Int) : Nat → (List (List Int)) → Int → Option (List (List Int))
  | 0, _, _ => none
  | m + 1, l14, y17 => (if (decide (y17 < (List.length x0 : Int))) = true then F_impl_pairsTooClose_L2 x0 y17 x1 (F_impl_pairsTooClose_L1 x0 x1 m) FU (l14) ((w64 (y17 + 1))) else some l14)
def F_impl_pairsTooClose (x0 : (List ((Int × Int) × (Int × Int) × Int))) (x1 : Int) : Option (List (List Int)) :=
  F_impl_pairsTooClose_L1 x0 x1 FU ([]) (0)
def F_impl_LeastToKeep_L2 (u34 : (List ((Int × Int) × (Int × Int) × Int))) (nx25 : (Int → Int → Option (Int × Bool))) (y24 : Int) : Nat → Int → Option (Int × Bool)
  | 0, _ => none
  | m + 1, y45 => Option.bind (F_impl_pairsTooClose u34 y45) fun u51 =>
  (if (decide (0 < (List.length u51 : Int))) = true then (F_impl_LeastToKeep_L2 u34 nx25 y24 m) ((w64 (y45 - 1))) else nx25 (y45) ((w64 (y24 + 1))))
def F_impl_LeastToKeep_L1 (x0 : ((List (List (Int × Int))) × (List Int) × Int × Int)) : Nat → Int → Int → Option (Int × Bool)
  | 0, _, _ => none
  | m + 1, y23, y24 => (if (decide (y24 < (List.length x0.2.1 : Int))) = true then Option.bind (F_impl_showMoves x0 y24) fun u34 =>
  F_impl_LeastToKeep_L2 u34 (F_impl_LeastToKeep_L1 x0 m) y24 FU (y23) else some (y23, true))
def F_impl_LeastToKeep (x0 : ((List (List (Int × Int))) × (List Int) × Int × Int)) : Option (Int × Bool) :=
  Option.bind (F_impl_IsShow x0) fun u9 =>
  (if (!u9) = true then some (0, false) else F_impl_LeastToKeep_L1 x0 FU (80) (0))
def F_spec_LeastToKeep_L1 (u27 : (Int × Int × Bool)) : Nat → Int → Option (Int × Bool)
  | 0, _ => none
  | m + 1, y38 => (if (decide (u27.1 < (w64 ((w64 (y38 * y38)) * u27.2.1)))) = true then (F_spec_LeastToKeep_L1 u27 m) ((w64 (y38 - 1))) else some (y38, true))
def F_spec_LeastToKeep (x0 : ((List (List (Int × Int))) × (List Int) × Int × Int)) : Option (Int × Bool) :=
  Option.bind (F_spec_swGood x0) fun u9 =>
  (if (!u9) = true then some (0, false) else Option.bind (idx x0.1 0) fun u19 =>
  (if (decide ((List.length u19 : Int) < 2)) = true then some (80, true) else Option.bind (F_spec_LeastOfShow x0) fun u27 =>
  F_spec_LeastToKeep_L1 u27 FU (80)))
def F_laws_qSpots_L1 (x0 : (List (Int × Int))) (x1 : (List (Int × Int))) : Nat → Int → Option Bool
  | 0, _ => none
  | m + 1, y11 => (if (decide (y11 < (List.length x0 : Int))) = true then Option.bind (idx x0 y11) fun u26 =>
  Option.bind (idx x1 y11) fun u29 =>
  (if (!(eqv_Spot u26 u29)) = true then some false else (F_laws_qSpots_L1 x0 x1 m) ((w64 (y11 + 1)))) else some true)
def F_laws_qSpots (x0 : (List (Int × Int))) (x1 : (List (Int × Int))) : Option Bool :=
  (if ((List.length x0 : Int) != (List.length x1 : Int)) = true then some false else F_laws_qSpots_L1 x0 x1 FU (0))
def F_impl_isPart (x0 : ((List (List (Int × Int))) × (List Int) × Int × Int)) (x1 : Int) : Option Bool :=
  jK1 (fun (y11 : Bool) => some y11) (fun k12 => Option.bind (F_impl_IsShow x0) fun u14 =>
  (if u14 = true then Option.bind (F_impl_within x1 0 (w64 ((List.length x0.2.1 : Int) - 1))) fun u21 =>
  k12 (u21) else k12 (false)))
def F_impl_ShowMoves (x0 : ((List (List (Int × Int))) × (List Int) × Int × Int)) (x1 : Int) : Option ((List ((Int × Int) × (Int × Int) × Int)) × Bool) :=
  Option.bind (F_impl_isPart x0 x1) fun u9 =>
  (if (!u9) = true then some ([], false) else Option.bind (F_impl_showMoves x0 x1) fun u19 =>
  some (u19, true))
def F_impl_SquareOf (x0 : (Int × Int)) (x1 : (Int × Int)) : Option (Int × Bool) :=
  jK1 (fun (y17 : Bool) => (if y17 = true then some (0, false) else Option.bind (F_impl_squareOf x0 x1) fun u23 =>
  some (u23, true))) (fun k18 => Option.bind (F_impl_IsSpot x0) fun u29 =>
  (if (!u29) = true then k18 (true) else Option.bind (F_impl_IsSpot x1) fun u36 =>
  k18 ((!u36))))
def F_impl_ClosePairs (x0 : ((List (List (Int × Int))) × (List Int) × Int × Int)) (x1 : Int) : Option ((List (List Int)) × Bool) :=
  Option.bind (F_impl_isPart x0 x1) fun u9 =>
  (if (!u9) = true then some ([], false) else Option.bind (F_impl_showMoves x0 x1) fun u24 =>
  Option.bind (F_impl_pairsTooClose u24 x0.2.2.1) fun u34 =>
  some (u34, true))
def F_laws_qSum_L1 (x0 : (List Int)) : Nat → Int → Int → Option Int
  | 0, _, _ => none
  | m + 1, y8, y9 => (if (decide (y9 < (List.length x0 : Int))) = true then Option.bind (idx x0 y9) fun u18 =>
  (F_laws_qSum_L1 x0 m) ((w64 (y8 + u18))) ((w64 (y9 + 1))) else some y8)
def F_laws_qSum (x0 : (List Int)) : Option Int :=
  F_laws_qSum_L1 x0 FU (0) (0)
def F_laws_qLess (x0 : Int) (x1 : Int) (x2 : Int) (x3 : Int) : Option Bool :=
  (if x1 = 0 then none else (if x3 = 0 then none else (if ((w64 (Int.tdiv x0 x1)) != (w64 (Int.tdiv x2 x3))) = true then (if x1 = 0 then none else (if x3 = 0 then none else some (decide ((w64 (Int.tdiv x0 x1)) < (w64 (Int.tdiv x2 x3)))))) else (if x1 = 0 then none else (if x3 = 0 then none else some (decide ((w64 ((Int.tmod x0 x1) * x3)) < (w64 ((Int.tmod x2 x3) * x1)))))))))
def F_laws_FnCompared_L3 (u189 : ((List ((Int × Int) × (Int × Int) × Int)) × Bool)) (u72 : ((List (List (Int × Int))) × (List Int) × Int × Int)) (u145 : (Int × Bool)) (y179 : Int) (nx180 : (Int → Int → Int → Option Bool)) (y177 : Int) (y178 : Int) : Nat → Int → Int → Option Bool
  | 0, _, _ => none
  | m + 1, y213, y214 => (if (decide (y214 < (List.length u189.1 : Int))) = true then Option.bind (idx u189.1 y214) fun u223 =>
  Option.bind (F_impl_SquareOf u223.1 u223.2.1) fun u237 =>
  (if (!u237.2) = true then some false else (F_laws_FnCompared_L3 u189 u72 u145 y179 nx180 y177 y178 m) ((w64 (y213 + u237.1))) ((w64 (y214 + 1)))) else jK1 (fun (y252 : Int) => Option.bind (F_impl_ClosePairs (u72.1, u72.2.1, u145.1, u72.2.2.2) y179) fun u256 =>
  jK1 (fun (y268 : Bool) => (if y268 = true then some false else nx180 ((w64 (y177 + y213))) (y252) ((w64 (y179 + 1))))) (fun k269 => (if (!u256.2) = true then k269 (true) else k269 ((decide (0 < (List.length u256.1 : Int))))))) (fun k253 => (if (decide (y178 < y213)) = true then k253 (y213) else k253 (y178))))
def F_laws_FnCompared_L2 (u72 : ((List (List (Int × Int))) × (List Int) × Int × Int)) (u145 : (Int × Bool)) (u124 : (Int × Int × Bool)) (u131 : (Int × Int × Bool)) (u101 : ((List Int) × Bool)) (u117 : (Int × Int × Bool)) : Nat → Int → Int → Int → Option Bool
  | 0, _, _, _ => none
  | m + 1, y177, y178, y179 => (if (decide (y179 < (List.length u72.2.1 : Int))) = true then Option.bind (F_impl_ShowMoves u72 y179) fun u189 =>
  jK1 (fun (y202 : Bool) => (if y202 = true then some false else F_laws_FnCompared_L3 u189 u72 u145 y179 (F_laws_FnCompared_L2 u72 u145 u124 u131 u101 u117 m) y177 y178 FU (0) (0))) (fun k203 => (if (!u189.2) = true then k203 (true) else Option.bind (idx u72.1 0) fun u277 =>
  k203 (((List.length u189.1 : Int) != (List.length u277 : Int))))) else jK1 (fun (y288 : Bool) => (if y288 = true then some false else (if (u145.1 == 80) = true then some true else jK1 (fun (y301 : Bool) => some y301) (fun k302 => (if u124.2.2 = true then Option.bind (F_laws_qLess u131.1 u131.2.1 (w64 ((w64 (u145.1 + 1)) * (w64 (u145.1 + 1)))) 1) fun u305 =>
  k302 (u305) else k302 (false)))))) (fun k289 => Option.bind (F_laws_qSum u101.1) fun u311 =>
  (if (y177 != u311) = true then k289 (true) else (if (y178 != u117.2.1) = true then k289 (true) else Option.bind (idx u72.1 0) fun u319 =>
  (if (u124.2.2 != (decide (1 < (List.length u319 : Int)))) = true then k289 (true) else (if u124.2.2 = true then Option.bind (F_laws_qLess u131.1 u131.2.1 (w64 (u145.1 * u145.1)) 1) fun u327 =>
  k289 (u327) else k289 (false)))))))
def F_laws_FnCompared_L1 (u7 : (((List (List (Int × Int))) × (List Int) × Int × Int) × ((List (List (Int × Int))) × (List Int) × Int × Int))) (u49 : ((List Int) × Bool)) (k165 : (Option Bool)) (u65 : (Bool × Bool)) : Nat → Int → Option Bool
  | 0, _ => none
  | m + 1, y340 => (if (decide (y340 < (List.length u7.1.1 : Int))) = true then Option.bind (idx u7.1.1 y340) fun u355 =>
  Option.bind (idx u7.2.1 y340) fun u361 =>
  Option.bind (F_laws_qHas u49.1 y340) fun u367 =>
  Option.bind (F_laws_qSpots u355 u361) fun u374 =>
  (if (u367 != (!u374)) = true then some false else (F_laws_FnCompared_L1 u7 u49 k165 u65 m) ((w64 (y340 + 1)))) else jK1 (fun (y388 : Bool) => (if y388 = true then some false else Option.bind (F_impl_SameShows u7.1 u7.1) fun u394 =>
  Option.bind (F_impl_SameShows u7.2 u7.1) fun u401 =>
  jK1 (fun (y411 : Bool) => (if y411 = true then some false else k165)) (fun k412 => (if (!u394.2) = true then k412 (true) else (if (!u394.1) = true then k412 (true) else (if (!u401.2) = true then k412 (true) else k412 ((u401.1 != u65.1)))))))) (fun k389 => (if u65.1 = true then k389 ((decide (0 < (List.length u49.1 : Int)))) else k389 (false))))
def F_laws_FnCompared (x0 : (List Int)) (x1 : (List Int)) : Option Bool :=
  (if (decide (1048576 < (w64 ((List.length x0 : Int) + (List.length x1 : Int))))) = true then some true else Option.bind (F_spec_DrawDifferentCharts x0) fun u7 =>
  Option.bind (F_impl_DifferentCharts u7.1 u7.2) fun u40 =>
  Option.bind (F_spec_DifferentCharts u7.1 u7.2) fun u49 =>
  Option.bind (F_impl_SameShows u7.1 u7.2) fun u58 =>
  Option.bind (F_spec_SameShows u7.1 u7.2) fun u65 =>
  Option.bind (F_spec_DrawWaySums x1) fun u72 =>
  Option.bind (F_impl_WaySums u72) fun u92 =>
  Option.bind (F_spec_WaySums u72) fun u101 =>
  Option.bind (F_impl_WidestPart u72) fun u110 =>
  Option.bind (F_spec_WidestPart u72) fun u117 =>
  Option.bind (F_impl_LeastOfShow u72) fun u124 =>
  Option.bind (F_spec_LeastOfShow u72) fun u131 =>
  Option.bind (F_impl_LeastToKeep u72) fun u138 =>
  Option.bind (F_spec_LeastToKeep u72) fun u145 =>
  jK1 (fun (y156 : Bool) => (if y156 = true then some false else jK0 ((if (!u92.2) = true then some true else F_laws_FnCompared_L2 u72 u145 u124 u131 u101 u117 FU (0) (0) (0))) (fun k165 => (if u40.2 = true then F_laws_FnCompared_L1 u7 u49 k165 u65 FU (0) else k165)))) (fun k157 => (if (u40.2 != u49.2) = true then k157 (true) else Option.bind (F_laws_qInts u40.1 u49.1) fun u421 =>
  (if (!u421) = true then k157 (true) else (if (u58.2 != u65.2) = true then k157 (true) else (if (u58.1 != u65.1) = true then k157 (true) else (if (u92.2 != u101.2) = true then k157 (true) else Option.bind (F_laws_qInts u92.1 u101.1) fun u431 =>
  (if (!u431) = true then k157 (true) else (if (u110.2.2 != u117.2.2) = true then k157 (true) else (if (u110.1 != u117.1) = true then k157 (true) else (if (u110.2.1 != u117.2.1) = true then k157 (true) else (if (u124.2.2 != u131.2.2) = true then k157 (true) else (if (u124.1 != u131.1) = true then k157 (true) else (if (u124.2.1 != u131.2.1) = true then k157 (true) else (if (u138.2 != u145.2) = true then k157 (true) else (if (u138.1 != u145.1) = true then k157 (true) else (if u40.2 = true then (if (!u58.2) = true then k157 (true) else (if (u110.2.2 != u92.2) = true then k157 (true) else k157 ((u138.2 != u92.2)))) else (if (u110.2.2 != u92.2) = true then k157 (true) else k157 ((u138.2 != u92.2))))))))))))))))))))
end Go.Proofs.Ytmkignciedkidaa
