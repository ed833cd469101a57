/-
  THE FUNCTIONS of this seat as plain functions, by program (gen.py).
-/
import Derived.Test.YtmkignciedkidaaCore0
set_option linter.unusedSimpArgs false
set_option linter.unusedVariables false
set_option maxRecDepth 100000
set_option maxHeartbeats 1600000
namespace Go.Proofs.Ytmkignciedkidaa
open Go
def eqv_Spot (x y : (Int × Int)) : Bool := (x.1 == y.1) && (x.2 == y.2)
def eqv_Move (x y : ((Int × Int) × (Int × Int) × Int)) : Bool := (x.1.1 == y.1.1) && (x.1.2 == y.1.2) && (x.2.1.1 == y.2.1.1) && (x.2.1.2 == y.2.1.2) && (x.2.2 == y.2.2)
def eqv_Row (x y : (Int × (Int × Int))) : Bool := (x.1 == y.1) && (x.2.1 == y.2.1) && (x.2.2 == y.2.2)
def F_spec_l1In (x0 : Int) (x1 : Int) (x2 : Int) : Option Bool :=
  jK1 (fun (y6 : Bool) => some y6) (fun k7 => (if (decide (x1 ≤ x0)) = true then k7 ((decide (x0 ≤ x2))) else k7 (false)))
def F_spec_l1Cur__next__mut__box (x0 : ((List Int) × Int × Int)) : Option (Int × ((List Int) × Int × Int)) :=
  jK1 (fun (y7 : Int) => (if (decide ((w64 (x0.2.1 + 1)) ≤ (List.length x0.1 : Int))) = true then some (y7, (x0.1, (w64 (x0.2.1 + 1)), (wu64 ((wu64 ((wu64 (x0.2.2 * 6364136223846793005)) + (wu64 y7))) + 1442695040888963407)))) else some ((w64 (andK .u64 (shrK .u64 (wu64 ((wu64 ((wu64 (x0.2.2 * 6364136223846793005)) + (wu64 y7))) + 1442695040888963407)) 40) 255)), (x0.1, (w64 (x0.2.1 + 1)), (wu64 ((wu64 ((wu64 (x0.2.2 * 6364136223846793005)) + (wu64 y7))) + 1442695040888963407)))))) (fun k8 => (if (decide (x0.2.1 < (List.length x0.1 : Int))) = true then Option.bind (idx x0.1 x0.2.1) fun u42 =>
  k8 ((w64 u42)) else k8 (0)))
def F_spec_l1Cur__pick__mut__box (x0 : ((List Int) × Int × Int)) (x1 : Int) : Option (Int × ((List Int) × Int × Int)) :=
  (if (decide (x1 ≤ 1)) = true then some (0, x0) else Option.bind (F_spec_l1Cur__next__mut__box x0) fun u7 =>
  jK3 (fun (y17 : Int) (y18 : Int) (y19 : Int) => (if x1 = 0 then none else some ((Int.tmod y19 x1), (x0.1, y17, y18)))) (fun k20 => (if (decide (200 < x1)) = true then Option.bind (F_spec_l1Cur__next__mut__box (x0.1, u7.2.2.1, u7.2.2.2)) fun u26 =>
  k20 (u26.2.2.1) (u26.2.2.2) ((w64 ((w64 (u7.1 * 256)) + u26.1))) else k20 (u7.2.2.1) (u7.2.2.2) (u7.1))))
def F_spec_l1Cur__one__mut__box (x0 : ((List Int) × Int × Int)) (x1 : Int) : Option (Bool × ((List Int) × Int × Int)) :=
  Option.bind (F_spec_l1Cur__pick__mut__box x0 x1) fun u3 =>
  some ((u3.1 == 0), (x0.1, u3.2.2.1, u3.2.2.2))
def F_spec_l1Cur__among__mut__box (x0 : ((List Int) × Int × Int)) (x1 : (List Int)) : Option (Int × ((List Int) × Int × Int)) :=
  Option.bind (F_spec_l1Cur__pick__mut__box x0 (List.length x1 : Int)) fun u3 =>
  Option.bind (idx x1 u3.1) fun u9 =>
  some (u9, (x0.1, u3.2.2.1, u3.2.2.2))
def F_impl_within (x0 : Int) (x1 : Int) (x2 : Int) : Option Bool :=
  jK1 (fun (y6 : Bool) => some y6) (fun k7 => (if (decide (x1 ≤ x0)) = true then k7 ((decide (x0 ≤ x2))) else k7 (false)))
def F_spec_l1Most (x0 : Int) (x1 : Int) : Option Int :=
  (if (decide (x1 < x0)) = true then some x0 else some x1)
def F_spec_l1Least (x0 : Int) (x1 : Int) : Option Int :=
  (if (decide (x0 < x1)) = true then some x0 else some x1)
def F_spec_chFind_L1 (x0 : (List (Int × Int))) (x1 : (Int × Int)) : Nat → Int → Option Int
  | 0, _ => none
  | m + 1, y12 => (if (decide (y12 < (List.length x0 : Int))) = true then Option.bind (idx x0 y12) fun u21 =>
  (if (eqv_Spot u21 x1) = true then some y12 else (F_spec_chFind_L1 x0 x1 m) ((w64 (y12 + 1)))) else some (-1))
def F_spec_chFind (x0 : (List (Int × Int))) (x1 : (Int × Int)) : Option Int :=
  F_spec_chFind_L1 x0 x1 FU (0)
def F_spec_chOwn (x0 : (List (Int × Int))) : Option (List (Int × Int)) :=
  Option.bind (app [] x0) fun u9 =>
  some u9
def F_spec_stGood (x0 : (Int × Int)) : Option Bool :=
  jK1 (fun (y11 : Bool) => some y11) (fun k12 => Option.bind (F_spec_l1In x0.1 0 1280) fun u14 =>
  (if u14 = true then Option.bind (F_spec_l1In x0.2 0 672) fun u21 =>
  k12 (u21) else k12 (false)))
def F_spec_chGood_L2 (u39 : (List (Int × Int))) (u16 : (Int × Int)) (nx8 : (Int → Option Bool)) (y7 : Int) : Nat → Int → Option Bool
  | 0, _ => none
  | m + 1, y45 => (if (decide (y45 < (List.length u39 : Int))) = true then Option.bind (idx u39 y45) fun u54 =>
  (if (eqv_Spot u16 u54) = true then some false else (F_spec_chGood_L2 u39 u16 nx8 y7 m) ((w64 (y45 + 1)))) else nx8 ((w64 (y7 + 1))))
def F_spec_chGood_L1 (x0 : (List (Int × Int))) : Nat → Int → Option Bool
  | 0, _ => none
  | m + 1, y7 => (if (decide (y7 < (List.length x0 : Int))) = true then Option.bind (idx x0 y7) fun u16 =>
  Option.bind (F_spec_stGood u16) fun u30 =>
  (if (!u30) = true then some false else Option.bind (sl x0 0 y7) fun u39 =>
  F_spec_chGood_L2 u39 u16 (F_spec_chGood_L1 x0 m) y7 FU (0)) else Option.bind (F_spec_l1In (List.length x0 : Int) 1 12) fun u70 =>
  some u70)
def F_spec_chGood (x0 : (List (Int × Int))) : Option Bool :=
  F_spec_chGood_L1 x0 FU (0)
def F_spec_l1All_L1 (x0 : (List Int)) (x1 : Int) (x2 : Int) : Nat → Int → Option Bool
  | 0, _ => none
  | m + 1, y7 => (if (decide (y7 < (List.length x0 : Int))) = true then Option.bind (idx x0 y7) fun u16 =>
  Option.bind (F_spec_l1In u16 x1 x2) fun u20 =>
  (if (!u20) = true then some false else (F_spec_l1All_L1 x0 x1 x2 m) ((w64 (y7 + 1)))) else some true)
def F_spec_l1All (x0 : (List Int)) (x1 : Int) (x2 : Int) : Option Bool :=
  F_spec_l1All_L1 x0 x1 x2 FU (0)
def F_spec_apDistance (x0 : Int) : Option Bool :=
  Option.bind (F_spec_l1In x0 0 80) fun u3 =>
  some u3
def F_spec_mvStep (x0 : Int) : Option Bool :=
  Option.bind (F_spec_l1In x0 1 24) fun u3 =>
  some u3
def F_spec_swGood_L1 (x0 : ((List (List (Int × Int))) × (List Int) × Int × Int)) : Nat → Int → Option Bool
  | 0, _ => none
  | m + 1, y12 => (if (decide (y12 < (List.length x0.1 : Int))) = true then Option.bind (idx x0.1 y12) fun u21 =>
  jK1 (fun (y30 : Bool) => (if y30 = true then some false else (F_spec_swGood_L1 x0 m) ((w64 (y12 + 1))))) (fun k31 => Option.bind (F_spec_chGood u21) fun u35 =>
  (if (!u35) = true then k31 (true) else Option.bind (idx x0.1 0) fun u42 =>
  k31 (((List.length u21 : Int) != (List.length u42 : Int))))) else jK1 (fun (y51 : Bool) => some y51) (fun k52 => Option.bind (F_spec_l1In (List.length x0.1 : Int) 2 8) fun u54 =>
  (if u54 = true then (if ((List.length x0.2.1 : Int) == (w64 ((List.length x0.1 : Int) - 1))) = true then Option.bind (F_spec_l1All x0.2.1 1 64) fun u62 =>
  (if u62 = true then Option.bind (F_spec_apDistance x0.2.2.1) fun u69 =>
  (if u69 = true then Option.bind (F_spec_mvStep x0.2.2.2) fun u76 =>
  k52 (u76) else k52 (false)) else k52 (false)) else k52 (false)) else k52 (false))))
def F_spec_swGood (x0 : ((List (List (Int × Int))) × (List Int) × Int × Int)) : Option Bool :=
  F_spec_swGood_L1 x0 FU (0)
def F_spec_l1Cur__spot__mut__box (x0 : ((List Int) × Int × Int)) : Option ((Int × Int) × ((List Int) × Int × Int)) :=
  Option.bind (F_spec_l1Cur__pick__mut__box x0 161) fun u8 =>
  Option.bind (F_spec_l1Cur__pick__mut__box (x0.1, u8.2.2.1, u8.2.2.2) 1281) fun u14 =>
  Option.bind (F_spec_l1Cur__among__mut__box (x0.1, u14.2.2.1, u14.2.2.2) [0, 80, 160, 640, (w64 (8 * u8.1)), u14.1, 1280]) fun u26 =>
  Option.bind (F_spec_l1Cur__pick__mut__box (x0.1, u26.2.2.1, u26.2.2.2) 85) fun u32 =>
  Option.bind (F_spec_l1Cur__pick__mut__box (x0.1, u32.2.2.1, u32.2.2.2) 673) fun u38 =>
  Option.bind (F_spec_l1Cur__among__mut__box (x0.1, u38.2.2.1, u38.2.2.2) [0, 80, 336, (w64 (8 * u32.1)), u38.1, 672]) fun u50 =>
  some ((u26.1, u50.1), (x0.1, u50.2.2.1, u50.2.2.2))
def F_spec_l1Cur__chartOf__mut__box_L1 (x1 : Int) (x0 : ((List Int) × Int × Int)) : Nat → Int → Int → (List (Int × Int)) → Int → Option ((List (Int × Int)) × ((List Int) × Int × Int))
  | 0, _, _, _, _ => none
  | m + 1, y8, y9, l10, y13 => (if (decide ((List.length l10 : Int) < x1)) = true then jK3 (fun (y25 : Int) (y26 : Int) (l27 : (List (Int × Int))) => (F_spec_l1Cur__chartOf__mut__box_L1 x1 x0 m) (y25) (y26) (l27) ((w64 (y13 + 1)))) (fun k30 => Option.bind (F_spec_l1Cur__spot__mut__box (x0.1, y8, y9)) fun u33 =>
  jK4 (fun (y52 : Int) (y53 : Int) (y54 : Int) (y55 : Int) => jK2 (fun (y62 : Int) (y63 : Int) => Option.bind (F_spec_chFind l10 (y62, y63)) fun u67 =>
  (if (decide (u67 < 0)) = true then Option.bind (app l10 [(y62, y63)]) fun u80 =>
  k30 (y52) (y53) (u80) else k30 (y52) (y53) (l10))) (fun k64 => (if (decide (60 < y13)) = true then k64 ((w64 (3 * (List.length l10 : Int)))) ((w64 (7 + y13))) else k64 (y54) (y55)))) (fun k56 => jK3 (fun (y97 : Int) (y98 : Int) (y99 : Bool) => (if y99 = true then Option.bind (F_spec_l1Cur__pick__mut__box (x0.1, y97, y98) (List.length l10 : Int)) fun u104 =>
  Option.bind (idx l10 u104.1) fun u110 =>
  Option.bind (F_spec_l1Cur__among__mut__box (x0.1, u104.2.2.1, u104.2.2.2) [0, 8, 16, 24, 5]) fun u140 =>
  Option.bind (F_spec_l1Least 1280 (w64 (u110.1 + u140.1))) fun u150 =>
  Option.bind (F_spec_l1Cur__among__mut__box (x0.1, u140.2.2.1, u140.2.2.2) [0, 8, 16, 3]) fun u169 =>
  Option.bind (F_spec_l1Least 672 (w64 (u110.2 + u169.1))) fun u179 =>
  k56 (u169.2.2.1) (u169.2.2.2) (u150) (u179) else k56 (y97) (y98) (u33.1.1) (u33.1.2))) (fun k100 => (if (decide (0 < (List.length l10 : Int))) = true then Option.bind (F_spec_l1Cur__one__mut__box (x0.1, u33.2.2.1, u33.2.2.2) 2) fun u361 =>
  k100 (u361.2.2.1) (u361.2.2.2) (u361.1) else k100 (u33.2.2.1) (u33.2.2.2) (false))))) else some (l10, (x0.1, y8, y9)))
def F_spec_l1Cur__chartOf__mut__box (x0 : ((List Int) × Int × Int)) (x1 : Int) : Option ((List (Int × Int)) × ((List Int) × Int × Int)) :=
  F_spec_l1Cur__chartOf__mut__box_L1 x1 x0 FU (x0.2.1) (x0.2.2) ([]) (0)
def F_spec_l1Cur__chart__mut__box (x0 : ((List Int) × Int × Int)) : Option ((List (Int × Int)) × ((List Int) × Int × Int)) :=
  Option.bind (F_spec_l1Cur__one__mut__box x0 20) fun u4 =>
  (if u4.1 = true then Option.bind (F_spec_l1Cur__chartOf__mut__box (x0.1, u4.2.2.1, u4.2.2.2) 12) fun u12 =>
  some (u12.1, (x0.1, u12.2.2.1, u12.2.2.2)) else Option.bind (F_spec_l1Cur__pick__mut__box (x0.1, u4.2.2.1, u4.2.2.2) 6) fun u21 =>
  Option.bind (F_spec_l1Cur__chartOf__mut__box (x0.1, u21.2.2.1, u21.2.2.2) (w64 (1 + u21.1))) fun u27 =>
  some (u27.1, (x0.1, u27.2.2.1, u27.2.2.2)))
def F_spec_l1Cur__anySpot__mut__box (x0 : ((List Int) × Int × Int)) : Option ((Int × Int) × ((List Int) × Int × Int)) :=
  Option.bind (F_spec_l1Cur__spot__mut__box x0) fun u8 =>
  jK4 (fun (y27 : Int) (y28 : Int) (y29 : Int) (y30 : Int) => some ((y29, y30), (x0.1, y27, y28))) (fun k31 => Option.bind (F_spec_l1Cur__pick__mut__box (x0.1, u8.2.2.1, u8.2.2.2) 30) fun u39 =>
  (if (u39.1 == 0) = true then Option.bind (F_spec_l1Cur__among__mut__box (x0.1, u39.2.2.1, u39.2.2.2) [(-1), 1281]) fun u53 =>
  k31 (u53.2.2.1) (u53.2.2.2) (u53.1) (u8.1.2) else (if (u39.1 == 1) = true then Option.bind (F_spec_l1Cur__among__mut__box (x0.1, u39.2.2.1, u39.2.2.2) [(-1), 673]) fun u71 =>
  k31 (u71.2.2.1) (u71.2.2.2) (u8.1.1) (u71.1) else k31 (u39.2.2.1) (u39.2.2.2) (u8.1.1) (u8.1.2))))
def F_spec_l1Cur__anyChart__mut__box (x0 : ((List Int) × Int × Int)) : Option ((List (Int × Int)) × ((List Int) × Int × Int)) :=
  Option.bind (F_spec_l1Cur__chart__mut__box x0) fun u3 =>
  Option.bind (F_spec_l1Cur__pick__mut__box (x0.1, u3.2.2.1, u3.2.2.2) (List.length u3.1 : Int)) fun u12 =>
  jK3 (fun (y22 : Int) (y23 : Int) (l24 : (List (Int × Int))) => some (l24, (x0.1, y22, y23))) (fun k27 => Option.bind (F_spec_l1Cur__pick__mut__box (x0.1, u12.2.2.1, u12.2.2.2) 30) fun u31 =>
  (if (u31.1 == 0) = true then Option.bind (F_spec_l1Cur__anySpot__mut__box (x0.1, u31.2.2.1, u31.2.2.2)) fun u39 =>
  Option.bind (idx u3.1 u12.1) fun u45 =>
  k27 (u39.2.2.1) (u39.2.2.2) ((seti u3.1 u12.1 u39.1)) else (if (u31.1 == 1) = true then Option.bind (idx u3.1 0) fun u55 =>
  Option.bind (idx u3.1 u12.1) fun u59 =>
  k27 (u31.2.2.1) (u31.2.2.2) ((seti u3.1 u12.1 u55)) else (if (u31.1 == 2) = true then some ([], (x0.1, u31.2.2.1, u31.2.2.2)) else (if (u31.1 == 3) = true then Option.bind (F_spec_l1Cur__chartOf__mut__box (x0.1, u31.2.2.1, u31.2.2.2) 13) fun u74 =>
  some (u74.1, (x0.1, u74.2.2.1, u74.2.2.2)) else k27 (u31.2.2.1) (u31.2.2.2) (u3.1))))))
def F_spec_l1Cur__show__mut__box_L2 (u311 : (List (Int × Int))) (x0 : ((List Int) × Int × Int)) (u101 : (List (Int × Int))) (k125 : (Int → Int → (List (Int × Int)) → Option (((List (List (Int × Int))) × (List Int) × Int × Int) × ((List Int) × Int × Int)))) : Nat → Int → Int → (List (Int × Int)) → Int → Option (((List (List (Int × Int))) × (List Int) × Int × Int) × ((List Int) × Int × Int))
  | 0, _, _, _, _ => none
  | m + 1, y324, y325, l327, y330 => (if (decide (y330 < (List.length u311 : Int))) = true then jK3 (fun (y341 : Int) (y342 : Int) (l344 : (List (Int × Int))) => (F_spec_l1Cur__show__mut__box_L2 u311 x0 u101 k125 m) (y341) (y342) (l344) ((w64 (y330 + 1)))) (fun k347 => Option.bind (idx l327 y330) fun u355 =>
  Option.bind (F_spec_l1Cur__among__mut__box (x0.1, y324, y325) [0, 8, 16, 40]) fun u372 =>
  Option.bind (F_spec_l1Least 1280 (w64 (u355.1 + u372.1))) fun u383 =>
  Option.bind (idx l327 y330) fun u392 =>
  k347 (u372.2.2.1) (u372.2.2.2) ((seti l327 y330 (u383, u392.2)))) else Option.bind (F_spec_chGood l327) fun u479 =>
  (if (!u479) = true then Option.bind (F_spec_chOwn u101) fun u486 =>
  k125 (y324) (y325) (u486) else k125 (y324) (y325) (l327)))
def F_spec_l1Cur__show__mut__box_L1 (y78 : Int) (x0 : ((List Int) × Int × Int)) (u8 : (Int × ((List Int) × Int × Int))) (u50 : (Int × ((List Int) × Int × Int))) (u38 : (Int × ((List Int) × Int × Int))) : Nat → Int → Int → (List (List (Int × Int))) → (List Int) → Option (((List (List (Int × Int))) × (List Int) × Int × Int) × ((List Int) × Int × Int))
  | 0, _, _, _, _ => none
  | m + 1, y85, y86, l87, l90 => (if (decide ((List.length l87 : Int) < y78)) = true then Option.bind (idx l87 (w64 ((List.length l87 : Int) - 1))) fun u101 =>
  Option.bind (F_spec_l1Cur__chartOf__mut__box (x0.1, y85, y86) (w64 (1 + u8.1))) fun u108 =>
  jK3 (fun (y120 : Int) (y121 : Int) (l122 : (List (Int × Int))) => Option.bind (app l87 [l122]) fun u137 =>
  Option.bind (F_spec_l1Cur__among__mut__box (x0.1, y120, y121) [1, 4, 8, 16, 64]) fun u164 =>
  Option.bind (app l90 [u164.1]) fun u183 =>
  (F_spec_l1Cur__show__mut__box_L1 y78 x0 u8 u50 u38 m) (u164.2.2.1) (u164.2.2.2) (u137) (u183)) (fun k125 => Option.bind (F_spec_l1Cur__one__mut__box (x0.1, u108.2.2.1, u108.2.2.2) 3) fun u303 =>
  (if (!u303.1) = true then Option.bind (F_spec_chOwn u101) fun u311 =>
  F_spec_l1Cur__show__mut__box_L2 u311 x0 u101 k125 FU (u303.2.2.1) (u303.2.2.2) (u311) (0) else k125 (u303.2.2.1) (u303.2.2.2) (u108.1))) else jK6 (fun (y498 : Int) (y499 : Int) (l500 : (List (List (Int × Int)))) (l503 : (List Int)) (y506 : Int) (y507 : Int) => some ((l500, l503, y506, y507), (x0.1, y498, y499))) (fun k508 => Option.bind (F_spec_l1Cur__pick__mut__box (x0.1, y85, y86) 36) fun u516 =>
  (if (u516.1 == 0) = true then Option.bind (F_spec_l1Cur__among__mut__box (x0.1, u516.2.2.1, u516.2.2.2) [(-1), 80, 81]) fun u530 =>
  k508 (u530.2.2.1) (u530.2.2.2) (l87) (l90) (u530.1) (u50.1) else (if (u516.1 == 1) = true then Option.bind (F_spec_l1Cur__among__mut__box (x0.1, u516.2.2.1, u516.2.2.2) [0, 1, 25]) fun u548 =>
  k508 (u548.2.2.1) (u548.2.2.2) (l87) (l90) (u38.1) (u548.1) else (if (u516.1 == 2) = true then Option.bind (F_spec_l1Cur__among__mut__box (x0.1, u516.2.2.1, u516.2.2.2) [0, 64, 65]) fun u576 =>
  Option.bind (idx l90 0) fun u585 =>
  k508 (u576.2.2.1) (u576.2.2.2) (l87) ((seti l90 0 u576.1)) (u38.1) (u50.1) else (if (u516.1 == 3) = true then Option.bind (F_spec_l1Cur__anyChart__mut__box (x0.1, u516.2.2.1, u516.2.2.2)) fun u651 =>
  Option.bind (idx l87 (w64 ((List.length l87 : Int) - 1))) fun u663 =>
  k508 (u651.2.2.1) (u651.2.2.2) ((seti l87 (w64 ((List.length l87 : Int) - 1)) u651.1)) (l90) (u38.1) (u50.1) else (if (u516.1 == 4) = true then Option.bind (app l90 [8]) fun u797 =>
  k508 (u516.2.2.1) (u516.2.2.2) (l87) (u797) (u38.1) (u50.1) else (if (u516.1 == 5) = true then Option.bind (sl l87 0 1) fun u811 =>
  k508 (u516.2.2.1) (u516.2.2.2) (u811) ([]) (u38.1) (u50.1) else k508 (u516.2.2.1) (u516.2.2.2) (l87) (l90) (u38.1) (u50.1)))))))))
def F_spec_l1Cur__show__mut__box (x0 : ((List Int) × Int × Int)) : Option (((List (List (Int × Int))) × (List Int) × Int × Int) × ((List Int) × Int × Int)) :=
  Option.bind (F_spec_l1Cur__pick__mut__box x0 4) fun u8 =>
  Option.bind (F_spec_l1Cur__chartOf__mut__box (x0.1, u8.2.2.1, u8.2.2.2) (w64 (1 + u8.1))) fun u15 =>
  Option.bind (F_spec_l1Cur__among__mut__box (x0.1, u15.2.2.1, u15.2.2.2) [0, 1, 8, 8, 16]) fun u38 =>
  Option.bind (F_spec_l1Cur__among__mut__box (x0.1, u38.2.2.1, u38.2.2.2) [8, 12, 24, 24]) fun u50 =>
  Option.bind (F_spec_l1Cur__pick__mut__box (x0.1, u50.2.2.1, u50.2.2.2) 3) fun u66 =>
  jK3 (fun (y76 : Int) (y77 : Int) (y78 : Int) => F_spec_l1Cur__show__mut__box_L1 y78 x0 u8 u50 u38 FU (y76) (y77) ([u15.1]) ([])) (fun k79 => Option.bind (F_spec_l1Cur__one__mut__box (x0.1, u66.2.2.1, u66.2.2.2) 20) fun u832 =>
  (if u832.1 = true then Option.bind (F_spec_l1Cur__pick__mut__box (x0.1, u832.2.2.1, u832.2.2.2) 2) fun u839 =>
  k79 (u839.2.2.1) (u839.2.2.2) ((w64 (8 + u839.1))) else k79 (u832.2.2.1) (u832.2.2.2) ((w64 (2 + u66.1)))))
def F_impl_IsSpot (x0 : (Int × Int)) : Option Bool :=
  jK1 (fun (y11 : Bool) => some y11) (fun k12 => Option.bind (F_impl_within x0.1 0 1280) fun u14 =>
  (if u14 = true then Option.bind (F_impl_within x0.2 0 672) fun u21 =>
  k12 (u21) else k12 (false)))
def F_slices_Index_impl_Spot_impl_Spot_L1 (x0 : (List (Int × Int))) (x1 : (Int × Int)) : Nat → Int → Option Int
  | 0, _ => none
  | m + 1, y12 => (if (decide (y12 < (List.length x0 : Int))) = true then Option.bind (idx x0 y12) fun u27 =>
  (if (eqv_Spot x1 u27) = true then some y12 else (F_slices_Index_impl_Spot_impl_Spot_L1 x0 x1 m) ((w64 (y12 + 1)))) else some (-1))
def F_slices_Index_impl_Spot_impl_Spot (x0 : (List (Int × Int))) (x1 : (Int × Int)) : Option Int :=
  F_slices_Index_impl_Spot_impl_Spot_L1 x0 x1 FU (0)
def F_slices_Contains_impl_Spot_impl_Spot (x0 : (List (Int × Int))) (x1 : (Int × Int)) : Option Bool :=
  Option.bind (F_slices_Index_impl_Spot_impl_Spot x0 x1) fun u8 =>
  some (decide (0 ≤ u8))
def F_impl_IsChart_L1 (x0 : (List (Int × Int))) : Nat → Int → Option Bool
  | 0, _ => none
  | m + 1, y17 => (if (decide (y17 < (List.length x0 : Int))) = true then Option.bind (idx x0 y17) fun u26 =>
  jK1 (fun (y42 : Bool) => (if y42 = true then some false else (F_impl_IsChart_L1 x0 m) ((w64 (y17 + 1))))) (fun k43 => Option.bind (F_impl_IsSpot u26) fun u52 =>
  (if (!u52) = true then k43 (true) else Option.bind (sl x0 0 y17) fun u60 =>
  Option.bind (F_slices_Contains_impl_Spot_impl_Spot u60 u26) fun u63 =>
  k43 (u63))) else some true)
def F_impl_IsChart (x0 : (List (Int × Int))) : Option Bool :=
  Option.bind (F_impl_within (List.length x0 : Int) 1 12) fun u4 =>
  (if (!u4) = true then some false else F_impl_IsChart_L1 x0 FU (0))
def F_impl_areCharts_L2 (x1 : (List Int)) : Nat → Int → Option Bool
  | 0, _ => none
  | m + 1, y57 => (if (decide (y57 < (List.length x1 : Int))) = true then Option.bind (idx x1 y57) fun u66 =>
  Option.bind (F_impl_within u66 1 64) fun u70 =>
  (if (!u70) = true then some false else (F_impl_areCharts_L2 x1 m) ((w64 (y57 + 1)))) else some true)
def F_impl_areCharts_L1 (x0 : (List (List (Int × Int)))) (x1 : (List Int)) : Nat → Int → Option Bool
  | 0, _ => none
  | m + 1, y17 => (if (decide (y17 < (List.length x0 : Int))) = true then Option.bind (idx x0 y17) fun u26 =>
  jK1 (fun (y35 : Bool) => (if y35 = true then some false else (F_impl_areCharts_L1 x0 x1 m) ((w64 (y17 + 1))))) (fun k36 => Option.bind (F_impl_IsChart u26) fun u40 =>
  (if (!u40) = true then k36 (true) else Option.bind (idx x0 0) fun u47 =>
  k36 (((List.length u26 : Int) != (List.length u47 : Int))))) else F_impl_areCharts_L2 x1 FU (0))
def F_impl_areCharts (x0 : (List (List (Int × Int)))) (x1 : (List Int)) : Option Bool :=
  jK1 (fun (y7 : Bool) => (if y7 = true then some false else F_impl_areCharts_L1 x0 x1 FU (0))) (fun k8 => Option.bind (F_impl_within (List.length x0 : Int) 1 9) fun u79 =>
  (if (!u79) = true then k8 (true) else k8 (((List.length x1 : Int) != (w64 ((List.length x0 : Int) - 1))))))
def F_impl_isLeast (x0 : Int) : Option Bool :=
  Option.bind (F_impl_within x0 0 80) fun u3 =>
  some u3
def F_impl_IsShow (x0 : ((List (List (Int × Int))) × (List Int) × Int × Int)) : Option Bool :=
  jK1 (fun (y11 : Bool) => some y11) (fun k12 => Option.bind (F_impl_within (List.length x0.1 : Int) 2 8) fun u14 =>
  (if u14 = true then Option.bind (F_impl_areCharts x0.1 x0.2.1) fun u21 =>
  (if u21 = true then Option.bind (F_impl_isLeast x0.2.2.1) fun u28 =>
  (if u28 = true then Option.bind (F_impl_within x0.2.2.2 1 24) fun u35 =>
  k12 (u35) else k12 (false)) else k12 (false)) else k12 (false)))
def F_impl_showMoves_L1 (u16 : (List (Int × Int))) (x0 : ((List (List (Int × Int))) × (List Int) × Int × Int)) (x1 : Int) : Nat → (List ((Int × Int) × (Int × Int) × Int)) → Int → Option (List ((Int × Int) × (Int × Int) × Int))
  | 0, _, _ => none
  | m + 1, l24, y27 => (if (decide (y27 < (List.length u16 : Int))) = true then Option.bind (idx u16 y27) fun u36 =>
  Option.bind (idx x0.1 (w64 (x1 + 1))) fun u53 =>
  Option.bind (idx u53 y27) fun u58 =>
  Option.bind (idx x0.2.1 x1) fun u61 =>
  Option.bind (app l24 [(u36, u58, u61)]) fun u75 =>
  (F_impl_showMoves_L1 u16 x0 x1 m) (u75) ((w64 (y27 + 1))) else some l24)
def F_impl_showMoves (x0 : ((List (List (Int × Int))) × (List Int) × Int × Int)) (x1 : Int) : Option (List ((Int × Int) × (Int × Int) × Int)) :=
  Option.bind (idx x0.1 x1) fun u16 =>
  F_impl_showMoves_L1 u16 x0 x1 FU ([]) (0)
def F_impl_squareOf (x0 : (Int × Int)) (x1 : (Int × Int)) : Option Int :=
  some (w64 ((w64 ((w64 (x0.1 - x1.1)) * (w64 (x0.1 - x1.1)))) + (w64 ((w64 (x0.2 - x1.2)) * (w64 (x0.2 - x1.2))))))
def F_spec_swMoves_L1 (u10 : (List (Int × Int))) (x0 : ((List (List (Int × Int))) × (List Int) × Int × Int)) (x1 : Int) : Nat → (List ((Int × Int) × (Int × Int) × Int)) → Int → Option (List ((Int × Int) × (Int × Int) × Int))
  | 0, _, _ => none
  | m + 1, l18, y21 => (if (decide (y21 < (List.length u10 : Int))) = true then Option.bind (idx u10 y21) fun u31 =>
  Option.bind (idx x0.1 (w64 (x1 + 1))) fun u48 =>
  Option.bind (idx u48 y21) fun u53 =>
  Option.bind (idx x0.2.1 x1) fun u56 =>
  Option.bind (app l18 [(u31, u53, u56)]) fun u70 =>
  (F_spec_swMoves_L1 u10 x0 x1 m) (u70) ((w64 (y21 + 1))) else some l18)
def F_spec_swMoves (x0 : ((List (List (Int × Int))) × (List Int) × Int × Int)) (x1 : Int) : Option (List ((Int × Int) × (Int × Int) × Int)) :=
  Option.bind (idx x0.1 x1) fun u10 =>
  F_spec_swMoves_L1 u10 x0 x1 FU ([]) (0)
def F_spec_stSquare (x0 : (Int × Int)) (x1 : (Int × Int)) : Option Int :=
  some (w64 ((w64 ((w64 (x0.1 - x1.1)) * (w64 (x0.1 - x1.1)))) + (w64 ((w64 (x0.2 - x1.2)) * (w64 (x0.2 - x1.2))))))
def F_impl_between (x0 : ((Int × Int) × (Int × Int) × Int)) (x1 : ((Int × Int) × (Int × Int) × Int)) : Option ((Int × Int) × (Int × Int) × Int × Int) :=
  some (((w64 (x0.1.1 - x1.1.1)), (w64 (x0.1.2 - x1.1.2))), ((w64 ((w64 (x0.2.1.1 - x1.2.1.1)) - (w64 (x0.1.1 - x1.1.1)))), (w64 ((w64 (x0.2.1.2 - x1.2.1.2)) - (w64 (x0.1.2 - x1.1.2))))), (w64 ((w64 ((w64 (x0.1.1 - x1.1.1)) * (w64 ((w64 (x0.2.1.1 - x1.2.1.1)) - (w64 (x0.1.1 - x1.1.1)))))) + (w64 ((w64 (x0.1.2 - x1.1.2)) * (w64 ((w64 (x0.2.1.2 - x1.2.1.2)) - (w64 (x0.1.2 - x1.1.2)))))))), (w64 ((w64 ((w64 ((w64 (x0.2.1.1 - x1.2.1.1)) - (w64 (x0.1.1 - x1.1.1)))) * (w64 ((w64 (x0.2.1.1 - x1.2.1.1)) - (w64 (x0.1.1 - x1.1.1)))))) + (w64 ((w64 ((w64 (x0.2.1.2 - x1.2.1.2)) - (w64 (x0.1.2 - x1.1.2)))) * (w64 ((w64 (x0.2.1.2 - x1.2.1.2)) - (w64 (x0.1.2 - x1.1.2)))))))))
def F_impl_gcdOf_L1  : Nat → Int → Int → Option Int
  | 0, _, _ => none
  | m + 1, y7, y8 => (if (y8 != 0) = true then (if y8 = 0 then none else (F_impl_gcdOf_L1 m) (y8) ((Int.tmod y7 y8))) else some y7)
def F_impl_gcdOf (x0 : Int) (x1 : Int) : Option Int :=
  F_impl_gcdOf_L1 FU ((maxI x0 (w64 (0 - x0)))) ((maxI x1 (w64 (0 - x1))))
def F_impl_lowestTerms (x0 : Int) (x1 : Int) : Option (Int × Int) :=
  Option.bind (F_impl_gcdOf x0 x1) fun u3 =>
  (if u3 = 0 then none else (if u3 = 0 then none else some ((w64 (Int.tdiv x0 u3)), (w64 (Int.tdiv x1 u3)))))
def F_impl_leastApart (x0 : ((Int × Int) × (Int × Int) × Int)) (x1 : ((Int × Int) × (Int × Int) × Int)) : Option (Int × Int) :=
  Option.bind (F_impl_between x0 x1) fun u13 =>
  (if (decide (0 ≤ u13.2.2.1)) = true then some ((w64 ((w64 (u13.1.1 * u13.1.1)) + (w64 (u13.1.2 * u13.1.2)))), 1) else (if (decide (u13.2.2.2 ≤ (w64 (0 - u13.2.2.1)))) = true then Option.bind (F_impl_squareOf x0.2.1 x1.2.1) fun u44 =>
  some (u44, 1) else Option.bind (F_impl_lowestTerms (w64 ((w64 ((w64 (u13.1.1 * u13.2.1.2)) - (w64 (u13.1.2 * u13.2.1.1)))) * (w64 ((w64 (u13.1.1 * u13.2.1.2)) - (w64 (u13.1.2 * u13.2.1.1)))))) u13.2.2.2) fun u52 =>
  some u52))
def F_spec_apEnds (x0 : ((Int × Int) × (Int × Int) × Int)) (x1 : ((Int × Int) × (Int × Int) × Int)) : Option (Int × Int × Int × Int) :=
  some ((w64 (x0.1.1 - x1.1.1)), (w64 (x0.1.2 - x1.1.2)), (w64 (x0.2.1.1 - x1.2.1.1)), (w64 (x0.2.1.2 - x1.2.1.2)))
def F_spec_apInner (x0 : ((Int × Int) × (Int × Int) × Int)) (x1 : ((Int × Int) × (Int × Int) × Int)) : Option (Int × Int) :=
  Option.bind (F_spec_apEnds x0 x1) fun u13 =>
  jK1 (fun (y26 : Bool) => (if y26 = true then some (0, 0) else some ((w64 (0 - (w64 ((w64 (u13.1 * (w64 (u13.2.2.1 - u13.1)))) + (w64 (u13.2.1 * (w64 (u13.2.2.2 - u13.2.1)))))))), (w64 ((w64 ((w64 (u13.2.2.1 - u13.1)) * (w64 (u13.2.2.1 - u13.1)))) + (w64 ((w64 (u13.2.2.2 - u13.2.1)) * (w64 (u13.2.2.2 - u13.2.1))))))))) (fun k27 => (if (decide ((w64 (0 - (w64 ((w64 (u13.1 * (w64 (u13.2.2.1 - u13.1)))) + (w64 (u13.2.1 * (w64 (u13.2.2.2 - u13.2.1)))))))) ≤ 0)) = true then k27 (true) else k27 ((decide ((w64 ((w64 ((w64 (u13.2.2.1 - u13.1)) * (w64 (u13.2.2.1 - u13.1)))) + (w64 ((w64 (u13.2.2.2 - u13.2.1)) * (w64 (u13.2.2.2 - u13.2.1)))))) ≤ (w64 (0 - (w64 ((w64 (u13.1 * (w64 (u13.2.2.1 - u13.1)))) + (w64 (u13.2.1 * (w64 (u13.2.2.2 - u13.2.1)))))))))))))
def F_spec_l1Abs (x0 : Int) : Option Int :=
  Option.bind (F_spec_l1Most x0 (w64 (0 - x0))) fun u3 =>
  some u3
def F_spec_mvPart_L1 (x0 : Int) (x1 : Int) : Nat → Int → Int → Option (Int × Int)
  | 0, _, _ => none
  | m + 1, y13, y14 => (if (decide (0 < y14)) = true then (if y14 = 0 then none else (F_spec_mvPart_L1 x0 x1 m) (y14) ((Int.tmod y13 y14))) else (if y13 = 0 then none else (if y13 = 0 then none else some ((w64 (Int.tdiv x0 y13)), (w64 (Int.tdiv x1 y13))))))
def F_spec_mvPart (x0 : Int) (x1 : Int) : Option (Int × Int) :=
  Option.bind (F_spec_l1Abs x0) fun u3 =>
  F_spec_mvPart_L1 x0 x1 FU (u3) (x1)
def F_spec_apLeast (x0 : ((Int × Int) × (Int × Int) × Int)) (x1 : ((Int × Int) × (Int × Int) × Int)) : Option (Int × Int) :=
  Option.bind (F_spec_apEnds x0 x1) fun u13 =>
  Option.bind (F_spec_apInner x0 x1) fun u21 =>
  (if (decide (0 < u21.2)) = true then Option.bind (F_spec_mvPart (w64 ((w64 ((w64 (u13.1 * u13.2.2.2)) - (w64 (u13.2.1 * u13.2.2.1)))) * (w64 ((w64 (u13.1 * u13.2.2.2)) - (w64 (u13.2.1 * u13.2.2.1)))))) u21.2) fun u31 =>
  some u31 else Option.bind (F_spec_l1Least (w64 ((w64 (u13.1 * u13.1)) + (w64 (u13.2.1 * u13.2.1)))) (w64 ((w64 (u13.2.2.1 * u13.2.2.1)) + (w64 (u13.2.2.2 * u13.2.2.2))))) fun u38 =>
  some (u38, 1))
def F_impl_stayApart (x0 : ((Int × Int) × (Int × Int) × Int)) (x1 : ((Int × Int) × (Int × Int) × Int)) (x2 : Int) : Option Bool :=
  Option.bind (F_impl_leastApart x0 x1) fun u13 =>
  some (decide ((w64 ((w64 (x2 * x2)) * u13.2)) ≤ u13.1))
def F_impl_pairsTooClose_L2 (x0 : (List ((Int × Int) × (Int × Int) × Int))) (y17 : Int) (x1 : Int) (nx18 : ((List (List Int)) → Int → Option (List (List Int)))) : Nat → (List (List Int)) → Int → Option (List (List Int))
  | 0, _, _ => none
  | m + 1, l30, y33 => (if (decide (y33 < (List.length x0 : Int))) = true then jK1 (fun (l44 : (List (List Int))) => (F_impl_pairsTooClose_L2 x0 y17 x1 nx18 m) (l44) ((w64 (y33 + 1)))) (fun k47 => Option.bind (idx x0 y17) fun u55 =>
  Option.bind (idx x0 y33) fun u58 =>
  Option.bind (F_impl_stayApart u55 u58 x1) fun u61 =>
  (if (!u61) = true then Option.bind (app l30 [[y17, y33]]) fun u84 =>
  k47 (u84) else k47 (l30))) else nx18 (l30) ((w64 (y17 + 1))))
def F_impl_pairsTooClose_L1 (x0 : (List ((Int × Int) × (Int × Int) × Int))) (x1 : Int) : Nat → (List (List Int)) → Int → Option (List (List Int))
  | 0, _, _ => none
  | m + 1, l14, y17 => (if (decide (y17 < (List.length x0 : Int))) = true then F_impl_pairsTooClose_L2 x0 y17 x1 (F_impl_pairsTooClose_L1 x0 x1 m) FU (l14) ((w64 (y17 + 1))) else some l14)
def F_impl_pairsTooClose (x0 : (List ((Int × Int) × (Int × Int) × Int))) (x1 : Int) : Option (List (List Int)) :=
  F_impl_pairsTooClose_L1 x0 x1 FU ([]) (0)
def F_impl_isPart (x0 : ((List (List (Int × Int))) × (List Int) × Int × Int)) (x1 : Int) : Option Bool :=
  jK1 (fun (y11 : Bool) => some y11) (fun k12 => Option.bind (F_impl_IsShow x0) fun u14 =>
  (if u14 = true then Option.bind (F_impl_within x1 0 (w64 ((List.length x0.2.1 : Int) - 1))) fun u21 =>
  k12 (u21) else k12 (false)))
def F_impl_ShowMoves (x0 : ((List (List (Int × Int))) × (List Int) × Int × Int)) (x1 : Int) : Option ((List ((Int × Int) × (Int × Int) × Int)) × Bool) :=
  Option.bind (F_impl_isPart x0 x1) fun u9 =>
  (if (!u9) = true then some ([], false) else Option.bind (F_impl_showMoves x0 x1) fun u19 =>
  some (u19, true))
def F_impl_ClosePairs (x0 : ((List (List (Int × Int))) × (List Int) × Int × Int)) (x1 : Int) : Option ((List (List Int)) × Bool) :=
  Option.bind (F_impl_isPart x0 x1) fun u9 =>
  (if (!u9) = true then some ([], false) else Option.bind (F_impl_showMoves x0 x1) fun u24 =>
  Option.bind (F_impl_pairsTooClose u24 x0.2.2.1) fun u34 =>
  some (u34, true))
def F_laws_big (x0 : (List Int)) (x1 : (List Int)) : Option Bool :=
  jK1 (fun (y6 : Bool) => some y6) (fun k7 => (if (decide (1048576 < (List.length x0 : Int))) = true then k7 (true) else k7 ((decide ((w64 (1048576 - (List.length x0 : Int))) < (List.length x1 : Int))))))
def F_impl_copyInts (x0 : (List Int)) : Option (List Int) :=
  Option.bind (app [] x0) fun u9 =>
  some u9
def F_impl_copyShow_L1 (x0 : ((List (List (Int × Int))) × (List Int) × Int × Int)) (l20 : (List Int)) (y23 : Int) (y24 : Int) : Nat → (List (List (Int × Int))) → Int → Option ((List (List (Int × Int))) × (List Int) × Int × Int)
  | 0, _, _ => none
  | m + 1, l32, y35 => (if (decide (y35 < (List.length x0.1 : Int))) = true then jK1 (fun (l46 : (List (List (Int × Int)))) => (F_impl_copyShow_L1 x0 l20 y23 y24 m) (l46) ((w64 (y35 + 1)))) (fun k49 => Option.bind (idx x0.1 y35) fun u52 =>
  Option.bind (app [] u52) fun u74 =>
  Option.bind (app l32 [u74]) fun u94 =>
  k49 (u94)) else some (l32, l20, y23, y24))
def F_impl_copyShow (x0 : ((List (List (Int × Int))) × (List Int) × Int × Int)) : Option ((List (List (Int × Int))) × (List Int) × Int × Int) :=
  jK4 (fun (l17 : (List (List (Int × Int)))) (l20 : (List Int)) (y23 : Int) (y24 : Int) => F_impl_copyShow_L1 x0 l20 y23 y24 FU (l17) (0)) (fun k25 => Option.bind (F_impl_copyInts x0.2.1) fun u236 =>
  k25 ([]) (u236) (x0.2.2.1) (x0.2.2.2))
def F_laws_pSameSpots_L1 (x0 : (List (Int × Int))) (x1 : (List (Int × Int))) : Nat → Int → Option Bool
  | 0, _ => none
  | m + 1, y11 => (if (decide (y11 < (List.length x0 : Int))) = true then Option.bind (idx x0 y11) fun u26 =>
  Option.bind (idx x1 y11) fun u29 =>
  (if (!(eqv_Spot u26 u29)) = true then some false else (F_laws_pSameSpots_L1 x0 x1 m) ((w64 (y11 + 1)))) else some true)
def F_laws_pSameSpots (x0 : (List (Int × Int))) (x1 : (List (Int × Int))) : Option Bool :=
  (if ((List.length x0 : Int) != (List.length x1 : Int)) = true then some false else F_laws_pSameSpots_L1 x0 x1 FU (0))
def F_laws_pSameCharts_L1 (x0 : (List (List (Int × Int)))) (x1 : (List (List (Int × Int)))) : Nat → Int → Option Bool
  | 0, _ => none
  | m + 1, y11 => (if (decide (y11 < (List.length x0 : Int))) = true then Option.bind (idx x0 y11) fun u26 =>
  Option.bind (idx x1 y11) fun u31 =>
  Option.bind (F_laws_pSameSpots u26 u31) fun u36 =>
  (if (!u36) = true then some false else (F_laws_pSameCharts_L1 x0 x1 m) ((w64 (y11 + 1)))) else some true)
def F_laws_pSameCharts (x0 : (List (List (Int × Int)))) (x1 : (List (List (Int × Int)))) : Option Bool :=
  (if ((List.length x0 : Int) != (List.length x1 : Int)) = true then some false else F_laws_pSameCharts_L1 x0 x1 FU (0))
def F_laws_sameInts_L1 (x0 : (List Int)) (x1 : (List Int)) : Nat → Int → Option Bool
  | 0, _ => none
  | m + 1, y11 => (if (decide (y11 < (List.length x0 : Int))) = true then Option.bind (idx x0 y11) fun u26 =>
  Option.bind (idx x1 y11) fun u29 =>
  (if (u26 != u29) = true then some false else (F_laws_sameInts_L1 x0 x1 m) ((w64 (y11 + 1)))) else some true)
def F_laws_sameInts (x0 : (List Int)) (x1 : (List Int)) : Option Bool :=
  (if ((List.length x0 : Int) != (List.length x1 : Int)) = true then some false else F_laws_sameInts_L1 x0 x1 FU (0))
def F_laws_pSameShow (x0 : ((List (List (Int × Int))) × (List Int) × Int × Int)) (x1 : ((List (List (Int × Int))) × (List Int) × Int × Int)) : Option Bool :=
  jK1 (fun (y16 : Bool) => some y16) (fun k17 => Option.bind (F_laws_pSameCharts x0.1 x1.1) fun u19 =>
  (if u19 = true then Option.bind (F_laws_sameInts x0.2.1 x1.2.1) fun u26 =>
  (if u26 = true then (if (x0.2.2.1 == x1.2.2.1) = true then k17 ((x0.2.2.2 == x1.2.2.2)) else k17 (false)) else k17 (false)) else k17 (false)))
def F_impl_totalCounts_L1 (x0 : ((List (List (Int × Int))) × (List Int) × Int × Int)) : Nat → Int → Int → Option Int
  | 0, _, _ => none
  | m + 1, y13, y14 => (if (decide (y14 < (List.length x0.2.1 : Int))) = true then Option.bind (idx x0.2.1 y14) fun u23 =>
  (F_impl_totalCounts_L1 x0 m) ((w64 (y13 + u23))) ((w64 (y14 + 1))) else some y13)
def F_impl_totalCounts (x0 : ((List (List (Int × Int))) × (List Int) × Int × Int)) : Option Int :=
  F_impl_totalCounts_L1 x0 FU (0) (0)
def F_impl_TotalCounts (x0 : ((List (List (Int × Int))) × (List Int) × Int × Int)) : Option (Int × Bool) :=
  Option.bind (F_impl_IsShow x0) fun u9 =>
  (if (!u9) = true then some (0, false) else Option.bind (F_impl_totalCounts x0) fun u18 =>
  some (u18, true))
def F_spec_l1Cur__partOf__mut__box (x0 : ((List Int) × Int × Int)) (x1 : ((List (List (Int × Int))) × (List Int) × Int × Int)) : Option (Int × ((List Int) × Int × Int)) :=
  Option.bind (F_spec_l1Cur__pick__mut__box x0 16) fun u13 =>
  Option.bind (F_spec_l1Cur__pick__mut__box (x0.1, u13.2.2.1, u13.2.2.2) (w64 ((List.length x1.2.1 : Int) + (w64 (Int.tdiv u13.1 15))))) fun u22 =>
  Option.bind (F_spec_l1Cur__pick__mut__box (x0.1, u22.2.2.1, u22.2.2.2) 24) fun u31 =>
  some ((w64 (u22.1 - (w64 (Int.tdiv u31.1 23)))), (x0.1, u31.2.2.1, u31.2.2.2))
def F_spec_swHas (x0 : ((List (List (Int × Int))) × (List Int) × Int × Int)) (x1 : Int) : Option Bool :=
  jK1 (fun (y11 : Bool) => some y11) (fun k12 => Option.bind (F_spec_swGood x0) fun u14 =>
  (if u14 = true then Option.bind (F_spec_l1In x1 0 (w64 ((List.length x0.2.1 : Int) - 1))) fun u21 =>
  k12 (u21) else k12 (false)))
def F_spec_apStay (x0 : ((Int × Int) × (Int × Int) × Int)) (x1 : ((Int × Int) × (Int × Int) × Int)) (x2 : Int) : Option Bool :=
  Option.bind (F_spec_apLeast x0 x1) fun u13 =>
  some (decide ((w64 ((w64 (x2 * x2)) * u13.2)) ≤ u13.1))
def F_spec_swClose_L2 (u8 : (List ((Int × Int) × (Int × Int) × Int))) (u35 : ((Int × Int) × (Int × Int) × Int)) (x0 : ((List (List (Int × Int))) × (List Int) × Int × Int)) (y25 : Int) (nx26 : ((List (List Int)) → Int → Option (List (List Int)))) : Nat → (List (List Int)) → Int → Option (List (List Int))
  | 0, _, _ => none
  | m + 1, l52, y55 => (if (decide (y55 < (List.length u8 : Int))) = true then jK1 (fun (l66 : (List (List Int))) => (F_spec_swClose_L2 u8 u35 x0 y25 nx26 m) (l66) ((w64 (y55 + 1)))) (fun k69 => Option.bind (idx u8 y55) fun u77 =>
  Option.bind (F_spec_apStay u35 u77 x0.2.2.1) fun u81 =>
  (if (!u81) = true then Option.bind (app l52 [[y25, y55]]) fun u104 =>
  k69 (u104) else k69 (l52))) else nx26 (l52) ((w64 (y25 + 1))))
def F_spec_swClose_L1 (u8 : (List ((Int × Int) × (Int × Int) × Int))) (x0 : ((List (List (Int × Int))) × (List Int) × Int × Int)) : Nat → (List (List Int)) → Int → Option (List (List Int))
  | 0, _, _ => none
  | m + 1, l22, y25 => (if (decide (y25 < (List.length u8 : Int))) = true then Option.bind (idx u8 y25) fun u35 =>
  F_spec_swClose_L2 u8 u35 x0 y25 (F_spec_swClose_L1 u8 x0 m) FU (l22) ((w64 (y25 + 1))) else some l22)
def F_spec_swClose (x0 : ((List (List (Int × Int))) × (List Int) × Int × Int)) (x1 : Int) : Option (List (List Int)) :=
  Option.bind (F_spec_swMoves x0 x1) fun u8 =>
  F_spec_swClose_L1 u8 x0 FU ([]) (0)
def F_spec_ClosePairs (x0 : ((List (List (Int × Int))) × (List Int) × Int × Int)) (x1 : Int) : Option ((List (List Int)) × Bool) :=
  Option.bind (F_spec_swHas x0 x1) fun u9 =>
  (if (!u9) = true then some ([], false) else Option.bind (F_spec_swClose x0 x1) fun u19 =>
  some (u19, true))
def F_laws_sameLists_L1 (x0 : (List (List Int))) (x1 : (List (List Int))) : Nat → Int → Option Bool
  | 0, _ => none
  | m + 1, y11 => (if (decide (y11 < (List.length x0 : Int))) = true then Option.bind (idx x0 y11) fun u26 =>
  Option.bind (idx x1 y11) fun u31 =>
  Option.bind (F_laws_sameInts u26 u31) fun u36 =>
  (if (!u36) = true then some false else (F_laws_sameLists_L1 x0 x1 m) ((w64 (y11 + 1)))) else some true)
def F_laws_sameLists (x0 : (List (List Int))) (x1 : (List (List Int))) : Option Bool :=
  (if ((List.length x0 : Int) != (List.length x1 : Int)) = true then some false else F_laws_sameLists_L1 x0 x1 FU (0))
def F_impl_withinStep (x0 : ((Int × Int) × (Int × Int) × Int)) (x1 : Int) : Option Bool :=
  Option.bind (F_impl_squareOf x0.1 x0.2.1) fun u13 =>
  some (decide (u13 ≤ (w64 ((w64 ((w64 (x1 * x1)) * x0.2.2)) * x0.2.2))))
def F_impl_wideSteps_L1 (u16 : (List ((Int × Int) × (Int × Int) × Int))) (x0 : ((List (List (Int × Int))) × (List Int) × Int × Int)) : Nat → (List Int) → Int → Option (List Int)
  | 0, _, _ => none
  | m + 1, l27, y30 => (if (decide (y30 < (List.length u16 : Int))) = true then jK1 (fun (l41 : (List Int)) => (F_impl_wideSteps_L1 u16 x0 m) (l41) ((w64 (y30 + 1)))) (fun k44 => Option.bind (idx u16 y30) fun u47 =>
  Option.bind (F_impl_withinStep u47 x0.2.2.2) fun u61 =>
  (if (!u61) = true then Option.bind (app l27 [y30]) fun u74 =>
  k44 (u74) else k44 (l27))) else some l27)
def F_impl_wideSteps (x0 : ((List (List (Int × Int))) × (List Int) × Int × Int)) (x1 : Int) : Option (List Int) :=
  Option.bind (F_impl_showMoves x0 x1) fun u16 =>
  F_impl_wideSteps_L1 u16 x0 FU ([]) (0)
def F_impl_WideSteps (x0 : ((List (List (Int × Int))) × (List Int) × Int × Int)) (x1 : Int) : Option ((List Int) × Bool) :=
  Option.bind (F_impl_isPart x0 x1) fun u9 =>
  (if (!u9) = true then some ([], false) else Option.bind (F_impl_wideSteps x0 x1) fun u19 =>
  some (u19, true))
def F_spec_mvWithin (x0 : ((Int × Int) × (Int × Int) × Int)) (x1 : Int) : Option Bool :=
  Option.bind (F_spec_stSquare x0.1 x0.2.1) fun u13 =>
  some (decide (u13 ≤ (w64 ((w64 ((w64 (x1 * x1)) * x0.2.2)) * x0.2.2))))
def F_spec_swWide_L1 (u10 : (List ((Int × Int) × (Int × Int) × Int))) (x0 : ((List (List (Int × Int))) × (List Int) × Int × Int)) : Nat → (List Int) → Int → Option (List Int)
  | 0, _, _ => none
  | m + 1, l21, y24 => (if (decide (y24 < (List.length u10 : Int))) = true then jK1 (fun (l36 : (List Int)) => (F_spec_swWide_L1 u10 x0 m) (l36) ((w64 (y24 + 1)))) (fun k39 => Option.bind (idx u10 y24) fun u42 =>
  Option.bind (F_spec_mvWithin u42 x0.2.2.2) fun u56 =>
  (if (!u56) = true then Option.bind (app l21 [y24]) fun u69 =>
  k39 (u69) else k39 (l21))) else some l21)
def F_spec_swWide (x0 : ((List (List (Int × Int))) × (List Int) × Int × Int)) (x1 : Int) : Option (List Int) :=
  Option.bind (F_spec_swMoves x0 x1) fun u10 =>
  F_spec_swWide_L1 u10 x0 FU ([]) (0)
def F_spec_WideSteps (x0 : ((List (List (Int × Int))) × (List Int) × Int × Int)) (x1 : Int) : Option ((List Int) × Bool) :=
  Option.bind (F_spec_swHas x0 x1) fun u9 =>
  (if (!u9) = true then some ([], false) else Option.bind (F_spec_swWide x0 x1) fun u19 =>
  some (u19, true))
def F_laws_pIn_L1 (x0 : (List Int)) (x1 : Int) : Nat → Int → Option Bool
  | 0, _ => none
  | m + 1, y7 => (if (decide (y7 < (List.length x0 : Int))) = true then Option.bind (idx x0 y7) fun u16 =>
  (if (u16 == x1) = true then some true else (F_laws_pIn_L1 x0 x1 m) ((w64 (y7 + 1)))) else some false)
def F_laws_pIn (x0 : (List Int)) (x1 : Int) : Option Bool :=
  F_laws_pIn_L1 x0 x1 FU (0)
def F_spec_DrawIsShow (x0 : (List Int)) : Option ((List (List (Int × Int))) × (List Int) × Int × Int) :=
  Option.bind (F_spec_l1Cur__show__mut__box (x0, 0, 0)) fun u14 =>
  some u14.1
def F_spec_DrawPublishSheets (x0 : (List Int)) : Option ((List (List (Int × Int))) × (List Int) × Int × Int) :=
  Option.bind (F_spec_DrawIsShow x0) fun u8 =>
  some u8
def F_impl_unsafParts_L1 (x0 : ((List (List (Int × Int))) × (List Int) × Int × Int)) : Nat → (List Int) → Int → Option (List Int)
  | 0, _, _ => none
  | m + 1, l19, y22 => (if (decide (y22 < (List.length x0.2.1 : Int))) = true then jK1 (fun (l33 : (List Int)) => (F_impl_unsafParts_L1 x0 m) (l33) ((w64 (y22 + 1)))) (fun k36 => jK1 (fun (y43 : Bool) => (if y43 = true then Option.bind (app l19 [y22]) fun u53 =>
  k36 (u53) else k36 (l19))) (fun k44 => Option.bind (F_impl_wideSteps x0 y22) fun u65 =>
  (if (decide (0 < (List.length u65 : Int))) = true then k44 (true) else Option.bind (F_impl_showMoves x0 y22) fun u76 =>
  Option.bind (F_impl_pairsTooClose u76 x0.2.2.1) fun u86 =>
  k44 ((decide (0 < (List.length u86 : Int))))))) else some l19)
def F_impl_unsafParts (x0 : ((List (List (Int × Int))) × (List Int) × Int × Int)) : Option (List Int) :=
  F_impl_unsafParts_L1 x0 FU ([]) (0)
def F_impl_sheetOf_L1 (x1 : (List Int)) (x0 : (List (List (Int × Int)))) (x2 : Int) (u13 : (Int × Int)) : Nat → (List (Int × (Int × Int))) → Int → Option (Int × (Int × Int) × (List (Int × (Int × Int))))
  | 0, _, _ => none
  | m + 1, l36, y39 => (if (decide (y39 < (List.length x1 : Int))) = true then jK1 (fun (l50 : (List (Int × (Int × Int)))) => (F_impl_sheetOf_L1 x1 x0 x2 u13 m) (l50) ((w64 (y39 + 1)))) (fun k53 => Option.bind (idx x1 y39) fun u56 =>
  Option.bind (idx x0 (w64 (y39 + 1))) fun u64 =>
  Option.bind (idx u64 x2) fun u69 =>
  Option.bind (app l36 [(u56, u69)]) fun u83 =>
  k53 (u83)) else some (x2, u13, l36))
def F_impl_sheetOf (x0 : (List (List (Int × Int)))) (x1 : (List Int)) (x2 : Int) : Option (Int × (Int × Int) × (List (Int × (Int × Int)))) :=
  Option.bind (idx x0 0) fun u8 =>
  Option.bind (idx u8 x2) fun u13 =>
  F_impl_sheetOf_L1 x1 x0 x2 u13 FU ([]) (0)
def F_impl_PublishSheets_L1 (u27 : (List (Int × Int))) (x0 : ((List (List (Int × Int))) × (List Int) × Int × Int)) : Nat → (List (Int × (Int × Int) × (List (Int × (Int × Int))))) → Int → Option ((List (Int × (Int × Int) × (List (Int × (Int × Int))))) × Bool)
  | 0, _, _ => none
  | m + 1, l35, y38 => (if (decide (y38 < (List.length u27 : Int))) = true then Option.bind (F_impl_sheetOf x0.1 x0.2.1 y38) fun u47 =>
  Option.bind (app l35 [u47]) fun u64 =>
  (F_impl_PublishSheets_L1 u27 x0 m) (u64) ((w64 (y38 + 1))) else some (l35, true))
def F_impl_PublishSheets (x0 : ((List (List (Int × Int))) × (List Int) × Int × Int)) : Option ((List (Int × (Int × Int) × (List (Int × (Int × Int))))) × Bool) :=
  jK1 (fun (y12 : Bool) => (if y12 = true then some ([], false) else Option.bind (idx x0.1 0) fun u27 =>
  F_impl_PublishSheets_L1 u27 x0 FU ([]) (0))) (fun k13 => Option.bind (F_impl_IsShow x0) fun u72 =>
  (if (!u72) = true then k13 (true) else Option.bind (F_impl_unsafParts x0) fun u79 =>
  k13 ((decide (0 < (List.length u79 : Int))))))
def F_spec_swUnsafe_L1 (x0 : ((List (List (Int × Int))) × (List Int) × Int × Int)) : Nat → (List Int) → Int → Option (List Int)
  | 0, _, _ => none
  | m + 1, l13, y16 => (if (decide (y16 < (List.length x0.2.1 : Int))) = true then jK1 (fun (l28 : (List Int)) => (F_spec_swUnsafe_L1 x0 m) (l28) ((w64 (y16 + 1)))) (fun k31 => Option.bind (F_spec_swClose x0 y16) fun u40 =>
  Option.bind (F_spec_swWide x0 y16) fun u50 =>
  (if (decide (0 < (w64 ((List.length u40 : Int) + (List.length u50 : Int))))) = true then Option.bind (app l13 [y16]) fun u67 =>
  k31 (u67) else k31 (l13))) else some l13)
def F_spec_swUnsafe (x0 : ((List (List (Int × Int))) × (List Int) × Int × Int)) : Option (List Int) :=
  F_spec_swUnsafe_L1 x0 FU ([]) (0)
def F_spec_shOf_L1 (x1 : (List Int)) (x0 : (List (List (Int × Int)))) (x2 : Int) (u13 : (Int × Int)) : Nat → (List (Int × (Int × Int))) → Int → Option (Int × (Int × Int) × (List (Int × (Int × Int))))
  | 0, _, _ => none
  | m + 1, l30, y33 => (if (decide (y33 < (List.length x1 : Int))) = true then jK1 (fun (l45 : (List (Int × (Int × Int)))) => (F_spec_shOf_L1 x1 x0 x2 u13 m) (l45) ((w64 (y33 + 1)))) (fun k48 => Option.bind (idx x1 y33) fun u51 =>
  Option.bind (idx x0 (w64 (y33 + 1))) fun u59 =>
  Option.bind (idx u59 x2) fun u64 =>
  Option.bind (app l30 [(u51, u64)]) fun u78 =>
  k48 (u78)) else some (x2, u13, l30))
def F_spec_shOf (x0 : (List (List (Int × Int)))) (x1 : (List Int)) (x2 : Int) : Option (Int × (Int × Int) × (List (Int × (Int × Int)))) :=
  Option.bind (idx x0 0) fun u8 =>
  Option.bind (idx u8 x2) fun u13 =>
  F_spec_shOf_L1 x1 x0 x2 u13 FU ([]) (0)
def F_spec_PublishSheets_L1 (u21 : (List (Int × Int))) (x0 : ((List (List (Int × Int))) × (List Int) × Int × Int)) : Nat → (List (Int × (Int × Int) × (List (Int × (Int × Int))))) → Int → Option ((List (Int × (Int × Int) × (List (Int × (Int × Int))))) × Bool)
  | 0, _, _ => none
  | m + 1, l29, y32 => (if (decide (y32 < (List.length u21 : Int))) = true then Option.bind (F_spec_shOf x0.1 x0.2.1 y32) fun u42 =>
  Option.bind (app l29 [u42]) fun u59 =>
  (F_spec_PublishSheets_L1 u21 x0 m) (u59) ((w64 (y32 + 1))) else some (l29, true))
def F_spec_PublishSheets (x0 : ((List (List (Int × Int))) × (List Int) × Int × Int)) : Option ((List (Int × (Int × Int) × (List (Int × (Int × Int))))) × Bool) :=
  jK1 (fun (y12 : Bool) => (if y12 = true then some ([], false) else Option.bind (idx x0.1 0) fun u21 =>
  F_spec_PublishSheets_L1 u21 x0 FU ([]) (0))) (fun k13 => Option.bind (F_spec_swGood x0) fun u67 =>
  (if (!u67) = true then k13 (true) else Option.bind (F_spec_swUnsafe x0) fun u74 =>
  k13 ((decide (0 < (List.length u74 : Int))))))
def F_impl_UnsafeParts (x0 : ((List (List (Int × Int))) × (List Int) × Int × Int)) : Option ((List Int) × Bool) :=
  Option.bind (F_impl_IsShow x0) fun u9 =>
  (if (!u9) = true then some ([], false) else Option.bind (F_impl_unsafParts x0) fun u19 =>
  some (u19, true))
def F_spec_UnsafeParts (x0 : ((List (List (Int × Int))) × (List Int) × Int × Int)) : Option ((List Int) × Bool) :=
  Option.bind (F_spec_swGood x0) fun u9 =>
  (if (!u9) = true then some ([], false) else Option.bind (F_spec_swUnsafe x0) fun u19 =>
  some (u19, true))
def F_impl_CanPublish (x0 : ((List (List (Int × Int))) × (List Int) × Int × Int)) : Option (Bool × Bool) :=
  Option.bind (F_impl_IsShow x0) fun u9 =>
  (if (!u9) = true then some (false, false) else Option.bind (F_impl_unsafParts x0) fun u18 =>
  some (((List.length u18 : Int) == 0), true))
def F_spec_CanPublish (x0 : ((List (List (Int × Int))) × (List Int) × Int × Int)) : Option (Bool × Bool) :=
  Option.bind (F_spec_swGood x0) fun u9 =>
  (if (!u9) = true then some (false, false) else Option.bind (F_spec_swUnsafe x0) fun u18 =>
  some (((List.length u18 : Int) == 0), true))
def F_spec_swTotal_L1 (x0 : ((List (List (Int × Int))) × (List Int) × Int × Int)) : Nat → Int → Int → Option Int
  | 0, _, _ => none
  | m + 1, y13, y14 => (if (decide (y14 < (List.length x0.2.1 : Int))) = true then Option.bind (idx x0.2.1 y14) fun u23 =>
  (F_spec_swTotal_L1 x0 m) ((w64 (y13 + u23))) ((w64 (y14 + 1))) else some y13)
def F_spec_swTotal (x0 : ((List (List (Int × Int))) × (List Int) × Int × Int)) : Option Int :=
  F_spec_swTotal_L1 x0 FU (0) (0)
def F_spec_TotalCounts (x0 : ((List (List (Int × Int))) × (List Int) × Int × Int)) : Option (Int × Bool) :=
  Option.bind (F_spec_swGood x0) fun u9 =>
  (if (!u9) = true then some (0, false) else Option.bind (F_spec_swTotal x0) fun u18 =>
  some (u18, true))
def F_slices_Reverse_impl_Spot_impl_Spot__mut__raw_L1  : Nat → (List RawCell) → Int → Int → Option (List RawCell)
  | 0, _, _, _ => none
  | m + 1, l5, y6, y7 => (if (decide (y6 < y7)) = true then jK1 (fun (l18 : (List RawCell)) => (F_slices_Reverse_impl_Spot_impl_Spot__mut__raw_L1 m) (l18) ((w64 (y6 + 1))) ((w64 (y7 - 1)))) (fun k19 => Option.bind (idx l5 y7) fun u26 =>
  Option.bind (idx l5 y6) fun u30 =>
  Option.bind (idx l5 y6) fun u34 =>
  Option.bind (idx (seti l5 y6 u26) y7) fun u44 =>
  k19 ((seti (seti l5 y6 u26) y7 u30))) else some l5)
def F_slices_Reverse_impl_Spot_impl_Spot__mut__raw (x0 : (List RawCell)) : Option (List RawCell) :=
  F_slices_Reverse_impl_Spot_impl_Spot__mut__raw_L1 FU (x0) (0) ((w64 ((List.length x0 : Int) - 1)))
def F_slices_Reverse_int_int__mut_L1  : Nat → (List Int) → Int → Int → Option (List Int)
  | 0, _, _, _ => none
  | m + 1, l5, y6, y7 => (if (decide (y6 < y7)) = true then jK1 (fun (l18 : (List Int)) => (F_slices_Reverse_int_int__mut_L1 m) (l18) ((w64 (y6 + 1))) ((w64 (y7 - 1)))) (fun k19 => Option.bind (idx l5 y7) fun u26 =>
  Option.bind (idx l5 y6) fun u30 =>
  Option.bind (idx l5 y6) fun u34 =>
  Option.bind (idx (seti l5 y6 u26) y7) fun u44 =>
  k19 ((seti (seti l5 y6 u26) y7 u30))) else some l5)
def F_slices_Reverse_int_int__mut (x0 : (List Int)) : Option (List Int) :=
  F_slices_Reverse_int_int__mut_L1 FU (x0) (0) ((w64 ((List.length x0 : Int) - 1)))
def F_impl_ReverseShow (x0 : ((List (List (Int × Int))) × (List Int) × Int × Int)) : Option (((List (List (Int × Int))) × (List Int) × Int × Int) × Bool) :=
  Option.bind (F_impl_IsShow x0) fun u14 =>
  (if (!u14) = true then some (([], [], 0, 0), false) else Option.bind (F_impl_copyShow x0) fun u29 =>
  Option.bind (F_slices_Reverse_int_int__mut u29.2.1) fun u65 =>
  some (((List.reverse u29.1), u65, u29.2.2.1, u29.2.2.2), true))
def F_spec_ReverseShow_L2 (x0 : ((List (List (Int × Int))) × (List Int) × Int × Int)) (l43 : (List (List (Int × Int)))) : Nat → (List Int) → Int → Option (((List (List (Int × Int))) × (List Int) × Int × Int) × Bool)
  | 0, _, _ => none
  | m + 1, l181, y184 => (if (decide (0 ≤ y184)) = true then jK1 (fun (l196 : (List Int)) => (F_spec_ReverseShow_L2 x0 l43 m) (l196) ((w64 (y184 - 1)))) (fun k199 => Option.bind (idx x0.2.1 y184) fun u206 =>
  Option.bind (app l181 [u206]) fun u220 =>
  k199 (u220)) else some ((l43, l181, x0.2.2.1, x0.2.2.2), true))
def F_spec_ReverseShow_L1 (x0 : ((List (List (Int × Int))) × (List Int) × Int × Int)) : Nat → (List (List (Int × Int))) → Int → Option (((List (List (Int × Int))) × (List Int) × Int × Int) × Bool)
  | 0, _, _ => none
  | m + 1, l43, y46 => (if (decide (0 ≤ y46)) = true then jK1 (fun (l58 : (List (List (Int × Int)))) => (F_spec_ReverseShow_L1 x0 m) (l58) ((w64 (y46 - 1)))) (fun k61 => Option.bind (idx x0.1 y46) fun u68 =>
  Option.bind (F_spec_chOwn u68) fun u73 =>
  Option.bind (app l43 [u73]) fun u96 =>
  k61 (u96)) else F_spec_ReverseShow_L2 x0 l43 FU ([]) ((w64 ((List.length x0.2.1 : Int) - 1))))
def F_spec_ReverseShow (x0 : ((List (List (Int × Int))) × (List Int) × Int × Int)) : Option (((List (List (Int × Int))) × (List Int) × Int × Int) × Bool) :=
  Option.bind (F_spec_swGood x0) fun u14 =>
  (if (!u14) = true then some (([], [], 0, 0), false) else F_spec_ReverseShow_L1 x0 FU ([]) ((w64 ((List.length x0.1 : Int) - 1))))
def F_laws_pSameSheet_L1 (x0 : (Int × (Int × Int) × (List (Int × (Int × Int))))) (x1 : (Int × (Int × Int) × (List (Int × (Int × Int))))) : Nat → Int → Option Bool
  | 0, _ => none
  | m + 1, y27 => (if (decide (y27 < (List.length x0.2.2 : Int))) = true then Option.bind (idx x0.2.2 y27) fun u42 =>
  Option.bind (idx x1.2.2 y27) fun u45 =>
  (if (!(eqv_Row u42 u45)) = true then some false else (F_laws_pSameSheet_L1 x0 x1 m) ((w64 (y27 + 1)))) else some true)
def F_laws_pSameSheet (x0 : (Int × (Int × Int) × (List (Int × (Int × Int))))) (x1 : (Int × (Int × Int) × (List (Int × (Int × Int))))) : Option Bool :=
  jK1 (fun (y17 : Bool) => (if y17 = true then some false else F_laws_pSameSheet_L1 x0 x1 FU (0))) (fun k18 => (if (x0.1 != x1.1) = true then k18 (true) else (if (!(eqv_Spot x0.2.1 x1.2.1)) = true then k18 (true) else k18 (((List.length x0.2.2 : Int) != (List.length x1.2.2 : Int))))))
def F_laws_pSameSheets_L1 (x0 : (List (Int × (Int × Int) × (List (Int × (Int × Int)))))) (x1 : (List (Int × (Int × Int) × (List (Int × (Int × Int)))))) : Nat → Int → Option Bool
  | 0, _ => none
  | m + 1, y11 => (if (decide (y11 < (List.length x0 : Int))) = true then Option.bind (idx x0 y11) fun u26 =>
  Option.bind (idx x1 y11) fun u31 =>
  Option.bind (F_laws_pSameSheet u26 u31) fun u36 =>
  (if (!u36) = true then some false else (F_laws_pSameSheets_L1 x0 x1 m) ((w64 (y11 + 1)))) else some true)
def F_laws_pSameSheets (x0 : (List (Int × (Int × Int) × (List (Int × (Int × Int)))))) (x1 : (List (Int × (Int × Int) × (List (Int × (Int × Int)))))) : Option Bool :=
  (if ((List.length x0 : Int) != (List.length x1 : Int)) = true then some false else F_laws_pSameSheets_L1 x0 x1 FU (0))
def F_impl_IsSheet_L1 (x0 : (Int × (Int × Int) × (List (Int × (Int × Int))))) : Nat → Int → Option Bool
  | 0, _ => none
  | m + 1, y22 => (if (decide (y22 < (List.length x0.2.2 : Int))) = true then Option.bind (idx x0.2.2 y22) fun u31 =>
  jK1 (fun (y47 : Bool) => (if y47 = true then some false else (F_impl_IsSheet_L1 x0 m) ((w64 (y22 + 1))))) (fun k48 => Option.bind (F_impl_within u31.1 1 64) fun u52 =>
  (if (!u52) = true then k48 (true) else Option.bind (F_impl_IsSpot u31.2) fun u59 =>
  k48 ((!u59)))) else some true)
def F_impl_IsSheet (x0 : (Int × (Int × Int) × (List (Int × (Int × Int))))) : Option Bool :=
  jK1 (fun (y12 : Bool) => (if y12 = true then some false else F_impl_IsSheet_L1 x0 FU (0))) (fun k13 => Option.bind (F_impl_within x0.1 0 11) fun u66 =>
  (if (!u66) = true then k13 (true) else Option.bind (F_impl_IsSpot x0.2.1) fun u73 =>
  (if (!u73) = true then k13 (true) else k13 ((decide (8 < (List.length x0.2.2 : Int)))))))
def F_impl_ChartsOf_L4 (x0 : (List (Int × (Int × Int) × (List (Int × (Int × Int)))))) (y233 : Int) (u242 : (Int × (Int × Int))) (l227 : (List (List (Int × Int)))) (l230 : (List Int)) (nx234 : ((List (List (Int × Int))) → (List Int) → Int → Option ((List (List (Int × Int))) × (List Int) × Bool))) : Nat → (List (Int × Int)) → Int → Option ((List (List (Int × Int))) × (List Int) × Bool)
  | 0, _, _ => none
  | m + 1, l266, y269 => (if (decide (y269 < (List.length x0 : Int))) = true then Option.bind (idx x0 y269) fun u278 =>
  Option.bind (idx u278.2.2 y233) fun u299 =>
  (if (u299.1 != u242.1) = true then some ([], [], false) else Option.bind (idx u278.2.2 y233) fun u306 =>
  Option.bind (app l266 [u306.2]) fun u315 =>
  (F_impl_ChartsOf_L4 x0 y233 u242 l227 l230 nx234 m) (u315) ((w64 (y269 + 1)))) else Option.bind (app l227 [l266]) fun u332 =>
  Option.bind (app l230 [u242.1]) fun u345 =>
  nx234 (u332) (u345) ((w64 (y233 + 1))))
def F_impl_ChartsOf_L3 (u219 : (Int × (Int × Int) × (List (Int × (Int × Int))))) (x0 : (List (Int × (Int × Int) × (List (Int × (Int × Int)))))) : Nat → (List (List (Int × Int))) → (List Int) → Int → Option ((List (List (Int × Int))) × (List Int) × Bool)
  | 0, _, _, _ => none
  | m + 1, l227, l230, y233 => (if (decide (y233 < (List.length u219.2.2 : Int))) = true then Option.bind (idx u219.2.2 y233) fun u242 =>
  F_impl_ChartsOf_L4 x0 y233 u242 l227 l230 (F_impl_ChartsOf_L3 u219 x0 m) FU ([]) (0) else Option.bind (F_impl_areCharts l227 l230) fun u354 =>
  (if (!u354) = true then some ([], [], false) else some (l227, l230, true)))
def F_impl_ChartsOf_L2 (x0 : (List (Int × (Int × Int) × (List (Int × (Int × Int)))))) : Nat → (List (List (Int × Int))) → Int → Option ((List (List (Int × Int))) × (List Int) × Bool)
  | 0, _, _ => none
  | m + 1, l99, y102 => (if (decide (y102 < (List.length x0 : Int))) = true then jK1 (fun (l113 : (List (List (Int × Int)))) => (F_impl_ChartsOf_L2 x0 m) (l113) ((w64 (y102 + 1)))) (fun k116 => Option.bind (idx x0 y102) fun u119 =>
  Option.bind (idx l99 0) fun u138 =>
  Option.bind (app u138 [u119.2.1]) fun u162 =>
  Option.bind (idx l99 0) fun u171 =>
  k116 ((seti l99 0 u162))) else Option.bind (idx x0 0) fun u219 =>
  F_impl_ChartsOf_L3 u219 x0 FU (l99) ([]) (0))
def F_impl_ChartsOf_L1 (x0 : (List (Int × (Int × Int) × (List (Int × (Int × Int)))))) : Nat → Int → Option ((List (List (Int × Int))) × (List Int) × Bool)
  | 0, _ => none
  | m + 1, y19 => (if (decide (y19 < (List.length x0 : Int))) = true then Option.bind (idx x0 y19) fun u28 =>
  jK1 (fun (y46 : Bool) => (if y46 = true then some ([], [], false) else (F_impl_ChartsOf_L1 x0 m) ((w64 (y19 + 1))))) (fun k47 => Option.bind (F_impl_IsSheet u28) fun u58 =>
  (if (!u58) = true then k47 (true) else (if (u28.1 != y19) = true then k47 (true) else Option.bind (idx x0 0) fun u67 =>
  k47 (((List.length u28.2.2 : Int) != (List.length u67.2.2 : Int)))))) else F_impl_ChartsOf_L2 x0 FU ([[]]) (0))
def F_impl_ChartsOf (x0 : (List (Int × (Int × Int) × (List (Int × (Int × Int)))))) : Option ((List (List (Int × Int))) × (List Int) × Bool) :=
  Option.bind (F_impl_within (List.length x0 : Int) 1 12) fun u4 =>
  (if (!u4) = true then some ([], [], false) else F_impl_ChartsOf_L1 x0 FU (0))
def F_laws_pSum_L1 (x0 : (List Int)) : Nat → Int → Int → Option Int
  | 0, _, _ => none
  | m + 1, y8, y9 => (if (decide (y9 < (List.length x0 : Int))) = true then Option.bind (idx x0 y9) fun u18 =>
  (F_laws_pSum_L1 x0 m) ((w64 (y8 + u18))) ((w64 (y9 + 1))) else some y8)
def F_laws_pSum (x0 : (List Int)) : Option Int :=
  F_laws_pSum_L1 x0 FU (0) (0)
def F_spec_DrawShowMoves (x0 : (List Int)) : Option (((List (List (Int × Int))) × (List Int) × Int × Int) × Int) :=
  Option.bind (F_spec_l1Cur__show__mut__box (x0, 0, 0)) fun u14 =>
  Option.bind (F_spec_l1Cur__partOf__mut__box (x0, u14.2.2.1, u14.2.2.2) u14.1) fun u39 =>
  some (u14.1, u39.1)
def F_spec_ShowMoves (x0 : ((List (List (Int × Int))) × (List Int) × Int × Int)) (x1 : Int) : Option ((List ((Int × Int) × (Int × Int) × Int)) × Bool) :=
  Option.bind (F_spec_swHas x0 x1) fun u9 =>
  (if (!u9) = true then some ([], false) else Option.bind (F_spec_swMoves x0 x1) fun u19 =>
  some (u19, true))
def F_laws_pSameMoves_L1 (x0 : (List ((Int × Int) × (Int × Int) × Int))) (x1 : (List ((Int × Int) × (Int × Int) × Int))) : Nat → Int → Option Bool
  | 0, _ => none
  | m + 1, y11 => (if (decide (y11 < (List.length x0 : Int))) = true then Option.bind (idx x0 y11) fun u26 =>
  Option.bind (idx x1 y11) fun u29 =>
  (if (!(eqv_Move u26 u29)) = true then some false else (F_laws_pSameMoves_L1 x0 x1 m) ((w64 (y11 + 1)))) else some true)
def F_laws_pSameMoves (x0 : (List ((Int × Int) × (Int × Int) × Int))) (x1 : (List ((Int × Int) × (Int × Int) × Int))) : Option Bool :=
  (if ((List.length x0 : Int) != (List.length x1 : Int)) = true then some false else F_laws_pSameMoves_L1 x0 x1 FU (0))
def F_laws_FnShows_L2 (u188 : ((List ((Int × Int) × (Int × Int) × Int)) × Bool)) (u159 : (((List (List (Int × Int))) × (List Int) × Int × Int) × Int)) (k210 : (Option Bool)) : Nat → Int → Option Bool
  | 0, _ => none
  | m + 1, y219 => (if (decide (y219 < (List.length u188.1 : Int))) = true then Option.bind (idx u188.1 y219) fun u228 =>
  jK1 (fun (y245 : Bool) => (if y245 = true then some false else (F_laws_FnShows_L2 u188 u159 k210 m) ((w64 (y219 + 1))))) (fun k246 => Option.bind (idx u159.1.1 u159.2) fun u255 =>
  Option.bind (idx u255 y219) fun u261 =>
  (if (!(eqv_Spot u228.1 u261)) = true then k246 (true) else Option.bind (idx u159.1.1 (w64 (u159.2 + 1))) fun u265 =>
  Option.bind (idx u265 y219) fun u271 =>
  (if (!(eqv_Spot u228.2.1 u271)) = true then k246 (true) else Option.bind (idx u159.1.2.1 u159.2) fun u275 =>
  k246 ((u228.2.2 != u275))))) else k210)
def F_laws_FnShows_L1 (u13 : ((List (List (Int × Int))) × (List Int) × Int × Int)) (u60 : ((List Int) × Bool)) (u97 : (((List (List (Int × Int))) × (List Int) × Int × Int) × Bool)) (k156 : (Option Bool)) (u76 : (Bool × Bool)) (u90 : (Int × Bool)) : Nat → Int → Option Bool
  | 0, _ => none
  | m + 1, y293 => (if (decide (y293 < (List.length u13.2.1 : Int))) = true then Option.bind (F_impl_ClosePairs u13 y293) fun u303 =>
  Option.bind (F_spec_ClosePairs u13 y293) fun u312 =>
  Option.bind (F_impl_WideSteps u13 y293) fun u321 =>
  Option.bind (F_spec_WideSteps u13 y293) fun u330 =>
  jK1 (fun (y342 : Bool) => (if y342 = true then some false else (F_laws_FnShows_L1 u13 u60 u97 k156 u76 u90 m) ((w64 (y293 + 1))))) (fun k343 => (if (!u303.2) = true then k343 (true) else (if (!u312.2) = true then k343 (true) else Option.bind (F_laws_sameLists u303.1 u312.1) fun u349 =>
  (if (!u349) = true then k343 (true) else (if (!u321.2) = true then k343 (true) else (if (!u330.2) = true then k343 (true) else Option.bind (F_laws_sameInts u321.1 u330.1) fun u358 =>
  (if (!u358) = true then k343 (true) else Option.bind (F_laws_pIn u60.1 y293) fun u365 =>
  k343 ((u365 != (decide (0 < (w64 ((List.length u312.1 : Int) + (List.length u330.1 : Int)))))))))))))) else Option.bind (F_impl_CanPublish u97.1) fun u372 =>
  Option.bind (F_impl_ReverseShow u97.1) fun u379 =>
  jK1 (fun (y402 : Bool) => (if y402 = true then some false else k156)) (fun k403 => (if (!u372.2) = true then k403 (true) else (if (u372.1 != u76.1) = true then k403 (true) else (if (!u379.2) = true then k403 (true) else Option.bind (F_laws_pSameShow u379.1 u13) fun u410 =>
  (if (!u410) = true then k403 (true) else Option.bind (F_laws_pSum u13.2.1) fun u417 =>
  k403 ((u417 != u90.1))))))))
def F_laws_FnShows (x0 : (List Int)) (x1 : (List Int)) : Option Bool :=
  Option.bind (F_laws_big x0 x1) fun u4 =>
  (if u4 = true then some true else Option.bind (F_spec_DrawPublishSheets x0) fun u13 =>
  Option.bind (F_impl_PublishSheets u13) fun u33 =>
  Option.bind (F_spec_PublishSheets u13) fun u42 =>
  Option.bind (F_impl_UnsafeParts u13) fun u51 =>
  Option.bind (F_spec_UnsafeParts u13) fun u60 =>
  Option.bind (F_impl_CanPublish u13) fun u69 =>
  Option.bind (F_spec_CanPublish u13) fun u76 =>
  Option.bind (F_impl_TotalCounts u13) fun u83 =>
  Option.bind (F_spec_TotalCounts u13) fun u90 =>
  Option.bind (F_impl_ReverseShow u13) fun u97 =>
  Option.bind (F_spec_ReverseShow u13) fun u117 =>
  jK1 (fun (y141 : Bool) => (if y141 = true then some false else jK0 (jK0 (Option.bind (F_spec_DrawShowMoves x1) fun u159 =>
  Option.bind (F_impl_ShowMoves u159.1 u159.2) fun u179 =>
  Option.bind (F_spec_ShowMoves u159.1 u159.2) fun u188 =>
  jK1 (fun (y201 : Bool) => (if y201 = true then some false else jK0 (some true) (fun k210 => (if u179.2 = true then F_laws_FnShows_L2 u188 u159 k210 FU (0) else k210)))) (fun k202 => (if (u179.2 != u188.2) = true then k202 (true) else Option.bind (F_laws_pSameMoves u179.1 u188.1) fun u280 =>
  k202 ((!u280))))) (fun k156 => (if u51.2 = true then F_laws_FnShows_L1 u13 u60 u97 k156 u76 u90 FU (0) else k156))) (fun k150 => (if u33.2 = true then Option.bind (F_impl_ChartsOf u33.1) fun u426 =>
  jK1 (fun (y440 : Bool) => (if y440 = true then some false else k150)) (fun k441 => (if (!u426.2.2) = true then k441 (true) else Option.bind (F_laws_pSameCharts u426.1 u13.1) fun u446 =>
  (if (!u446) = true then k441 (true) else Option.bind (F_laws_sameInts u426.2.1 u13.2.1) fun u453 =>
  k441 ((!u453))))) else k150)))) (fun k142 => (if (u33.2 != u42.2) = true then k142 (true) else Option.bind (F_laws_pSameSheets u33.1 u42.1) fun u460 =>
  (if (!u460) = true then k142 (true) else (if (u51.2 != u60.2) = true then k142 (true) else Option.bind (F_laws_sameInts u51.1 u60.1) fun u468 =>
  (if (!u468) = true then k142 (true) else (if (u69.2 != u76.2) = true then k142 (true) else (if (u69.1 != u76.1) = true then k142 (true) else (if (u83.2 != u90.2) = true then k142 (true) else (if (u83.1 != u90.1) = true then k142 (true) else (if (u97.2 != u117.2) = true then k142 (true) else Option.bind (F_laws_pSameShow u97.1 u117.1) fun u480 =>
  (if (!u480) = true then k142 (true) else (if (u69.2 != u51.2) = true then k142 (true) else (if (u83.2 != u51.2) = true then k142 (true) else (if (u97.2 != u51.2) = true then k142 (true) else Option.bind (F_impl_IsShow u13) fun u490 =>
  (if (u490 != u51.2) = true then k142 (true) else (if u51.2 = true then (if (u33.2 != ((List.length u60.1 : Int) == 0)) = true then k142 (true) else k142 ((u76.1 != u33.2))) else (if (u33.2 != false) = true then k142 (true) else k142 ((u76.1 != u33.2))))))))))))))))))))
end Go.Proofs.Ytmkignciedkidaa
