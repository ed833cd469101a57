/-
  THE FUNCTIONS of this seat as plain functions, by program (gen.py).
-/
import Derived.Test.YtejhnpimhjmpdaaGreatDoorCore0
import Derived.Test.YtejhnpimhjmpdaaGreatDoorLibF
set_option linter.unusedSimpArgs false
set_option linter.unusedVariables false
set_option maxRecDepth 100000
set_option maxHeartbeats 1600000
namespace Go.Proofs.YtejhnpimhjmpdaaGreatDoor
open Go
def eqv_Spot (x y : (Int × Int)) : Bool := (x.1 == y.1) && (x.2 == y.2)
def eqv_Move (x y : ((Int × Int) × (Int × Int) × Int)) : Bool := (x.1.1 == y.1.1) && (x.1.2 == y.1.2) && (x.2.1.1 == y.2.1.1) && (x.2.1.2 == y.2.1.2) && (x.2.2 == y.2.2)
def eqv_Row (x y : (Int × (Int × Int))) : Bool := (x.1 == y.1) && (x.2.1 == y.2.1) && (x.2.2 == y.2.2)
def F_laws_big (x0 : (List Int)) (x1 : (List Int)) : Option Bool :=
  jK1 (fun (y6 : Bool) => some y6) (fun k7 => (if (decide (1048576 < (List.length x0 : Int))) = true then k7 (true) else k7 ((decide ((w64 (1048576 - (List.length x0 : Int))) < (List.length x1 : Int))))))
def F_spec_l1Least (x0 : Int) (x1 : Int) : Option Int :=
  (if (decide (x0 < x1)) = true then some x0 else some x1)
def F_spec_chFind_L1 (x0 : (List (Int × Int))) (x1 : (Int × Int)) : Nat → Int → Option Int
  | 0, _ => none
  | m + 1, y12 => (if (decide (y12 < (List.length x0 : Int))) = true then Option.bind (idx x0 y12) fun u21 =>
  (if (eqv_Spot u21 x1) = true then some y12 else (F_spec_chFind_L1 x0 x1 m) ((w64 (y12 + 1)))) else some (-1))
def F_spec_chFind (x0 : (List (Int × Int))) (x1 : (Int × Int)) : Option Int :=
  F_spec_chFind_L1 x0 x1 FU (0)
def F_spec_chOwn (x0 : (List (Int × Int))) : Option (List (Int × Int)) :=
  Option.bind (app [] x0) fun u9 =>
  some u9
def F_spec_l1In (x0 : Int) (x1 : Int) (x2 : Int) : Option Bool :=
  jK1 (fun (y6 : Bool) => some y6) (fun k7 => (if (decide (x1 ≤ x0)) = true then k7 ((decide (x0 ≤ x2))) else k7 (false)))
def F_spec_stGood (x0 : (Int × Int)) : Option Bool :=
  jK1 (fun (y11 : Bool) => some y11) (fun k12 => Option.bind (F_spec_l1In x0.1 0 1280) fun u14 =>
  (if u14 = true then Option.bind (F_spec_l1In x0.2 0 672) fun u21 =>
  k12 (u21) else k12 (false)))
def F_spec_chGood_L2 (u39 : (List (Int × Int))) (u16 : (Int × Int)) (nx8 : (Int → Option Bool)) (y7 : Int) : Nat → Int → Option Bool
  | 0, _ => none
  | m + 1, y45 => (if (decide (y45 < (List.length u39 : Int))) = true then Option.bind (idx u39 y45) fun u54 =>
  (if (eqv_Spot u16 u54) = true then some false else (F_spec_chGood_L2 u39 u16 nx8 y7 m) ((w64 (y45 + 1)))) else nx8 ((w64 (y7 + 1))))
def F_spec_chGood_L1 (x0 : (List (Int × Int))) : Nat → Int → Option Bool
  | 0, _ => none
  | m + 1, y7 => (if (decide (y7 < (List.length x0 : Int))) = true then Option.bind (idx x0 y7) fun u16 =>
  Option.bind (F_spec_stGood u16) fun u30 =>
  (if (!u30) = true then some false else Option.bind (sl x0 0 y7) fun u39 =>
  F_spec_chGood_L2 u39 u16 (F_spec_chGood_L1 x0 m) y7 FU (0)) else Option.bind (F_spec_l1In (List.length x0 : Int) 1 12) fun u70 =>
  some u70)
def F_spec_chGood (x0 : (List (Int × Int))) : Option Bool :=
  F_spec_chGood_L1 x0 FU (0)
def F_spec_l1Cur__next__mut__box (x0 : ((List Int) × Int × Int)) : Option (Int × ((List Int) × Int × Int)) :=
  jK1 (fun (y7 : Int) => (if (decide ((w64 (x0.2.1 + 1)) ≤ (List.length x0.1 : Int))) = true then some (y7, (x0.1, (w64 (x0.2.1 + 1)), (wu64 ((wu64 ((wu64 (x0.2.2 * 6364136223846793005)) + (wu64 y7))) + 1442695040888963407)))) else some ((w64 (andK .u64 (shrK .u64 (wu64 ((wu64 ((wu64 (x0.2.2 * 6364136223846793005)) + (wu64 y7))) + 1442695040888963407)) 40) 255)), (x0.1, (w64 (x0.2.1 + 1)), (wu64 ((wu64 ((wu64 (x0.2.2 * 6364136223846793005)) + (wu64 y7))) + 1442695040888963407)))))) (fun k8 => (if (decide (x0.2.1 < (List.length x0.1 : Int))) = true then Option.bind (idx x0.1 x0.2.1) fun u42 =>
  k8 ((w64 u42)) else k8 (0)))
def F_spec_l1Cur__pick__mut__box (x0 : ((List Int) × Int × Int)) (x1 : Int) : Option (Int × ((List Int) × Int × Int)) :=
  (if (decide (x1 ≤ 1)) = true then some (0, x0) else Option.bind (F_spec_l1Cur__next__mut__box x0) fun u7 =>
  jK3 (fun (y17 : Int) (y18 : Int) (y19 : Int) => (if x1 = 0 then none else some ((Int.tmod y19 x1), (x0.1, y17, y18)))) (fun k20 => (if (decide (200 < x1)) = true then Option.bind (F_spec_l1Cur__next__mut__box (x0.1, u7.2.2.1, u7.2.2.2)) fun u26 =>
  k20 (u26.2.2.1) (u26.2.2.2) ((w64 ((w64 (u7.1 * 256)) + u26.1))) else k20 (u7.2.2.1) (u7.2.2.2) (u7.1))))
def F_spec_l1Cur__among__mut__box (x0 : ((List Int) × Int × Int)) (x1 : (List Int)) : Option (Int × ((List Int) × Int × Int)) :=
  Option.bind (F_spec_l1Cur__pick__mut__box x0 (List.length x1 : Int)) fun u3 =>
  Option.bind (idx x1 u3.1) fun u9 =>
  some (u9, (x0.1, u3.2.2.1, u3.2.2.2))
def F_spec_l1Cur__spot__mut__box (x0 : ((List Int) × Int × Int)) : Option ((Int × Int) × ((List Int) × Int × Int)) :=
  Option.bind (F_spec_l1Cur__pick__mut__box x0 161) fun u8 =>
  Option.bind (F_spec_l1Cur__pick__mut__box (x0.1, u8.2.2.1, u8.2.2.2) 1281) fun u14 =>
  Option.bind (F_spec_l1Cur__among__mut__box (x0.1, u14.2.2.1, u14.2.2.2) [0, 80, 160, 640, (w64 (8 * u8.1)), u14.1, 1280]) fun u26 =>
  Option.bind (F_spec_l1Cur__pick__mut__box (x0.1, u26.2.2.1, u26.2.2.2) 85) fun u32 =>
  Option.bind (F_spec_l1Cur__pick__mut__box (x0.1, u32.2.2.1, u32.2.2.2) 673) fun u38 =>
  Option.bind (F_spec_l1Cur__among__mut__box (x0.1, u38.2.2.1, u38.2.2.2) [0, 80, 336, (w64 (8 * u32.1)), u38.1, 672]) fun u50 =>
  some ((u26.1, u50.1), (x0.1, u50.2.2.1, u50.2.2.2))
def F_spec_l1Cur__one__mut__box (x0 : ((List Int) × Int × Int)) (x1 : Int) : Option (Bool × ((List Int) × Int × Int)) :=
  Option.bind (F_spec_l1Cur__pick__mut__box x0 x1) fun u3 =>
  some ((u3.1 == 0), (x0.1, u3.2.2.1, u3.2.2.2))
def F_spec_l1Cur__chartOf__mut__box_L1 (x1 : Int) (x0 : ((List Int) × Int × Int)) : Nat → Int → Int → (List (Int × Int)) → Int → Option ((List (Int × Int)) × ((List Int) × Int × Int))
  | 0, _, _, _, _ => none
  | m + 1, y8, y9, l10, y13 => (if (decide ((List.length l10 : Int) < x1)) = true then jK3 (fun (y25 : Int) (y26 : Int) (l27 : (List (Int × Int))) => (F_spec_l1Cur__chartOf__mut__box_L1 x1 x0 m) (y25) (y26) (l27) ((w64 (y13 + 1)))) (fun k30 => Option.bind (F_spec_l1Cur__spot__mut__box (x0.1, y8, y9)) fun u33 =>
  jK4 (fun (y52 : Int) (y53 : Int) (y54 : Int) (y55 : Int) => jK2 (fun (y62 : Int) (y63 : Int) => Option.bind (F_spec_chFind l10 (y62, y63)) fun u67 =>
  (if (decide (u67 < 0)) = true then Option.bind (app l10 [(y62, y63)]) fun u80 =>
  k30 (y52) (y53) (u80) else k30 (y52) (y53) (l10))) (fun k64 => (if (decide (60 < y13)) = true then k64 ((w64 (3 * (List.length l10 : Int)))) ((w64 (7 + y13))) else k64 (y54) (y55)))) (fun k56 => jK3 (fun (y97 : Int) (y98 : Int) (y99 : Bool) => (if y99 = true then Option.bind (F_spec_l1Cur__pick__mut__box (x0.1, y97, y98) (List.length l10 : Int)) fun u104 =>
  Option.bind (idx l10 u104.1) fun u110 =>
  Option.bind (F_spec_l1Cur__among__mut__box (x0.1, u104.2.2.1, u104.2.2.2) [0, 8, 16, 24, 5]) fun u140 =>
  Option.bind (F_spec_l1Least 1280 (w64 (u110.1 + u140.1))) fun u150 =>
  Option.bind (F_spec_l1Cur__among__mut__box (x0.1, u140.2.2.1, u140.2.2.2) [0, 8, 16, 3]) fun u169 =>
  Option.bind (F_spec_l1Least 672 (w64 (u110.2 + u169.1))) fun u179 =>
  k56 (u169.2.2.1) (u169.2.2.2) (u150) (u179) else k56 (y97) (y98) (u33.1.1) (u33.1.2))) (fun k100 => (if (decide (0 < (List.length l10 : Int))) = true then Option.bind (F_spec_l1Cur__one__mut__box (x0.1, u33.2.2.1, u33.2.2.2) 2) fun u361 =>
  k100 (u361.2.2.1) (u361.2.2.2) (u361.1) else k100 (u33.2.2.1) (u33.2.2.2) (false))))) else some (l10, (x0.1, y8, y9)))
def F_spec_l1Cur__chartOf__mut__box (x0 : ((List Int) × Int × Int)) (x1 : Int) : Option ((List (Int × Int)) × ((List Int) × Int × Int)) :=
  F_spec_l1Cur__chartOf__mut__box_L1 x1 x0 FU (x0.2.1) (x0.2.2) ([]) (0)
def F_spec_l1Cur__chart__mut__box (x0 : ((List Int) × Int × Int)) : Option ((List (Int × Int)) × ((List Int) × Int × Int)) :=
  Option.bind (F_spec_l1Cur__one__mut__box x0 20) fun u4 =>
  (if u4.1 = true then Option.bind (F_spec_l1Cur__chartOf__mut__box (x0.1, u4.2.2.1, u4.2.2.2) 12) fun u12 =>
  some (u12.1, (x0.1, u12.2.2.1, u12.2.2.2)) else Option.bind (F_spec_l1Cur__pick__mut__box (x0.1, u4.2.2.1, u4.2.2.2) 6) fun u21 =>
  Option.bind (F_spec_l1Cur__chartOf__mut__box (x0.1, u21.2.2.1, u21.2.2.2) (w64 (1 + u21.1))) fun u27 =>
  some (u27.1, (x0.1, u27.2.2.1, u27.2.2.2)))
def F_spec_l1Cur__anySpot__mut__box (x0 : ((List Int) × Int × Int)) : Option ((Int × Int) × ((List Int) × Int × Int)) :=
  Option.bind (F_spec_l1Cur__spot__mut__box x0) fun u8 =>
  jK4 (fun (y27 : Int) (y28 : Int) (y29 : Int) (y30 : Int) => some ((y29, y30), (x0.1, y27, y28))) (fun k31 => Option.bind (F_spec_l1Cur__pick__mut__box (x0.1, u8.2.2.1, u8.2.2.2) 30) fun u39 =>
  (if (u39.1 == 0) = true then Option.bind (F_spec_l1Cur__among__mut__box (x0.1, u39.2.2.1, u39.2.2.2) [(-1), 1281]) fun u53 =>
  k31 (u53.2.2.1) (u53.2.2.2) (u53.1) (u8.1.2) else (if (u39.1 == 1) = true then Option.bind (F_spec_l1Cur__among__mut__box (x0.1, u39.2.2.1, u39.2.2.2) [(-1), 673]) fun u71 =>
  k31 (u71.2.2.1) (u71.2.2.2) (u8.1.1) (u71.1) else k31 (u39.2.2.1) (u39.2.2.2) (u8.1.1) (u8.1.2))))
def F_spec_l1Cur__anyChart__mut__box (x0 : ((List Int) × Int × Int)) : Option ((List (Int × Int)) × ((List Int) × Int × Int)) :=
  Option.bind (F_spec_l1Cur__chart__mut__box x0) fun u3 =>
  Option.bind (F_spec_l1Cur__pick__mut__box (x0.1, u3.2.2.1, u3.2.2.2) (List.length u3.1 : Int)) fun u12 =>
  jK3 (fun (y22 : Int) (y23 : Int) (l24 : (List (Int × Int))) => some (l24, (x0.1, y22, y23))) (fun k27 => Option.bind (F_spec_l1Cur__pick__mut__box (x0.1, u12.2.2.1, u12.2.2.2) 30) fun u31 =>
  (if (u31.1 == 0) = true then Option.bind (F_spec_l1Cur__anySpot__mut__box (x0.1, u31.2.2.1, u31.2.2.2)) fun u39 =>
  Option.bind (idx u3.1 u12.1) fun u45 =>
  k27 (u39.2.2.1) (u39.2.2.2) ((seti u3.1 u12.1 u39.1)) else (if (u31.1 == 1) = true then Option.bind (idx u3.1 0) fun u55 =>
  Option.bind (idx u3.1 u12.1) fun u59 =>
  k27 (u31.2.2.1) (u31.2.2.2) ((seti u3.1 u12.1 u55)) else (if (u31.1 == 2) = true then some ([], (x0.1, u31.2.2.1, u31.2.2.2)) else (if (u31.1 == 3) = true then Option.bind (F_spec_l1Cur__chartOf__mut__box (x0.1, u31.2.2.1, u31.2.2.2) 13) fun u74 =>
  some (u74.1, (x0.1, u74.2.2.1, u74.2.2.2)) else k27 (u31.2.2.1) (u31.2.2.2) (u3.1))))))
def F_spec_l1Cur__show__mut__box_L2 (u311 : (List (Int × Int))) (x0 : ((List Int) × Int × Int)) (u101 : (List (Int × Int))) (k125 : (Int → Int → (List (Int × Int)) → Option (((List (List (Int × Int))) × (List Int) × Int × Int) × ((List Int) × Int × Int)))) : Nat → Int → Int → (List (Int × Int)) → Int → Option (((List (List (Int × Int))) × (List Int) × Int × Int) × ((List Int) × Int × Int))
  | 0, _, _, _, _ => none
  | m + 1, y324, y325, l327, y330 => (if (decide (y330 < (List.length u311 : Int))) = true then jK3 (fun (y341 : Int) (y342 : Int) (l344 : (List (Int × Int))) => (F_spec_l1Cur__show__mut__box_L2 u311 x0 u101 k125 m) (y341) (y342) (l344) ((w64 (y330 + 1)))) (fun k347 => Option.bind (idx l327 y330) fun u355 =>
  Option.bind (F_spec_l1Cur__among__mut__box (x0.1, y324, y325) [0, 8, 16, 40]) fun u372 =>
  Option.bind (F_spec_l1Least 1280 (w64 (u355.1 + u372.1))) fun u383 =>
  Option.bind (idx l327 y330) fun u392 =>
  k347 (u372.2.2.1) (u372.2.2.2) ((seti l327 y330 (u383, u392.2)))) else Option.bind (F_spec_chGood l327) fun u479 =>
  (if (!u479) = true then Option.bind (F_spec_chOwn u101) fun u486 =>
  k125 (y324) (y325) (u486) else k125 (y324) (y325) (l327)))
def F_spec_l1Cur__show__mut__box_L1 (y78 : Int) (x0 : ((List Int) × Int × Int)) (u8 : (Int × ((List Int) × Int × Int))) (u50 : (Int × ((List Int) × Int × Int))) (u38 : (Int × ((List Int) × Int × Int))) : Nat → Int → Int → (List (List (Int × Int))) → (List Int) → Option (((List (List (Int × Int))) × (List Int) × Int × Int) × ((List Int) × Int × Int))
  | 0, _, _, _, _ => none
  | m + 1, y85, y86, l87, l90 => (if (decide ((List.length l87 : Int) < y78)) = true then Option.bind (idx l87 (w64 ((List.length l87 : Int) - 1))) fun u101 =>
  Option.bind (F_spec_l1Cur__chartOf__mut__box (x0.1, y85, y86) (w64 (1 + u8.1))) fun u108 =>
  jK3 (fun (y120 : Int) (y121 : Int) (l122 : (List (Int × Int))) => Option.bind (app l87 [l122]) fun u137 =>
  Option.bind (F_spec_l1Cur__among__mut__box (x0.1, y120, y121) [1, 4, 8, 16, 64]) fun u164 =>
  Option.bind (app l90 [u164.1]) fun u183 =>
  (F_spec_l1Cur__show__mut__box_L1 y78 x0 u8 u50 u38 m) (u164.2.2.1) (u164.2.2.2) (u137) (u183)) (fun k125 => Option.bind (F_spec_l1Cur__one__mut__box (x0.1, u108.2.2.1, u108.2.2.2) 3) fun u303 =>
  (if (!u303.1) = true then Option.bind (F_spec_chOwn u101) fun u311 =>
  F_spec_l1Cur__show__mut__box_L2 u311 x0 u101 k125 FU (u303.2.2.1) (u303.2.2.2) (u311) (0) else k125 (u303.2.2.1) (u303.2.2.2) (u108.1))) else jK6 (fun (y498 : Int) (y499 : Int) (l500 : (List (List (Int × Int)))) (l503 : (List Int)) (y506 : Int) (y507 : Int) => some ((l500, l503, y506, y507), (x0.1, y498, y499))) (fun k508 => Option.bind (F_spec_l1Cur__pick__mut__box (x0.1, y85, y86) 36) fun u516 =>
  (if (u516.1 == 0) = true then Option.bind (F_spec_l1Cur__among__mut__box (x0.1, u516.2.2.1, u516.2.2.2) [(-1), 80, 81]) fun u530 =>
  k508 (u530.2.2.1) (u530.2.2.2) (l87) (l90) (u530.1) (u50.1) else (if (u516.1 == 1) = true then Option.bind (F_spec_l1Cur__among__mut__box (x0.1, u516.2.2.1, u516.2.2.2) [0, 1, 25]) fun u548 =>
  k508 (u548.2.2.1) (u548.2.2.2) (l87) (l90) (u38.1) (u548.1) else (if (u516.1 == 2) = true then Option.bind (F_spec_l1Cur__among__mut__box (x0.1, u516.2.2.1, u516.2.2.2) [0, 64, 65]) fun u576 =>
  Option.bind (idx l90 0) fun u585 =>
  k508 (u576.2.2.1) (u576.2.2.2) (l87) ((seti l90 0 u576.1)) (u38.1) (u50.1) else (if (u516.1 == 3) = true then Option.bind (F_spec_l1Cur__anyChart__mut__box (x0.1, u516.2.2.1, u516.2.2.2)) fun u651 =>
  Option.bind (idx l87 (w64 ((List.length l87 : Int) - 1))) fun u663 =>
  k508 (u651.2.2.1) (u651.2.2.2) ((seti l87 (w64 ((List.length l87 : Int) - 1)) u651.1)) (l90) (u38.1) (u50.1) else (if (u516.1 == 4) = true then Option.bind (app l90 [8]) fun u797 =>
  k508 (u516.2.2.1) (u516.2.2.2) (l87) (u797) (u38.1) (u50.1) else (if (u516.1 == 5) = true then Option.bind (sl l87 0 1) fun u811 =>
  k508 (u516.2.2.1) (u516.2.2.2) (u811) ([]) (u38.1) (u50.1) else k508 (u516.2.2.1) (u516.2.2.2) (l87) (l90) (u38.1) (u50.1)))))))))
def F_spec_l1Cur__show__mut__box (x0 : ((List Int) × Int × Int)) : Option (((List (List (Int × Int))) × (List Int) × Int × Int) × ((List Int) × Int × Int)) :=
  Option.bind (F_spec_l1Cur__pick__mut__box x0 4) fun u8 =>
  Option.bind (F_spec_l1Cur__chartOf__mut__box (x0.1, u8.2.2.1, u8.2.2.2) (w64 (1 + u8.1))) fun u15 =>
  Option.bind (F_spec_l1Cur__among__mut__box (x0.1, u15.2.2.1, u15.2.2.2) [0, 1, 8, 8, 16]) fun u38 =>
  Option.bind (F_spec_l1Cur__among__mut__box (x0.1, u38.2.2.1, u38.2.2.2) [8, 12, 24, 24]) fun u50 =>
  Option.bind (F_spec_l1Cur__pick__mut__box (x0.1, u50.2.2.1, u50.2.2.2) 3) fun u66 =>
  jK3 (fun (y76 : Int) (y77 : Int) (y78 : Int) => F_spec_l1Cur__show__mut__box_L1 y78 x0 u8 u50 u38 FU (y76) (y77) ([u15.1]) ([])) (fun k79 => Option.bind (F_spec_l1Cur__one__mut__box (x0.1, u66.2.2.1, u66.2.2.2) 20) fun u832 =>
  (if u832.1 = true then Option.bind (F_spec_l1Cur__pick__mut__box (x0.1, u832.2.2.1, u832.2.2.2) 2) fun u839 =>
  k79 (u839.2.2.1) (u839.2.2.2) ((w64 (8 + u839.1))) else k79 (u832.2.2.1) (u832.2.2.2) ((w64 (2 + u66.1)))))
def F_spec_DrawIsShow (x0 : (List Int)) : Option ((List (List (Int × Int))) × (List Int) × Int × Int) :=
  Option.bind (F_spec_l1Cur__show__mut__box (x0, 0, 0)) fun u14 =>
  some u14.1
def F_impl_within (x0 : Int) (x1 : Int) (x2 : Int) : Option Bool :=
  jK1 (fun (y6 : Bool) => some y6) (fun k7 => (if (decide (x1 ≤ x0)) = true then k7 ((decide (x0 ≤ x2))) else k7 (false)))
def F_impl_IsSpot (x0 : (Int × Int)) : Option Bool :=
  jK1 (fun (y11 : Bool) => some y11) (fun k12 => Option.bind (F_impl_within x0.1 0 1280) fun u14 =>
  (if u14 = true then Option.bind (F_impl_within x0.2 0 672) fun u21 =>
  k12 (u21) else k12 (false)))
def F_slices_Index_impl_Spot_impl_Spot_L1 (x0 : (List (Int × Int))) (x1 : (Int × Int)) : Nat → Int → Option Int
  | 0, _ => none
  | m + 1, y12 => (if (decide (y12 < (List.length x0 : Int))) = true then Option.bind (idx x0 y12) fun u27 =>
  (if (eqv_Spot x1 u27) = true then some y12 else (F_slices_Index_impl_Spot_impl_Spot_L1 x0 x1 m) ((w64 (y12 + 1)))) else some (-1))
def F_slices_Index_impl_Spot_impl_Spot (x0 : (List (Int × Int))) (x1 : (Int × Int)) : Option Int :=
  F_slices_Index_impl_Spot_impl_Spot_L1 x0 x1 FU (0)
def F_slices_Contains_impl_Spot_impl_Spot (x0 : (List (Int × Int))) (x1 : (Int × Int)) : Option Bool :=
  Option.bind (F_slices_Index_impl_Spot_impl_Spot x0 x1) fun u8 =>
  some (decide (0 ≤ u8))
def F_impl_IsChart_L1 (x0 : (List (Int × Int))) : Nat → Int → Option Bool
  | 0, _ => none
  | m + 1, y17 => (if (decide (y17 < (List.length x0 : Int))) = true then Option.bind (idx x0 y17) fun u26 =>
  jK1 (fun (y42 : Bool) => (if y42 = true then some false else (F_impl_IsChart_L1 x0 m) ((w64 (y17 + 1))))) (fun k43 => Option.bind (F_impl_IsSpot u26) fun u52 =>
  (if (!u52) = true then k43 (true) else Option.bind (sl x0 0 y17) fun u60 =>
  Option.bind (F_slices_Contains_impl_Spot_impl_Spot u60 u26) fun u63 =>
  k43 (u63))) else some true)
def F_impl_IsChart (x0 : (List (Int × Int))) : Option Bool :=
  Option.bind (F_impl_within (List.length x0 : Int) 1 12) fun u4 =>
  (if (!u4) = true then some false else F_impl_IsChart_L1 x0 FU (0))
def F_impl_areCharts_L2 (x1 : (List Int)) : Nat → Int → Option Bool
  | 0, _ => none
  | m + 1, y57 => (if (decide (y57 < (List.length x1 : Int))) = true then Option.bind (idx x1 y57) fun u66 =>
  Option.bind (F_impl_within u66 1 64) fun u70 =>
  (if (!u70) = true then some false else (F_impl_areCharts_L2 x1 m) ((w64 (y57 + 1)))) else some true)
def F_impl_areCharts_L1 (x0 : (List (List (Int × Int)))) (x1 : (List Int)) : Nat → Int → Option Bool
  | 0, _ => none
  | m + 1, y17 => (if (decide (y17 < (List.length x0 : Int))) = true then Option.bind (idx x0 y17) fun u26 =>
  jK1 (fun (y35 : Bool) => (if y35 = true then some false else (F_impl_areCharts_L1 x0 x1 m) ((w64 (y17 + 1))))) (fun k36 => Option.bind (F_impl_IsChart u26) fun u40 =>
  (if (!u40) = true then k36 (true) else Option.bind (idx x0 0) fun u47 =>
  k36 (((List.length u26 : Int) != (List.length u47 : Int))))) else F_impl_areCharts_L2 x1 FU (0))
def F_impl_areCharts (x0 : (List (List (Int × Int)))) (x1 : (List Int)) : Option Bool :=
  jK1 (fun (y7 : Bool) => (if y7 = true then some false else F_impl_areCharts_L1 x0 x1 FU (0))) (fun k8 => Option.bind (F_impl_within (List.length x0 : Int) 1 9) fun u79 =>
  (if (!u79) = true then k8 (true) else k8 (((List.length x1 : Int) != (w64 ((List.length x0 : Int) - 1))))))
def F_impl_isLeast (x0 : Int) : Option Bool :=
  Option.bind (F_impl_within x0 0 80) fun u3 =>
  some u3
def F_impl_IsShow (x0 : ((List (List (Int × Int))) × (List Int) × Int × Int)) : Option Bool :=
  jK1 (fun (y11 : Bool) => some y11) (fun k12 => Option.bind (F_impl_within (List.length x0.1 : Int) 2 8) fun u14 =>
  (if u14 = true then Option.bind (F_impl_areCharts x0.1 x0.2.1) fun u21 =>
  (if u21 = true then Option.bind (F_impl_isLeast x0.2.2.1) fun u28 =>
  (if u28 = true then Option.bind (F_impl_within x0.2.2.2 1 24) fun u35 =>
  k12 (u35) else k12 (false)) else k12 (false)) else k12 (false)))
def F_impl_showMoves_L1 (u16 : (List (Int × Int))) (x0 : ((List (List (Int × Int))) × (List Int) × Int × Int)) (x1 : Int) : Nat → (List ((Int × Int) × (Int × Int) × Int)) → Int → Option (List ((Int × Int) × (Int × Int) × Int))
  | 0, _, _ => none
  | m + 1, l24, y27 => (if (decide (y27 < (List.length u16 : Int))) = true then Option.bind (idx u16 y27) fun u36 =>
  Option.bind (idx x0.1 (w64 (x1 + 1))) fun u53 =>
  Option.bind (idx u53 y27) fun u58 =>
  Option.bind (idx x0.2.1 x1) fun u61 =>
  Option.bind (app l24 [(u36, u58, u61)]) fun u75 =>
  (F_impl_showMoves_L1 u16 x0 x1 m) (u75) ((w64 (y27 + 1))) else some l24)
def F_impl_showMoves (x0 : ((List (List (Int × Int))) × (List Int) × Int × Int)) (x1 : Int) : Option (List ((Int × Int) × (Int × Int) × Int)) :=
  Option.bind (idx x0.1 x1) fun u16 =>
  F_impl_showMoves_L1 u16 x0 x1 FU ([]) (0)
def F_impl_squareOf (x0 : (Int × Int)) (x1 : (Int × Int)) : Option Int :=
  some (w64 ((w64 ((w64 (x0.1 - x1.1)) * (w64 (x0.1 - x1.1)))) + (w64 ((w64 (x0.2 - x1.2)) * (w64 (x0.2 - x1.2))))))
def F_impl_withinStep (x0 : ((Int × Int) × (Int × Int) × Int)) (x1 : Int) : Option Bool :=
  Option.bind (F_impl_squareOf x0.1 x0.2.1) fun u13 =>
  some (decide (u13 ≤ (w64 ((w64 ((w64 (x1 * x1)) * x0.2.2)) * x0.2.2))))
def F_impl_wideSteps_L1 (u16 : (List ((Int × Int) × (Int × Int) × Int))) (x0 : ((List (List (Int × Int))) × (List Int) × Int × Int)) : Nat → (List Int) → Int → Option (List Int)
  | 0, _, _ => none
  | m + 1, l27, y30 => (if (decide (y30 < (List.length u16 : Int))) = true then jK1 (fun (l41 : (List Int)) => (F_impl_wideSteps_L1 u16 x0 m) (l41) ((w64 (y30 + 1)))) (fun k44 => Option.bind (idx u16 y30) fun u47 =>
  Option.bind (F_impl_withinStep u47 x0.2.2.2) fun u61 =>
  (if (!u61) = true then Option.bind (app l27 [y30]) fun u74 =>
  k44 (u74) else k44 (l27))) else some l27)
def F_impl_wideSteps (x0 : ((List (List (Int × Int))) × (List Int) × Int × Int)) (x1 : Int) : Option (List Int) :=
  Option.bind (F_impl_showMoves x0 x1) fun u16 =>
  F_impl_wideSteps_L1 u16 x0 FU ([]) (0)
def F_impl_between (x0 : ((Int × Int) × (Int × Int) × Int)) (x1 : ((Int × Int) × (Int × Int) × Int)) : Option ((Int × Int) × (Int × Int) × Int × Int) :=
  some (((w64 (x0.1.1 - x1.1.1)), (w64 (x0.1.2 - x1.1.2))), ((w64 ((w64 (x0.2.1.1 - x1.2.1.1)) - (w64 (x0.1.1 - x1.1.1)))), (w64 ((w64 (x0.2.1.2 - x1.2.1.2)) - (w64 (x0.1.2 - x1.1.2))))), (w64 ((w64 ((w64 (x0.1.1 - x1.1.1)) * (w64 ((w64 (x0.2.1.1 - x1.2.1.1)) - (w64 (x0.1.1 - x1.1.1)))))) + (w64 ((w64 (x0.1.2 - x1.1.2)) * (w64 ((w64 (x0.2.1.2 - x1.2.1.2)) - (w64 (x0.1.2 - x1.1.2)))))))), (w64 ((w64 ((w64 ((w64 (x0.2.1.1 - x1.2.1.1)) - (w64 (x0.1.1 - x1.1.1)))) * (w64 ((w64 (x0.2.1.1 - x1.2.1.1)) - (w64 (x0.1.1 - x1.1.1)))))) + (w64 ((w64 ((w64 (x0.2.1.2 - x1.2.1.2)) - (w64 (x0.1.2 - x1.1.2)))) * (w64 ((w64 (x0.2.1.2 - x1.2.1.2)) - (w64 (x0.1.2 - x1.1.2)))))))))
def F_impl_gcdOf_L1  : Nat → Int → Int → Option Int
  | 0, _, _ => none
  | m + 1, y7, y8 => (if (y8 != 0) = true then (if y8 = 0 then none else (F_impl_gcdOf_L1 m) (y8) ((Int.tmod y7 y8))) else some y7)
def F_impl_gcdOf (x0 : Int) (x1 : Int) : Option Int :=
  F_impl_gcdOf_L1 FU ((maxI x0 (w64 (0 - x0)))) ((maxI x1 (w64 (0 - x1))))
def F_impl_lowestTerms (x0 : Int) (x1 : Int) : Option (Int × Int) :=
  Option.bind (F_impl_gcdOf x0 x1) fun u3 =>
  (if u3 = 0 then none else (if u3 = 0 then none else some ((w64 (Int.tdiv x0 u3)), (w64 (Int.tdiv x1 u3)))))
def F_impl_leastApart (x0 : ((Int × Int) × (Int × Int) × Int)) (x1 : ((Int × Int) × (Int × Int) × Int)) : Option (Int × Int) :=
  Option.bind (F_impl_between x0 x1) fun u13 =>
  (if (decide (0 ≤ u13.2.2.1)) = true then some ((w64 ((w64 (u13.1.1 * u13.1.1)) + (w64 (u13.1.2 * u13.1.2)))), 1) else (if (decide (u13.2.2.2 ≤ (w64 (0 - u13.2.2.1)))) = true then Option.bind (F_impl_squareOf x0.2.1 x1.2.1) fun u44 =>
  some (u44, 1) else Option.bind (F_impl_lowestTerms (w64 ((w64 ((w64 (u13.1.1 * u13.2.1.2)) - (w64 (u13.1.2 * u13.2.1.1)))) * (w64 ((w64 (u13.1.1 * u13.2.1.2)) - (w64 (u13.1.2 * u13.2.1.1)))))) u13.2.2.2) fun u52 =>
  some u52))
def F_impl_stayApart (x0 : ((Int × Int) × (Int × Int) × Int)) (x1 : ((Int × Int) × (Int × Int) × Int)) (x2 : Int) : Option Bool :=
  Option.bind (F_impl_leastApart x0 x1) fun u13 =>
  some (decide ((w64 ((w64 (x2 * x2)) * u13.2)) ≤ u13.1))
def F_impl_pairsTooClose_L2 (x0 : (List ((Int × Int) × (Int × Int) × Int))) (y17 : Int) (x1 : Int) (nx18 : ((List (List Int)) → Int → Option (List (List Int)))) : Nat → (List (List Int)) → Int → Option (List (List Int))
  | 0, _, _ => none
  | m + 1, l30, y33 => (if (decide (y33 < (List.length x0 : Int))) = true then jK1 (fun (l44 : (List (List Int))) => (F_impl_pairsTooClose_L2 x0 y17 x1 nx18 m) (l44) ((w64 (y33 + 1)))) (fun k47 => Option.bind (idx x0 y17) fun u55 =>
  Option.bind (idx x0 y33) fun u58 =>
  Option.bind (F_impl_stayApart u55 u58 x1) fun u61 =>
  (if (!u61) = true then Option.bind (app l30 [[y17, y33]]) fun u84 =>
  k47 (u84) else k47 (l30))) else nx18 (l30) ((w64 (y17 + 1))))
def F_impl_pairsTooClose_L1 (x0 : (List ((Int × Int) × (Int × Int) × Int))) (x1 : Int) : Nat → (List (List Int)) → Int → Option (List (List Int))
  | 0, _, _ => none
  | m + 1, l14, y17 => (if (decide (y17 < (List.length x0 : Int))) = true then F_impl_pairsTooClose_L2 x0 y17 x1 (F_impl_pairsTooClose_L1 x0 x1 m) FU (l14) ((w64 (y17 + 1))) else some l14)
def F_impl_pairsTooClose (x0 : (List ((Int × Int) × (Int × Int) × Int))) (x1 : Int) : Option (List (List Int)) :=
  F_impl_pairsTooClose_L1 x0 x1 FU ([]) (0)
def F_impl_unsafParts_L1 (x0 : ((List (List (Int × Int))) × (List Int) × Int × Int)) : Nat → (List Int) → Int → Option (List Int)
  | 0, _, _ => none
  | m + 1, l19, y22 => (if (decide (y22 < (List.length x0.2.1 : Int))) = true then jK1 (fun (l33 : (List Int)) => (F_impl_unsafParts_L1 x0 m) (l33) ((w64 (y22 + 1)))) (fun k36 => jK1 (fun (y43 : Bool) => (if y43 = true then Option.bind (app l19 [y22]) fun u53 =>
  k36 (u53) else k36 (l19))) (fun k44 => Option.bind (F_impl_wideSteps x0 y22) fun u65 =>
  (if (decide (0 < (List.length u65 : Int))) = true then k44 (true) else Option.bind (F_impl_showMoves x0 y22) fun u76 =>
  Option.bind (F_impl_pairsTooClose u76 x0.2.2.1) fun u86 =>
  k44 ((decide (0 < (List.length u86 : Int))))))) else some l19)
def F_impl_unsafParts (x0 : ((List (List (Int × Int))) × (List Int) × Int × Int)) : Option (List Int) :=
  F_impl_unsafParts_L1 x0 FU ([]) (0)
def F_impl_sheetOf_L1 (x1 : (List Int)) (x0 : (List (List (Int × Int)))) (x2 : Int) (u13 : (Int × Int)) : Nat → (List (Int × (Int × Int))) → Int → Option (Int × (Int × Int) × (List (Int × (Int × Int))))
  | 0, _, _ => none
  | m + 1, l36, y39 => (if (decide (y39 < (List.length x1 : Int))) = true then jK1 (fun (l50 : (List (Int × (Int × Int)))) => (F_impl_sheetOf_L1 x1 x0 x2 u13 m) (l50) ((w64 (y39 + 1)))) (fun k53 => Option.bind (idx x1 y39) fun u56 =>
  Option.bind (idx x0 (w64 (y39 + 1))) fun u64 =>
  Option.bind (idx u64 x2) fun u69 =>
  Option.bind (app l36 [(u56, u69)]) fun u83 =>
  k53 (u83)) else some (x2, u13, l36))
def F_impl_sheetOf (x0 : (List (List (Int × Int)))) (x1 : (List Int)) (x2 : Int) : Option (Int × (Int × Int) × (List (Int × (Int × Int)))) :=
  Option.bind (idx x0 0) fun u8 =>
  Option.bind (idx u8 x2) fun u13 =>
  F_impl_sheetOf_L1 x1 x0 x2 u13 FU ([]) (0)
def F_impl_PublishSheets_L1 (u27 : (List (Int × Int))) (x0 : ((List (List (Int × Int))) × (List Int) × Int × Int)) : Nat → (List (Int × (Int × Int) × (List (Int × (Int × Int))))) → Int → Option ((List (Int × (Int × Int) × (List (Int × (Int × Int))))) × Bool)
  | 0, _, _ => none
  | m + 1, l35, y38 => (if (decide (y38 < (List.length u27 : Int))) = true then Option.bind (F_impl_sheetOf x0.1 x0.2.1 y38) fun u47 =>
  Option.bind (app l35 [u47]) fun u64 =>
  (F_impl_PublishSheets_L1 u27 x0 m) (u64) ((w64 (y38 + 1))) else some (l35, true))
def F_impl_PublishSheets (x0 : ((List (List (Int × Int))) × (List Int) × Int × Int)) : Option ((List (Int × (Int × Int) × (List (Int × (Int × Int))))) × Bool) :=
  jK1 (fun (y12 : Bool) => (if y12 = true then some ([], false) else Option.bind (idx x0.1 0) fun u27 =>
  F_impl_PublishSheets_L1 u27 x0 FU ([]) (0))) (fun k13 => Option.bind (F_impl_IsShow x0) fun u72 =>
  (if (!u72) = true then k13 (true) else Option.bind (F_impl_unsafParts x0) fun u79 =>
  k13 ((decide (0 < (List.length u79 : Int))))))
def F_spec_l1All_L1 (x0 : (List Int)) (x1 : Int) (x2 : Int) : Nat → Int → Option Bool
  | 0, _ => none
  | m + 1, y7 => (if (decide (y7 < (List.length x0 : Int))) = true then Option.bind (idx x0 y7) fun u16 =>
  Option.bind (F_spec_l1In u16 x1 x2) fun u20 =>
  (if (!u20) = true then some false else (F_spec_l1All_L1 x0 x1 x2 m) ((w64 (y7 + 1)))) else some true)
def F_spec_l1All (x0 : (List Int)) (x1 : Int) (x2 : Int) : Option Bool :=
  F_spec_l1All_L1 x0 x1 x2 FU (0)
def F_spec_apDistance (x0 : Int) : Option Bool :=
  Option.bind (F_spec_l1In x0 0 80) fun u3 =>
  some u3
def F_spec_mvStep (x0 : Int) : Option Bool :=
  Option.bind (F_spec_l1In x0 1 24) fun u3 =>
  some u3
def F_spec_swGood_L1 (x0 : ((List (List (Int × Int))) × (List Int) × Int × Int)) : Nat → Int → Option Bool
  | 0, _ => none
  | m + 1, y12 => (if (decide (y12 < (List.length x0.1 : Int))) = true then Option.bind (idx x0.1 y12) fun u21 =>
  jK1 (fun (y30 : Bool) => (if y30 = true then some false else (F_spec_swGood_L1 x0 m) ((w64 (y12 + 1))))) (fun k31 => Option.bind (F_spec_chGood u21) fun u35 =>
  (if (!u35) = true then k31 (true) else Option.bind (idx x0.1 0) fun u42 =>
  k31 (((List.length u21 : Int) != (List.length u42 : Int))))) else jK1 (fun (y51 : Bool) => some y51) (fun k52 => Option.bind (F_spec_l1In (List.length x0.1 : Int) 2 8) fun u54 =>
  (if u54 = true then (if ((List.length x0.2.1 : Int) == (w64 ((List.length x0.1 : Int) - 1))) = true then Option.bind (F_spec_l1All x0.2.1 1 64) fun u62 =>
  (if u62 = true then Option.bind (F_spec_apDistance x0.2.2.1) fun u69 =>
  (if u69 = true then Option.bind (F_spec_mvStep x0.2.2.2) fun u76 =>
  k52 (u76) else k52 (false)) else k52 (false)) else k52 (false)) else k52 (false))))
def F_spec_swGood (x0 : ((List (List (Int × Int))) × (List Int) × Int × Int)) : Option Bool :=
  F_spec_swGood_L1 x0 FU (0)
def F_spec_swMoves_L1 (u10 : (List (Int × Int))) (x0 : ((List (List (Int × Int))) × (List Int) × Int × Int)) (x1 : Int) : Nat → (List ((Int × Int) × (Int × Int) × Int)) → Int → Option (List ((Int × Int) × (Int × Int) × Int))
  | 0, _, _ => none
  | m + 1, l18, y21 => (if (decide (y21 < (List.length u10 : Int))) = true then Option.bind (idx u10 y21) fun u31 =>
  Option.bind (idx x0.1 (w64 (x1 + 1))) fun u48 =>
  Option.bind (idx u48 y21) fun u53 =>
  Option.bind (idx x0.2.1 x1) fun u56 =>
  Option.bind (app l18 [(u31, u53, u56)]) fun u70 =>
  (F_spec_swMoves_L1 u10 x0 x1 m) (u70) ((w64 (y21 + 1))) else some l18)
def F_spec_swMoves (x0 : ((List (List (Int × Int))) × (List Int) × Int × Int)) (x1 : Int) : Option (List ((Int × Int) × (Int × Int) × Int)) :=
  Option.bind (idx x0.1 x1) fun u10 =>
  F_spec_swMoves_L1 u10 x0 x1 FU ([]) (0)
def F_spec_apEnds (x0 : ((Int × Int) × (Int × Int) × Int)) (x1 : ((Int × Int) × (Int × Int) × Int)) : Option (Int × Int × Int × Int) :=
  some ((w64 (x0.1.1 - x1.1.1)), (w64 (x0.1.2 - x1.1.2)), (w64 (x0.2.1.1 - x1.2.1.1)), (w64 (x0.2.1.2 - x1.2.1.2)))
def F_spec_apInner (x0 : ((Int × Int) × (Int × Int) × Int)) (x1 : ((Int × Int) × (Int × Int) × Int)) : Option (Int × Int) :=
  Option.bind (F_spec_apEnds x0 x1) fun u13 =>
  jK1 (fun (y26 : Bool) => (if y26 = true then some (0, 0) else some ((w64 (0 - (w64 ((w64 (u13.1 * (w64 (u13.2.2.1 - u13.1)))) + (w64 (u13.2.1 * (w64 (u13.2.2.2 - u13.2.1)))))))), (w64 ((w64 ((w64 (u13.2.2.1 - u13.1)) * (w64 (u13.2.2.1 - u13.1)))) + (w64 ((w64 (u13.2.2.2 - u13.2.1)) * (w64 (u13.2.2.2 - u13.2.1))))))))) (fun k27 => (if (decide ((w64 (0 - (w64 ((w64 (u13.1 * (w64 (u13.2.2.1 - u13.1)))) + (w64 (u13.2.1 * (w64 (u13.2.2.2 - u13.2.1)))))))) ≤ 0)) = true then k27 (true) else k27 ((decide ((w64 ((w64 ((w64 (u13.2.2.1 - u13.1)) * (w64 (u13.2.2.1 - u13.1)))) + (w64 ((w64 (u13.2.2.2 - u13.2.1)) * (w64 (u13.2.2.2 - u13.2.1)))))) ≤ (w64 (0 - (w64 ((w64 (u13.1 * (w64 (u13.2.2.1 - u13.1)))) + (w64 (u13.2.1 * (w64 (u13.2.2.2 - u13.2.1)))))))))))))
def F_spec_l1Most (x0 : Int) (x1 : Int) : Option Int :=
  (if (decide (x1 < x0)) = true then some x0 else some x1)
def F_spec_l1Abs (x0 : Int) : Option Int :=
  Option.bind (F_spec_l1Most x0 (w64 (0 - x0))) fun u3 =>
  some u3
def F_spec_mvPart_L1 (x0 : Int) (x1 : Int) : Nat → Int → Int → Option (Int × Int)
  | 0, _, _ => none
  | m + 1, y13, y14 => (if (decide (0 < y14)) = true then (if y14 = 0 then none else (F_spec_mvPart_L1 x0 x1 m) (y14) ((Int.tmod y13 y14))) else (if y13 = 0 then none else (if y13 = 0 then none else some ((w64 (Int.tdiv x0 y13)), (w64 (Int.tdiv x1 y13))))))
def F_spec_mvPart (x0 : Int) (x1 : Int) : Option (Int × Int) :=
  Option.bind (F_spec_l1Abs x0) fun u3 =>
  F_spec_mvPart_L1 x0 x1 FU (u3) (x1)
def F_spec_apLeast (x0 : ((Int × Int) × (Int × Int) × Int)) (x1 : ((Int × Int) × (Int × Int) × Int)) : Option (Int × Int) :=
  Option.bind (F_spec_apEnds x0 x1) fun u13 =>
  Option.bind (F_spec_apInner x0 x1) fun u21 =>
  (if (decide (0 < u21.2)) = true then Option.bind (F_spec_mvPart (w64 ((w64 ((w64 (u13.1 * u13.2.2.2)) - (w64 (u13.2.1 * u13.2.2.1)))) * (w64 ((w64 (u13.1 * u13.2.2.2)) - (w64 (u13.2.1 * u13.2.2.1)))))) u21.2) fun u31 =>
  some u31 else Option.bind (F_spec_l1Least (w64 ((w64 (u13.1 * u13.1)) + (w64 (u13.2.1 * u13.2.1)))) (w64 ((w64 (u13.2.2.1 * u13.2.2.1)) + (w64 (u13.2.2.2 * u13.2.2.2))))) fun u38 =>
  some (u38, 1))
def F_spec_apStay (x0 : ((Int × Int) × (Int × Int) × Int)) (x1 : ((Int × Int) × (Int × Int) × Int)) (x2 : Int) : Option Bool :=
  Option.bind (F_spec_apLeast x0 x1) fun u13 =>
  some (decide ((w64 ((w64 (x2 * x2)) * u13.2)) ≤ u13.1))
def F_spec_swClose_L2 (u8 : (List ((Int × Int) × (Int × Int) × Int))) (u35 : ((Int × Int) × (Int × Int) × Int)) (x0 : ((List (List (Int × Int))) × (List Int) × Int × Int)) (y25 : Int) (nx26 : ((List (List Int)) → Int → Option (List (List Int)))) : Nat → (List (List Int)) → Int → Option (List (List Int))
  | 0, _, _ => none
  | m + 1, l52, y55 => (if (decide (y55 < (List.length u8 : Int))) = true then jK1 (fun (l66 : (List (List Int))) => (F_spec_swClose_L2 u8 u35 x0 y25 nx26 m) (l66) ((w64 (y55 + 1)))) (fun k69 => Option.bind (idx u8 y55) fun u77 =>
  Option.bind (F_spec_apStay u35 u77 x0.2.2.1) fun u81 =>
  (if (!u81) = true then Option.bind (app l52 [[y25, y55]]) fun u104 =>
  k69 (u104) else k69 (l52))) else nx26 (l52) ((w64 (y25 + 1))))
def F_spec_swClose_L1 (u8 : (List ((Int × Int) × (Int × Int) × Int))) (x0 : ((List (List (Int × Int))) × (List Int) × Int × Int)) : Nat → (List (List Int)) → Int → Option (List (List Int))
  | 0, _, _ => none
  | m + 1, l22, y25 => (if (decide (y25 < (List.length u8 : Int))) = true then Option.bind (idx u8 y25) fun u35 =>
  F_spec_swClose_L2 u8 u35 x0 y25 (F_spec_swClose_L1 u8 x0 m) FU (l22) ((w64 (y25 + 1))) else some l22)
def F_spec_swClose (x0 : ((List (List (Int × Int))) × (List Int) × Int × Int)) (x1 : Int) : Option (List (List Int)) :=
  Option.bind (F_spec_swMoves x0 x1) fun u8 =>
  F_spec_swClose_L1 u8 x0 FU ([]) (0)
def F_spec_stSquare (x0 : (Int × Int)) (x1 : (Int × Int)) : Option Int :=
  some (w64 ((w64 ((w64 (x0.1 - x1.1)) * (w64 (x0.1 - x1.1)))) + (w64 ((w64 (x0.2 - x1.2)) * (w64 (x0.2 - x1.2))))))
def F_spec_mvWithin (x0 : ((Int × Int) × (Int × Int) × Int)) (x1 : Int) : Option Bool :=
  Option.bind (F_spec_stSquare x0.1 x0.2.1) fun u13 =>
  some (decide (u13 ≤ (w64 ((w64 ((w64 (x1 * x1)) * x0.2.2)) * x0.2.2))))
def F_spec_swWide_L1 (u10 : (List ((Int × Int) × (Int × Int) × Int))) (x0 : ((List (List (Int × Int))) × (List Int) × Int × Int)) : Nat → (List Int) → Int → Option (List Int)
  | 0, _, _ => none
  | m + 1, l21, y24 => (if (decide (y24 < (List.length u10 : Int))) = true then jK1 (fun (l36 : (List Int)) => (F_spec_swWide_L1 u10 x0 m) (l36) ((w64 (y24 + 1)))) (fun k39 => Option.bind (idx u10 y24) fun u42 =>
  Option.bind (F_spec_mvWithin u42 x0.2.2.2) fun u56 =>
  (if (!u56) = true then Option.bind (app l21 [y24]) fun u69 =>
  k39 (u69) else k39 (l21))) else some l21)
def F_spec_swWide (x0 : ((List (List (Int × Int))) × (List Int) × Int × Int)) (x1 : Int) : Option (List Int) :=
  Option.bind (F_spec_swMoves x0 x1) fun u10 =>
  F_spec_swWide_L1 u10 x0 FU ([]) (0)
def F_spec_swUnsafe_L1 (x0 : ((List (List (Int × Int))) × (List Int) × Int × Int)) : Nat → (List Int) → Int → Option (List Int)
  | 0, _, _ => none
  | m + 1, l13, y16 => (if (decide (y16 < (List.length x0.2.1 : Int))) = true then jK1 (fun (l28 : (List Int)) => (F_spec_swUnsafe_L1 x0 m) (l28) ((w64 (y16 + 1)))) (fun k31 => Option.bind (F_spec_swClose x0 y16) fun u40 =>
  Option.bind (F_spec_swWide x0 y16) fun u50 =>
  (if (decide (0 < (w64 ((List.length u40 : Int) + (List.length u50 : Int))))) = true then Option.bind (app l13 [y16]) fun u67 =>
  k31 (u67) else k31 (l13))) else some l13)
def F_spec_swUnsafe (x0 : ((List (List (Int × Int))) × (List Int) × Int × Int)) : Option (List Int) :=
  F_spec_swUnsafe_L1 x0 FU ([]) (0)
def F_spec_shOf_L1 (x1 : (List Int)) (x0 : (List (List (Int × Int)))) (x2 : Int) (u13 : (Int × Int)) : Nat → (List (Int × (Int × Int))) → Int → Option (Int × (Int × Int) × (List (Int × (Int × Int))))
  | 0, _, _ => none
  | m + 1, l30, y33 => (if (decide (y33 < (List.length x1 : Int))) = true then jK1 (fun (l45 : (List (Int × (Int × Int)))) => (F_spec_shOf_L1 x1 x0 x2 u13 m) (l45) ((w64 (y33 + 1)))) (fun k48 => Option.bind (idx x1 y33) fun u51 =>
  Option.bind (idx x0 (w64 (y33 + 1))) fun u59 =>
  Option.bind (idx u59 x2) fun u64 =>
  Option.bind (app l30 [(u51, u64)]) fun u78 =>
  k48 (u78)) else some (x2, u13, l30))
def F_spec_shOf (x0 : (List (List (Int × Int)))) (x1 : (List Int)) (x2 : Int) : Option (Int × (Int × Int) × (List (Int × (Int × Int)))) :=
  Option.bind (idx x0 0) fun u8 =>
  Option.bind (idx u8 x2) fun u13 =>
  F_spec_shOf_L1 x1 x0 x2 u13 FU ([]) (0)
def F_spec_PublishSheets_L1 (u21 : (List (Int × Int))) (x0 : ((List (List (Int × Int))) × (List Int) × Int × Int)) : Nat → (List (Int × (Int × Int) × (List (Int × (Int × Int))))) → Int → Option ((List (Int × (Int × Int) × (List (Int × (Int × Int))))) × Bool)
  | 0, _, _ => none
  | m + 1, l29, y32 => (if (decide (y32 < (List.length u21 : Int))) = true then Option.bind (F_spec_shOf x0.1 x0.2.1 y32) fun u42 =>
  Option.bind (app l29 [u42]) fun u59 =>
  (F_spec_PublishSheets_L1 u21 x0 m) (u59) ((w64 (y32 + 1))) else some (l29, true))
def F_spec_PublishSheets (x0 : ((List (List (Int × Int))) × (List Int) × Int × Int)) : Option ((List (Int × (Int × Int) × (List (Int × (Int × Int))))) × Bool) :=
  jK1 (fun (y12 : Bool) => (if y12 = true then some ([], false) else Option.bind (idx x0.1 0) fun u21 =>
  F_spec_PublishSheets_L1 u21 x0 FU ([]) (0))) (fun k13 => Option.bind (F_spec_swGood x0) fun u67 =>
  (if (!u67) = true then k13 (true) else Option.bind (F_spec_swUnsafe x0) fun u74 =>
  k13 ((decide (0 < (List.length u74 : Int))))))
def F_laws_pSameSheet_L1 (x0 : (Int × (Int × Int) × (List (Int × (Int × Int))))) (x1 : (Int × (Int × Int) × (List (Int × (Int × Int))))) : Nat → Int → Option Bool
  | 0, _ => none
  | m + 1, y27 => (if (decide (y27 < (List.length x0.2.2 : Int))) = true then Option.bind (idx x0.2.2 y27) fun u42 =>
  Option.bind (idx x1.2.2 y27) fun u45 =>
  (if (!(eqv_Row u42 u45)) = true then some false else (F_laws_pSameSheet_L1 x0 x1 m) ((w64 (y27 + 1)))) else some true)
def F_laws_pSameSheet (x0 : (Int × (Int × Int) × (List (Int × (Int × Int))))) (x1 : (Int × (Int × Int) × (List (Int × (Int × Int))))) : Option Bool :=
  jK1 (fun (y17 : Bool) => (if y17 = true then some false else F_laws_pSameSheet_L1 x0 x1 FU (0))) (fun k18 => (if (x0.1 != x1.1) = true then k18 (true) else (if (!(eqv_Spot x0.2.1 x1.2.1)) = true then k18 (true) else k18 (((List.length x0.2.2 : Int) != (List.length x1.2.2 : Int))))))
def F_laws_pSameSheets_L1 (x0 : (List (Int × (Int × Int) × (List (Int × (Int × Int)))))) (x1 : (List (Int × (Int × Int) × (List (Int × (Int × Int)))))) : Nat → Int → Option Bool
  | 0, _ => none
  | m + 1, y11 => (if (decide (y11 < (List.length x0 : Int))) = true then Option.bind (idx x0 y11) fun u26 =>
  Option.bind (idx x1 y11) fun u31 =>
  Option.bind (F_laws_pSameSheet u26 u31) fun u36 =>
  (if (!u36) = true then some false else (F_laws_pSameSheets_L1 x0 x1 m) ((w64 (y11 + 1)))) else some true)
def F_laws_pSameSheets (x0 : (List (Int × (Int × Int) × (List (Int × (Int × Int)))))) (x1 : (List (Int × (Int × Int) × (List (Int × (Int × Int)))))) : Option Bool :=
  (if ((List.length x0 : Int) != (List.length x1 : Int)) = true then some false else F_laws_pSameSheets_L1 x0 x1 FU (0))
def F_impl_isPart (x0 : ((List (List (Int × Int))) × (List Int) × Int × Int)) (x1 : Int) : Option Bool :=
  jK1 (fun (y11 : Bool) => some y11) (fun k12 => Option.bind (F_impl_IsShow x0) fun u14 =>
  (if u14 = true then Option.bind (F_impl_within x1 0 (w64 ((List.length x0.2.1 : Int) - 1))) fun u21 =>
  k12 (u21) else k12 (false)))
def F_impl_ShowMoves (x0 : ((List (List (Int × Int))) × (List Int) × Int × Int)) (x1 : Int) : Option ((List ((Int × Int) × (Int × Int) × Int)) × Bool) :=
  Option.bind (F_impl_isPart x0 x1) fun u9 =>
  (if (!u9) = true then some ([], false) else Option.bind (F_impl_showMoves x0 x1) fun u19 =>
  some (u19, true))
def F_spec_swHas (x0 : ((List (List (Int × Int))) × (List Int) × Int × Int)) (x1 : Int) : Option Bool :=
  jK1 (fun (y11 : Bool) => some y11) (fun k12 => Option.bind (F_spec_swGood x0) fun u14 =>
  (if u14 = true then Option.bind (F_spec_l1In x1 0 (w64 ((List.length x0.2.1 : Int) - 1))) fun u21 =>
  k12 (u21) else k12 (false)))
def F_spec_ShowMoves (x0 : ((List (List (Int × Int))) × (List Int) × Int × Int)) (x1 : Int) : Option ((List ((Int × Int) × (Int × Int) × Int)) × Bool) :=
  Option.bind (F_spec_swHas x0 x1) fun u9 =>
  (if (!u9) = true then some ([], false) else Option.bind (F_spec_swMoves x0 x1) fun u19 =>
  some (u19, true))
def F_laws_pSameMoves_L1 (x0 : (List ((Int × Int) × (Int × Int) × Int))) (x1 : (List ((Int × Int) × (Int × Int) × Int))) : Nat → Int → Option Bool
  | 0, _ => none
  | m + 1, y11 => (if (decide (y11 < (List.length x0 : Int))) = true then Option.bind (idx x0 y11) fun u26 =>
  Option.bind (idx x1 y11) fun u29 =>
  (if (!(eqv_Move u26 u29)) = true then some false else (F_laws_pSameMoves_L1 x0 x1 m) ((w64 (y11 + 1)))) else some true)
def F_laws_pSameMoves (x0 : (List ((Int × Int) × (Int × Int) × Int))) (x1 : (List ((Int × Int) × (Int × Int) × Int))) : Option Bool :=
  (if ((List.length x0 : Int) != (List.length x1 : Int)) = true then some false else F_laws_pSameMoves_L1 x0 x1 FU (0))
def F_impl_IsMove (x0 : ((Int × Int) × (Int × Int) × Int)) : Option Bool :=
  jK1 (fun (y11 : Bool) => some y11) (fun k12 => Option.bind (F_impl_IsSpot x0.1) fun u14 =>
  (if u14 = true then Option.bind (F_impl_IsSpot x0.2.1) fun u21 =>
  (if u21 = true then Option.bind (F_impl_within x0.2.2 1 64) fun u28 =>
  k12 (u28) else k12 (false)) else k12 (false)))
def F_impl_WithinStep (x0 : ((Int × Int) × (Int × Int) × Int)) (x1 : Int) : Option (Bool × Bool) :=
  jK1 (fun (y12 : Bool) => (if y12 = true then some (false, false) else Option.bind (F_impl_withinStep x0 x1) fun u18 =>
  some (u18, true))) (fun k13 => Option.bind (F_impl_IsMove x0) fun u24 =>
  (if (!u24) = true then k13 (true) else Option.bind (F_impl_within x1 1 24) fun u31 =>
  k13 ((!u31))))
def F_impl_goTogether (x0 : ((Int × Int) × (Int × Int) × Int)) (x1 : ((Int × Int) × (Int × Int) × Int)) : Option Bool :=
  jK1 (fun (y16 : Bool) => some y16) (fun k17 => Option.bind (F_impl_IsMove x0) fun u19 =>
  (if u19 = true then Option.bind (F_impl_IsMove x1) fun u26 =>
  (if u26 = true then k17 ((x0.2.2 == x1.2.2)) else k17 (false)) else k17 (false)))
def F_impl_LeastApart (x0 : ((Int × Int) × (Int × Int) × Int)) (x1 : ((Int × Int) × (Int × Int) × Int)) : Option (Int × Int × Bool) :=
  Option.bind (F_impl_goTogether x0 x1) fun u14 =>
  (if (!u14) = true then some (0, 0, false) else Option.bind (F_impl_leastApart x0 x1) fun u23 =>
  some (u23.1, u23.2, true))
def F_impl_placeAt (x0 : ((Int × Int) × (Int × Int) × Int)) (x1 : Int) : Option (Int × Int) :=
  some ((w64 ((w64 (x0.1.1 * x0.2.2)) + (w64 (x1 * (w64 (x0.2.1.1 - x0.1.1)))))), (w64 ((w64 (x0.1.2 * x0.2.2)) + (w64 (x1 * (w64 (x0.2.1.2 - x0.1.2)))))))
def F_impl_ApartAt (x0 : ((Int × Int) × (Int × Int) × Int)) (x1 : ((Int × Int) × (Int × Int) × Int)) (x2 : Int) : Option (Int × Int × Bool) :=
  jK1 (fun (y17 : Bool) => (if y17 = true then some (0, 0, false) else Option.bind (F_impl_placeAt x0 x2) fun u23 =>
  Option.bind (F_impl_placeAt x1 x2) fun u30 =>
  Option.bind (F_impl_lowestTerms (w64 ((w64 ((w64 (u23.1 - u30.1)) * (w64 (u23.1 - u30.1)))) + (w64 ((w64 (u23.2 - u30.2)) * (w64 (u23.2 - u30.2)))))) (w64 (x0.2.2 * x0.2.2))) fun u37 =>
  some (u37.1, u37.2, true))) (fun k18 => Option.bind (F_impl_goTogether x0 x1) fun u44 =>
  (if (!u44) = true then k18 (true) else Option.bind (F_impl_within x2 0 x0.2.2) fun u51 =>
  k18 ((!u51))))
def F_impl_IsSheet_L1 (x0 : (Int × (Int × Int) × (List (Int × (Int × Int))))) : Nat → Int → Option Bool
  | 0, _ => none
  | m + 1, y22 => (if (decide (y22 < (List.length x0.2.2 : Int))) = true then Option.bind (idx x0.2.2 y22) fun u31 =>
  jK1 (fun (y47 : Bool) => (if y47 = true then some false else (F_impl_IsSheet_L1 x0 m) ((w64 (y22 + 1))))) (fun k48 => Option.bind (F_impl_within u31.1 1 64) fun u52 =>
  (if (!u52) = true then k48 (true) else Option.bind (F_impl_IsSpot u31.2) fun u59 =>
  k48 ((!u59)))) else some true)
def F_impl_IsSheet (x0 : (Int × (Int × Int) × (List (Int × (Int × Int))))) : Option Bool :=
  jK1 (fun (y12 : Bool) => (if y12 = true then some false else F_impl_IsSheet_L1 x0 FU (0))) (fun k13 => Option.bind (F_impl_within x0.1 0 11) fun u66 =>
  (if (!u66) = true then k13 (true) else Option.bind (F_impl_IsSpot x0.2.1) fun u73 =>
  (if (!u73) = true then k13 (true) else k13 ((decide (8 < (List.length x0.2.2 : Int)))))))
def F_impl_sheetMoves_L1 (x0 : (Int × (Int × Int) × (List (Int × (Int × Int))))) : Nat → (List ((Int × Int) × (Int × Int) × Int)) → Int → Int → Int → Option (List ((Int × Int) × (Int × Int) × Int))
  | 0, _, _, _, _ => none
  | m + 1, l24, y27, y28, y29 => (if (decide (y29 < (List.length x0.2.2 : Int))) = true then Option.bind (idx x0.2.2 y29) fun u38 =>
  Option.bind (app l24 [((y27, y28), u38.2, u38.1)]) fun u57 =>
  (F_impl_sheetMoves_L1 x0 m) (u57) (u38.2.1) (u38.2.2) ((w64 (y29 + 1))) else some l24)
def F_impl_sheetMoves (x0 : (Int × (Int × Int) × (List (Int × (Int × Int))))) : Option (List ((Int × Int) × (Int × Int) × Int)) :=
  jK3 (fun (l11 : (List ((Int × Int) × (Int × Int) × Int))) (y15 : Int) (y16 : Int) => F_impl_sheetMoves_L1 x0 FU (l11) (y15) (y16) (0)) (fun k17 => k17 ([]) (x0.2.1.1) (x0.2.1.2))
def F_impl_floorDiv (x0 : Int) (x1 : Int) : Option Int :=
  (if x1 = 0 then none else jK1 (fun (y8 : Int) => some y8) (fun k9 => (if x1 = 0 then none else (if (decide ((Int.tmod x0 x1) < 0)) = true then k9 ((w64 ((w64 (Int.tdiv x0 x1)) - 1))) else k9 ((w64 (Int.tdiv x0 x1)))))))
def F_impl_roundDiv (x0 : Int) (x1 : Int) : Option Int :=
  Option.bind (F_impl_floorDiv (w64 ((w64 (2 * x0)) + x1)) (w64 (2 * x1))) fun u3 =>
  some u3
def F_impl_roundedAt (x0 : ((Int × Int) × (Int × Int) × Int)) (x1 : Int) : Option (Int × Int) :=
  Option.bind (F_impl_placeAt x0 x1) fun u13 =>
  Option.bind (F_impl_roundDiv u13.1 x0.2.2) fun u25 =>
  Option.bind (F_impl_roundDiv u13.2 x0.2.2) fun u33 =>
  some (u25, u33)
def F_impl_SpotAfter_L1 (u28 : (List ((Int × Int) × (Int × Int) × Int))) (x0 : (Int × (Int × Int) × (List (Int × (Int × Int))))) : Nat → Int → Int → Option ((Int × Int) × Bool)
  | 0, _, _ => none
  | m + 1, y39, y40 => (if (decide (y40 < (List.length u28 : Int))) = true then Option.bind (idx u28 y40) fun u49 =>
  (if (decide (y39 ≤ u49.2.2)) = true then Option.bind (F_impl_roundedAt u49 y39) fun u66 =>
  some (u66, true) else (F_impl_SpotAfter_L1 u28 x0 m) ((w64 (y39 - u49.2.2))) ((w64 (y40 + 1)))) else (if (decide (0 < y39)) = true then some ((0, 0), false) else some (x0.2.1, true)))
def F_impl_SpotAfter (x0 : (Int × (Int × Int) × (List (Int × (Int × Int))))) (x1 : Int) : Option ((Int × Int) × Bool) :=
  jK1 (fun (y17 : Bool) => (if y17 = true then some ((0, 0), false) else Option.bind (F_impl_sheetMoves x0) fun u28 =>
  F_impl_SpotAfter_L1 u28 x0 FU (x1) (0))) (fun k18 => Option.bind (F_impl_IsSheet x0) fun u89 =>
  (if (!u89) = true then k18 (true) else k18 ((decide (x1 < 0)))))
def F_impl_stepsText (x0 : Int) : Option (List UInt8) :=
  Option.bind (F_strconv_Itoa (w64 (Int.tdiv x0 8))) fun u3 =>
  jK1 (fun (y13 : (List UInt8)) => some y13) (fun k14 => (if (decide (0 < (Int.tmod x0 8))) = true then Option.bind (F_strconv_Itoa (Int.tmod x0 8)) fun u19 =>
  Option.bind (app [43] u19) fun u25 =>
  Option.bind (app u3 u25) fun u26 =>
  k14 (u26) else k14 (u3)))
def F_impl_SpotText (x0 : (Int × Int)) : Option ((List UInt8) × Bool) :=
  Option.bind (F_impl_IsSpot x0) fun u9 =>
  (if (!u9) = true then some ([], false) else Option.bind (F_impl_stepsText x0.1) fun u23 =>
  Option.bind (app u23 [44]) fun u30 =>
  Option.bind (F_impl_stepsText x0.2) fun u31 =>
  Option.bind (app u30 u31) fun u38 =>
  some (u38, true))
def F_impl_sheetText_L1 (x0 : (Int × (Int × Int) × (List (Int × (Int × Int))))) : Nat → (List Int) → Int → Option (List UInt8)
  | 0, _, _ => none
  | m + 1, l45, y48 => (if (decide (y48 < (List.length x0.2.2 : Int))) = true then Option.bind (idx x0.2.2 y48) fun u57 =>
  Option.bind (F_impl_SpotText u57.2) fun u70 =>
  Option.bind (F_strconv_Itoa u57.1) fun u76 =>
  Option.bind (app u76 [32]) fun u82 =>
  Option.bind (app u82 u70.1) fun u83 =>
  Option.bind (app u83 [10]) fun u84 =>
  Option.bind (bwr l45 u84) fun u85 =>
  (F_impl_sheetText_L1 x0 m) (u85) ((w64 (y48 + 1))) else Option.bind (bstr l45) fun u94 =>
  some u94)
def F_impl_sheetText (x0 : (Int × (Int × Int) × (List (Int × (Int × Int))))) : Option (List UInt8) :=
  Option.bind (F_impl_SpotText x0.2.1) fun u14 =>
  Option.bind (F_strconv_Itoa x0.1) fun u21 =>
  Option.bind (app [112, 101, 114, 102, 111, 114, 109, 101, 114, 32] u21) fun u27 =>
  Option.bind (app u27 [32]) fun u28 =>
  Option.bind (app u28 u14.1) fun u29 =>
  Option.bind (app u29 [10]) fun u30 =>
  Option.bind (bwr [] u30) fun u32 =>
  F_impl_sheetText_L1 x0 FU (u32) (0)
def F_impl_SheetText (x0 : (Int × (Int × Int) × (List (Int × (Int × Int))))) : Option ((List UInt8) × Bool) :=
  Option.bind (F_impl_IsSheet x0) fun u9 =>
  (if (!u9) = true then some ([], false) else Option.bind (F_impl_sheetText x0) fun u18 =>
  some (u18, true))
def F_stringslite_IndexByte (x0 : (List UInt8)) (x1 : Int) : Option Int :=
  some (idxB x0 x1)
def F_stringslite_Index (x0 : (List UInt8)) (x1 : (List UInt8)) : Option Int :=
  jK1 (fun (y8 : Bool) => (if y8 = true then some 0 else (if ((List.length x1 : Int) == 1) = true then Option.bind (idx x1 0) fun u16 =>
  Option.bind (F_stringslite_IndexByte x0 (UInt8.toNat u16 : Int)) fun u17 =>
  some u17 else (if (decide ((List.length x0 : Int) ≤ (List.length x1 : Int))) = true then some (-1) else none)))) (fun k9 => (if ((List.length x1 : Int) == 0) = true then k9 (true) else k9 ((x1 == x0))))
def F_strings_Index (x0 : (List UInt8)) (x1 : (List UInt8)) : Option Int :=
  Option.bind (F_stringslite_Index x0 x1) fun u3 =>
  some u3
def F_strings_Count_L1 (x1 : (List UInt8)) : Nat → (List UInt8) → Int → Option Int
  | 0, _, _ => none
  | m + 1, y15, y16 => Option.bind (F_strings_Index y15 x1) fun u21 =>
  (if (u21 == (-1)) = true then some y16 else Option.bind (sl y15 (w64 (u21 + (List.length x1 : Int))) (List.length y15 : Int)) fun u32 =>
  (F_strings_Count_L1 x1 m) (u32) ((w64 (y16 + 1))))
def F_strings_Count (x0 : (List UInt8)) (x1 : (List UInt8)) : Option Int :=
  (if ((List.length x1 : Int) == 0) = true then none else (if ((List.length x1 : Int) == 1) = true then Option.bind (idx x1 0) fun u10 =>
  some (cntB x0 (UInt8.toNat u10 : Int)) else F_strings_Count_L1 x1 FU (x0) (0)))
def F_strings_genSplit_L1 (y15 : Int) (x0 : (List UInt8)) (x1 : (List UInt8)) (k38 : ((List UInt8) → (List (List UInt8)) → Int → Option (List (List UInt8)))) (x2 : Int) : Nat → (List UInt8) → (List (List UInt8)) → Int → Option (List (List UInt8))
  | 0, _, _, _ => none
  | m + 1, y64, l65, y68 => (if (decide (y68 < (w64 ((minI y15 (w64 ((List.length x0 : Int) + 1))) - 1)))) = true then Option.bind (F_strings_Index y64 x1) fun u76 =>
  (if (decide (u76 < 0)) = true then k38 (y64) (l65) (y68) else Option.bind (sl y64 0 (w64 (u76 + x2))) fun u86 =>
  Option.bind (idx l65 y68) fun u87 =>
  Option.bind (sl y64 (w64 (u76 + (List.length x1 : Int))) (List.length y64 : Int)) fun u96 =>
  (F_strings_genSplit_L1 y15 x0 x1 k38 x2 m) (u96) ((seti l65 y68 u86)) ((w64 (y68 + 1)))) else k38 (y64) (l65) (y68))
def F_strings_genSplit (x0 : (List UInt8)) (x1 : (List UInt8)) (x2 : Int) (x3 : Int) : Option (List (List UInt8)) :=
  (if (x3 == 0) = true then some [] else (if (x1 == []) = true then none else jK1 (fun (y15 : Int) => Option.bind (mkL (minI y15 (w64 ((List.length x0 : Int) + 1))) []) fun u20 =>
  jK3 (fun (y33 : (List UInt8)) (l34 : (List (List UInt8))) (y37 : Int) => Option.bind (idx l34 y37) fun u41 =>
  Option.bind (sl (seti l34 y37 y33) 0 (w64 (y37 + 1))) fun u50 =>
  some u50) (fun k38 => F_strings_genSplit_L1 y15 x0 x1 k38 x2 FU (x0) (u20) (0))) (fun k16 => (if (decide (x3 < 0)) = true then Option.bind (F_strings_Count x0 x1) fun u99 =>
  k16 ((w64 (u99 + 1))) else k16 (x3)))))
def F_strings_Split (x0 : (List UInt8)) (x1 : (List UInt8)) : Option (List (List UInt8)) :=
  Option.bind (F_strings_genSplit x0 x1 0 (-1)) fun u3 =>
  some u3
def F_impl_linesOf (x0 : (List UInt8)) : Option ((List (List UInt8)) × Bool) :=
  (if (x0 == []) = true then some ([], true) else Option.bind (idx x0 (w64 ((List.length x0 : Int) - 1))) fun u14 =>
  (if ((UInt8.toNat u14 : Int) != 10) = true then some ([], false) else Option.bind (sl x0 0 (w64 ((List.length x0 : Int) - 1))) fun u19 =>
  Option.bind (F_strings_Split u19 [10]) fun u20 =>
  some (u20, true)))
def F_impl_natural_L1 (x0 : (List UInt8)) : Nat → Int → Int → Option (Int × Bool)
  | 0, _, _ => none
  | m + 1, y18, y19 => (if (decide (y19 < (List.length x0 : Int))) = true then jK1 (fun (y32 : Bool) => (if y32 = true then some (0, false) else Option.bind (idx x0 y19) fun u37 =>
  (F_impl_natural_L1 x0 m) ((w64 ((w64 (10 * y18)) + (w64 (wu8 ((UInt8.toNat u37 : Int) - 48)))))) ((w64 (y19 + 1))))) (fun k33 => Option.bind (idx x0 y19) fun u38 =>
  (if (decide ((UInt8.toNat u38 : Int) < 48)) = true then k33 (true) else Option.bind (idx x0 y19) fun u40 =>
  k33 ((decide (57 < (UInt8.toNat u40 : Int)))))) else some (y18, true))
def F_impl_natural (x0 : (List UInt8)) : Option (Int × Bool) :=
  jK1 (fun (y7 : Bool) => (if y7 = true then some (0, false) else F_impl_natural_L1 x0 FU (0) (0))) (fun k8 => (if (x0 == []) = true then k8 (true) else (if (decide (9 < (List.length x0 : Int))) = true then k8 (true) else (if (decide (1 < (List.length x0 : Int))) = true then Option.bind (idx x0 0) fun u45 =>
  k8 (((UInt8.toNat u45 : Int) == 48)) else k8 (false)))))
def F_stringslite_Cut (x0 : (List UInt8)) (x1 : (List UInt8)) : Option ((List UInt8) × (List UInt8) × Bool) :=
  Option.bind (F_stringslite_Index x0 x1) fun u4 =>
  (if (decide (0 ≤ u4)) = true then Option.bind (sl x0 0 u4) fun u18 =>
  Option.bind (sl x0 (w64 (u4 + (List.length x1 : Int))) (List.length x0 : Int)) fun u19 =>
  some (u18, u19, true) else some (x0, [], false))
def F_strings_Cut (x0 : (List UInt8)) (x1 : (List UInt8)) : Option ((List UInt8) × (List UInt8) × Bool) :=
  Option.bind (F_stringslite_Cut x0 x1) fun u3 =>
  some u3
def F_impl_readSteps (x0 : (List UInt8)) : Option (Int × Bool) :=
  Option.bind (F_strings_Cut x0 [43]) fun u3 =>
  Option.bind (F_impl_natural u3.1) fun u10 =>
  (if (!u10.2) = true then some (0, false) else (if (!u3.2.2) = true then some ((w64 (8 * u10.1)), true) else Option.bind (F_impl_natural u3.2.1) fun u25 =>
  jK1 (fun (y36 : Bool) => (if y36 = true then some (0, false) else some ((w64 ((w64 (8 * u10.1)) + u25.1)), true))) (fun k37 => (if (!u25.2) = true then k37 (true) else Option.bind (F_impl_within u25.1 1 7) fun u43 =>
  k37 ((!u43))))))
def F_impl_ParseSpot (x0 : (List UInt8)) : Option ((Int × Int) × Bool) :=
  Option.bind (F_strings_Cut x0 [44]) fun u8 =>
  (if (!u8.2.2) = true then some ((0, 0), false) else Option.bind (F_impl_readSteps u8.1) fun u23 =>
  Option.bind (F_impl_readSteps u8.2.1) fun u30 =>
  jK1 (fun (y51 : Bool) => (if y51 = true then some ((0, 0), false) else some ((u23.1, u30.1), true))) (fun k52 => (if (!u23.2) = true then k52 (true) else (if (!u30.2) = true then k52 (true) else Option.bind (F_impl_IsSpot (u23.1, u30.1)) fun u67 =>
  k52 ((!u67))))))
def F_impl_ParseSheet_L1 (u141 : (List (List UInt8))) (u80 : (Int × Bool)) (u91 : ((Int × Int) × Bool)) : Nat → (List (Int × (Int × Int))) → Int → Option ((Int × (Int × Int) × (List (Int × (Int × Int)))) × Bool)
  | 0, _, _ => none
  | m + 1, l149, y153 => (if (decide (y153 < (List.length u141 : Int))) = true then Option.bind (idx u141 y153) fun u162 =>
  Option.bind (F_strings_Cut u162 [32]) fun u166 =>
  Option.bind (F_impl_natural u166.1) fun u173 =>
  Option.bind (F_impl_ParseSpot u166.2.1) fun u180 =>
  jK1 (fun (y201 : Bool) => (if y201 = true then some ((0, (0, 0), []), false) else Option.bind (app l149 [(u173.1, u180.1)]) fun u217 =>
  (F_impl_ParseSheet_L1 u141 u80 u91 m) (u217) ((w64 (y153 + 1))))) (fun k202 => (if (!u166.2.2) = true then k202 (true) else (if (!u173.2) = true then k202 (true) else k202 ((!u180.2))))) else Option.bind (F_impl_IsSheet (u80.1, u91.1, l149)) fun u232 =>
  (if (!u232) = true then some ((0, (0, 0), []), false) else some ((u80.1, u91.1, l149), true)))
def F_impl_ParseSheet (x0 : (List UInt8)) : Option ((Int × (Int × Int) × (List (Int × (Int × Int)))) × Bool) :=
  Option.bind (F_impl_linesOf x0) fun u8 =>
  jK1 (fun (y21 : Bool) => (if y21 = true then some ((0, (0, 0), []), false) else Option.bind (idx u8.1 0) fun u48 =>
  Option.bind (F_strings_Split u48 [32]) fun u52 =>
  jK1 (fun (y65 : Bool) => (if y65 = true then some ((0, (0, 0), []), false) else Option.bind (idx u52 1) fun u76 =>
  Option.bind (F_impl_natural u76) fun u80 =>
  Option.bind (idx u52 2) fun u87 =>
  Option.bind (F_impl_ParseSpot u87) fun u91 =>
  jK1 (fun (y111 : Bool) => (if y111 = true then some ((0, (0, 0), []), false) else Option.bind (sl u8.1 1 (List.length u8.1 : Int)) fun u141 =>
  F_impl_ParseSheet_L1 u141 u80 u91 FU ([]) (0))) (fun k112 => (if (!u80.2) = true then k112 (true) else k112 ((!u91.2)))))) (fun k66 => (if ((List.length u52 : Int) != 3) = true then k66 (true) else Option.bind (idx u52 0) fun u252 =>
  k66 ((u252 != [112, 101, 114, 102, 111, 114, 109, 101, 114])))))) (fun k22 => (if (!u8.2) = true then k22 (true) else Option.bind (F_impl_within (List.length u8.1 : Int) 1 9) fun u257 =>
  k22 ((!u257))))
def F_impl_copyInts (x0 : (List Int)) : Option (List Int) :=
  Option.bind (app [] x0) fun u9 =>
  some u9
def F_impl_copyShow_L1 (x0 : ((List (List (Int × Int))) × (List Int) × Int × Int)) (l20 : (List Int)) (y23 : Int) (y24 : Int) : Nat → (List (List (Int × Int))) → Int → Option ((List (List (Int × Int))) × (List Int) × Int × Int)
  | 0, _, _ => none
  | m + 1, l32, y35 => (if (decide (y35 < (List.length x0.1 : Int))) = true then jK1 (fun (l46 : (List (List (Int × Int)))) => (F_impl_copyShow_L1 x0 l20 y23 y24 m) (l46) ((w64 (y35 + 1)))) (fun k49 => Option.bind (idx x0.1 y35) fun u52 =>
  Option.bind (app [] u52) fun u74 =>
  Option.bind (app l32 [u74]) fun u94 =>
  k49 (u94)) else some (l32, l20, y23, y24))
def F_impl_copyShow (x0 : ((List (List (Int × Int))) × (List Int) × Int × Int)) : Option ((List (List (Int × Int))) × (List Int) × Int × Int) :=
  jK4 (fun (l17 : (List (List (Int × Int)))) (l20 : (List Int)) (y23 : Int) (y24 : Int) => F_impl_copyShow_L1 x0 l20 y23 y24 FU (l17) (0)) (fun k25 => Option.bind (F_impl_copyInts x0.2.1) fun u236 =>
  k25 ([]) (u236) (x0.2.2.1) (x0.2.2.2))
def F_impl_NewMarch (x0 : ((List (List (Int × Int))) × (List Int) × Int × Int)) : Option ((((List (List (Int × Int))) × (List Int) × Int × Int) × Int × (List Int) × (List Int)) × Bool) :=
  Option.bind (F_impl_IsShow x0) fun u14 =>
  (if (!u14) = true then some ((([], [], 0, 0), 0, [], []), false) else jK7 (fun (l34 : (List (List (Int × Int)))) (l37 : (List Int)) (y40 : Int) (y41 : Int) (l42 : (List Int)) (l45 : (List Int)) (y48 : Bool) => some (((l34, l37, y40, y41), 0, l42, l45), y48)) (fun k49 => Option.bind (idx x0.1 0) fun u56 =>
  Option.bind (F_impl_copyShow x0) fun u61 =>
  Option.bind (mkL (List.length u56 : Int) 0) fun u86 =>
  k49 (u61.1) (u61.2.1) (u61.2.2.1) (u61.2.2.2) ([]) (u86) (true)))
def F_impl_totalCounts_L1 (x0 : ((List (List (Int × Int))) × (List Int) × Int × Int)) : Nat → Int → Int → Option Int
  | 0, _, _ => none
  | m + 1, y13, y14 => (if (decide (y14 < (List.length x0.2.1 : Int))) = true then Option.bind (idx x0.2.1 y14) fun u23 =>
  (F_impl_totalCounts_L1 x0 m) ((w64 (y13 + u23))) ((w64 (y14 + 1))) else some y13)
def F_impl_totalCounts (x0 : ((List (List (Int × Int))) × (List Int) × Int × Int)) : Option Int :=
  F_impl_totalCounts_L1 x0 FU (0) (0)
def F_impl_TotalCounts (x0 : ((List (List (Int × Int))) × (List Int) × Int × Int)) : Option (Int × Bool) :=
  Option.bind (F_impl_IsShow x0) fun u9 =>
  (if (!u9) = true then some (0, false) else Option.bind (F_impl_totalCounts x0) fun u18 =>
  some (u18, true))
def F_laws_pSum_L1 (x0 : (List Int)) : Nat → Int → Int → Option Int
  | 0, _, _ => none
  | m + 1, y8, y9 => (if (decide (y9 < (List.length x0 : Int))) = true then Option.bind (idx x0 y9) fun u18 =>
  (F_laws_pSum_L1 x0 m) ((w64 (y8 + u18))) ((w64 (y9 + 1))) else some y8)
def F_laws_pSum (x0 : (List Int)) : Option Int :=
  F_laws_pSum_L1 x0 FU (0) (0)
def F_impl_arePerformers_L1 (x0 : (List Int)) (x1 : Int) : Nat → Int → Option Bool
  | 0, _ => none
  | m + 1, y7 => (if (decide (y7 < (List.length x0 : Int))) = true then Option.bind (idx x0 y7) fun u16 =>
  jK1 (fun (y23 : Bool) => (if y23 = true then some false else (F_impl_arePerformers_L1 x0 x1 m) ((w64 (y7 + 1))))) (fun k24 => Option.bind (F_impl_within u16 0 (w64 (x1 - 1))) fun u28 =>
  (if (!u28) = true then k24 (true) else (if (decide (0 < y7)) = true then Option.bind (idx x0 (w64 (y7 - 1))) fun u36 =>
  k24 ((decide (u16 ≤ u36))) else k24 (false)))) else some true)
def F_impl_arePerformers (x0 : (List Int)) (x1 : Int) : Option Bool :=
  F_impl_arePerformers_L1 x0 x1 FU (0)
def F_impl_IsMarch_L1 (x0 : (((List (List (Int × Int))) × (List Int) × Int × Int) × Int × (List Int) × (List Int))) : Nat → Int → Option Bool
  | 0, _ => none
  | m + 1, y22 => (if (decide (y22 < (List.length x0.2.2.2 : Int))) = true then Option.bind (idx x0.2.2.2 y22) fun u31 =>
  Option.bind (F_impl_within u31 0 x0.2.1) fun u35 =>
  (if (!u35) = true then some false else (F_impl_IsMarch_L1 x0 m) ((w64 (y22 + 1)))) else some true)
def F_impl_IsMarch (x0 : (((List (List (Int × Int))) × (List Int) × Int × Int) × Int × (List Int) × (List Int))) : Option Bool :=
  jK1 (fun (y12 : Bool) => (if y12 = true then some false else F_impl_IsMarch_L1 x0 FU (0))) (fun k13 => Option.bind (F_impl_IsShow x0.1) fun u49 =>
  (if (!u49) = true then k13 (true) else Option.bind (F_impl_within x0.2.1 0 1000) fun u57 =>
  (if (!u57) = true then k13 (true) else Option.bind (idx x0.1.1 0) fun u65 =>
  Option.bind (F_impl_arePerformers x0.2.2.1 (List.length u65 : Int)) fun u70 =>
  (if (!u70) = true then k13 (true) else Option.bind (idx x0.1.1 0) fun u78 =>
  k13 (((List.length x0.2.2.2 : Int) != (List.length u78 : Int)))))))
def F_impl_copyMarch (x0 : (((List (List (Int × Int))) × (List Int) × Int × Int) × Int × (List Int) × (List Int))) : Option (((List (List (Int × Int))) × (List Int) × Int × Int) × Int × (List Int) × (List Int)) :=
  Option.bind (F_impl_copyShow x0.1) fun u18 =>
  Option.bind (F_impl_copyInts x0.2.2.1) fun u32 =>
  Option.bind (F_impl_copyInts x0.2.2.2) fun u43 =>
  some (u18, x0.2.1, u32, u43)
def F_impl_BeatOnce_L1 (u31 : (((List (List (Int × Int))) × (List Int) × Int × Int) × Int × (List Int) × (List Int))) : Nat → (List Int) → Int → Option ((((List (List (Int × Int))) × (List Int) × Int × Int) × Int × (List Int) × (List Int)) × Bool)
  | 0, _, _ => none
  | m + 1, l64, y67 => (if (decide (y67 < (List.length u31.2.2.1 : Int))) = true then Option.bind (idx u31.2.2.1 y67) fun u76 =>
  Option.bind (idx l64 u76) fun u80 =>
  Option.bind (idx l64 u76) fun u84 =>
  (F_impl_BeatOnce_L1 u31 m) ((seti l64 u76 (w64 (u80 + 1)))) ((w64 (y67 + 1))) else some ((u31.1, (w64 (u31.2.1 + 1)), u31.2.2.1, l64), true))
def F_impl_BeatOnce (x0 : (((List (List (Int × Int))) × (List Int) × Int × Int) × Int × (List Int) × (List Int))) : Option ((((List (List (Int × Int))) × (List Int) × Int × Int) × Int × (List Int) × (List Int)) × Bool) :=
  jK1 (fun (y17 : Bool) => (if y17 = true then some ((([], [], 0, 0), 0, [], []), false) else Option.bind (F_impl_copyMarch x0) fun u31 =>
  F_impl_BeatOnce_L1 u31 FU (u31.2.2.2) (0))) (fun k18 => Option.bind (F_impl_IsMarch x0) fun u97 =>
  (if (!u97) = true then k18 (true) else k18 ((x0.2.1 == 1000))))
def F_impl_ownCount (x0 : (((List (List (Int × Int))) × (List Int) × Int × Int) × Int × (List Int) × (List Int))) (x1 : Int) : Option Int :=
  Option.bind (idx x0.2.2.2 x1) fun u13 =>
  Option.bind (F_impl_totalCounts x0.1) fun u16 =>
  some (minI (w64 (x0.2.1 - u13)) u16)
def F_impl_whereNow (x0 : (((List (List (Int × Int))) × (List Int) × Int × Int) × Int × (List Int) × (List Int))) (x1 : Int) : Option (Int × Int) :=
  jK2 (fun (y17 : Int) (y18 : Int) => some (y17, y18)) (fun k19 => Option.bind (F_impl_sheetOf x0.1.1 x0.1.2.1 x1) fun u31 =>
  Option.bind (F_impl_ownCount x0 x1) fun u41 =>
  Option.bind (F_impl_SpotAfter u31 u41) fun u48 =>
  k19 (u48.1.1) (u48.1.2))
def F_impl_placesNow_L1 (x0 : (((List (List (Int × Int))) × (List Int) × Int × Int) × Int × (List Int) × (List Int))) : Nat → (List (Int × Int)) → Int → Option (List (Int × Int))
  | 0, _, _ => none
  | m + 1, l19, y22 => (if (decide (y22 < (List.length x0.2.2.2 : Int))) = true then Option.bind (F_impl_whereNow x0 y22) fun u31 =>
  Option.bind (app l19 [u31]) fun u43 =>
  (F_impl_placesNow_L1 x0 m) (u43) ((w64 (y22 + 1))) else some l19)
def F_impl_placesNow (x0 : (((List (List (Int × Int))) × (List Int) × Int × Int) × Int × (List Int) × (List Int))) : Option (List (Int × Int)) :=
  F_impl_placesNow_L1 x0 FU ([]) (0)
def F_impl_PlacesNow (x0 : (((List (List (Int × Int))) × (List Int) × Int × Int) × Int × (List Int) × (List Int))) : Option ((List (Int × Int)) × Bool) :=
  Option.bind (F_impl_IsMarch x0) fun u9 =>
  (if (!u9) = true then some ([], false) else Option.bind (F_impl_placesNow x0) fun u19 =>
  some (u19, true))
def F_impl_StillGoing_L1 (x0 : (((List (List (Int × Int))) × (List Int) × Int × Int) × Int × (List Int) × (List Int))) : Nat → (List Int) → Int → Option ((List Int) × Bool)
  | 0, _, _ => none
  | m + 1, l30, y33 => (if (decide (y33 < (List.length x0.2.2.2 : Int))) = true then jK1 (fun (l44 : (List Int)) => (F_impl_StillGoing_L1 x0 m) (l44) ((w64 (y33 + 1)))) (fun k47 => Option.bind (F_impl_ownCount x0 y33) fun u56 =>
  Option.bind (F_impl_totalCounts x0.1) fun u63 =>
  (if (decide (u56 < u63)) = true then Option.bind (app l30 [y33]) fun u78 =>
  k47 (u78) else k47 (l30))) else some (l30, true))
def F_impl_StillGoing (x0 : (((List (List (Int × Int))) × (List Int) × Int × Int) × Int × (List Int) × (List Int))) : Option ((List Int) × Bool) :=
  Option.bind (F_impl_IsMarch x0) fun u9 =>
  (if (!u9) = true then some ([], false) else F_impl_StillGoing_L1 x0 FU ([]) (0))
def F_laws_pSameSpots_L1 (x0 : (List (Int × Int))) (x1 : (List (Int × Int))) : Nat → Int → Option Bool
  | 0, _ => none
  | m + 1, y11 => (if (decide (y11 < (List.length x0 : Int))) = true then Option.bind (idx x0 y11) fun u26 =>
  Option.bind (idx x1 y11) fun u29 =>
  (if (!(eqv_Spot u26 u29)) = true then some false else (F_laws_pSameSpots_L1 x0 x1 m) ((w64 (y11 + 1)))) else some true)
def F_laws_pSameSpots (x0 : (List (Int × Int))) (x1 : (List (Int × Int))) : Option Bool :=
  (if ((List.length x0 : Int) != (List.length x1 : Int)) = true then some false else F_laws_pSameSpots_L1 x0 x1 FU (0))
def F_laws_FnTop_L4 (u119 : ((Int × Int) × (Int × Int) × Int)) (u88 : ((List ((Int × Int) × (Int × Int) × Int)) × Bool)) (y158 : Int) (u13 : ((List (List (Int × Int))) × (List Int) × Int × Int)) (nx159 : (Int → Option Bool)) : Nat → Int → Option Bool
  | 0, _ => none
  | m + 1, y199 => (if (decide (y199 ≤ u119.2.2)) = true then Option.bind (idx u88.1 y158) fun u213 =>
  Option.bind (F_impl_ApartAt u119 u213 y199) fun u217 =>
  jK1 (fun (y229 : Bool) => (if y229 = true then some false else (F_laws_FnTop_L4 u119 u88 y158 u13 nx159 m) ((w64 (y199 + 1))))) (fun k230 => (if (!u217.2.2) = true then k230 (true) else (if (decide (u217.2.1 < 1)) = true then k230 (true) else k230 ((decide (u217.1 < (w64 ((w64 (u13.2.2.1 * u13.2.2.1)) * u217.2.1)))))))) else nx159 ((w64 (y158 + 1))))
def F_laws_FnTop_L3 (u150 : (List ((Int × Int) × (Int × Int) × Int))) (u88 : ((List ((Int × Int) × (Int × Int) × Int)) × Bool)) (u119 : ((Int × Int) × (Int × Int) × Int)) (u13 : ((List (List (Int × Int))) × (List Int) × Int × Int)) (nx111 : (Int → Option Bool)) (y110 : Int) : Nat → Int → Option Bool
  | 0, _ => none
  | m + 1, y158 => (if (decide (y158 < (List.length u150 : Int))) = true then Option.bind (idx u88.1 y158) fun u173 =>
  Option.bind (F_impl_LeastApart u119 u173) fun u177 =>
  jK1 (fun (y190 : Bool) => (if y190 = true then some false else F_laws_FnTop_L4 u119 u88 y158 u13 (F_laws_FnTop_L3 u150 u88 u119 u13 nx111 y110 m) FU (0))) (fun k191 => (if (!u177.2.2) = true then k191 (true) else (if (decide (u177.2.1 < 1)) = true then k191 (true) else k191 ((decide (u177.1 < (w64 ((w64 (u13.2.2.1 * u13.2.2.1)) * u177.2.1)))))))) else nx111 ((w64 (y110 + 1))))
def F_laws_FnTop_L2 (u88 : ((List ((Int × Int) × (Int × Int) × Int)) × Bool)) (u13 : ((List (List (Int × Int))) × (List Int) × Int × Int)) (nx70 : (Int → Option Bool)) (y69 : Int) : Nat → Int → Option Bool
  | 0, _ => none
  | m + 1, y110 => (if (decide (y110 < (List.length u88.1 : Int))) = true then Option.bind (idx u88.1 y110) fun u119 =>
  Option.bind (F_impl_WithinStep u119 u13.2.2.2) fun u133 =>
  jK1 (fun (y144 : Bool) => (if y144 = true then some false else Option.bind (sl u88.1 0 y110) fun u150 =>
  F_laws_FnTop_L3 u150 u88 u119 u13 (F_laws_FnTop_L2 u88 u13 nx70 y69 m) y110 FU (0))) (fun k145 => (if (!u133.2) = true then k145 (true) else k145 ((!u133.1)))) else nx70 ((w64 (y69 + 1))))
def F_laws_FnTop_L6 (u13 : ((List (List (Int × Int))) × (List Int) × Int × Int)) (u261 : (Int × (Int × Int) × (List (Int × (Int × Int))))) (y252 : Int) (nx253 : (Int → Option Bool)) (u42 : ((List (Int × (Int × Int) × (List (Int × (Int × Int))))) × Bool)) : Nat → Int → Int → Option Bool
  | 0, _, _ => none
  | m + 1, y283, y284 => (if (decide (y284 < (List.length u13.2.1 : Int))) = true then Option.bind (idx u13.2.1 y284) fun u293 =>
  Option.bind (F_impl_SpotAfter u261 (w64 (y283 + u293))) fun u299 =>
  jK1 (fun (y319 : Bool) => (if y319 = true then some false else (F_laws_FnTop_L6 u13 u261 y252 nx253 u42 m) ((w64 (y283 + u293))) ((w64 (y284 + 1))))) (fun k320 => (if (!u299.2) = true then k320 (true) else Option.bind (idx u13.1 (w64 (y284 + 1))) fun u330 =>
  Option.bind (idx u330 y252) fun u336 =>
  k320 ((!(eqv_Spot u299.1 u336))))) else Option.bind (F_impl_SheetText u261) fun u340 =>
  Option.bind (F_impl_ParseSheet u340.1) fun u347 =>
  jK1 (fun (y368 : Bool) => (if y368 = true then some false else nx253 ((w64 (y252 + 1))))) (fun k369 => (if (!u340.2) = true then k369 (true) else (if (!u347.2) = true then k369 (true) else Option.bind (idx u42.1 y252) fun u380 =>
  Option.bind (F_laws_pSameSheet u347.1 u380) fun u386 =>
  k369 ((!u386))))))
def F_laws_FnTop_L7 (u421 : (Int × Bool)) (u13 : ((List (List (Int × Int))) × (List Int) × Int × Int)) : Nat → (List (List (Int × Int))) → (List Int) → Int → Int → Int → (List Int) → (List Int) → Int → Option Bool
  | 0, _, _, _, _, _, _, _, _ => none
  | m + 1, l442, l445, y448, y449, y450, l451, l454, y457 => (if (decide (y457 < u421.1)) = true then Option.bind (F_impl_BeatOnce ((l442, l445, y448, y449), y450, l451, l454)) fun u466 =>
  (if (!u466.2) = true then some false else (F_laws_FnTop_L7 u421 u13 m) (u466.1.1.1) (u466.1.1.2.1) (u466.1.1.2.2.1) (u466.1.1.2.2.2) (u466.1.2.1) (u466.1.2.2.1) (u466.1.2.2.2) ((w64 (y457 + 1)))) else Option.bind (F_impl_PlacesNow ((l442, l445, y448, y449), y450, l451, l454)) fun u498 =>
  Option.bind (F_impl_StillGoing ((l442, l445, y448, y449), y450, l451, l454)) fun u507 =>
  jK1 (fun (y519 : Bool) => some y519) (fun k520 => (if u498.2 = true then (if u507.2 = true then (if ((List.length u507.1 : Int) == 0) = true then Option.bind (idx u13.1 (w64 ((List.length u13.1 : Int) - 1))) fun u525 =>
  Option.bind (F_laws_pSameSpots u498.1 u525) fun u531 =>
  k520 (u531) else k520 (false)) else k520 (false)) else k520 (false))))
def F_laws_FnTop_L5 (u33 : ((List (Int × (Int × Int) × (List (Int × (Int × Int))))) × Bool)) (u13 : ((List (List (Int × Int))) × (List Int) × Int × Int)) (u42 : ((List (Int × (Int × Int) × (List (Int × (Int × Int))))) × Bool)) : Nat → Int → Option Bool
  | 0, _ => none
  | m + 1, y252 => (if (decide (y252 < (List.length u33.1 : Int))) = true then Option.bind (idx u33.1 y252) fun u261 =>
  F_laws_FnTop_L6 u13 u261 y252 (F_laws_FnTop_L5 u33 u13 u42 m) u42 FU (0) (0) else Option.bind (F_impl_NewMarch u13) fun u397 =>
  Option.bind (F_impl_TotalCounts u13) fun u421 =>
  jK1 (fun (y432 : Bool) => (if y432 = true then some false else F_laws_FnTop_L7 u421 u13 FU (u397.1.1.1) (u397.1.1.2.1) (u397.1.1.2.2.1) (u397.1.1.2.2.2) (u397.1.2.1) (u397.1.2.2.1) (u397.1.2.2.2) (0))) (fun k433 => (if (!u397.2) = true then k433 (true) else (if (!u421.2) = true then k433 (true) else Option.bind (F_laws_pSum u13.2.1) fun u539 =>
  k433 ((u421.1 != u539))))))
def F_laws_FnTop_L1 (u13 : ((List (List (Int × Int))) × (List Int) × Int × Int)) (u33 : ((List (Int × (Int × Int) × (List (Int × (Int × Int))))) × Bool)) (u42 : ((List (Int × (Int × Int) × (List (Int × (Int × Int))))) × Bool)) : Nat → Int → Option Bool
  | 0, _ => none
  | m + 1, y69 => (if (decide (y69 < (List.length u13.2.1 : Int))) = true then Option.bind (F_impl_ShowMoves u13 y69) fun u79 =>
  Option.bind (F_spec_ShowMoves u13 y69) fun u88 =>
  jK1 (fun (y101 : Bool) => (if y101 = true then some false else F_laws_FnTop_L2 u88 u13 (F_laws_FnTop_L1 u13 u33 u42 m) y69 FU (0))) (fun k102 => (if (!u79.2) = true then k102 (true) else (if (!u88.2) = true then k102 (true) else Option.bind (F_laws_pSameMoves u79.1 u88.1) fun u241 =>
  k102 ((!u241))))) else F_laws_FnTop_L5 u33 u13 u42 FU (0))
def F_laws_FnTop (x0 : (List Int)) (x1 : (List Int)) : Option Bool :=
  Option.bind (F_laws_big x0 x1) fun u4 =>
  (if u4 = true then some true else Option.bind (F_spec_DrawIsShow x0) fun u13 =>
  Option.bind (F_impl_PublishSheets u13) fun u33 =>
  Option.bind (F_spec_PublishSheets u13) fun u42 =>
  jK1 (fun (y55 : Bool) => (if y55 = true then some false else (if (!u33.2) = true then some true else F_laws_FnTop_L1 u13 u33 u42 FU (0)))) (fun k56 => (if (u33.2 != u42.2) = true then k56 (true) else Option.bind (F_laws_pSameSheets u33.1 u42.1) fun u546 =>
  k56 ((!u546)))))
end Go.Proofs.YtejhnpimhjmpdaaGreatDoor
