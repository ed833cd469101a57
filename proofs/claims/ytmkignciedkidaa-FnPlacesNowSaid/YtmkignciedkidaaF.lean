/-
  THE FUNCTIONS of this seat as plain functions, by program (gen.py).
-/
import Derived.Test.YtmkignciedkidaaCore0
set_option linter.unusedSimpArgs false
set_option linter.unusedVariables false
set_option maxRecDepth 100000
set_option maxHeartbeats 1600000
namespace Go.Proofs.Ytmkignciedkidaa
open Go
def eqv_Spot (x y : (Int × Int)) : Bool := (x.1 == y.1) && (x.2 == y.2)
def F_spec_l1In (x0 : Int) (x1 : Int) (x2 : Int) : Option Bool :=
  jK1 (fun (y6 : Bool) => some y6) (fun k7 => (if (decide (x1 ≤ x0)) = true then k7 ((decide (x0 ≤ x2))) else k7 (false)))
def F_spec_l1Cur__next__mut__box (x0 : ((List Int) × Int × Int)) : Option (Int × ((List Int) × Int × Int)) :=
  jK1 (fun (y7 : Int) => (if (decide ((w64 (x0.2.1 + 1)) ≤ (List.length x0.1 : Int))) = true then some (y7, (x0.1, (w64 (x0.2.1 + 1)), (wu64 ((wu64 ((wu64 (x0.2.2 * 6364136223846793005)) + (wu64 y7))) + 1442695040888963407)))) else some ((w64 (andK .u64 (shrK .u64 (wu64 ((wu64 ((wu64 (x0.2.2 * 6364136223846793005)) + (wu64 y7))) + 1442695040888963407)) 40) 255)), (x0.1, (w64 (x0.2.1 + 1)), (wu64 ((wu64 ((wu64 (x0.2.2 * 6364136223846793005)) + (wu64 y7))) + 1442695040888963407)))))) (fun k8 => (if (decide (x0.2.1 < (List.length x0.1 : Int))) = true then Option.bind (idx x0.1 x0.2.1) fun u42 =>
  k8 ((w64 u42)) else k8 (0)))
def F_spec_l1Cur__pick__mut__box (x0 : ((List Int) × Int × Int)) (x1 : Int) : Option (Int × ((List Int) × Int × Int)) :=
  (if (decide (x1 ≤ 1)) = true then some (0, x0) else Option.bind (F_spec_l1Cur__next__mut__box x0) fun u7 =>
  jK3 (fun (y17 : Int) (y18 : Int) (y19 : Int) => (if x1 = 0 then none else some ((Int.tmod y19 x1), (x0.1, y17, y18)))) (fun k20 => (if (decide (200 < x1)) = true then Option.bind (F_spec_l1Cur__next__mut__box (x0.1, u7.2.2.1, u7.2.2.2)) fun u26 =>
  k20 (u26.2.2.1) (u26.2.2.2) ((w64 ((w64 (u7.1 * 256)) + u26.1))) else k20 (u7.2.2.1) (u7.2.2.2) (u7.1))))
def F_spec_l1Cur__one__mut__box (x0 : ((List Int) × Int × Int)) (x1 : Int) : Option (Bool × ((List Int) × Int × Int)) :=
  Option.bind (F_spec_l1Cur__pick__mut__box x0 x1) fun u3 =>
  some ((u3.1 == 0), (x0.1, u3.2.2.1, u3.2.2.2))
def F_spec_l1Cur__among__mut__box (x0 : ((List Int) × Int × Int)) (x1 : (List Int)) : Option (Int × ((List Int) × Int × Int)) :=
  Option.bind (F_spec_l1Cur__pick__mut__box x0 (List.length x1 : Int)) fun u3 =>
  Option.bind (idx x1 u3.1) fun u9 =>
  some (u9, (x0.1, u3.2.2.1, u3.2.2.2))
def F_impl_within (x0 : Int) (x1 : Int) (x2 : Int) : Option Bool :=
  jK1 (fun (y6 : Bool) => some y6) (fun k7 => (if (decide (x1 ≤ x0)) = true then k7 ((decide (x0 ≤ x2))) else k7 (false)))
def F_spec_l1Most (x0 : Int) (x1 : Int) : Option Int :=
  (if (decide (x1 < x0)) = true then some x0 else some x1)
def F_spec_l1Least (x0 : Int) (x1 : Int) : Option Int :=
  (if (decide (x0 < x1)) = true then some x0 else some x1)
def F_spec_chFind_L1 (x0 : (List (Int × Int))) (x1 : (Int × Int)) : Nat → Int → Option Int
  | 0, _ => none
  | m + 1, y12 => (if (decide (y12 < (List.length x0 : Int))) = true then Option.bind (idx x0 y12) fun u21 =>
  (if (eqv_Spot u21 x1) = true then some y12 else (F_spec_chFind_L1 x0 x1 m) ((w64 (y12 + 1)))) else some (-1))
def F_spec_chFind (x0 : (List (Int × Int))) (x1 : (Int × Int)) : Option Int :=
  F_spec_chFind_L1 x0 x1 FU (0)
def F_spec_chOwn (x0 : (List (Int × Int))) : Option (List (Int × Int)) :=
  Option.bind (app [] x0) fun u9 =>
  some u9
def F_spec_stGood (x0 : (Int × Int)) : Option Bool :=
  jK1 (fun (y11 : Bool) => some y11) (fun k12 => Option.bind (F_spec_l1In x0.1 0 1280) fun u14 =>
  (if u14 = true then Option.bind (F_spec_l1In x0.2 0 672) fun u21 =>
  k12 (u21) else k12 (false)))
def F_spec_chGood_L2 (u39 : (List (Int × Int))) (u16 : (Int × Int)) (nx8 : (Int → Option Bool)) (y7 : Int) : Nat → Int → Option Bool
  | 0, _ => none
  | m + 1, y45 => (if (decide (y45 < (List.length u39 : Int))) = true then Option.bind (idx u39 y45) fun u54 =>
  (if (eqv_Spot u16 u54) = true then some false else (F_spec_chGood_L2 u39 u16 nx8 y7 m) ((w64 (y45 + 1)))) else nx8 ((w64 (y7 + 1))))
def F_spec_chGood_L1 (x0 : (List (Int × Int))) : Nat → Int → Option Bool
  | 0, _ => none
  | m + 1, y7 => (if (decide (y7 < (List.length x0 : Int))) = true then Option.bind (idx x0 y7) fun u16 =>
  Option.bind (F_spec_stGood u16) fun u30 =>
  (if (!u30) = true then some false else Option.bind (sl x0 0 y7) fun u39 =>
  F_spec_chGood_L2 u39 u16 (F_spec_chGood_L1 x0 m) y7 FU (0)) else Option.bind (F_spec_l1In (List.length x0 : Int) 1 12) fun u70 =>
  some u70)
def F_spec_chGood (x0 : (List (Int × Int))) : Option Bool :=
  F_spec_chGood_L1 x0 FU (0)
def F_spec_l1All_L1 (x0 : (List Int)) (x1 : Int) (x2 : Int) : Nat → Int → Option Bool
  | 0, _ => none
  | m + 1, y7 => (if (decide (y7 < (List.length x0 : Int))) = true then Option.bind (idx x0 y7) fun u16 =>
  Option.bind (F_spec_l1In u16 x1 x2) fun u20 =>
  (if (!u20) = true then some false else (F_spec_l1All_L1 x0 x1 x2 m) ((w64 (y7 + 1)))) else some true)
def F_spec_l1All (x0 : (List Int)) (x1 : Int) (x2 : Int) : Option Bool :=
  F_spec_l1All_L1 x0 x1 x2 FU (0)
def F_spec_apDistance (x0 : Int) : Option Bool :=
  Option.bind (F_spec_l1In x0 0 80) fun u3 =>
  some u3
def F_spec_mvStep (x0 : Int) : Option Bool :=
  Option.bind (F_spec_l1In x0 1 24) fun u3 =>
  some u3
def F_spec_swGood_L1 (x0 : ((List (List (Int × Int))) × (List Int) × Int × Int)) : Nat → Int → Option Bool
  | 0, _ => none
  | m + 1, y12 => (if (decide (y12 < (List.length x0.1 : Int))) = true then Option.bind (idx x0.1 y12) fun u21 =>
  jK1 (fun (y30 : Bool) => (if y30 = true then some false else (F_spec_swGood_L1 x0 m) ((w64 (y12 + 1))))) (fun k31 => Option.bind (F_spec_chGood u21) fun u35 =>
  (if (!u35) = true then k31 (true) else Option.bind (idx x0.1 0) fun u42 =>
  k31 (((List.length u21 : Int) != (List.length u42 : Int))))) else jK1 (fun (y51 : Bool) => some y51) (fun k52 => Option.bind (F_spec_l1In (List.length x0.1 : Int) 2 8) fun u54 =>
  (if u54 = true then (if ((List.length x0.2.1 : Int) == (w64 ((List.length x0.1 : Int) - 1))) = true then Option.bind (F_spec_l1All x0.2.1 1 64) fun u62 =>
  (if u62 = true then Option.bind (F_spec_apDistance x0.2.2.1) fun u69 =>
  (if u69 = true then Option.bind (F_spec_mvStep x0.2.2.2) fun u76 =>
  k52 (u76) else k52 (false)) else k52 (false)) else k52 (false)) else k52 (false))))
def F_spec_swGood (x0 : ((List (List (Int × Int))) × (List Int) × Int × Int)) : Option Bool :=
  F_spec_swGood_L1 x0 FU (0)
def F_spec_l1Own (x0 : (List Int)) : Option (List Int) :=
  Option.bind (app [] x0) fun u9 =>
  some u9
def F_spec_l1Cur__spot__mut__box (x0 : ((List Int) × Int × Int)) : Option ((Int × Int) × ((List Int) × Int × Int)) :=
  Option.bind (F_spec_l1Cur__pick__mut__box x0 161) fun u8 =>
  Option.bind (F_spec_l1Cur__pick__mut__box (x0.1, u8.2.2.1, u8.2.2.2) 1281) fun u14 =>
  Option.bind (F_spec_l1Cur__among__mut__box (x0.1, u14.2.2.1, u14.2.2.2) [0, 80, 160, 640, (w64 (8 * u8.1)), u14.1, 1280]) fun u26 =>
  Option.bind (F_spec_l1Cur__pick__mut__box (x0.1, u26.2.2.1, u26.2.2.2) 85) fun u32 =>
  Option.bind (F_spec_l1Cur__pick__mut__box (x0.1, u32.2.2.1, u32.2.2.2) 673) fun u38 =>
  Option.bind (F_spec_l1Cur__among__mut__box (x0.1, u38.2.2.1, u38.2.2.2) [0, 80, 336, (w64 (8 * u32.1)), u38.1, 672]) fun u50 =>
  some ((u26.1, u50.1), (x0.1, u50.2.2.1, u50.2.2.2))
def F_spec_l1Cur__chartOf__mut__box_L1 (x1 : Int) (x0 : ((List Int) × Int × Int)) : Nat → Int → Int → (List (Int × Int)) → Int → Option ((List (Int × Int)) × ((List Int) × Int × Int))
  | 0, _, _, _, _ => none
  | m + 1, y8, y9, l10, y13 => (if (decide ((List.length l10 : Int) < x1)) = true then jK3 (fun (y25 : Int) (y26 : Int) (l27 : (List (Int × Int))) => (F_spec_l1Cur__chartOf__mut__box_L1 x1 x0 m) (y25) (y26) (l27) ((w64 (y13 + 1)))) (fun k30 => Option.bind (F_spec_l1Cur__spot__mut__box (x0.1, y8, y9)) fun u33 =>
  jK4 (fun (y52 : Int) (y53 : Int) (y54 : Int) (y55 : Int) => jK2 (fun (y62 : Int) (y63 : Int) => Option.bind (F_spec_chFind l10 (y62, y63)) fun u67 =>
  (if (decide (u67 < 0)) = true then Option.bind (app l10 [(y62, y63)]) fun u80 =>
  k30 (y52) (y53) (u80) else k30 (y52) (y53) (l10))) (fun k64 => (if (decide (60 < y13)) = true then k64 ((w64 (3 * (List.length l10 : Int)))) ((w64 (7 + y13))) else k64 (y54) (y55)))) (fun k56 => jK3 (fun (y97 : Int) (y98 : Int) (y99 : Bool) => (if y99 = true then Option.bind (F_spec_l1Cur__pick__mut__box (x0.1, y97, y98) (List.length l10 : Int)) fun u104 =>
  Option.bind (idx l10 u104.1) fun u110 =>
  Option.bind (F_spec_l1Cur__among__mut__box (x0.1, u104.2.2.1, u104.2.2.2) [0, 8, 16, 24, 5]) fun u140 =>
  Option.bind (F_spec_l1Least 1280 (w64 (u110.1 + u140.1))) fun u150 =>
  Option.bind (F_spec_l1Cur__among__mut__box (x0.1, u140.2.2.1, u140.2.2.2) [0, 8, 16, 3]) fun u169 =>
  Option.bind (F_spec_l1Least 672 (w64 (u110.2 + u169.1))) fun u179 =>
  k56 (u169.2.2.1) (u169.2.2.2) (u150) (u179) else k56 (y97) (y98) (u33.1.1) (u33.1.2))) (fun k100 => (if (decide (0 < (List.length l10 : Int))) = true then Option.bind (F_spec_l1Cur__one__mut__box (x0.1, u33.2.2.1, u33.2.2.2) 2) fun u361 =>
  k100 (u361.2.2.1) (u361.2.2.2) (u361.1) else k100 (u33.2.2.1) (u33.2.2.2) (false))))) else some (l10, (x0.1, y8, y9)))
def F_spec_l1Cur__chartOf__mut__box (x0 : ((List Int) × Int × Int)) (x1 : Int) : Option ((List (Int × Int)) × ((List Int) × Int × Int)) :=
  F_spec_l1Cur__chartOf__mut__box_L1 x1 x0 FU (x0.2.1) (x0.2.2) ([]) (0)
def F_spec_l1Cur__chart__mut__box (x0 : ((List Int) × Int × Int)) : Option ((List (Int × Int)) × ((List Int) × Int × Int)) :=
  Option.bind (F_spec_l1Cur__one__mut__box x0 20) fun u4 =>
  (if u4.1 = true then Option.bind (F_spec_l1Cur__chartOf__mut__box (x0.1, u4.2.2.1, u4.2.2.2) 12) fun u12 =>
  some (u12.1, (x0.1, u12.2.2.1, u12.2.2.2)) else Option.bind (F_spec_l1Cur__pick__mut__box (x0.1, u4.2.2.1, u4.2.2.2) 6) fun u21 =>
  Option.bind (F_spec_l1Cur__chartOf__mut__box (x0.1, u21.2.2.1, u21.2.2.2) (w64 (1 + u21.1))) fun u27 =>
  some (u27.1, (x0.1, u27.2.2.1, u27.2.2.2)))
def F_spec_l1Cur__anySpot__mut__box (x0 : ((List Int) × Int × Int)) : Option ((Int × Int) × ((List Int) × Int × Int)) :=
  Option.bind (F_spec_l1Cur__spot__mut__box x0) fun u8 =>
  jK4 (fun (y27 : Int) (y28 : Int) (y29 : Int) (y30 : Int) => some ((y29, y30), (x0.1, y27, y28))) (fun k31 => Option.bind (F_spec_l1Cur__pick__mut__box (x0.1, u8.2.2.1, u8.2.2.2) 30) fun u39 =>
  (if (u39.1 == 0) = true then Option.bind (F_spec_l1Cur__among__mut__box (x0.1, u39.2.2.1, u39.2.2.2) [(-1), 1281]) fun u53 =>
  k31 (u53.2.2.1) (u53.2.2.2) (u53.1) (u8.1.2) else (if (u39.1 == 1) = true then Option.bind (F_spec_l1Cur__among__mut__box (x0.1, u39.2.2.1, u39.2.2.2) [(-1), 673]) fun u71 =>
  k31 (u71.2.2.1) (u71.2.2.2) (u8.1.1) (u71.1) else k31 (u39.2.2.1) (u39.2.2.2) (u8.1.1) (u8.1.2))))
def F_spec_l1Cur__anyChart__mut__box (x0 : ((List Int) × Int × Int)) : Option ((List (Int × Int)) × ((List Int) × Int × Int)) :=
  Option.bind (F_spec_l1Cur__chart__mut__box x0) fun u3 =>
  Option.bind (F_spec_l1Cur__pick__mut__box (x0.1, u3.2.2.1, u3.2.2.2) (List.length u3.1 : Int)) fun u12 =>
  jK3 (fun (y22 : Int) (y23 : Int) (l24 : (List (Int × Int))) => some (l24, (x0.1, y22, y23))) (fun k27 => Option.bind (F_spec_l1Cur__pick__mut__box (x0.1, u12.2.2.1, u12.2.2.2) 30) fun u31 =>
  (if (u31.1 == 0) = true then Option.bind (F_spec_l1Cur__anySpot__mut__box (x0.1, u31.2.2.1, u31.2.2.2)) fun u39 =>
  Option.bind (idx u3.1 u12.1) fun u45 =>
  k27 (u39.2.2.1) (u39.2.2.2) ((seti u3.1 u12.1 u39.1)) else (if (u31.1 == 1) = true then Option.bind (idx u3.1 0) fun u55 =>
  Option.bind (idx u3.1 u12.1) fun u59 =>
  k27 (u31.2.2.1) (u31.2.2.2) ((seti u3.1 u12.1 u55)) else (if (u31.1 == 2) = true then some ([], (x0.1, u31.2.2.1, u31.2.2.2)) else (if (u31.1 == 3) = true then Option.bind (F_spec_l1Cur__chartOf__mut__box (x0.1, u31.2.2.1, u31.2.2.2) 13) fun u74 =>
  some (u74.1, (x0.1, u74.2.2.1, u74.2.2.2)) else k27 (u31.2.2.1) (u31.2.2.2) (u3.1))))))
def F_spec_l1Cur__show__mut__box_L2 (u311 : (List (Int × Int))) (x0 : ((List Int) × Int × Int)) (u101 : (List (Int × Int))) (k125 : (Int → Int → (List (Int × Int)) → Option (((List (List (Int × Int))) × (List Int) × Int × Int) × ((List Int) × Int × Int)))) : Nat → Int → Int → (List (Int × Int)) → Int → Option (((List (List (Int × Int))) × (List Int) × Int × Int) × ((List Int) × Int × Int))
  | 0, _, _, _, _ => none
  | m + 1, y324, y325, l327, y330 => (if (decide (y330 < (List.length u311 : Int))) = true then jK3 (fun (y341 : Int) (y342 : Int) (l344 : (List (Int × Int))) => (F_spec_l1Cur__show__mut__box_L2 u311 x0 u101 k125 m) (y341) (y342) (l344) ((w64 (y330 + 1)))) (fun k347 => Option.bind (idx l327 y330) fun u355 =>
  Option.bind (F_spec_l1Cur__among__mut__box (x0.1, y324, y325) [0, 8, 16, 40]) fun u372 =>
  Option.bind (F_spec_l1Least 1280 (w64 (u355.1 + u372.1))) fun u383 =>
  Option.bind (idx l327 y330) fun u392 =>
  k347 (u372.2.2.1) (u372.2.2.2) ((seti l327 y330 (u383, u392.2)))) else Option.bind (F_spec_chGood l327) fun u479 =>
  (if (!u479) = true then Option.bind (F_spec_chOwn u101) fun u486 =>
  k125 (y324) (y325) (u486) else k125 (y324) (y325) (l327)))
def F_spec_l1Cur__show__mut__box_L1 (y78 : Int) (x0 : ((List Int) × Int × Int)) (u8 : (Int × ((List Int) × Int × Int))) (u50 : (Int × ((List Int) × Int × Int))) (u38 : (Int × ((List Int) × Int × Int))) : Nat → Int → Int → (List (List (Int × Int))) → (List Int) → Option (((List (List (Int × Int))) × (List Int) × Int × Int) × ((List Int) × Int × Int))
  | 0, _, _, _, _ => none
  | m + 1, y85, y86, l87, l90 => (if (decide ((List.length l87 : Int) < y78)) = true then Option.bind (idx l87 (w64 ((List.length l87 : Int) - 1))) fun u101 =>
  Option.bind (F_spec_l1Cur__chartOf__mut__box (x0.1, y85, y86) (w64 (1 + u8.1))) fun u108 =>
  jK3 (fun (y120 : Int) (y121 : Int) (l122 : (List (Int × Int))) => Option.bind (app l87 [l122]) fun u137 =>
  Option.bind (F_spec_l1Cur__among__mut__box (x0.1, y120, y121) [1, 4, 8, 16, 64]) fun u164 =>
  Option.bind (app l90 [u164.1]) fun u183 =>
  (F_spec_l1Cur__show__mut__box_L1 y78 x0 u8 u50 u38 m) (u164.2.2.1) (u164.2.2.2) (u137) (u183)) (fun k125 => Option.bind (F_spec_l1Cur__one__mut__box (x0.1, u108.2.2.1, u108.2.2.2) 3) fun u303 =>
  (if (!u303.1) = true then Option.bind (F_spec_chOwn u101) fun u311 =>
  F_spec_l1Cur__show__mut__box_L2 u311 x0 u101 k125 FU (u303.2.2.1) (u303.2.2.2) (u311) (0) else k125 (u303.2.2.1) (u303.2.2.2) (u108.1))) else jK6 (fun (y498 : Int) (y499 : Int) (l500 : (List (List (Int × Int)))) (l503 : (List Int)) (y506 : Int) (y507 : Int) => some ((l500, l503, y506, y507), (x0.1, y498, y499))) (fun k508 => Option.bind (F_spec_l1Cur__pick__mut__box (x0.1, y85, y86) 36) fun u516 =>
  (if (u516.1 == 0) = true then Option.bind (F_spec_l1Cur__among__mut__box (x0.1, u516.2.2.1, u516.2.2.2) [(-1), 80, 81]) fun u530 =>
  k508 (u530.2.2.1) (u530.2.2.2) (l87) (l90) (u530.1) (u50.1) else (if (u516.1 == 1) = true then Option.bind (F_spec_l1Cur__among__mut__box (x0.1, u516.2.2.1, u516.2.2.2) [0, 1, 25]) fun u548 =>
  k508 (u548.2.2.1) (u548.2.2.2) (l87) (l90) (u38.1) (u548.1) else (if (u516.1 == 2) = true then Option.bind (F_spec_l1Cur__among__mut__box (x0.1, u516.2.2.1, u516.2.2.2) [0, 64, 65]) fun u576 =>
  Option.bind (idx l90 0) fun u585 =>
  k508 (u576.2.2.1) (u576.2.2.2) (l87) ((seti l90 0 u576.1)) (u38.1) (u50.1) else (if (u516.1 == 3) = true then Option.bind (F_spec_l1Cur__anyChart__mut__box (x0.1, u516.2.2.1, u516.2.2.2)) fun u651 =>
  Option.bind (idx l87 (w64 ((List.length l87 : Int) - 1))) fun u663 =>
  k508 (u651.2.2.1) (u651.2.2.2) ((seti l87 (w64 ((List.length l87 : Int) - 1)) u651.1)) (l90) (u38.1) (u50.1) else (if (u516.1 == 4) = true then Option.bind (app l90 [8]) fun u797 =>
  k508 (u516.2.2.1) (u516.2.2.2) (l87) (u797) (u38.1) (u50.1) else (if (u516.1 == 5) = true then Option.bind (sl l87 0 1) fun u811 =>
  k508 (u516.2.2.1) (u516.2.2.2) (u811) ([]) (u38.1) (u50.1) else k508 (u516.2.2.1) (u516.2.2.2) (l87) (l90) (u38.1) (u50.1)))))))))
def F_spec_l1Cur__show__mut__box (x0 : ((List Int) × Int × Int)) : Option (((List (List (Int × Int))) × (List Int) × Int × Int) × ((List Int) × Int × Int)) :=
  Option.bind (F_spec_l1Cur__pick__mut__box x0 4) fun u8 =>
  Option.bind (F_spec_l1Cur__chartOf__mut__box (x0.1, u8.2.2.1, u8.2.2.2) (w64 (1 + u8.1))) fun u15 =>
  Option.bind (F_spec_l1Cur__among__mut__box (x0.1, u15.2.2.1, u15.2.2.2) [0, 1, 8, 8, 16]) fun u38 =>
  Option.bind (F_spec_l1Cur__among__mut__box (x0.1, u38.2.2.1, u38.2.2.2) [8, 12, 24, 24]) fun u50 =>
  Option.bind (F_spec_l1Cur__pick__mut__box (x0.1, u50.2.2.1, u50.2.2.2) 3) fun u66 =>
  jK3 (fun (y76 : Int) (y77 : Int) (y78 : Int) => F_spec_l1Cur__show__mut__box_L1 y78 x0 u8 u50 u38 FU (y76) (y77) ([u15.1]) ([])) (fun k79 => Option.bind (F_spec_l1Cur__one__mut__box (x0.1, u66.2.2.1, u66.2.2.2) 20) fun u832 =>
  (if u832.1 = true then Option.bind (F_spec_l1Cur__pick__mut__box (x0.1, u832.2.2.1, u832.2.2.2) 2) fun u839 =>
  k79 (u839.2.2.1) (u839.2.2.2) ((w64 (8 + u839.1))) else k79 (u832.2.2.1) (u832.2.2.2) ((w64 (2 + u66.1)))))
def F_impl_IsSpot (x0 : (Int × Int)) : Option Bool :=
  jK1 (fun (y11 : Bool) => some y11) (fun k12 => Option.bind (F_impl_within x0.1 0 1280) fun u14 =>
  (if u14 = true then Option.bind (F_impl_within x0.2 0 672) fun u21 =>
  k12 (u21) else k12 (false)))
def F_slices_Index_impl_Spot_impl_Spot_L1 (x0 : (List (Int × Int))) (x1 : (Int × Int)) : Nat → Int → Option Int
  | 0, _ => none
  | m + 1, y12 => (if (decide (y12 < (List.length x0 : Int))) = true then Option.bind (idx x0 y12) fun u27 =>
  (if (eqv_Spot x1 u27) = true then some y12 else (F_slices_Index_impl_Spot_impl_Spot_L1 x0 x1 m) ((w64 (y12 + 1)))) else some (-1))
def F_slices_Index_impl_Spot_impl_Spot (x0 : (List (Int × Int))) (x1 : (Int × Int)) : Option Int :=
  F_slices_Index_impl_Spot_impl_Spot_L1 x0 x1 FU (0)
def F_slices_Contains_impl_Spot_impl_Spot (x0 : (List (Int × Int))) (x1 : (Int × Int)) : Option Bool :=
  Option.bind (F_slices_Index_impl_Spot_impl_Spot x0 x1) fun u8 =>
  some (decide (0 ≤ u8))
def F_impl_IsChart_L1 (x0 : (List (Int × Int))) : Nat → Int → Option Bool
  | 0, _ => none
  | m + 1, y17 => (if (decide (y17 < (List.length x0 : Int))) = true then Option.bind (idx x0 y17) fun u26 =>
  jK1 (fun (y42 : Bool) => (if y42 = true then some false else (F_impl_IsChart_L1 x0 m) ((w64 (y17 + 1))))) (fun k43 => Option.bind (F_impl_IsSpot u26) fun u52 =>
  (if (!u52) = true then k43 (true) else Option.bind (sl x0 0 y17) fun u60 =>
  Option.bind (F_slices_Contains_impl_Spot_impl_Spot u60 u26) fun u63 =>
  k43 (u63))) else some true)
def F_impl_IsChart (x0 : (List (Int × Int))) : Option Bool :=
  Option.bind (F_impl_within (List.length x0 : Int) 1 12) fun u4 =>
  (if (!u4) = true then some false else F_impl_IsChart_L1 x0 FU (0))
def F_impl_areCharts_L2 (x1 : (List Int)) : Nat → Int → Option Bool
  | 0, _ => none
  | m + 1, y57 => (if (decide (y57 < (List.length x1 : Int))) = true then Option.bind (idx x1 y57) fun u66 =>
  Option.bind (F_impl_within u66 1 64) fun u70 =>
  (if (!u70) = true then some false else (F_impl_areCharts_L2 x1 m) ((w64 (y57 + 1)))) else some true)
def F_impl_areCharts_L1 (x0 : (List (List (Int × Int)))) (x1 : (List Int)) : Nat → Int → Option Bool
  | 0, _ => none
  | m + 1, y17 => (if (decide (y17 < (List.length x0 : Int))) = true then Option.bind (idx x0 y17) fun u26 =>
  jK1 (fun (y35 : Bool) => (if y35 = true then some false else (F_impl_areCharts_L1 x0 x1 m) ((w64 (y17 + 1))))) (fun k36 => Option.bind (F_impl_IsChart u26) fun u40 =>
  (if (!u40) = true then k36 (true) else Option.bind (idx x0 0) fun u47 =>
  k36 (((List.length u26 : Int) != (List.length u47 : Int))))) else F_impl_areCharts_L2 x1 FU (0))
def F_impl_areCharts (x0 : (List (List (Int × Int)))) (x1 : (List Int)) : Option Bool :=
  jK1 (fun (y7 : Bool) => (if y7 = true then some false else F_impl_areCharts_L1 x0 x1 FU (0))) (fun k8 => Option.bind (F_impl_within (List.length x0 : Int) 1 9) fun u79 =>
  (if (!u79) = true then k8 (true) else k8 (((List.length x1 : Int) != (w64 ((List.length x0 : Int) - 1))))))
def F_impl_isLeast (x0 : Int) : Option Bool :=
  Option.bind (F_impl_within x0 0 80) fun u3 =>
  some u3
def F_impl_IsShow (x0 : ((List (List (Int × Int))) × (List Int) × Int × Int)) : Option Bool :=
  jK1 (fun (y11 : Bool) => some y11) (fun k12 => Option.bind (F_impl_within (List.length x0.1 : Int) 2 8) fun u14 =>
  (if u14 = true then Option.bind (F_impl_areCharts x0.1 x0.2.1) fun u21 =>
  (if u21 = true then Option.bind (F_impl_isLeast x0.2.2.1) fun u28 =>
  (if u28 = true then Option.bind (F_impl_within x0.2.2.2 1 24) fun u35 =>
  k12 (u35) else k12 (false)) else k12 (false)) else k12 (false)))
def F_impl_squareOf (x0 : (Int × Int)) (x1 : (Int × Int)) : Option Int :=
  some (w64 ((w64 ((w64 (x0.1 - x1.1)) * (w64 (x0.1 - x1.1)))) + (w64 ((w64 (x0.2 - x1.2)) * (w64 (x0.2 - x1.2))))))
def F_spec_stSquare (x0 : (Int × Int)) (x1 : (Int × Int)) : Option Int :=
  some (w64 ((w64 ((w64 (x0.1 - x1.1)) * (w64 (x0.1 - x1.1)))) + (w64 ((w64 (x0.2 - x1.2)) * (w64 (x0.2 - x1.2))))))
def F_impl_SquareOf (x0 : (Int × Int)) (x1 : (Int × Int)) : Option (Int × Bool) :=
  jK1 (fun (y17 : Bool) => (if y17 = true then some (0, false) else Option.bind (F_impl_squareOf x0 x1) fun u23 =>
  some (u23, true))) (fun k18 => Option.bind (F_impl_IsSpot x0) fun u29 =>
  (if (!u29) = true then k18 (true) else Option.bind (F_impl_IsSpot x1) fun u36 =>
  k18 ((!u36))))
def F_laws_big (x0 : (List Int)) (x1 : (List Int)) : Option Bool :=
  jK1 (fun (y6 : Bool) => some y6) (fun k7 => (if (decide (1048576 < (List.length x0 : Int))) = true then k7 (true) else k7 ((decide ((w64 (1048576 - (List.length x0 : Int))) < (List.length x1 : Int))))))
def F_spec_swOwn_L1 (x0 : ((List (List (Int × Int))) × (List Int) × Int × Int)) (l17 : (List Int)) (y20 : Int) (y21 : Int) : Nat → (List (List (Int × Int))) → Int → Option ((List (List (Int × Int))) × (List Int) × Int × Int)
  | 0, _, _ => none
  | m + 1, l29, y32 => (if (decide (y32 < (List.length x0.1 : Int))) = true then jK1 (fun (l44 : (List (List (Int × Int)))) => (F_spec_swOwn_L1 x0 l17 y20 y21 m) (l44) ((w64 (y32 + 1)))) (fun k47 => Option.bind (idx x0.1 y32) fun u50 =>
  Option.bind (F_spec_chOwn u50) fun u60 =>
  Option.bind (app l29 [u60]) fun u83 =>
  k47 (u83)) else some (l29, l17, y20, y21))
def F_spec_swOwn (x0 : ((List (List (Int × Int))) × (List Int) × Int × Int)) : Option ((List (List (Int × Int))) × (List Int) × Int × Int) :=
  jK3 (fun (l17 : (List Int)) (y20 : Int) (y21 : Int) => F_spec_swOwn_L1 x0 l17 y20 y21 FU ([]) (0)) (fun k22 => Option.bind (F_spec_l1Own x0.2.1) fun u173 =>
  k22 (u173) (x0.2.2.1) (x0.2.2.2))
def F_laws_pSameSpots_L1 (x0 : (List (Int × Int))) (x1 : (List (Int × Int))) : Nat → Int → Option Bool
  | 0, _ => none
  | m + 1, y11 => (if (decide (y11 < (List.length x0 : Int))) = true then Option.bind (idx x0 y11) fun u26 =>
  Option.bind (idx x1 y11) fun u29 =>
  (if (!(eqv_Spot u26 u29)) = true then some false else (F_laws_pSameSpots_L1 x0 x1 m) ((w64 (y11 + 1)))) else some true)
def F_laws_pSameSpots (x0 : (List (Int × Int))) (x1 : (List (Int × Int))) : Option Bool :=
  (if ((List.length x0 : Int) != (List.length x1 : Int)) = true then some false else F_laws_pSameSpots_L1 x0 x1 FU (0))
def F_laws_sameInts_L1 (x0 : (List Int)) (x1 : (List Int)) : Nat → Int → Option Bool
  | 0, _ => none
  | m + 1, y11 => (if (decide (y11 < (List.length x0 : Int))) = true then Option.bind (idx x0 y11) fun u26 =>
  Option.bind (idx x1 y11) fun u29 =>
  (if (u26 != u29) = true then some false else (F_laws_sameInts_L1 x0 x1 m) ((w64 (y11 + 1)))) else some true)
def F_laws_sameInts (x0 : (List Int)) (x1 : (List Int)) : Option Bool :=
  (if ((List.length x0 : Int) != (List.length x1 : Int)) = true then some false else F_laws_sameInts_L1 x0 x1 FU (0))
def F_impl_totalCounts_L1 (x0 : ((List (List (Int × Int))) × (List Int) × Int × Int)) : Nat → Int → Int → Option Int
  | 0, _, _ => none
  | m + 1, y13, y14 => (if (decide (y14 < (List.length x0.2.1 : Int))) = true then Option.bind (idx x0.2.1 y14) fun u23 =>
  (F_impl_totalCounts_L1 x0 m) ((w64 (y13 + u23))) ((w64 (y14 + 1))) else some y13)
def F_impl_totalCounts (x0 : ((List (List (Int × Int))) × (List Int) × Int × Int)) : Option Int :=
  F_impl_totalCounts_L1 x0 FU (0) (0)
def F_impl_TotalCounts (x0 : ((List (List (Int × Int))) × (List Int) × Int × Int)) : Option (Int × Bool) :=
  Option.bind (F_impl_IsShow x0) fun u9 =>
  (if (!u9) = true then some (0, false) else Option.bind (F_impl_totalCounts x0) fun u18 =>
  some (u18, true))
def F_laws_sameLists_L1 (x0 : (List (List Int))) (x1 : (List (List Int))) : Nat → Int → Option Bool
  | 0, _ => none
  | m + 1, y11 => (if (decide (y11 < (List.length x0 : Int))) = true then Option.bind (idx x0 y11) fun u26 =>
  Option.bind (idx x1 y11) fun u31 =>
  Option.bind (F_laws_sameInts u26 u31) fun u36 =>
  (if (!u36) = true then some false else (F_laws_sameLists_L1 x0 x1 m) ((w64 (y11 + 1)))) else some true)
def F_laws_sameLists (x0 : (List (List Int))) (x1 : (List (List Int))) : Option Bool :=
  (if ((List.length x0 : Int) != (List.length x1 : Int)) = true then some false else F_laws_sameLists_L1 x0 x1 FU (0))
def F_laws_pIn_L1 (x0 : (List Int)) (x1 : Int) : Nat → Int → Option Bool
  | 0, _ => none
  | m + 1, y7 => (if (decide (y7 < (List.length x0 : Int))) = true then Option.bind (idx x0 y7) fun u16 =>
  (if (u16 == x1) = true then some true else (F_laws_pIn_L1 x0 x1 m) ((w64 (y7 + 1)))) else some false)
def F_laws_pIn (x0 : (List Int)) (x1 : Int) : Option Bool :=
  F_laws_pIn_L1 x0 x1 FU (0)
def F_impl_sheetOf_L1 (x1 : (List Int)) (x0 : (List (List (Int × Int)))) (x2 : Int) (u13 : (Int × Int)) : Nat → (List (Int × (Int × Int))) → Int → Option (Int × (Int × Int) × (List (Int × (Int × Int))))
  | 0, _, _ => none
  | m + 1, l36, y39 => (if (decide (y39 < (List.length x1 : Int))) = true then jK1 (fun (l50 : (List (Int × (Int × Int)))) => (F_impl_sheetOf_L1 x1 x0 x2 u13 m) (l50) ((w64 (y39 + 1)))) (fun k53 => Option.bind (idx x1 y39) fun u56 =>
  Option.bind (idx x0 (w64 (y39 + 1))) fun u64 =>
  Option.bind (idx u64 x2) fun u69 =>
  Option.bind (app l36 [(u56, u69)]) fun u83 =>
  k53 (u83)) else some (x2, u13, l36))
def F_impl_sheetOf (x0 : (List (List (Int × Int)))) (x1 : (List Int)) (x2 : Int) : Option (Int × (Int × Int) × (List (Int × (Int × Int)))) :=
  Option.bind (idx x0 0) fun u8 =>
  Option.bind (idx u8 x2) fun u13 =>
  F_impl_sheetOf_L1 x1 x0 x2 u13 FU ([]) (0)
def F_spec_shOf_L1 (x1 : (List Int)) (x0 : (List (List (Int × Int)))) (x2 : Int) (u13 : (Int × Int)) : Nat → (List (Int × (Int × Int))) → Int → Option (Int × (Int × Int) × (List (Int × (Int × Int))))
  | 0, _, _ => none
  | m + 1, l30, y33 => (if (decide (y33 < (List.length x1 : Int))) = true then jK1 (fun (l45 : (List (Int × (Int × Int)))) => (F_spec_shOf_L1 x1 x0 x2 u13 m) (l45) ((w64 (y33 + 1)))) (fun k48 => Option.bind (idx x1 y33) fun u51 =>
  Option.bind (idx x0 (w64 (y33 + 1))) fun u59 =>
  Option.bind (idx u59 x2) fun u64 =>
  Option.bind (app l30 [(u51, u64)]) fun u78 =>
  k48 (u78)) else some (x2, u13, l30))
def F_spec_shOf (x0 : (List (List (Int × Int)))) (x1 : (List Int)) (x2 : Int) : Option (Int × (Int × Int) × (List (Int × (Int × Int)))) :=
  Option.bind (idx x0 0) fun u8 =>
  Option.bind (idx u8 x2) fun u13 =>
  F_spec_shOf_L1 x1 x0 x2 u13 FU ([]) (0)
def F_spec_swTotal_L1 (x0 : ((List (List (Int × Int))) × (List Int) × Int × Int)) : Nat → Int → Int → Option Int
  | 0, _, _ => none
  | m + 1, y13, y14 => (if (decide (y14 < (List.length x0.2.1 : Int))) = true then Option.bind (idx x0.2.1 y14) fun u23 =>
  (F_spec_swTotal_L1 x0 m) ((w64 (y13 + u23))) ((w64 (y14 + 1))) else some y13)
def F_spec_swTotal (x0 : ((List (List (Int × Int))) × (List Int) × Int × Int)) : Option Int :=
  F_spec_swTotal_L1 x0 FU (0) (0)
def F_spec_TotalCounts (x0 : ((List (List (Int × Int))) × (List Int) × Int × Int)) : Option (Int × Bool) :=
  Option.bind (F_spec_swGood x0) fun u9 =>
  (if (!u9) = true then some (0, false) else Option.bind (F_spec_swTotal x0) fun u18 =>
  some (u18, true))
def F_impl_IsSheet_L1 (x0 : (Int × (Int × Int) × (List (Int × (Int × Int))))) : Nat → Int → Option Bool
  | 0, _ => none
  | m + 1, y22 => (if (decide (y22 < (List.length x0.2.2 : Int))) = true then Option.bind (idx x0.2.2 y22) fun u31 =>
  jK1 (fun (y47 : Bool) => (if y47 = true then some false else (F_impl_IsSheet_L1 x0 m) ((w64 (y22 + 1))))) (fun k48 => Option.bind (F_impl_within u31.1 1 64) fun u52 =>
  (if (!u52) = true then k48 (true) else Option.bind (F_impl_IsSpot u31.2) fun u59 =>
  k48 ((!u59)))) else some true)
def F_impl_IsSheet (x0 : (Int × (Int × Int) × (List (Int × (Int × Int))))) : Option Bool :=
  jK1 (fun (y12 : Bool) => (if y12 = true then some false else F_impl_IsSheet_L1 x0 FU (0))) (fun k13 => Option.bind (F_impl_within x0.1 0 11) fun u66 =>
  (if (!u66) = true then k13 (true) else Option.bind (F_impl_IsSpot x0.2.1) fun u73 =>
  (if (!u73) = true then k13 (true) else k13 ((decide (8 < (List.length x0.2.2 : Int)))))))
def F_spec_NewMarch (x0 : ((List (List (Int × Int))) × (List Int) × Int × Int)) : Option ((((List (List (Int × Int))) × (List Int) × Int × Int) × Int × (List Int) × (List Int)) × Bool) :=
  Option.bind (F_spec_swGood x0) fun u14 =>
  (if (!u14) = true then some ((([], [], 0, 0), 0, [], []), false) else jK6 (fun (l34 : (List (List (Int × Int)))) (l37 : (List Int)) (y40 : Int) (y41 : Int) (l42 : (List Int)) (y45 : Bool) => some (((l34, l37, y40, y41), 0, [], l42), y45)) (fun k46 => Option.bind (idx x0.1 0) fun u54 =>
  Option.bind (F_spec_swOwn x0) fun u59 =>
  Option.bind (mkL (List.length u54 : Int) 0) fun u74 =>
  k46 (u59.1) (u59.2.1) (u59.2.2.1) (u59.2.2.2) (u74) (true)))
def F_spec_mnOwn (x0 : (((List (List (Int × Int))) × (List Int) × Int × Int) × Int × (List Int) × (List Int))) : Option (((List (List (Int × Int))) × (List Int) × Int × Int) × Int × (List Int) × (List Int)) :=
  Option.bind (F_spec_swOwn x0.1) fun u18 =>
  Option.bind (F_spec_l1Own x0.2.2.1) fun u32 =>
  Option.bind (F_spec_l1Own x0.2.2.2) fun u43 =>
  some (u18, x0.2.1, u32, u43)
def F_spec_l1Has_L1 (x0 : (List Int)) (x1 : Int) : Nat → Int → Option Bool
  | 0, _ => none
  | m + 1, y7 => (if (decide (y7 < (List.length x0 : Int))) = true then Option.bind (idx x0 y7) fun u16 =>
  (if (u16 == x1) = true then some true else (F_spec_l1Has_L1 x0 x1 m) ((w64 (y7 + 1)))) else some false)
def F_spec_l1Has (x0 : (List Int)) (x1 : Int) : Option Bool :=
  F_spec_l1Has_L1 x0 x1 FU (0)
def F_spec_l1Put__take_L1 (x0 : (List Int)) (x1 : Int) : Nat → Int → Option (List Int)
  | 0, _ => none
  | m + 1, y7 => jK1 (fun (y16 : Bool) => (if y16 = true then (F_spec_l1Put__take_L1 x0 x1 m) ((w64 (y7 + 1))) else jK1 (fun (y25 : Bool) => (if y25 = true then some x0 else Option.bind (sl x0 0 y7) fun u37 =>
  Option.bind (app [] u37) fun u42 =>
  Option.bind (app u42 [x1]) fun u56 =>
  Option.bind (sl x0 y7 (List.length x0 : Int)) fun u64 =>
  Option.bind (app u56 u64) fun u69 =>
  some u69)) (fun k26 => (if (decide (y7 < (List.length x0 : Int))) = true then Option.bind (idx x0 y7) fun u77 =>
  k26 ((u77 == x1)) else k26 (false))))) (fun k17 => (if (decide (y7 < (List.length x0 : Int))) = true then Option.bind (idx x0 y7) fun u82 =>
  k17 ((decide (u82 < x1))) else k17 (false)))
def F_spec_l1Put__take (x0 : (List Int)) (x1 : Int) : Option (List Int) :=
  F_spec_l1Put__take_L1 x0 x1 FU (0)
def F_spec_mnStep_L1 (x0 : (((List (List (Int × Int))) × (List Int) × Int × Int) × Int × (List Int) × (List Int))) (k77 : (Int → (List Int) → (List Int) → Option ((((List (List (Int × Int))) × (List Int) × Int × Int) × Int × (List Int) × (List Int)) × Bool))) (u36 : (((List (List (Int × Int))) × (List Int) × Int × Int) × Int × (List Int) × (List Int))) : Nat → (List Int) → Int → Option ((((List (List (Int × Int))) × (List Int) × Int × Int) × Int × (List Int) × (List Int)) × Bool)
  | 0, _, _ => none
  | m + 1, l101, y104 => (if (decide (y104 < (List.length x0.2.2.1 : Int))) = true then Option.bind (idx x0.2.2.1 y104) fun u113 =>
  Option.bind (idx l101 u113) fun u116 =>
  Option.bind (idx l101 u113) fun u120 =>
  (F_spec_mnStep_L1 x0 k77 u36 m) ((seti l101 u113 (w64 (u116 + 1)))) ((w64 (y104 + 1))) else k77 ((w64 (u36.2.1 + 1))) (u36.2.2.1) (l101))
def F_spec_mnStep_L2 (x0 : (((List (List (Int × Int))) × (List Int) × Int × Int) × Int × (List Int) × (List Int))) (x1 : (Int × Int)) (k77 : (Int → (List Int) → (List Int) → Option ((((List (List (Int × Int))) × (List Int) × Int × Int) × Int × (List Int) × (List Int)) × Bool))) (u36 : (((List (List (Int × Int))) × (List Int) × Int × Int) × Int × (List Int) × (List Int))) : Nat → (List Int) → Int → Option ((((List (List (Int × Int))) × (List Int) × Int × Int) × Int × (List Int) × (List Int)) × Bool)
  | 0, _, _ => none
  | m + 1, l165, y168 => (if (decide (y168 < (List.length x0.2.2.1 : Int))) = true then jK1 (fun (l180 : (List Int)) => (F_spec_mnStep_L2 x0 x1 k77 u36 m) (l180) ((w64 (y168 + 1)))) (fun k183 => Option.bind (idx x0.2.2.1 y168) fun u186 =>
  (if (u186 != x1.2) = true then Option.bind (app l165 [u186]) fun u197 =>
  k183 (u197) else k183 (l165))) else k77 (u36.2.1) (l165) (u36.2.2.2))
def F_spec_mnStep (x0 : (((List (List (Int × Int))) × (List Int) × Int × Int) × Int × (List Int) × (List Int))) (x1 : (Int × Int)) : Option ((((List (List (Int × Int))) × (List Int) × Int × Int) × Int × (List Int) × (List Int)) × Bool) :=
  Option.bind (F_spec_l1In x1.2 0 (w64 ((List.length x0.2.2.2 : Int) - 1))) fun u19 =>
  (if (!u19) = true then some ((([], [], 0, 0), 0, [], []), false) else Option.bind (F_spec_mnOwn x0) fun u36 =>
  Option.bind (F_spec_l1Has x0.2.2.1 x1.2) fun u60 =>
  jK3 (fun (y70 : Int) (l71 : (List Int)) (l74 : (List Int)) => some ((u36.1, y70, l71, l74), true)) (fun k77 => jK1 (fun (y88 : Bool) => (if y88 = true then F_spec_mnStep_L1 x0 k77 u36 FU (u36.2.2.2) (0) else jK1 (fun (y132 : Bool) => (if y132 = true then Option.bind (F_spec_l1Put__take u36.2.2.1 x1.2) fun u136 =>
  k77 (u36.2.1) (u136) (u36.2.2.2) else jK1 (fun (y152 : Bool) => (if y152 = true then F_spec_mnStep_L2 x0 x1 k77 u36 FU ([]) (0) else some ((([], [], 0, 0), 0, [], []), false))) (fun k153 => (if (x1.1 == 3) = true then k153 (u60) else k153 (false))))) (fun k133 => (if (x1.1 == 2) = true then k133 ((!u60)) else k133 (false))))) (fun k89 => (if (x1.1 == 1) = true then (if (x1.2 == 0) = true then k89 ((decide (x0.2.1 < 1000))) else k89 (false)) else k89 (false)))))
def F_spec_l1Cur__beats__mut__box_L1 (x0 : ((List Int) × Int × Int)) (x1 : Int) : Nat → Int → Int → (List (Int × Int)) → Int → Option ((List (Int × Int)) × ((List Int) × Int × Int))
  | 0, _, _, _, _ => none
  | m + 1, y14, y15, l16, y19 => (if (decide (0 < y19)) = true then jK4 (fun (y42 : Int) (y43 : Int) (y44 : Int) (y45 : Int) => Option.bind (app l16 [(y44, y45)]) fun u54 =>
  (F_spec_l1Cur__beats__mut__box_L1 x0 x1 m) (y42) (y43) (u54) ((w64 (y19 - 1)))) (fun k46 => Option.bind (F_spec_l1Cur__one__mut__box (x0.1, y14, y15) 3) fun u62 =>
  (if u62.1 = true then Option.bind (F_spec_l1Cur__among__mut__box (x0.1, u62.2.2.1, u62.2.2.2) [2, 2, 3]) fun u75 =>
  Option.bind (F_spec_l1Most 1 x1) fun u81 =>
  Option.bind (F_spec_l1Cur__pick__mut__box (x0.1, u75.2.2.1, u75.2.2.2) u81) fun u87 =>
  k46 (u87.2.2.1) (u87.2.2.2) (u75.1) (u87.1) else k46 (u62.2.2.1) (u62.2.2.2) (1) (0))) else jK3 (fun (y101 : Int) (y102 : Int) (l103 : (List (Int × Int))) => some (l103, (x0.1, y101, y102))) (fun k106 => (if (decide (0 < (List.length l16 : Int))) = true then Option.bind (F_spec_l1Cur__pick__mut__box (x0.1, y14, y15) (List.length l16 : Int)) fun u112 =>
  Option.bind (idx l16 u112.1) fun u118 =>
  Option.bind (F_spec_l1Cur__pick__mut__box (x0.1, u112.2.2.1, u112.2.2.2) 24) fun u123 =>
  (if (u123.1 == 0) = true then Option.bind (F_spec_l1Cur__among__mut__box (x0.1, u123.2.2.1, u123.2.2.2) [0, 4]) fun u137 =>
  k106 (u137.2.2.1) (u137.2.2.2) ((seti l16 u112.1 (u137.1, u118.2))) else (if (u123.1 == 1) = true then Option.bind (F_spec_l1Cur__among__mut__box (x0.1, u123.2.2.1, u123.2.2.2) [(-1), 1, x1]) fun u155 =>
  k106 (u155.2.2.1) (u155.2.2.2) ((seti l16 u112.1 (u118.1, u155.1))) else k106 (u123.2.2.1) (u123.2.2.2) (l16))) else k106 (y14) (y15) (l16))))
def F_spec_l1Cur__beats__mut__box (x0 : ((List Int) × Int × Int)) (x1 : Int) : Option ((List (Int × Int)) × ((List Int) × Int × Int)) :=
  Option.bind (F_spec_l1Cur__pick__mut__box x0 12) fun u5 =>
  F_spec_l1Cur__beats__mut__box_L1 x0 x1 FU (u5.2.2.1) (u5.2.2.2) ([]) (u5.1)
def F_spec_l1Cur__march__mut__box_L1 (u63 : ((List (Int × Int)) × ((List Int) × Int × Int))) (x0 : ((List Int) × Int × Int)) : Nat → (List (List (Int × Int))) → (List Int) → Int → Int → Int → (List Int) → (List Int) → Int → Option ((((List (List (Int × Int))) × (List Int) × Int × Int) × Int × (List Int) × (List Int)) × ((List Int) × Int × Int))
  | 0, _, _, _, _, _, _, _, _ => none
  | m + 1, l75, l78, y81, y82, y83, l84, l87, y90 => (if (decide (y90 < (List.length u63.1 : Int))) = true then jK7 (fun (l101 : (List (List (Int × Int)))) (l104 : (List Int)) (y107 : Int) (y108 : Int) (y109 : Int) (l110 : (List Int)) (l113 : (List Int)) => (F_spec_l1Cur__march__mut__box_L1 u63 x0 m) (l101) (l104) (y107) (y108) (y109) (l110) (l113) ((w64 (y90 + 1)))) (fun k116 => Option.bind (idx u63.1 y90) fun u119 =>
  Option.bind (F_spec_mnStep ((l75, l78, y81, y82), y83, l84, l87) u119) fun u133 =>
  (if u133.2 = true then k116 (u133.1.1.1) (u133.1.1.2.1) (u133.1.1.2.2.1) (u133.1.1.2.2.2) (u133.1.2.1) (u133.1.2.2.1) (u133.1.2.2.2) else k116 (l75) (l78) (y81) (y82) (y83) (l84) (l87))) else Option.bind (F_spec_mnOwn ((l75, l78, y81, y82), y83, l84, l87)) fun u163 =>
  jK5 (fun (y185 : Int) (y186 : Int) (y187 : Int) (l188 : (List Int)) (l191 : (List Int)) => some ((u163.1, y187, l188, l191), (x0.1, y185, y186))) (fun k194 => Option.bind (F_spec_l1Cur__pick__mut__box (x0.1, u63.2.2.1, u63.2.2.2) 30) fun u202 =>
  (if (u202.1 == 0) = true then Option.bind (F_spec_l1Cur__among__mut__box (x0.1, u202.2.2.1, u202.2.2.2) [(-1), 0, 999, 1000, 1001]) fun u216 =>
  k194 (u216.2.2.1) (u216.2.2.2) (u216.1) (u163.2.2.1) (u163.2.2.2) else (if (u202.1 == 1) = true then Option.bind (F_spec_l1Cur__among__mut__box (x0.1, u202.2.2.1, u202.2.2.2) [(-1), 0, (List.length u163.2.2.2 : Int)]) fun u244 =>
  Option.bind (app u163.2.2.1 [u244.1]) fun u263 =>
  k194 (u244.2.2.1) (u244.2.2.2) (u163.2.1) (u263) (u163.2.2.2) else (if (u202.1 == 2) = true then Option.bind (F_spec_l1Cur__among__mut__box (x0.1, u202.2.2.1, u202.2.2.2) [(-1), u163.2.1, (w64 (u163.2.1 + 1))]) fun u445 =>
  Option.bind (idx u163.2.2.2 0) fun u454 =>
  k194 (u445.2.2.1) (u445.2.2.2) (u163.2.1) (u163.2.2.1) ((seti u163.2.2.2 0 u445.1)) else (if (u202.1 == 3) = true then Option.bind (app u163.2.2.2 [0]) fun u720 =>
  k194 (u202.2.2.1) (u202.2.2.2) (u163.2.1) (u163.2.2.1) (u720) else jK1 (fun (y735 : Bool) => (if y735 = true then k194 (u202.2.2.1) (u202.2.2.2) ((w64 (u163.2.1 + 30))) (u163.2.2.1) (u163.2.2.2) else k194 (u202.2.2.1) (u202.2.2.2) (u163.2.1) (u163.2.2.1) (u163.2.2.2))) (fun k736 => (if (u202.1 == 4) = true then k736 ((u202.1 == 4)) else k736 ((u202.1 == 5))))))))))
def F_spec_l1Cur__march__mut__box (x0 : ((List Int) × Int × Int)) : Option ((((List (List (Int × Int))) × (List Int) × Int × Int) × Int × (List Int) × (List Int)) × ((List Int) × Int × Int)) :=
  Option.bind (F_spec_l1Cur__show__mut__box x0) fun u8 =>
  Option.bind (F_spec_NewMarch u8.1) fun u28 =>
  (if (!u28.2) = true then some ((u8.1, 0, [], []), (x0.1, u8.2.2.1, u8.2.2.2)) else Option.bind (F_spec_l1Cur__beats__mut__box (x0.1, u8.2.2.1, u8.2.2.2) (List.length u28.1.2.2.2 : Int)) fun u63 =>
  F_spec_l1Cur__march__mut__box_L1 u63 x0 FU (u28.1.1.1) (u28.1.1.2.1) (u28.1.1.2.2.1) (u28.1.1.2.2.2) (u28.1.2.1) (u28.1.2.2.1) (u28.1.2.2.2) (0))
def F_spec_DrawIsMarch (x0 : (List Int)) : Option (((List (List (Int × Int))) × (List Int) × Int × Int) × Int × (List Int) × (List Int)) :=
  Option.bind (F_spec_l1Cur__march__mut__box (x0, 0, 0)) fun u14 =>
  some u14.1
def F_spec_DrawPlacesNow (x0 : (List Int)) : Option (((List (List (Int × Int))) × (List Int) × Int × Int) × Int × (List Int) × (List Int)) :=
  Option.bind (F_spec_DrawIsMarch x0) fun u8 =>
  some u8
def F_impl_arePerformers_L1 (x0 : (List Int)) (x1 : Int) : Nat → Int → Option Bool
  | 0, _ => none
  | m + 1, y7 => (if (decide (y7 < (List.length x0 : Int))) = true then Option.bind (idx x0 y7) fun u16 =>
  jK1 (fun (y23 : Bool) => (if y23 = true then some false else (F_impl_arePerformers_L1 x0 x1 m) ((w64 (y7 + 1))))) (fun k24 => Option.bind (F_impl_within u16 0 (w64 (x1 - 1))) fun u28 =>
  (if (!u28) = true then k24 (true) else (if (decide (0 < y7)) = true then Option.bind (idx x0 (w64 (y7 - 1))) fun u36 =>
  k24 ((decide (u16 ≤ u36))) else k24 (false)))) else some true)
def F_impl_arePerformers (x0 : (List Int)) (x1 : Int) : Option Bool :=
  F_impl_arePerformers_L1 x0 x1 FU (0)
def F_impl_IsMarch_L1 (x0 : (((List (List (Int × Int))) × (List Int) × Int × Int) × Int × (List Int) × (List Int))) : Nat → Int → Option Bool
  | 0, _ => none
  | m + 1, y22 => (if (decide (y22 < (List.length x0.2.2.2 : Int))) = true then Option.bind (idx x0.2.2.2 y22) fun u31 =>
  Option.bind (F_impl_within u31 0 x0.2.1) fun u35 =>
  (if (!u35) = true then some false else (F_impl_IsMarch_L1 x0 m) ((w64 (y22 + 1)))) else some true)
def F_impl_IsMarch (x0 : (((List (List (Int × Int))) × (List Int) × Int × Int) × Int × (List Int) × (List Int))) : Option Bool :=
  jK1 (fun (y12 : Bool) => (if y12 = true then some false else F_impl_IsMarch_L1 x0 FU (0))) (fun k13 => Option.bind (F_impl_IsShow x0.1) fun u49 =>
  (if (!u49) = true then k13 (true) else Option.bind (F_impl_within x0.2.1 0 1000) fun u57 =>
  (if (!u57) = true then k13 (true) else Option.bind (idx x0.1.1 0) fun u65 =>
  Option.bind (F_impl_arePerformers x0.2.2.1 (List.length u65 : Int)) fun u70 =>
  (if (!u70) = true then k13 (true) else Option.bind (idx x0.1.1 0) fun u78 =>
  k13 (((List.length x0.2.2.2 : Int) != (List.length u78 : Int)))))))
def F_impl_ownCount (x0 : (((List (List (Int × Int))) × (List Int) × Int × Int) × Int × (List Int) × (List Int))) (x1 : Int) : Option Int :=
  Option.bind (idx x0.2.2.2 x1) fun u13 =>
  Option.bind (F_impl_totalCounts x0.1) fun u16 =>
  some (minI (w64 (x0.2.1 - u13)) u16)
def F_impl_sheetMoves_L1 (x0 : (Int × (Int × Int) × (List (Int × (Int × Int))))) : Nat → (List ((Int × Int) × (Int × Int) × Int)) → Int → Int → Int → Option (List ((Int × Int) × (Int × Int) × Int))
  | 0, _, _, _, _ => none
  | m + 1, l24, y27, y28, y29 => (if (decide (y29 < (List.length x0.2.2 : Int))) = true then Option.bind (idx x0.2.2 y29) fun u38 =>
  Option.bind (app l24 [((y27, y28), u38.2, u38.1)]) fun u57 =>
  (F_impl_sheetMoves_L1 x0 m) (u57) (u38.2.1) (u38.2.2) ((w64 (y29 + 1))) else some l24)
def F_impl_sheetMoves (x0 : (Int × (Int × Int) × (List (Int × (Int × Int))))) : Option (List ((Int × Int) × (Int × Int) × Int)) :=
  jK3 (fun (l11 : (List ((Int × Int) × (Int × Int) × Int))) (y15 : Int) (y16 : Int) => F_impl_sheetMoves_L1 x0 FU (l11) (y15) (y16) (0)) (fun k17 => k17 ([]) (x0.2.1.1) (x0.2.1.2))
def F_impl_placeAt (x0 : ((Int × Int) × (Int × Int) × Int)) (x1 : Int) : Option (Int × Int) :=
  some ((w64 ((w64 (x0.1.1 * x0.2.2)) + (w64 (x1 * (w64 (x0.2.1.1 - x0.1.1)))))), (w64 ((w64 (x0.1.2 * x0.2.2)) + (w64 (x1 * (w64 (x0.2.1.2 - x0.1.2)))))))
def F_impl_floorDiv (x0 : Int) (x1 : Int) : Option Int :=
  (if x1 = 0 then none else jK1 (fun (y8 : Int) => some y8) (fun k9 => (if x1 = 0 then none else (if (decide ((Int.tmod x0 x1) < 0)) = true then k9 ((w64 ((w64 (Int.tdiv x0 x1)) - 1))) else k9 ((w64 (Int.tdiv x0 x1)))))))
def F_impl_roundDiv (x0 : Int) (x1 : Int) : Option Int :=
  Option.bind (F_impl_floorDiv (w64 ((w64 (2 * x0)) + x1)) (w64 (2 * x1))) fun u3 =>
  some u3
def F_impl_roundedAt (x0 : ((Int × Int) × (Int × Int) × Int)) (x1 : Int) : Option (Int × Int) :=
  Option.bind (F_impl_placeAt x0 x1) fun u13 =>
  Option.bind (F_impl_roundDiv u13.1 x0.2.2) fun u25 =>
  Option.bind (F_impl_roundDiv u13.2 x0.2.2) fun u33 =>
  some (u25, u33)
def F_impl_SpotAfter_L1 (u28 : (List ((Int × Int) × (Int × Int) × Int))) (x0 : (Int × (Int × Int) × (List (Int × (Int × Int))))) : Nat → Int → Int → Option ((Int × Int) × Bool)
  | 0, _, _ => none
  | m + 1, y39, y40 => (if (decide (y40 < (List.length u28 : Int))) = true then Option.bind (idx u28 y40) fun u49 =>
  (if (decide (y39 ≤ u49.2.2)) = true then Option.bind (F_impl_roundedAt u49 y39) fun u66 =>
  some (u66, true) else (F_impl_SpotAfter_L1 u28 x0 m) ((w64 (y39 - u49.2.2))) ((w64 (y40 + 1)))) else (if (decide (0 < y39)) = true then some ((0, 0), false) else some (x0.2.1, true)))
def F_impl_SpotAfter (x0 : (Int × (Int × Int) × (List (Int × (Int × Int))))) (x1 : Int) : Option ((Int × Int) × Bool) :=
  jK1 (fun (y17 : Bool) => (if y17 = true then some ((0, 0), false) else Option.bind (F_impl_sheetMoves x0) fun u28 =>
  F_impl_SpotAfter_L1 u28 x0 FU (x1) (0))) (fun k18 => Option.bind (F_impl_IsSheet x0) fun u89 =>
  (if (!u89) = true then k18 (true) else k18 ((decide (x1 < 0)))))
def F_impl_whereNow (x0 : (((List (List (Int × Int))) × (List Int) × Int × Int) × Int × (List Int) × (List Int))) (x1 : Int) : Option (Int × Int) :=
  jK2 (fun (y17 : Int) (y18 : Int) => some (y17, y18)) (fun k19 => Option.bind (F_impl_sheetOf x0.1.1 x0.1.2.1 x1) fun u31 =>
  Option.bind (F_impl_ownCount x0 x1) fun u41 =>
  Option.bind (F_impl_SpotAfter u31 u41) fun u48 =>
  k19 (u48.1.1) (u48.1.2))
def F_impl_placesNow_L1 (x0 : (((List (List (Int × Int))) × (List Int) × Int × Int) × Int × (List Int) × (List Int))) : Nat → (List (Int × Int)) → Int → Option (List (Int × Int))
  | 0, _, _ => none
  | m + 1, l19, y22 => (if (decide (y22 < (List.length x0.2.2.2 : Int))) = true then Option.bind (F_impl_whereNow x0 y22) fun u31 =>
  Option.bind (app l19 [u31]) fun u43 =>
  (F_impl_placesNow_L1 x0 m) (u43) ((w64 (y22 + 1))) else some l19)
def F_impl_placesNow (x0 : (((List (List (Int × Int))) × (List Int) × Int × Int) × Int × (List Int) × (List Int))) : Option (List (Int × Int)) :=
  F_impl_placesNow_L1 x0 FU ([]) (0)
def F_impl_PlacesNow (x0 : (((List (List (Int × Int))) × (List Int) × Int × Int) × Int × (List Int) × (List Int))) : Option ((List (Int × Int)) × Bool) :=
  Option.bind (F_impl_IsMarch x0) fun u9 =>
  (if (!u9) = true then some ([], false) else Option.bind (F_impl_placesNow x0) fun u19 =>
  some (u19, true))
def F_spec_l1Rising_L1 (x0 : (List Int)) (x1 : Int) (x2 : Int) : Nat → Int → Option Bool
  | 0, _ => none
  | m + 1, y7 => (if (decide (y7 < (List.length x0 : Int))) = true then Option.bind (idx x0 y7) fun u16 =>
  jK1 (fun (y23 : Bool) => (if y23 = true then some false else (F_spec_l1Rising_L1 x0 x1 x2 m) ((w64 (y7 + 1))))) (fun k24 => Option.bind (F_spec_l1In u16 x1 x2) fun u28 =>
  (if (!u28) = true then k24 (true) else (if (decide (0 < y7)) = true then Option.bind (idx x0 (w64 (y7 - 1))) fun u36 =>
  k24 ((decide (u16 ≤ u36))) else k24 (false)))) else some true)
def F_spec_l1Rising (x0 : (List Int)) (x1 : Int) (x2 : Int) : Option Bool :=
  F_spec_l1Rising_L1 x0 x1 x2 FU (0)
def F_spec_mnGood (x0 : (((List (List (Int × Int))) × (List Int) × Int × Int) × Int × (List Int) × (List Int))) : Option Bool :=
  jK1 (fun (y12 : Bool) => (if y12 = true then some false else Option.bind (idx x0.1.1 0) fun u18 =>
  jK1 (fun (y27 : Bool) => some y27) (fun k28 => Option.bind (F_spec_l1Rising x0.2.2.1 0 (w64 ((List.length u18 : Int) - 1))) fun u30 =>
  (if u30 = true then (if ((List.length x0.2.2.2 : Int) == (List.length u18 : Int)) = true then Option.bind (F_spec_l1All x0.2.2.2 0 x0.2.1) fun u38 =>
  k28 (u38) else k28 (false)) else k28 (false))))) (fun k13 => Option.bind (F_spec_swGood x0.1) fun u44 =>
  (if (!u44) = true then k13 (true) else Option.bind (F_spec_l1In x0.2.1 0 1000) fun u51 =>
  k13 ((!u51))))
def F_spec_mnCount (x0 : (((List (List (Int × Int))) × (List Int) × Int × Int) × Int × (List Int) × (List Int))) (x1 : Int) : Option Int :=
  Option.bind (idx x0.2.2.2 x1) fun u13 =>
  Option.bind (F_spec_swTotal x0.1) fun u16 =>
  Option.bind (F_spec_l1Least u16 (w64 (x0.2.1 - u13))) fun u23 =>
  some u23
def F_spec_shGood_L1 (x0 : (Int × (Int × Int) × (List (Int × (Int × Int))))) : Nat → Int → Option Bool
  | 0, _ => none
  | m + 1, y12 => (if (decide (y12 < (List.length x0.2.2 : Int))) = true then Option.bind (idx x0.2.2 y12) fun u21 =>
  jK1 (fun (y37 : Bool) => (if y37 = true then some false else (F_spec_shGood_L1 x0 m) ((w64 (y12 + 1))))) (fun k38 => Option.bind (F_spec_l1In u21.1 1 64) fun u42 =>
  (if (!u42) = true then k38 (true) else Option.bind (F_spec_stGood u21.2) fun u49 =>
  k38 ((!u49)))) else jK1 (fun (y59 : Bool) => some y59) (fun k60 => Option.bind (F_spec_l1In x0.1 0 11) fun u62 =>
  (if u62 = true then Option.bind (F_spec_stGood x0.2.1) fun u69 =>
  (if u69 = true then k60 ((decide ((List.length x0.2.2 : Int) ≤ 8))) else k60 (false)) else k60 (false))))
def F_spec_shGood (x0 : (Int × (Int × Int) × (List (Int × (Int × Int))))) : Option Bool :=
  F_spec_shGood_L1 x0 FU (0)
def F_spec_shRows_L1 (x0 : (Int × (Int × Int) × (List (Int × (Int × Int))))) : Nat → (List ((Int × Int) × (Int × Int) × Int)) → Int → Int → Int → Option (List ((Int × Int) × (Int × Int) × Int))
  | 0, _, _, _, _ => none
  | m + 1, l23, y26, y27, y28 => (if (decide (y28 < (List.length x0.2.2 : Int))) = true then Option.bind (idx x0.2.2 y28) fun u38 =>
  Option.bind (app l23 [((y26, y27), u38.2, u38.1)]) fun u57 =>
  (F_spec_shRows_L1 x0 m) (u57) (u38.2.1) (u38.2.2) ((w64 (y28 + 1))) else some l23)
def F_spec_shRows (x0 : (Int × (Int × Int) × (List (Int × (Int × Int))))) : Option (List ((Int × Int) × (Int × Int) × Int)) :=
  F_spec_shRows_L1 x0 FU ([]) (x0.2.1.1) (x0.2.1.2) (0)
def F_spec_mvAt (x0 : ((Int × Int) × (Int × Int) × Int)) (x1 : Int) : Option (Int × Int) :=
  some ((w64 ((w64 (x0.1.1 * x0.2.2)) + (w64 ((w64 (x0.2.1.1 - x0.1.1)) * x1)))), (w64 ((w64 (x0.1.2 * x0.2.2)) + (w64 ((w64 (x0.2.1.2 - x0.1.2)) * x1)))))
def F_spec_mvRound (x0 : ((Int × Int) × (Int × Int) × Int)) (x1 : Int) : Option (Int × Int) :=
  Option.bind (F_spec_mvAt x0 x1) fun u13 =>
  (if (w64 (2 * x0.2.2)) = 0 then none else (if (w64 (2 * x0.2.2)) = 0 then none else some ((w64 (Int.tdiv (w64 ((w64 (2 * u13.1)) + x0.2.2)) (w64 (2 * x0.2.2)))), (w64 (Int.tdiv (w64 ((w64 (2 * u13.2)) + x0.2.2)) (w64 (2 * x0.2.2)))))))
def F_spec_SpotAfter_L1 (u36 : (List ((Int × Int) × (Int × Int) × Int))) : Nat → Int → Int → Option ((Int × Int) × Bool)
  | 0, _, _ => none
  | m + 1, y47, y48 => (if (decide (y48 < (List.length u36 : Int))) = true then Option.bind (idx u36 y48) fun u57 =>
  (if (decide (y47 ≤ u57.2.2)) = true then Option.bind (F_spec_mvRound u57 y47) fun u74 =>
  some (u74, true) else (F_spec_SpotAfter_L1 u36 m) ((w64 (y47 - u57.2.2))) ((w64 (y48 + 1)))) else some ((0, 0), false))
def F_spec_SpotAfter (x0 : (Int × (Int × Int) × (List (Int × (Int × Int))))) (x1 : Int) : Option ((Int × Int) × Bool) :=
  jK1 (fun (y17 : Bool) => (if y17 = true then some ((0, 0), false) else (if (x1 == 0) = true then some (x0.2.1, true) else Option.bind (F_spec_shRows x0) fun u36 =>
  F_spec_SpotAfter_L1 u36 FU (x1) (0)))) (fun k18 => Option.bind (F_spec_shGood x0) fun u89 =>
  (if (!u89) = true then k18 (true) else k18 ((decide (x1 < 0)))))
def F_spec_mnWhere (x0 : (((List (List (Int × Int))) × (List Int) × Int × Int) × Int × (List Int) × (List Int))) (x1 : Int) : Option (Int × Int) :=
  jK2 (fun (y17 : Int) (y18 : Int) => some (y17, y18)) (fun k19 => Option.bind (F_spec_shOf x0.1.1 x0.1.2.1 x1) fun u31 =>
  Option.bind (F_spec_mnCount x0 x1) fun u41 =>
  Option.bind (F_spec_SpotAfter u31 u41) fun u48 =>
  k19 (u48.1.1) (u48.1.2))
def F_spec_mnPlaces_L1 (x0 : (((List (List (Int × Int))) × (List Int) × Int × Int) × Int × (List Int) × (List Int))) : Nat → (List (Int × Int)) → Int → Option (List (Int × Int))
  | 0, _, _ => none
  | m + 1, l13, y16 => (if (decide (y16 < (List.length x0.2.2.2 : Int))) = true then Option.bind (F_spec_mnWhere x0 y16) fun u26 =>
  Option.bind (app l13 [u26]) fun u38 =>
  (F_spec_mnPlaces_L1 x0 m) (u38) ((w64 (y16 + 1))) else some l13)
def F_spec_mnPlaces (x0 : (((List (List (Int × Int))) × (List Int) × Int × Int) × Int × (List Int) × (List Int))) : Option (List (Int × Int)) :=
  F_spec_mnPlaces_L1 x0 FU ([]) (0)
def F_spec_PlacesNow (x0 : (((List (List (Int × Int))) × (List Int) × Int × Int) × Int × (List Int) × (List Int))) : Option ((List (Int × Int)) × Bool) :=
  Option.bind (F_spec_mnGood x0) fun u9 =>
  (if (!u9) = true then some ([], false) else Option.bind (F_spec_mnPlaces x0) fun u19 =>
  some (u19, true))
def F_impl_TooCloseNow_L2 (u19 : (List (Int × Int))) (y41 : Int) (x0 : (((List (List (Int × Int))) × (List Int) × Int × Int) × Int × (List Int) × (List Int))) (nx42 : ((List (List Int)) → Int → Option ((List (List Int)) × Bool))) : Nat → (List (List Int)) → Int → Option ((List (List Int)) × Bool)
  | 0, _, _ => none
  | m + 1, l54, y57 => (if (decide (y57 < (List.length u19 : Int))) = true then jK1 (fun (l68 : (List (List Int))) => (F_impl_TooCloseNow_L2 u19 y41 x0 nx42 m) (l68) ((w64 (y57 + 1)))) (fun k71 => Option.bind (idx u19 y41) fun u79 =>
  Option.bind (idx u19 y57) fun u83 =>
  Option.bind (F_impl_squareOf u79 u83) fun u87 =>
  (if (decide (u87 < (w64 (x0.1.2.2.1 * x0.1.2.2.1)))) = true then Option.bind (app l54 [[y41, y57]]) fun u110 =>
  k71 (u110) else k71 (l54))) else nx42 (l54) ((w64 (y41 + 1))))
def F_impl_TooCloseNow_L1 (u19 : (List (Int × Int))) (x0 : (((List (List (Int × Int))) × (List Int) × Int × Int) × Int × (List Int) × (List Int))) : Nat → (List (List Int)) → Int → Option ((List (List Int)) × Bool)
  | 0, _, _ => none
  | m + 1, l38, y41 => (if (decide (y41 < (List.length u19 : Int))) = true then F_impl_TooCloseNow_L2 u19 y41 x0 (F_impl_TooCloseNow_L1 u19 x0 m) FU (l38) ((w64 (y41 + 1))) else some (l38, true))
def F_impl_TooCloseNow (x0 : (((List (List (Int × Int))) × (List Int) × Int × Int) × Int × (List Int) × (List Int))) : Option ((List (List Int)) × Bool) :=
  Option.bind (F_impl_IsMarch x0) fun u9 =>
  (if (!u9) = true then some ([], false) else Option.bind (F_impl_placesNow x0) fun u19 =>
  F_impl_TooCloseNow_L1 u19 x0 FU ([]) (0))
def F_spec_TooCloseNow_L2 (u19 : (List (Int × Int))) (u46 : (Int × Int)) (x0 : (((List (List (Int × Int))) × (List Int) × Int × Int) × Int × (List Int) × (List Int))) (y36 : Int) (nx37 : ((List (List Int)) → Int → Option ((List (List Int)) × Bool))) : Nat → (List (List Int)) → Int → Option ((List (List Int)) × Bool)
  | 0, _, _ => none
  | m + 1, l63, y66 => (if (decide (y66 < (List.length u19 : Int))) = true then jK1 (fun (l77 : (List (List Int))) => (F_spec_TooCloseNow_L2 u19 u46 x0 y36 nx37 m) (l77) ((w64 (y66 + 1)))) (fun k80 => Option.bind (idx u19 y66) fun u88 =>
  Option.bind (F_spec_stSquare u46 u88) fun u92 =>
  (if (decide (u92 < (w64 (x0.1.2.2.1 * x0.1.2.2.1)))) = true then Option.bind (app l63 [[y36, y66]]) fun u115 =>
  k80 (u115) else k80 (l63))) else nx37 (l63) ((w64 (y36 + 1))))
def F_spec_TooCloseNow_L1 (u19 : (List (Int × Int))) (x0 : (((List (List (Int × Int))) × (List Int) × Int × Int) × Int × (List Int) × (List Int))) : Nat → (List (List Int)) → Int → Option ((List (List Int)) × Bool)
  | 0, _, _ => none
  | m + 1, l33, y36 => (if (decide (y36 < (List.length u19 : Int))) = true then Option.bind (idx u19 y36) fun u46 =>
  F_spec_TooCloseNow_L2 u19 u46 x0 y36 (F_spec_TooCloseNow_L1 u19 x0 m) FU (l33) ((w64 (y36 + 1))) else some (l33, true))
def F_spec_TooCloseNow (x0 : (((List (List (Int × Int))) × (List Int) × Int × Int) × Int × (List Int) × (List Int))) : Option ((List (List Int)) × Bool) :=
  Option.bind (F_spec_mnGood x0) fun u9 =>
  (if (!u9) = true then some ([], false) else Option.bind (F_spec_mnPlaces x0) fun u19 =>
  F_spec_TooCloseNow_L1 u19 x0 FU ([]) (0))
def F_impl_StillGoing_L1 (x0 : (((List (List (Int × Int))) × (List Int) × Int × Int) × Int × (List Int) × (List Int))) : Nat → (List Int) → Int → Option ((List Int) × Bool)
  | 0, _, _ => none
  | m + 1, l30, y33 => (if (decide (y33 < (List.length x0.2.2.2 : Int))) = true then jK1 (fun (l44 : (List Int)) => (F_impl_StillGoing_L1 x0 m) (l44) ((w64 (y33 + 1)))) (fun k47 => Option.bind (F_impl_ownCount x0 y33) fun u56 =>
  Option.bind (F_impl_totalCounts x0.1) fun u63 =>
  (if (decide (u56 < u63)) = true then Option.bind (app l30 [y33]) fun u78 =>
  k47 (u78) else k47 (l30))) else some (l30, true))
def F_impl_StillGoing (x0 : (((List (List (Int × Int))) × (List Int) × Int × Int) × Int × (List Int) × (List Int))) : Option ((List Int) × Bool) :=
  Option.bind (F_impl_IsMarch x0) fun u9 =>
  (if (!u9) = true then some ([], false) else F_impl_StillGoing_L1 x0 FU ([]) (0))
def F_spec_StillGoing_L1 (x0 : (((List (List (Int × Int))) × (List Int) × Int × Int) × Int × (List Int) × (List Int))) : Nat → (List Int) → Int → Option ((List Int) × Bool)
  | 0, _, _ => none
  | m + 1, l24, y27 => (if (decide (y27 < (List.length x0.2.2.2 : Int))) = true then jK1 (fun (l39 : (List Int)) => (F_spec_StillGoing_L1 x0 m) (l39) ((w64 (y27 + 1)))) (fun k42 => Option.bind (F_spec_mnCount x0 y27) fun u51 =>
  Option.bind (F_spec_swTotal x0.1) fun u58 =>
  (if (decide (u51 < u58)) = true then Option.bind (app l24 [y27]) fun u72 =>
  k42 (u72) else k42 (l24))) else some (l24, true))
def F_spec_StillGoing (x0 : (((List (List (Int × Int))) × (List Int) × Int × Int) × Int × (List Int) × (List Int))) : Option ((List Int) × Bool) :=
  Option.bind (F_spec_mnGood x0) fun u9 =>
  (if (!u9) = true then some ([], false) else F_spec_StillGoing_L1 x0 FU ([]) (0))
def F_impl_MostBehind_L1 (x0 : (((List (List (Int × Int))) × (List Int) × Int × Int) × Int × (List Int) × (List Int))) : Nat → Int → Int → Option (Int × Bool)
  | 0, _, _ => none
  | m + 1, y23, y24 => (if (decide (y24 < (List.length x0.2.2.2 : Int))) = true then jK1 (fun (y35 : Int) => (F_impl_MostBehind_L1 x0 m) (y35) ((w64 (y24 + 1)))) (fun k36 => Option.bind (idx x0.2.2.2 y24) fun u39 =>
  Option.bind (idx x0.2.2.2 y23) fun u43 =>
  (if (decide (u43 < u39)) = true then k36 (y24) else k36 (y23))) else some (y23, true))
def F_impl_MostBehind (x0 : (((List (List (Int × Int))) × (List Int) × Int × Int) × Int × (List Int) × (List Int))) : Option (Int × Bool) :=
  Option.bind (F_impl_IsMarch x0) fun u9 =>
  (if (!u9) = true then some (0, false) else F_impl_MostBehind_L1 x0 FU (0) (0))
def F_spec_MostBehind_L1 (x0 : (((List (List (Int × Int))) × (List Int) × Int × Int) × Int × (List Int) × (List Int))) : Nat → Int → Int → Option (Int × Bool)
  | 0, _, _ => none
  | m + 1, y23, y24 => (if (decide (y24 < (List.length x0.2.2.2 : Int))) = true then jK1 (fun (y35 : Int) => (F_spec_MostBehind_L1 x0 m) (y35) ((w64 (y24 + 1)))) (fun k36 => Option.bind (idx x0.2.2.2 y24) fun u39 =>
  Option.bind (idx x0.2.2.2 y23) fun u43 =>
  (if (decide (u43 < u39)) = true then k36 (y24) else k36 (y23))) else some (y23, true))
def F_spec_MostBehind (x0 : (((List (List (Int × Int))) × (List Int) × Int × Int) × Int × (List Int) × (List Int))) : Option (Int × Bool) :=
  Option.bind (F_spec_mnGood x0) fun u9 =>
  (if (!u9) = true then some (0, false) else F_spec_MostBehind_L1 x0 FU (0) (0))
def F_impl_hasPerformer (x0 : (((List (List (Int × Int))) × (List Int) × Int × Int) × Int × (List Int) × (List Int))) (x1 : Int) : Option Bool :=
  jK1 (fun (y11 : Bool) => some y11) (fun k12 => Option.bind (F_impl_IsMarch x0) fun u14 =>
  (if u14 = true then Option.bind (F_impl_within x1 0 (w64 ((List.length x0.2.2.2 : Int) - 1))) fun u21 =>
  k12 (u21) else k12 (false)))
def F_impl_WhereNow (x0 : (((List (List (Int × Int))) × (List Int) × Int × Int) × Int × (List Int) × (List Int))) (x1 : Int) : Option ((Int × Int) × Bool) :=
  Option.bind (F_impl_hasPerformer x0 x1) fun u14 =>
  (if (!u14) = true then some ((0, 0), false) else Option.bind (F_impl_whereNow x0 x1) fun u27 =>
  some (u27, true))
def F_impl_SheetOf (x0 : (List (List (Int × Int)))) (x1 : (List Int)) (x2 : Int) : Option ((Int × (Int × Int) × (List (Int × (Int × Int)))) × Bool) :=
  jK1 (fun (y12 : Bool) => (if y12 = true then some ((0, (0, 0), []), false) else Option.bind (F_impl_sheetOf x0 x1 x2) fun u23 =>
  some (u23, true))) (fun k13 => Option.bind (F_impl_areCharts x0 x1) fun u35 =>
  (if (!u35) = true then k13 (true) else Option.bind (idx x0 0) fun u42 =>
  Option.bind (F_impl_within x2 0 (w64 ((List.length u42 : Int) - 1))) fun u47 =>
  k13 ((!u47))))
def F_spec_DrawHaltPerformer (x0 : (List Int)) : Option ((((List (List (Int × Int))) × (List Int) × Int × Int) × Int × (List Int) × (List Int)) × Int) :=
  Option.bind (F_spec_l1Cur__march__mut__box (x0, 0, 0)) fun u14 =>
  Option.bind (F_spec_l1Cur__pick__mut__box (x0, u14.2.2.1, u14.2.2.2) 16) fun u43 =>
  Option.bind (F_spec_l1Cur__pick__mut__box (x0, u43.2.2.1, u43.2.2.2) (w64 ((List.length u14.1.2.2.2 : Int) + (w64 (Int.tdiv u43.1 15))))) fun u52 =>
  Option.bind (F_spec_l1Cur__pick__mut__box (x0, u52.2.2.1, u52.2.2.2) 24) fun u61 =>
  some (u14.1, (w64 (u52.1 - (w64 (Int.tdiv u61.1 23)))))
def F_spec_DrawWhereNow (x0 : (List Int)) : Option ((((List (List (Int × Int))) × (List Int) × Int × Int) × Int × (List Int) × (List Int)) × Int) :=
  Option.bind (F_spec_DrawHaltPerformer x0) fun u8 =>
  some u8
def F_spec_mnHas (x0 : (((List (List (Int × Int))) × (List Int) × Int × Int) × Int × (List Int) × (List Int))) (x1 : Int) : Option Bool :=
  jK1 (fun (y11 : Bool) => some y11) (fun k12 => Option.bind (F_spec_mnGood x0) fun u14 =>
  (if u14 = true then Option.bind (F_spec_l1In x1 0 (w64 ((List.length x0.2.2.2 : Int) - 1))) fun u21 =>
  k12 (u21) else k12 (false)))
def F_spec_WhereNow (x0 : (((List (List (Int × Int))) × (List Int) × Int × Int) × Int × (List Int) × (List Int))) (x1 : Int) : Option ((Int × Int) × Bool) :=
  Option.bind (F_spec_mnHas x0 x1) fun u14 =>
  (if (!u14) = true then some ((0, 0), false) else Option.bind (F_spec_mnWhere x0 x1) fun u27 =>
  some (u27, true))
def F_laws_FnPlacesNow_L2 (u64 : ((List (List Int)) × Bool)) (u46 : ((List (Int × Int)) × Bool)) (u13 : (((List (List (Int × Int))) × (List Int) × Int × Int) × Int × (List Int) × (List Int))) (k118 : (Option Bool)) : Nat → Int → Option Bool
  | 0, _ => none
  | m + 1, y385 => (if (decide (y385 < (List.length u64.1 : Int))) = true then Option.bind (idx u64.1 y385) fun u394 =>
  Option.bind (idx u394 0) fun u406 =>
  Option.bind (idx u46.1 u406) fun u409 =>
  Option.bind (idx u394 1) fun u413 =>
  Option.bind (idx u46.1 u413) fun u416 =>
  Option.bind (F_impl_SquareOf u409 u416) fun u420 =>
  jK1 (fun (y431 : Bool) => (if y431 = true then some false else (F_laws_FnPlacesNow_L2 u64 u46 u13 k118 m) ((w64 (y385 + 1))))) (fun k432 => (if (!u420.2) = true then k432 (true) else k432 ((decide ((w64 (u13.1.2.2.1 * u13.1.2.2.1)) ≤ u420.1))))) else k118)
def F_laws_FnPlacesNow_L1 (u46 : ((List (Int × Int)) × Bool)) (u13 : (((List (List (Int × Int))) × (List Int) × Int × Int) × Int × (List Int) × (List Int))) (u194 : (Int × Bool)) (u82 : ((List Int) × Bool)) (u98 : (Int × Bool)) (u64 : ((List (List Int)) × Bool)) (k118 : (Option Bool)) : Nat → Int → Option Bool
  | 0, _ => none
  | m + 1, y215 => (if (decide (y215 < (List.length u46.1 : Int))) = true then Option.bind (idx u46.1 y215) fun u224 =>
  Option.bind (F_impl_WhereNow u13 y215) fun u238 =>
  Option.bind (F_impl_SheetOf u13.1.1 u13.1.2.1 y215) fun u254 =>
  Option.bind (idx u13.2.2.2 y215) fun u277 =>
  jK1 (fun (y285 : Int) => Option.bind (F_impl_SpotAfter u254.1 y285) fun u289 =>
  jK1 (fun (y309 : Bool) => (if y309 = true then some false else jK1 (fun (y318 : Bool) => (if y318 = true then some false else (F_laws_FnPlacesNow_L1 u46 u13 u194 u82 u98 u64 k118 m) ((w64 (y215 + 1))))) (fun k319 => (if (y285 == u194.1) = true then Option.bind (idx u13.1.1 (w64 ((List.length u13.1.1 : Int) - 1))) fun u329 =>
  Option.bind (idx u329 y215) fun u335 =>
  k319 ((!(eqv_Spot u224 u335))) else k319 (false))))) (fun k310 => (if (!u238.2) = true then k310 (true) else (if (!(eqv_Spot u238.1 u224)) = true then k310 (true) else (if (!u254.2) = true then k310 (true) else (if (!u289.2) = true then k310 (true) else (if (!(eqv_Spot u289.1 u224)) = true then k310 (true) else Option.bind (F_laws_pIn u82.1 y215) fun u348 =>
  (if (u348 != (decide (y285 < u194.1))) = true then k310 (true) else Option.bind (idx u13.2.2.2 y215) fun u356 =>
  Option.bind (idx u13.2.2.2 u98.1) fun u360 =>
  k310 ((decide (u360 < u356))))))))))) (fun k286 => (if (decide (u194.1 < (w64 (u13.2.1 - u277)))) = true then k286 (u194.1) else k286 ((w64 (u13.2.1 - u277))))) else F_laws_FnPlacesNow_L2 u64 u46 u13 k118 FU (0))
def F_laws_FnPlacesNow (x0 : (List Int)) (x1 : (List Int)) : Option Bool :=
  Option.bind (F_laws_big x0 x1) fun u4 =>
  (if u4 = true then some true else Option.bind (F_spec_DrawPlacesNow x0) fun u13 =>
  Option.bind (F_impl_PlacesNow u13) fun u37 =>
  Option.bind (F_spec_PlacesNow u13) fun u46 =>
  Option.bind (F_impl_TooCloseNow u13) fun u55 =>
  Option.bind (F_spec_TooCloseNow u13) fun u64 =>
  Option.bind (F_impl_StillGoing u13) fun u73 =>
  Option.bind (F_spec_StillGoing u13) fun u82 =>
  Option.bind (F_impl_MostBehind u13) fun u91 =>
  Option.bind (F_spec_MostBehind u13) fun u98 =>
  jK1 (fun (y109 : Bool) => (if y109 = true then some false else jK0 (Option.bind (F_spec_DrawWhereNow x1) fun u121 =>
  Option.bind (F_impl_WhereNow u121.1 u121.2) fun u145 =>
  Option.bind (F_spec_WhereNow u121.1 u121.2) fun u161 =>
  jK1 (fun (y180 : Bool) => some y180) (fun k181 => (if (u145.2 == u161.2) = true then k181 ((eqv_Spot u145.1 u161.1)) else k181 (false)))) (fun k118 => (if u37.2 = true then Option.bind (F_impl_TotalCounts u13.1) fun u187 =>
  Option.bind (F_spec_TotalCounts u13.1) fun u194 =>
  jK1 (fun (y205 : Bool) => (if y205 = true then some false else F_laws_FnPlacesNow_L1 u46 u13 u194 u82 u98 u64 k118 FU (0))) (fun k206 => (if (!u187.2) = true then k206 (true) else (if (!u194.2) = true then k206 (true) else (if (u187.1 != u194.1) = true then k206 (true) else k206 (((List.length u46.1 : Int) != (List.length u13.2.2.2 : Int))))))) else k118)))) (fun k110 => (if (u37.2 != u46.2) = true then k110 (true) else Option.bind (F_laws_pSameSpots u37.1 u46.1) fun u441 =>
  (if (!u441) = true then k110 (true) else (if (u55.2 != u64.2) = true then k110 (true) else Option.bind (F_laws_sameLists u55.1 u64.1) fun u449 =>
  (if (!u449) = true then k110 (true) else (if (u73.2 != u82.2) = true then k110 (true) else Option.bind (F_laws_sameInts u73.1 u82.1) fun u457 =>
  (if (!u457) = true then k110 (true) else (if (u91.2 != u98.2) = true then k110 (true) else (if (u91.1 != u98.1) = true then k110 (true) else (if (u55.2 != u37.2) = true then k110 (true) else (if (u73.2 != u37.2) = true then k110 (true) else (if (u91.2 != u37.2) = true then k110 (true) else Option.bind (F_impl_IsMarch u13) fun u469 =>
  k110 ((u469 != u37.2)))))))))))))))
end Go.Proofs.Ytmkignciedkidaa
