/-
  THE FUNCTIONS of this seat as plain functions, by program (gen.py).
-/
import Derived.Test.YtmkignciedkidaaCore0
set_option linter.unusedSimpArgs false
set_option linter.unusedVariables false
set_option maxRecDepth 100000
set_option maxHeartbeats 1600000
namespace Go.Proofs.Ytmkignciedkidaa
open Go
def eqv_Spot (x y : (Int × Int)) : Bool := (x.1 == y.1) && (x.2 == y.2)
def F_spec_l1In (x0 : Int) (x1 : Int) (x2 : Int) : Option Bool :=
  jK1 (fun (y6 : Bool) => some y6) (fun k7 => (if (decide (x1 ≤ x0)) = true then k7 ((decide (x0 ≤ x2))) else k7 (false)))
def F_spec_l1Cur__next__mut__box (x0 : ((List Int) × Int × Int)) : Option (Int × ((List Int) × Int × Int)) :=
  jK1 (fun (y7 : Int) => (if (decide ((w64 (x0.2.1 + 1)) ≤ (List.length x0.1 : Int))) = true then some (y7, (x0.1, (w64 (x0.2.1 + 1)), (wu64 ((wu64 ((wu64 (x0.2.2 * 6364136223846793005)) + (wu64 y7))) + 1442695040888963407)))) else some ((w64 (andK .u64 (shrK .u64 (wu64 ((wu64 ((wu64 (x0.2.2 * 6364136223846793005)) + (wu64 y7))) + 1442695040888963407)) 40) 255)), (x0.1, (w64 (x0.2.1 + 1)), (wu64 ((wu64 ((wu64 (x0.2.2 * 6364136223846793005)) + (wu64 y7))) + 1442695040888963407)))))) (fun k8 => (if (decide (x0.2.1 < (List.length x0.1 : Int))) = true then Option.bind (idx x0.1 x0.2.1) fun u42 =>
  k8 ((w64 u42)) else k8 (0)))
def F_spec_l1Cur__pick__mut__box (x0 : ((List Int) × Int × Int)) (x1 : Int) : Option (Int × ((List Int) × Int × Int)) :=
  (if (decide (x1 ≤ 1)) = true then some (0, x0) else Option.bind (F_spec_l1Cur__next__mut__box x0) fun u7 =>
  jK3 (fun (y17 : Int) (y18 : Int) (y19 : Int) => (if x1 = 0 then none else some ((Int.tmod y19 x1), (x0.1, y17, y18)))) (fun k20 => (if (decide (200 < x1)) = true then Option.bind (F_spec_l1Cur__next__mut__box (x0.1, u7.2.2.1, u7.2.2.2)) fun u26 =>
  k20 (u26.2.2.1) (u26.2.2.2) ((w64 ((w64 (u7.1 * 256)) + u26.1))) else k20 (u7.2.2.1) (u7.2.2.2) (u7.1))))
def F_spec_l1Cur__one__mut__box (x0 : ((List Int) × Int × Int)) (x1 : Int) : Option (Bool × ((List Int) × Int × Int)) :=
  Option.bind (F_spec_l1Cur__pick__mut__box x0 x1) fun u3 =>
  some ((u3.1 == 0), (x0.1, u3.2.2.1, u3.2.2.2))
def F_spec_l1Cur__among__mut__box (x0 : ((List Int) × Int × Int)) (x1 : (List Int)) : Option (Int × ((List Int) × Int × Int)) :=
  Option.bind (F_spec_l1Cur__pick__mut__box x0 (List.length x1 : Int)) fun u3 =>
  Option.bind (idx x1 u3.1) fun u9 =>
  some (u9, (x0.1, u3.2.2.1, u3.2.2.2))
def F_impl_within (x0 : Int) (x1 : Int) (x2 : Int) : Option Bool :=
  jK1 (fun (y6 : Bool) => some y6) (fun k7 => (if (decide (x1 ≤ x0)) = true then k7 ((decide (x0 ≤ x2))) else k7 (false)))
def F_spec_l1Most (x0 : Int) (x1 : Int) : Option Int :=
  (if (decide (x1 < x0)) = true then some x0 else some x1)
def F_laws_qInts_L1 (x0 : (List Int)) (x1 : (List Int)) : Nat → Int → Option Bool
  | 0, _ => none
  | m + 1, y11 => (if (decide (y11 < (List.length x0 : Int))) = true then Option.bind (idx x0 y11) fun u26 =>
  Option.bind (idx x1 y11) fun u29 =>
  (if (u26 != u29) = true then some false else (F_laws_qInts_L1 x0 x1 m) ((w64 (y11 + 1)))) else some true)
def F_laws_qInts (x0 : (List Int)) (x1 : (List Int)) : Option Bool :=
  (if ((List.length x0 : Int) != (List.length x1 : Int)) = true then some false else F_laws_qInts_L1 x0 x1 FU (0))
def F_spec_l1Least (x0 : Int) (x1 : Int) : Option Int :=
  (if (decide (x0 < x1)) = true then some x0 else some x1)
def F_spec_chFind_L1 (x0 : (List (Int × Int))) (x1 : (Int × Int)) : Nat → Int → Option Int
  | 0, _ => none
  | m + 1, y12 => (if (decide (y12 < (List.length x0 : Int))) = true then Option.bind (idx x0 y12) fun u21 =>
  (if (eqv_Spot u21 x1) = true then some y12 else (F_spec_chFind_L1 x0 x1 m) ((w64 (y12 + 1)))) else some (-1))
def F_spec_chFind (x0 : (List (Int × Int))) (x1 : (Int × Int)) : Option Int :=
  F_spec_chFind_L1 x0 x1 FU (0)
def F_spec_chOwn (x0 : (List (Int × Int))) : Option (List (Int × Int)) :=
  Option.bind (app [] x0) fun u9 =>
  some u9
def F_spec_stGood (x0 : (Int × Int)) : Option Bool :=
  jK1 (fun (y11 : Bool) => some y11) (fun k12 => Option.bind (F_spec_l1In x0.1 0 1280) fun u14 =>
  (if u14 = true then Option.bind (F_spec_l1In x0.2 0 672) fun u21 =>
  k12 (u21) else k12 (false)))
def F_spec_chGood_L2 (u39 : (List (Int × Int))) (u16 : (Int × Int)) (nx8 : (Int → Option Bool)) (y7 : Int) : Nat → Int → Option Bool
  | 0, _ => none
  | m + 1, y45 => (if (decide (y45 < (List.length u39 : Int))) = true then Option.bind (idx u39 y45) fun u54 =>
  (if (eqv_Spot u16 u54) = true then some false else (F_spec_chGood_L2 u39 u16 nx8 y7 m) ((w64 (y45 + 1)))) else nx8 ((w64 (y7 + 1))))
def F_spec_chGood_L1 (x0 : (List (Int × Int))) : Nat → Int → Option Bool
  | 0, _ => none
  | m + 1, y7 => (if (decide (y7 < (List.length x0 : Int))) = true then Option.bind (idx x0 y7) fun u16 =>
  Option.bind (F_spec_stGood u16) fun u30 =>
  (if (!u30) = true then some false else Option.bind (sl x0 0 y7) fun u39 =>
  F_spec_chGood_L2 u39 u16 (F_spec_chGood_L1 x0 m) y7 FU (0)) else Option.bind (F_spec_l1In (List.length x0 : Int) 1 12) fun u70 =>
  some u70)
def F_spec_chGood (x0 : (List (Int × Int))) : Option Bool :=
  F_spec_chGood_L1 x0 FU (0)
def F_spec_l1All_L1 (x0 : (List Int)) (x1 : Int) (x2 : Int) : Nat → Int → Option Bool
  | 0, _ => none
  | m + 1, y7 => (if (decide (y7 < (List.length x0 : Int))) = true then Option.bind (idx x0 y7) fun u16 =>
  Option.bind (F_spec_l1In u16 x1 x2) fun u20 =>
  (if (!u20) = true then some false else (F_spec_l1All_L1 x0 x1 x2 m) ((w64 (y7 + 1)))) else some true)
def F_spec_l1All (x0 : (List Int)) (x1 : Int) (x2 : Int) : Option Bool :=
  F_spec_l1All_L1 x0 x1 x2 FU (0)
def F_spec_apDistance (x0 : Int) : Option Bool :=
  Option.bind (F_spec_l1In x0 0 80) fun u3 =>
  some u3
def F_spec_mvStep (x0 : Int) : Option Bool :=
  Option.bind (F_spec_l1In x0 1 24) fun u3 =>
  some u3
def F_spec_swGood_L1 (x0 : ((List (List (Int × Int))) × (List Int) × Int × Int)) : Nat → Int → Option Bool
  | 0, _ => none
  | m + 1, y12 => (if (decide (y12 < (List.length x0.1 : Int))) = true then Option.bind (idx x0.1 y12) fun u21 =>
  jK1 (fun (y30 : Bool) => (if y30 = true then some false else (F_spec_swGood_L1 x0 m) ((w64 (y12 + 1))))) (fun k31 => Option.bind (F_spec_chGood u21) fun u35 =>
  (if (!u35) = true then k31 (true) else Option.bind (idx x0.1 0) fun u42 =>
  k31 (((List.length u21 : Int) != (List.length u42 : Int))))) else jK1 (fun (y51 : Bool) => some y51) (fun k52 => Option.bind (F_spec_l1In (List.length x0.1 : Int) 2 8) fun u54 =>
  (if u54 = true then (if ((List.length x0.2.1 : Int) == (w64 ((List.length x0.1 : Int) - 1))) = true then Option.bind (F_spec_l1All x0.2.1 1 64) fun u62 =>
  (if u62 = true then Option.bind (F_spec_apDistance x0.2.2.1) fun u69 =>
  (if u69 = true then Option.bind (F_spec_mvStep x0.2.2.2) fun u76 =>
  k52 (u76) else k52 (false)) else k52 (false)) else k52 (false)) else k52 (false))))
def F_spec_swGood (x0 : ((List (List (Int × Int))) × (List Int) × Int × Int)) : Option Bool :=
  F_spec_swGood_L1 x0 FU (0)
def F_spec_l1Own (x0 : (List Int)) : Option (List Int) :=
  Option.bind (app [] x0) fun u9 =>
  some u9
def F_spec_l1Cur__spot__mut__box (x0 : ((List Int) × Int × Int)) : Option ((Int × Int) × ((List Int) × Int × Int)) :=
  Option.bind (F_spec_l1Cur__pick__mut__box x0 161) fun u8 =>
  Option.bind (F_spec_l1Cur__pick__mut__box (x0.1, u8.2.2.1, u8.2.2.2) 1281) fun u14 =>
  Option.bind (F_spec_l1Cur__among__mut__box (x0.1, u14.2.2.1, u14.2.2.2) [0, 80, 160, 640, (w64 (8 * u8.1)), u14.1, 1280]) fun u26 =>
  Option.bind (F_spec_l1Cur__pick__mut__box (x0.1, u26.2.2.1, u26.2.2.2) 85) fun u32 =>
  Option.bind (F_spec_l1Cur__pick__mut__box (x0.1, u32.2.2.1, u32.2.2.2) 673) fun u38 =>
  Option.bind (F_spec_l1Cur__among__mut__box (x0.1, u38.2.2.1, u38.2.2.2) [0, 80, 336, (w64 (8 * u32.1)), u38.1, 672]) fun u50 =>
  some ((u26.1, u50.1), (x0.1, u50.2.2.1, u50.2.2.2))
def F_spec_l1Cur__chartOf__mut__box_L1 (x1 : Int) (x0 : ((List Int) × Int × Int)) : Nat → Int → Int → (List (Int × Int)) → Int → Option ((List (Int × Int)) × ((List Int) × Int × Int))
  | 0, _, _, _, _ => none
  | m + 1, y8, y9, l10, y13 => (if (decide ((List.length l10 : Int) < x1)) = true then jK3 (fun (y25 : Int) (y26 : Int) (l27 : (List (Int × Int))) => (F_spec_l1Cur__chartOf__mut__box_L1 x1 x0 m) (y25) (y26) (l27) ((w64 (y13 + 1)))) (fun k30 => Option.bind (F_spec_l1Cur__spot__mut__box (x0.1, y8, y9)) fun u33 =>
  jK4 (fun (y52 : Int) (y53 : Int) (y54 : Int) (y55 : Int) => jK2 (fun (y62 : Int) (y63 : Int) => Option.bind (F_spec_chFind l10 (y62, y63)) fun u67 =>
  (if (decide (u67 < 0)) = true then Option.bind (app l10 [(y62, y63)]) fun u80 =>
  k30 (y52) (y53) (u80) else k30 (y52) (y53) (l10))) (fun k64 => (if (decide (60 < y13)) = true then k64 ((w64 (3 * (List.length l10 : Int)))) ((w64 (7 + y13))) else k64 (y54) (y55)))) (fun k56 => jK3 (fun (y97 : Int) (y98 : Int) (y99 : Bool) => (if y99 = true then Option.bind (F_spec_l1Cur__pick__mut__box (x0.1, y97, y98) (List.length l10 : Int)) fun u104 =>
  Option.bind (idx l10 u104.1) fun u110 =>
  Option.bind (F_spec_l1Cur__among__mut__box (x0.1, u104.2.2.1, u104.2.2.2) [0, 8, 16, 24, 5]) fun u140 =>
  Option.bind (F_spec_l1Least 1280 (w64 (u110.1 + u140.1))) fun u150 =>
  Option.bind (F_spec_l1Cur__among__mut__box (x0.1, u140.2.2.1, u140.2.2.2) [0, 8, 16, 3]) fun u169 =>
  Option.bind (F_spec_l1Least 672 (w64 (u110.2 + u169.1))) fun u179 =>
  k56 (u169.2.2.1) (u169.2.2.2) (u150) (u179) else k56 (y97) (y98) (u33.1.1) (u33.1.2))) (fun k100 => (if (decide (0 < (List.length l10 : Int))) = true then Option.bind (F_spec_l1Cur__one__mut__box (x0.1, u33.2.2.1, u33.2.2.2) 2) fun u361 =>
  k100 (u361.2.2.1) (u361.2.2.2) (u361.1) else k100 (u33.2.2.1) (u33.2.2.2) (false))))) else some (l10, (x0.1, y8, y9)))
def F_spec_l1Cur__chartOf__mut__box (x0 : ((List Int) × Int × Int)) (x1 : Int) : Option ((List (Int × Int)) × ((List Int) × Int × Int)) :=
  F_spec_l1Cur__chartOf__mut__box_L1 x1 x0 FU (x0.2.1) (x0.2.2) ([]) (0)
def F_spec_l1Cur__chart__mut__box (x0 : ((List Int) × Int × Int)) : Option ((List (Int × Int)) × ((List Int) × Int × Int)) :=
  Option.bind (F_spec_l1Cur__one__mut__box x0 20) fun u4 =>
  (if u4.1 = true then Option.bind (F_spec_l1Cur__chartOf__mut__box (x0.1, u4.2.2.1, u4.2.2.2) 12) fun u12 =>
  some (u12.1, (x0.1, u12.2.2.1, u12.2.2.2)) else Option.bind (F_spec_l1Cur__pick__mut__box (x0.1, u4.2.2.1, u4.2.2.2) 6) fun u21 =>
  Option.bind (F_spec_l1Cur__chartOf__mut__box (x0.1, u21.2.2.1, u21.2.2.2) (w64 (1 + u21.1))) fun u27 =>
  some (u27.1, (x0.1, u27.2.2.1, u27.2.2.2)))
def F_spec_l1Cur__anySpot__mut__box (x0 : ((List Int) × Int × Int)) : Option ((Int × Int) × ((List Int) × Int × Int)) :=
  Option.bind (F_spec_l1Cur__spot__mut__box x0) fun u8 =>
  jK4 (fun (y27 : Int) (y28 : Int) (y29 : Int) (y30 : Int) => some ((y29, y30), (x0.1, y27, y28))) (fun k31 => Option.bind (F_spec_l1Cur__pick__mut__box (x0.1, u8.2.2.1, u8.2.2.2) 30) fun u39 =>
  (if (u39.1 == 0) = true then Option.bind (F_spec_l1Cur__among__mut__box (x0.1, u39.2.2.1, u39.2.2.2) [(-1), 1281]) fun u53 =>
  k31 (u53.2.2.1) (u53.2.2.2) (u53.1) (u8.1.2) else (if (u39.1 == 1) = true then Option.bind (F_spec_l1Cur__among__mut__box (x0.1, u39.2.2.1, u39.2.2.2) [(-1), 673]) fun u71 =>
  k31 (u71.2.2.1) (u71.2.2.2) (u8.1.1) (u71.1) else k31 (u39.2.2.1) (u39.2.2.2) (u8.1.1) (u8.1.2))))
def F_spec_l1Cur__anyChart__mut__box (x0 : ((List Int) × Int × Int)) : Option ((List (Int × Int)) × ((List Int) × Int × Int)) :=
  Option.bind (F_spec_l1Cur__chart__mut__box x0) fun u3 =>
  Option.bind (F_spec_l1Cur__pick__mut__box (x0.1, u3.2.2.1, u3.2.2.2) (List.length u3.1 : Int)) fun u12 =>
  jK3 (fun (y22 : Int) (y23 : Int) (l24 : (List (Int × Int))) => some (l24, (x0.1, y22, y23))) (fun k27 => Option.bind (F_spec_l1Cur__pick__mut__box (x0.1, u12.2.2.1, u12.2.2.2) 30) fun u31 =>
  (if (u31.1 == 0) = true then Option.bind (F_spec_l1Cur__anySpot__mut__box (x0.1, u31.2.2.1, u31.2.2.2)) fun u39 =>
  Option.bind (idx u3.1 u12.1) fun u45 =>
  k27 (u39.2.2.1) (u39.2.2.2) ((seti u3.1 u12.1 u39.1)) else (if (u31.1 == 1) = true then Option.bind (idx u3.1 0) fun u55 =>
  Option.bind (idx u3.1 u12.1) fun u59 =>
  k27 (u31.2.2.1) (u31.2.2.2) ((seti u3.1 u12.1 u55)) else (if (u31.1 == 2) = true then some ([], (x0.1, u31.2.2.1, u31.2.2.2)) else (if (u31.1 == 3) = true then Option.bind (F_spec_l1Cur__chartOf__mut__box (x0.1, u31.2.2.1, u31.2.2.2) 13) fun u74 =>
  some (u74.1, (x0.1, u74.2.2.1, u74.2.2.2)) else k27 (u31.2.2.1) (u31.2.2.2) (u3.1))))))
def F_spec_l1Cur__show__mut__box_L2 (u311 : (List (Int × Int))) (x0 : ((List Int) × Int × Int)) (u101 : (List (Int × Int))) (k125 : (Int → Int → (List (Int × Int)) → Option (((List (List (Int × Int))) × (List Int) × Int × Int) × ((List Int) × Int × Int)))) : Nat → Int → Int → (List (Int × Int)) → Int → Option (((List (List (Int × Int))) × (List Int) × Int × Int) × ((List Int) × Int × Int))
  | 0, _, _, _, _ => none
  | m + 1, y324, y325, l327, y330 => (if (decide (y330 < (List.length u311 : Int))) = true then jK3 (fun (y341 : Int) (y342 : Int) (l344 : (List (Int × Int))) => (F_spec_l1Cur__show__mut__box_L2 u311 x0 u101 k125 m) (y341) (y342) (l344) ((w64 (y330 + 1)))) (fun k347 => Option.bind (idx l327 y330) fun u355 =>
  Option.bind (F_spec_l1Cur__among__mut__box (x0.1, y324, y325) [0, 8, 16, 40]) fun u372 =>
  Option.bind (F_spec_l1Least 1280 (w64 (u355.1 + u372.1))) fun u383 =>
  Option.bind (idx l327 y330) fun u392 =>
  k347 (u372.2.2.1) (u372.2.2.2) ((seti l327 y330 (u383, u392.2)))) else Option.bind (F_spec_chGood l327) fun u479 =>
  (if (!u479) = true then Option.bind (F_spec_chOwn u101) fun u486 =>
  k125 (y324) (y325) (u486) else k125 (y324) (y325) (l327)))
def F_spec_l1Cur__show__mut__box_L1 (y78 : Int) (x0 : ((List Int) × Int × Int)) (u8 : (Int × ((List Int) × Int × Int))) (u50 : (Int × ((List Int) × Int × Int))) (u38 : (Int × ((List Int) × Int × Int))) : Nat → Int → Int → (List (List (Int × Int))) → (List Int) → Option (((List (List (Int × Int))) × (List Int) × Int × Int) × ((List Int) × Int × Int))
  | 0, _, _, _, _ => none
  | m + 1, y85, y86, l87, l90 => (if (decide ((List.length l87 : Int) < y78)) = true then Option.bind (idx l87 (w64 ((List.length l87 : Int) - 1))) fun u101 =>
  Option.bind (F_spec_l1Cur__chartOf__mut__box (x0.1, y85, y86) (w64 (1 + u8.1))) fun u108 =>
  jK3 (fun (y120 : Int) (y121 : Int) (l122 : (List (Int × Int))) => Option.bind (app l87 [l122]) fun u137 =>
  Option.bind (F_spec_l1Cur__among__mut__box (x0.1, y120, y121) [1, 4, 8, 16, 64]) fun u164 =>
  Option.bind (app l90 [u164.1]) fun u183 =>
  (F_spec_l1Cur__show__mut__box_L1 y78 x0 u8 u50 u38 m) (u164.2.2.1) (u164.2.2.2) (u137) (u183)) (fun k125 => Option.bind (F_spec_l1Cur__one__mut__box (x0.1, u108.2.2.1, u108.2.2.2) 3) fun u303 =>
  (if (!u303.1) = true then Option.bind (F_spec_chOwn u101) fun u311 =>
  F_spec_l1Cur__show__mut__box_L2 u311 x0 u101 k125 FU (u303.2.2.1) (u303.2.2.2) (u311) (0) else k125 (u303.2.2.1) (u303.2.2.2) (u108.1))) else jK6 (fun (y498 : Int) (y499 : Int) (l500 : (List (List (Int × Int)))) (l503 : (List Int)) (y506 : Int) (y507 : Int) => some ((l500, l503, y506, y507), (x0.1, y498, y499))) (fun k508 => Option.bind (F_spec_l1Cur__pick__mut__box (x0.1, y85, y86) 36) fun u516 =>
  (if (u516.1 == 0) = true then Option.bind (F_spec_l1Cur__among__mut__box (x0.1, u516.2.2.1, u516.2.2.2) [(-1), 80, 81]) fun u530 =>
  k508 (u530.2.2.1) (u530.2.2.2) (l87) (l90) (u530.1) (u50.1) else (if (u516.1 == 1) = true then Option.bind (F_spec_l1Cur__among__mut__box (x0.1, u516.2.2.1, u516.2.2.2) [0, 1, 25]) fun u548 =>
  k508 (u548.2.2.1) (u548.2.2.2) (l87) (l90) (u38.1) (u548.1) else (if (u516.1 == 2) = true then Option.bind (F_spec_l1Cur__among__mut__box (x0.1, u516.2.2.1, u516.2.2.2) [0, 64, 65]) fun u576 =>
  Option.bind (idx l90 0) fun u585 =>
  k508 (u576.2.2.1) (u576.2.2.2) (l87) ((seti l90 0 u576.1)) (u38.1) (u50.1) else (if (u516.1 == 3) = true then Option.bind (F_spec_l1Cur__anyChart__mut__box (x0.1, u516.2.2.1, u516.2.2.2)) fun u651 =>
  Option.bind (idx l87 (w64 ((List.length l87 : Int) - 1))) fun u663 =>
  k508 (u651.2.2.1) (u651.2.2.2) ((seti l87 (w64 ((List.length l87 : Int) - 1)) u651.1)) (l90) (u38.1) (u50.1) else (if (u516.1 == 4) = true then Option.bind (app l90 [8]) fun u797 =>
  k508 (u516.2.2.1) (u516.2.2.2) (l87) (u797) (u38.1) (u50.1) else (if (u516.1 == 5) = true then Option.bind (sl l87 0 1) fun u811 =>
  k508 (u516.2.2.1) (u516.2.2.2) (u811) ([]) (u38.1) (u50.1) else k508 (u516.2.2.1) (u516.2.2.2) (l87) (l90) (u38.1) (u50.1)))))))))
def F_spec_l1Cur__show__mut__box (x0 : ((List Int) × Int × Int)) : Option (((List (List (Int × Int))) × (List Int) × Int × Int) × ((List Int) × Int × Int)) :=
  Option.bind (F_spec_l1Cur__pick__mut__box x0 4) fun u8 =>
  Option.bind (F_spec_l1Cur__chartOf__mut__box (x0.1, u8.2.2.1, u8.2.2.2) (w64 (1 + u8.1))) fun u15 =>
  Option.bind (F_spec_l1Cur__among__mut__box (x0.1, u15.2.2.1, u15.2.2.2) [0, 1, 8, 8, 16]) fun u38 =>
  Option.bind (F_spec_l1Cur__among__mut__box (x0.1, u38.2.2.1, u38.2.2.2) [8, 12, 24, 24]) fun u50 =>
  Option.bind (F_spec_l1Cur__pick__mut__box (x0.1, u50.2.2.1, u50.2.2.2) 3) fun u66 =>
  jK3 (fun (y76 : Int) (y77 : Int) (y78 : Int) => F_spec_l1Cur__show__mut__box_L1 y78 x0 u8 u50 u38 FU (y76) (y77) ([u15.1]) ([])) (fun k79 => Option.bind (F_spec_l1Cur__one__mut__box (x0.1, u66.2.2.1, u66.2.2.2) 20) fun u832 =>
  (if u832.1 = true then Option.bind (F_spec_l1Cur__pick__mut__box (x0.1, u832.2.2.1, u832.2.2.2) 2) fun u839 =>
  k79 (u839.2.2.1) (u839.2.2.2) ((w64 (8 + u839.1))) else k79 (u832.2.2.1) (u832.2.2.2) ((w64 (2 + u66.1)))))
def F_spec_l1Cur__showsTwo__mut__box_L2 (x0 : ((List Int) × Int × Int)) (u13 : (((List (List (Int × Int))) × (List Int) × Int × Int) × ((List Int) × Int × Int))) (l82 : (List Int)) (y85 : Int) (y86 : Int) : Nat → Int → Int → (List (List (Int × Int))) → Int → Option (((List (List (Int × Int))) × (List Int) × Int × Int) × ((List (List (Int × Int))) × (List Int) × Int × Int) × ((List Int) × Int × Int))
  | 0, _, _, _, _ => none
  | m + 1, y262, y263, l264, y267 => (if (decide (0 < y267)) = true then Option.bind (F_spec_l1Cur__pick__mut__box (x0.1, y262, y263) (List.length l264 : Int)) fun u281 =>
  Option.bind (idx l264 u281.1) fun u290 =>
  Option.bind (F_spec_l1Cur__pick__mut__box (x0.1, u281.2.2.1, u281.2.2.2) (List.length u290 : Int)) fun u296 =>
  Option.bind (F_spec_l1Cur__spot__mut__box (x0.1, u296.2.2.1, u296.2.2.2)) fun u302 =>
  Option.bind (idx u290 u296.1) fun u308 =>
  (F_spec_l1Cur__showsTwo__mut__box_L2 x0 u13 l82 y85 y86 m) (u302.2.2.1) (u302.2.2.2) ((seti l264 u281.1 (seti u290 u296.1 u302.1))) ((w64 (y267 - 1))) else jK5 (fun (y328 : Int) (y329 : Int) (l330 : (List Int)) (y333 : Int) (y334 : Int) => some (u13.1, (l264, l330, y333, y334), (x0.1, y328, y329))) (fun k335 => Option.bind (F_spec_l1Cur__pick__mut__box (x0.1, y262, y263) 5) fun u356 =>
  (if (u356.1 == 0) = true then Option.bind (F_spec_l1Cur__pick__mut__box (x0.1, u356.2.2.1, u356.2.2.2) (List.length l82 : Int)) fun u369 =>
  Option.bind (F_spec_l1Cur__pick__mut__box (x0.1, u369.2.2.1, u369.2.2.2) 20) fun u378 =>
  Option.bind (idx l82 u369.1) fun u387 =>
  k335 (u378.2.2.1) (u378.2.2.2) ((seti l82 u369.1 (w64 (1 + u378.1)))) (y85) (y86) else (if (u356.1 == 1) = true then Option.bind (F_spec_l1Cur__pick__mut__box (x0.1, u356.2.2.1, u356.2.2.2) 20) fun u474 =>
  k335 (u474.2.2.1) (u474.2.2.2) (l82) (u474.1) (y86) else (if (u356.1 == 2) = true then Option.bind (F_spec_l1Cur__pick__mut__box (x0.1, u356.2.2.1, u356.2.2.2) 24) fun u486 =>
  k335 (u486.2.2.1) (u486.2.2.2) (l82) (y85) ((w64 (1 + u486.1))) else k335 (u356.2.2.1) (u356.2.2.2) (l82) (y85) (y86))))))
def F_spec_l1Cur__showsTwo__mut__box_L1 (u13 : (((List (List (Int × Int))) × (List Int) × Int × Int) × ((List Int) × Int × Int))) (x0 : ((List Int) × Int × Int)) (y37 : Int) (y38 : Int) (l82 : (List Int)) (y85 : Int) (y86 : Int) : Nat → (List (List (Int × Int))) → Int → Option (((List (List (Int × Int))) × (List Int) × Int × Int) × ((List (List (Int × Int))) × (List Int) × Int × Int) × ((List Int) × Int × Int))
  | 0, _, _ => none
  | m + 1, l94, y97 => (if (decide (y97 < (List.length u13.1.1 : Int))) = true then jK1 (fun (l109 : (List (List (Int × Int)))) => (F_spec_l1Cur__showsTwo__mut__box_L1 u13 x0 y37 y38 l82 y85 y86 m) (l109) ((w64 (y97 + 1)))) (fun k112 => Option.bind (idx u13.1.1 y97) fun u115 =>
  Option.bind (F_spec_chOwn u115) fun u126 =>
  Option.bind (app l94 [u126]) fun u153 =>
  k112 (u153)) else Option.bind (F_spec_l1Cur__pick__mut__box (x0.1, y37, y38) 3) fun u253 =>
  F_spec_l1Cur__showsTwo__mut__box_L2 x0 u13 l82 y85 y86 FU (u253.2.2.1) (u253.2.2.2) (l94) (u253.1))
def F_spec_l1Cur__showsTwo__mut__box (x0 : ((List Int) × Int × Int)) : Option (((List (List (Int × Int))) × (List Int) × Int × Int) × ((List (List (Int × Int))) × (List Int) × Int × Int) × ((List Int) × Int × Int)) :=
  Option.bind (F_spec_l1Cur__show__mut__box x0) fun u13 =>
  jK3 (fun (y37 : Int) (y38 : Int) (y39 : Bool) => (if y39 = true then Option.bind (F_spec_l1Cur__show__mut__box (x0.1, y37, y38)) fun u49 =>
  some (u13.1, u49.1, (x0.1, u49.2.2.1, u49.2.2.2)) else jK3 (fun (l82 : (List Int)) (y85 : Int) (y86 : Int) => F_spec_l1Cur__showsTwo__mut__box_L1 u13 x0 y37 y38 l82 y85 y86 FU ([]) (0)) (fun k87 => Option.bind (F_spec_l1Own u13.1.2.1) fun u501 =>
  k87 (u501) (u13.1.2.2.1) (u13.1.2.2.2)))) (fun k40 => Option.bind (F_spec_swGood u13.1) fun u551 =>
  (if (!u551) = true then k40 (u13.2.2.1) (u13.2.2.2) (true) else Option.bind (F_spec_l1Cur__one__mut__box (x0.1, u13.2.2.1, u13.2.2.2) 4) fun u558 =>
  k40 (u558.2.2.1) (u558.2.2.2) (u558.1)))
def F_spec_DrawSameShows (x0 : (List Int)) : Option (((List (List (Int × Int))) × (List Int) × Int × Int) × ((List (List (Int × Int))) × (List Int) × Int × Int)) :=
  Option.bind (F_spec_l1Cur__showsTwo__mut__box (x0, 0, 0)) fun u19 =>
  some (u19.1, u19.2.1)
def F_impl_IsSpot (x0 : (Int × Int)) : Option Bool :=
  jK1 (fun (y11 : Bool) => some y11) (fun k12 => Option.bind (F_impl_within x0.1 0 1280) fun u14 =>
  (if u14 = true then Option.bind (F_impl_within x0.2 0 672) fun u21 =>
  k12 (u21) else k12 (false)))
def F_slices_Index_impl_Spot_impl_Spot_L1 (x0 : (List (Int × Int))) (x1 : (Int × Int)) : Nat → Int → Option Int
  | 0, _ => none
  | m + 1, y12 => (if (decide (y12 < (List.length x0 : Int))) = true then Option.bind (idx x0 y12) fun u27 =>
  (if (eqv_Spot x1 u27) = true then some y12 else (F_slices_Index_impl_Spot_impl_Spot_L1 x0 x1 m) ((w64 (y12 + 1)))) else some (-1))
def F_slices_Index_impl_Spot_impl_Spot (x0 : (List (Int × Int))) (x1 : (Int × Int)) : Option Int :=
  F_slices_Index_impl_Spot_impl_Spot_L1 x0 x1 FU (0)
def F_slices_Contains_impl_Spot_impl_Spot (x0 : (List (Int × Int))) (x1 : (Int × Int)) : Option Bool :=
  Option.bind (F_slices_Index_impl_Spot_impl_Spot x0 x1) fun u8 =>
  some (decide (0 ≤ u8))
def F_impl_IsChart_L1 (x0 : (List (Int × Int))) : Nat → Int → Option Bool
  | 0, _ => none
  | m + 1, y17 => (if (decide (y17 < (List.length x0 : Int))) = true then Option.bind (idx x0 y17) fun u26 =>
  jK1 (fun (y42 : Bool) => (if y42 = true then some false else (F_impl_IsChart_L1 x0 m) ((w64 (y17 + 1))))) (fun k43 => Option.bind (F_impl_IsSpot u26) fun u52 =>
  (if (!u52) = true then k43 (true) else Option.bind (sl x0 0 y17) fun u60 =>
  Option.bind (F_slices_Contains_impl_Spot_impl_Spot u60 u26) fun u63 =>
  k43 (u63))) else some true)
def F_impl_IsChart (x0 : (List (Int × Int))) : Option Bool :=
  Option.bind (F_impl_within (List.length x0 : Int) 1 12) fun u4 =>
  (if (!u4) = true then some false else F_impl_IsChart_L1 x0 FU (0))
def F_impl_areCharts_L2 (x1 : (List Int)) : Nat → Int → Option Bool
  | 0, _ => none
  | m + 1, y57 => (if (decide (y57 < (List.length x1 : Int))) = true then Option.bind (idx x1 y57) fun u66 =>
  Option.bind (F_impl_within u66 1 64) fun u70 =>
  (if (!u70) = true then some false else (F_impl_areCharts_L2 x1 m) ((w64 (y57 + 1)))) else some true)
def F_impl_areCharts_L1 (x0 : (List (List (Int × Int)))) (x1 : (List Int)) : Nat → Int → Option Bool
  | 0, _ => none
  | m + 1, y17 => (if (decide (y17 < (List.length x0 : Int))) = true then Option.bind (idx x0 y17) fun u26 =>
  jK1 (fun (y35 : Bool) => (if y35 = true then some false else (F_impl_areCharts_L1 x0 x1 m) ((w64 (y17 + 1))))) (fun k36 => Option.bind (F_impl_IsChart u26) fun u40 =>
  (if (!u40) = true then k36 (true) else Option.bind (idx x0 0) fun u47 =>
  k36 (((List.length u26 : Int) != (List.length u47 : Int))))) else F_impl_areCharts_L2 x1 FU (0))
def F_impl_areCharts (x0 : (List (List (Int × Int)))) (x1 : (List Int)) : Option Bool :=
  jK1 (fun (y7 : Bool) => (if y7 = true then some false else F_impl_areCharts_L1 x0 x1 FU (0))) (fun k8 => Option.bind (F_impl_within (List.length x0 : Int) 1 9) fun u79 =>
  (if (!u79) = true then k8 (true) else k8 (((List.length x1 : Int) != (w64 ((List.length x0 : Int) - 1))))))
def F_impl_isLeast (x0 : Int) : Option Bool :=
  Option.bind (F_impl_within x0 0 80) fun u3 =>
  some u3
def F_impl_IsShow (x0 : ((List (List (Int × Int))) × (List Int) × Int × Int)) : Option Bool :=
  jK1 (fun (y11 : Bool) => some y11) (fun k12 => Option.bind (F_impl_within (List.length x0.1 : Int) 2 8) fun u14 =>
  (if u14 = true then Option.bind (F_impl_areCharts x0.1 x0.2.1) fun u21 =>
  (if u21 = true then Option.bind (F_impl_isLeast x0.2.2.1) fun u28 =>
  (if u28 = true then Option.bind (F_impl_within x0.2.2.2 1 24) fun u35 =>
  k12 (u35) else k12 (false)) else k12 (false)) else k12 (false)))
def F_spec_DrawWaySums (x0 : (List Int)) : Option ((List (List (Int × Int))) × (List Int) × Int × Int) :=
  Option.bind (F_spec_l1Cur__show__mut__box (x0, 0, 0)) fun u14 =>
  some u14.1
def F_impl_showMoves_L1 (u16 : (List (Int × Int))) (x0 : ((List (List (Int × Int))) × (List Int) × Int × Int)) (x1 : Int) : Nat → (List ((Int × Int) × (Int × Int) × Int)) → Int → Option (List ((Int × Int) × (Int × Int) × Int))
  | 0, _, _ => none
  | m + 1, l24, y27 => (if (decide (y27 < (List.length u16 : Int))) = true then Option.bind (idx u16 y27) fun u36 =>
  Option.bind (idx x0.1 (w64 (x1 + 1))) fun u53 =>
  Option.bind (idx u53 y27) fun u58 =>
  Option.bind (idx x0.2.1 x1) fun u61 =>
  Option.bind (app l24 [(u36, u58, u61)]) fun u75 =>
  (F_impl_showMoves_L1 u16 x0 x1 m) (u75) ((w64 (y27 + 1))) else some l24)
def F_impl_showMoves (x0 : ((List (List (Int × Int))) × (List Int) × Int × Int)) (x1 : Int) : Option (List ((Int × Int) × (Int × Int) × Int)) :=
  Option.bind (idx x0.1 x1) fun u16 =>
  F_impl_showMoves_L1 u16 x0 x1 FU ([]) (0)
def F_impl_squareOf (x0 : (Int × Int)) (x1 : (Int × Int)) : Option Int :=
  some (w64 ((w64 ((w64 (x0.1 - x1.1)) * (w64 (x0.1 - x1.1)))) + (w64 ((w64 (x0.2 - x1.2)) * (w64 (x0.2 - x1.2))))))
def F_impl_waySums_L2 (u38 : (List ((Int × Int) × (Int × Int) × Int))) (nx29 : ((List Int) → Int → Option (List Int))) (y28 : Int) : Nat → (List Int) → Int → Option (List Int)
  | 0, _, _ => none
  | m + 1, l49, y52 => (if (decide (y52 < (List.length u38 : Int))) = true then jK1 (fun (l63 : (List Int)) => (F_impl_waySums_L2 u38 nx29 y28 m) (l63) ((w64 (y52 + 1)))) (fun k66 => Option.bind (idx u38 y52) fun u69 =>
  Option.bind (idx l49 y52) fun u87 =>
  Option.bind (F_impl_squareOf u69.1 u69.2.1) fun u91 =>
  Option.bind (idx l49 y52) fun u99 =>
  k66 ((seti l49 y52 (w64 (u87 + u91))))) else nx29 (l49) ((w64 (y28 + 1))))
def F_impl_waySums_L1 (x0 : ((List (List (Int × Int))) × (List Int) × Int × Int)) : Nat → (List Int) → Int → Option (List Int)
  | 0, _, _ => none
  | m + 1, l25, y28 => (if (decide (y28 < (List.length x0.2.1 : Int))) = true then Option.bind (F_impl_showMoves x0 y28) fun u38 =>
  F_impl_waySums_L2 u38 (F_impl_waySums_L1 x0 m) y28 FU (l25) (0) else some l25)
def F_impl_waySums (x0 : ((List (List (Int × Int))) × (List Int) × Int × Int)) : Option (List Int) :=
  Option.bind (idx x0.1 0) fun u8 =>
  Option.bind (mkL (List.length u8 : Int) 0) fun u13 =>
  F_impl_waySums_L1 x0 FU (u13) (0)
def F_spec_swMoves_L1 (u10 : (List (Int × Int))) (x0 : ((List (List (Int × Int))) × (List Int) × Int × Int)) (x1 : Int) : Nat → (List ((Int × Int) × (Int × Int) × Int)) → Int → Option (List ((Int × Int) × (Int × Int) × Int))
  | 0, _, _ => none
  | m + 1, l18, y21 => (if (decide (y21 < (List.length u10 : Int))) = true then Option.bind (idx u10 y21) fun u31 =>
  Option.bind (idx x0.1 (w64 (x1 + 1))) fun u48 =>
  Option.bind (idx u48 y21) fun u53 =>
  Option.bind (idx x0.2.1 x1) fun u56 =>
  Option.bind (app l18 [(u31, u53, u56)]) fun u70 =>
  (F_spec_swMoves_L1 u10 x0 x1 m) (u70) ((w64 (y21 + 1))) else some l18)
def F_spec_swMoves (x0 : ((List (List (Int × Int))) × (List Int) × Int × Int)) (x1 : Int) : Option (List ((Int × Int) × (Int × Int) × Int)) :=
  Option.bind (idx x0.1 x1) fun u10 =>
  F_spec_swMoves_L1 u10 x0 x1 FU ([]) (0)
def F_spec_stSquare (x0 : (Int × Int)) (x1 : (Int × Int)) : Option Int :=
  some (w64 ((w64 ((w64 (x0.1 - x1.1)) * (w64 (x0.1 - x1.1)))) + (w64 ((w64 (x0.2 - x1.2)) * (w64 (x0.2 - x1.2))))))
def F_spec_cpSquares_L1 (u10 : (List ((Int × Int) × (Int × Int) × Int))) : Nat → (List Int) → Int → Option (List Int)
  | 0, _, _ => none
  | m + 1, l21, y24 => (if (decide (y24 < (List.length u10 : Int))) = true then Option.bind (idx u10 y24) fun u34 =>
  Option.bind (F_spec_stSquare u34.1 u34.2.1) fun u47 =>
  Option.bind (app l21 [u47]) fun u59 =>
  (F_spec_cpSquares_L1 u10 m) (u59) ((w64 (y24 + 1))) else some l21)
def F_spec_cpSquares (x0 : ((List (List (Int × Int))) × (List Int) × Int × Int)) (x1 : Int) : Option (List Int) :=
  Option.bind (F_spec_swMoves x0 x1) fun u10 =>
  F_spec_cpSquares_L1 u10 FU ([]) (0)
def F_spec_cpWays_L2 (u38 : (List Int)) (nx29 : ((List Int) → Int → Option (List Int))) (y28 : Int) : Nat → (List Int) → Int → Option (List Int)
  | 0, _, _ => none
  | m + 1, l49, y52 => (if (decide (y52 < (List.length u38 : Int))) = true then Option.bind (idx u38 y52) fun u61 =>
  Option.bind (idx l49 y52) fun u65 =>
  Option.bind (idx l49 y52) fun u69 =>
  (F_spec_cpWays_L2 u38 nx29 y28 m) ((seti l49 y52 (w64 (u65 + u61)))) ((w64 (y52 + 1))) else nx29 (l49) ((w64 (y28 + 1))))
def F_spec_cpWays_L1 (x0 : ((List (List (Int × Int))) × (List Int) × Int × Int)) : Nat → (List Int) → Int → Option (List Int)
  | 0, _, _ => none
  | m + 1, l25, y28 => (if (decide (y28 < (List.length x0.2.1 : Int))) = true then Option.bind (F_spec_cpSquares x0 y28) fun u38 =>
  F_spec_cpWays_L2 u38 (F_spec_cpWays_L1 x0 m) y28 FU (l25) (0) else some l25)
def F_spec_cpWays (x0 : ((List (List (Int × Int))) × (List Int) × Int × Int)) : Option (List Int) :=
  Option.bind (idx x0.1 0) fun u8 =>
  Option.bind (mkL (List.length u8 : Int) 0) fun u13 =>
  F_spec_cpWays_L1 x0 FU (u13) (0)
def F_spec_cpSum_L1 (x0 : (List Int)) : Nat → Int → Int → Option Int
  | 0, _, _ => none
  | m + 1, y8, y9 => (if (decide (y9 < (List.length x0 : Int))) = true then Option.bind (idx x0 y9) fun u18 =>
  (F_spec_cpSum_L1 x0 m) ((w64 (y8 + u18))) ((w64 (y9 + 1))) else some y8)
def F_spec_cpSum (x0 : (List Int)) : Option Int :=
  F_spec_cpSum_L1 x0 FU (0) (0)
def F_impl_between (x0 : ((Int × Int) × (Int × Int) × Int)) (x1 : ((Int × Int) × (Int × Int) × Int)) : Option ((Int × Int) × (Int × Int) × Int × Int) :=
  some (((w64 (x0.1.1 - x1.1.1)), (w64 (x0.1.2 - x1.1.2))), ((w64 ((w64 (x0.2.1.1 - x1.2.1.1)) - (w64 (x0.1.1 - x1.1.1)))), (w64 ((w64 (x0.2.1.2 - x1.2.1.2)) - (w64 (x0.1.2 - x1.1.2))))), (w64 ((w64 ((w64 (x0.1.1 - x1.1.1)) * (w64 ((w64 (x0.2.1.1 - x1.2.1.1)) - (w64 (x0.1.1 - x1.1.1)))))) + (w64 ((w64 (x0.1.2 - x1.1.2)) * (w64 ((w64 (x0.2.1.2 - x1.2.1.2)) - (w64 (x0.1.2 - x1.1.2)))))))), (w64 ((w64 ((w64 ((w64 (x0.2.1.1 - x1.2.1.1)) - (w64 (x0.1.1 - x1.1.1)))) * (w64 ((w64 (x0.2.1.1 - x1.2.1.1)) - (w64 (x0.1.1 - x1.1.1)))))) + (w64 ((w64 ((w64 (x0.2.1.2 - x1.2.1.2)) - (w64 (x0.1.2 - x1.1.2)))) * (w64 ((w64 (x0.2.1.2 - x1.2.1.2)) - (w64 (x0.1.2 - x1.1.2)))))))))
def F_impl_gcdOf_L1  : Nat → Int → Int → Option Int
  | 0, _, _ => none
  | m + 1, y7, y8 => (if (y8 != 0) = true then (if y8 = 0 then none else (F_impl_gcdOf_L1 m) (y8) ((Int.tmod y7 y8))) else some y7)
def F_impl_gcdOf (x0 : Int) (x1 : Int) : Option Int :=
  F_impl_gcdOf_L1 FU ((maxI x0 (w64 (0 - x0)))) ((maxI x1 (w64 (0 - x1))))
def F_impl_lowestTerms (x0 : Int) (x1 : Int) : Option (Int × Int) :=
  Option.bind (F_impl_gcdOf x0 x1) fun u3 =>
  (if u3 = 0 then none else (if u3 = 0 then none else some ((w64 (Int.tdiv x0 u3)), (w64 (Int.tdiv x1 u3)))))
def F_impl_leastApart (x0 : ((Int × Int) × (Int × Int) × Int)) (x1 : ((Int × Int) × (Int × Int) × Int)) : Option (Int × Int) :=
  Option.bind (F_impl_between x0 x1) fun u13 =>
  (if (decide (0 ≤ u13.2.2.1)) = true then some ((w64 ((w64 (u13.1.1 * u13.1.1)) + (w64 (u13.1.2 * u13.1.2)))), 1) else (if (decide (u13.2.2.2 ≤ (w64 (0 - u13.2.2.1)))) = true then Option.bind (F_impl_squareOf x0.2.1 x1.2.1) fun u44 =>
  some (u44, 1) else Option.bind (F_impl_lowestTerms (w64 ((w64 ((w64 (u13.1.1 * u13.2.1.2)) - (w64 (u13.1.2 * u13.2.1.1)))) * (w64 ((w64 (u13.1.1 * u13.2.1.2)) - (w64 (u13.1.2 * u13.2.1.1)))))) u13.2.2.2) fun u52 =>
  some u52))
def F_spec_apEnds (x0 : ((Int × Int) × (Int × Int) × Int)) (x1 : ((Int × Int) × (Int × Int) × Int)) : Option (Int × Int × Int × Int) :=
  some ((w64 (x0.1.1 - x1.1.1)), (w64 (x0.1.2 - x1.1.2)), (w64 (x0.2.1.1 - x1.2.1.1)), (w64 (x0.2.1.2 - x1.2.1.2)))
def F_spec_apInner (x0 : ((Int × Int) × (Int × Int) × Int)) (x1 : ((Int × Int) × (Int × Int) × Int)) : Option (Int × Int) :=
  Option.bind (F_spec_apEnds x0 x1) fun u13 =>
  jK1 (fun (y26 : Bool) => (if y26 = true then some (0, 0) else some ((w64 (0 - (w64 ((w64 (u13.1 * (w64 (u13.2.2.1 - u13.1)))) + (w64 (u13.2.1 * (w64 (u13.2.2.2 - u13.2.1)))))))), (w64 ((w64 ((w64 (u13.2.2.1 - u13.1)) * (w64 (u13.2.2.1 - u13.1)))) + (w64 ((w64 (u13.2.2.2 - u13.2.1)) * (w64 (u13.2.2.2 - u13.2.1))))))))) (fun k27 => (if (decide ((w64 (0 - (w64 ((w64 (u13.1 * (w64 (u13.2.2.1 - u13.1)))) + (w64 (u13.2.1 * (w64 (u13.2.2.2 - u13.2.1)))))))) ≤ 0)) = true then k27 (true) else k27 ((decide ((w64 ((w64 ((w64 (u13.2.2.1 - u13.1)) * (w64 (u13.2.2.1 - u13.1)))) + (w64 ((w64 (u13.2.2.2 - u13.2.1)) * (w64 (u13.2.2.2 - u13.2.1)))))) ≤ (w64 (0 - (w64 ((w64 (u13.1 * (w64 (u13.2.2.1 - u13.1)))) + (w64 (u13.2.1 * (w64 (u13.2.2.2 - u13.2.1)))))))))))))
def F_spec_l1Abs (x0 : Int) : Option Int :=
  Option.bind (F_spec_l1Most x0 (w64 (0 - x0))) fun u3 =>
  some u3
def F_spec_mvPart_L1 (x0 : Int) (x1 : Int) : Nat → Int → Int → Option (Int × Int)
  | 0, _, _ => none
  | m + 1, y13, y14 => (if (decide (0 < y14)) = true then (if y14 = 0 then none else (F_spec_mvPart_L1 x0 x1 m) (y14) ((Int.tmod y13 y14))) else (if y13 = 0 then none else (if y13 = 0 then none else some ((w64 (Int.tdiv x0 y13)), (w64 (Int.tdiv x1 y13))))))
def F_spec_mvPart (x0 : Int) (x1 : Int) : Option (Int × Int) :=
  Option.bind (F_spec_l1Abs x0) fun u3 =>
  F_spec_mvPart_L1 x0 x1 FU (u3) (x1)
def F_spec_apLeast (x0 : ((Int × Int) × (Int × Int) × Int)) (x1 : ((Int × Int) × (Int × Int) × Int)) : Option (Int × Int) :=
  Option.bind (F_spec_apEnds x0 x1) fun u13 =>
  Option.bind (F_spec_apInner x0 x1) fun u21 =>
  (if (decide (0 < u21.2)) = true then Option.bind (F_spec_mvPart (w64 ((w64 ((w64 (u13.1 * u13.2.2.2)) - (w64 (u13.2.1 * u13.2.2.1)))) * (w64 ((w64 (u13.1 * u13.2.2.2)) - (w64 (u13.2.1 * u13.2.2.1)))))) u21.2) fun u31 =>
  some u31 else Option.bind (F_spec_l1Least (w64 ((w64 (u13.1 * u13.1)) + (w64 (u13.2.1 * u13.2.1)))) (w64 ((w64 (u13.2.2.1 * u13.2.2.1)) + (w64 (u13.2.2.2 * u13.2.2.2))))) fun u38 =>
  some (u38, 1))
def F_impl_stayApart (x0 : ((Int × Int) × (Int × Int) × Int)) (x1 : ((Int × Int) × (Int × Int) × Int)) (x2 : Int) : Option Bool :=
  Option.bind (F_impl_leastApart x0 x1) fun u13 =>
  some (decide ((w64 ((w64 (x2 * x2)) * u13.2)) ≤ u13.1))
def F_impl_pairsTooClose_L2 (x0 : (List ((Int × Int) × (Int × Int) × Int))) (y17 : Int) (x1 : Int) (nx18 : ((List (List Int)) → Int → Option (List (List Int)))) : Nat → (List (List Int)) → Int → Option (List (List Int))
  | 0, _, _ => none
  | m + 1, l30, y33 => (if (decide (y33 < (List.length x0 : Int))) = true then jK1 (fun (l44 : (List (List Int))) => (F_impl_pairsTooClose_L2 x0 y17 x1 nx18 m) (l44) ((w64 (y33 + 1)))) (fun k47 => Option.bind (idx x0 y17) fun u55 =>
  Option.bind (idx x0 y33) fun u58 =>
  Option.bind (F_impl_stayApart u55 u58 x1) fun u61 =>
  (if (!u61) = true then Option.bind (app l30 [[y17, y33]]) fun u84 =>
  k47 (u84) else k47 (l30))) else nx18 (l30) ((w64 (y17 + 1))))
def F_impl_pairsTooClose_L1 (x0 : (List ((Int × Int) × (Int × Int) × Int))) (x1 : Int) : Nat → (List (List Int)) → Int → Option (List (List Int))
  | 0, _, _ => none
  | m + 1, l14, y17 => (if (decide (y17 < (List.length x0 : Int))) = true then F_impl_pairsTooClose_L2 x0 y17 x1 (F_impl_pairsTooClose_L1 x0 x1 m) FU (l14) ((w64 (y17 + 1))) else some l14)
def F_impl_pairsTooClose (x0 : (List ((Int × Int) × (Int × Int) × Int))) (x1 : Int) : Option (List (List Int)) :=
  F_impl_pairsTooClose_L1 x0 x1 FU ([]) (0)
def F_impl_isPart (x0 : ((List (List (Int × Int))) × (List Int) × Int × Int)) (x1 : Int) : Option Bool :=
  jK1 (fun (y11 : Bool) => some y11) (fun k12 => Option.bind (F_impl_IsShow x0) fun u14 =>
  (if u14 = true then Option.bind (F_impl_within x1 0 (w64 ((List.length x0.2.1 : Int) - 1))) fun u21 =>
  k12 (u21) else k12 (false)))
def F_impl_totalCounts_L1 (x0 : ((List (List (Int × Int))) × (List Int) × Int × Int)) : Nat → Int → Int → Option Int
  | 0, _, _ => none
  | m + 1, y13, y14 => (if (decide (y14 < (List.length x0.2.1 : Int))) = true then Option.bind (idx x0.2.1 y14) fun u23 =>
  (F_impl_totalCounts_L1 x0 m) ((w64 (y13 + u23))) ((w64 (y14 + 1))) else some y13)
def F_impl_totalCounts (x0 : ((List (List (Int × Int))) × (List Int) × Int × Int)) : Option Int :=
  F_impl_totalCounts_L1 x0 FU (0) (0)
def F_spec_swHas (x0 : ((List (List (Int × Int))) × (List Int) × Int × Int)) (x1 : Int) : Option Bool :=
  jK1 (fun (y11 : Bool) => some y11) (fun k12 => Option.bind (F_spec_swGood x0) fun u14 =>
  (if u14 = true then Option.bind (F_spec_l1In x1 0 (w64 ((List.length x0.2.1 : Int) - 1))) fun u21 =>
  k12 (u21) else k12 (false)))
def F_spec_apStay (x0 : ((Int × Int) × (Int × Int) × Int)) (x1 : ((Int × Int) × (Int × Int) × Int)) (x2 : Int) : Option Bool :=
  Option.bind (F_spec_apLeast x0 x1) fun u13 =>
  some (decide ((w64 ((w64 (x2 * x2)) * u13.2)) ≤ u13.1))
def F_spec_swClose_L2 (u8 : (List ((Int × Int) × (Int × Int) × Int))) (u35 : ((Int × Int) × (Int × Int) × Int)) (x0 : ((List (List (Int × Int))) × (List Int) × Int × Int)) (y25 : Int) (nx26 : ((List (List Int)) → Int → Option (List (List Int)))) : Nat → (List (List Int)) → Int → Option (List (List Int))
  | 0, _, _ => none
  | m + 1, l52, y55 => (if (decide (y55 < (List.length u8 : Int))) = true then jK1 (fun (l66 : (List (List Int))) => (F_spec_swClose_L2 u8 u35 x0 y25 nx26 m) (l66) ((w64 (y55 + 1)))) (fun k69 => Option.bind (idx u8 y55) fun u77 =>
  Option.bind (F_spec_apStay u35 u77 x0.2.2.1) fun u81 =>
  (if (!u81) = true then Option.bind (app l52 [[y25, y55]]) fun u104 =>
  k69 (u104) else k69 (l52))) else nx26 (l52) ((w64 (y25 + 1))))
def F_spec_swClose_L1 (u8 : (List ((Int × Int) × (Int × Int) × Int))) (x0 : ((List (List (Int × Int))) × (List Int) × Int × Int)) : Nat → (List (List Int)) → Int → Option (List (List Int))
  | 0, _, _ => none
  | m + 1, l22, y25 => (if (decide (y25 < (List.length u8 : Int))) = true then Option.bind (idx u8 y25) fun u35 =>
  F_spec_swClose_L2 u8 u35 x0 y25 (F_spec_swClose_L1 u8 x0 m) FU (l22) ((w64 (y25 + 1))) else some l22)
def F_spec_swClose (x0 : ((List (List (Int × Int))) × (List Int) × Int × Int)) (x1 : Int) : Option (List (List Int)) :=
  Option.bind (F_spec_swMoves x0 x1) fun u8 =>
  F_spec_swClose_L1 u8 x0 FU ([]) (0)
def F_impl_withinStep (x0 : ((Int × Int) × (Int × Int) × Int)) (x1 : Int) : Option Bool :=
  Option.bind (F_impl_squareOf x0.1 x0.2.1) fun u13 =>
  some (decide (u13 ≤ (w64 ((w64 ((w64 (x1 * x1)) * x0.2.2)) * x0.2.2))))
def F_impl_wideSteps_L1 (u16 : (List ((Int × Int) × (Int × Int) × Int))) (x0 : ((List (List (Int × Int))) × (List Int) × Int × Int)) : Nat → (List Int) → Int → Option (List Int)
  | 0, _, _ => none
  | m + 1, l27, y30 => (if (decide (y30 < (List.length u16 : Int))) = true then jK1 (fun (l41 : (List Int)) => (F_impl_wideSteps_L1 u16 x0 m) (l41) ((w64 (y30 + 1)))) (fun k44 => Option.bind (idx u16 y30) fun u47 =>
  Option.bind (F_impl_withinStep u47 x0.2.2.2) fun u61 =>
  (if (!u61) = true then Option.bind (app l27 [y30]) fun u74 =>
  k44 (u74) else k44 (l27))) else some l27)
def F_impl_wideSteps (x0 : ((List (List (Int × Int))) × (List Int) × Int × Int)) (x1 : Int) : Option (List Int) :=
  Option.bind (F_impl_showMoves x0 x1) fun u16 =>
  F_impl_wideSteps_L1 u16 x0 FU ([]) (0)
def F_impl_WideSteps (x0 : ((List (List (Int × Int))) × (List Int) × Int × Int)) (x1 : Int) : Option ((List Int) × Bool) :=
  Option.bind (F_impl_isPart x0 x1) fun u9 =>
  (if (!u9) = true then some ([], false) else Option.bind (F_impl_wideSteps x0 x1) fun u19 =>
  some (u19, true))
def F_spec_mvWithin (x0 : ((Int × Int) × (Int × Int) × Int)) (x1 : Int) : Option Bool :=
  Option.bind (F_spec_stSquare x0.1 x0.2.1) fun u13 =>
  some (decide (u13 ≤ (w64 ((w64 ((w64 (x1 * x1)) * x0.2.2)) * x0.2.2))))
def F_spec_swWide_L1 (u10 : (List ((Int × Int) × (Int × Int) × Int))) (x0 : ((List (List (Int × Int))) × (List Int) × Int × Int)) : Nat → (List Int) → Int → Option (List Int)
  | 0, _, _ => none
  | m + 1, l21, y24 => (if (decide (y24 < (List.length u10 : Int))) = true then jK1 (fun (l36 : (List Int)) => (F_spec_swWide_L1 u10 x0 m) (l36) ((w64 (y24 + 1)))) (fun k39 => Option.bind (idx u10 y24) fun u42 =>
  Option.bind (F_spec_mvWithin u42 x0.2.2.2) fun u56 =>
  (if (!u56) = true then Option.bind (app l21 [y24]) fun u69 =>
  k39 (u69) else k39 (l21))) else some l21)
def F_spec_swWide (x0 : ((List (List (Int × Int))) × (List Int) × Int × Int)) (x1 : Int) : Option (List Int) :=
  Option.bind (F_spec_swMoves x0 x1) fun u10 =>
  F_spec_swWide_L1 u10 x0 FU ([]) (0)
def F_spec_WideSteps (x0 : ((List (List (Int × Int))) × (List Int) × Int × Int)) (x1 : Int) : Option ((List Int) × Bool) :=
  Option.bind (F_spec_swHas x0 x1) fun u9 =>
  (if (!u9) = true then some ([], false) else Option.bind (F_spec_swWide x0 x1) fun u19 =>
  some (u19, true))
def F_impl_unsafParts_L1 (x0 : ((List (List (Int × Int))) × (List Int) × Int × Int)) : Nat → (List Int) → Int → Option (List Int)
  | 0, _, _ => none
  | m + 1, l19, y22 => (if (decide (y22 < (List.length x0.2.1 : Int))) = true then jK1 (fun (l33 : (List Int)) => (F_impl_unsafParts_L1 x0 m) (l33) ((w64 (y22 + 1)))) (fun k36 => jK1 (fun (y43 : Bool) => (if y43 = true then Option.bind (app l19 [y22]) fun u53 =>
  k36 (u53) else k36 (l19))) (fun k44 => Option.bind (F_impl_wideSteps x0 y22) fun u65 =>
  (if (decide (0 < (List.length u65 : Int))) = true then k44 (true) else Option.bind (F_impl_showMoves x0 y22) fun u76 =>
  Option.bind (F_impl_pairsTooClose u76 x0.2.2.1) fun u86 =>
  k44 ((decide (0 < (List.length u86 : Int))))))) else some l19)
def F_impl_unsafParts (x0 : ((List (List (Int × Int))) × (List Int) × Int × Int)) : Option (List Int) :=
  F_impl_unsafParts_L1 x0 FU ([]) (0)
def F_spec_swUnsafe_L1 (x0 : ((List (List (Int × Int))) × (List Int) × Int × Int)) : Nat → (List Int) → Int → Option (List Int)
  | 0, _, _ => none
  | m + 1, l13, y16 => (if (decide (y16 < (List.length x0.2.1 : Int))) = true then jK1 (fun (l28 : (List Int)) => (F_spec_swUnsafe_L1 x0 m) (l28) ((w64 (y16 + 1)))) (fun k31 => Option.bind (F_spec_swClose x0 y16) fun u40 =>
  Option.bind (F_spec_swWide x0 y16) fun u50 =>
  (if (decide (0 < (w64 ((List.length u40 : Int) + (List.length u50 : Int))))) = true then Option.bind (app l13 [y16]) fun u67 =>
  k31 (u67) else k31 (l13))) else some l13)
def F_spec_swUnsafe (x0 : ((List (List (Int × Int))) × (List Int) × Int × Int)) : Option (List Int) :=
  F_spec_swUnsafe_L1 x0 FU ([]) (0)
def F_spec_UnsafeParts (x0 : ((List (List (Int × Int))) × (List Int) × Int × Int)) : Option ((List Int) × Bool) :=
  Option.bind (F_spec_swGood x0) fun u9 =>
  (if (!u9) = true then some ([], false) else Option.bind (F_spec_swUnsafe x0) fun u19 =>
  some (u19, true))
def F_spec_swTotal_L1 (x0 : ((List (List (Int × Int))) × (List Int) × Int × Int)) : Nat → Int → Int → Option Int
  | 0, _, _ => none
  | m + 1, y13, y14 => (if (decide (y14 < (List.length x0.2.1 : Int))) = true then Option.bind (idx x0.2.1 y14) fun u23 =>
  (F_spec_swTotal_L1 x0 m) ((w64 (y13 + u23))) ((w64 (y14 + 1))) else some y13)
def F_spec_swTotal (x0 : ((List (List (Int × Int))) × (List Int) × Int × Int)) : Option Int :=
  F_spec_swTotal_L1 x0 FU (0) (0)
def F_spec_DrawLeastCountsOf (x0 : (List Int)) : Option ((List (List (Int × Int))) × (List Int) × Int × Int) :=
  Option.bind (F_spec_DrawWaySums x0) fun u8 =>
  some u8
def F_impl_LeastCounts_L1 (x0 : (Int × Int)) (x1 : (Int × Int)) (x2 : Int) : Nat → Int → Option (Int × Bool)
  | 0, _ => none
  | m + 1, y27 => (if (decide (y27 ≤ 64)) = true then Option.bind (F_impl_withinStep (x0, x1, y27) x2) fun u36 =>
  (if u36 = true then some (y27, true) else (F_impl_LeastCounts_L1 x0 x1 x2 m) ((w64 (y27 + 1)))) else some (0, false))
def F_impl_LeastCounts (x0 : (Int × Int)) (x1 : (Int × Int)) (x2 : Int) : Option (Int × Bool) :=
  jK1 (fun (y17 : Bool) => (if y17 = true then some (0, false) else F_impl_LeastCounts_L1 x0 x1 x2 FU (1))) (fun k18 => Option.bind (F_impl_IsSpot x0) fun u45 =>
  (if (!u45) = true then k18 (true) else Option.bind (F_impl_IsSpot x1) fun u52 =>
  (if (!u52) = true then k18 (true) else Option.bind (F_impl_within x2 1 24) fun u59 =>
  k18 ((!u59)))))
def F_impl_LeastCountsOf_L2 (u45 : (List ((Int × Int) × (Int × Int) × Int))) (x0 : ((List (List (Int × Int))) × (List Int) × Int × Int)) (l30 : (List Int)) (nx34 : ((List Int) → Int → Option ((List Int) × Bool))) (y33 : Int) : Nat → Int → Int → Option ((List Int) × Bool)
  | 0, _, _ => none
  | m + 1, y56, y57 => (if (decide (y57 < (List.length u45 : Int))) = true then Option.bind (idx u45 y57) fun u66 =>
  Option.bind (F_impl_LeastCounts u66.1 u66.2.1 x0.2.2.2) fun u80 =>
  (if (!u80.2) = true then some ([], false) else (F_impl_LeastCountsOf_L2 u45 x0 l30 nx34 y33 m) ((maxI y56 u80.1)) ((w64 (y57 + 1)))) else Option.bind (app l30 [y56]) fun u97 =>
  nx34 (u97) ((w64 (y33 + 1))))
def F_impl_LeastCountsOf_L1 (x0 : ((List (List (Int × Int))) × (List Int) × Int × Int)) : Nat → (List Int) → Int → Option ((List Int) × Bool)
  | 0, _, _ => none
  | m + 1, l30, y33 => (if (decide (y33 < (List.length x0.2.1 : Int))) = true then Option.bind (F_impl_showMoves x0 y33) fun u45 =>
  F_impl_LeastCountsOf_L2 u45 x0 l30 (F_impl_LeastCountsOf_L1 x0 m) y33 FU (0) (0) else some (l30, true))
def F_impl_LeastCountsOf (x0 : ((List (List (Int × Int))) × (List Int) × Int × Int)) : Option ((List Int) × Bool) :=
  Option.bind (F_impl_IsShow x0) fun u9 =>
  (if (!u9) = true then some ([], false) else F_impl_LeastCountsOf_L1 x0 FU ([]) (0))
def F_spec_stTwo (x0 : (Int × Int)) (x1 : (Int × Int)) : Option Bool :=
  jK1 (fun (y16 : Bool) => some y16) (fun k17 => Option.bind (F_spec_stGood x0) fun u19 =>
  (if u19 = true then Option.bind (F_spec_stGood x1) fun u26 =>
  k17 (u26) else k17 (false)))
def F_spec_LeastCounts_L1 (x0 : (Int × Int)) (x1 : (Int × Int)) (x2 : Int) : Nat → Int → Option (Int × Bool)
  | 0, _ => none
  | m + 1, y27 => (if (decide (y27 ≤ 64)) = true then Option.bind (F_spec_mvWithin (x0, x1, y27) x2) fun u36 =>
  (if u36 = true then some (y27, true) else (F_spec_LeastCounts_L1 x0 x1 x2 m) ((w64 (y27 + 1)))) else some (0, false))
def F_spec_LeastCounts (x0 : (Int × Int)) (x1 : (Int × Int)) (x2 : Int) : Option (Int × Bool) :=
  jK1 (fun (y17 : Bool) => (if y17 = true then some (0, false) else F_spec_LeastCounts_L1 x0 x1 x2 FU (1))) (fun k18 => Option.bind (F_spec_stTwo x0 x1) fun u45 =>
  (if (!u45) = true then k18 (true) else Option.bind (F_spec_mvStep x2) fun u52 =>
  k18 ((!u52))))
def F_spec_LeastCountsOf_L2 (u40 : (List ((Int × Int) × (Int × Int) × Int))) (x0 : ((List (List (Int × Int))) × (List Int) × Int × Int)) (l24 : (List Int)) (nx28 : ((List Int) → Int → Option ((List Int) × Bool))) (y27 : Int) : Nat → Int → Int → Option ((List Int) × Bool)
  | 0, _, _ => none
  | m + 1, y51, y52 => (if (decide (y52 < (List.length u40 : Int))) = true then Option.bind (idx u40 y52) fun u61 =>
  Option.bind (F_spec_LeastCounts u61.1 u61.2.1 x0.2.2.2) fun u75 =>
  (if (!u75.2) = true then some ([], false) else Option.bind (F_spec_l1Most y51 u75.1) fun u86 =>
  (F_spec_LeastCountsOf_L2 u40 x0 l24 nx28 y27 m) (u86) ((w64 (y52 + 1)))) else Option.bind (app l24 [y51]) fun u98 =>
  nx28 (u98) ((w64 (y27 + 1))))
def F_spec_LeastCountsOf_L1 (x0 : ((List (List (Int × Int))) × (List Int) × Int × Int)) : Nat → (List Int) → Int → Option ((List Int) × Bool)
  | 0, _, _ => none
  | m + 1, l24, y27 => (if (decide (y27 < (List.length x0.2.1 : Int))) = true then Option.bind (F_spec_swMoves x0 y27) fun u40 =>
  F_spec_LeastCountsOf_L2 u40 x0 l24 (F_spec_LeastCountsOf_L1 x0 m) y27 FU (1) (0) else some (l24, true))
def F_spec_LeastCountsOf (x0 : ((List (List (Int × Int))) × (List Int) × Int × Int)) : Option ((List Int) × Bool) :=
  Option.bind (F_spec_swGood x0) fun u9 =>
  (if (!u9) = true then some ([], false) else F_spec_LeastCountsOf_L1 x0 FU ([]) (0))
def F_impl_LeastStepOf_L2 (x0 : ((List (List (Int × Int))) × (List Int) × Int × Int)) (y22 : Int) (nx23 : (Int → Option (Int × Bool))) : Nat → Bool → Int → Option (Int × Bool)
  | 0, _, _ => none
  | m + 1, y51, y52 => (if (decide (y52 < (List.length x0.2.1 : Int))) = true then jK1 (fun (y63 : Bool) => (F_impl_LeastStepOf_L2 x0 y22 nx23 m) (y63) ((w64 (y52 + 1)))) (fun k64 => (if y51 = true then k64 (true) else Option.bind (F_impl_wideSteps (x0.1, x0.2.1, x0.2.2.1, y22) y52) fun u68 =>
  k64 ((decide (0 < (List.length u68 : Int)))))) else (if (!y51) = true then some (y22, true) else nx23 ((w64 (y22 + 1)))))
def F_impl_LeastStepOf_L1 (x0 : ((List (List (Int × Int))) × (List Int) × Int × Int)) : Nat → Int → Option (Int × Bool)
  | 0, _ => none
  | m + 1, y22 => (if (decide (y22 ≤ 24)) = true then F_impl_LeastStepOf_L2 x0 y22 (F_impl_LeastStepOf_L1 x0 m) FU (false) (0) else some (0, false))
def F_impl_LeastStepOf (x0 : ((List (List (Int × Int))) × (List Int) × Int × Int)) : Option (Int × Bool) :=
  Option.bind (F_impl_IsShow x0) fun u9 =>
  (if (!u9) = true then some (0, false) else F_impl_LeastStepOf_L1 x0 FU (1))
def F_spec_LeastStepOf_L3 (nx47 : (Int → Int → Option (Int × Bool))) (y46 : Int) (u55 : ((Int × Int) × (Int × Int) × Int)) : Nat → Int → Option (Int × Bool)
  | 0, _ => none
  | m + 1, y72 => jK1 (fun (y81 : Bool) => (if y81 = true then (F_spec_LeastStepOf_L3 nx47 y46 u55 m) ((w64 (y72 + 1))) else nx47 (y72) ((w64 (y46 + 1))))) (fun k82 => (if (decide (y72 ≤ 24)) = true then Option.bind (F_spec_mvWithin u55 y72) fun u86 =>
  k82 ((!u86)) else k82 (false)))
def F_spec_LeastStepOf_L2 (u34 : (List ((Int × Int) × (Int × Int) × Int))) (nx25 : (Int → Int → Option (Int × Bool))) (y24 : Int) : Nat → Int → Int → Option (Int × Bool)
  | 0, _, _ => none
  | m + 1, y45, y46 => (if (decide (y46 < (List.length u34 : Int))) = true then Option.bind (idx u34 y46) fun u55 =>
  F_spec_LeastStepOf_L3 (F_spec_LeastStepOf_L2 u34 nx25 y24 m) y46 u55 FU (y45) else nx25 (y45) ((w64 (y24 + 1))))
def F_spec_LeastStepOf_L1 (x0 : ((List (List (Int × Int))) × (List Int) × Int × Int)) : Nat → Int → Int → Option (Int × Bool)
  | 0, _, _ => none
  | m + 1, y23, y24 => (if (decide (y24 < (List.length x0.2.1 : Int))) = true then Option.bind (F_spec_swMoves x0 y24) fun u34 =>
  F_spec_LeastStepOf_L2 u34 (F_spec_LeastStepOf_L1 x0 m) y24 FU (y23) (0) else (if (decide (24 < y23)) = true then some (0, false) else some (y23, true)))
def F_spec_LeastStepOf (x0 : ((List (List (Int × Int))) × (List Int) × Int × Int)) : Option (Int × Bool) :=
  Option.bind (F_spec_swGood x0) fun u9 =>
  (if (!u9) = true then some (0, false) else F_spec_LeastStepOf_L1 x0 FU (1) (0))
def F_spec_DrawCompareDemand (x0 : (List Int)) : Option (((List (List (Int × Int))) × (List Int) × Int × Int) × ((List (List (Int × Int))) × (List Int) × Int × Int)) :=
  Option.bind (F_spec_DrawSameShows x0) fun u13 =>
  some u13
def F_impl_sideOf (x0 : Int) : Option Int :=
  (if (decide (0 < x0)) = true then some 1 else (if (decide (x0 < 0)) = true then some (-1) else some 0))
def F_impl_compareDemand_L2 (u108 : (List Int)) : Nat → Int → Int → Option Int
  | 0, _, _ => none
  | m + 1, y119, y120 => (if (decide (y120 < (List.length u108 : Int))) = true then Option.bind (idx u108 y120) fun u129 =>
  (F_impl_compareDemand_L2 u108 m) ((w64 (y119 - u129))) ((w64 (y120 + 1))) else Option.bind (F_impl_sideOf y119) fun u134 =>
  some u134)
def F_impl_compareDemand_L1 (u81 : (List Int)) (x1 : ((List (List (Int × Int))) × (List Int) × Int × Int)) : Nat → Int → Int → Option Int
  | 0, _, _ => none
  | m + 1, y92, y93 => (if (decide (y93 < (List.length u81 : Int))) = true then Option.bind (idx u81 y93) fun u102 =>
  (F_impl_compareDemand_L1 u81 x1 m) ((w64 (y92 + u102))) ((w64 (y93 + 1))) else Option.bind (F_impl_waySums x1) fun u108 =>
  F_impl_compareDemand_L2 u108 FU (y92) (0))
def F_impl_compareDemand (x0 : ((List (List (Int × Int))) × (List Int) × Int × Int)) (x1 : ((List (List (Int × Int))) × (List Int) × Int × Int)) : Option Int :=
  Option.bind (F_impl_unsafParts x0) fun u19 =>
  Option.bind (F_impl_unsafParts x1) fun u29 =>
  (if ((List.length u19 : Int) != (List.length u29 : Int)) = true then Option.bind (F_impl_sideOf (w64 ((List.length u19 : Int) - (List.length u29 : Int)))) fun u42 =>
  some u42 else Option.bind (F_impl_totalCounts x0) fun u55 =>
  Option.bind (F_impl_totalCounts x1) fun u62 =>
  (if (u55 != u62) = true then Option.bind (F_impl_sideOf (w64 (u62 - u55))) fun u72 =>
  some u72 else Option.bind (F_impl_waySums x0) fun u81 =>
  F_impl_compareDemand_L1 u81 x1 FU (0) (0)))
def F_impl_CompareDemand (x0 : ((List (List (Int × Int))) × (List Int) × Int × Int)) (x1 : ((List (List (Int × Int))) × (List Int) × Int × Int)) : Option (Int × Bool) :=
  jK1 (fun (y17 : Bool) => (if y17 = true then some (0, false) else Option.bind (F_impl_compareDemand x0 x1) fun u23 =>
  some (u23, true))) (fun k18 => Option.bind (F_impl_IsShow x0) fun u29 =>
  (if (!u29) = true then k18 (true) else Option.bind (F_impl_IsShow x1) fun u36 =>
  k18 ((!u36))))
def F_spec_l1Sign (x0 : Int) : Option Int :=
  (if (decide (0 < x0)) = true then some 1 else (if (decide (x0 < 0)) = true then some (-1) else some 0))
def F_spec_cpCompare (x0 : ((List (List (Int × Int))) × (List Int) × Int × Int)) (x1 : ((List (List (Int × Int))) × (List Int) × Int × Int)) : Option Int :=
  Option.bind (F_spec_UnsafeParts x0) fun u13 =>
  Option.bind (F_spec_UnsafeParts x1) fun u22 =>
  (if ((List.length u13.1 : Int) != (List.length u22.1 : Int)) = true then Option.bind (F_spec_l1Sign (w64 ((List.length u13.1 : Int) - (List.length u22.1 : Int)))) fun u34 =>
  some u34 else Option.bind (F_spec_swTotal x0) fun u47 =>
  Option.bind (F_spec_swTotal x1) fun u54 =>
  (if (u47 != u54) = true then Option.bind (F_spec_swTotal x1) fun u68 =>
  Option.bind (F_spec_swTotal x0) fun u75 =>
  Option.bind (F_spec_l1Sign (w64 (u68 - u75))) fun u82 =>
  some u82 else Option.bind (F_spec_cpWays x0) fun u95 =>
  Option.bind (F_spec_cpSum u95) fun u105 =>
  Option.bind (F_spec_cpWays x1) fun u112 =>
  Option.bind (F_spec_cpSum u112) fun u122 =>
  Option.bind (F_spec_l1Sign (w64 (u105 - u122))) fun u129 =>
  some u129))
def F_spec_CompareDemand (x0 : ((List (List (Int × Int))) × (List Int) × Int × Int)) (x1 : ((List (List (Int × Int))) × (List Int) × Int × Int)) : Option (Int × Bool) :=
  jK1 (fun (y17 : Bool) => (if y17 = true then some (0, false) else Option.bind (F_spec_cpCompare x0 x1) fun u23 =>
  some (u23, true))) (fun k18 => Option.bind (F_spec_swGood x0) fun u29 =>
  (if (!u29) = true then k18 (true) else Option.bind (F_spec_swGood x1) fun u36 =>
  k18 ((!u36))))
def F_spec_DrawRankShows_L1 (y67 : Int) (x0 : (List Int)) : Nat → Int → Int → (List ((List (List (Int × Int))) × (List Int) × Int × Int)) → Option (List ((List (List (Int × Int))) × (List Int) × Int × Int))
  | 0, _, _, _ => none
  | m + 1, y74, y75, l76 => (if (decide ((List.length l76 : Int) < y67)) = true then Option.bind (F_spec_l1Cur__show__mut__box (x0, y74, y75)) fun u85 =>
  Option.bind (app l76 [u85.1]) fun u105 =>
  (F_spec_DrawRankShows_L1 y67 x0 m) (u85.2.2.1) (u85.2.2.2) (u105) else some l76)
def F_spec_DrawRankShows (x0 : (List Int)) : Option (List ((List (List (Int × Int))) × (List Int) × Int × Int)) :=
  Option.bind (F_spec_l1Cur__showsTwo__mut__box (x0, 0, 0)) fun u9 =>
  Option.bind (F_spec_l1Cur__pick__mut__box (x0, u9.2.2.2.1, u9.2.2.2.2) 5) fun u55 =>
  jK3 (fun (y65 : Int) (y66 : Int) (y67 : Int) => F_spec_DrawRankShows_L1 y67 x0 FU (y65) (y66) ([u9.1, u9.2.1, u9.1])) (fun k68 => Option.bind (F_spec_l1Cur__one__mut__box (x0, u55.2.2.1, u55.2.2.2) 20) fun u115 =>
  (if u115.1 = true then Option.bind (F_spec_l1Cur__pick__mut__box (x0, u115.2.2.1, u115.2.2.2) 2) fun u122 =>
  k68 (u122.2.2.1) (u122.2.2.2) ((w64 (8 + u122.1))) else k68 (u115.2.2.1) (u115.2.2.2) (u55.1)))
def F_impl_RankShows_1 (x0 : Int) (x1 : Int) (y2 : (List ((List (List (Int × Int))) × (List Int) × Int × Int))) : Option Int :=
  Option.bind (idx y2 x0) fun u8 =>
  Option.bind (idx y2 x1) fun u15 =>
  Option.bind (F_impl_compareDemand u8 u15) fun u22 =>
  some u22
def F_slices_insertionSortCmpFunc_int__impl_RankShows_1__mut_L2 (nx7 : ((List Int) → Int → Option (List Int))) (y6 : Int) (x1 : Int) (y3_0 : (List ((List (List (Int × Int))) × (List Int) × Int × Int))) : Nat → (List Int) → Int → Option (List Int)
  | 0, _, _ => none
  | m + 1, l18, y19 => jK1 (fun (y28 : Bool) => (if y28 = true then jK1 (fun (l36 : (List Int)) => (F_slices_insertionSortCmpFunc_int__impl_RankShows_1__mut_L2 nx7 y6 x1 y3_0 m) (l36) ((w64 (y19 - 1)))) (fun k37 => Option.bind (idx l18 (w64 (y19 - 1))) fun u44 =>
  Option.bind (idx l18 y19) fun u48 =>
  Option.bind (idx l18 y19) fun u52 =>
  Option.bind (idx (seti l18 y19 u44) (w64 (y19 - 1))) fun u62 =>
  k37 ((seti (seti l18 y19 u44) (w64 (y19 - 1)) u48))) else nx7 (l18) ((w64 (y6 + 1))))) (fun k29 => (if (decide (x1 < y19)) = true then Option.bind (idx l18 y19) fun u98 =>
  Option.bind (idx l18 (w64 (y19 - 1))) fun u102 =>
  Option.bind (F_impl_RankShows_1 u98 u102 y3_0) fun u106 =>
  k29 ((decide (u106 < 0))) else k29 (false)))
def F_slices_insertionSortCmpFunc_int__impl_RankShows_1__mut_L1 (x2 : Int) (x1 : Int) (y3_0 : (List ((List (List (Int × Int))) × (List Int) × Int × Int))) : Nat → (List Int) → Int → Option (List Int)
  | 0, _, _ => none
  | m + 1, l5, y6 => (if (decide (y6 < x2)) = true then F_slices_insertionSortCmpFunc_int__impl_RankShows_1__mut_L2 (F_slices_insertionSortCmpFunc_int__impl_RankShows_1__mut_L1 x2 x1 y3_0 m) y6 x1 y3_0 FU (l5) (y6) else some l5)
def F_slices_insertionSortCmpFunc_int__impl_RankShows_1__mut (x0 : (List Int)) (x1 : Int) (x2 : Int) (y3_0 : (List ((List (List (Int × Int))) × (List Int) × Int × Int))) : Option (List Int) :=
  F_slices_insertionSortCmpFunc_int__impl_RankShows_1__mut_L1 x2 x1 y3_0 FU (x0) ((w64 (x1 + 1)))
def F_slices_stableCmpFunc_int__impl_RankShows_1__mut_L3 (y34 : Int) (x1 : Int) (nx35 : (Int → Option (List Int))) : Nat → Option (List Int)
  | 0 => none
  | m + 1 => (if (decide ((w64 (2 * y34)) ≤ x1)) = true then none else (if (decide ((w64 (0 + y34)) < x1)) = true then none else nx35 ((w64 (y34 * 2)))))
def F_slices_stableCmpFunc_int__impl_RankShows_1__mut_L2 (x1 : Int) (u25 : (List Int)) : Nat → Int → Option (List Int)
  | 0, _ => none
  | m + 1, y34 => (if (decide (y34 < x1)) = true then F_slices_stableCmpFunc_int__impl_RankShows_1__mut_L3 y34 x1 (F_slices_stableCmpFunc_int__impl_RankShows_1__mut_L2 x1 u25 m) FU else some u25)
def F_slices_stableCmpFunc_int__impl_RankShows_1__mut_L1 (x1 : Int) (y2_0 : (List ((List (List (Int × Int))) × (List Int) × Int × Int))) : Nat → (List Int) → Int → Int → Option (List Int)
  | 0, _, _, _ => none
  | m + 1, l7, y8, y9 => (if (decide (y9 ≤ x1)) = true then Option.bind (F_slices_insertionSortCmpFunc_int__impl_RankShows_1__mut l7 y8 y9 y2_0) fun u17 =>
  (F_slices_stableCmpFunc_int__impl_RankShows_1__mut_L1 x1 y2_0 m) (u17) (y9) ((w64 (y9 + 20))) else Option.bind (F_slices_insertionSortCmpFunc_int__impl_RankShows_1__mut l7 y8 x1 y2_0) fun u25 =>
  F_slices_stableCmpFunc_int__impl_RankShows_1__mut_L2 x1 u25 FU (20))
def F_slices_stableCmpFunc_int__impl_RankShows_1__mut (x0 : (List Int)) (x1 : Int) (y2_0 : (List ((List (List (Int × Int))) × (List Int) × Int × Int))) : Option (List Int) :=
  F_slices_stableCmpFunc_int__impl_RankShows_1__mut_L1 x1 y2_0 FU (x0) (0) (20)
def F_slices_SortStableFunc_int_int__impl_RankShows_1__mut (x0 : (List Int)) (y1_0 : (List ((List (List (Int × Int))) × (List Int) × Int × Int))) : Option (List Int) :=
  Option.bind (F_slices_stableCmpFunc_int__impl_RankShows_1__mut x0 (List.length x0 : Int) y1_0) fun u1 =>
  some u1
def F_impl_RankShows_L1 (x0 : (List ((List (List (Int × Int))) × (List Int) × Int × Int))) : Nat → (List Int) → Int → Option ((List Int) × Bool)
  | 0, _, _ => none
  | m + 1, l24, y27 => (if (decide (y27 < (List.length x0 : Int))) = true then Option.bind (idx x0 y27) fun u36 =>
  Option.bind (F_impl_IsShow u36) fun u54 =>
  (if (!u54) = true then some ([], false) else Option.bind (app l24 [y27]) fun u69 =>
  (F_impl_RankShows_L1 x0 m) (u69) ((w64 (y27 + 1)))) else Option.bind (F_slices_SortStableFunc_int_int__impl_RankShows_1__mut l24 x0) fun u77 =>
  some (u77, true))
def F_impl_RankShows (x0 : (List ((List (List (Int × Int))) × (List Int) × Int × Int))) : Option ((List Int) × Bool) :=
  (if (decide (8 < (List.length x0 : Int))) = true then some ([], false) else F_impl_RankShows_L1 x0 FU ([]) (0))
def F_spec_RankShows_L3 (l53 : (List Int)) (y56 : Int) (k71 : ((List Int) → Option ((List Int) × Bool))) (x0 : (List ((List (List (Int × Int))) × (List Int) × Int × Int))) (u74 : ((List (List (Int × Int))) × (List Int) × Int × Int)) : Nat → Int → Option ((List Int) × Bool)
  | 0, _ => none
  | m + 1, y95 => jK1 (fun (y104 : Bool) => (if y104 = true then (F_spec_RankShows_L3 l53 y56 k71 x0 u74 m) ((w64 (y95 - 1))) else Option.bind (sl l53 0 y95) fun u113 =>
  Option.bind (sl l53 y95 (List.length l53 : Int)) fun u118 =>
  Option.bind (F_spec_l1Own u113) fun u123 =>
  Option.bind (app u123 [y56]) fun u143 =>
  Option.bind (app u143 u118) fun u152 =>
  k71 (u152))) (fun k105 => (if (decide (0 < y95)) = true then Option.bind (idx l53 (w64 (y95 - 1))) fun u205 =>
  Option.bind (idx x0 u205) fun u209 =>
  Option.bind (F_spec_cpCompare u74 u209) fun u216 =>
  k105 ((decide (u216 < 0))) else k105 (false)))
def F_spec_RankShows_L2 (x0 : (List ((List (List (Int × Int))) × (List Int) × Int × Int))) : Nat → (List Int) → Int → Option ((List Int) × Bool)
  | 0, _, _ => none
  | m + 1, l53, y56 => (if (decide (y56 < (List.length x0 : Int))) = true then jK1 (fun (l68 : (List Int)) => (F_spec_RankShows_L2 x0 m) (l68) ((w64 (y56 + 1)))) (fun k71 => Option.bind (idx x0 y56) fun u74 =>
  F_spec_RankShows_L3 l53 y56 k71 x0 u74 FU ((List.length l53 : Int))) else some (l53, true))
def F_spec_RankShows_L1 (x0 : (List ((List (List (Int × Int))) × (List Int) × Int × Int))) : Nat → Int → Option ((List Int) × Bool)
  | 0, _ => none
  | m + 1, y7 => (if (decide (y7 < (List.length x0 : Int))) = true then Option.bind (idx x0 y7) fun u16 =>
  Option.bind (F_spec_swGood u16) fun u33 =>
  (if (!u33) = true then some ([], false) else (F_spec_RankShows_L1 x0 m) ((w64 (y7 + 1)))) else (if (decide (8 < (List.length x0 : Int))) = true then some ([], false) else F_spec_RankShows_L2 x0 FU ([]) (0)))
def F_spec_RankShows (x0 : (List ((List (List (Int × Int))) × (List Int) × Int × Int))) : Option ((List Int) × Bool) :=
  F_spec_RankShows_L1 x0 FU (0)
def F_laws_FnDemands_L5 (u188 : Int) (u7 : ((List (List (Int × Int))) × (List Int) × Int × Int)) (y179 : Int) (nx180 : (Int → Option Bool)) : Nat → Int → Option Bool
  | 0, _ => none
  | m + 1, y202 => (if (decide (y202 < (List.length [0, 1] : Int))) = true then jK0 ((F_laws_FnDemands_L5 u188 u7 y179 nx180 m) ((w64 (y202 + 1)))) (fun k213 => Option.bind (idx [0, 1] y202) fun u216 =>
  (if (decide ((w64 (u188 - u216)) < 1)) = true then k213 else Option.bind (app [] u7.2.1) fun u230 =>
  Option.bind (idx u230 y179) fun u238 =>
  Option.bind (F_impl_WideSteps (u7.1, (seti u230 y179 (w64 (u188 - u216))), u7.2.2.1, u7.2.2.2) y179) fun u247 =>
  Option.bind (F_spec_WideSteps (u7.1, (seti u230 y179 (w64 (u188 - u216))), u7.2.2.1, u7.2.2.2) y179) fun u256 =>
  jK1 (fun (y268 : Bool) => (if y268 = true then some false else k213)) (fun k269 => (if (!u247.2) = true then k269 (true) else (if (!u256.2) = true then k269 (true) else Option.bind (F_laws_qInts u247.1 u256.1) fun u275 =>
  (if (!u275) = true then k269 (true) else k269 ((((List.length u256.1 : Int) == 0) != (u216 == 0))))))))) else nx180 ((w64 (y179 + 1))))
def F_laws_FnDemands_L4 (u36 : ((List Int) × Bool)) (u7 : ((List (List (Int × Int))) × (List Int) × Int × Int)) : Nat → Int → Option Bool
  | 0, _ => none
  | m + 1, y179 => (if (decide (y179 < (List.length u36.1 : Int))) = true then Option.bind (idx u36.1 y179) fun u188 =>
  F_laws_FnDemands_L5 u188 u7 y179 (F_laws_FnDemands_L4 u36 u7 m) FU (0) else some true)
def F_laws_FnDemands_L3 (u7 : ((List (List (Int × Int))) × (List Int) × Int × Int)) (u52 : (Int × Bool)) (u309 : Int) (k306 : (Option Bool)) : Nat → Int → Int → Option Bool
  | 0, _, _ => none
  | m + 1, y322, y323 => (if (decide (y323 < (List.length u7.2.1 : Int))) = true then Option.bind (F_impl_WideSteps (u7.1, u7.2.1, u7.2.2.1, (w64 (u52.1 - u309))) y323) fun u333 =>
  Option.bind (F_spec_WideSteps (u7.1, u7.2.1, u7.2.2.1, (w64 (u52.1 - u309))) y323) fun u342 =>
  jK1 (fun (y355 : Bool) => (if y355 = true then some false else (F_laws_FnDemands_L3 u7 u52 u309 k306 m) ((w64 (y322 + (List.length u342.1 : Int)))) ((w64 (y323 + 1))))) (fun k356 => (if (!u333.2) = true then k356 (true) else (if (!u342.2) = true then k356 (true) else Option.bind (F_laws_qInts u333.1 u342.1) fun u362 =>
  k356 ((!u362))))) else (if ((y322 == 0) != (u309 == 0)) = true then some false else k306))
def F_laws_FnDemands_L2 (u52 : (Int × Bool)) (u7 : ((List (List (Int × Int))) × (List Int) × Int × Int)) (k164 : (Option Bool)) : Nat → Int → Option Bool
  | 0, _ => none
  | m + 1, y295 => (if (decide (y295 < (List.length [0, 1] : Int))) = true then jK0 ((F_laws_FnDemands_L2 u52 u7 k164 m) ((w64 (y295 + 1)))) (fun k306 => Option.bind (idx [0, 1] y295) fun u309 =>
  (if (decide ((w64 (u52.1 - u309)) < 1)) = true then k306 else F_laws_FnDemands_L3 u7 u52 u309 k306 FU (0) (0))) else k164)
def F_laws_FnDemands_L1 (u124 : ((List Int) × Bool)) (k158 : (Option Bool)) : Nat → (List ((List (List (Int × Int))) × (List Int) × Int × Int)) → Int → Option Bool
  | 0, _, _ => none
  | m + 1, l378, y381 => (if (decide (y381 < (List.length u124.1 : Int))) = true then Option.bind (idx u124.1 (w64 (y381 - 1))) fun u395 =>
  Option.bind (idx l378 u395) fun u399 =>
  Option.bind (idx u124.1 y381) fun u406 =>
  Option.bind (idx l378 u406) fun u410 =>
  Option.bind (F_impl_CompareDemand u399 u410) fun u417 =>
  Option.bind (idx u124.1 (w64 (y381 - 1))) fun u430 =>
  Option.bind (idx l378 u430) fun u434 =>
  Option.bind (idx u124.1 y381) fun u441 =>
  Option.bind (idx l378 u441) fun u445 =>
  Option.bind (F_spec_CompareDemand u434 u445) fun u452 =>
  jK2 (fun (l463 : (List ((List (List (Int × Int))) × (List Int) × Int × Int))) (y466 : Bool) => (if y466 = true then some false else (F_laws_FnDemands_L1 u124 k158 m) (l463) ((w64 (y381 + 1))))) (fun k467 => (if (!u417.2) = true then k467 (l378) (true) else (if (!u452.2) = true then k467 (l378) (true) else (if (u417.1 != u452.1) = true then k467 (l378) (true) else (if (decide (0 < u452.1)) = true then k467 (l378) (true) else (if (u452.1 == 0) = true then Option.bind (idx u124.1 (w64 (y381 - 1))) fun u481 =>
  Option.bind (idx u124.1 y381) fun u485 =>
  k467 (l378) ((decide (u485 < u481))) else k467 (l378) (false))))))) else (if ((List.length u124.1 : Int) != (List.length l378 : Int)) = true then some false else k158))
def F_laws_FnDemands (x0 : (List Int)) (x1 : (List Int)) : Option Bool :=
  (if (decide (1048576 < (w64 ((List.length x0 : Int) + (List.length x1 : Int))))) = true then some true else Option.bind (F_spec_DrawLeastCountsOf x0) fun u7 =>
  Option.bind (F_impl_LeastCountsOf u7) fun u27 =>
  Option.bind (F_spec_LeastCountsOf u7) fun u36 =>
  Option.bind (F_impl_LeastStepOf u7) fun u45 =>
  Option.bind (F_spec_LeastStepOf u7) fun u52 =>
  Option.bind (F_spec_DrawCompareDemand x1) fun u59 =>
  Option.bind (F_impl_CompareDemand u59.1 u59.2) fun u92 =>
  Option.bind (F_spec_CompareDemand u59.1 u59.2) fun u99 =>
  Option.bind (F_spec_DrawRankShows x1) fun u106 =>
  Option.bind (F_impl_RankShows u106) fun u115 =>
  Option.bind (F_spec_RankShows u106) fun u124 =>
  jK2 (fun (l137 : (List ((List (List (Int × Int))) × (List Int) × Int × Int))) (y140 : Bool) => (if y140 = true then some false else jK1 (fun (l149 : (List ((List (List (Int × Int))) × (List Int) × Int × Int))) => jK0 (jK0 ((if (!u27.2) = true then some true else (if ((List.length u36.1 : Int) != (List.length u7.2.1 : Int)) = true then some false else F_laws_FnDemands_L4 u36 u7 FU (0)))) (fun k164 => (if u45.2 = true then F_laws_FnDemands_L2 u52 u7 k164 FU (0) else k164))) (fun k158 => (if u115.2 = true then F_laws_FnDemands_L1 u124 k158 FU (l149) (1) else k158))) (fun k152 => (if u92.2 = true then Option.bind (F_impl_CompareDemand u59.2 u59.1) fun u495 =>
  jK2 (fun (l505 : (List ((List (List (Int × Int))) × (List Int) × Int × Int))) (y508 : Bool) => (if y508 = true then some false else k152 (l505))) (fun k509 => (if (!u495.2) = true then k509 (l137) (true) else k509 (l137) ((u495.1 != (w64 (0 - u99.1)))))) else k152 (l137))))) (fun k141 => (if (u27.2 != u36.2) = true then k141 (u106) (true) else Option.bind (F_laws_qInts u27.1 u36.1) fun u515 =>
  (if (!u515) = true then k141 (u106) (true) else (if (u45.2 != u52.2) = true then k141 (u106) (true) else (if (u45.1 != u52.1) = true then k141 (u106) (true) else (if (u92.2 != u99.2) = true then k141 (u106) (true) else (if (u92.1 != u99.1) = true then k141 (u106) (true) else (if (u115.2 != u124.2) = true then k141 (u106) (true) else Option.bind (F_laws_qInts u115.1 u124.1) fun u527 =>
  k141 (u106) ((!u527)))))))))))
end Go.Proofs.Ytmkignciedkidaa
