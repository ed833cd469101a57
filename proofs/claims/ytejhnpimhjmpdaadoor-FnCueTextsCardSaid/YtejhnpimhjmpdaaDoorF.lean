/-
  THE FUNCTIONS of this seat as plain functions, by program (gen.py).
-/
import Derived.Test.YtejhnpimhjmpdaaDoorCore0
import Derived.Test.YtejhnpimhjmpdaaDoorLibF
set_option linter.unusedSimpArgs false
set_option linter.unusedVariables false
set_option maxRecDepth 100000
set_option maxHeartbeats 1600000
namespace Go.Proofs.YtejhnpimhjmpdaaDoor
open Go
def eqv_Cue (x y : (Int × (List UInt8))) : Bool := (x.1 == y.1) && (x.2 == y.2)
def eqv_Measure (x y : (Int × Int)) : Bool := (x.1 == y.1) && (x.2 == y.2)
def F_spec_l1In (x0 : Int) (x1 : Int) (x2 : Int) : Option Bool :=
  jK1 (fun (y6 : Bool) => some y6) (fun k7 => (if (decide (x1 ≤ x0)) = true then k7 ((decide (x0 ≤ x2))) else k7 (false)))
def F_spec_muMeasure (x0 : (Int × Int)) : Option Bool :=
  jK1 (fun (y11 : Bool) => some y11) (fun k12 => Option.bind (F_spec_l1In x0.1 1 12) fun u14 =>
  (if u14 = true then Option.bind (F_spec_l1In x0.2 40 220) fun u21 =>
  k12 (u21) else k12 (false)))
def F_spec_muGood_L1 (x0 : (List (Int × Int))) : Nat → Int → Option Bool
  | 0, _ => none
  | m + 1, y7 => (if (decide (y7 < (List.length x0 : Int))) = true then Option.bind (idx x0 y7) fun u16 =>
  Option.bind (F_spec_muMeasure u16) fun u29 =>
  (if (!u29) = true then some false else (F_spec_muGood_L1 x0 m) ((w64 (y7 + 1)))) else Option.bind (F_spec_l1In (List.length x0 : Int) 1 40) fun u38 =>
  some u38)
def F_spec_muGood (x0 : (List (Int × Int))) : Option Bool :=
  F_spec_muGood_L1 x0 FU (0)
def F_spec_muCounts_L1 (x0 : (List (Int × Int))) : Nat → Int → Int → Option Int
  | 0, _, _ => none
  | m + 1, y8, y9 => (if (decide (y9 < (List.length x0 : Int))) = true then Option.bind (idx x0 y9) fun u18 =>
  (F_spec_muCounts_L1 x0 m) ((w64 (y8 + u18.1))) ((w64 (y9 + 1))) else some y8)
def F_spec_muCounts (x0 : (List (Int × Int))) : Option Int :=
  F_spec_muCounts_L1 x0 FU (0) (0)
def F_spec_tiName_L1 (x0 : (List UInt8)) : Nat → Int → Option Bool
  | 0, _ => none
  | m + 1, y7 => (if (decide (y7 < (List.length x0 : Int))) = true then jK1 (fun (y19 : Bool) => (if y19 = true then some false else (F_spec_tiName_L1 x0 m) ((w64 (y7 + 1))))) (fun k20 => Option.bind (idx x0 y7) fun u24 =>
  (if (decide ((UInt8.toNat u24 : Int) < 97)) = true then k20 (true) else Option.bind (idx x0 y7) fun u26 =>
  k20 ((decide (122 < (UInt8.toNat u26 : Int)))))) else Option.bind (F_spec_l1In (List.length x0 : Int) 1 8) fun u28 =>
  some u28)
def F_spec_tiName (x0 : (List UInt8)) : Option Bool :=
  F_spec_tiName_L1 x0 FU (0)
def F_spec_tiCues_L2 (u39 : (List (Int × (List UInt8)))) (u16 : (Int × (List UInt8))) (nx8 : (Int → Option Bool)) (y7 : Int) : Nat → Int → Option Bool
  | 0, _ => none
  | m + 1, y45 => (if (decide (y45 < (List.length u39 : Int))) = true then Option.bind (idx u39 y45) fun u54 =>
  (if (u54.2 == u16.2) = true then some false else (F_spec_tiCues_L2 u39 u16 nx8 y7 m) ((w64 (y45 + 1)))) else nx8 ((w64 (y7 + 1))))
def F_spec_tiCues_L1 (x1 : (List (Int × (List UInt8)))) (x0 : (List (Int × Int))) : Nat → Int → Option Bool
  | 0, _ => none
  | m + 1, y7 => (if (decide (y7 < (List.length x1 : Int))) = true then Option.bind (idx x1 y7) fun u16 =>
  jK1 (fun (y33 : Bool) => (if y33 = true then some false else Option.bind (sl x1 0 y7) fun u39 =>
  F_spec_tiCues_L2 u39 u16 (F_spec_tiCues_L1 x1 x0 m) y7 FU (0))) (fun k34 => Option.bind (F_spec_muCounts x0) fun u74 =>
  Option.bind (F_spec_l1In u16.1 0 (w64 (u74 - 1))) fun u81 =>
  (if (!u81) = true then k34 (true) else Option.bind (F_spec_tiName u16.2) fun u89 =>
  (if (!u89) = true then k34 (true) else (if (decide (0 < y7)) = true then Option.bind (idx x1 (w64 (y7 - 1))) fun u98 =>
  k34 ((decide (u16.1 ≤ u98.1))) else k34 (false))))) else some (decide ((List.length x1 : Int) ≤ 30)))
def F_spec_tiCues (x0 : (List (Int × Int))) (x1 : (List (Int × (List UInt8)))) : Option Bool :=
  F_spec_tiCues_L1 x1 x0 FU (0)
def F_spec_tiGood (x0 : (List (Int × Int))) (x1 : (List (Int × (List UInt8)))) : Option Bool :=
  jK1 (fun (y6 : Bool) => some y6) (fun k7 => Option.bind (F_spec_muGood x0) fun u9 =>
  (if u9 = true then Option.bind (F_spec_tiCues x0 x1) fun u16 =>
  k7 (u16) else k7 (false)))
def F_spec_muLasts (x0 : Int) (x1 : Int) : Option Int :=
  (if x1 = 0 then none else some (w64 (Int.tdiv (w64 (60000 * x0)) x1)))
def F_spec_muTime_L1 (x0 : (List (Int × Int))) : Nat → Int → Int → Int → Option Int
  | 0, _, _, _ => none
  | m + 1, y8, y9, y10 => (if (decide (y10 < (List.length x0 : Int))) = true then Option.bind (idx x0 y10) fun u19 =>
  (if (decide (y8 < u19.1)) = true then Option.bind (F_spec_muLasts y8 u19.2) fun u35 =>
  some (w64 (y9 + u35)) else Option.bind (F_spec_muLasts u19.1 u19.2) fun u42 =>
  (F_spec_muTime_L1 x0 m) ((w64 (y8 - u19.1))) ((w64 (y9 + u42))) ((w64 (y10 + 1)))) else some y9)
def F_spec_muTime (x0 : (List (Int × Int))) (x1 : Int) : Option Int :=
  F_spec_muTime_L1 x0 FU (x1) (0) (0)
def F_spec_tiTimes_L1 (x1 : (List (Int × (List UInt8)))) (x0 : (List (Int × Int))) : Nat → (List Int) → Int → Option (List Int)
  | 0, _, _ => none
  | m + 1, l8, y11 => (if (decide (y11 < (List.length x1 : Int))) = true then Option.bind (idx x1 y11) fun u21 =>
  Option.bind (F_spec_muTime x0 u21.1) fun u33 =>
  Option.bind (app l8 [u33]) fun u45 =>
  (F_spec_tiTimes_L1 x1 x0 m) (u45) ((w64 (y11 + 1))) else some l8)
def F_spec_tiTimes (x0 : (List (Int × Int))) (x1 : (List (Int × (List UInt8)))) : Option (List Int) :=
  F_spec_tiTimes_L1 x1 x0 FU ([]) (0)
def F_spec_l1Num_R : Nat → Int → Option (List UInt8)
  | 0, _ => none
  | m + 1, x0 => (if (decide (x0 < 10)) = true then some (bytesOf [(wu8 (w64 (48 + x0)))]) else jK1 (fun (y16 : (List UInt8)) => some y16) (fun k17 => Option.bind (F_spec_l1Num_R m (w64 (Int.tdiv x0 10))) fun u24 =>
  Option.bind (app u24 (bytesOf [(wu8 (w64 (48 + (Int.tmod x0 10))))])) fun u41 =>
  k17 (u41)))
def F_spec_l1Num (x0 : Int) : Option (List UInt8) :=
  F_spec_l1Num_R FU x0
def F_spec_tiPadded_L1 (x1 : Int) : Nat → (List UInt8) → Option (List UInt8)
  | 0, _ => none
  | m + 1, y13 => (if (decide ((List.length y13 : Int) < x1)) = true then Option.bind (app [48] y13) fun u20 =>
  (F_spec_tiPadded_L1 x1 m) (u20) else some y13)
def F_spec_tiPadded (x0 : Int) (x1 : Int) : Option (List UInt8) :=
  Option.bind (F_spec_l1Num x0) fun u3 =>
  F_spec_tiPadded_L1 x1 FU (u3)
def F_spec_tiText (x0 : Int) : Option (List UInt8) :=
  Option.bind (F_spec_l1Num (w64 (Int.tdiv x0 60000))) fun u3 =>
  Option.bind (app u3 [58]) fun u9 =>
  Option.bind (F_spec_tiPadded (Int.tmod (w64 (Int.tdiv x0 1000)) 60) 2) fun u10 =>
  Option.bind (app u9 u10) fun u16 =>
  Option.bind (app u16 [46]) fun u17 =>
  Option.bind (F_spec_tiPadded (Int.tmod x0 1000) 3) fun u18 =>
  Option.bind (app u17 u18) fun u24 =>
  some u24
def F_spec_TimetableText_L1 (u15 : (List Int)) (x1 : (List (Int × (List UInt8)))) : Nat → (List UInt8) → Int → Option ((List UInt8) × Bool)
  | 0, _, _ => none
  | m + 1, y26, y27 => (if (decide (y27 < (List.length u15 : Int))) = true then Option.bind (idx u15 y27) fun u36 =>
  Option.bind (idx x1 y27) fun u45 =>
  Option.bind (idx x1 y27) fun u48 =>
  Option.bind (F_spec_tiText u36) fun u51 =>
  Option.bind (app u51 [32]) fun u58 =>
  Option.bind (F_spec_l1Num u45.1) fun u59 =>
  Option.bind (app u58 u59) fun u66 =>
  Option.bind (app u66 [32]) fun u67 =>
  Option.bind (app u67 u48.2) fun u68 =>
  Option.bind (app u68 [10]) fun u69 =>
  Option.bind (app y26 u69) fun u70 =>
  (F_spec_TimetableText_L1 u15 x1 m) (u70) ((w64 (y27 + 1))) else some (y26, true))
def F_spec_TimetableText (x0 : (List (Int × Int))) (x1 : (List (Int × (List UInt8)))) : Option ((List UInt8) × Bool) :=
  Option.bind (F_spec_tiGood x0 x1) fun u4 =>
  (if (!u4) = true then some ([], false) else Option.bind (F_spec_tiTimes x0 x1) fun u15 =>
  F_spec_TimetableText_L1 u15 x1 FU ([]) (0))
def F_impl_within (x0 : Int) (x1 : Int) (x2 : Int) : Option Bool :=
  jK1 (fun (y6 : Bool) => some y6) (fun k7 => (if (decide (x1 ≤ x0)) = true then k7 ((decide (x0 ≤ x2))) else k7 (false)))
def F_impl_IsMusic_L1 (x0 : (List (Int × Int))) : Nat → Int → Option Bool
  | 0, _ => none
  | m + 1, y7 => (if (decide (y7 < (List.length x0 : Int))) = true then Option.bind (idx x0 y7) fun u16 =>
  jK1 (fun (y32 : Bool) => (if y32 = true then some false else (F_impl_IsMusic_L1 x0 m) ((w64 (y7 + 1))))) (fun k33 => Option.bind (F_impl_within u16.1 1 12) fun u37 =>
  (if (!u37) = true then k33 (true) else Option.bind (F_impl_within u16.2 40 220) fun u44 =>
  k33 ((!u44)))) else Option.bind (F_impl_within (List.length x0 : Int) 1 40) fun u51 =>
  some u51)
def F_impl_IsMusic (x0 : (List (Int × Int))) : Option Bool :=
  F_impl_IsMusic_L1 x0 FU (0)
def F_impl_countsOf_L1 (x0 : (List (Int × Int))) : Nat → Int → Int → Option Int
  | 0, _, _ => none
  | m + 1, y8, y9 => (if (decide (y9 < (List.length x0 : Int))) = true then Option.bind (idx x0 y9) fun u18 =>
  (F_impl_countsOf_L1 x0 m) ((w64 (y8 + u18.1))) ((w64 (y9 + 1))) else some y8)
def F_impl_countsOf (x0 : (List (Int × Int))) : Option Int :=
  F_impl_countsOf_L1 x0 FU (0) (0)
def F_impl_isName_L1 (x0 : (List UInt8)) : Nat → Int → Option Bool
  | 0, _ => none
  | m + 1, y7 => (if (decide (y7 < (List.length x0 : Int))) = true then jK1 (fun (y19 : Bool) => (if y19 = true then some false else (F_impl_isName_L1 x0 m) ((w64 (y7 + 1))))) (fun k20 => Option.bind (idx x0 y7) fun u24 =>
  (if (decide ((UInt8.toNat u24 : Int) < 97)) = true then k20 (true) else Option.bind (idx x0 y7) fun u26 =>
  k20 ((decide (122 < (UInt8.toNat u26 : Int)))))) else Option.bind (F_impl_within (List.length x0 : Int) 1 12) fun u28 =>
  some u28)
def F_impl_isName (x0 : (List UInt8)) : Option Bool :=
  F_impl_isName_L1 x0 FU (0)
def F_impl_areCues_1 (x0 : (Int × (List UInt8))) (y1 : (Int × (List UInt8))) : Option Bool :=
  some (x0.2 == y1.2)
def F_slices_IndexFunc_impl_Cue_impl_Cue__impl_areCues_1_L1 (x0 : (List (Int × (List UInt8)))) (y1_0 : (Int × (List UInt8))) : Nat → Int → Option Int
  | 0, _ => none
  | m + 1, y7 => (if (decide (y7 < (List.length x0 : Int))) = true then Option.bind (idx x0 y7) fun u17 =>
  Option.bind (F_impl_areCues_1 u17 y1_0) fun u20 =>
  (if u20 = true then some y7 else (F_slices_IndexFunc_impl_Cue_impl_Cue__impl_areCues_1_L1 x0 y1_0 m) ((w64 (y7 + 1)))) else some (-1))
def F_slices_IndexFunc_impl_Cue_impl_Cue__impl_areCues_1 (x0 : (List (Int × (List UInt8)))) (y1_0 : (Int × (List UInt8))) : Option Int :=
  F_slices_IndexFunc_impl_Cue_impl_Cue__impl_areCues_1_L1 x0 y1_0 FU (0)
def F_slices_ContainsFunc_impl_Cue_impl_Cue__impl_areCues_1 (x0 : (List (Int × (List UInt8)))) (y1_0 : (Int × (List UInt8))) : Option Bool :=
  Option.bind (F_slices_IndexFunc_impl_Cue_impl_Cue__impl_areCues_1 x0 y1_0) fun u3 =>
  some (decide (0 ≤ u3))
def F_impl_areCues_L1 (x1 : (List (Int × (List UInt8)))) (u7 : Int) : Nat → Int → Option Bool
  | 0, _ => none
  | m + 1, y18 => (if (decide (y18 < (List.length x1 : Int))) = true then Option.bind (idx x1 y18) fun u27 =>
  jK1 (fun (y44 : Bool) => (if y44 = true then some false else Option.bind (sl x1 0 y18) fun u50 =>
  Option.bind (F_slices_ContainsFunc_impl_Cue_impl_Cue__impl_areCues_1 u50 u27) fun u53 =>
  (if u53 = true then some false else (F_impl_areCues_L1 x1 u7 m) ((w64 (y18 + 1)))))) (fun k45 => Option.bind (F_impl_within u27.1 0 (w64 (u7 - 1))) fun u66 =>
  (if (!u66) = true then k45 (true) else (if (decide (8 < (List.length u27.2 : Int))) = true then k45 (true) else Option.bind (F_impl_isName u27.2) fun u75 =>
  (if (!u75) = true then k45 (true) else (if (decide (0 < y18)) = true then Option.bind (idx x1 (w64 (y18 - 1))) fun u84 =>
  k45 ((decide (u27.1 ≤ u84.1))) else k45 (false)))))) else some true)
def F_impl_areCues (x0 : (List (Int × Int))) (x1 : (List (Int × (List UInt8)))) : Option Bool :=
  (if (decide (30 < (List.length x1 : Int))) = true then some false else Option.bind (F_impl_countsOf x0) fun u7 =>
  F_impl_areCues_L1 x1 u7 FU (0))
def F_impl_haveCues (x0 : (List (Int × Int))) (x1 : (List (Int × (List UInt8)))) : Option Bool :=
  jK1 (fun (y6 : Bool) => some y6) (fun k7 => Option.bind (F_impl_IsMusic x0) fun u9 =>
  (if u9 = true then Option.bind (F_impl_areCues x0 x1) fun u16 =>
  k7 (u16) else k7 (false)))
def F_impl_timeOf_L1 (x0 : (List (Int × Int))) : Nat → Int → Int → Int → Option Int
  | 0, _, _, _ => none
  | m + 1, y8, y9, y10 => (if (decide (y10 < (List.length x0 : Int))) = true then Option.bind (idx x0 y10) fun u19 =>
  (if (decide (y8 < u19.1)) = true then (if u19.2 = 0 then none else some (w64 (y9 + (w64 (Int.tdiv (w64 (60000 * y8)) u19.2))))) else (if u19.2 = 0 then none else (F_impl_timeOf_L1 x0 m) ((w64 (y8 - u19.1))) ((w64 (y9 + (w64 (Int.tdiv (w64 (60000 * u19.1)) u19.2))))) ((w64 (y10 + 1))))) else some y9)
def F_impl_timeOf (x0 : (List (Int × Int))) (x1 : Int) : Option Int :=
  F_impl_timeOf_L1 x0 FU (x1) (0) (0)
def F_impl_padded_L1 (x1 : Int) : Nat → (List UInt8) → Option (List UInt8)
  | 0, _ => none
  | m + 1, y13 => (if (decide ((List.length y13 : Int) < x1)) = true then Option.bind (app [48] y13) fun u20 =>
  (F_impl_padded_L1 x1 m) (u20) else some y13)
def F_impl_padded (x0 : Int) (x1 : Int) : Option (List UInt8) :=
  Option.bind (F_strconv_Itoa x0) fun u3 =>
  F_impl_padded_L1 x1 FU (u3)
def F_impl_timeText (x0 : Int) : Option (List UInt8) :=
  Option.bind (F_strconv_Itoa (w64 (Int.tdiv x0 60000))) fun u3 =>
  Option.bind (app u3 [58]) fun u9 =>
  Option.bind (F_impl_padded (Int.tmod (w64 (Int.tdiv x0 1000)) 60) 2) fun u10 =>
  Option.bind (app u9 u10) fun u16 =>
  Option.bind (app u16 [46]) fun u17 =>
  Option.bind (F_impl_padded (Int.tmod x0 1000) 3) fun u18 =>
  Option.bind (app u17 u18) fun u24 =>
  some u24
def F_impl_TimetableText_L1 (x1 : (List (Int × (List UInt8)))) (x0 : (List (Int × Int))) : Nat → (List Int) → Int → Option ((List UInt8) × Bool)
  | 0, _, _ => none
  | m + 1, l25, y28 => (if (decide (y28 < (List.length x1 : Int))) = true then Option.bind (idx x1 y28) fun u38 =>
  Option.bind (F_impl_timeOf x0 u38.1) fun u55 =>
  Option.bind (F_impl_timeText u55) fun u63 =>
  Option.bind (app u63 [32]) fun u72 =>
  Option.bind (F_strconv_Itoa u38.1) fun u73 =>
  Option.bind (app u72 u73) fun u81 =>
  Option.bind (app u81 [32]) fun u82 =>
  Option.bind (app u82 u38.2) fun u83 =>
  Option.bind (app u83 [10]) fun u84 =>
  Option.bind (bwr l25 u84) fun u85 =>
  (F_impl_TimetableText_L1 x1 x0 m) (u85) ((w64 (y28 + 1))) else Option.bind (bstr l25) fun u96 =>
  some (u96, true))
def F_impl_TimetableText (x0 : (List (Int × Int))) (x1 : (List (Int × (List UInt8)))) : Option ((List UInt8) × Bool) :=
  Option.bind (F_impl_haveCues x0 x1) fun u4 =>
  (if (!u4) = true then some ([], false) else F_impl_TimetableText_L1 x1 x0 FU ([]) (0))
def F_spec_l1Cur__next__mut__box (x0 : ((List Int) × Int × Int)) : Option (Int × ((List Int) × Int × Int)) :=
  jK1 (fun (y7 : Int) => (if (decide ((w64 (x0.2.1 + 1)) ≤ (List.length x0.1 : Int))) = true then some (y7, (x0.1, (w64 (x0.2.1 + 1)), (wu64 ((wu64 ((wu64 (x0.2.2 * 6364136223846793005)) + (wu64 y7))) + 1442695040888963407)))) else some ((w64 (andK .u64 (shrK .u64 (wu64 ((wu64 ((wu64 (x0.2.2 * 6364136223846793005)) + (wu64 y7))) + 1442695040888963407)) 40) 255)), (x0.1, (w64 (x0.2.1 + 1)), (wu64 ((wu64 ((wu64 (x0.2.2 * 6364136223846793005)) + (wu64 y7))) + 1442695040888963407)))))) (fun k8 => (if (decide (x0.2.1 < (List.length x0.1 : Int))) = true then Option.bind (idx x0.1 x0.2.1) fun u42 =>
  k8 ((w64 u42)) else k8 (0)))
def F_spec_l1Cur__pick__mut__box (x0 : ((List Int) × Int × Int)) (x1 : Int) : Option (Int × ((List Int) × Int × Int)) :=
  (if (decide (x1 ≤ 1)) = true then some (0, x0) else Option.bind (F_spec_l1Cur__next__mut__box x0) fun u7 =>
  jK3 (fun (y17 : Int) (y18 : Int) (y19 : Int) => (if x1 = 0 then none else some ((Int.tmod y19 x1), (x0.1, y17, y18)))) (fun k20 => (if (decide (200 < x1)) = true then Option.bind (F_spec_l1Cur__next__mut__box (x0.1, u7.2.2.1, u7.2.2.2)) fun u26 =>
  k20 (u26.2.2.1) (u26.2.2.2) ((w64 ((w64 (u7.1 * 256)) + u26.1))) else k20 (u7.2.2.1) (u7.2.2.2) (u7.1))))
def F_spec_l1Cur__one__mut__box (x0 : ((List Int) × Int × Int)) (x1 : Int) : Option (Bool × ((List Int) × Int × Int)) :=
  Option.bind (F_spec_l1Cur__pick__mut__box x0 x1) fun u3 =>
  some ((u3.1 == 0), (x0.1, u3.2.2.1, u3.2.2.2))
def F_spec_l1Cur__among__mut__box (x0 : ((List Int) × Int × Int)) (x1 : (List Int)) : Option (Int × ((List Int) × Int × Int)) :=
  Option.bind (F_spec_l1Cur__pick__mut__box x0 (List.length x1 : Int)) fun u3 =>
  Option.bind (idx x1 u3.1) fun u9 =>
  some (u9, (x0.1, u3.2.2.1, u3.2.2.2))
def F_spec_l1Cur__music__mut__box_L1 (y16 : Int) (x0 : ((List Int) × Int × Int)) : Nat → Int → Int → (List (Int × Int)) → Int → Option ((List (Int × Int)) × ((List Int) × Int × Int))
  | 0, _, _, _, _ => none
  | m + 1, y42, y43, l44, y47 => (if (decide ((List.length l44 : Int) < y16)) = true then jK3 (fun (y59 : Int) (y60 : Int) (y61 : Int) => Option.bind (F_spec_l1Cur__among__mut__box (x0.1, y59, y60) [4, 4, 3, 6, 1, 12]) fun u70 =>
  Option.bind (app l44 [(u70.1, y61)]) fun u82 =>
  (F_spec_l1Cur__music__mut__box_L1 y16 x0 m) (u70.2.2.1) (u70.2.2.2) (u82) (y61)) (fun k62 => Option.bind (F_spec_l1Cur__one__mut__box (x0.1, y42, y43) 4) fun u90 =>
  (if u90.1 = true then Option.bind (F_spec_l1Cur__pick__mut__box (x0.1, u90.2.2.1, u90.2.2.2) 181) fun u97 =>
  Option.bind (F_spec_l1Cur__among__mut__box (x0.1, u97.2.2.1, u97.2.2.2) [40, 90, 220, (w64 (40 + u97.1))]) fun u109 =>
  k62 (u109.2.2.1) (u109.2.2.2) (u109.1) else k62 (u90.2.2.1) (u90.2.2.2) (y47))) else some (l44, (x0.1, y42, y43)))
def F_spec_l1Cur__music__mut__box (x0 : ((List Int) × Int × Int)) : Option ((List (Int × Int)) × ((List Int) × Int × Int)) :=
  Option.bind (F_spec_l1Cur__pick__mut__box x0 6) fun u4 =>
  jK3 (fun (y14 : Int) (y15 : Int) (y16 : Int) => Option.bind (F_spec_l1Cur__pick__mut__box (x0.1, y14, y15) 181) fun u20 =>
  Option.bind (F_spec_l1Cur__among__mut__box (x0.1, u20.2.2.1, u20.2.2.2) [60, 96, 120, 140, (w64 (40 + u20.1))]) fun u32 =>
  F_spec_l1Cur__music__mut__box_L1 y16 x0 FU (u32.2.2.1) (u32.2.2.2) ([]) (u32.1)) (fun k17 => Option.bind (F_spec_l1Cur__one__mut__box (x0.1, u4.2.2.1, u4.2.2.2) 16) fun u117 =>
  (if u117.1 = true then k17 (u117.2.2.1) (u117.2.2.2) (40) else k17 (u117.2.2.1) (u117.2.2.2) ((w64 (1 + u4.1)))))
def F_spec_l1Cur__anyMusic__mut__box_L1 (u80 : (Int × ((List Int) × Int × Int))) (k31 : (Int → Int → (List (Int × Int)) → Option ((List (Int × Int)) × ((List Int) × Int × Int)))) : Nat → (List (Int × Int)) → Option ((List (Int × Int)) × ((List Int) × Int × Int))
  | 0, _ => none
  | m + 1, l89 => (if (decide ((List.length l89 : Int) < (w64 (40 + u80.1)))) = true then Option.bind (app l89 [(4, 120)]) fun u104 =>
  (F_spec_l1Cur__anyMusic__mut__box_L1 u80 k31 m) (u104) else k31 (u80.2.2.1) (u80.2.2.2) (l89))
def F_spec_l1Cur__anyMusic__mut__box (x0 : ((List Int) × Int × Int)) : Option ((List (Int × Int)) × ((List Int) × Int × Int)) :=
  Option.bind (F_spec_l1Cur__music__mut__box x0) fun u3 =>
  Option.bind (F_spec_l1Cur__pick__mut__box (x0.1, u3.2.2.1, u3.2.2.2) (List.length u3.1 : Int)) fun u12 =>
  Option.bind (idx u3.1 u12.1) fun u18 =>
  jK3 (fun (y26 : Int) (y27 : Int) (l28 : (List (Int × Int))) => some (l28, (x0.1, y26, y27))) (fun k31 => Option.bind (F_spec_l1Cur__pick__mut__box (x0.1, u12.2.2.1, u12.2.2.2) 30) fun u35 =>
  (if (u35.1 == 0) = true then Option.bind (F_spec_l1Cur__among__mut__box (x0.1, u35.2.2.1, u35.2.2.2) [0, 12, 13]) fun u49 =>
  k31 (u49.2.2.1) (u49.2.2.2) ((seti u3.1 u12.1 (u49.1, u18.2))) else (if (u35.1 == 1) = true then Option.bind (F_spec_l1Cur__among__mut__box (x0.1, u35.2.2.1, u35.2.2.2) [39, 40, 220, 221]) fun u67 =>
  k31 (u67.2.2.1) (u67.2.2.2) ((seti u3.1 u12.1 (u18.1, u67.1))) else (if (u35.1 == 2) = true then Option.bind (F_spec_l1Cur__pick__mut__box (x0.1, u35.2.2.1, u35.2.2.2) 2) fun u80 =>
  F_spec_l1Cur__anyMusic__mut__box_L1 u80 k31 FU (u3.1) else (if (u35.1 == 3) = true then some ([], (x0.1, u35.2.2.1, u35.2.2.2)) else k31 (u35.2.2.1) (u35.2.2.2) (u3.1))))))
def F_spec_l1Cur__of__mut__box (x0 : ((List Int) × Int × Int)) (x1 : (List (List UInt8))) : Option ((List UInt8) × ((List Int) × Int × Int)) :=
  Option.bind (F_spec_l1Cur__pick__mut__box x0 (List.length x1 : Int)) fun u3 =>
  Option.bind (idx x1 u3.1) fun u9 =>
  some (u9, (x0.1, u3.2.2.1, u3.2.2.2))
def F_spec_l1Cur__cues__mut__box_L3 (u228 : (Int × ((List Int) × Int × Int))) (k108 : (Int → Int → (List (Int × Int)) → (List (Int × (List UInt8))) → Option ((List (Int × Int)) × (List (Int × (List UInt8))) × ((List Int) × Int × Int)))) (l203 : (List (Int × Int))) : Nat → (List (Int × (List UInt8))) → Option ((List (Int × Int)) × (List (Int × (List UInt8))) × ((List Int) × Int × Int))
  | 0, _ => none
  | m + 1, l237 => (if (decide ((List.length l237 : Int) < (w64 (30 + u228.1)))) = true then Option.bind (app l237 [((List.length l237 : Int), (bytesOf [(wu8 (w64 (97 + (w64 (Int.tdiv (List.length l237 : Int) 26))))), (wu8 (w64 (97 + (Int.tmod (List.length l237 : Int) 26))))]))]) fun u259 =>
  (F_spec_l1Cur__cues__mut__box_L3 u228 k108 l203 m) (u259) else k108 (u228.2.2.1) (u228.2.2.2) (l203) (l237))
def F_spec_l1Cur__cues__mut__box_L2 (x0 : ((List Int) × Int × Int)) (u191 : (Bool × ((List Int) × Int × Int))) (k108 : (Int → Int → (List (Int × Int)) → (List (Int × (List UInt8))) → Option ((List (Int × Int)) × (List (Int × (List UInt8))) × ((List Int) × Int × Int)))) : Nat → (List (Int × Int)) → Option ((List (Int × Int)) × (List (Int × (List UInt8))) × ((List Int) × Int × Int))
  | 0, _ => none
  | m + 1, l203 => (if (decide ((List.length l203 : Int) < 10)) = true then Option.bind (app l203 [(4, 120)]) fun u219 =>
  (F_spec_l1Cur__cues__mut__box_L2 x0 u191 k108 m) (u219) else Option.bind (F_spec_l1Cur__pick__mut__box (x0.1, u191.2.2.1, u191.2.2.2) 2) fun u228 =>
  F_spec_l1Cur__cues__mut__box_L3 u228 k108 l203 FU ([]))
def F_spec_l1Cur__cues__mut__box_L1 (x0 : ((List Int) × Int × Int)) (u36 : Int) (u3 : ((List (Int × Int)) × ((List Int) × Int × Int))) : Nat → Int → Int → (List (Int × (List UInt8))) → Int → Option ((List (Int × Int)) × (List (Int × (List UInt8))) × ((List Int) × Int × Int))
  | 0, _, _, _, _ => none
  | m + 1, y53, y54, l55, y58 => jK1 (fun (y68 : Bool) => (if y68 = true then Option.bind (idx [[115, 116, 97, 114, 116], [116, 117, 114, 110], [104, 97, 108, 116], [100, 114, 117, 109, 115], [98, 114, 97, 115, 115], [102, 108, 97, 103, 115], [101, 110, 100], [97], [97, 98, 99, 100, 101, 102, 103, 104]] (List.length l55 : Int)) fun u73 =>
  Option.bind (app l55 [(y58, u73)]) fun u83 =>
  Option.bind (F_spec_l1Cur__pick__mut__box (x0.1, y53, y54) (w64 (1 + (w64 (Int.tdiv u36 6))))) fun u90 =>
  (F_spec_l1Cur__cues__mut__box_L1 x0 u36 u3 m) (u90.2.2.1) (u90.2.2.2) (u83) ((w64 (y58 + (w64 (1 + u90.1))))) else jK4 (fun (y100 : Int) (y101 : Int) (l102 : (List (Int × Int))) (l105 : (List (Int × (List UInt8)))) => jK3 (fun (y114 : Int) (y115 : Int) (l116 : (List (Int × (List UInt8)))) => some (l102, l116, (x0.1, y114, y115))) (fun k119 => (if (decide (0 < (List.length l105 : Int))) = true then Option.bind (F_spec_l1Cur__pick__mut__box (x0.1, y100, y101) (List.length l105 : Int)) fun u125 =>
  Option.bind (idx l105 u125.1) fun u131 =>
  Option.bind (F_spec_l1Cur__pick__mut__box (x0.1, u125.2.2.1, u125.2.2.2) 24) fun u136 =>
  (if (u136.1 == 0) = true then Option.bind (F_spec_muCounts l102) fun u144 =>
  Option.bind (F_spec_muCounts l102) fun u150 =>
  Option.bind (F_spec_l1Cur__among__mut__box (x0.1, u136.2.2.1, u136.2.2.2) [(-1), (w64 (u144 - 1)), u150]) fun u162 =>
  k119 (u162.2.2.1) (u162.2.2.2) ((seti l105 u125.1 (u162.1, u131.2))) else (if (u136.1 == 1) = true then Option.bind (F_spec_l1Cur__of__mut__box (x0.1, u136.2.2.1, u136.2.2.2) [[], [65], [97, 98, 99, 100, 101, 102, 103, 104, 105], [97, 32, 98], [115, 116, 97, 114, 116]]) fun u180 =>
  k119 (u180.2.2.1) (u180.2.2.2) ((seti l105 u125.1 (u131.1, u180.1))) else k119 (u136.2.2.1) (u136.2.2.2) (l105))) else k119 (y100) (y101) (l105)))) (fun k108 => Option.bind (F_spec_l1Cur__one__mut__box (x0.1, y53, y54) 24) fun u191 =>
  (if u191.1 = true then F_spec_l1Cur__cues__mut__box_L2 x0 u191 k108 FU ([]) else k108 (u191.2.2.1) (u191.2.2.2) (u3.1) (l55))))) (fun k69 => Option.bind (F_spec_muCounts u3.1) fun u266 =>
  (if (decide (y58 < u266)) = true then k69 ((decide ((List.length l55 : Int) < (List.length [[115, 116, 97, 114, 116], [116, 117, 114, 110], [104, 97, 108, 116], [100, 114, 117, 109, 115], [98, 114, 97, 115, 115], [102, 108, 97, 103, 115], [101, 110, 100], [97], [97, 98, 99, 100, 101, 102, 103, 104]] : Int)))) else k69 (false)))
def F_spec_l1Cur__cues__mut__box (x0 : ((List Int) × Int × Int)) : Option ((List (Int × Int)) × (List (Int × (List UInt8))) × ((List Int) × Int × Int)) :=
  Option.bind (F_spec_l1Cur__anyMusic__mut__box x0) fun u3 =>
  Option.bind (F_spec_muGood u3.1) fun u13 =>
  (if (!u13) = true then some (u3.1, [(0, [115, 116, 97, 114, 116])], (x0.1, u3.2.2.1, u3.2.2.2)) else Option.bind (F_spec_muCounts u3.1) fun u36 =>
  Option.bind (F_spec_l1Cur__pick__mut__box (x0.1, u3.2.2.1, u3.2.2.2) (w64 (1 + (w64 (Int.tdiv u36 6))))) fun u44 =>
  F_spec_l1Cur__cues__mut__box_L1 x0 u36 u3 FU (u44.2.2.1) (u44.2.2.2) ([]) (u44.1))
def F_spec_DrawAreCues (x0 : (List Int)) : Option ((List (Int × Int)) × (List (Int × (List UInt8)))) :=
  Option.bind (F_spec_l1Cur__cues__mut__box (x0, 0, 0)) fun u9 =>
  some (u9.1, u9.2.1)
def F_spec_DrawTimetableText (x0 : (List Int)) : Option ((List (Int × Int)) × (List (Int × (List UInt8)))) :=
  Option.bind (F_spec_DrawAreCues x0) fun u3 =>
  some u3
def F_spec_l1Cur__countOf__mut__box (x0 : ((List Int) × Int × Int)) (x1 : (List (Int × Int))) : Option (Int × ((List Int) × Int × Int)) :=
  jK1 (fun (y7 : Int) => Option.bind (F_spec_l1Cur__pick__mut__box x0 y7) fun u11 =>
  Option.bind (F_spec_l1Cur__pick__mut__box (x0.1, u11.2.2.1, u11.2.2.2) y7) fun u17 =>
  Option.bind (F_spec_l1Cur__among__mut__box (x0.1, u17.2.2.1, u17.2.2.2) [(-1), (w64 (y7 + 1))]) fun u29 =>
  Option.bind (F_spec_l1Cur__among__mut__box (x0.1, u29.2.2.1, u29.2.2.2) [0, u11.1, u17.1, (w64 (y7 - 1)), y7, u29.1]) fun u41 =>
  some (u41.1, (x0.1, u41.2.2.1, u41.2.2.2))) (fun k8 => Option.bind (F_spec_muGood x1) fun u48 =>
  (if u48 = true then Option.bind (F_spec_muCounts x1) fun u55 =>
  k8 (u55) else k8 (1)))
def F_spec_DrawAddCue (x0 : (List Int)) : Option ((List (Int × Int)) × (List (Int × (List UInt8))) × (Int × (List UInt8))) :=
  Option.bind (F_spec_l1Cur__cues__mut__box (x0, 0, 0)) fun u14 =>
  Option.bind (F_spec_l1Cur__countOf__mut__box (x0, u14.2.2.2.1, u14.2.2.2.2) u14.1) fun u25 =>
  Option.bind (F_spec_l1Cur__of__mut__box (x0, u25.2.2.1, u25.2.2.2) [[110, 101, 119], [115, 116, 97, 114, 116], [122, 122], [], [97, 98, 99, 100, 101, 102, 103, 104]]) fun u37 =>
  some (u14.1, u14.2.1, (u25.1, u37.1))
def F_impl_AddCue_L1 (x1 : (List (Int × (List UInt8)))) (x2 : (Int × (List UInt8))) (x0 : (List (Int × Int))) : Nat → Int → Option ((List (Int × (List UInt8))) × Bool)
  | 0, _ => none
  | m + 1, y23 => jK1 (fun (y32 : Bool) => (if y32 = true then (F_impl_AddCue_L1 x1 x2 x0 m) ((w64 (y23 + 1))) else Option.bind (sl x1 0 y23) fun u43 =>
  Option.bind (app [] u43) fun u46 =>
  Option.bind (sl x1 y23 (List.length x1 : Int)) fun u59 =>
  Option.bind (app u46 [x2]) fun u74 =>
  Option.bind (app u74 u59) fun u83 =>
  Option.bind (F_impl_areCues x0 u83) fun u94 =>
  (if (!u94) = true then some ([], false) else some (u83, true)))) (fun k33 => (if (decide (y23 < (List.length x1 : Int))) = true then Option.bind (idx x1 y23) fun u110 =>
  k33 ((decide (u110.1 < x2.1))) else k33 (false)))
def F_impl_AddCue (x0 : (List (Int × Int))) (x1 : (List (Int × (List UInt8)))) (x2 : (Int × (List UInt8))) : Option ((List (Int × (List UInt8))) × Bool) :=
  Option.bind (F_impl_haveCues x0 x1) fun u9 =>
  (if (!u9) = true then some ([], false) else F_impl_AddCue_L1 x1 x2 x0 FU (0))
def F_spec_tiIf (x0 : (List (Int × Int))) (x1 : (List (Int × (List UInt8)))) : Option ((List (Int × (List UInt8))) × Bool) :=
  Option.bind (F_spec_tiCues x0 x1) fun u4 =>
  (if (!u4) = true then some ([], false) else Option.bind (app [] x1) fun u20 =>
  some (u20, true))
def F_spec_AddCue_L1 (x1 : (List (Int × (List UInt8)))) (x2 : (Int × (List UInt8))) (x0 : (List (Int × Int))) : Nat → Int → Option ((List (Int × (List UInt8))) × Bool)
  | 0, _ => none
  | m + 1, y23 => jK1 (fun (y32 : Bool) => (if y32 = true then (F_spec_AddCue_L1 x1 x2 x0 m) ((w64 (y23 + 1))) else jK2 (fun (l40 : (List (Int × (List UInt8)))) (y43 : Bool) => some (l40, y43)) (fun k44 => Option.bind (sl x1 0 y23) fun u51 =>
  Option.bind (sl x1 y23 (List.length x1 : Int)) fun u54 =>
  Option.bind (app [] u51) fun u67 =>
  Option.bind (app u67 [x2]) fun u86 =>
  Option.bind (app u86 u54) fun u95 =>
  Option.bind (F_spec_tiIf x0 u95) fun u104 =>
  k44 (u104.1) (u104.2)))) (fun k33 => (if (decide (y23 < (List.length x1 : Int))) = true then Option.bind (idx x1 y23) fun u224 =>
  k33 ((decide (u224.1 < x2.1))) else k33 (false)))
def F_spec_AddCue (x0 : (List (Int × Int))) (x1 : (List (Int × (List UInt8)))) (x2 : (Int × (List UInt8))) : Option ((List (Int × (List UInt8))) × Bool) :=
  Option.bind (F_spec_tiGood x0 x1) fun u9 =>
  (if (!u9) = true then some ([], false) else F_spec_AddCue_L1 x1 x2 x0 FU (0))
def F_spec_l1Least (x0 : Int) (x1 : Int) : Option Int :=
  (if (decide (x0 < x1)) = true then some x0 else some x1)
def F_spec_l1Most (x0 : Int) (x1 : Int) : Option Int :=
  (if (decide (x1 < x0)) = true then some x0 else some x1)
def F_spec_l1Cur__measureOf__mut__box (x0 : ((List Int) × Int × Int)) (x1 : (List (Int × Int))) : Option (Int × ((List Int) × Int × Int)) :=
  Option.bind (F_spec_l1Cur__pick__mut__box x0 16) fun u3 =>
  Option.bind (F_spec_l1Cur__pick__mut__box (x0.1, u3.2.2.1, u3.2.2.2) (w64 ((List.length x1 : Int) + (w64 (Int.tdiv u3.1 15))))) fun u9 =>
  Option.bind (F_spec_l1Cur__pick__mut__box (x0.1, u9.2.2.1, u9.2.2.2) 24) fun u15 =>
  some ((w64 (u9.1 - (w64 (Int.tdiv u15.1 23)))), (x0.1, u15.2.2.1, u15.2.2.2))
def F_spec_DrawCuesAfterRepeat (x0 : (List Int)) : Option ((List (Int × Int)) × (List (Int × (List UInt8))) × Int × Int × Int) :=
  Option.bind (F_spec_l1Cur__cues__mut__box (x0, 0, 0)) fun u9 =>
  Option.bind (F_spec_l1Cur__measureOf__mut__box (x0, u9.2.2.2.1, u9.2.2.2.2) u9.1) fun u20 =>
  Option.bind (F_spec_l1Cur__measureOf__mut__box (x0, u20.2.2.1, u20.2.2.2) u9.1) fun u26 =>
  Option.bind (F_spec_l1Cur__among__mut__box (x0, u26.2.2.1, u26.2.2.2) [0, 11]) fun u39 =>
  Option.bind (F_spec_l1Cur__among__mut__box (x0, u39.2.2.1, u39.2.2.2) [1, 2, 3, 10, u39.1]) fun u51 =>
  Option.bind (F_spec_l1Cur__one__mut__box (x0, u51.2.2.1, u51.2.2.2) 8) fun u59 =>
  (if u59.1 = true then some (u9.1, u9.2.1, u20.1, u26.1, u51.1) else Option.bind (F_spec_l1Least u20.1 u26.1) fun u68 =>
  Option.bind (F_spec_l1Most u20.1 u26.1) fun u74 =>
  some (u9.1, u9.2.1, u68, u74, u51.1))
def F_impl_RepeatMeasures_L1 (x3 : Int) (x0 : (List (Int × Int))) (x1 : Int) (x2 : Int) : Nat → (List (Int × Int)) → Int → Option ((List (Int × Int)) × Bool)
  | 0, _, _ => none
  | m + 1, l35, y38 => (if (decide (y38 < x3)) = true then Option.bind (sl x0 x1 (w64 (x2 + 1))) fun u46 =>
  Option.bind (app l35 u46) fun u49 =>
  (F_impl_RepeatMeasures_L1 x3 x0 x1 x2 m) (u49) ((w64 (y38 + 1))) else Option.bind (sl x0 (w64 (x2 + 1)) (List.length x0 : Int)) fun u57 =>
  Option.bind (app l35 u57) fun u60 =>
  Option.bind (F_impl_IsMusic u60) fun u69 =>
  (if (!u69) = true then some ([], false) else some (u60, true)))
def F_impl_RepeatMeasures (x0 : (List (Int × Int))) (x1 : Int) (x2 : Int) (x3 : Int) : Option ((List (Int × Int)) × Bool) :=
  jK1 (fun (y7 : Bool) => (if y7 = true then some ([], false) else Option.bind (sl x0 0 x1) fun u20 =>
  Option.bind (app [] u20) fun u23 =>
  F_impl_RepeatMeasures_L1 x3 x0 x1 x2 FU (u23) (0))) (fun k8 => Option.bind (F_impl_IsMusic x0) fun u79 =>
  (if (!u79) = true then k8 (true) else (if (decide (x1 < 0)) = true then k8 (true) else (if (decide (x2 < x1)) = true then k8 (true) else (if (decide ((List.length x0 : Int) ≤ x2)) = true then k8 (true) else Option.bind (F_impl_within x3 1 10) fun u89 =>
  k8 ((!u89)))))))
def F_impl_CuesAfterRepeat_L1 (x1 : (List (Int × (List UInt8)))) (u39 : Int) (x4 : Int) (u46 : Int) : Nat → (List (Int × (List UInt8))) → Int → Option ((List (Int × (List UInt8))) × Bool)
  | 0, _, _ => none
  | m + 1, l65, y68 => (if (decide (y68 < (List.length x1 : Int))) = true then Option.bind (idx x1 y68) fun u77 =>
  jK1 (fun (y93 : Int) => Option.bind (app l65 [(y93, u77.2)]) fun u102 =>
  (F_impl_CuesAfterRepeat_L1 x1 u39 x4 u46 m) (u102) ((w64 (y68 + 1)))) (fun k94 => (if (decide (u39 ≤ u77.1)) = true then k94 ((w64 (u77.1 + (w64 ((w64 (x4 - 1)) * u46))))) else k94 (u77.1))) else some (l65, true))
def F_impl_CuesAfterRepeat (x0 : (List (Int × Int))) (x1 : (List (Int × (List UInt8)))) (x2 : Int) (x3 : Int) (x4 : Int) : Option ((List (Int × (List UInt8))) × Bool) :=
  Option.bind (F_impl_haveCues x0 x1) fun u4 =>
  (if (!u4) = true then some ([], false) else Option.bind (F_impl_RepeatMeasures x0 x2 x3 x4) fun u15 =>
  (if (!u15.2) = true then some ([], false) else Option.bind (sl x0 0 (w64 (x3 + 1))) fun u33 =>
  Option.bind (sl x0 x2 (w64 (x3 + 1))) fun u36 =>
  Option.bind (F_impl_countsOf u33) fun u39 =>
  Option.bind (F_impl_countsOf u36) fun u46 =>
  F_impl_CuesAfterRepeat_L1 x1 u39 x4 u46 FU ([]) (0)))
def F_spec_muRange (x0 : (List (Int × Int))) (x1 : Int) (x2 : Int) : Option Bool :=
  jK1 (fun (y6 : Bool) => some y6) (fun k7 => Option.bind (F_spec_muGood x0) fun u9 =>
  (if u9 = true then Option.bind (F_spec_l1In x1 0 x2) fun u16 =>
  (if u16 = true then Option.bind (F_spec_l1In x2 x1 (w64 ((List.length x0 : Int) - 1))) fun u23 =>
  k7 (u23) else k7 (false)) else k7 (false)))
def F_spec_RepeatMeasures_L1 (x0 : (List (Int × Int))) (x1 : Int) (x2 : Int) : Nat → Int → (List (Int × Int)) → Option ((List (Int × Int)) × Bool)
  | 0, _, _ => none
  | m + 1, y34, l35 => (if (decide (0 < y34)) = true then Option.bind (sl x0 x1 (w64 (x2 + 1))) fun u45 =>
  Option.bind (app l35 u45) fun u48 =>
  (F_spec_RepeatMeasures_L1 x0 x1 x2 m) ((w64 (y34 - 1))) (u48) else Option.bind (sl x0 (w64 (x2 + 1)) (List.length x0 : Int)) fun u56 =>
  Option.bind (app l35 u56) fun u59 =>
  Option.bind (F_spec_muGood u59) fun u68 =>
  (if (!u68) = true then some ([], false) else some (u59, true)))
def F_spec_RepeatMeasures (x0 : (List (Int × Int))) (x1 : Int) (x2 : Int) (x3 : Int) : Option ((List (Int × Int)) × Bool) :=
  jK1 (fun (y7 : Bool) => (if y7 = true then some ([], false) else Option.bind (sl x0 0 x1) fun u20 =>
  Option.bind (app [] u20) fun u23 =>
  F_spec_RepeatMeasures_L1 x0 x1 x2 FU (x3) (u23))) (fun k8 => Option.bind (F_spec_muRange x0 x1 x2) fun u78 =>
  (if (!u78) = true then k8 (true) else Option.bind (F_spec_l1In x3 1 10) fun u85 =>
  k8 ((!u85))))
def F_spec_CuesAfterRepeat_L1 (u57 : (List (Int × (List UInt8)))) (u44 : Int) (u28 : Int) (u34 : Int) : Nat → (List (Int × (List UInt8))) → Int → Option ((List (Int × (List UInt8))) × Bool)
  | 0, _, _ => none
  | m + 1, l69, y72 => (if (decide (y72 < (List.length u57 : Int))) = true then jK1 (fun (l83 : (List (Int × (List UInt8)))) => (F_spec_CuesAfterRepeat_L1 u57 u44 u28 u34 m) (l83) ((w64 (y72 + 1)))) (fun k86 => Option.bind (idx l69 y72) fun u90 =>
  (if (decide (u44 ≤ u90.1)) = true then Option.bind (idx l69 y72) fun u95 =>
  Option.bind (idx l69 y72) fun u99 =>
  k86 ((seti l69 y72 ((w64 (u95.1 + (w64 (u28 - u34)))), u99.2))) else k86 (l69))) else some (l69, true))
def F_spec_CuesAfterRepeat (x0 : (List (Int × Int))) (x1 : (List (Int × (List UInt8)))) (x2 : Int) (x3 : Int) (x4 : Int) : Option ((List (Int × (List UInt8))) × Bool) :=
  Option.bind (F_spec_tiGood x0 x1) fun u4 =>
  (if (!u4) = true then some ([], false) else Option.bind (F_spec_RepeatMeasures x0 x2 x3 x4) fun u14 =>
  (if (!u14.2) = true then some ([], false) else Option.bind (F_spec_muCounts u14.1) fun u28 =>
  Option.bind (F_spec_muCounts x0) fun u34 =>
  Option.bind (sl x0 0 (w64 (x3 + 1))) fun u41 =>
  Option.bind (F_spec_muCounts u41) fun u44 =>
  Option.bind (app [] x1) fun u57 =>
  F_spec_CuesAfterRepeat_L1 u57 u44 u28 u34 FU (u57) (0)))
def F_spec_l1Cur__showTime__mut__box (x0 : ((List Int) × Int × Int)) : Option (Int × ((List Int) × Int × Int)) :=
  Option.bind (F_spec_l1Cur__pick__mut__box x0 30000) fun u3 =>
  Option.bind (F_spec_l1Cur__pick__mut__box (x0.1, u3.2.2.1, u3.2.2.2) 30000) fun u9 =>
  Option.bind (F_spec_l1Cur__among__mut__box (x0.1, u9.2.2.1, u9.2.2.2) [1000001, (-1)]) fun u21 =>
  Option.bind (F_spec_l1Cur__among__mut__box (x0.1, u21.2.2.1, u21.2.2.2) [0, 500, 2000, u3.1, u9.1, 59999, 60000, 1000000, u21.1]) fun u33 =>
  some (u33.1, (x0.1, u33.2.2.1, u33.2.2.2))
def F_spec_DrawTimeText (x0 : (List Int)) : Option Int :=
  Option.bind (F_spec_l1Cur__showTime__mut__box (x0, 0, 0)) fun u9 =>
  some u9.1
def F_impl_isTime (x0 : Int) : Option Bool :=
  Option.bind (F_impl_within x0 0 1000000) fun u3 =>
  some u3
def F_impl_TimeText (x0 : Int) : Option ((List UInt8) × Bool) :=
  Option.bind (F_impl_isTime x0) fun u4 =>
  (if (!u4) = true then some ([], false) else Option.bind (F_impl_timeText x0) fun u13 =>
  some (u13, true))
def F_spec_tiTime (x0 : Int) : Option Bool :=
  Option.bind (F_spec_l1In x0 0 1000000) fun u3 =>
  some u3
def F_spec_TimeText (x0 : Int) : Option ((List UInt8) × Bool) :=
  Option.bind (F_spec_tiTime x0) fun u4 =>
  (if (!u4) = true then some ([], false) else Option.bind (F_spec_tiText x0) fun u13 =>
  some (u13, true))
def F_impl_AreCues (x0 : (List (Int × Int))) (x1 : (List (Int × (List UInt8)))) : Option (Bool × Bool) :=
  Option.bind (F_impl_IsMusic x0) fun u4 =>
  (if (!u4) = true then some (false, false) else Option.bind (F_impl_areCues x0 x1) fun u13 =>
  some (u13, true))
def F_spec_AreCues (x0 : (List (Int × Int))) (x1 : (List (Int × (List UInt8)))) : Option (Bool × Bool) :=
  Option.bind (F_spec_muGood x0) fun u4 =>
  (if (!u4) = true then some (false, false) else Option.bind (F_spec_tiCues x0 x1) fun u13 =>
  some (u13, true))
def F_laws_qCues_L1 (x0 : (List (Int × (List UInt8)))) (x1 : (List (Int × (List UInt8)))) : Nat → Int → Option Bool
  | 0, _ => none
  | m + 1, y11 => (if (decide (y11 < (List.length x0 : Int))) = true then Option.bind (idx x0 y11) fun u26 =>
  Option.bind (idx x1 y11) fun u29 =>
  (if (!(eqv_Cue u26 u29)) = true then some false else (F_laws_qCues_L1 x0 x1 m) ((w64 (y11 + 1)))) else some true)
def F_laws_qCues (x0 : (List (Int × (List UInt8)))) (x1 : (List (Int × (List UInt8)))) : Option Bool :=
  (if ((List.length x0 : Int) != (List.length x1 : Int)) = true then some false else F_laws_qCues_L1 x0 x1 FU (0))
def F_impl_NextCue_L1 (x1 : (List (Int × (List UInt8)))) (x2 : Int) : Nat → Int → Option (Int × Bool)
  | 0, _ => none
  | m + 1, y17 => (if (decide (y17 < (List.length x1 : Int))) = true then Option.bind (idx x1 y17) fun u26 =>
  (if (decide (x2 ≤ u26.1)) = true then some (y17, true) else (F_impl_NextCue_L1 x1 x2 m) ((w64 (y17 + 1)))) else some (0, false))
def F_impl_NextCue (x0 : (List (Int × Int))) (x1 : (List (Int × (List UInt8)))) (x2 : Int) : Option (Int × Bool) :=
  jK1 (fun (y7 : Bool) => (if y7 = true then some (0, false) else F_impl_NextCue_L1 x1 x2 FU (0))) (fun k8 => Option.bind (F_impl_haveCues x0 x1) fun u42 =>
  (if (!u42) = true then k8 (true) else Option.bind (F_impl_countsOf x0) fun u49 =>
  Option.bind (F_impl_within x2 0 (w64 (u49 - 1))) fun u55 =>
  k8 ((!u55))))
def F_spec_muHas (x0 : (List (Int × Int))) (x1 : Int) : Option Bool :=
  jK1 (fun (y6 : Bool) => some y6) (fun k7 => Option.bind (F_spec_muGood x0) fun u9 =>
  (if u9 = true then Option.bind (F_spec_muCounts x0) fun u16 =>
  Option.bind (F_spec_l1In x1 0 (w64 (u16 - 1))) fun u22 =>
  k7 (u22) else k7 (false)))
def F_spec_NextCue_L1 (x1 : (List (Int × (List UInt8)))) (x2 : Int) : Nat → Int → Option (Int × Bool)
  | 0, _ => none
  | m + 1, y17 => (if (decide (y17 < (List.length x1 : Int))) = true then Option.bind (idx x1 y17) fun u26 =>
  (if (decide (x2 ≤ u26.1)) = true then some (y17, true) else (F_spec_NextCue_L1 x1 x2 m) ((w64 (y17 + 1)))) else some (0, false))
def F_spec_NextCue (x0 : (List (Int × Int))) (x1 : (List (Int × (List UInt8)))) (x2 : Int) : Option (Int × Bool) :=
  jK1 (fun (y7 : Bool) => (if y7 = true then some (0, false) else F_spec_NextCue_L1 x1 x2 FU (0))) (fun k8 => Option.bind (F_spec_tiGood x0 x1) fun u42 =>
  (if (!u42) = true then k8 (true) else Option.bind (F_spec_muHas x0 x2) fun u49 =>
  k8 ((!u49))))
def F_laws_qMusic_L1 (x0 : (List (Int × Int))) (x1 : (List (Int × Int))) : Nat → Int → Option Bool
  | 0, _ => none
  | m + 1, y11 => (if (decide (y11 < (List.length x0 : Int))) = true then Option.bind (idx x0 y11) fun u26 =>
  Option.bind (idx x1 y11) fun u29 =>
  (if (!(eqv_Measure u26 u29)) = true then some false else (F_laws_qMusic_L1 x0 x1 m) ((w64 (y11 + 1)))) else some true)
def F_laws_qMusic (x0 : (List (Int × Int))) (x1 : (List (Int × Int))) : Option Bool :=
  (if ((List.length x0 : Int) != (List.length x1 : Int)) = true then some false else F_laws_qMusic_L1 x0 x1 FU (0))
def F_laws_FnCueTexts_L2 (u25 : ((List UInt8) × Bool)) (u7 : ((List (Int × Int)) × (List (Int × (List UInt8))))) : Nat → Int → Int → Option Bool
  | 0, _, _ => none
  | m + 1, y187, y188 => (if (decide (y188 < (List.length u25.1 : Int))) = true then jK1 (fun (y199 : Int) => (F_laws_FnCueTexts_L2 u25 u7 m) (y199) ((w64 (y188 + 1)))) (fun k200 => Option.bind (idx u25.1 y188) fun u203 =>
  (if ((UInt8.toNat u203 : Int) == 10) = true then k200 ((w64 (y187 + 1))) else k200 (y187))) else some (y187 == (List.length u7.2 : Int)))
def F_laws_FnCueTexts_L1 (u91 : ((List (Int × (List UInt8))) × Bool)) (u71 : ((List (Int × Int)) × (List (Int × (List UInt8))) × Int × Int × Int)) (k175 : (Option Bool)) : Nat → Int → Option Bool
  | 0, _ => none
  | m + 1, y247 => (if (decide (y247 < (List.length u91.1 : Int))) = true then Option.bind (idx u91.1 y247) fun u256 =>
  jK1 (fun (y273 : Bool) => (if y273 = true then some false else (F_laws_FnCueTexts_L1 u91 u71 k175 m) ((w64 (y247 + 1))))) (fun k274 => Option.bind (idx u71.2.1 y247) fun u283 =>
  (if (u256.2 != u283.2) = true then k274 (true) else Option.bind (idx u71.2.1 y247) fun u288 =>
  k274 ((decide (u256.1 < u288.1))))) else k175)
def F_laws_FnCueTexts (x0 : (List Int)) (x1 : (List Int)) : Option Bool :=
  (if (decide (1048576 < (w64 ((List.length x0 : Int) + (List.length x1 : Int))))) = true then some true else Option.bind (F_spec_DrawTimetableText x0) fun u7 =>
  Option.bind (F_impl_TimetableText u7.1 u7.2) fun u18 =>
  Option.bind (F_spec_TimetableText u7.1 u7.2) fun u25 =>
  Option.bind (F_spec_DrawAddCue x1) fun u32 =>
  Option.bind (F_impl_AddCue u32.1 u32.2.1 u32.2.2) fun u52 =>
  Option.bind (F_spec_AddCue u32.1 u32.2.1 u32.2.2) fun u61 =>
  Option.bind (F_spec_DrawCuesAfterRepeat x1) fun u71 =>
  Option.bind (F_impl_CuesAfterRepeat u71.1 u71.2.1 u71.2.2.1 u71.2.2.2.1 u71.2.2.2.2) fun u82 =>
  Option.bind (F_spec_CuesAfterRepeat u71.1 u71.2.1 u71.2.2.1 u71.2.2.2.1 u71.2.2.2.2) fun u91 =>
  Option.bind (F_spec_DrawTimeText x1) fun u100 =>
  Option.bind (F_impl_TimeText u100) fun u107 =>
  Option.bind (F_spec_TimeText u100) fun u114 =>
  Option.bind (F_spec_DrawAreCues x1) fun u121 =>
  Option.bind (F_impl_AreCues u121.1 u121.2) fun u132 =>
  Option.bind (F_spec_AreCues u121.1 u121.2) fun u139 =>
  jK1 (fun (y150 : Bool) => (if y150 = true then some false else jK1 (fun (y160 : Bool) => (if y160 = true then some false else jK0 (jK0 ((if (!u18.2) = true then some true else F_laws_FnCueTexts_L2 u25 u7 FU (0) (0))) (fun k175 => (if u82.2 = true then Option.bind (F_impl_RepeatMeasures u71.1 u71.2.2.1 u71.2.2.2.1 u71.2.2.2.2) fun u209 =>
  Option.bind (F_spec_RepeatMeasures u71.1 u71.2.2.1 u71.2.2.2.1 u71.2.2.2.2) fun u218 =>
  Option.bind (F_impl_AreCues u209.1 u82.1) fun u227 =>
  jK1 (fun (y238 : Bool) => (if y238 = true then some false else F_laws_FnCueTexts_L1 u91 u71 k175 FU (0))) (fun k239 => (if (!u209.2) = true then k239 (true) else (if (!u218.2) = true then k239 (true) else Option.bind (F_laws_qMusic u209.1 u218.1) fun u294 =>
  (if (!u294) = true then k239 (true) else (if (!u227.2) = true then k239 (true) else (if (!u227.1) = true then k239 (true) else k239 (((List.length u91.1 : Int) != (List.length u71.2.1 : Int))))))))) else k175))) (fun k169 => (if u52.2 = true then Option.bind (F_impl_AreCues u32.1 u52.1) fun u306 =>
  Option.bind (F_impl_NextCue u32.1 u52.1 u32.2.2.1) fun u313 =>
  Option.bind (F_spec_NextCue u32.1 u61.1 u32.2.2.1) fun u320 =>
  jK1 (fun (y330 : Bool) => (if y330 = true then some false else k169)) (fun k331 => (if (!u306.2) = true then k331 (true) else (if (!u306.1) = true then k331 (true) else (if (!u313.2) = true then k331 (true) else (if (!u320.2) = true then k331 (true) else (if (u313.1 != u320.1) = true then k331 (true) else Option.bind (idx u61.1 u320.1) fun u345 =>
  (if (!(eqv_Cue u345 u32.2.2)) = true then k331 (true) else k331 (((List.length u61.1 : Int) != (w64 ((List.length u32.2.1 : Int) + 1))))))))))) else k169)))) (fun k161 => (if u107.2 = true then k161 ((decide ((List.length u114.1 : Int) < 8))) else k161 (false))))) (fun k151 => (if (u18.2 != u25.2) = true then k151 (true) else (if (u18.1 != u25.1) = true then k151 (true) else (if (u52.2 != u61.2) = true then k151 (true) else Option.bind (F_laws_qCues u52.1 u61.1) fun u354 =>
  (if (!u354) = true then k151 (true) else (if (u82.2 != u91.2) = true then k151 (true) else Option.bind (F_laws_qCues u82.1 u91.1) fun u362 =>
  (if (!u362) = true then k151 (true) else (if (u107.2 != u114.2) = true then k151 (true) else (if (u107.1 != u114.1) = true then k151 (true) else (if (u132.2 != u139.2) = true then k151 (true) else k151 ((u132.1 != u139.1)))))))))))))
end Go.Proofs.YtejhnpimhjmpdaaDoor
