/-
  THE FUNCTIONS of this seat as plain functions, by program (gen.py).
-/
import Derived.Test.YtmkignciedkidaaCore0
set_option linter.unusedSimpArgs false
set_option linter.unusedVariables false
set_option maxRecDepth 100000
set_option maxHeartbeats 1600000
namespace Go.Proofs.Ytmkignciedkidaa
open Go
def eqv_Cue (x y : (Int × (List UInt8))) : Bool := (x.1 == y.1) && (x.2 == y.2)
def eqv_Spot (x y : (Int × Int)) : Bool := (x.1 == y.1) && (x.2 == y.2)
def eqv_Move (x y : ((Int × Int) × (Int × Int) × Int)) : Bool := (x.1.1 == y.1.1) && (x.1.2 == y.1.2) && (x.2.1.1 == y.2.1.1) && (x.2.1.2 == y.2.1.2) && (x.2.2 == y.2.2)
def eqv_Row (x y : (Int × (Int × Int))) : Bool := (x.1 == y.1) && (x.2.1 == y.2.1) && (x.2.2 == y.2.2)
def F_spec_l1In (x0 : Int) (x1 : Int) (x2 : Int) : Option Bool :=
  jK1 (fun (y6 : Bool) => some y6) (fun k7 => (if (decide (x1 ≤ x0)) = true then k7 ((decide (x0 ≤ x2))) else k7 (false)))
def F_spec_muMeasure (x0 : (Int × Int)) : Option Bool :=
  jK1 (fun (y11 : Bool) => some y11) (fun k12 => Option.bind (F_spec_l1In x0.1 1 12) fun u14 =>
  (if u14 = true then Option.bind (F_spec_l1In x0.2 40 220) fun u21 =>
  k12 (u21) else k12 (false)))
def F_spec_muGood_L1 (x0 : (List (Int × Int))) : Nat → Int → Option Bool
  | 0, _ => none
  | m + 1, y7 => (if (decide (y7 < (List.length x0 : Int))) = true then Option.bind (idx x0 y7) fun u16 =>
  Option.bind (F_spec_muMeasure u16) fun u29 =>
  (if (!u29) = true then some false else (F_spec_muGood_L1 x0 m) ((w64 (y7 + 1)))) else Option.bind (F_spec_l1In (List.length x0 : Int) 1 40) fun u38 =>
  some u38)
def F_spec_muGood (x0 : (List (Int × Int))) : Option Bool :=
  F_spec_muGood_L1 x0 FU (0)
def F_spec_muCounts_L1 (x0 : (List (Int × Int))) : Nat → Int → Int → Option Int
  | 0, _, _ => none
  | m + 1, y8, y9 => (if (decide (y9 < (List.length x0 : Int))) = true then Option.bind (idx x0 y9) fun u18 =>
  (F_spec_muCounts_L1 x0 m) ((w64 (y8 + u18.1))) ((w64 (y9 + 1))) else some y8)
def F_spec_muCounts (x0 : (List (Int × Int))) : Option Int :=
  F_spec_muCounts_L1 x0 FU (0) (0)
def F_spec_l1Cur__next__mut__box (x0 : ((List Int) × Int × Int)) : Option (Int × ((List Int) × Int × Int)) :=
  jK1 (fun (y7 : Int) => (if (decide ((w64 (x0.2.1 + 1)) ≤ (List.length x0.1 : Int))) = true then some (y7, (x0.1, (w64 (x0.2.1 + 1)), (wu64 ((wu64 ((wu64 (x0.2.2 * 6364136223846793005)) + (wu64 y7))) + 1442695040888963407)))) else some ((w64 (andK .u64 (shrK .u64 (wu64 ((wu64 ((wu64 (x0.2.2 * 6364136223846793005)) + (wu64 y7))) + 1442695040888963407)) 40) 255)), (x0.1, (w64 (x0.2.1 + 1)), (wu64 ((wu64 ((wu64 (x0.2.2 * 6364136223846793005)) + (wu64 y7))) + 1442695040888963407)))))) (fun k8 => (if (decide (x0.2.1 < (List.length x0.1 : Int))) = true then Option.bind (idx x0.1 x0.2.1) fun u42 =>
  k8 ((w64 u42)) else k8 (0)))
def F_spec_l1Cur__pick__mut__box (x0 : ((List Int) × Int × Int)) (x1 : Int) : Option (Int × ((List Int) × Int × Int)) :=
  (if (decide (x1 ≤ 1)) = true then some (0, x0) else Option.bind (F_spec_l1Cur__next__mut__box x0) fun u7 =>
  jK3 (fun (y17 : Int) (y18 : Int) (y19 : Int) => (if x1 = 0 then none else some ((Int.tmod y19 x1), (x0.1, y17, y18)))) (fun k20 => (if (decide (200 < x1)) = true then Option.bind (F_spec_l1Cur__next__mut__box (x0.1, u7.2.2.1, u7.2.2.2)) fun u26 =>
  k20 (u26.2.2.1) (u26.2.2.2) ((w64 ((w64 (u7.1 * 256)) + u26.1))) else k20 (u7.2.2.1) (u7.2.2.2) (u7.1))))
def F_spec_l1Cur__one__mut__box (x0 : ((List Int) × Int × Int)) (x1 : Int) : Option (Bool × ((List Int) × Int × Int)) :=
  Option.bind (F_spec_l1Cur__pick__mut__box x0 x1) fun u3 =>
  some ((u3.1 == 0), (x0.1, u3.2.2.1, u3.2.2.2))
def F_spec_l1Cur__among__mut__box (x0 : ((List Int) × Int × Int)) (x1 : (List Int)) : Option (Int × ((List Int) × Int × Int)) :=
  Option.bind (F_spec_l1Cur__pick__mut__box x0 (List.length x1 : Int)) fun u3 =>
  Option.bind (idx x1 u3.1) fun u9 =>
  some (u9, (x0.1, u3.2.2.1, u3.2.2.2))
def F_spec_l1Cur__music__mut__box_L1 (y16 : Int) (x0 : ((List Int) × Int × Int)) : Nat → Int → Int → (List (Int × Int)) → Int → Option ((List (Int × Int)) × ((List Int) × Int × Int))
  | 0, _, _, _, _ => none
  | m + 1, y42, y43, l44, y47 => (if (decide ((List.length l44 : Int) < y16)) = true then jK3 (fun (y59 : Int) (y60 : Int) (y61 : Int) => Option.bind (F_spec_l1Cur__among__mut__box (x0.1, y59, y60) [4, 4, 3, 6, 1, 12]) fun u70 =>
  Option.bind (app l44 [(u70.1, y61)]) fun u82 =>
  (F_spec_l1Cur__music__mut__box_L1 y16 x0 m) (u70.2.2.1) (u70.2.2.2) (u82) (y61)) (fun k62 => Option.bind (F_spec_l1Cur__one__mut__box (x0.1, y42, y43) 4) fun u90 =>
  (if u90.1 = true then Option.bind (F_spec_l1Cur__pick__mut__box (x0.1, u90.2.2.1, u90.2.2.2) 181) fun u97 =>
  Option.bind (F_spec_l1Cur__among__mut__box (x0.1, u97.2.2.1, u97.2.2.2) [40, 90, 220, (w64 (40 + u97.1))]) fun u109 =>
  k62 (u109.2.2.1) (u109.2.2.2) (u109.1) else k62 (u90.2.2.1) (u90.2.2.2) (y47))) else some (l44, (x0.1, y42, y43)))
def F_spec_l1Cur__music__mut__box (x0 : ((List Int) × Int × Int)) : Option ((List (Int × Int)) × ((List Int) × Int × Int)) :=
  Option.bind (F_spec_l1Cur__pick__mut__box x0 6) fun u4 =>
  jK3 (fun (y14 : Int) (y15 : Int) (y16 : Int) => Option.bind (F_spec_l1Cur__pick__mut__box (x0.1, y14, y15) 181) fun u20 =>
  Option.bind (F_spec_l1Cur__among__mut__box (x0.1, u20.2.2.1, u20.2.2.2) [60, 96, 120, 140, (w64 (40 + u20.1))]) fun u32 =>
  F_spec_l1Cur__music__mut__box_L1 y16 x0 FU (u32.2.2.1) (u32.2.2.2) ([]) (u32.1)) (fun k17 => Option.bind (F_spec_l1Cur__one__mut__box (x0.1, u4.2.2.1, u4.2.2.2) 16) fun u117 =>
  (if u117.1 = true then k17 (u117.2.2.1) (u117.2.2.2) (40) else k17 (u117.2.2.1) (u117.2.2.2) ((w64 (1 + u4.1)))))
def F_spec_l1Cur__anyMusic__mut__box_L1 (u80 : (Int × ((List Int) × Int × Int))) (k31 : (Int → Int → (List (Int × Int)) → Option ((List (Int × Int)) × ((List Int) × Int × Int)))) : Nat → (List (Int × Int)) → Option ((List (Int × Int)) × ((List Int) × Int × Int))
  | 0, _ => none
  | m + 1, l89 => (if (decide ((List.length l89 : Int) < (w64 (40 + u80.1)))) = true then Option.bind (app l89 [(4, 120)]) fun u104 =>
  (F_spec_l1Cur__anyMusic__mut__box_L1 u80 k31 m) (u104) else k31 (u80.2.2.1) (u80.2.2.2) (l89))
def F_spec_l1Cur__anyMusic__mut__box (x0 : ((List Int) × Int × Int)) : Option ((List (Int × Int)) × ((List Int) × Int × Int)) :=
  Option.bind (F_spec_l1Cur__music__mut__box x0) fun u3 =>
  Option.bind (F_spec_l1Cur__pick__mut__box (x0.1, u3.2.2.1, u3.2.2.2) (List.length u3.1 : Int)) fun u12 =>
  Option.bind (idx u3.1 u12.1) fun u18 =>
  jK3 (fun (y26 : Int) (y27 : Int) (l28 : (List (Int × Int))) => some (l28, (x0.1, y26, y27))) (fun k31 => Option.bind (F_spec_l1Cur__pick__mut__box (x0.1, u12.2.2.1, u12.2.2.2) 30) fun u35 =>
  (if (u35.1 == 0) = true then Option.bind (F_spec_l1Cur__among__mut__box (x0.1, u35.2.2.1, u35.2.2.2) [0, 12, 13]) fun u49 =>
  k31 (u49.2.2.1) (u49.2.2.2) ((seti u3.1 u12.1 (u49.1, u18.2))) else (if (u35.1 == 1) = true then Option.bind (F_spec_l1Cur__among__mut__box (x0.1, u35.2.2.1, u35.2.2.2) [39, 40, 220, 221]) fun u67 =>
  k31 (u67.2.2.1) (u67.2.2.2) ((seti u3.1 u12.1 (u18.1, u67.1))) else (if (u35.1 == 2) = true then Option.bind (F_spec_l1Cur__pick__mut__box (x0.1, u35.2.2.1, u35.2.2.2) 2) fun u80 =>
  F_spec_l1Cur__anyMusic__mut__box_L1 u80 k31 FU (u3.1) else (if (u35.1 == 3) = true then some ([], (x0.1, u35.2.2.1, u35.2.2.2)) else k31 (u35.2.2.1) (u35.2.2.2) (u3.1))))))
def F_spec_l1Cur__of__mut__box (x0 : ((List Int) × Int × Int)) (x1 : (List (List UInt8))) : Option ((List UInt8) × ((List Int) × Int × Int)) :=
  Option.bind (F_spec_l1Cur__pick__mut__box x0 (List.length x1 : Int)) fun u3 =>
  Option.bind (idx x1 u3.1) fun u9 =>
  some (u9, (x0.1, u3.2.2.1, u3.2.2.2))
def F_spec_l1Cur__cues__mut__box_L3 (u228 : (Int × ((List Int) × Int × Int))) (k108 : (Int → Int → (List (Int × Int)) → (List (Int × (List UInt8))) → Option ((List (Int × Int)) × (List (Int × (List UInt8))) × ((List Int) × Int × Int)))) (l203 : (List (Int × Int))) : Nat → (List (Int × (List UInt8))) → Option ((List (Int × Int)) × (List (Int × (List UInt8))) × ((List Int) × Int × Int))
  | 0, _ => none
  | m + 1, l237 => (if (decide ((List.length l237 : Int) < (w64 (30 + u228.1)))) = true then Option.bind (app l237 [((List.length l237 : Int), (bytesOf [(wu8 (w64 (97 + (w64 (Int.tdiv (List.length l237 : Int) 26))))), (wu8 (w64 (97 + (Int.tmod (List.length l237 : Int) 26))))]))]) fun u259 =>
  (F_spec_l1Cur__cues__mut__box_L3 u228 k108 l203 m) (u259) else k108 (u228.2.2.1) (u228.2.2.2) (l203) (l237))
def F_spec_l1Cur__cues__mut__box_L2 (x0 : ((List Int) × Int × Int)) (u191 : (Bool × ((List Int) × Int × Int))) (k108 : (Int → Int → (List (Int × Int)) → (List (Int × (List UInt8))) → Option ((List (Int × Int)) × (List (Int × (List UInt8))) × ((List Int) × Int × Int)))) : Nat → (List (Int × Int)) → Option ((List (Int × Int)) × (List (Int × (List UInt8))) × ((List Int) × Int × Int))
  | 0, _ => none
  | m + 1, l203 => (if (decide ((List.length l203 : Int) < 10)) = true then Option.bind (app l203 [(4, 120)]) fun u219 =>
  (F_spec_l1Cur__cues__mut__box_L2 x0 u191 k108 m) (u219) else Option.bind (F_spec_l1Cur__pick__mut__box (x0.1, u191.2.2.1, u191.2.2.2) 2) fun u228 =>
  F_spec_l1Cur__cues__mut__box_L3 u228 k108 l203 FU ([]))
def F_spec_l1Cur__cues__mut__box_L1 (x0 : ((List Int) × Int × Int)) (u36 : Int) (u3 : ((List (Int × Int)) × ((List Int) × Int × Int))) : Nat → Int → Int → (List (Int × (List UInt8))) → Int → Option ((List (Int × Int)) × (List (Int × (List UInt8))) × ((List Int) × Int × Int))
  | 0, _, _, _, _ => none
  | m + 1, y53, y54, l55, y58 => jK1 (fun (y68 : Bool) => (if y68 = true then Option.bind (idx [[115, 116, 97, 114, 116], [116, 117, 114, 110], [104, 97, 108, 116], [100, 114, 117, 109, 115], [98, 114, 97, 115, 115], [102, 108, 97, 103, 115], [101, 110, 100], [97], [97, 98, 99, 100, 101, 102, 103, 104]] (List.length l55 : Int)) fun u73 =>
  Option.bind (app l55 [(y58, u73)]) fun u83 =>
  Option.bind (F_spec_l1Cur__pick__mut__box (x0.1, y53, y54) (w64 (1 + (w64 (Int.tdiv u36 6))))) fun u90 =>
  (F_spec_l1Cur__cues__mut__box_L1 x0 u36 u3 m) (u90.2.2.1) (u90.2.2.2) (u83) ((w64 (y58 + (w64 (1 + u90.1))))) else jK4 (fun (y100 : Int) (y101 : Int) (l102 : (List (Int × Int))) (l105 : (List (Int × (List UInt8)))) => jK3 (fun (y114 : Int) (y115 : Int) (l116 : (List (Int × (List UInt8)))) => some (l102, l116, (x0.1, y114, y115))) (fun k119 => (if (decide (0 < (List.length l105 : Int))) = true then Option.bind (F_spec_l1Cur__pick__mut__box (x0.1, y100, y101) (List.length l105 : Int)) fun u125 =>
  Option.bind (idx l105 u125.1) fun u131 =>
  Option.bind (F_spec_l1Cur__pick__mut__box (x0.1, u125.2.2.1, u125.2.2.2) 24) fun u136 =>
  (if (u136.1 == 0) = true then Option.bind (F_spec_muCounts l102) fun u144 =>
  Option.bind (F_spec_muCounts l102) fun u150 =>
  Option.bind (F_spec_l1Cur__among__mut__box (x0.1, u136.2.2.1, u136.2.2.2) [(-1), (w64 (u144 - 1)), u150]) fun u162 =>
  k119 (u162.2.2.1) (u162.2.2.2) ((seti l105 u125.1 (u162.1, u131.2))) else (if (u136.1 == 1) = true then Option.bind (F_spec_l1Cur__of__mut__box (x0.1, u136.2.2.1, u136.2.2.2) [[], [65], [97, 98, 99, 100, 101, 102, 103, 104, 105], [97, 32, 98], [115, 116, 97, 114, 116]]) fun u180 =>
  k119 (u180.2.2.1) (u180.2.2.2) ((seti l105 u125.1 (u131.1, u180.1))) else k119 (u136.2.2.1) (u136.2.2.2) (l105))) else k119 (y100) (y101) (l105)))) (fun k108 => Option.bind (F_spec_l1Cur__one__mut__box (x0.1, y53, y54) 24) fun u191 =>
  (if u191.1 = true then F_spec_l1Cur__cues__mut__box_L2 x0 u191 k108 FU ([]) else k108 (u191.2.2.1) (u191.2.2.2) (u3.1) (l55))))) (fun k69 => Option.bind (F_spec_muCounts u3.1) fun u266 =>
  (if (decide (y58 < u266)) = true then k69 ((decide ((List.length l55 : Int) < (List.length [[115, 116, 97, 114, 116], [116, 117, 114, 110], [104, 97, 108, 116], [100, 114, 117, 109, 115], [98, 114, 97, 115, 115], [102, 108, 97, 103, 115], [101, 110, 100], [97], [97, 98, 99, 100, 101, 102, 103, 104]] : Int)))) else k69 (false)))
def F_spec_l1Cur__cues__mut__box (x0 : ((List Int) × Int × Int)) : Option ((List (Int × Int)) × (List (Int × (List UInt8))) × ((List Int) × Int × Int)) :=
  Option.bind (F_spec_l1Cur__anyMusic__mut__box x0) fun u3 =>
  Option.bind (F_spec_muGood u3.1) fun u13 =>
  (if (!u13) = true then some (u3.1, [(0, [115, 116, 97, 114, 116])], (x0.1, u3.2.2.1, u3.2.2.2)) else Option.bind (F_spec_muCounts u3.1) fun u36 =>
  Option.bind (F_spec_l1Cur__pick__mut__box (x0.1, u3.2.2.1, u3.2.2.2) (w64 (1 + (w64 (Int.tdiv u36 6))))) fun u44 =>
  F_spec_l1Cur__cues__mut__box_L1 x0 u36 u3 FU (u44.2.2.1) (u44.2.2.2) ([]) (u44.1))
def F_spec_DrawAreCues (x0 : (List Int)) : Option ((List (Int × Int)) × (List (Int × (List UInt8)))) :=
  Option.bind (F_spec_l1Cur__cues__mut__box (x0, 0, 0)) fun u9 =>
  some (u9.1, u9.2.1)
def F_spec_DrawLongestGap (x0 : (List Int)) : Option ((List (Int × Int)) × (List (Int × (List UInt8)))) :=
  Option.bind (F_spec_DrawAreCues x0) fun u3 =>
  some u3
def F_impl_within (x0 : Int) (x1 : Int) (x2 : Int) : Option Bool :=
  jK1 (fun (y6 : Bool) => some y6) (fun k7 => (if (decide (x1 ≤ x0)) = true then k7 ((decide (x0 ≤ x2))) else k7 (false)))
def F_impl_IsMusic_L1 (x0 : (List (Int × Int))) : Nat → Int → Option Bool
  | 0, _ => none
  | m + 1, y7 => (if (decide (y7 < (List.length x0 : Int))) = true then Option.bind (idx x0 y7) fun u16 =>
  jK1 (fun (y32 : Bool) => (if y32 = true then some false else (F_impl_IsMusic_L1 x0 m) ((w64 (y7 + 1))))) (fun k33 => Option.bind (F_impl_within u16.1 1 12) fun u37 =>
  (if (!u37) = true then k33 (true) else Option.bind (F_impl_within u16.2 40 220) fun u44 =>
  k33 ((!u44)))) else Option.bind (F_impl_within (List.length x0 : Int) 1 40) fun u51 =>
  some u51)
def F_impl_IsMusic (x0 : (List (Int × Int))) : Option Bool :=
  F_impl_IsMusic_L1 x0 FU (0)
def F_impl_countsOf_L1 (x0 : (List (Int × Int))) : Nat → Int → Int → Option Int
  | 0, _, _ => none
  | m + 1, y8, y9 => (if (decide (y9 < (List.length x0 : Int))) = true then Option.bind (idx x0 y9) fun u18 =>
  (F_impl_countsOf_L1 x0 m) ((w64 (y8 + u18.1))) ((w64 (y9 + 1))) else some y8)
def F_impl_countsOf (x0 : (List (Int × Int))) : Option Int :=
  F_impl_countsOf_L1 x0 FU (0) (0)
def F_impl_isName_L1 (x0 : (List UInt8)) : Nat → Int → Option Bool
  | 0, _ => none
  | m + 1, y7 => (if (decide (y7 < (List.length x0 : Int))) = true then jK1 (fun (y19 : Bool) => (if y19 = true then some false else (F_impl_isName_L1 x0 m) ((w64 (y7 + 1))))) (fun k20 => Option.bind (idx x0 y7) fun u24 =>
  (if (decide ((UInt8.toNat u24 : Int) < 97)) = true then k20 (true) else Option.bind (idx x0 y7) fun u26 =>
  k20 ((decide (122 < (UInt8.toNat u26 : Int)))))) else Option.bind (F_impl_within (List.length x0 : Int) 1 12) fun u28 =>
  some u28)
def F_impl_isName (x0 : (List UInt8)) : Option Bool :=
  F_impl_isName_L1 x0 FU (0)
def F_impl_areCues_1 (x0 : (Int × (List UInt8))) (y1 : (Int × (List UInt8))) : Option Bool :=
  some (x0.2 == y1.2)
def F_slices_IndexFunc_impl_Cue_impl_Cue__impl_areCues_1_L1 (x0 : (List (Int × (List UInt8)))) (y1_0 : (Int × (List UInt8))) : Nat → Int → Option Int
  | 0, _ => none
  | m + 1, y7 => (if (decide (y7 < (List.length x0 : Int))) = true then Option.bind (idx x0 y7) fun u17 =>
  Option.bind (F_impl_areCues_1 u17 y1_0) fun u20 =>
  (if u20 = true then some y7 else (F_slices_IndexFunc_impl_Cue_impl_Cue__impl_areCues_1_L1 x0 y1_0 m) ((w64 (y7 + 1)))) else some (-1))
def F_slices_IndexFunc_impl_Cue_impl_Cue__impl_areCues_1 (x0 : (List (Int × (List UInt8)))) (y1_0 : (Int × (List UInt8))) : Option Int :=
  F_slices_IndexFunc_impl_Cue_impl_Cue__impl_areCues_1_L1 x0 y1_0 FU (0)
def F_slices_ContainsFunc_impl_Cue_impl_Cue__impl_areCues_1 (x0 : (List (Int × (List UInt8)))) (y1_0 : (Int × (List UInt8))) : Option Bool :=
  Option.bind (F_slices_IndexFunc_impl_Cue_impl_Cue__impl_areCues_1 x0 y1_0) fun u3 =>
  some (decide (0 ≤ u3))
def F_impl_areCues_L1 (x1 : (List (Int × (List UInt8)))) (u7 : Int) : Nat → Int → Option Bool
  | 0, _ => none
  | m + 1, y18 => (if (decide (y18 < (List.length x1 : Int))) = true then Option.bind (idx x1 y18) fun u27 =>
  jK1 (fun (y44 : Bool) => (if y44 = true then some false else Option.bind (sl x1 0 y18) fun u50 =>
  Option.bind (F_slices_ContainsFunc_impl_Cue_impl_Cue__impl_areCues_1 u50 u27) fun u53 =>
  (if u53 = true then some false else (F_impl_areCues_L1 x1 u7 m) ((w64 (y18 + 1)))))) (fun k45 => Option.bind (F_impl_within u27.1 0 (w64 (u7 - 1))) fun u66 =>
  (if (!u66) = true then k45 (true) else (if (decide (8 < (List.length u27.2 : Int))) = true then k45 (true) else Option.bind (F_impl_isName u27.2) fun u75 =>
  (if (!u75) = true then k45 (true) else (if (decide (0 < y18)) = true then Option.bind (idx x1 (w64 (y18 - 1))) fun u84 =>
  k45 ((decide (u27.1 ≤ u84.1))) else k45 (false)))))) else some true)
def F_impl_areCues (x0 : (List (Int × Int))) (x1 : (List (Int × (List UInt8)))) : Option Bool :=
  (if (decide (30 < (List.length x1 : Int))) = true then some false else Option.bind (F_impl_countsOf x0) fun u7 =>
  F_impl_areCues_L1 x1 u7 FU (0))
def F_impl_haveCues (x0 : (List (Int × Int))) (x1 : (List (Int × (List UInt8)))) : Option Bool :=
  jK1 (fun (y6 : Bool) => some y6) (fun k7 => Option.bind (F_impl_IsMusic x0) fun u9 =>
  (if u9 = true then Option.bind (F_impl_areCues x0 x1) fun u16 =>
  k7 (u16) else k7 (false)))
def F_impl_timeOf_L1 (x0 : (List (Int × Int))) : Nat → Int → Int → Int → Option Int
  | 0, _, _, _ => none
  | m + 1, y8, y9, y10 => (if (decide (y10 < (List.length x0 : Int))) = true then Option.bind (idx x0 y10) fun u19 =>
  (if (decide (y8 < u19.1)) = true then (if u19.2 = 0 then none else some (w64 (y9 + (w64 (Int.tdiv (w64 (60000 * y8)) u19.2))))) else (if u19.2 = 0 then none else (F_impl_timeOf_L1 x0 m) ((w64 (y8 - u19.1))) ((w64 (y9 + (w64 (Int.tdiv (w64 (60000 * u19.1)) u19.2))))) ((w64 (y10 + 1))))) else some y9)
def F_impl_timeOf (x0 : (List (Int × Int))) (x1 : Int) : Option Int :=
  F_impl_timeOf_L1 x0 FU (x1) (0) (0)
def F_impl_cueTimes_L1 (x1 : (List (Int × (List UInt8)))) (x0 : (List (Int × Int))) : Nat → (List Int) → Int → Option (List Int)
  | 0, _, _ => none
  | m + 1, l14, y17 => (if (decide (y17 < (List.length x1 : Int))) = true then Option.bind (idx x1 y17) fun u26 =>
  Option.bind (F_impl_timeOf x0 u26.1) fun u38 =>
  Option.bind (app l14 [u38]) fun u50 =>
  (F_impl_cueTimes_L1 x1 x0 m) (u50) ((w64 (y17 + 1))) else some l14)
def F_impl_cueTimes (x0 : (List (Int × Int))) (x1 : (List (Int × (List UInt8)))) : Option (List Int) :=
  F_impl_cueTimes_L1 x1 x0 FU ([]) (0)
def F_impl_LongestGap_L1 (x1 : (List (Int × (List UInt8)))) (u39 : (List Int)) : Nat → Int → Int → Option (Int × Int × Bool)
  | 0, _, _ => none
  | m + 1, y52, y53 => (if (decide (y53 < (List.length x1 : Int))) = true then jK1 (fun (y64 : Int) => (F_impl_LongestGap_L1 x1 u39 m) (y64) ((w64 (y53 + 1)))) (fun k65 => Option.bind (idx u39 (w64 (y53 + 1))) fun u74 =>
  Option.bind (idx u39 y53) fun u78 =>
  Option.bind (idx u39 (w64 (y52 + 1))) fun u82 =>
  Option.bind (idx u39 y52) fun u86 =>
  (if (decide ((w64 (u82 - u86)) < (w64 (u74 - u78)))) = true then k65 (y53) else k65 (y52))) else Option.bind (idx u39 (w64 (y52 + 1))) fun u97 =>
  Option.bind (idx u39 y52) fun u101 =>
  some (y52, (w64 (u97 - u101)), true))
def F_impl_LongestGap (x0 : (List (Int × Int))) (x1 : (List (Int × (List UInt8)))) : Option (Int × Int × Bool) :=
  jK1 (fun (y7 : Bool) => (if y7 = true then some (0, 0, false) else Option.bind (F_impl_cueTimes x0 x1) fun u13 =>
  Option.bind (F_impl_countsOf x0) fun u21 =>
  Option.bind (F_impl_timeOf x0 u21) fun u27 =>
  Option.bind (app u13 [u27]) fun u39 =>
  F_impl_LongestGap_L1 x1 u39 FU (0) (0))) (fun k8 => Option.bind (F_impl_haveCues x0 x1) fun u105 =>
  (if (!u105) = true then k8 (true) else k8 (((List.length x1 : Int) == 0))))
def F_spec_tiName_L1 (x0 : (List UInt8)) : Nat → Int → Option Bool
  | 0, _ => none
  | m + 1, y7 => (if (decide (y7 < (List.length x0 : Int))) = true then jK1 (fun (y19 : Bool) => (if y19 = true then some false else (F_spec_tiName_L1 x0 m) ((w64 (y7 + 1))))) (fun k20 => Option.bind (idx x0 y7) fun u24 =>
  (if (decide ((UInt8.toNat u24 : Int) < 97)) = true then k20 (true) else Option.bind (idx x0 y7) fun u26 =>
  k20 ((decide (122 < (UInt8.toNat u26 : Int)))))) else Option.bind (F_spec_l1In (List.length x0 : Int) 1 8) fun u28 =>
  some u28)
def F_spec_tiName (x0 : (List UInt8)) : Option Bool :=
  F_spec_tiName_L1 x0 FU (0)
def F_spec_tiCues_L2 (u39 : (List (Int × (List UInt8)))) (u16 : (Int × (List UInt8))) (nx8 : (Int → Option Bool)) (y7 : Int) : Nat → Int → Option Bool
  | 0, _ => none
  | m + 1, y45 => (if (decide (y45 < (List.length u39 : Int))) = true then Option.bind (idx u39 y45) fun u54 =>
  (if (u54.2 == u16.2) = true then some false else (F_spec_tiCues_L2 u39 u16 nx8 y7 m) ((w64 (y45 + 1)))) else nx8 ((w64 (y7 + 1))))
def F_spec_tiCues_L1 (x1 : (List (Int × (List UInt8)))) (x0 : (List (Int × Int))) : Nat → Int → Option Bool
  | 0, _ => none
  | m + 1, y7 => (if (decide (y7 < (List.length x1 : Int))) = true then Option.bind (idx x1 y7) fun u16 =>
  jK1 (fun (y33 : Bool) => (if y33 = true then some false else Option.bind (sl x1 0 y7) fun u39 =>
  F_spec_tiCues_L2 u39 u16 (F_spec_tiCues_L1 x1 x0 m) y7 FU (0))) (fun k34 => Option.bind (F_spec_muCounts x0) fun u74 =>
  Option.bind (F_spec_l1In u16.1 0 (w64 (u74 - 1))) fun u81 =>
  (if (!u81) = true then k34 (true) else Option.bind (F_spec_tiName u16.2) fun u89 =>
  (if (!u89) = true then k34 (true) else (if (decide (0 < y7)) = true then Option.bind (idx x1 (w64 (y7 - 1))) fun u98 =>
  k34 ((decide (u16.1 ≤ u98.1))) else k34 (false))))) else some (decide ((List.length x1 : Int) ≤ 30)))
def F_spec_tiCues (x0 : (List (Int × Int))) (x1 : (List (Int × (List UInt8)))) : Option Bool :=
  F_spec_tiCues_L1 x1 x0 FU (0)
def F_spec_tiGood (x0 : (List (Int × Int))) (x1 : (List (Int × (List UInt8)))) : Option Bool :=
  jK1 (fun (y6 : Bool) => some y6) (fun k7 => Option.bind (F_spec_muGood x0) fun u9 =>
  (if u9 = true then Option.bind (F_spec_tiCues x0 x1) fun u16 =>
  k7 (u16) else k7 (false)))
def F_spec_muLasts (x0 : Int) (x1 : Int) : Option Int :=
  (if x1 = 0 then none else some (w64 (Int.tdiv (w64 (60000 * x0)) x1)))
def F_spec_muTime_L1 (x0 : (List (Int × Int))) : Nat → Int → Int → Int → Option Int
  | 0, _, _, _ => none
  | m + 1, y8, y9, y10 => (if (decide (y10 < (List.length x0 : Int))) = true then Option.bind (idx x0 y10) fun u19 =>
  (if (decide (y8 < u19.1)) = true then Option.bind (F_spec_muLasts y8 u19.2) fun u35 =>
  some (w64 (y9 + u35)) else Option.bind (F_spec_muLasts u19.1 u19.2) fun u42 =>
  (F_spec_muTime_L1 x0 m) ((w64 (y8 - u19.1))) ((w64 (y9 + u42))) ((w64 (y10 + 1)))) else some y9)
def F_spec_muTime (x0 : (List (Int × Int))) (x1 : Int) : Option Int :=
  F_spec_muTime_L1 x0 FU (x1) (0) (0)
def F_spec_tiTimes_L1 (x1 : (List (Int × (List UInt8)))) (x0 : (List (Int × Int))) : Nat → (List Int) → Int → Option (List Int)
  | 0, _, _ => none
  | m + 1, l8, y11 => (if (decide (y11 < (List.length x1 : Int))) = true then Option.bind (idx x1 y11) fun u21 =>
  Option.bind (F_spec_muTime x0 u21.1) fun u33 =>
  Option.bind (app l8 [u33]) fun u45 =>
  (F_spec_tiTimes_L1 x1 x0 m) (u45) ((w64 (y11 + 1))) else some l8)
def F_spec_tiTimes (x0 : (List (Int × Int))) (x1 : (List (Int × (List UInt8)))) : Option (List Int) :=
  F_spec_tiTimes_L1 x1 x0 FU ([]) (0)
def F_spec_LongestGap_L1 (x1 : (List (Int × (List UInt8)))) (u39 : (List Int)) : Nat → Int → Int → Option (Int × Int × Bool)
  | 0, _, _ => none
  | m + 1, y52, y53 => (if (decide (y53 < (List.length x1 : Int))) = true then jK1 (fun (y64 : Int) => (F_spec_LongestGap_L1 x1 u39 m) (y64) ((w64 (y53 + 1)))) (fun k65 => Option.bind (idx u39 (w64 (y53 + 1))) fun u74 =>
  Option.bind (idx u39 y53) fun u78 =>
  Option.bind (idx u39 (w64 (y52 + 1))) fun u82 =>
  Option.bind (idx u39 y52) fun u86 =>
  (if (decide ((w64 (u82 - u86)) < (w64 (u74 - u78)))) = true then k65 (y53) else k65 (y52))) else Option.bind (idx u39 (w64 (y52 + 1))) fun u97 =>
  Option.bind (idx u39 y52) fun u101 =>
  some (y52, (w64 (u97 - u101)), true))
def F_spec_LongestGap (x0 : (List (Int × Int))) (x1 : (List (Int × (List UInt8)))) : Option (Int × Int × Bool) :=
  jK1 (fun (y7 : Bool) => (if y7 = true then some (0, 0, false) else Option.bind (F_spec_tiTimes x0 x1) fun u13 =>
  Option.bind (F_spec_muCounts x0) fun u21 =>
  Option.bind (F_spec_muTime x0 u21) fun u27 =>
  Option.bind (app u13 [u27]) fun u39 =>
  F_spec_LongestGap_L1 x1 u39 FU (0) (0))) (fun k8 => Option.bind (F_spec_tiGood x0 x1) fun u105 =>
  (if (!u105) = true then k8 (true) else k8 (((List.length x1 : Int) == 0))))
def F_impl_CueTimes (x0 : (List (Int × Int))) (x1 : (List (Int × (List UInt8)))) : Option ((List Int) × Bool) :=
  Option.bind (F_impl_haveCues x0 x1) fun u4 =>
  (if (!u4) = true then some ([], false) else Option.bind (F_impl_cueTimes x0 x1) fun u14 =>
  some (u14, true))
def F_spec_CueTimes (x0 : (List (Int × Int))) (x1 : (List (Int × (List UInt8)))) : Option ((List Int) × Bool) :=
  Option.bind (F_spec_tiGood x0 x1) fun u4 =>
  (if (!u4) = true then some ([], false) else Option.bind (F_spec_tiTimes x0 x1) fun u14 =>
  some (u14, true))
def F_spec_l1Cur__countOf__mut__box (x0 : ((List Int) × Int × Int)) (x1 : (List (Int × Int))) : Option (Int × ((List Int) × Int × Int)) :=
  jK1 (fun (y7 : Int) => Option.bind (F_spec_l1Cur__pick__mut__box x0 y7) fun u11 =>
  Option.bind (F_spec_l1Cur__pick__mut__box (x0.1, u11.2.2.1, u11.2.2.2) y7) fun u17 =>
  Option.bind (F_spec_l1Cur__among__mut__box (x0.1, u17.2.2.1, u17.2.2.2) [(-1), (w64 (y7 + 1))]) fun u29 =>
  Option.bind (F_spec_l1Cur__among__mut__box (x0.1, u29.2.2.1, u29.2.2.2) [0, u11.1, u17.1, (w64 (y7 - 1)), y7, u29.1]) fun u41 =>
  some (u41.1, (x0.1, u41.2.2.1, u41.2.2.2))) (fun k8 => Option.bind (F_spec_muGood x1) fun u48 =>
  (if u48 = true then Option.bind (F_spec_muCounts x1) fun u55 =>
  k8 (u55) else k8 (1)))
def F_spec_DrawNextCue (x0 : (List Int)) : Option ((List (Int × Int)) × (List (Int × (List UInt8))) × Int) :=
  Option.bind (F_spec_l1Cur__cues__mut__box (x0, 0, 0)) fun u9 =>
  Option.bind (F_spec_l1Cur__countOf__mut__box (x0, u9.2.2.2.1, u9.2.2.2.2) u9.1) fun u20 =>
  some (u9.1, u9.2.1, u20.1)
def F_impl_NextCue_L1 (x1 : (List (Int × (List UInt8)))) (x2 : Int) : Nat → Int → Option (Int × Bool)
  | 0, _ => none
  | m + 1, y17 => (if (decide (y17 < (List.length x1 : Int))) = true then Option.bind (idx x1 y17) fun u26 =>
  (if (decide (x2 ≤ u26.1)) = true then some (y17, true) else (F_impl_NextCue_L1 x1 x2 m) ((w64 (y17 + 1)))) else some (0, false))
def F_impl_NextCue (x0 : (List (Int × Int))) (x1 : (List (Int × (List UInt8)))) (x2 : Int) : Option (Int × Bool) :=
  jK1 (fun (y7 : Bool) => (if y7 = true then some (0, false) else F_impl_NextCue_L1 x1 x2 FU (0))) (fun k8 => Option.bind (F_impl_haveCues x0 x1) fun u42 =>
  (if (!u42) = true then k8 (true) else Option.bind (F_impl_countsOf x0) fun u49 =>
  Option.bind (F_impl_within x2 0 (w64 (u49 - 1))) fun u55 =>
  k8 ((!u55))))
def F_spec_muHas (x0 : (List (Int × Int))) (x1 : Int) : Option Bool :=
  jK1 (fun (y6 : Bool) => some y6) (fun k7 => Option.bind (F_spec_muGood x0) fun u9 =>
  (if u9 = true then Option.bind (F_spec_muCounts x0) fun u16 =>
  Option.bind (F_spec_l1In x1 0 (w64 (u16 - 1))) fun u22 =>
  k7 (u22) else k7 (false)))
def F_spec_NextCue_L1 (x1 : (List (Int × (List UInt8)))) (x2 : Int) : Nat → Int → Option (Int × Bool)
  | 0, _ => none
  | m + 1, y17 => (if (decide (y17 < (List.length x1 : Int))) = true then Option.bind (idx x1 y17) fun u26 =>
  (if (decide (x2 ≤ u26.1)) = true then some (y17, true) else (F_spec_NextCue_L1 x1 x2 m) ((w64 (y17 + 1)))) else some (0, false))
def F_spec_NextCue (x0 : (List (Int × Int))) (x1 : (List (Int × (List UInt8)))) (x2 : Int) : Option (Int × Bool) :=
  jK1 (fun (y7 : Bool) => (if y7 = true then some (0, false) else F_spec_NextCue_L1 x1 x2 FU (0))) (fun k8 => Option.bind (F_spec_tiGood x0 x1) fun u42 =>
  (if (!u42) = true then k8 (true) else Option.bind (F_spec_muHas x0 x2) fun u49 =>
  k8 ((!u49))))
def F_spec_l1Most (x0 : Int) (x1 : Int) : Option Int :=
  (if (decide (x1 < x0)) = true then some x0 else some x1)
def F_spec_l1Cur__showTime__mut__box (x0 : ((List Int) × Int × Int)) : Option (Int × ((List Int) × Int × Int)) :=
  Option.bind (F_spec_l1Cur__pick__mut__box x0 30000) fun u3 =>
  Option.bind (F_spec_l1Cur__pick__mut__box (x0.1, u3.2.2.1, u3.2.2.2) 30000) fun u9 =>
  Option.bind (F_spec_l1Cur__among__mut__box (x0.1, u9.2.2.1, u9.2.2.2) [1000001, (-1)]) fun u21 =>
  Option.bind (F_spec_l1Cur__among__mut__box (x0.1, u21.2.2.1, u21.2.2.2) [0, 500, 2000, u3.1, u9.1, 59999, 60000, 1000000, u21.1]) fun u33 =>
  some (u33.1, (x0.1, u33.2.2.1, u33.2.2.2))
def F_spec_DrawLastCueAt (x0 : (List Int)) : Option ((List (Int × Int)) × (List (Int × (List UInt8))) × Int) :=
  Option.bind (F_spec_l1Cur__cues__mut__box (x0, 0, 0)) fun u9 =>
  jK3 (fun (y24 : Int) (y25 : Int) (y26 : Bool) => (if y26 = true then Option.bind (F_spec_l1Cur__pick__mut__box (x0, y24, y25) (List.length u9.2.1 : Int)) fun u31 =>
  Option.bind (idx u9.2.1 u31.1) fun u37 =>
  Option.bind (F_spec_muTime u9.1 u37.1) fun u41 =>
  Option.bind (F_spec_l1Cur__pick__mut__box (x0, u31.2.2.1, u31.2.2.2) 3) fun u47 =>
  Option.bind (F_spec_l1Most 0 (w64 ((w64 (u41 + u47.1)) - 1))) fun u53 =>
  some (u9.1, u9.2.1, u53) else Option.bind (F_spec_l1Cur__showTime__mut__box (x0, y24, y25)) fun u60 =>
  some (u9.1, u9.2.1, u60.1))) (fun k27 => Option.bind (F_spec_tiGood u9.1 u9.2.1) fun u66 =>
  (if u66 = true then (if (decide (0 < (List.length u9.2.1 : Int))) = true then Option.bind (F_spec_l1Cur__one__mut__box (x0, u9.2.2.2.1, u9.2.2.2.2) 2) fun u74 =>
  k27 (u74.2.2.1) (u74.2.2.2) (u74.1) else k27 (u9.2.2.2.1) (u9.2.2.2.2) (false)) else k27 (u9.2.2.2.1) (u9.2.2.2.2) (false)))
def F_impl_isTime (x0 : Int) : Option Bool :=
  Option.bind (F_impl_within x0 0 1000000) fun u3 =>
  some u3
def F_impl_LastCueAt_L1 (u15 : (List Int)) (x2 : Int) : Nat → Int → Int → Option (Int × Bool)
  | 0, _, _ => none
  | m + 1, y26, y27 => (if (decide (y27 < (List.length u15 : Int))) = true then jK1 (fun (y38 : Int) => (F_impl_LastCueAt_L1 u15 x2 m) (y38) ((w64 (y27 + 1)))) (fun k39 => Option.bind (idx u15 y27) fun u42 =>
  (if (decide (u42 ≤ x2)) = true then k39 (y27) else k39 (y26))) else (if (decide (y26 < 0)) = true then some (0, false) else some (y26, true)))
def F_impl_LastCueAt (x0 : (List (Int × Int))) (x1 : (List (Int × (List UInt8)))) (x2 : Int) : Option (Int × Bool) :=
  jK1 (fun (y7 : Bool) => (if y7 = true then some (0, false) else Option.bind (F_impl_cueTimes x0 x1) fun u15 =>
  F_impl_LastCueAt_L1 u15 x2 FU ((-1)) (0))) (fun k8 => Option.bind (F_impl_haveCues x0 x1) fun u53 =>
  (if (!u53) = true then k8 (true) else Option.bind (F_impl_isTime x2) fun u60 =>
  k8 ((!u60))))
def F_spec_tiTime (x0 : Int) : Option Bool :=
  Option.bind (F_spec_l1In x0 0 1000000) fun u3 =>
  some u3
def F_spec_LastCueAt_L1 (u15 : (List Int)) (x2 : Int) : Nat → Int → Int → Option (Int × Bool)
  | 0, _, _ => none
  | m + 1, y26, y27 => (if (decide (y27 < (List.length u15 : Int))) = true then jK1 (fun (y38 : Int) => (F_spec_LastCueAt_L1 u15 x2 m) (y38) ((w64 (y27 + 1)))) (fun k39 => Option.bind (idx u15 y27) fun u42 =>
  (if (decide (u42 ≤ x2)) = true then k39 (y27) else k39 (y26))) else (if (decide (y26 < 0)) = true then some (0, false) else some (y26, true)))
def F_spec_LastCueAt (x0 : (List (Int × Int))) (x1 : (List (Int × (List UInt8)))) (x2 : Int) : Option (Int × Bool) :=
  jK1 (fun (y7 : Bool) => (if y7 = true then some (0, false) else Option.bind (F_spec_tiTimes x0 x1) fun u15 =>
  F_spec_LastCueAt_L1 u15 x2 FU ((-1)) (0))) (fun k8 => Option.bind (F_spec_tiGood x0 x1) fun u53 =>
  (if (!u53) = true then k8 (true) else Option.bind (F_spec_tiTime x2) fun u60 =>
  k8 ((!u60))))
def F_spec_DrawCuesBetween (x0 : (List Int)) : Option ((List (Int × Int)) × (List (Int × (List UInt8))) × Int × Int) :=
  Option.bind (F_spec_l1Cur__cues__mut__box (x0, 0, 0)) fun u9 =>
  Option.bind (F_spec_l1Cur__showTime__mut__box (x0, u9.2.2.2.1, u9.2.2.2.2)) fun u20 =>
  Option.bind (F_spec_l1Cur__showTime__mut__box (x0, u20.2.2.1, u20.2.2.2)) fun u27 =>
  Option.bind (F_spec_l1Cur__among__mut__box (x0, u27.2.2.1, u27.2.2.2) [u20.1, (w64 (u20.1 + 5000)), 1000000, u27.1]) fun u39 =>
  some (u9.1, u9.2.1, u20.1, u39.1)
def F_impl_CuesBetween_L1 (u22 : (List Int)) (x2 : Int) (x3 : Int) : Nat → (List Int) → Int → Option ((List Int) × Bool)
  | 0, _, _ => none
  | m + 1, l33, y36 => (if (decide (y36 < (List.length u22 : Int))) = true then jK1 (fun (l47 : (List Int)) => (F_impl_CuesBetween_L1 u22 x2 x3 m) (l47) ((w64 (y36 + 1)))) (fun k50 => Option.bind (idx u22 y36) fun u53 =>
  jK1 (fun (y61 : Bool) => (if y61 = true then Option.bind (app l33 [y36]) fun u71 =>
  k50 (u71) else k50 (l33))) (fun k62 => (if (decide (x2 ≤ u53)) = true then k62 ((decide (u53 < x3))) else k62 (false)))) else some (l33, true))
def F_impl_CuesBetween (x0 : (List (Int × Int))) (x1 : (List (Int × (List UInt8)))) (x2 : Int) (x3 : Int) : Option ((List Int) × Bool) :=
  jK1 (fun (y7 : Bool) => (if y7 = true then some ([], false) else Option.bind (F_impl_cueTimes x0 x1) fun u22 =>
  F_impl_CuesBetween_L1 u22 x2 x3 FU ([]) (0))) (fun k8 => Option.bind (F_impl_haveCues x0 x1) fun u80 =>
  (if (!u80) = true then k8 (true) else Option.bind (F_impl_isTime x2) fun u87 =>
  (if (!u87) = true then k8 (true) else Option.bind (F_impl_isTime x3) fun u94 =>
  k8 ((!u94)))))
def F_spec_CuesBetween_L1 (u16 : (List Int)) (x2 : Int) (x3 : Int) : Nat → (List Int) → Int → Option ((List Int) × Bool)
  | 0, _, _ => none
  | m + 1, l27, y30 => (if (decide (y30 < (List.length u16 : Int))) = true then jK1 (fun (l42 : (List Int)) => (F_spec_CuesBetween_L1 u16 x2 x3 m) (l42) ((w64 (y30 + 1)))) (fun k45 => Option.bind (idx u16 y30) fun u48 =>
  jK1 (fun (y56 : Bool) => (if y56 = true then Option.bind (app l27 [y30]) fun u66 =>
  k45 (u66) else k45 (l27))) (fun k57 => (if (decide (x2 ≤ u48)) = true then k57 ((decide (u48 < x3))) else k57 (false)))) else some (l27, true))
def F_spec_CuesBetween (x0 : (List (Int × Int))) (x1 : (List (Int × (List UInt8)))) (x2 : Int) (x3 : Int) : Option ((List Int) × Bool) :=
  jK1 (fun (y7 : Bool) => (if y7 = true then some ([], false) else Option.bind (F_spec_tiTimes x0 x1) fun u16 =>
  F_spec_CuesBetween_L1 u16 x2 x3 FU ([]) (0))) (fun k8 => Option.bind (F_spec_tiGood x0 x1) fun u75 =>
  (if (!u75) = true then k8 (true) else Option.bind (F_spec_tiTime x2) fun u82 =>
  (if (!u82) = true then k8 (true) else Option.bind (F_spec_tiTime x3) fun u89 =>
  k8 ((!u89)))))
def F_spec_DrawShiftCues (x0 : (List Int)) : Option ((List (Int × Int)) × (List (Int × (List UInt8))) × Int) :=
  Option.bind (F_spec_l1Cur__cues__mut__box (x0, 0, 0)) fun u9 =>
  Option.bind (F_spec_l1Cur__among__mut__box (x0, u9.2.2.2.1, u9.2.2.2.2) [501, (-501)]) fun u26 =>
  Option.bind (F_spec_l1Cur__among__mut__box (x0, u26.2.2.1, u26.2.2.2) [0, 1, (-1), 3, (-4), 500, (-500), u26.1]) fun u38 =>
  some (u9.1, u9.2.1, u38.1)
def F_impl_ShiftCues_L1 (x1 : (List (Int × (List UInt8)))) (x2 : Int) (x0 : (List (Int × Int))) : Nat → (List (Int × (List UInt8))) → Int → Option ((List (Int × (List UInt8))) × Bool)
  | 0, _, _ => none
  | m + 1, l25, y28 => (if (decide (y28 < (List.length x1 : Int))) = true then Option.bind (idx x1 y28) fun u37 =>
  Option.bind (app l25 [((w64 (u37.1 + x2)), u37.2)]) fun u55 =>
  (F_impl_ShiftCues_L1 x1 x2 x0 m) (u55) ((w64 (y28 + 1))) else Option.bind (F_impl_areCues x0 l25) fun u64 =>
  (if (!u64) = true then some ([], false) else some (l25, true)))
def F_impl_ShiftCues (x0 : (List (Int × Int))) (x1 : (List (Int × (List UInt8)))) (x2 : Int) : Option ((List (Int × (List UInt8))) × Bool) :=
  jK1 (fun (y7 : Bool) => (if y7 = true then some ([], false) else F_impl_ShiftCues_L1 x1 x2 x0 FU ([]) (0))) (fun k8 => Option.bind (F_impl_haveCues x0 x1) fun u74 =>
  (if (!u74) = true then k8 (true) else Option.bind (F_impl_within x2 (-500) 500) fun u81 =>
  k8 ((!u81))))
def F_spec_tiIf (x0 : (List (Int × Int))) (x1 : (List (Int × (List UInt8)))) : Option ((List (Int × (List UInt8))) × Bool) :=
  Option.bind (F_spec_tiCues x0 x1) fun u4 =>
  (if (!u4) = true then some ([], false) else Option.bind (app [] x1) fun u20 =>
  some (u20, true))
def F_spec_ShiftCues_L1 (u20 : (List (Int × (List UInt8)))) (x2 : Int) (x0 : (List (Int × Int))) : Nat → (List (Int × (List UInt8))) → Int → Option ((List (Int × (List UInt8))) × Bool)
  | 0, _, _ => none
  | m + 1, l32, y35 => (if (decide (y35 < (List.length u20 : Int))) = true then Option.bind (idx l32 y35) fun u44 =>
  Option.bind (idx l32 y35) fun u48 =>
  (F_spec_ShiftCues_L1 u20 x2 x0 m) ((seti l32 y35 ((w64 (u44.1 + x2)), u48.2))) ((w64 (y35 + 1))) else Option.bind (F_spec_tiIf x0 l32) fun u57 =>
  some u57)
def F_spec_ShiftCues (x0 : (List (Int × Int))) (x1 : (List (Int × (List UInt8)))) (x2 : Int) : Option ((List (Int × (List UInt8))) × Bool) :=
  jK1 (fun (y7 : Bool) => (if y7 = true then some ([], false) else Option.bind (app [] x1) fun u20 =>
  F_spec_ShiftCues_L1 u20 x2 x0 FU (u20) (0))) (fun k8 => Option.bind (F_spec_tiGood x0 x1) fun u65 =>
  (if (!u65) = true then k8 (true) else Option.bind (F_spec_l1In x2 (-500) 500) fun u72 =>
  k8 ((!u72))))
def F_laws_qInts_L1 (x0 : (List Int)) (x1 : (List Int)) : Nat → Int → Option Bool
  | 0, _ => none
  | m + 1, y11 => (if (decide (y11 < (List.length x0 : Int))) = true then Option.bind (idx x0 y11) fun u26 =>
  Option.bind (idx x1 y11) fun u29 =>
  (if (u26 != u29) = true then some false else (F_laws_qInts_L1 x0 x1 m) ((w64 (y11 + 1)))) else some true)
def F_laws_qInts (x0 : (List Int)) (x1 : (List Int)) : Option Bool :=
  (if ((List.length x0 : Int) != (List.length x1 : Int)) = true then some false else F_laws_qInts_L1 x0 x1 FU (0))
def F_laws_qCues_L1 (x0 : (List (Int × (List UInt8)))) (x1 : (List (Int × (List UInt8)))) : Nat → Int → Option Bool
  | 0, _ => none
  | m + 1, y11 => (if (decide (y11 < (List.length x0 : Int))) = true then Option.bind (idx x0 y11) fun u26 =>
  Option.bind (idx x1 y11) fun u29 =>
  (if (!(eqv_Cue u26 u29)) = true then some false else (F_laws_qCues_L1 x0 x1 m) ((w64 (y11 + 1)))) else some true)
def F_laws_qCues (x0 : (List (Int × (List UInt8)))) (x1 : (List (Int × (List UInt8)))) : Option Bool :=
  (if ((List.length x0 : Int) != (List.length x1 : Int)) = true then some false else F_laws_qCues_L1 x0 x1 FU (0))
def F_laws_qHas_L1 (x0 : (List Int)) (x1 : Int) : Nat → Int → Option Bool
  | 0, _ => none
  | m + 1, y7 => (if (decide (y7 < (List.length x0 : Int))) = true then Option.bind (idx x0 y7) fun u16 =>
  (if (u16 == x1) = true then some true else (F_laws_qHas_L1 x0 x1 m) ((w64 (y7 + 1)))) else some false)
def F_laws_qHas (x0 : (List Int)) (x1 : Int) : Option Bool :=
  F_laws_qHas_L1 x0 x1 FU (0)
def F_impl_AreCues (x0 : (List (Int × Int))) (x1 : (List (Int × (List UInt8)))) : Option (Bool × Bool) :=
  Option.bind (F_impl_IsMusic x0) fun u4 =>
  (if (!u4) = true then some (false, false) else Option.bind (F_impl_areCues x0 x1) fun u13 =>
  some (u13, true))
def F_impl_CountsOf (x0 : (List (Int × Int))) : Option (Int × Bool) :=
  Option.bind (F_impl_IsMusic x0) fun u4 =>
  (if (!u4) = true then some (0, false) else Option.bind (F_impl_countsOf x0) fun u13 =>
  some (u13, true))
def F_spec_CountsOf (x0 : (List (Int × Int))) : Option (Int × Bool) :=
  Option.bind (F_spec_muGood x0) fun u4 =>
  (if (!u4) = true then some (0, false) else Option.bind (F_spec_muCounts x0) fun u13 =>
  some (u13, true))
def F_impl_TimeOf (x0 : (List (Int × Int))) (x1 : Int) : Option (Int × Bool) :=
  jK1 (fun (y7 : Bool) => (if y7 = true then some (0, false) else Option.bind (F_impl_timeOf x0 x1) fun u13 =>
  some (u13, true))) (fun k8 => Option.bind (F_impl_IsMusic x0) fun u19 =>
  (if (!u19) = true then k8 (true) else Option.bind (F_impl_countsOf x0) fun u26 =>
  Option.bind (F_impl_within x1 0 u26) fun u32 =>
  k8 ((!u32))))
def F_spec_muUpTo (x0 : (List (Int × Int))) (x1 : Int) : Option Bool :=
  jK1 (fun (y6 : Bool) => some y6) (fun k7 => Option.bind (F_spec_muGood x0) fun u9 =>
  (if u9 = true then Option.bind (F_spec_muCounts x0) fun u16 =>
  Option.bind (F_spec_l1In x1 0 u16) fun u22 =>
  k7 (u22) else k7 (false)))
def F_spec_TimeOf (x0 : (List (Int × Int))) (x1 : Int) : Option (Int × Bool) :=
  Option.bind (F_spec_muUpTo x0 x1) fun u4 =>
  (if (!u4) = true then some (0, false) else Option.bind (F_spec_muTime x0 x1) fun u13 =>
  some (u13, true))
def F_laws_FnCues_L2 (u7 : ((List (Int × Int)) × (List (Int × (List UInt8))))) (u257 : (List Int)) (u25 : (Int × Int × Bool)) : Nat → Int → Option Bool
  | 0, _ => none
  | m + 1, y269 => (if (decide (y269 < (List.length u7.2 : Int))) = true then Option.bind (idx u257 (w64 (y269 + 1))) fun u284 =>
  Option.bind (idx u257 y269) fun u288 =>
  jK1 (fun (y296 : Bool) => (if y296 = true then some false else (F_laws_FnCues_L2 u7 u257 u25 m) ((w64 (y269 + 1))))) (fun k297 => (if (decide (u25.2.1 < (w64 (u284 - u288)))) = true then k297 (true) else (if ((w64 (u284 - u288)) == u25.2.1) = true then (if (decide (y269 < u25.1)) = true then k297 (true) else (if (y269 == u25.1) = true then k297 (((w64 (u284 - u288)) != u25.2.1)) else k297 (false))) else (if (y269 == u25.1) = true then k297 (((w64 (u284 - u288)) != u25.2.1)) else k297 (false))))) else some true)
def F_laws_FnCues_L1 (u351 : ((List Int) × Bool)) (u120 : ((List Int) × Bool)) (u100 : ((List (Int × Int)) × (List (Int × (List UInt8))) × Int × Int)) (k187 : (Option Bool)) : Nat → Int → Option Bool
  | 0, _ => none
  | m + 1, y367 => (if (decide (y367 < (List.length u351.1 : Int))) = true then Option.bind (idx u351.1 y367) fun u376 =>
  jK1 (fun (y384 : Bool) => (if y384 = true then some false else (F_laws_FnCues_L1 u351 u120 u100 k187 m) ((w64 (y367 + 1))))) (fun k385 => Option.bind (F_laws_qHas u120.1 y367) fun u389 =>
  (if (decide (u100.2.2.1 ≤ u376)) = true then k385 ((u389 != (decide (u376 < u100.2.2.2)))) else k385 ((u389 != false)))) else k187)
def F_laws_FnCues (x0 : (List Int)) (x1 : (List Int)) : Option Bool :=
  (if (decide (1048576 < (w64 ((List.length x0 : Int) + (List.length x1 : Int))))) = true then some true else Option.bind (F_spec_DrawLongestGap x0) fun u7 =>
  Option.bind (F_impl_LongestGap u7.1 u7.2) fun u18 =>
  Option.bind (F_spec_LongestGap u7.1 u7.2) fun u25 =>
  Option.bind (F_impl_CueTimes u7.1 u7.2) fun u32 =>
  Option.bind (F_spec_CueTimes u7.1 u7.2) fun u41 =>
  Option.bind (F_spec_DrawNextCue x1) fun u50 =>
  Option.bind (F_impl_NextCue u50.1 u50.2.1 u50.2.2) fun u61 =>
  Option.bind (F_spec_NextCue u50.1 u50.2.1 u50.2.2) fun u68 =>
  Option.bind (F_spec_DrawLastCueAt x1) fun u75 =>
  Option.bind (F_impl_LastCueAt u75.1 u75.2.1 u75.2.2) fun u86 =>
  Option.bind (F_spec_LastCueAt u75.1 u75.2.1 u75.2.2) fun u93 =>
  Option.bind (F_spec_DrawCuesBetween x1) fun u100 =>
  Option.bind (F_impl_CuesBetween u100.1 u100.2.1 u100.2.2.1 u100.2.2.2) fun u111 =>
  Option.bind (F_spec_CuesBetween u100.1 u100.2.1 u100.2.2.1 u100.2.2.2) fun u120 =>
  Option.bind (F_spec_DrawShiftCues x1) fun u129 =>
  Option.bind (F_impl_ShiftCues u129.1 u129.2.1 u129.2.2) fun u140 =>
  Option.bind (F_spec_ShiftCues u129.1 u129.2.1 u129.2.2) fun u149 =>
  jK1 (fun (y162 : Bool) => (if y162 = true then some false else jK1 (fun (y172 : Bool) => (if y172 = true then some false else jK0 (jK0 (jK0 ((if (!u18.2.2) = true then some true else Option.bind (F_impl_CountsOf u7.1) fun u200 =>
  Option.bind (F_spec_CountsOf u7.1) fun u207 =>
  Option.bind (F_impl_TimeOf u7.1 u207.1) fun u214 =>
  Option.bind (F_spec_TimeOf u7.1 u207.1) fun u221 =>
  jK1 (fun (y232 : Bool) => (if y232 = true then some false else Option.bind (app [] u41.1) fun u244 =>
  Option.bind (app u244 [u221.1]) fun u257 =>
  F_laws_FnCues_L2 u7 u257 u25 FU (0))) (fun k233 => (if (!u200.2) = true then k233 (true) else (if (!u207.2) = true then k233 (true) else (if (u200.1 != u207.1) = true then k233 (true) else (if (!u214.2) = true then k233 (true) else (if (!u221.2) = true then k233 (true) else k233 ((u214.1 != u221.1)))))))))) (fun k193 => (if u140.2 = true then Option.bind (F_impl_ShiftCues u129.1 u140.1 (w64 (0 - u129.2.2))) fun u315 =>
  Option.bind (F_impl_AreCues u129.1 u140.1) fun u324 =>
  jK1 (fun (y334 : Bool) => (if y334 = true then some false else k193)) (fun k335 => (if (!u315.2) = true then k335 (true) else Option.bind (F_laws_qCues u315.1 u129.2.1) fun u340 =>
  (if (!u340) = true then k335 (true) else (if (!u324.2) = true then k335 (true) else k335 ((!u324.1)))))) else k193))) (fun k187 => (if u111.2 = true then Option.bind (F_spec_CueTimes u100.1 u100.2.1) fun u351 =>
  (if (!u351.2) = true then some false else F_laws_FnCues_L1 u351 u120 u100 k187 FU (0)) else k187))) (fun k181 => (if u86.2 = true then Option.bind (F_impl_CueTimes u75.1 u75.2.1) fun u399 =>
  Option.bind (F_spec_CueTimes u75.1 u75.2.1) fun u408 =>
  jK1 (fun (y420 : Bool) => (if y420 = true then some false else k181)) (fun k421 => (if (!u399.2) = true then k421 (true) else (if (!u408.2) = true then k421 (true) else Option.bind (F_laws_qInts u399.1 u408.1) fun u427 =>
  (if (!u427) = true then k421 (true) else Option.bind (idx u408.1 u93.1) fun u434 =>
  (if (decide (u75.2.2 < u434)) = true then k421 (true) else (if (decide ((w64 (u93.1 + 1)) < (List.length u408.1 : Int))) = true then Option.bind (idx u408.1 (w64 (u93.1 + 1))) fun u440 =>
  k421 ((decide (u440 ≤ u75.2.2))) else k421 (false))))))) else k181)))) (fun k173 => (if u61.2 = true then Option.bind (idx u50.2.1 u68.1) fun u445 =>
  (if (decide (u445.1 < u50.2.2)) = true then k173 (true) else (if (decide (0 < u68.1)) = true then Option.bind (idx u50.2.1 (w64 (u68.1 - 1))) fun u451 =>
  k173 ((decide (u50.2.2 ≤ u451.1))) else k173 (false))) else k173 (false))))) (fun k163 => (if (u18.2.2 != u25.2.2) = true then k163 (true) else (if (u18.1 != u25.1) = true then k163 (true) else (if (u18.2.1 != u25.2.1) = true then k163 (true) else (if (u32.2 != u41.2) = true then k163 (true) else Option.bind (F_laws_qInts u32.1 u41.1) fun u459 =>
  (if (!u459) = true then k163 (true) else (if (u61.2 != u68.2) = true then k163 (true) else (if (u61.1 != u68.1) = true then k163 (true) else (if (u86.2 != u93.2) = true then k163 (true) else (if (u86.1 != u93.1) = true then k163 (true) else (if (u111.2 != u120.2) = true then k163 (true) else Option.bind (F_laws_qInts u111.1 u120.1) fun u471 =>
  (if (!u471) = true then k163 (true) else (if (u140.2 != u149.2) = true then k163 (true) else Option.bind (F_laws_qCues u140.1 u149.1) fun u479 =>
  (if (!u479) = true then k163 (true) else (if u32.2 = true then k163 ((u18.2.2 != (decide (0 < (List.length u7.2 : Int))))) else k163 ((u18.2.2 != false))))))))))))))))))
def F_spec_l1Least (x0 : Int) (x1 : Int) : Option Int :=
  (if (decide (x0 < x1)) = true then some x0 else some x1)
def F_spec_chFind_L1 (x0 : (List (Int × Int))) (x1 : (Int × Int)) : Nat → Int → Option Int
  | 0, _ => none
  | m + 1, y12 => (if (decide (y12 < (List.length x0 : Int))) = true then Option.bind (idx x0 y12) fun u21 =>
  (if (eqv_Spot u21 x1) = true then some y12 else (F_spec_chFind_L1 x0 x1 m) ((w64 (y12 + 1)))) else some (-1))
def F_spec_chFind (x0 : (List (Int × Int))) (x1 : (Int × Int)) : Option Int :=
  F_spec_chFind_L1 x0 x1 FU (0)
def F_spec_chOwn (x0 : (List (Int × Int))) : Option (List (Int × Int)) :=
  Option.bind (app [] x0) fun u9 =>
  some u9
def F_spec_stGood (x0 : (Int × Int)) : Option Bool :=
  jK1 (fun (y11 : Bool) => some y11) (fun k12 => Option.bind (F_spec_l1In x0.1 0 1280) fun u14 =>
  (if u14 = true then Option.bind (F_spec_l1In x0.2 0 672) fun u21 =>
  k12 (u21) else k12 (false)))
def F_spec_chGood_L2 (u39 : (List (Int × Int))) (u16 : (Int × Int)) (nx8 : (Int → Option Bool)) (y7 : Int) : Nat → Int → Option Bool
  | 0, _ => none
  | m + 1, y45 => (if (decide (y45 < (List.length u39 : Int))) = true then Option.bind (idx u39 y45) fun u54 =>
  (if (eqv_Spot u16 u54) = true then some false else (F_spec_chGood_L2 u39 u16 nx8 y7 m) ((w64 (y45 + 1)))) else nx8 ((w64 (y7 + 1))))
def F_spec_chGood_L1 (x0 : (List (Int × Int))) : Nat → Int → Option Bool
  | 0, _ => none
  | m + 1, y7 => (if (decide (y7 < (List.length x0 : Int))) = true then Option.bind (idx x0 y7) fun u16 =>
  Option.bind (F_spec_stGood u16) fun u30 =>
  (if (!u30) = true then some false else Option.bind (sl x0 0 y7) fun u39 =>
  F_spec_chGood_L2 u39 u16 (F_spec_chGood_L1 x0 m) y7 FU (0)) else Option.bind (F_spec_l1In (List.length x0 : Int) 1 12) fun u70 =>
  some u70)
def F_spec_chGood (x0 : (List (Int × Int))) : Option Bool :=
  F_spec_chGood_L1 x0 FU (0)
def F_spec_l1All_L1 (x0 : (List Int)) (x1 : Int) (x2 : Int) : Nat → Int → Option Bool
  | 0, _ => none
  | m + 1, y7 => (if (decide (y7 < (List.length x0 : Int))) = true then Option.bind (idx x0 y7) fun u16 =>
  Option.bind (F_spec_l1In u16 x1 x2) fun u20 =>
  (if (!u20) = true then some false else (F_spec_l1All_L1 x0 x1 x2 m) ((w64 (y7 + 1)))) else some true)
def F_spec_l1All (x0 : (List Int)) (x1 : Int) (x2 : Int) : Option Bool :=
  F_spec_l1All_L1 x0 x1 x2 FU (0)
def F_spec_apDistance (x0 : Int) : Option Bool :=
  Option.bind (F_spec_l1In x0 0 80) fun u3 =>
  some u3
def F_spec_mvStep (x0 : Int) : Option Bool :=
  Option.bind (F_spec_l1In x0 1 24) fun u3 =>
  some u3
def F_spec_swGood_L1 (x0 : ((List (List (Int × Int))) × (List Int) × Int × Int)) : Nat → Int → Option Bool
  | 0, _ => none
  | m + 1, y12 => (if (decide (y12 < (List.length x0.1 : Int))) = true then Option.bind (idx x0.1 y12) fun u21 =>
  jK1 (fun (y30 : Bool) => (if y30 = true then some false else (F_spec_swGood_L1 x0 m) ((w64 (y12 + 1))))) (fun k31 => Option.bind (F_spec_chGood u21) fun u35 =>
  (if (!u35) = true then k31 (true) else Option.bind (idx x0.1 0) fun u42 =>
  k31 (((List.length u21 : Int) != (List.length u42 : Int))))) else jK1 (fun (y51 : Bool) => some y51) (fun k52 => Option.bind (F_spec_l1In (List.length x0.1 : Int) 2 8) fun u54 =>
  (if u54 = true then (if ((List.length x0.2.1 : Int) == (w64 ((List.length x0.1 : Int) - 1))) = true then Option.bind (F_spec_l1All x0.2.1 1 64) fun u62 =>
  (if u62 = true then Option.bind (F_spec_apDistance x0.2.2.1) fun u69 =>
  (if u69 = true then Option.bind (F_spec_mvStep x0.2.2.2) fun u76 =>
  k52 (u76) else k52 (false)) else k52 (false)) else k52 (false)) else k52 (false))))
def F_spec_swGood (x0 : ((List (List (Int × Int))) × (List Int) × Int × Int)) : Option Bool :=
  F_spec_swGood_L1 x0 FU (0)
def F_spec_l1Own (x0 : (List Int)) : Option (List Int) :=
  Option.bind (app [] x0) fun u9 =>
  some u9
def F_spec_l1Cur__spot__mut__box (x0 : ((List Int) × Int × Int)) : Option ((Int × Int) × ((List Int) × Int × Int)) :=
  Option.bind (F_spec_l1Cur__pick__mut__box x0 161) fun u8 =>
  Option.bind (F_spec_l1Cur__pick__mut__box (x0.1, u8.2.2.1, u8.2.2.2) 1281) fun u14 =>
  Option.bind (F_spec_l1Cur__among__mut__box (x0.1, u14.2.2.1, u14.2.2.2) [0, 80, 160, 640, (w64 (8 * u8.1)), u14.1, 1280]) fun u26 =>
  Option.bind (F_spec_l1Cur__pick__mut__box (x0.1, u26.2.2.1, u26.2.2.2) 85) fun u32 =>
  Option.bind (F_spec_l1Cur__pick__mut__box (x0.1, u32.2.2.1, u32.2.2.2) 673) fun u38 =>
  Option.bind (F_spec_l1Cur__among__mut__box (x0.1, u38.2.2.1, u38.2.2.2) [0, 80, 336, (w64 (8 * u32.1)), u38.1, 672]) fun u50 =>
  some ((u26.1, u50.1), (x0.1, u50.2.2.1, u50.2.2.2))
def F_spec_l1Cur__chartOf__mut__box_L1 (x1 : Int) (x0 : ((List Int) × Int × Int)) : Nat → Int → Int → (List (Int × Int)) → Int → Option ((List (Int × Int)) × ((List Int) × Int × Int))
  | 0, _, _, _, _ => none
  | m + 1, y8, y9, l10, y13 => (if (decide ((List.length l10 : Int) < x1)) = true then jK3 (fun (y25 : Int) (y26 : Int) (l27 : (List (Int × Int))) => (F_spec_l1Cur__chartOf__mut__box_L1 x1 x0 m) (y25) (y26) (l27) ((w64 (y13 + 1)))) (fun k30 => Option.bind (F_spec_l1Cur__spot__mut__box (x0.1, y8, y9)) fun u33 =>
  jK4 (fun (y52 : Int) (y53 : Int) (y54 : Int) (y55 : Int) => jK2 (fun (y62 : Int) (y63 : Int) => Option.bind (F_spec_chFind l10 (y62, y63)) fun u67 =>
  (if (decide (u67 < 0)) = true then Option.bind (app l10 [(y62, y63)]) fun u80 =>
  k30 (y52) (y53) (u80) else k30 (y52) (y53) (l10))) (fun k64 => (if (decide (60 < y13)) = true then k64 ((w64 (3 * (List.length l10 : Int)))) ((w64 (7 + y13))) else k64 (y54) (y55)))) (fun k56 => jK3 (fun (y97 : Int) (y98 : Int) (y99 : Bool) => (if y99 = true then Option.bind (F_spec_l1Cur__pick__mut__box (x0.1, y97, y98) (List.length l10 : Int)) fun u104 =>
  Option.bind (idx l10 u104.1) fun u110 =>
  Option.bind (F_spec_l1Cur__among__mut__box (x0.1, u104.2.2.1, u104.2.2.2) [0, 8, 16, 24, 5]) fun u140 =>
  Option.bind (F_spec_l1Least 1280 (w64 (u110.1 + u140.1))) fun u149 =>
  Option.bind (F_spec_l1Cur__among__mut__box (x0.1, u140.2.2.1, u140.2.2.2) [0, 8, 16, 3]) fun u168 =>
  Option.bind (F_spec_l1Least 672 (w64 (u110.2 + u168.1))) fun u177 =>
  k56 (u168.2.2.1) (u168.2.2.2) (u149) (u177) else k56 (y97) (y98) (u33.1.1) (u33.1.2))) (fun k100 => (if (decide (0 < (List.length l10 : Int))) = true then Option.bind (F_spec_l1Cur__one__mut__box (x0.1, u33.2.2.1, u33.2.2.2) 2) fun u350 =>
  k100 (u350.2.2.1) (u350.2.2.2) (u350.1) else k100 (u33.2.2.1) (u33.2.2.2) (false))))) else some (l10, (x0.1, y8, y9)))
def F_spec_l1Cur__chartOf__mut__box (x0 : ((List Int) × Int × Int)) (x1 : Int) : Option ((List (Int × Int)) × ((List Int) × Int × Int)) :=
  F_spec_l1Cur__chartOf__mut__box_L1 x1 x0 FU (x0.2.1) (x0.2.2) ([]) (0)
def F_spec_l1Cur__chart__mut__box (x0 : ((List Int) × Int × Int)) : Option ((List (Int × Int)) × ((List Int) × Int × Int)) :=
  Option.bind (F_spec_l1Cur__one__mut__box x0 20) fun u4 =>
  (if u4.1 = true then Option.bind (F_spec_l1Cur__chartOf__mut__box (x0.1, u4.2.2.1, u4.2.2.2) 12) fun u12 =>
  some (u12.1, (x0.1, u12.2.2.1, u12.2.2.2)) else Option.bind (F_spec_l1Cur__pick__mut__box (x0.1, u4.2.2.1, u4.2.2.2) 6) fun u21 =>
  Option.bind (F_spec_l1Cur__chartOf__mut__box (x0.1, u21.2.2.1, u21.2.2.2) (w64 (1 + u21.1))) fun u27 =>
  some (u27.1, (x0.1, u27.2.2.1, u27.2.2.2)))
def F_spec_l1Cur__anySpot__mut__box (x0 : ((List Int) × Int × Int)) : Option ((Int × Int) × ((List Int) × Int × Int)) :=
  Option.bind (F_spec_l1Cur__spot__mut__box x0) fun u8 =>
  jK4 (fun (y27 : Int) (y28 : Int) (y29 : Int) (y30 : Int) => some ((y29, y30), (x0.1, y27, y28))) (fun k31 => Option.bind (F_spec_l1Cur__pick__mut__box (x0.1, u8.2.2.1, u8.2.2.2) 30) fun u39 =>
  (if (u39.1 == 0) = true then Option.bind (F_spec_l1Cur__among__mut__box (x0.1, u39.2.2.1, u39.2.2.2) [(-1), 1281]) fun u53 =>
  k31 (u53.2.2.1) (u53.2.2.2) (u53.1) (u8.1.2) else (if (u39.1 == 1) = true then Option.bind (F_spec_l1Cur__among__mut__box (x0.1, u39.2.2.1, u39.2.2.2) [(-1), 673]) fun u71 =>
  k31 (u71.2.2.1) (u71.2.2.2) (u8.1.1) (u71.1) else k31 (u39.2.2.1) (u39.2.2.2) (u8.1.1) (u8.1.2))))
def F_spec_l1Cur__anyChart__mut__box (x0 : ((List Int) × Int × Int)) : Option ((List (Int × Int)) × ((List Int) × Int × Int)) :=
  Option.bind (F_spec_l1Cur__chart__mut__box x0) fun u3 =>
  Option.bind (F_spec_l1Cur__pick__mut__box (x0.1, u3.2.2.1, u3.2.2.2) (List.length u3.1 : Int)) fun u12 =>
  jK3 (fun (y22 : Int) (y23 : Int) (l24 : (List (Int × Int))) => some (l24, (x0.1, y22, y23))) (fun k27 => Option.bind (F_spec_l1Cur__pick__mut__box (x0.1, u12.2.2.1, u12.2.2.2) 30) fun u31 =>
  (if (u31.1 == 0) = true then Option.bind (F_spec_l1Cur__anySpot__mut__box (x0.1, u31.2.2.1, u31.2.2.2)) fun u39 =>
  Option.bind (idx u3.1 u12.1) fun u45 =>
  k27 (u39.2.2.1) (u39.2.2.2) ((seti u3.1 u12.1 u39.1)) else (if (u31.1 == 1) = true then Option.bind (idx u3.1 0) fun u55 =>
  Option.bind (idx u3.1 u12.1) fun u59 =>
  k27 (u31.2.2.1) (u31.2.2.2) ((seti u3.1 u12.1 u55)) else (if (u31.1 == 2) = true then some ([], (x0.1, u31.2.2.1, u31.2.2.2)) else (if (u31.1 == 3) = true then Option.bind (F_spec_l1Cur__chartOf__mut__box (x0.1, u31.2.2.1, u31.2.2.2) 13) fun u74 =>
  some (u74.1, (x0.1, u74.2.2.1, u74.2.2.2)) else k27 (u31.2.2.1) (u31.2.2.2) (u3.1))))))
def F_spec_l1Cur__show__mut__box_L2 (u300 : (List (Int × Int))) (x0 : ((List Int) × Int × Int)) (u101 : (List (Int × Int))) (k125 : (Int → Int → (List (Int × Int)) → Option (((List (List (Int × Int))) × (List Int) × Int × Int) × ((List Int) × Int × Int)))) : Nat → Int → Int → (List (Int × Int)) → Int → Option (((List (List (Int × Int))) × (List Int) × Int × Int) × ((List Int) × Int × Int))
  | 0, _, _, _, _ => none
  | m + 1, y313, y314, l316, y319 => (if (decide (y319 < (List.length u300 : Int))) = true then jK3 (fun (y330 : Int) (y331 : Int) (l333 : (List (Int × Int))) => (F_spec_l1Cur__show__mut__box_L2 u300 x0 u101 k125 m) (y330) (y331) (l333) ((w64 (y319 + 1)))) (fun k336 => Option.bind (idx l316 y319) fun u344 =>
  Option.bind (F_spec_l1Cur__among__mut__box (x0.1, y313, y314) [0, 8, 16, 40]) fun u361 =>
  Option.bind (F_spec_l1Least 1280 (w64 (u344.1 + u361.1))) fun u371 =>
  Option.bind (idx l316 y319) fun u380 =>
  k336 (u361.2.2.1) (u361.2.2.2) ((seti l316 y319 (u371, u380.2)))) else Option.bind (F_spec_chGood l316) fun u462 =>
  (if (!u462) = true then Option.bind (F_spec_chOwn u101) fun u469 =>
  k125 (y313) (y314) (u469) else k125 (y313) (y314) (l316)))
def F_spec_l1Cur__show__mut__box_L1 (y78 : Int) (x0 : ((List Int) × Int × Int)) (u8 : (Int × ((List Int) × Int × Int))) (u50 : (Int × ((List Int) × Int × Int))) (u38 : (Int × ((List Int) × Int × Int))) : Nat → Int → Int → (List (List (Int × Int))) → (List Int) → Option (((List (List (Int × Int))) × (List Int) × Int × Int) × ((List Int) × Int × Int))
  | 0, _, _, _, _ => none
  | m + 1, y85, y86, l87, l90 => (if (decide ((List.length l87 : Int) < y78)) = true then Option.bind (idx l87 (w64 ((List.length l87 : Int) - 1))) fun u101 =>
  Option.bind (F_spec_l1Cur__chartOf__mut__box (x0.1, y85, y86) (w64 (1 + u8.1))) fun u108 =>
  jK3 (fun (y120 : Int) (y121 : Int) (l122 : (List (Int × Int))) => Option.bind (app l87 [l122]) fun u137 =>
  Option.bind (F_spec_l1Cur__among__mut__box (x0.1, y120, y121) [1, 4, 8, 16, 64]) fun u164 =>
  Option.bind (app l90 [u164.1]) fun u182 =>
  (F_spec_l1Cur__show__mut__box_L1 y78 x0 u8 u50 u38 m) (u164.2.2.1) (u164.2.2.2) (u137) (u182)) (fun k125 => Option.bind (F_spec_l1Cur__one__mut__box (x0.1, u108.2.2.1, u108.2.2.2) 3) fun u292 =>
  (if (!u292.1) = true then Option.bind (F_spec_chOwn u101) fun u300 =>
  F_spec_l1Cur__show__mut__box_L2 u300 x0 u101 k125 FU (u292.2.2.1) (u292.2.2.2) (u300) (0) else k125 (u292.2.2.1) (u292.2.2.2) (u108.1))) else jK6 (fun (y481 : Int) (y482 : Int) (l483 : (List (List (Int × Int)))) (l486 : (List Int)) (y489 : Int) (y490 : Int) => some ((l483, l486, y489, y490), (x0.1, y481, y482))) (fun k491 => Option.bind (F_spec_l1Cur__pick__mut__box (x0.1, y85, y86) 36) fun u499 =>
  (if (u499.1 == 0) = true then Option.bind (F_spec_l1Cur__among__mut__box (x0.1, u499.2.2.1, u499.2.2.2) [(-1), 80, 81]) fun u513 =>
  k491 (u513.2.2.1) (u513.2.2.2) (l87) (l90) (u513.1) (u50.1) else (if (u499.1 == 1) = true then Option.bind (F_spec_l1Cur__among__mut__box (x0.1, u499.2.2.1, u499.2.2.2) [0, 1, 25]) fun u531 =>
  k491 (u531.2.2.1) (u531.2.2.2) (l87) (l90) (u38.1) (u531.1) else (if (u499.1 == 2) = true then Option.bind (F_spec_l1Cur__among__mut__box (x0.1, u499.2.2.1, u499.2.2.2) [0, 64, 65]) fun u559 =>
  Option.bind (idx l90 0) fun u567 =>
  k491 (u559.2.2.1) (u559.2.2.2) (l87) ((seti l90 0 u559.1)) (u38.1) (u50.1) else (if (u499.1 == 3) = true then Option.bind (F_spec_l1Cur__anyChart__mut__box (x0.1, u499.2.2.1, u499.2.2.2)) fun u628 =>
  Option.bind (idx l87 (w64 ((List.length l87 : Int) - 1))) fun u639 =>
  k491 (u628.2.2.1) (u628.2.2.2) ((seti l87 (w64 ((List.length l87 : Int) - 1)) u628.1)) (l90) (u38.1) (u50.1) else (if (u499.1 == 4) = true then Option.bind (app l90 [8]) fun u751 =>
  k491 (u499.2.2.1) (u499.2.2.2) (l87) (u751) (u38.1) (u50.1) else (if (u499.1 == 5) = true then Option.bind (sl l87 0 1) fun u765 =>
  k491 (u499.2.2.1) (u499.2.2.2) (u765) ([]) (u38.1) (u50.1) else k491 (u499.2.2.1) (u499.2.2.2) (l87) (l90) (u38.1) (u50.1)))))))))
def F_spec_l1Cur__show__mut__box (x0 : ((List Int) × Int × Int)) : Option (((List (List (Int × Int))) × (List Int) × Int × Int) × ((List Int) × Int × Int)) :=
  Option.bind (F_spec_l1Cur__pick__mut__box x0 4) fun u8 =>
  Option.bind (F_spec_l1Cur__chartOf__mut__box (x0.1, u8.2.2.1, u8.2.2.2) (w64 (1 + u8.1))) fun u15 =>
  Option.bind (F_spec_l1Cur__among__mut__box (x0.1, u15.2.2.1, u15.2.2.2) [0, 1, 8, 8, 16]) fun u38 =>
  Option.bind (F_spec_l1Cur__among__mut__box (x0.1, u38.2.2.1, u38.2.2.2) [8, 12, 24, 24]) fun u50 =>
  Option.bind (F_spec_l1Cur__pick__mut__box (x0.1, u50.2.2.1, u50.2.2.2) 3) fun u66 =>
  jK3 (fun (y76 : Int) (y77 : Int) (y78 : Int) => F_spec_l1Cur__show__mut__box_L1 y78 x0 u8 u50 u38 FU (y76) (y77) ([u15.1]) ([])) (fun k79 => Option.bind (F_spec_l1Cur__one__mut__box (x0.1, u66.2.2.1, u66.2.2.2) 20) fun u786 =>
  (if u786.1 = true then Option.bind (F_spec_l1Cur__pick__mut__box (x0.1, u786.2.2.1, u786.2.2.2) 2) fun u793 =>
  k79 (u793.2.2.1) (u793.2.2.2) ((w64 (8 + u793.1))) else k79 (u786.2.2.1) (u786.2.2.2) ((w64 (2 + u66.1)))))
def F_impl_IsSpot (x0 : (Int × Int)) : Option Bool :=
  jK1 (fun (y11 : Bool) => some y11) (fun k12 => Option.bind (F_impl_within x0.1 0 1280) fun u14 =>
  (if u14 = true then Option.bind (F_impl_within x0.2 0 672) fun u21 =>
  k12 (u21) else k12 (false)))
def F_slices_Index_impl_Spot_impl_Spot_L1 (x0 : (List (Int × Int))) (x1 : (Int × Int)) : Nat → Int → Option Int
  | 0, _ => none
  | m + 1, y12 => (if (decide (y12 < (List.length x0 : Int))) = true then Option.bind (idx x0 y12) fun u27 =>
  (if (eqv_Spot x1 u27) = true then some y12 else (F_slices_Index_impl_Spot_impl_Spot_L1 x0 x1 m) ((w64 (y12 + 1)))) else some (-1))
def F_slices_Index_impl_Spot_impl_Spot (x0 : (List (Int × Int))) (x1 : (Int × Int)) : Option Int :=
  F_slices_Index_impl_Spot_impl_Spot_L1 x0 x1 FU (0)
def F_slices_Contains_impl_Spot_impl_Spot (x0 : (List (Int × Int))) (x1 : (Int × Int)) : Option Bool :=
  Option.bind (F_slices_Index_impl_Spot_impl_Spot x0 x1) fun u8 =>
  some (decide (0 ≤ u8))
def F_impl_IsChart_L1 (x0 : (List (Int × Int))) : Nat → Int → Option Bool
  | 0, _ => none
  | m + 1, y17 => (if (decide (y17 < (List.length x0 : Int))) = true then Option.bind (idx x0 y17) fun u26 =>
  jK1 (fun (y42 : Bool) => (if y42 = true then some false else (F_impl_IsChart_L1 x0 m) ((w64 (y17 + 1))))) (fun k43 => Option.bind (F_impl_IsSpot u26) fun u52 =>
  (if (!u52) = true then k43 (true) else Option.bind (sl x0 0 y17) fun u60 =>
  Option.bind (F_slices_Contains_impl_Spot_impl_Spot u60 u26) fun u63 =>
  k43 (u63))) else some true)
def F_impl_IsChart (x0 : (List (Int × Int))) : Option Bool :=
  Option.bind (F_impl_within (List.length x0 : Int) 1 12) fun u4 =>
  (if (!u4) = true then some false else F_impl_IsChart_L1 x0 FU (0))
def F_impl_areCharts_L2 (x1 : (List Int)) : Nat → Int → Option Bool
  | 0, _ => none
  | m + 1, y57 => (if (decide (y57 < (List.length x1 : Int))) = true then Option.bind (idx x1 y57) fun u66 =>
  Option.bind (F_impl_within u66 1 64) fun u70 =>
  (if (!u70) = true then some false else (F_impl_areCharts_L2 x1 m) ((w64 (y57 + 1)))) else some true)
def F_impl_areCharts_L1 (x0 : (List (List (Int × Int)))) (x1 : (List Int)) : Nat → Int → Option Bool
  | 0, _ => none
  | m + 1, y17 => (if (decide (y17 < (List.length x0 : Int))) = true then Option.bind (idx x0 y17) fun u26 =>
  jK1 (fun (y35 : Bool) => (if y35 = true then some false else (F_impl_areCharts_L1 x0 x1 m) ((w64 (y17 + 1))))) (fun k36 => Option.bind (F_impl_IsChart u26) fun u40 =>
  (if (!u40) = true then k36 (true) else Option.bind (idx x0 0) fun u47 =>
  k36 (((List.length u26 : Int) != (List.length u47 : Int))))) else F_impl_areCharts_L2 x1 FU (0))
def F_impl_areCharts (x0 : (List (List (Int × Int)))) (x1 : (List Int)) : Option Bool :=
  jK1 (fun (y7 : Bool) => (if y7 = true then some false else F_impl_areCharts_L1 x0 x1 FU (0))) (fun k8 => Option.bind (F_impl_within (List.length x0 : Int) 1 9) fun u79 =>
  (if (!u79) = true then k8 (true) else k8 (((List.length x1 : Int) != (w64 ((List.length x0 : Int) - 1))))))
def F_impl_isLeast (x0 : Int) : Option Bool :=
  Option.bind (F_impl_within x0 0 80) fun u3 =>
  some u3
def F_impl_IsShow (x0 : ((List (List (Int × Int))) × (List Int) × Int × Int)) : Option Bool :=
  jK1 (fun (y11 : Bool) => some y11) (fun k12 => Option.bind (F_impl_within (List.length x0.1 : Int) 2 8) fun u14 =>
  (if u14 = true then Option.bind (F_impl_areCharts x0.1 x0.2.1) fun u21 =>
  (if u21 = true then Option.bind (F_impl_isLeast x0.2.2.1) fun u28 =>
  (if u28 = true then Option.bind (F_impl_within x0.2.2.2 1 24) fun u35 =>
  k12 (u35) else k12 (false)) else k12 (false)) else k12 (false)))
def F_slices_Equal_impl_Spot_impl_Spot_L1 (x0 : (List (Int × Int))) (x1 : (List (Int × Int))) : Nat → Int → Option Bool
  | 0, _ => none
  | m + 1, y11 => (if (decide (y11 < (List.length x0 : Int))) = true then Option.bind (idx x0 y11) fun u26 =>
  Option.bind (idx x1 y11) fun u29 =>
  (if (!(eqv_Spot u26 u29)) = true then some false else (F_slices_Equal_impl_Spot_impl_Spot_L1 x0 x1 m) ((w64 (y11 + 1)))) else some true)
def F_slices_Equal_impl_Spot_impl_Spot (x0 : (List (Int × Int))) (x1 : (List (Int × Int))) : Option Bool :=
  (if ((List.length x0 : Int) != (List.length x1 : Int)) = true then some false else F_slices_Equal_impl_Spot_impl_Spot_L1 x0 x1 FU (0))
def F_impl_DifferentCharts_L1 (x0 : ((List (List (Int × Int))) × (List Int) × Int × Int)) (x1 : ((List (List (Int × Int))) × (List Int) × Int × Int)) : Nat → (List Int) → Int → Option ((List Int) × Bool)
  | 0, _, _ => none
  | m + 1, l35, y38 => (if (decide (y38 < (List.length x0.1 : Int))) = true then jK1 (fun (l49 : (List Int)) => (F_impl_DifferentCharts_L1 x0 x1 m) (l49) ((w64 (y38 + 1)))) (fun k52 => Option.bind (idx x0.1 y38) fun u61 =>
  Option.bind (idx x1.1 y38) fun u66 =>
  Option.bind (F_slices_Equal_impl_Spot_impl_Spot u61 u66) fun u71 =>
  (if (!u71) = true then Option.bind (app l35 [y38]) fun u85 =>
  k52 (u85) else k52 (l35))) else some (l35, true))
def F_impl_DifferentCharts (x0 : ((List (List (Int × Int))) × (List Int) × Int × Int)) (x1 : ((List (List (Int × Int))) × (List Int) × Int × Int)) : Option ((List Int) × Bool) :=
  jK1 (fun (y17 : Bool) => (if y17 = true then some ([], false) else F_impl_DifferentCharts_L1 x0 x1 FU ([]) (0))) (fun k18 => Option.bind (F_impl_IsShow x0) fun u98 =>
  (if (!u98) = true then k18 (true) else Option.bind (F_impl_IsShow x1) fun u106 =>
  (if (!u106) = true then k18 (true) else (if ((List.length x0.1 : Int) != (List.length x1.1 : Int)) = true then k18 (true) else Option.bind (idx x0.1 0) fun u115 =>
  Option.bind (idx x1.1 0) fun u120 =>
  k18 (((List.length u115 : Int) != (List.length u120 : Int)))))))
def F_spec_mgSame_L1 (x0 : (List (Int × Int))) (x1 : (List (Int × Int))) : Nat → Int → Option Bool
  | 0, _ => none
  | m + 1, y7 => (if (decide (y7 < (List.length x0 : Int))) = true then Option.bind (idx x0 y7) fun u16 =>
  Option.bind (idx x1 y7) fun u34 =>
  (if (!(eqv_Spot u16 u34)) = true then some false else (F_spec_mgSame_L1 x0 x1 m) ((w64 (y7 + 1)))) else some true)
def F_spec_mgSame (x0 : (List (Int × Int))) (x1 : (List (Int × Int))) : Option Bool :=
  F_spec_mgSame_L1 x0 x1 FU (0)
def F_spec_cpDifferent_L1 (x0 : ((List (List (Int × Int))) × (List Int) × Int × Int)) (x1 : ((List (List (Int × Int))) × (List Int) × Int × Int)) : Nat → (List Int) → Int → Option (List Int)
  | 0, _, _ => none
  | m + 1, l18, y21 => (if (decide (y21 < (List.length x0.1 : Int))) = true then jK1 (fun (l33 : (List Int)) => (F_spec_cpDifferent_L1 x0 x1 m) (l33) ((w64 (y21 + 1)))) (fun k36 => Option.bind (idx x0.1 y21) fun u39 =>
  Option.bind (idx x1.1 y21) fun u45 =>
  Option.bind (F_spec_mgSame u39 u45) fun u50 =>
  (if (!u50) = true then Option.bind (app l18 [y21]) fun u63 =>
  k36 (u63) else k36 (l18))) else some l18)
def F_spec_cpDifferent (x0 : ((List (List (Int × Int))) × (List Int) × Int × Int)) (x1 : ((List (List (Int × Int))) × (List Int) × Int × Int)) : Option (List Int) :=
  F_spec_cpDifferent_L1 x0 x1 FU ([]) (0)
def F_spec_DifferentCharts (x0 : ((List (List (Int × Int))) × (List Int) × Int × Int)) (x1 : ((List (List (Int × Int))) × (List Int) × Int × Int)) : Option ((List Int) × Bool) :=
  jK1 (fun (y17 : Bool) => (if y17 = true then some ([], false) else Option.bind (F_spec_cpDifferent x0 x1) fun u24 =>
  some (u24, true))) (fun k18 => Option.bind (F_spec_swGood x0) fun u37 =>
  (if (!u37) = true then k18 (true) else Option.bind (F_spec_swGood x1) fun u45 =>
  (if (!u45) = true then k18 (true) else (if ((List.length x0.1 : Int) != (List.length x1.1 : Int)) = true then k18 (true) else Option.bind (idx x0.1 0) fun u54 =>
  Option.bind (idx x1.1 0) fun u59 =>
  k18 (((List.length u54 : Int) != (List.length u59 : Int)))))))
def F_slices_Equal_int_int_L1 (x0 : (List Int)) (x1 : (List Int)) : Nat → Int → Option Bool
  | 0, _ => none
  | m + 1, y11 => (if (decide (y11 < (List.length x0 : Int))) = true then Option.bind (idx x0 y11) fun u26 =>
  Option.bind (idx x1 y11) fun u29 =>
  (if (u26 != u29) = true then some false else (F_slices_Equal_int_int_L1 x0 x1 m) ((w64 (y11 + 1)))) else some true)
def F_slices_Equal_int_int (x0 : (List Int)) (x1 : (List Int)) : Option Bool :=
  (if ((List.length x0 : Int) != (List.length x1 : Int)) = true then some false else F_slices_Equal_int_int_L1 x0 x1 FU (0))
def F_impl_SameShows_L1 (x0 : ((List (List (Int × Int))) × (List Int) × Int × Int)) (x1 : ((List (List (Int × Int))) × (List Int) × Int × Int)) : Nat → Int → Option (Bool × Bool)
  | 0, _ => none
  | m + 1, y37 => (if (decide (y37 < (List.length x0.1 : Int))) = true then Option.bind (idx x0.1 y37) fun u52 =>
  Option.bind (idx x1.1 y37) fun u57 =>
  Option.bind (F_slices_Equal_impl_Spot_impl_Spot u52 u57) fun u62 =>
  (if (!u62) = true then some (false, true) else (F_impl_SameShows_L1 x0 x1 m) ((w64 (y37 + 1)))) else some (true, true))
def F_impl_SameShows (x0 : ((List (List (Int × Int))) × (List Int) × Int × Int)) (x1 : ((List (List (Int × Int))) × (List Int) × Int × Int)) : Option (Bool × Bool) :=
  jK1 (fun (y17 : Bool) => (if y17 = true then some (false, false) else jK1 (fun (y27 : Bool) => (if y27 = true then some (false, true) else F_impl_SameShows_L1 x0 x1 FU (0))) (fun k28 => (if ((List.length x0.1 : Int) != (List.length x1.1 : Int)) = true then k28 (true) else Option.bind (F_slices_Equal_int_int x0.2.1 x1.2.1) fun u73 =>
  (if (!u73) = true then k28 (true) else (if (x0.2.2.1 != x1.2.2.1) = true then k28 (true) else k28 ((x0.2.2.2 != x1.2.2.2)))))))) (fun k18 => Option.bind (F_impl_IsShow x0) fun u81 =>
  (if (!u81) = true then k18 (true) else Option.bind (F_impl_IsShow x1) fun u88 =>
  k18 ((!u88))))
def F_spec_l1Same_L1 (x0 : (List Int)) (x1 : (List Int)) : Nat → Int → Option Bool
  | 0, _ => none
  | m + 1, y11 => (if (decide (y11 < (List.length x0 : Int))) = true then Option.bind (idx x0 y11) fun u26 =>
  Option.bind (idx x1 y11) fun u29 =>
  (if (u26 != u29) = true then some false else (F_spec_l1Same_L1 x0 x1 m) ((w64 (y11 + 1)))) else some true)
def F_spec_l1Same (x0 : (List Int)) (x1 : (List Int)) : Option Bool :=
  (if ((List.length x0 : Int) != (List.length x1 : Int)) = true then some false else F_spec_l1Same_L1 x0 x1 FU (0))
def F_spec_SameShows (x0 : ((List (List (Int × Int))) × (List Int) × Int × Int)) (x1 : ((List (List (Int × Int))) × (List Int) × Int × Int)) : Option (Bool × Bool) :=
  jK1 (fun (y17 : Bool) => (if y17 = true then some (false, false) else jK1 (fun (y27 : Bool) => (if y27 = true then some (false, true) else jK1 (fun (y36 : Bool) => some (y36, true)) (fun k37 => Option.bind (F_spec_cpDifferent x0 x1) fun u39 =>
  (if ((List.length u39 : Int) == 0) = true then Option.bind (F_spec_l1Same x0.2.1 x1.2.1) fun u48 =>
  (if u48 = true then (if (x0.2.2.1 == x1.2.2.1) = true then k37 ((x0.2.2.2 == x1.2.2.2)) else k37 (false)) else k37 (false)) else k37 (false))))) (fun k28 => (if ((List.length x0.1 : Int) != (List.length x1.1 : Int)) = true then k28 (true) else Option.bind (idx x0.1 0) fun u62 =>
  Option.bind (idx x1.1 0) fun u67 =>
  k28 (((List.length u62 : Int) != (List.length u67 : Int))))))) (fun k18 => Option.bind (F_spec_swGood x0) fun u72 =>
  (if (!u72) = true then k18 (true) else Option.bind (F_spec_swGood x1) fun u79 =>
  k18 ((!u79))))
def F_spec_DrawWaySums (x0 : (List Int)) : Option ((List (List (Int × Int))) × (List Int) × Int × Int) :=
  Option.bind (F_spec_l1Cur__show__mut__box (x0, 0, 0)) fun u14 =>
  some u14.1
def F_impl_showMoves_L1 (u16 : (List (Int × Int))) (x0 : ((List (List (Int × Int))) × (List Int) × Int × Int)) (x1 : Int) : Nat → (List ((Int × Int) × (Int × Int) × Int)) → Int → Option (List ((Int × Int) × (Int × Int) × Int))
  | 0, _, _ => none
  | m + 1, l24, y27 => (if (decide (y27 < (List.length u16 : Int))) = true then Option.bind (idx u16 y27) fun u36 =>
  Option.bind (idx x0.1 (w64 (x1 + 1))) fun u53 =>
  Option.bind (idx u53 y27) fun u58 =>
  Option.bind (idx x0.2.1 x1) fun u61 =>
  Option.bind (app l24 [(u36, u58, u61)]) fun u75 =>
  (F_impl_showMoves_L1 u16 x0 x1 m) (u75) ((w64 (y27 + 1))) else some l24)
def F_impl_showMoves (x0 : ((List (List (Int × Int))) × (List Int) × Int × Int)) (x1 : Int) : Option (List ((Int × Int) × (Int × Int) × Int)) :=
  Option.bind (idx x0.1 x1) fun u16 =>
  F_impl_showMoves_L1 u16 x0 x1 FU ([]) (0)
def F_impl_squareOf (x0 : (Int × Int)) (x1 : (Int × Int)) : Option Int :=
  some (w64 ((w64 ((w64 (x0.1 - x1.1)) * (w64 (x0.1 - x1.1)))) + (w64 ((w64 (x0.2 - x1.2)) * (w64 (x0.2 - x1.2))))))
def F_impl_waySums_L2 (u38 : (List ((Int × Int) × (Int × Int) × Int))) (nx29 : ((List Int) → Int → Option (List Int))) (y28 : Int) : Nat → (List Int) → Int → Option (List Int)
  | 0, _, _ => none
  | m + 1, l49, y52 => (if (decide (y52 < (List.length u38 : Int))) = true then jK1 (fun (l63 : (List Int)) => (F_impl_waySums_L2 u38 nx29 y28 m) (l63) ((w64 (y52 + 1)))) (fun k66 => Option.bind (idx u38 y52) fun u69 =>
  Option.bind (idx l49 y52) fun u87 =>
  Option.bind (F_impl_squareOf u69.1 u69.2.1) fun u91 =>
  Option.bind (idx l49 y52) fun u99 =>
  k66 ((seti l49 y52 (w64 (u87 + u91))))) else nx29 (l49) ((w64 (y28 + 1))))
def F_impl_waySums_L1 (x0 : ((List (List (Int × Int))) × (List Int) × Int × Int)) : Nat → (List Int) → Int → Option (List Int)
  | 0, _, _ => none
  | m + 1, l25, y28 => (if (decide (y28 < (List.length x0.2.1 : Int))) = true then Option.bind (F_impl_showMoves x0 y28) fun u38 =>
  F_impl_waySums_L2 u38 (F_impl_waySums_L1 x0 m) y28 FU (l25) (0) else some l25)
def F_impl_waySums (x0 : ((List (List (Int × Int))) × (List Int) × Int × Int)) : Option (List Int) :=
  Option.bind (idx x0.1 0) fun u8 =>
  Option.bind (mkL (List.length u8 : Int) 0) fun u13 =>
  F_impl_waySums_L1 x0 FU (u13) (0)
def F_impl_WaySums (x0 : ((List (List (Int × Int))) × (List Int) × Int × Int)) : Option ((List Int) × Bool) :=
  Option.bind (F_impl_IsShow x0) fun u9 =>
  (if (!u9) = true then some ([], false) else Option.bind (F_impl_waySums x0) fun u19 =>
  some (u19, true))
def F_spec_swMoves_L1 (u10 : (List (Int × Int))) (x0 : ((List (List (Int × Int))) × (List Int) × Int × Int)) (x1 : Int) : Nat → (List ((Int × Int) × (Int × Int) × Int)) → Int → Option (List ((Int × Int) × (Int × Int) × Int))
  | 0, _, _ => none
  | m + 1, l18, y21 => (if (decide (y21 < (List.length u10 : Int))) = true then Option.bind (idx u10 y21) fun u31 =>
  Option.bind (idx x0.1 (w64 (x1 + 1))) fun u48 =>
  Option.bind (idx u48 y21) fun u53 =>
  Option.bind (idx x0.2.1 x1) fun u56 =>
  Option.bind (app l18 [(u31, u53, u56)]) fun u70 =>
  (F_spec_swMoves_L1 u10 x0 x1 m) (u70) ((w64 (y21 + 1))) else some l18)
def F_spec_swMoves (x0 : ((List (List (Int × Int))) × (List Int) × Int × Int)) (x1 : Int) : Option (List ((Int × Int) × (Int × Int) × Int)) :=
  Option.bind (idx x0.1 x1) fun u10 =>
  F_spec_swMoves_L1 u10 x0 x1 FU ([]) (0)
def F_spec_stSquare (x0 : (Int × Int)) (x1 : (Int × Int)) : Option Int :=
  some (w64 ((w64 ((w64 (x0.1 - x1.1)) * (w64 (x0.1 - x1.1)))) + (w64 ((w64 (x0.2 - x1.2)) * (w64 (x0.2 - x1.2))))))
def F_spec_cpSquares_L1 (u10 : (List ((Int × Int) × (Int × Int) × Int))) : Nat → (List Int) → Int → Option (List Int)
  | 0, _, _ => none
  | m + 1, l21, y24 => (if (decide (y24 < (List.length u10 : Int))) = true then Option.bind (idx u10 y24) fun u34 =>
  Option.bind (F_spec_stSquare u34.1 u34.2.1) fun u47 =>
  Option.bind (app l21 [u47]) fun u59 =>
  (F_spec_cpSquares_L1 u10 m) (u59) ((w64 (y24 + 1))) else some l21)
def F_spec_cpSquares (x0 : ((List (List (Int × Int))) × (List Int) × Int × Int)) (x1 : Int) : Option (List Int) :=
  Option.bind (F_spec_swMoves x0 x1) fun u10 =>
  F_spec_cpSquares_L1 u10 FU ([]) (0)
def F_spec_cpWays_L2 (u38 : (List Int)) (nx29 : ((List Int) → Int → Option (List Int))) (y28 : Int) : Nat → (List Int) → Int → Option (List Int)
  | 0, _, _ => none
  | m + 1, l49, y52 => (if (decide (y52 < (List.length u38 : Int))) = true then Option.bind (idx u38 y52) fun u61 =>
  Option.bind (idx l49 y52) fun u65 =>
  Option.bind (idx l49 y52) fun u69 =>
  (F_spec_cpWays_L2 u38 nx29 y28 m) ((seti l49 y52 (w64 (u65 + u61)))) ((w64 (y52 + 1))) else nx29 (l49) ((w64 (y28 + 1))))
def F_spec_cpWays_L1 (x0 : ((List (List (Int × Int))) × (List Int) × Int × Int)) : Nat → (List Int) → Int → Option (List Int)
  | 0, _, _ => none
  | m + 1, l25, y28 => (if (decide (y28 < (List.length x0.2.1 : Int))) = true then Option.bind (F_spec_cpSquares x0 y28) fun u38 =>
  F_spec_cpWays_L2 u38 (F_spec_cpWays_L1 x0 m) y28 FU (l25) (0) else some l25)
def F_spec_cpWays (x0 : ((List (List (Int × Int))) × (List Int) × Int × Int)) : Option (List Int) :=
  Option.bind (idx x0.1 0) fun u8 =>
  Option.bind (mkL (List.length u8 : Int) 0) fun u13 =>
  F_spec_cpWays_L1 x0 FU (u13) (0)
def F_spec_WaySums (x0 : ((List (List (Int × Int))) × (List Int) × Int × Int)) : Option ((List Int) × Bool) :=
  Option.bind (F_spec_swGood x0) fun u9 =>
  (if (!u9) = true then some ([], false) else Option.bind (F_spec_cpWays x0) fun u19 =>
  some (u19, true))
def F_impl_WidestPart_L2 (u44 : (List ((Int × Int) × (Int × Int) × Int))) (y24 : Int) (k38 : (Int → Int → Option (Int × Int × Bool))) (y25 : Int) (y23 : Int) : Nat → Int → Int → Option (Int × Int × Bool)
  | 0, _, _ => none
  | m + 1, y55, y56 => (if (decide (y56 < (List.length u44 : Int))) = true then Option.bind (idx u44 y56) fun u65 =>
  Option.bind (F_impl_squareOf u65.1 u65.2.1) fun u78 =>
  (F_impl_WidestPart_L2 u44 y24 k38 y25 y23 m) ((w64 (y55 + u78))) ((w64 (y56 + 1))) else (if (decide (y24 < y55)) = true then k38 (y25) (y55) else k38 (y23) (y24)))
def F_impl_WidestPart_L1 (x0 : ((List (List (Int × Int))) × (List Int) × Int × Int)) : Nat → Int → Int → Int → Option (Int × Int × Bool)
  | 0, _, _, _ => none
  | m + 1, y23, y24, y25 => (if (decide (y25 < (List.length x0.2.1 : Int))) = true then jK2 (fun (y36 : Int) (y37 : Int) => (F_impl_WidestPart_L1 x0 m) (y36) (y37) ((w64 (y25 + 1)))) (fun k38 => Option.bind (F_impl_showMoves x0 y25) fun u44 =>
  F_impl_WidestPart_L2 u44 y24 k38 y25 y23 FU (0) (0)) else some (y23, y24, true))
def F_impl_WidestPart (x0 : ((List (List (Int × Int))) × (List Int) × Int × Int)) : Option (Int × Int × Bool) :=
  Option.bind (F_impl_IsShow x0) fun u9 =>
  (if (!u9) = true then some (0, 0, false) else F_impl_WidestPart_L1 x0 FU (0) ((-1)) (0))
def F_spec_cpSum_L1 (x0 : (List Int)) : Nat → Int → Int → Option Int
  | 0, _, _ => none
  | m + 1, y8, y9 => (if (decide (y9 < (List.length x0 : Int))) = true then Option.bind (idx x0 y9) fun u18 =>
  (F_spec_cpSum_L1 x0 m) ((w64 (y8 + u18))) ((w64 (y9 + 1))) else some y8)
def F_spec_cpSum (x0 : (List Int)) : Option Int :=
  F_spec_cpSum_L1 x0 FU (0) (0)
def F_spec_WidestPart_L1 (x0 : ((List (List (Int × Int))) × (List Int) × Int × Int)) : Nat → Int → Int → Int → Option (Int × Int × Bool)
  | 0, _, _, _ => none
  | m + 1, y23, y24, y25 => (if (decide (y25 < (List.length x0.2.1 : Int))) = true then jK2 (fun (y36 : Int) (y37 : Int) => (F_spec_WidestPart_L1 x0 m) (y36) (y37) ((w64 (y25 + 1)))) (fun k38 => Option.bind (F_spec_cpSquares x0 y25) fun u42 =>
  Option.bind (F_spec_cpSum u42) fun u50 =>
  (if (decide (y24 < u50)) = true then k38 (y25) (u50) else k38 (y23) (y24))) else some (y23, y24, true))
def F_spec_WidestPart (x0 : ((List (List (Int × Int))) × (List Int) × Int × Int)) : Option (Int × Int × Bool) :=
  Option.bind (F_spec_swGood x0) fun u9 =>
  (if (!u9) = true then some (0, 0, false) else F_spec_WidestPart_L1 x0 FU (0) ((-1)) (0))
def F_impl_between (x0 : ((Int × Int) × (Int × Int) × Int)) (x1 : ((Int × Int) × (Int × Int) × Int)) : Option ((Int × Int) × (Int × Int) × Int × Int) :=
  some (((w64 (x0.1.1 - x1.1.1)), (w64 (x0.1.2 - x1.1.2))), ((w64 ((w64 (x0.2.1.1 - x1.2.1.1)) - (w64 (x0.1.1 - x1.1.1)))), (w64 ((w64 (x0.2.1.2 - x1.2.1.2)) - (w64 (x0.1.2 - x1.1.2))))), (w64 ((w64 ((w64 (x0.1.1 - x1.1.1)) * (w64 ((w64 (x0.2.1.1 - x1.2.1.1)) - (w64 (x0.1.1 - x1.1.1)))))) + (w64 ((w64 (x0.1.2 - x1.1.2)) * (w64 ((w64 (x0.2.1.2 - x1.2.1.2)) - (w64 (x0.1.2 - x1.1.2)))))))), (w64 ((w64 ((w64 ((w64 (x0.2.1.1 - x1.2.1.1)) - (w64 (x0.1.1 - x1.1.1)))) * (w64 ((w64 (x0.2.1.1 - x1.2.1.1)) - (w64 (x0.1.1 - x1.1.1)))))) + (w64 ((w64 ((w64 (x0.2.1.2 - x1.2.1.2)) - (w64 (x0.1.2 - x1.1.2)))) * (w64 ((w64 (x0.2.1.2 - x1.2.1.2)) - (w64 (x0.1.2 - x1.1.2)))))))))
def F_impl_gcdOf_L1  : Nat → Int → Int → Option Int
  | 0, _, _ => none
  | m + 1, y7, y8 => (if (y8 != 0) = true then (if y8 = 0 then none else (F_impl_gcdOf_L1 m) (y8) ((Int.tmod y7 y8))) else some y7)
def F_impl_gcdOf (x0 : Int) (x1 : Int) : Option Int :=
  F_impl_gcdOf_L1 FU ((maxI x0 (w64 (0 - x0)))) ((maxI x1 (w64 (0 - x1))))
def F_impl_lowestTerms (x0 : Int) (x1 : Int) : Option (Int × Int) :=
  Option.bind (F_impl_gcdOf x0 x1) fun u3 =>
  (if u3 = 0 then none else (if u3 = 0 then none else some ((w64 (Int.tdiv x0 u3)), (w64 (Int.tdiv x1 u3)))))
def F_impl_leastApart (x0 : ((Int × Int) × (Int × Int) × Int)) (x1 : ((Int × Int) × (Int × Int) × Int)) : Option (Int × Int) :=
  Option.bind (F_impl_between x0 x1) fun u13 =>
  (if (decide (0 ≤ u13.2.2.1)) = true then some ((w64 ((w64 (u13.1.1 * u13.1.1)) + (w64 (u13.1.2 * u13.1.2)))), 1) else (if (decide (u13.2.2.2 ≤ (w64 (0 - u13.2.2.1)))) = true then Option.bind (F_impl_squareOf x0.2.1 x1.2.1) fun u44 =>
  some (u44, 1) else Option.bind (F_impl_lowestTerms (w64 ((w64 ((w64 (u13.1.1 * u13.2.1.2)) - (w64 (u13.1.2 * u13.2.1.1)))) * (w64 ((w64 (u13.1.1 * u13.2.1.2)) - (w64 (u13.1.2 * u13.2.1.1)))))) u13.2.2.2) fun u52 =>
  some u52))
def F_bits_Mul64 (x0 : Int) (x1 : Int) : Option (Int × Int) :=
  some ((wu64 ((wu64 ((wu64 ((shrK .u64 x0 32) * (shrK .u64 x1 32))) + (shrK .u64 (wu64 ((wu64 ((shrK .u64 x0 32) * (andK .u64 x1 4294967295))) + (shrK .u64 (wu64 ((andK .u64 x0 4294967295) * (andK .u64 x1 4294967295))) 32))) 32))) + (shrK .u64 (wu64 ((andK .u64 (wu64 ((wu64 ((shrK .u64 x0 32) * (andK .u64 x1 4294967295))) + (shrK .u64 (wu64 ((andK .u64 x0 4294967295) * (andK .u64 x1 4294967295))) 32))) 4294967295) + (wu64 ((andK .u64 x0 4294967295) * (shrK .u64 x1 32))))) 32))), (wu64 (x0 * x1)))
def F_impl_lessFraction (x0 : Int) (x1 : Int) (x2 : Int) (x3 : Int) : Option Bool :=
  Option.bind (F_bits_Mul64 (wu64 x0) (wu64 x3)) fun u3 =>
  Option.bind (F_bits_Mul64 (wu64 x2) (wu64 x1)) fun u10 =>
  jK1 (fun (y20 : Bool) => some y20) (fun k21 => (if (decide (u3.1 < u10.1)) = true then k21 (true) else (if (u3.1 == u10.1) = true then k21 ((decide (u3.2 < u10.2))) else k21 (false))))
def F_impl_closestMoves_L2 (x0 : (List ((Int × Int) × (Int × Int) × Int))) (y31 : Int) (nx32 : (Int → Int → Int → Int → Int → Option (Int × Int))) : Nat → Int → Int → Int → Int → Int → Option (Int × Int)
  | 0, _, _, _, _, _ => none
  | m + 1, y44, y45, y46, y47, y48 => (if (decide (y48 < (List.length x0 : Int))) = true then jK4 (fun (y59 : Int) (y60 : Int) (y61 : Int) (y62 : Int) => (F_impl_closestMoves_L2 x0 y31 nx32 m) (y59) (y60) (y61) (y62) ((w64 (y48 + 1)))) (fun k63 => Option.bind (idx x0 y31) fun u71 =>
  Option.bind (idx x0 y48) fun u74 =>
  Option.bind (F_impl_leastApart u71 u74) fun u77 =>
  Option.bind (F_impl_lessFraction u77.1 u77.2 y46 y47) fun u85 =>
  (if u85 = true then k63 (y31) (y48) (u77.1) (u77.2) else k63 (y44) (y45) (y46) (y47))) else nx32 (y44) (y45) (y46) (y47) ((w64 (y31 + 1))))
def F_impl_closestMoves_L1 (x0 : (List ((Int × Int) × (Int × Int) × Int))) : Nat → Int → Int → Int → Int → Int → Option (Int × Int)
  | 0, _, _, _, _, _ => none
  | m + 1, y27, y28, y29, y30, y31 => (if (decide (y31 < (List.length x0 : Int))) = true then F_impl_closestMoves_L2 x0 y31 (F_impl_closestMoves_L1 x0 m) FU (y27) (y28) (y29) (y30) ((w64 (y31 + 1))) else some (y27, y28))
def F_impl_closestMoves (x0 : (List ((Int × Int) × (Int × Int) × Int))) : Option (Int × Int) :=
  Option.bind (idx x0 0) fun u9 =>
  Option.bind (idx x0 1) fun u12 =>
  Option.bind (F_impl_leastApart u9 u12) fun u15 =>
  F_impl_closestMoves_L1 x0 FU (0) (1) (u15.1) (u15.2) (0)
def F_impl_LeastOfShow_L1 (x0 : ((List (List (Int × Int))) × (List Int) × Int × Int)) : Nat → Int → Int → Int → Option (Int × Int × Bool)
  | 0, _, _, _ => none
  | m + 1, y23, y24, y25 => (if (decide (y25 < (List.length x0.2.1 : Int))) = true then jK2 (fun (y36 : Int) (y37 : Int) => (F_impl_LeastOfShow_L1 x0 m) (y36) (y37) ((w64 (y25 + 1)))) (fun k38 => Option.bind (F_impl_showMoves x0 y25) fun u42 =>
  Option.bind (F_impl_closestMoves u42) fun u51 =>
  Option.bind (idx u42 u51.1) fun u63 =>
  Option.bind (idx u42 u51.2) fun u67 =>
  Option.bind (F_impl_leastApart u63 u67) fun u71 =>
  jK1 (fun (y82 : Bool) => (if y82 = true then k38 (u71.1) (u71.2) else k38 (y23) (y24))) (fun k83 => (if (y25 == 0) = true then k83 (true) else Option.bind (F_impl_lessFraction u71.1 u71.2 y23 y24) fun u87 =>
  k83 (u87)))) else some (y23, y24, true))
def F_impl_LeastOfShow (x0 : ((List (List (Int × Int))) × (List Int) × Int × Int)) : Option (Int × Int × Bool) :=
  jK1 (fun (y12 : Bool) => (if y12 = true then some (0, 0, false) else F_impl_LeastOfShow_L1 x0 FU (0) (0) (0))) (fun k13 => Option.bind (F_impl_IsShow x0) fun u94 =>
  (if (!u94) = true then k13 (true) else Option.bind (idx x0.1 0) fun u101 =>
  k13 ((decide ((List.length u101 : Int) < 2)))))
def F_spec_mvGood (x0 : ((Int × Int) × (Int × Int) × Int)) : Option Bool :=
  jK1 (fun (y11 : Bool) => some y11) (fun k12 => Option.bind (F_spec_stGood x0.1) fun u14 =>
  (if u14 = true then Option.bind (F_spec_stGood x0.2.1) fun u21 =>
  (if u21 = true then Option.bind (F_spec_l1In x0.2.2 1 64) fun u28 =>
  k12 (u28) else k12 (false)) else k12 (false)))
def F_spec_apGood (x0 : ((Int × Int) × (Int × Int) × Int)) (x1 : ((Int × Int) × (Int × Int) × Int)) : Option Bool :=
  jK1 (fun (y16 : Bool) => some y16) (fun k17 => Option.bind (F_spec_mvGood x0) fun u19 =>
  (if u19 = true then Option.bind (F_spec_mvGood x1) fun u26 =>
  (if u26 = true then k17 ((x0.2.2 == x1.2.2)) else k17 (false)) else k17 (false)))
def F_spec_apList_L1 (x0 : (List ((Int × Int) × (Int × Int) × Int))) : Nat → Int → Option Bool
  | 0, _ => none
  | m + 1, y7 => (if (decide (y7 < (List.length x0 : Int))) = true then Option.bind (idx x0 y7) fun u16 =>
  Option.bind (idx x0 0) fun u34 =>
  Option.bind (F_spec_apGood u34 u16) fun u37 =>
  (if (!u37) = true then some false else (F_spec_apList_L1 x0 m) ((w64 (y7 + 1)))) else Option.bind (F_spec_l1In (List.length x0 : Int) 2 12) fun u47 =>
  some u47)
def F_spec_apList (x0 : (List ((Int × Int) × (Int × Int) × Int))) : Option Bool :=
  F_spec_apList_L1 x0 FU (0)
def F_spec_apEnds (x0 : ((Int × Int) × (Int × Int) × Int)) (x1 : ((Int × Int) × (Int × Int) × Int)) : Option (Int × Int × Int × Int) :=
  some ((w64 (x0.1.1 - x1.1.1)), (w64 (x0.1.2 - x1.1.2)), (w64 (x0.2.1.1 - x1.2.1.1)), (w64 (x0.2.1.2 - x1.2.1.2)))
def F_spec_apInner (x0 : ((Int × Int) × (Int × Int) × Int)) (x1 : ((Int × Int) × (Int × Int) × Int)) : Option (Int × Int) :=
  Option.bind (F_spec_apEnds x0 x1) fun u13 =>
  jK1 (fun (y26 : Bool) => (if y26 = true then some (0, 0) else some ((w64 (0 - (w64 ((w64 (u13.1 * (w64 (u13.2.2.1 - u13.1)))) + (w64 (u13.2.1 * (w64 (u13.2.2.2 - u13.2.1)))))))), (w64 ((w64 ((w64 (u13.2.2.1 - u13.1)) * (w64 (u13.2.2.1 - u13.1)))) + (w64 ((w64 (u13.2.2.2 - u13.2.1)) * (w64 (u13.2.2.2 - u13.2.1))))))))) (fun k27 => (if (decide ((w64 (0 - (w64 ((w64 (u13.1 * (w64 (u13.2.2.1 - u13.1)))) + (w64 (u13.2.1 * (w64 (u13.2.2.2 - u13.2.1)))))))) ≤ 0)) = true then k27 (true) else k27 ((decide ((w64 ((w64 ((w64 (u13.2.2.1 - u13.1)) * (w64 (u13.2.2.1 - u13.1)))) + (w64 ((w64 (u13.2.2.2 - u13.2.1)) * (w64 (u13.2.2.2 - u13.2.1)))))) ≤ (w64 (0 - (w64 ((w64 (u13.1 * (w64 (u13.2.2.1 - u13.1)))) + (w64 (u13.2.1 * (w64 (u13.2.2.2 - u13.2.1)))))))))))))
def F_spec_l1Abs (x0 : Int) : Option Int :=
  Option.bind (F_spec_l1Most x0 (w64 (0 - x0))) fun u3 =>
  some u3
def F_spec_mvPart_L1 (x0 : Int) (x1 : Int) : Nat → Int → Int → Option (Int × Int)
  | 0, _, _ => none
  | m + 1, y13, y14 => (if (decide (0 < y14)) = true then (if y14 = 0 then none else (F_spec_mvPart_L1 x0 x1 m) (y14) ((Int.tmod y13 y14))) else (if y13 = 0 then none else (if y13 = 0 then none else some ((w64 (Int.tdiv x0 y13)), (w64 (Int.tdiv x1 y13))))))
def F_spec_mvPart (x0 : Int) (x1 : Int) : Option (Int × Int) :=
  Option.bind (F_spec_l1Abs x0) fun u3 =>
  F_spec_mvPart_L1 x0 x1 FU (u3) (x1)
def F_spec_apLeast (x0 : ((Int × Int) × (Int × Int) × Int)) (x1 : ((Int × Int) × (Int × Int) × Int)) : Option (Int × Int) :=
  Option.bind (F_spec_apEnds x0 x1) fun u13 =>
  Option.bind (F_spec_apInner x0 x1) fun u21 =>
  (if (decide (0 < u21.2)) = true then Option.bind (F_spec_mvPart (w64 ((w64 ((w64 (u13.1 * u13.2.2.2)) - (w64 (u13.2.1 * u13.2.2.1)))) * (w64 ((w64 (u13.1 * u13.2.2.2)) - (w64 (u13.2.1 * u13.2.2.1)))))) u21.2) fun u31 =>
  some u31 else Option.bind (F_spec_l1Least (w64 ((w64 (u13.1 * u13.1)) + (w64 (u13.2.1 * u13.2.1)))) (w64 ((w64 (u13.2.2.1 * u13.2.2.1)) + (w64 (u13.2.2.2 * u13.2.2.2))))) fun u38 =>
  some (u38, 1))
def F_spec_apLess (x0 : Int) (x1 : Int) (x2 : Int) (x3 : Int) : Option Bool :=
  (if x1 = 0 then none else (if x3 = 0 then none else (if ((w64 (Int.tdiv x0 x1)) != (w64 (Int.tdiv x2 x3))) = true then (if x1 = 0 then none else (if x3 = 0 then none else some (decide ((w64 (Int.tdiv x0 x1)) < (w64 (Int.tdiv x2 x3)))))) else (if x1 = 0 then none else (if x3 = 0 then none else some (decide ((w64 ((Int.tmod x0 x1) * x3)) < (w64 ((Int.tmod x2 x3) * x1)))))))))
def F_spec_apClosest_L2 (x0 : (List ((Int × Int) × (Int × Int) × Int))) (u40 : ((Int × Int) × (Int × Int) × Int)) (y31 : Int) (nx32 : (Int → Int → Int → Int → Int → Option (Int × Int))) : Nat → Int → Int → Int → Int → Int → Option (Int × Int)
  | 0, _, _, _, _, _ => none
  | m + 1, y56, y57, y58, y59, y60 => (if (decide (y60 < (List.length x0 : Int))) = true then jK4 (fun (y71 : Int) (y72 : Int) (y73 : Int) (y74 : Int) => (F_spec_apClosest_L2 x0 u40 y31 nx32 m) (y71) (y72) (y73) (y74) ((w64 (y60 + 1)))) (fun k75 => Option.bind (idx x0 y60) fun u83 =>
  Option.bind (F_spec_apLeast u40 u83) fun u86 =>
  Option.bind (F_spec_apLess u86.1 u86.2 y58 y59) fun u94 =>
  (if u94 = true then k75 (y31) (y60) (u86.1) (u86.2) else k75 (y56) (y57) (y58) (y59))) else nx32 (y56) (y57) (y58) (y59) ((w64 (y31 + 1))))
def F_spec_apClosest_L1 (x0 : (List ((Int × Int) × (Int × Int) × Int))) : Nat → Int → Int → Int → Int → Int → Option (Int × Int)
  | 0, _, _, _, _, _ => none
  | m + 1, y27, y28, y29, y30, y31 => (if (decide (y31 < (List.length x0 : Int))) = true then Option.bind (idx x0 y31) fun u40 =>
  F_spec_apClosest_L2 x0 u40 y31 (F_spec_apClosest_L1 x0 m) FU (y27) (y28) (y29) (y30) ((w64 (y31 + 1))) else some (y27, y28))
def F_spec_apClosest (x0 : (List ((Int × Int) × (Int × Int) × Int))) : Option (Int × Int) :=
  Option.bind (idx x0 0) fun u9 =>
  Option.bind (idx x0 1) fun u12 =>
  Option.bind (F_spec_apLeast u9 u12) fun u15 =>
  F_spec_apClosest_L1 x0 FU (0) (1) (u15.1) (u15.2) (0)
def F_spec_LeastOfAll (x0 : (List ((Int × Int) × (Int × Int) × Int))) : Option (Int × Int × Bool) :=
  Option.bind (F_spec_apList x0) fun u4 =>
  (if (!u4) = true then some (0, 0, false) else Option.bind (F_spec_apClosest x0) fun u13 =>
  Option.bind (idx x0 u13.1) fun u25 =>
  Option.bind (idx x0 u13.2) fun u28 =>
  Option.bind (F_spec_apLeast u25 u28) fun u31 =>
  some (u31.1, u31.2, true))
def F_spec_LeastOfShow_L1 (x0 : ((List (List (Int × Int))) × (List Int) × Int × Int)) : Nat → Int → Int → Int → Option (Int × Int × Bool)
  | 0, _, _, _ => none
  | m + 1, y23, y24, y25 => (if (decide (y25 < (List.length x0.2.1 : Int))) = true then jK2 (fun (y36 : Int) (y37 : Int) => (F_spec_LeastOfShow_L1 x0 m) (y36) (y37) ((w64 (y25 + 1)))) (fun k38 => Option.bind (F_spec_swMoves x0 y25) fun u42 =>
  Option.bind (F_spec_LeastOfAll u42) fun u50 =>
  jK1 (fun (y60 : Bool) => (if y60 = true then k38 (u50.1) (u50.2.1) else k38 (y23) (y24))) (fun k61 => (if (decide (y23 < 0)) = true then k61 (true) else Option.bind (F_spec_apLess u50.1 u50.2.1 y23 y24) fun u66 =>
  k61 (u66)))) else some (y23, y24, true))
def F_spec_LeastOfShow (x0 : ((List (List (Int × Int))) × (List Int) × Int × Int)) : Option (Int × Int × Bool) :=
  jK1 (fun (y12 : Bool) => (if y12 = true then some (0, 0, false) else F_spec_LeastOfShow_L1 x0 FU ((-1)) (1) (0))) (fun k13 => Option.bind (F_spec_swGood x0) fun u73 =>
  (if (!u73) = true then k13 (true) else Option.bind (idx x0.1 0) fun u80 =>
  k13 ((decide ((List.length u80 : Int) < 2)))))
def F_impl_stayApart (x0 : ((Int × Int) × (Int × Int) × Int)) (x1 : ((Int × Int) × (Int × Int) × Int)) (x2 : Int) : Option Bool :=
  Option.bind (F_impl_leastApart x0 x1) fun u13 =>
  some (decide ((w64 ((w64 (x2 * x2)) * u13.2)) ≤ u13.1))
def F_impl_pairsTooClose_L2 (x0 : (List ((Int × Int) × (Int × Int) × Int))) (y17 : Int) (x1 : Int) (nx18 : ((List (List Int)) → Int → Option (List (List Int)))) : Nat → (List (List Int)) → Int → Option (List (List Int))
  | 0, _, _ => none
  | m + 1, l30, y33 => (if (decide (y33 < (List.length x0 : Int))) = true then jK1 (fun (l44 : (List (List Int))) => (F_impl_pairsTooClose_L2 x0 y17 x1 nx18 m) (l44) ((w64 (y33 + 1)))) (fun k47 => Option.bind (idx x0 y17) fun u55 =>
  Option.bind (idx x0 y33) fun u58 =>
  Option.bind (F_impl_stayApart u55 u58 x1) fun u61 =>
  (if (!u61) = true then Option.bind (app l30 [[y17, y33]]) fun u84 =>
  k47 (u84) else k47 (l30))) else nx18 (l30) ((w64 (y17 + 1))))
def F_impl_pairsTooClose_L1 (x0 : (List ((Int × Int) × (Int × Int) × Int))) (x1 : Int) : Nat → (List (List Int)) → Int → Option (List (List Int))
  | 0, _, _ => none
  | m + 1, l14, y17 => (if (decide (y17 < (List.length x0 : Int))) = true then F_impl_pairsTooClose_L2 x0 y17 x1 (F_impl_pairsTooClose_L1 x0 x1 m) FU (l14) ((w64 (y17 + 1))) else some l14)
def F_impl_pairsTooClose (x0 : (List ((Int × Int) × (Int × Int) × Int))) (x1 : Int) : Option (List (List Int)) :=
  F_impl_pairsTooClose_L1 x0 x1 FU ([]) (0)
def F_impl_LeastToKeep_L2 (u34 : (List ((Int × Int) × (Int × Int) × Int))) (nx25 : (Int → Int → Option (Int × Bool))) (y24 : Int) : Nat → Int → Option (Int × Bool)
  | 0, _ => none
  | m + 1, y45 => Option.bind (F_impl_pairsTooClose u34 y45) fun u51 =>
  (if (decide (0 < (List.length u51 : Int))) = true then (F_impl_LeastToKeep_L2 u34 nx25 y24 m) ((w64 (y45 - 1))) else nx25 (y45) ((w64 (y24 + 1))))
def F_impl_LeastToKeep_L1 (x0 : ((List (List (Int × Int))) × (List Int) × Int × Int)) : Nat → Int → Int → Option (Int × Bool)
  | 0, _, _ => none
  | m + 1, y23, y24 => (if (decide (y24 < (List.length x0.2.1 : Int))) = true then Option.bind (F_impl_showMoves x0 y24) fun u34 =>
  F_impl_LeastToKeep_L2 u34 (F_impl_LeastToKeep_L1 x0 m) y24 FU (y23) else some (y23, true))
def F_impl_LeastToKeep (x0 : ((List (List (Int × Int))) × (List Int) × Int × Int)) : Option (Int × Bool) :=
  Option.bind (F_impl_IsShow x0) fun u9 =>
  (if (!u9) = true then some (0, false) else F_impl_LeastToKeep_L1 x0 FU (80) (0))
def F_spec_LeastToKeep_L1 (u27 : (Int × Int × Bool)) : Nat → Int → Option (Int × Bool)
  | 0, _ => none
  | m + 1, y38 => (if (decide (u27.1 < (w64 ((w64 (y38 * y38)) * u27.2.1)))) = true then (F_spec_LeastToKeep_L1 u27 m) ((w64 (y38 - 1))) else some (y38, true))
def F_spec_LeastToKeep (x0 : ((List (List (Int × Int))) × (List Int) × Int × Int)) : Option (Int × Bool) :=
  Option.bind (F_spec_swGood x0) fun u9 =>
  (if (!u9) = true then some (0, false) else Option.bind (idx x0.1 0) fun u19 =>
  (if (decide ((List.length u19 : Int) < 2)) = true then some (80, true) else Option.bind (F_spec_LeastOfShow x0) fun u27 =>
  F_spec_LeastToKeep_L1 u27 FU (80)))
def F_laws_qSpots_L1 (x0 : (List (Int × Int))) (x1 : (List (Int × Int))) : Nat → Int → Option Bool
  | 0, _ => none
  | m + 1, y11 => (if (decide (y11 < (List.length x0 : Int))) = true then Option.bind (idx x0 y11) fun u26 =>
  Option.bind (idx x1 y11) fun u29 =>
  (if (!(eqv_Spot u26 u29)) = true then some false else (F_laws_qSpots_L1 x0 x1 m) ((w64 (y11 + 1)))) else some true)
def F_laws_qSpots (x0 : (List (Int × Int))) (x1 : (List (Int × Int))) : Option Bool :=
  (if ((List.length x0 : Int) != (List.length x1 : Int)) = true then some false else F_laws_qSpots_L1 x0 x1 FU (0))
def F_impl_isPart (x0 : ((List (List (Int × Int))) × (List Int) × Int × Int)) (x1 : Int) : Option Bool :=
  jK1 (fun (y11 : Bool) => some y11) (fun k12 => Option.bind (F_impl_IsShow x0) fun u14 =>
  (if u14 = true then Option.bind (F_impl_within x1 0 (w64 ((List.length x0.2.1 : Int) - 1))) fun u21 =>
  k12 (u21) else k12 (false)))
def F_impl_ShowMoves (x0 : ((List (List (Int × Int))) × (List Int) × Int × Int)) (x1 : Int) : Option ((List ((Int × Int) × (Int × Int) × Int)) × Bool) :=
  Option.bind (F_impl_isPart x0 x1) fun u9 =>
  (if (!u9) = true then some ([], false) else Option.bind (F_impl_showMoves x0 x1) fun u19 =>
  some (u19, true))
def F_impl_SquareOf (x0 : (Int × Int)) (x1 : (Int × Int)) : Option (Int × Bool) :=
  jK1 (fun (y17 : Bool) => (if y17 = true then some (0, false) else Option.bind (F_impl_squareOf x0 x1) fun u23 =>
  some (u23, true))) (fun k18 => Option.bind (F_impl_IsSpot x0) fun u29 =>
  (if (!u29) = true then k18 (true) else Option.bind (F_impl_IsSpot x1) fun u36 =>
  k18 ((!u36))))
def F_impl_ClosePairs (x0 : ((List (List (Int × Int))) × (List Int) × Int × Int)) (x1 : Int) : Option ((List (List Int)) × Bool) :=
  Option.bind (F_impl_isPart x0 x1) fun u9 =>
  (if (!u9) = true then some ([], false) else Option.bind (F_impl_showMoves x0 x1) fun u24 =>
  Option.bind (F_impl_pairsTooClose u24 x0.2.2.1) fun u34 =>
  some (u34, true))
def F_laws_qSum_L1 (x0 : (List Int)) : Nat → Int → Int → Option Int
  | 0, _, _ => none
  | m + 1, y8, y9 => (if (decide (y9 < (List.length x0 : Int))) = true then Option.bind (idx x0 y9) fun u18 =>
  (F_laws_qSum_L1 x0 m) ((w64 (y8 + u18))) ((w64 (y9 + 1))) else some y8)
def F_laws_qSum (x0 : (List Int)) : Option Int :=
  F_laws_qSum_L1 x0 FU (0) (0)
def F_laws_qLess (x0 : Int) (x1 : Int) (x2 : Int) (x3 : Int) : Option Bool :=
  (if x1 = 0 then none else (if x3 = 0 then none else (if ((w64 (Int.tdiv x0 x1)) != (w64 (Int.tdiv x2 x3))) = true then (if x1 = 0 then none else (if x3 = 0 then none else some (decide ((w64 (Int.tdiv x0 x1)) < (w64 (Int.tdiv x2 x3)))))) else (if x1 = 0 then none else (if x3 = 0 then none else some (decide ((w64 ((Int.tmod x0 x1) * x3)) < (w64 ((Int.tmod x2 x3) * x1)))))))))
def F_laws_big (x0 : (List Int)) (x1 : (List Int)) : Option Bool :=
  jK1 (fun (y6 : Bool) => some y6) (fun k7 => (if (decide (1048576 < (List.length x0 : Int))) = true then k7 (true) else k7 ((decide ((w64 (1048576 - (List.length x0 : Int))) < (List.length x1 : Int))))))
def F_spec_DrawAddShowChart (x0 : (List Int)) : Option (((List (List (Int × Int))) × (List Int) × Int × Int) × (List (Int × Int)) × Int) :=
  Option.bind (F_spec_l1Cur__show__mut__box (x0, 0, 0)) fun u14 =>
  Option.bind (F_spec_l1Cur__chart__mut__box (x0, u14.2.2.1, u14.2.2.2)) fun u34 =>
  jK3 (fun (y46 : Int) (y47 : Int) (l48 : (List (Int × Int))) => Option.bind (F_spec_l1Cur__among__mut__box (x0, y46, y47) [0, 65]) fun u70 =>
  Option.bind (F_spec_l1Cur__among__mut__box (x0, u70.2.2.1, u70.2.2.2) [1, 8, 64, u70.1]) fun u88 =>
  some (u14.1, l48, u88.1)) (fun k51 => jK3 (fun (y105 : Int) (y106 : Int) (y107 : Bool) => (if y107 = true then Option.bind (idx u14.1.1 0) fun u111 =>
  Option.bind (F_spec_l1Least 12 (List.length u111 : Int)) fun u117 =>
  Option.bind (F_spec_l1Most 1 u117) fun u123 =>
  Option.bind (F_spec_l1Cur__chartOf__mut__box (x0, y105, y106) u123) fun u129 =>
  k51 (u129.2.2.1) (u129.2.2.2) (u129.1) else k51 (y105) (y106) (u34.1))) (fun k108 => (if (decide (0 < (List.length u14.1.1 : Int))) = true then Option.bind (F_spec_l1Cur__one__mut__box (x0, u34.2.2.1, u34.2.2.2) 4) fun u138 =>
  k108 (u138.2.2.1) (u138.2.2.2) ((!u138.1)) else k108 (u34.2.2.1) (u34.2.2.2) (false))))
def F_impl_copyInts (x0 : (List Int)) : Option (List Int) :=
  Option.bind (app [] x0) fun u9 =>
  some u9
def F_impl_copyShow_L1 (x0 : ((List (List (Int × Int))) × (List Int) × Int × Int)) (l20 : (List Int)) (y23 : Int) (y24 : Int) : Nat → (List (List (Int × Int))) → Int → Option ((List (List (Int × Int))) × (List Int) × Int × Int)
  | 0, _, _ => none
  | m + 1, l32, y35 => (if (decide (y35 < (List.length x0.1 : Int))) = true then jK1 (fun (l46 : (List (List (Int × Int)))) => (F_impl_copyShow_L1 x0 l20 y23 y24 m) (l46) ((w64 (y35 + 1)))) (fun k49 => Option.bind (idx x0.1 y35) fun u52 =>
  Option.bind (app [] u52) fun u74 =>
  Option.bind (app l32 [u74]) fun u94 =>
  k49 (u94)) else some (l32, l20, y23, y24))
def F_impl_copyShow (x0 : ((List (List (Int × Int))) × (List Int) × Int × Int)) : Option ((List (List (Int × Int))) × (List Int) × Int × Int) :=
  jK4 (fun (l17 : (List (List (Int × Int)))) (l20 : (List Int)) (y23 : Int) (y24 : Int) => F_impl_copyShow_L1 x0 l20 y23 y24 FU (l17) (0)) (fun k25 => Option.bind (F_impl_copyInts x0.2.1) fun u228 =>
  k25 ([]) (u228) (x0.2.2.1) (x0.2.2.2))
def F_impl_asShow__take (x0 : ((List (List (Int × Int))) × (List Int) × Int × Int)) : Option (((List (List (Int × Int))) × (List Int) × Int × Int) × Bool) :=
  Option.bind (F_impl_IsShow x0) fun u14 =>
  (if (!u14) = true then some (([], [], 0, 0), false) else some (x0, true))
def F_impl_AddShowChart (x0 : ((List (List (Int × Int))) × (List Int) × Int × Int)) (x1 : (List (Int × Int))) (x2 : Int) : Option (((List (List (Int × Int))) × (List Int) × Int × Int) × Bool) :=
  Option.bind (F_impl_IsShow x0) fun u14 =>
  (if (!u14) = true then some (([], [], 0, 0), false) else Option.bind (F_impl_copyShow x0) fun u29 =>
  jK1 (fun (l52 : (List (List (Int × Int)))) => Option.bind (app u29.2.1 [x2]) fun u64 =>
  Option.bind (F_impl_asShow__take (l52, u64, u29.2.2.1, u29.2.2.2)) fun u76 =>
  some u76) (fun k55 => Option.bind (app [] x1) fun u106 =>
  Option.bind (app u29.1 [u106]) fun u126 =>
  k55 (u126)))
def F_spec_swOwn_L1 (x0 : ((List (List (Int × Int))) × (List Int) × Int × Int)) (l17 : (List Int)) (y20 : Int) (y21 : Int) : Nat → (List (List (Int × Int))) → Int → Option ((List (List (Int × Int))) × (List Int) × Int × Int)
  | 0, _, _ => none
  | m + 1, l29, y32 => (if (decide (y32 < (List.length x0.1 : Int))) = true then jK1 (fun (l44 : (List (List (Int × Int)))) => (F_spec_swOwn_L1 x0 l17 y20 y21 m) (l44) ((w64 (y32 + 1)))) (fun k47 => Option.bind (idx x0.1 y32) fun u50 =>
  Option.bind (F_spec_chOwn u50) fun u60 =>
  Option.bind (app l29 [u60]) fun u83 =>
  k47 (u83)) else some (l29, l17, y20, y21))
def F_spec_swOwn (x0 : ((List (List (Int × Int))) × (List Int) × Int × Int)) : Option ((List (List (Int × Int))) × (List Int) × Int × Int) :=
  jK3 (fun (l17 : (List Int)) (y20 : Int) (y21 : Int) => F_spec_swOwn_L1 x0 l17 y20 y21 FU ([]) (0)) (fun k22 => Option.bind (F_spec_l1Own x0.2.1) fun u167 =>
  k22 (u167) (x0.2.2.1) (x0.2.2.2))
def F_spec_swIf__take (x0 : ((List (List (Int × Int))) × (List Int) × Int × Int)) : Option (((List (List (Int × Int))) × (List Int) × Int × Int) × Bool) :=
  Option.bind (F_spec_swGood x0) fun u14 =>
  (if (!u14) = true then some (([], [], 0, 0), false) else some (x0, true))
def F_spec_AddShowChart (x0 : ((List (List (Int × Int))) × (List Int) × Int × Int)) (x1 : (List (Int × Int))) (x2 : Int) : Option (((List (List (Int × Int))) × (List Int) × Int × Int) × Bool) :=
  Option.bind (F_spec_swGood x0) fun u14 =>
  (if (!u14) = true then some (([], [], 0, 0), false) else Option.bind (F_spec_swOwn x0) fun u29 =>
  jK1 (fun (l52 : (List (List (Int × Int)))) => Option.bind (app u29.2.1 [x2]) fun u64 =>
  Option.bind (F_spec_swIf__take (l52, u64, u29.2.2.1, u29.2.2.2)) fun u76 =>
  some u76) (fun k55 => Option.bind (F_spec_chOwn x1) fun u95 =>
  Option.bind (app u29.1 [u95]) fun u118 =>
  k55 (u118)))
def F_laws_pSameSpots_L1 (x0 : (List (Int × Int))) (x1 : (List (Int × Int))) : Nat → Int → Option Bool
  | 0, _ => none
  | m + 1, y11 => (if (decide (y11 < (List.length x0 : Int))) = true then Option.bind (idx x0 y11) fun u26 =>
  Option.bind (idx x1 y11) fun u29 =>
  (if (!(eqv_Spot u26 u29)) = true then some false else (F_laws_pSameSpots_L1 x0 x1 m) ((w64 (y11 + 1)))) else some true)
def F_laws_pSameSpots (x0 : (List (Int × Int))) (x1 : (List (Int × Int))) : Option Bool :=
  (if ((List.length x0 : Int) != (List.length x1 : Int)) = true then some false else F_laws_pSameSpots_L1 x0 x1 FU (0))
def F_laws_pSameCharts_L1 (x0 : (List (List (Int × Int)))) (x1 : (List (List (Int × Int)))) : Nat → Int → Option Bool
  | 0, _ => none
  | m + 1, y11 => (if (decide (y11 < (List.length x0 : Int))) = true then Option.bind (idx x0 y11) fun u26 =>
  Option.bind (idx x1 y11) fun u31 =>
  Option.bind (F_laws_pSameSpots u26 u31) fun u36 =>
  (if (!u36) = true then some false else (F_laws_pSameCharts_L1 x0 x1 m) ((w64 (y11 + 1)))) else some true)
def F_laws_pSameCharts (x0 : (List (List (Int × Int)))) (x1 : (List (List (Int × Int)))) : Option Bool :=
  (if ((List.length x0 : Int) != (List.length x1 : Int)) = true then some false else F_laws_pSameCharts_L1 x0 x1 FU (0))
def F_laws_sameInts_L1 (x0 : (List Int)) (x1 : (List Int)) : Nat → Int → Option Bool
  | 0, _ => none
  | m + 1, y11 => (if (decide (y11 < (List.length x0 : Int))) = true then Option.bind (idx x0 y11) fun u26 =>
  Option.bind (idx x1 y11) fun u29 =>
  (if (u26 != u29) = true then some false else (F_laws_sameInts_L1 x0 x1 m) ((w64 (y11 + 1)))) else some true)
def F_laws_sameInts (x0 : (List Int)) (x1 : (List Int)) : Option Bool :=
  (if ((List.length x0 : Int) != (List.length x1 : Int)) = true then some false else F_laws_sameInts_L1 x0 x1 FU (0))
def F_laws_pSameShow (x0 : ((List (List (Int × Int))) × (List Int) × Int × Int)) (x1 : ((List (List (Int × Int))) × (List Int) × Int × Int)) : Option Bool :=
  jK1 (fun (y16 : Bool) => some y16) (fun k17 => Option.bind (F_laws_pSameCharts x0.1 x1.1) fun u19 =>
  (if u19 = true then Option.bind (F_laws_sameInts x0.2.1 x1.2.1) fun u26 =>
  (if u26 = true then (if (x0.2.2.1 == x1.2.2.1) = true then k17 ((x0.2.2.2 == x1.2.2.2)) else k17 (false)) else k17 (false)) else k17 (false)))
def F_slices_Delete_impl_Spot_impl_Spot__take (x0 : (List (List (Int × Int)))) (x1 : Int) (x2 : Int) : Option (List (List (Int × Int))) :=
  Option.bind (sl x0 x1 x2) fun u3 =>
  (if (x1 == x2) = true then some x0 else Option.bind (sl x0 0 x1) fun u16 =>
  Option.bind (sl x0 x2 (List.length x0 : Int)) fun u21 =>
  Option.bind (cutL x0 x1 x2) fun u26 =>
  some u26)
def F_slices_Delete_int_int__take (x0 : (List Int)) (x1 : Int) (x2 : Int) : Option (List Int) :=
  Option.bind (sl x0 x1 x2) fun u3 =>
  (if (x1 == x2) = true then some x0 else Option.bind (sl x0 0 x1) fun u16 =>
  Option.bind (sl x0 x2 (List.length x0 : Int)) fun u21 =>
  Option.bind (cutL x0 x1 x2) fun u26 =>
  some u26)
def F_impl_DropShowChart (x0 : ((List (List (Int × Int))) × (List Int) × Int × Int)) (x1 : Int) : Option (((List (List (Int × Int))) × (List Int) × Int × Int) × Bool) :=
  jK1 (fun (y17 : Bool) => (if y17 = true then some (([], [], 0, 0), false) else Option.bind (F_impl_copyShow x0) fun u29 =>
  Option.bind (F_slices_Delete_impl_Spot_impl_Spot__take u29.1 x1 (w64 (x1 + 1))) fun u50 =>
  jK1 (fun (l66 : (List Int)) => Option.bind (F_impl_asShow__take (u50, l66, u29.2.2.1, u29.2.2.2)) fun u72 =>
  some u72) (fun k69 => (if (x1 == 0) = true then Option.bind (F_slices_Delete_int_int__take u29.2.1 0 1) fun u88 =>
  k69 (u88) else (if (decide ((w64 ((List.length u29.2.1 : Int) - 1)) < x1)) = true then Option.bind (F_slices_Delete_int_int__take u29.2.1 (w64 ((List.length u29.2.1 : Int) - 1)) (w64 ((w64 ((List.length u29.2.1 : Int) - 1)) + 1))) fun u102 =>
  k69 (u102) else jK1 (fun (l118 : (List Int)) => Option.bind (F_slices_Delete_int_int__take l118 x1 (w64 (x1 + 1))) fun u123 =>
  k69 (u123)) (fun k121 => Option.bind (idx u29.2.1 (w64 (x1 - 1))) fun u140 =>
  Option.bind (idx u29.2.1 x1) fun u144 =>
  Option.bind (idx u29.2.1 (w64 (x1 - 1))) fun u148 =>
  k121 ((seti u29.2.1 (w64 (x1 - 1)) (w64 (u140 + u144)))))))))) (fun k18 => Option.bind (F_impl_IsShow x0) fun u217 =>
  (if (!u217) = true then k18 (true) else Option.bind (F_impl_within x1 0 (w64 ((List.length x0.1 : Int) - 1))) fun u224 =>
  k18 ((!u224))))
def F_spec_DrawDropShowChart (x0 : (List Int)) : Option (((List (List (Int × Int))) × (List Int) × Int × Int) × Int) :=
  Option.bind (F_spec_l1Cur__show__mut__box (x0, 0, 0)) fun u14 =>
  Option.bind (F_spec_l1Cur__pick__mut__box (x0, u14.2.2.1, u14.2.2.2) 16) fun u39 =>
  Option.bind (F_spec_l1Cur__pick__mut__box (x0, u39.2.2.1, u39.2.2.2) (w64 ((List.length u14.1.1 : Int) + (w64 (Int.tdiv u39.1 15))))) fun u47 =>
  Option.bind (F_spec_l1Cur__pick__mut__box (x0, u47.2.2.1, u47.2.2.2) 24) fun u55 =>
  some (u14.1, (w64 (u47.1 - (w64 (Int.tdiv u55.1 23)))))
def F_spec_swIf__take__fr1 (x0 : ((List (List (Int × Int))) × (List Int) × Int × Int)) : Option (((List (List (Int × Int))) × (List Int) × Int × Int) × Bool) :=
  Option.bind (F_spec_swGood x0) fun u14 =>
  (if (!u14) = true then some (([], [], 0, 0), false) else some (x0, true))
def F_spec_DropShowChart (x0 : ((List (List (Int × Int))) × (List Int) × Int × Int)) (x1 : Int) : Option (((List (List (Int × Int))) × (List Int) × Int × Int) × Bool) :=
  jK1 (fun (y17 : Bool) => (if y17 = true then some (([], [], 0, 0), false) else Option.bind (F_spec_swOwn x0) fun u29 =>
  jK1 (fun (l52 : (List (List (Int × Int)))) => jK1 (fun (l61 : (List Int)) => Option.bind (F_spec_swIf__take__fr1 (l52, l61, u29.2.2.1, u29.2.2.2)) fun u67 =>
  some u67) (fun k64 => (if (x1 == 0) = true then Option.bind (sl u29.2.1 1 (List.length u29.2.1 : Int)) fun u83 =>
  k64 (u83) else (if (x1 == (w64 ((List.length x0.1 : Int) - 1))) = true then Option.bind (sl u29.2.1 0 (w64 (x1 - 1))) fun u95 =>
  k64 (u95) else jK1 (fun (l115 : (List Int)) => Option.bind (idx x0.2.1 (w64 (x1 - 1))) fun u125 =>
  Option.bind (idx x0.2.1 x1) fun u128 =>
  Option.bind (idx l115 (w64 (x1 - 1))) fun u131 =>
  k64 ((seti l115 (w64 (x1 - 1)) (w64 (u125 + u128))))) (fun k118 => Option.bind (sl u29.2.1 0 x1) fun u146 =>
  Option.bind (sl u29.2.1 (w64 (x1 + 1)) (List.length u29.2.1 : Int)) fun u151 =>
  Option.bind (cutL u29.2.1 x1 (w64 (x1 + 1))) fun u156 =>
  k118 (u156)))))) (fun k55 => Option.bind (sl u29.1 0 x1) fun u209 =>
  Option.bind (sl u29.1 (w64 (x1 + 1)) (List.length u29.1 : Int)) fun u214 =>
  Option.bind (cutL u29.1 x1 (w64 (x1 + 1))) fun u219 =>
  k55 (u219)))) (fun k18 => Option.bind (F_spec_swGood x0) fun u267 =>
  (if (!u267) = true then k18 (true) else Option.bind (F_spec_l1In x1 0 (w64 ((List.length x0.1 : Int) - 1))) fun u274 =>
  k18 ((!u274))))
def F_impl_totalCounts_L1 (x0 : ((List (List (Int × Int))) × (List Int) × Int × Int)) : Nat → Int → Int → Option Int
  | 0, _, _ => none
  | m + 1, y13, y14 => (if (decide (y14 < (List.length x0.2.1 : Int))) = true then Option.bind (idx x0.2.1 y14) fun u23 =>
  (F_impl_totalCounts_L1 x0 m) ((w64 (y13 + u23))) ((w64 (y14 + 1))) else some y13)
def F_impl_totalCounts (x0 : ((List (List (Int × Int))) × (List Int) × Int × Int)) : Option Int :=
  F_impl_totalCounts_L1 x0 FU (0) (0)
def F_impl_TotalCounts (x0 : ((List (List (Int × Int))) × (List Int) × Int × Int)) : Option (Int × Bool) :=
  Option.bind (F_impl_IsShow x0) fun u9 =>
  (if (!u9) = true then some (0, false) else Option.bind (F_impl_totalCounts x0) fun u18 =>
  some (u18, true))
def F_spec_l1Cur__partOf__mut__box (x0 : ((List Int) × Int × Int)) (x1 : ((List (List (Int × Int))) × (List Int) × Int × Int)) : Option (Int × ((List Int) × Int × Int)) :=
  Option.bind (F_spec_l1Cur__pick__mut__box x0 16) fun u13 =>
  Option.bind (F_spec_l1Cur__pick__mut__box (x0.1, u13.2.2.1, u13.2.2.2) (w64 ((List.length x1.2.1 : Int) + (w64 (Int.tdiv u13.1 15))))) fun u21 =>
  Option.bind (F_spec_l1Cur__pick__mut__box (x0.1, u21.2.2.1, u21.2.2.2) 24) fun u29 =>
  some ((w64 (u21.1 - (w64 (Int.tdiv u29.1 23)))), (x0.1, u29.2.2.1, u29.2.2.2))
def F_spec_DrawStretchShow (x0 : (List Int)) : Option (((List (List (Int × Int))) × (List Int) × Int × Int) × Int × Int) :=
  Option.bind (F_spec_l1Cur__show__mut__box (x0, 0, 0)) fun u14 =>
  jK6 (fun (l37 : (List (List (Int × Int)))) (l40 : (List Int)) (y43 : Int) (y44 : Int) (y45 : Int) (y46 : Int) => some ((l37, l40, y43, y44), y45, y46)) (fun k47 => Option.bind (F_spec_l1Cur__partOf__mut__box (x0, u14.2.2.1, u14.2.2.2) u14.1) fun u54 =>
  Option.bind (F_spec_l1Cur__among__mut__box (x0, u54.2.2.1, u54.2.2.2) [0, 65]) fun u73 =>
  Option.bind (F_spec_l1Cur__among__mut__box (x0, u73.2.2.1, u73.2.2.2) [1, 8, 10, 64, u73.1]) fun u91 =>
  k47 (u14.1.1) (u14.1.2.1) (u14.1.2.2.1) (u14.1.2.2.2) (u54.1) (u91.1))
def F_impl_StretchShow (x0 : ((List (List (Int × Int))) × (List Int) × Int × Int)) (x1 : Int) (x2 : Int) : Option (((List (List (Int × Int))) × (List Int) × Int × Int) × Bool) :=
  Option.bind (F_impl_isPart x0 x1) fun u14 =>
  (if (!u14) = true then some (([], [], 0, 0), false) else Option.bind (F_impl_copyShow x0) fun u29 =>
  Option.bind (idx u29.2.1 x1) fun u49 =>
  Option.bind (F_impl_asShow__take (u29.1, (seti u29.2.1 x1 x2), u29.2.2.1, u29.2.2.2)) fun u58 =>
  some u58)
def F_spec_swHas (x0 : ((List (List (Int × Int))) × (List Int) × Int × Int)) (x1 : Int) : Option Bool :=
  jK1 (fun (y11 : Bool) => some y11) (fun k12 => Option.bind (F_spec_swGood x0) fun u14 =>
  (if u14 = true then Option.bind (F_spec_l1In x1 0 (w64 ((List.length x0.2.1 : Int) - 1))) fun u21 =>
  k12 (u21) else k12 (false)))
def F_spec_StretchShow (x0 : ((List (List (Int × Int))) × (List Int) × Int × Int)) (x1 : Int) (x2 : Int) : Option (((List (List (Int × Int))) × (List Int) × Int × Int) × Bool) :=
  Option.bind (F_spec_swHas x0 x1) fun u14 =>
  (if (!u14) = true then some (([], [], 0, 0), false) else Option.bind (F_spec_swOwn x0) fun u29 =>
  Option.bind (idx u29.2.1 x1) fun u49 =>
  Option.bind (F_spec_swIf__take (u29.1, (seti u29.2.1 x1 x2), u29.2.2.1, u29.2.2.2)) fun u58 =>
  some u58)
def F_spec_apStay (x0 : ((Int × Int) × (Int × Int) × Int)) (x1 : ((Int × Int) × (Int × Int) × Int)) (x2 : Int) : Option Bool :=
  Option.bind (F_spec_apLeast x0 x1) fun u13 =>
  some (decide ((w64 ((w64 (x2 * x2)) * u13.2)) ≤ u13.1))
def F_spec_swClose_L2 (u8 : (List ((Int × Int) × (Int × Int) × Int))) (u35 : ((Int × Int) × (Int × Int) × Int)) (x0 : ((List (List (Int × Int))) × (List Int) × Int × Int)) (y25 : Int) (nx26 : ((List (List Int)) → Int → Option (List (List Int)))) : Nat → (List (List Int)) → Int → Option (List (List Int))
  | 0, _, _ => none
  | m + 1, l52, y55 => (if (decide (y55 < (List.length u8 : Int))) = true then jK1 (fun (l66 : (List (List Int))) => (F_spec_swClose_L2 u8 u35 x0 y25 nx26 m) (l66) ((w64 (y55 + 1)))) (fun k69 => Option.bind (idx u8 y55) fun u77 =>
  Option.bind (F_spec_apStay u35 u77 x0.2.2.1) fun u81 =>
  (if (!u81) = true then Option.bind (app l52 [[y25, y55]]) fun u104 =>
  k69 (u104) else k69 (l52))) else nx26 (l52) ((w64 (y25 + 1))))
def F_spec_swClose_L1 (u8 : (List ((Int × Int) × (Int × Int) × Int))) (x0 : ((List (List (Int × Int))) × (List Int) × Int × Int)) : Nat → (List (List Int)) → Int → Option (List (List Int))
  | 0, _, _ => none
  | m + 1, l22, y25 => (if (decide (y25 < (List.length u8 : Int))) = true then Option.bind (idx u8 y25) fun u35 =>
  F_spec_swClose_L2 u8 u35 x0 y25 (F_spec_swClose_L1 u8 x0 m) FU (l22) ((w64 (y25 + 1))) else some l22)
def F_spec_swClose (x0 : ((List (List (Int × Int))) × (List Int) × Int × Int)) (x1 : Int) : Option (List (List Int)) :=
  Option.bind (F_spec_swMoves x0 x1) fun u8 =>
  F_spec_swClose_L1 u8 x0 FU ([]) (0)
def F_spec_ClosePairs (x0 : ((List (List (Int × Int))) × (List Int) × Int × Int)) (x1 : Int) : Option ((List (List Int)) × Bool) :=
  Option.bind (F_spec_swHas x0 x1) fun u9 =>
  (if (!u9) = true then some ([], false) else Option.bind (F_spec_swClose x0 x1) fun u19 =>
  some (u19, true))
def F_laws_sameLists_L1 (x0 : (List (List Int))) (x1 : (List (List Int))) : Nat → Int → Option Bool
  | 0, _ => none
  | m + 1, y11 => (if (decide (y11 < (List.length x0 : Int))) = true then Option.bind (idx x0 y11) fun u26 =>
  Option.bind (idx x1 y11) fun u31 =>
  Option.bind (F_laws_sameInts u26 u31) fun u36 =>
  (if (!u36) = true then some false else (F_laws_sameLists_L1 x0 x1 m) ((w64 (y11 + 1)))) else some true)
def F_laws_sameLists (x0 : (List (List Int))) (x1 : (List (List Int))) : Option Bool :=
  (if ((List.length x0 : Int) != (List.length x1 : Int)) = true then some false else F_laws_sameLists_L1 x0 x1 FU (0))
def F_impl_withinStep (x0 : ((Int × Int) × (Int × Int) × Int)) (x1 : Int) : Option Bool :=
  Option.bind (F_impl_squareOf x0.1 x0.2.1) fun u13 =>
  some (decide (u13 ≤ (w64 ((w64 ((w64 (x1 * x1)) * x0.2.2)) * x0.2.2))))
def F_impl_wideSteps_L1 (u16 : (List ((Int × Int) × (Int × Int) × Int))) (x0 : ((List (List (Int × Int))) × (List Int) × Int × Int)) : Nat → (List Int) → Int → Option (List Int)
  | 0, _, _ => none
  | m + 1, l27, y30 => (if (decide (y30 < (List.length u16 : Int))) = true then jK1 (fun (l41 : (List Int)) => (F_impl_wideSteps_L1 u16 x0 m) (l41) ((w64 (y30 + 1)))) (fun k44 => Option.bind (idx u16 y30) fun u47 =>
  Option.bind (F_impl_withinStep u47 x0.2.2.2) fun u61 =>
  (if (!u61) = true then Option.bind (app l27 [y30]) fun u74 =>
  k44 (u74) else k44 (l27))) else some l27)
def F_impl_wideSteps (x0 : ((List (List (Int × Int))) × (List Int) × Int × Int)) (x1 : Int) : Option (List Int) :=
  Option.bind (F_impl_showMoves x0 x1) fun u16 =>
  F_impl_wideSteps_L1 u16 x0 FU ([]) (0)
def F_impl_WideSteps (x0 : ((List (List (Int × Int))) × (List Int) × Int × Int)) (x1 : Int) : Option ((List Int) × Bool) :=
  Option.bind (F_impl_isPart x0 x1) fun u9 =>
  (if (!u9) = true then some ([], false) else Option.bind (F_impl_wideSteps x0 x1) fun u19 =>
  some (u19, true))
def F_spec_mvWithin (x0 : ((Int × Int) × (Int × Int) × Int)) (x1 : Int) : Option Bool :=
  Option.bind (F_spec_stSquare x0.1 x0.2.1) fun u13 =>
  some (decide (u13 ≤ (w64 ((w64 ((w64 (x1 * x1)) * x0.2.2)) * x0.2.2))))
def F_spec_swWide_L1 (u10 : (List ((Int × Int) × (Int × Int) × Int))) (x0 : ((List (List (Int × Int))) × (List Int) × Int × Int)) : Nat → (List Int) → Int → Option (List Int)
  | 0, _, _ => none
  | m + 1, l21, y24 => (if (decide (y24 < (List.length u10 : Int))) = true then jK1 (fun (l36 : (List Int)) => (F_spec_swWide_L1 u10 x0 m) (l36) ((w64 (y24 + 1)))) (fun k39 => Option.bind (idx u10 y24) fun u42 =>
  Option.bind (F_spec_mvWithin u42 x0.2.2.2) fun u56 =>
  (if (!u56) = true then Option.bind (app l21 [y24]) fun u69 =>
  k39 (u69) else k39 (l21))) else some l21)
def F_spec_swWide (x0 : ((List (List (Int × Int))) × (List Int) × Int × Int)) (x1 : Int) : Option (List Int) :=
  Option.bind (F_spec_swMoves x0 x1) fun u10 =>
  F_spec_swWide_L1 u10 x0 FU ([]) (0)
def F_spec_WideSteps (x0 : ((List (List (Int × Int))) × (List Int) × Int × Int)) (x1 : Int) : Option ((List Int) × Bool) :=
  Option.bind (F_spec_swHas x0 x1) fun u9 =>
  (if (!u9) = true then some ([], false) else Option.bind (F_spec_swWide x0 x1) fun u19 =>
  some (u19, true))
def F_laws_pIn_L1 (x0 : (List Int)) (x1 : Int) : Nat → Int → Option Bool
  | 0, _ => none
  | m + 1, y7 => (if (decide (y7 < (List.length x0 : Int))) = true then Option.bind (idx x0 y7) fun u16 =>
  (if (u16 == x1) = true then some true else (F_laws_pIn_L1 x0 x1 m) ((w64 (y7 + 1)))) else some false)
def F_laws_pIn (x0 : (List Int)) (x1 : Int) : Option Bool :=
  F_laws_pIn_L1 x0 x1 FU (0)
def F_laws_FnShowChanges_L1 (u286 : ((List Int) × Bool)) (u170 : (((List (List (Int × Int))) × (List Int) × Int × Int) × Int × Int)) (u304 : ((List Int) × Bool)) (k243 : (Option Bool)) : Nat → Int → Option Bool
  | 0, _ => none
  | m + 1, y326 => (if (decide (y326 < (List.length u286.1 : Int))) = true then Option.bind (idx u286.1 y326) fun u335 =>
  jK1 (fun (y343 : Bool) => (if y343 = true then some false else (F_laws_FnShowChanges_L1 u286 u170 u304 k243 m) ((w64 (y326 + 1))))) (fun k344 => Option.bind (idx u170.1.2.1 u170.2.1) fun u348 =>
  (if (decide (u348 ≤ u170.2.2)) = true then Option.bind (F_laws_pIn u304.1 u335) fun u353 =>
  k344 ((!u353)) else k344 (false))) else k243)
def F_laws_FnShowChanges (x0 : (List Int)) (x1 : (List Int)) : Option Bool :=
  Option.bind (F_laws_big x0 x1) fun u4 =>
  (if u4 = true then some true else Option.bind (F_spec_DrawAddShowChart x0) fun u13 =>
  Option.bind (F_impl_AddShowChart u13.1 u13.2.1 u13.2.2) fun u35 =>
  Option.bind (F_spec_AddShowChart u13.1 u13.2.1 u13.2.2) fun u55 =>
  jK1 (fun (y79 : Bool) => (if y79 = true then some false else jK0 (Option.bind (F_spec_DrawDropShowChart x1) fun u91 =>
  Option.bind (F_impl_DropShowChart u91.1 u91.2) fun u111 =>
  Option.bind (F_spec_DropShowChart u91.1 u91.2) fun u131 =>
  jK2 (fun (l155 : (List Int)) (y158 : Bool) => (if y158 = true then some false else jK0 (Option.bind (F_spec_DrawStretchShow x1) fun u170 =>
  Option.bind (F_impl_StretchShow u170.1 u170.2.1 u170.2.2) fun u190 =>
  Option.bind (F_spec_StretchShow u170.1 u170.2.1 u170.2.2) fun u210 =>
  jK1 (fun (y234 : Bool) => (if y234 = true then some false else jK0 (some true) (fun k243 => (if u190.2 = true then Option.bind (F_impl_ClosePairs u190.1 u170.2.1) fun u249 =>
  Option.bind (F_impl_ClosePairs u170.1 u170.2.1) fun u258 =>
  Option.bind (F_spec_ClosePairs u170.1 u170.2.1) fun u267 =>
  jK1 (fun (y280 : Bool) => (if y280 = true then some false else Option.bind (F_impl_WideSteps u190.1 u170.2.1) fun u286 =>
  Option.bind (F_impl_WideSteps u170.1 u170.2.1) fun u295 =>
  Option.bind (F_spec_WideSteps u170.1 u170.2.1) fun u304 =>
  jK1 (fun (y317 : Bool) => (if y317 = true then some false else F_laws_FnShowChanges_L1 u286 u170 u304 k243 FU (0))) (fun k318 => (if (!u286.2) = true then k318 (true) else (if (!u295.2) = true then k318 (true) else (if (!u304.2) = true then k318 (true) else Option.bind (F_laws_sameInts u295.1 u304.1) fun u362 =>
  k318 ((!u362)))))))) (fun k281 => Option.bind (idx u210.1.2.1 u170.2.1) fun u368 =>
  (if (u368 != u170.2.2) = true then k281 (true) else (if (!u249.2) = true then k281 (true) else (if (!u258.2) = true then k281 (true) else (if (!u267.2) = true then k281 (true) else Option.bind (F_laws_sameLists u249.1 u267.1) fun u376 =>
  (if (!u376) = true then k281 (true) else Option.bind (F_laws_sameLists u258.1 u267.1) fun u383 =>
  k281 ((!u383)))))))) else k243)))) (fun k235 => (if (u190.2 != u210.2) = true then k235 (true) else Option.bind (F_laws_pSameShow u190.1 u210.1) fun u390 =>
  k235 ((!u390))))) (fun k167 => (if u111.2 = true then Option.bind (F_impl_TotalCounts u91.1) fun u399 =>
  Option.bind (F_impl_TotalCounts u111.1) fun u406 =>
  jK1 (fun (y416 : Bool) => (if y416 = true then some false else k167)) (fun k417 => (if (!u399.2) = true then k417 (true) else (if (!u406.2) = true then k417 (true) else (if ((List.length u131.1.1 : Int) != (w64 ((List.length u91.1.1 : Int) - 1))) = true then k417 (true) else (if (decide (u399.1 < u406.1)) = true then k417 (true) else (if (decide (0 < u91.2)) = true then (if (decide (u91.2 < (w64 ((List.length u91.1.1 : Int) - 1)))) = true then (if (u406.1 != u399.1) = true then k417 (true) else Option.bind (F_impl_IsShow u111.1) fun u428 =>
  k417 ((!u428))) else Option.bind (F_impl_IsShow u111.1) fun u434 =>
  k417 ((!u434))) else Option.bind (F_impl_IsShow u111.1) fun u440 =>
  k417 ((!u440)))))))) else k167)))) (fun k159 => (if (u111.2 != u131.2) = true then k159 (u131.1.2.1) (true) else Option.bind (F_laws_pSameShow u111.1 u131.1) fun u447 =>
  k159 (u131.1.2.1) ((!u447))))) (fun k88 => (if u35.2 = true then Option.bind (F_impl_DropShowChart u35.1 (List.length u13.1.1 : Int)) fun u456 =>
  jK1 (fun (y479 : Bool) => (if y479 = true then some false else k88)) (fun k480 => (if (!u456.2) = true then k480 (true) else Option.bind (F_laws_pSameShow u456.1 u13.1) fun u485 =>
  (if (!u485) = true then k480 (true) else Option.bind (F_impl_IsShow u35.1) fun u492 =>
  k480 ((!u492))))) else k88)))) (fun k80 => (if (u35.2 != u55.2) = true then k80 (true) else Option.bind (F_laws_pSameShow u35.1 u55.1) fun u499 =>
  k80 ((!u499)))))
def F_spec_DrawIsShow (x0 : (List Int)) : Option ((List (List (Int × Int))) × (List Int) × Int × Int) :=
  Option.bind (F_spec_l1Cur__show__mut__box (x0, 0, 0)) fun u14 =>
  some u14.1
def F_spec_DrawPublishSheets (x0 : (List Int)) : Option ((List (List (Int × Int))) × (List Int) × Int × Int) :=
  Option.bind (F_spec_DrawIsShow x0) fun u8 =>
  some u8
def F_impl_unsafParts_L1 (x0 : ((List (List (Int × Int))) × (List Int) × Int × Int)) : Nat → (List Int) → Int → Option (List Int)
  | 0, _, _ => none
  | m + 1, l19, y22 => (if (decide (y22 < (List.length x0.2.1 : Int))) = true then jK1 (fun (l33 : (List Int)) => (F_impl_unsafParts_L1 x0 m) (l33) ((w64 (y22 + 1)))) (fun k36 => jK1 (fun (y43 : Bool) => (if y43 = true then Option.bind (app l19 [y22]) fun u53 =>
  k36 (u53) else k36 (l19))) (fun k44 => Option.bind (F_impl_wideSteps x0 y22) fun u65 =>
  (if (decide (0 < (List.length u65 : Int))) = true then k44 (true) else Option.bind (F_impl_showMoves x0 y22) fun u76 =>
  Option.bind (F_impl_pairsTooClose u76 x0.2.2.1) fun u86 =>
  k44 ((decide (0 < (List.length u86 : Int))))))) else some l19)
def F_impl_unsafParts (x0 : ((List (List (Int × Int))) × (List Int) × Int × Int)) : Option (List Int) :=
  F_impl_unsafParts_L1 x0 FU ([]) (0)
def F_impl_sheetOf_L1 (x1 : (List Int)) (x0 : (List (List (Int × Int)))) (x2 : Int) (u13 : (Int × Int)) : Nat → (List (Int × (Int × Int))) → Int → Option (Int × (Int × Int) × (List (Int × (Int × Int))))
  | 0, _, _ => none
  | m + 1, l36, y39 => (if (decide (y39 < (List.length x1 : Int))) = true then jK1 (fun (l50 : (List (Int × (Int × Int)))) => (F_impl_sheetOf_L1 x1 x0 x2 u13 m) (l50) ((w64 (y39 + 1)))) (fun k53 => Option.bind (idx x1 y39) fun u56 =>
  Option.bind (idx x0 (w64 (y39 + 1))) fun u64 =>
  Option.bind (idx u64 x2) fun u69 =>
  Option.bind (app l36 [(u56, u69)]) fun u83 =>
  k53 (u83)) else some (x2, u13, l36))
def F_impl_sheetOf (x0 : (List (List (Int × Int)))) (x1 : (List Int)) (x2 : Int) : Option (Int × (Int × Int) × (List (Int × (Int × Int)))) :=
  Option.bind (idx x0 0) fun u8 =>
  Option.bind (idx u8 x2) fun u13 =>
  F_impl_sheetOf_L1 x1 x0 x2 u13 FU ([]) (0)
def F_impl_PublishSheets_L1 (u27 : (List (Int × Int))) (x0 : ((List (List (Int × Int))) × (List Int) × Int × Int)) : Nat → (List (Int × (Int × Int) × (List (Int × (Int × Int))))) → Int → Option ((List (Int × (Int × Int) × (List (Int × (Int × Int))))) × Bool)
  | 0, _, _ => none
  | m + 1, l35, y38 => (if (decide (y38 < (List.length u27 : Int))) = true then Option.bind (F_impl_sheetOf x0.1 x0.2.1 y38) fun u47 =>
  Option.bind (app l35 [u47]) fun u64 =>
  (F_impl_PublishSheets_L1 u27 x0 m) (u64) ((w64 (y38 + 1))) else some (l35, true))
def F_impl_PublishSheets (x0 : ((List (List (Int × Int))) × (List Int) × Int × Int)) : Option ((List (Int × (Int × Int) × (List (Int × (Int × Int))))) × Bool) :=
  jK1 (fun (y12 : Bool) => (if y12 = true then some ([], false) else Option.bind (idx x0.1 0) fun u27 =>
  F_impl_PublishSheets_L1 u27 x0 FU ([]) (0))) (fun k13 => Option.bind (F_impl_IsShow x0) fun u72 =>
  (if (!u72) = true then k13 (true) else Option.bind (F_impl_unsafParts x0) fun u79 =>
  k13 ((decide (0 < (List.length u79 : Int))))))
def F_spec_swUnsafe_L1 (x0 : ((List (List (Int × Int))) × (List Int) × Int × Int)) : Nat → (List Int) → Int → Option (List Int)
  | 0, _, _ => none
  | m + 1, l13, y16 => (if (decide (y16 < (List.length x0.2.1 : Int))) = true then jK1 (fun (l28 : (List Int)) => (F_spec_swUnsafe_L1 x0 m) (l28) ((w64 (y16 + 1)))) (fun k31 => Option.bind (F_spec_swClose x0 y16) fun u40 =>
  Option.bind (F_spec_swWide x0 y16) fun u50 =>
  (if (decide (0 < (w64 ((List.length u40 : Int) + (List.length u50 : Int))))) = true then Option.bind (app l13 [y16]) fun u67 =>
  k31 (u67) else k31 (l13))) else some l13)
def F_spec_swUnsafe (x0 : ((List (List (Int × Int))) × (List Int) × Int × Int)) : Option (List Int) :=
  F_spec_swUnsafe_L1 x0 FU ([]) (0)
def F_spec_shOf_L1 (x1 : (List Int)) (x0 : (List (List (Int × Int)))) (x2 : Int) (u13 : (Int × Int)) : Nat → (List (Int × (Int × Int))) → Int → Option (Int × (Int × Int) × (List (Int × (Int × Int))))
  | 0, _, _ => none
  | m + 1, l30, y33 => (if (decide (y33 < (List.length x1 : Int))) = true then jK1 (fun (l45 : (List (Int × (Int × Int)))) => (F_spec_shOf_L1 x1 x0 x2 u13 m) (l45) ((w64 (y33 + 1)))) (fun k48 => Option.bind (idx x1 y33) fun u51 =>
  Option.bind (idx x0 (w64 (y33 + 1))) fun u59 =>
  Option.bind (idx u59 x2) fun u64 =>
  Option.bind (app l30 [(u51, u64)]) fun u78 =>
  k48 (u78)) else some (x2, u13, l30))
def F_spec_shOf (x0 : (List (List (Int × Int)))) (x1 : (List Int)) (x2 : Int) : Option (Int × (Int × Int) × (List (Int × (Int × Int)))) :=
  Option.bind (idx x0 0) fun u8 =>
  Option.bind (idx u8 x2) fun u13 =>
  F_spec_shOf_L1 x1 x0 x2 u13 FU ([]) (0)
def F_spec_PublishSheets_L1 (u21 : (List (Int × Int))) (x0 : ((List (List (Int × Int))) × (List Int) × Int × Int)) : Nat → (List (Int × (Int × Int) × (List (Int × (Int × Int))))) → Int → Option ((List (Int × (Int × Int) × (List (Int × (Int × Int))))) × Bool)
  | 0, _, _ => none
  | m + 1, l29, y32 => (if (decide (y32 < (List.length u21 : Int))) = true then Option.bind (F_spec_shOf x0.1 x0.2.1 y32) fun u42 =>
  Option.bind (app l29 [u42]) fun u59 =>
  (F_spec_PublishSheets_L1 u21 x0 m) (u59) ((w64 (y32 + 1))) else some (l29, true))
def F_spec_PublishSheets (x0 : ((List (List (Int × Int))) × (List Int) × Int × Int)) : Option ((List (Int × (Int × Int) × (List (Int × (Int × Int))))) × Bool) :=
  jK1 (fun (y12 : Bool) => (if y12 = true then some ([], false) else Option.bind (idx x0.1 0) fun u21 =>
  F_spec_PublishSheets_L1 u21 x0 FU ([]) (0))) (fun k13 => Option.bind (F_spec_swGood x0) fun u67 =>
  (if (!u67) = true then k13 (true) else Option.bind (F_spec_swUnsafe x0) fun u74 =>
  k13 ((decide (0 < (List.length u74 : Int))))))
def F_impl_UnsafeParts (x0 : ((List (List (Int × Int))) × (List Int) × Int × Int)) : Option ((List Int) × Bool) :=
  Option.bind (F_impl_IsShow x0) fun u9 =>
  (if (!u9) = true then some ([], false) else Option.bind (F_impl_unsafParts x0) fun u19 =>
  some (u19, true))
def F_spec_UnsafeParts (x0 : ((List (List (Int × Int))) × (List Int) × Int × Int)) : Option ((List Int) × Bool) :=
  Option.bind (F_spec_swGood x0) fun u9 =>
  (if (!u9) = true then some ([], false) else Option.bind (F_spec_swUnsafe x0) fun u19 =>
  some (u19, true))
def F_impl_CanPublish (x0 : ((List (List (Int × Int))) × (List Int) × Int × Int)) : Option (Bool × Bool) :=
  Option.bind (F_impl_IsShow x0) fun u9 =>
  (if (!u9) = true then some (false, false) else Option.bind (F_impl_unsafParts x0) fun u18 =>
  some (((List.length u18 : Int) == 0), true))
def F_spec_CanPublish (x0 : ((List (List (Int × Int))) × (List Int) × Int × Int)) : Option (Bool × Bool) :=
  Option.bind (F_spec_swGood x0) fun u9 =>
  (if (!u9) = true then some (false, false) else Option.bind (F_spec_swUnsafe x0) fun u18 =>
  some (((List.length u18 : Int) == 0), true))
def F_spec_swTotal_L1 (x0 : ((List (List (Int × Int))) × (List Int) × Int × Int)) : Nat → Int → Int → Option Int
  | 0, _, _ => none
  | m + 1, y13, y14 => (if (decide (y14 < (List.length x0.2.1 : Int))) = true then Option.bind (idx x0.2.1 y14) fun u23 =>
  (F_spec_swTotal_L1 x0 m) ((w64 (y13 + u23))) ((w64 (y14 + 1))) else some y13)
def F_spec_swTotal (x0 : ((List (List (Int × Int))) × (List Int) × Int × Int)) : Option Int :=
  F_spec_swTotal_L1 x0 FU (0) (0)
def F_spec_TotalCounts (x0 : ((List (List (Int × Int))) × (List Int) × Int × Int)) : Option (Int × Bool) :=
  Option.bind (F_spec_swGood x0) fun u9 =>
  (if (!u9) = true then some (0, false) else Option.bind (F_spec_swTotal x0) fun u18 =>
  some (u18, true))
def F_slices_Reverse_impl_Spot_impl_Spot__mut__raw_L1  : Nat → (List RawCell) → Int → Int → Option (List RawCell)
  | 0, _, _, _ => none
  | m + 1, l5, y6, y7 => (if (decide (y6 < y7)) = true then jK1 (fun (l18 : (List RawCell)) => (F_slices_Reverse_impl_Spot_impl_Spot__mut__raw_L1 m) (l18) ((w64 (y6 + 1))) ((w64 (y7 - 1)))) (fun k19 => Option.bind (idx l5 y7) fun u26 =>
  Option.bind (idx l5 y6) fun u30 =>
  Option.bind (idx l5 y6) fun u34 =>
  Option.bind (idx (seti l5 y6 u26) y7) fun u43 =>
  k19 ((seti (seti l5 y6 u26) y7 u30))) else some l5)
def F_slices_Reverse_impl_Spot_impl_Spot__mut__raw (x0 : (List RawCell)) : Option (List RawCell) :=
  F_slices_Reverse_impl_Spot_impl_Spot__mut__raw_L1 FU (x0) (0) ((w64 ((List.length x0 : Int) - 1)))
def F_slices_Reverse_int_int__mut_L1  : Nat → (List Int) → Int → Int → Option (List Int)
  | 0, _, _, _ => none
  | m + 1, l5, y6, y7 => (if (decide (y6 < y7)) = true then jK1 (fun (l18 : (List Int)) => (F_slices_Reverse_int_int__mut_L1 m) (l18) ((w64 (y6 + 1))) ((w64 (y7 - 1)))) (fun k19 => Option.bind (idx l5 y7) fun u26 =>
  Option.bind (idx l5 y6) fun u30 =>
  Option.bind (idx l5 y6) fun u34 =>
  Option.bind (idx (seti l5 y6 u26) y7) fun u43 =>
  k19 ((seti (seti l5 y6 u26) y7 u30))) else some l5)
def F_slices_Reverse_int_int__mut (x0 : (List Int)) : Option (List Int) :=
  F_slices_Reverse_int_int__mut_L1 FU (x0) (0) ((w64 ((List.length x0 : Int) - 1)))
def F_impl_ReverseShow (x0 : ((List (List (Int × Int))) × (List Int) × Int × Int)) : Option (((List (List (Int × Int))) × (List Int) × Int × Int) × Bool) :=
  Option.bind (F_impl_IsShow x0) fun u14 =>
  (if (!u14) = true then some (([], [], 0, 0), false) else Option.bind (F_impl_copyShow x0) fun u29 =>
  Option.bind (F_slices_Reverse_int_int__mut u29.2.1) fun u65 =>
  some (((List.reverse u29.1), u65, u29.2.2.1, u29.2.2.2), true))
def F_spec_ReverseShow_L2 (x0 : ((List (List (Int × Int))) × (List Int) × Int × Int)) (l43 : (List (List (Int × Int)))) : Nat → (List Int) → Int → Option (((List (List (Int × Int))) × (List Int) × Int × Int) × Bool)
  | 0, _, _ => none
  | m + 1, l175, y178 => (if (decide (0 ≤ y178)) = true then jK1 (fun (l190 : (List Int)) => (F_spec_ReverseShow_L2 x0 l43 m) (l190) ((w64 (y178 - 1)))) (fun k193 => Option.bind (idx x0.2.1 y178) fun u200 =>
  Option.bind (app l175 [u200]) fun u214 =>
  k193 (u214)) else some ((l43, l175, x0.2.2.1, x0.2.2.2), true))
def F_spec_ReverseShow_L1 (x0 : ((List (List (Int × Int))) × (List Int) × Int × Int)) : Nat → (List (List (Int × Int))) → Int → Option (((List (List (Int × Int))) × (List Int) × Int × Int) × Bool)
  | 0, _, _ => none
  | m + 1, l43, y46 => (if (decide (0 ≤ y46)) = true then jK1 (fun (l58 : (List (List (Int × Int)))) => (F_spec_ReverseShow_L1 x0 m) (l58) ((w64 (y46 - 1)))) (fun k61 => Option.bind (idx x0.1 y46) fun u68 =>
  Option.bind (F_spec_chOwn u68) fun u73 =>
  Option.bind (app l43 [u73]) fun u96 =>
  k61 (u96)) else F_spec_ReverseShow_L2 x0 l43 FU ([]) ((w64 ((List.length x0.2.1 : Int) - 1))))
def F_spec_ReverseShow (x0 : ((List (List (Int × Int))) × (List Int) × Int × Int)) : Option (((List (List (Int × Int))) × (List Int) × Int × Int) × Bool) :=
  Option.bind (F_spec_swGood x0) fun u14 =>
  (if (!u14) = true then some (([], [], 0, 0), false) else F_spec_ReverseShow_L1 x0 FU ([]) ((w64 ((List.length x0.1 : Int) - 1))))
def F_laws_pSameSheet_L1 (x0 : (Int × (Int × Int) × (List (Int × (Int × Int))))) (x1 : (Int × (Int × Int) × (List (Int × (Int × Int))))) : Nat → Int → Option Bool
  | 0, _ => none
  | m + 1, y27 => (if (decide (y27 < (List.length x0.2.2 : Int))) = true then Option.bind (idx x0.2.2 y27) fun u42 =>
  Option.bind (idx x1.2.2 y27) fun u45 =>
  (if (!(eqv_Row u42 u45)) = true then some false else (F_laws_pSameSheet_L1 x0 x1 m) ((w64 (y27 + 1)))) else some true)
def F_laws_pSameSheet (x0 : (Int × (Int × Int) × (List (Int × (Int × Int))))) (x1 : (Int × (Int × Int) × (List (Int × (Int × Int))))) : Option Bool :=
  jK1 (fun (y17 : Bool) => (if y17 = true then some false else F_laws_pSameSheet_L1 x0 x1 FU (0))) (fun k18 => (if (x0.1 != x1.1) = true then k18 (true) else (if (!(eqv_Spot x0.2.1 x1.2.1)) = true then k18 (true) else k18 (((List.length x0.2.2 : Int) != (List.length x1.2.2 : Int))))))
def F_laws_pSameSheets_L1 (x0 : (List (Int × (Int × Int) × (List (Int × (Int × Int)))))) (x1 : (List (Int × (Int × Int) × (List (Int × (Int × Int)))))) : Nat → Int → Option Bool
  | 0, _ => none
  | m + 1, y11 => (if (decide (y11 < (List.length x0 : Int))) = true then Option.bind (idx x0 y11) fun u26 =>
  Option.bind (idx x1 y11) fun u31 =>
  Option.bind (F_laws_pSameSheet u26 u31) fun u36 =>
  (if (!u36) = true then some false else (F_laws_pSameSheets_L1 x0 x1 m) ((w64 (y11 + 1)))) else some true)
def F_laws_pSameSheets (x0 : (List (Int × (Int × Int) × (List (Int × (Int × Int)))))) (x1 : (List (Int × (Int × Int) × (List (Int × (Int × Int)))))) : Option Bool :=
  (if ((List.length x0 : Int) != (List.length x1 : Int)) = true then some false else F_laws_pSameSheets_L1 x0 x1 FU (0))
def F_impl_IsSheet_L1 (x0 : (Int × (Int × Int) × (List (Int × (Int × Int))))) : Nat → Int → Option Bool
  | 0, _ => none
  | m + 1, y22 => (if (decide (y22 < (List.length x0.2.2 : Int))) = true then Option.bind (idx x0.2.2 y22) fun u31 =>
  jK1 (fun (y47 : Bool) => (if y47 = true then some false else (F_impl_IsSheet_L1 x0 m) ((w64 (y22 + 1))))) (fun k48 => Option.bind (F_impl_within u31.1 1 64) fun u52 =>
  (if (!u52) = true then k48 (true) else Option.bind (F_impl_IsSpot u31.2) fun u59 =>
  k48 ((!u59)))) else some true)
def F_impl_IsSheet (x0 : (Int × (Int × Int) × (List (Int × (Int × Int))))) : Option Bool :=
  jK1 (fun (y12 : Bool) => (if y12 = true then some false else F_impl_IsSheet_L1 x0 FU (0))) (fun k13 => Option.bind (F_impl_within x0.1 0 11) fun u66 =>
  (if (!u66) = true then k13 (true) else Option.bind (F_impl_IsSpot x0.2.1) fun u73 =>
  (if (!u73) = true then k13 (true) else k13 ((decide (8 < (List.length x0.2.2 : Int)))))))
def F_laws_pSum_L1 (x0 : (List Int)) : Nat → Int → Int → Option Int
  | 0, _, _ => none
  | m + 1, y8, y9 => (if (decide (y9 < (List.length x0 : Int))) = true then Option.bind (idx x0 y9) fun u18 =>
  (F_laws_pSum_L1 x0 m) ((w64 (y8 + u18))) ((w64 (y9 + 1))) else some y8)
def F_laws_pSum (x0 : (List Int)) : Option Int :=
  F_laws_pSum_L1 x0 FU (0) (0)
def F_spec_DrawShowMoves (x0 : (List Int)) : Option (((List (List (Int × Int))) × (List Int) × Int × Int) × Int) :=
  Option.bind (F_spec_l1Cur__show__mut__box (x0, 0, 0)) fun u14 =>
  Option.bind (F_spec_l1Cur__partOf__mut__box (x0, u14.2.2.1, u14.2.2.2) u14.1) fun u39 =>
  some (u14.1, u39.1)
def F_spec_ShowMoves (x0 : ((List (List (Int × Int))) × (List Int) × Int × Int)) (x1 : Int) : Option ((List ((Int × Int) × (Int × Int) × Int)) × Bool) :=
  Option.bind (F_spec_swHas x0 x1) fun u9 =>
  (if (!u9) = true then some ([], false) else Option.bind (F_spec_swMoves x0 x1) fun u19 =>
  some (u19, true))
def F_laws_pSameMoves_L1 (x0 : (List ((Int × Int) × (Int × Int) × Int))) (x1 : (List ((Int × Int) × (Int × Int) × Int))) : Nat → Int → Option Bool
  | 0, _ => none
  | m + 1, y11 => (if (decide (y11 < (List.length x0 : Int))) = true then Option.bind (idx x0 y11) fun u26 =>
  Option.bind (idx x1 y11) fun u29 =>
  (if (!(eqv_Move u26 u29)) = true then some false else (F_laws_pSameMoves_L1 x0 x1 m) ((w64 (y11 + 1)))) else some true)
def F_laws_pSameMoves (x0 : (List ((Int × Int) × (Int × Int) × Int))) (x1 : (List ((Int × Int) × (Int × Int) × Int))) : Option Bool :=
  (if ((List.length x0 : Int) != (List.length x1 : Int)) = true then some false else F_laws_pSameMoves_L1 x0 x1 FU (0))
def F_spec_NewMarch (x0 : ((List (List (Int × Int))) × (List Int) × Int × Int)) : Option ((((List (List (Int × Int))) × (List Int) × Int × Int) × Int × (List Int) × (List Int)) × Bool) :=
  Option.bind (F_spec_swGood x0) fun u14 =>
  (if (!u14) = true then some ((([], [], 0, 0), 0, [], []), false) else jK6 (fun (l34 : (List (List (Int × Int)))) (l37 : (List Int)) (y40 : Int) (y41 : Int) (l42 : (List Int)) (y45 : Bool) => some (((l34, l37, y40, y41), 0, [], l42), y45)) (fun k46 => Option.bind (idx x0.1 0) fun u54 =>
  Option.bind (F_spec_swOwn x0) fun u59 =>
  Option.bind (mkL (List.length u54 : Int) 0) fun u74 =>
  k46 (u59.1) (u59.2.1) (u59.2.2.1) (u59.2.2.2) (u74) (true)))
def F_spec_mnOwn (x0 : (((List (List (Int × Int))) × (List Int) × Int × Int) × Int × (List Int) × (List Int))) : Option (((List (List (Int × Int))) × (List Int) × Int × Int) × Int × (List Int) × (List Int)) :=
  Option.bind (F_spec_swOwn x0.1) fun u18 =>
  Option.bind (F_spec_l1Own x0.2.2.1) fun u32 =>
  Option.bind (F_spec_l1Own x0.2.2.2) fun u43 =>
  some (u18, x0.2.1, u32, u43)
def F_spec_l1Has_L1 (x0 : (List Int)) (x1 : Int) : Nat → Int → Option Bool
  | 0, _ => none
  | m + 1, y7 => (if (decide (y7 < (List.length x0 : Int))) = true then Option.bind (idx x0 y7) fun u16 =>
  (if (u16 == x1) = true then some true else (F_spec_l1Has_L1 x0 x1 m) ((w64 (y7 + 1)))) else some false)
def F_spec_l1Has (x0 : (List Int)) (x1 : Int) : Option Bool :=
  F_spec_l1Has_L1 x0 x1 FU (0)
def F_spec_l1Put__take_L1 (x0 : (List Int)) (x1 : Int) : Nat → Int → Option (List Int)
  | 0, _ => none
  | m + 1, y7 => jK1 (fun (y16 : Bool) => (if y16 = true then (F_spec_l1Put__take_L1 x0 x1 m) ((w64 (y7 + 1))) else jK1 (fun (y25 : Bool) => (if y25 = true then some x0 else Option.bind (sl x0 0 y7) fun u37 =>
  Option.bind (app [] u37) fun u42 =>
  Option.bind (app u42 [x1]) fun u56 =>
  Option.bind (sl x0 y7 (List.length x0 : Int)) fun u64 =>
  Option.bind (app u56 u64) fun u69 =>
  some u69)) (fun k26 => (if (decide (y7 < (List.length x0 : Int))) = true then Option.bind (idx x0 y7) fun u77 =>
  k26 ((u77 == x1)) else k26 (false))))) (fun k17 => (if (decide (y7 < (List.length x0 : Int))) = true then Option.bind (idx x0 y7) fun u82 =>
  k17 ((decide (u82 < x1))) else k17 (false)))
def F_spec_l1Put__take (x0 : (List Int)) (x1 : Int) : Option (List Int) :=
  F_spec_l1Put__take_L1 x0 x1 FU (0)
def F_spec_mnStep_L1 (x0 : (((List (List (Int × Int))) × (List Int) × Int × Int) × Int × (List Int) × (List Int))) (k77 : (Int → (List Int) → (List Int) → Option ((((List (List (Int × Int))) × (List Int) × Int × Int) × Int × (List Int) × (List Int)) × Bool))) (u36 : (((List (List (Int × Int))) × (List Int) × Int × Int) × Int × (List Int) × (List Int))) : Nat → (List Int) → Int → Option ((((List (List (Int × Int))) × (List Int) × Int × Int) × Int × (List Int) × (List Int)) × Bool)
  | 0, _, _ => none
  | m + 1, l101, y104 => (if (decide (y104 < (List.length x0.2.2.1 : Int))) = true then Option.bind (idx x0.2.2.1 y104) fun u113 =>
  Option.bind (idx l101 u113) fun u116 =>
  Option.bind (idx l101 u113) fun u120 =>
  (F_spec_mnStep_L1 x0 k77 u36 m) ((seti l101 u113 (w64 (u116 + 1)))) ((w64 (y104 + 1))) else k77 ((w64 (u36.2.1 + 1))) (u36.2.2.1) (l101))
def F_spec_mnStep_L2 (x0 : (((List (List (Int × Int))) × (List Int) × Int × Int) × Int × (List Int) × (List Int))) (x1 : (Int × Int)) (k77 : (Int → (List Int) → (List Int) → Option ((((List (List (Int × Int))) × (List Int) × Int × Int) × Int × (List Int) × (List Int)) × Bool))) (u36 : (((List (List (Int × Int))) × (List Int) × Int × Int) × Int × (List Int) × (List Int))) : Nat → (List Int) → Int → Option ((((List (List (Int × Int))) × (List Int) × Int × Int) × Int × (List Int) × (List Int)) × Bool)
  | 0, _, _ => none
  | m + 1, l165, y168 => (if (decide (y168 < (List.length x0.2.2.1 : Int))) = true then jK1 (fun (l180 : (List Int)) => (F_spec_mnStep_L2 x0 x1 k77 u36 m) (l180) ((w64 (y168 + 1)))) (fun k183 => Option.bind (idx x0.2.2.1 y168) fun u186 =>
  (if (u186 != x1.2) = true then Option.bind (app l165 [u186]) fun u197 =>
  k183 (u197) else k183 (l165))) else k77 (u36.2.1) (l165) (u36.2.2.2))
def F_spec_mnStep (x0 : (((List (List (Int × Int))) × (List Int) × Int × Int) × Int × (List Int) × (List Int))) (x1 : (Int × Int)) : Option ((((List (List (Int × Int))) × (List Int) × Int × Int) × Int × (List Int) × (List Int)) × Bool) :=
  Option.bind (F_spec_l1In x1.2 0 (w64 ((List.length x0.2.2.2 : Int) - 1))) fun u19 =>
  (if (!u19) = true then some ((([], [], 0, 0), 0, [], []), false) else Option.bind (F_spec_mnOwn x0) fun u36 =>
  Option.bind (F_spec_l1Has x0.2.2.1 x1.2) fun u60 =>
  jK3 (fun (y70 : Int) (l71 : (List Int)) (l74 : (List Int)) => some ((u36.1, y70, l71, l74), true)) (fun k77 => jK1 (fun (y88 : Bool) => (if y88 = true then F_spec_mnStep_L1 x0 k77 u36 FU (u36.2.2.2) (0) else jK1 (fun (y132 : Bool) => (if y132 = true then Option.bind (F_spec_l1Put__take u36.2.2.1 x1.2) fun u136 =>
  k77 (u36.2.1) (u136) (u36.2.2.2) else jK1 (fun (y152 : Bool) => (if y152 = true then F_spec_mnStep_L2 x0 x1 k77 u36 FU ([]) (0) else some ((([], [], 0, 0), 0, [], []), false))) (fun k153 => (if (x1.1 == 3) = true then k153 (u60) else k153 (false))))) (fun k133 => (if (x1.1 == 2) = true then k133 ((!u60)) else k133 (false))))) (fun k89 => (if (x1.1 == 1) = true then (if (x1.2 == 0) = true then k89 ((decide (x0.2.1 < 1000))) else k89 (false)) else k89 (false)))))
def F_spec_l1Cur__beats__mut__box_L1 (x0 : ((List Int) × Int × Int)) (x1 : Int) : Nat → Int → Int → (List (Int × Int)) → Int → Option ((List (Int × Int)) × ((List Int) × Int × Int))
  | 0, _, _, _, _ => none
  | m + 1, y14, y15, l16, y19 => (if (decide (0 < y19)) = true then jK4 (fun (y42 : Int) (y43 : Int) (y44 : Int) (y45 : Int) => Option.bind (app l16 [(y44, y45)]) fun u54 =>
  (F_spec_l1Cur__beats__mut__box_L1 x0 x1 m) (y42) (y43) (u54) ((w64 (y19 - 1)))) (fun k46 => Option.bind (F_spec_l1Cur__one__mut__box (x0.1, y14, y15) 3) fun u62 =>
  (if u62.1 = true then Option.bind (F_spec_l1Cur__among__mut__box (x0.1, u62.2.2.1, u62.2.2.2) [2, 2, 3]) fun u75 =>
  Option.bind (F_spec_l1Most 1 x1) fun u81 =>
  Option.bind (F_spec_l1Cur__pick__mut__box (x0.1, u75.2.2.1, u75.2.2.2) u81) fun u87 =>
  k46 (u87.2.2.1) (u87.2.2.2) (u75.1) (u87.1) else k46 (u62.2.2.1) (u62.2.2.2) (1) (0))) else jK3 (fun (y101 : Int) (y102 : Int) (l103 : (List (Int × Int))) => some (l103, (x0.1, y101, y102))) (fun k106 => (if (decide (0 < (List.length l16 : Int))) = true then Option.bind (F_spec_l1Cur__pick__mut__box (x0.1, y14, y15) (List.length l16 : Int)) fun u112 =>
  Option.bind (idx l16 u112.1) fun u118 =>
  Option.bind (F_spec_l1Cur__pick__mut__box (x0.1, u112.2.2.1, u112.2.2.2) 24) fun u123 =>
  (if (u123.1 == 0) = true then Option.bind (F_spec_l1Cur__among__mut__box (x0.1, u123.2.2.1, u123.2.2.2) [0, 4]) fun u137 =>
  k106 (u137.2.2.1) (u137.2.2.2) ((seti l16 u112.1 (u137.1, u118.2))) else (if (u123.1 == 1) = true then Option.bind (F_spec_l1Cur__among__mut__box (x0.1, u123.2.2.1, u123.2.2.2) [(-1), 1, x1]) fun u155 =>
  k106 (u155.2.2.1) (u155.2.2.2) ((seti l16 u112.1 (u118.1, u155.1))) else k106 (u123.2.2.1) (u123.2.2.2) (l16))) else k106 (y14) (y15) (l16))))
def F_spec_l1Cur__beats__mut__box (x0 : ((List Int) × Int × Int)) (x1 : Int) : Option ((List (Int × Int)) × ((List Int) × Int × Int)) :=
  Option.bind (F_spec_l1Cur__pick__mut__box x0 12) fun u5 =>
  F_spec_l1Cur__beats__mut__box_L1 x0 x1 FU (u5.2.2.1) (u5.2.2.2) ([]) (u5.1)
def F_spec_l1Cur__march__mut__box_L1 (u63 : ((List (Int × Int)) × ((List Int) × Int × Int))) (x0 : ((List Int) × Int × Int)) : Nat → (List (List (Int × Int))) → (List Int) → Int → Int → Int → (List Int) → (List Int) → Int → Option ((((List (List (Int × Int))) × (List Int) × Int × Int) × Int × (List Int) × (List Int)) × ((List Int) × Int × Int))
  | 0, _, _, _, _, _, _, _, _ => none
  | m + 1, l75, l78, y81, y82, y83, l84, l87, y90 => (if (decide (y90 < (List.length u63.1 : Int))) = true then jK7 (fun (l101 : (List (List (Int × Int)))) (l104 : (List Int)) (y107 : Int) (y108 : Int) (y109 : Int) (l110 : (List Int)) (l113 : (List Int)) => (F_spec_l1Cur__march__mut__box_L1 u63 x0 m) (l101) (l104) (y107) (y108) (y109) (l110) (l113) ((w64 (y90 + 1)))) (fun k116 => Option.bind (idx u63.1 y90) fun u119 =>
  Option.bind (F_spec_mnStep ((l75, l78, y81, y82), y83, l84, l87) u119) fun u133 =>
  (if u133.2 = true then k116 (u133.1.1.1) (u133.1.1.2.1) (u133.1.1.2.2.1) (u133.1.1.2.2.2) (u133.1.2.1) (u133.1.2.2.1) (u133.1.2.2.2) else k116 (l75) (l78) (y81) (y82) (y83) (l84) (l87))) else Option.bind (F_spec_mnOwn ((l75, l78, y81, y82), y83, l84, l87)) fun u163 =>
  jK5 (fun (y185 : Int) (y186 : Int) (y187 : Int) (l188 : (List Int)) (l191 : (List Int)) => some ((u163.1, y187, l188, l191), (x0.1, y185, y186))) (fun k194 => Option.bind (F_spec_l1Cur__pick__mut__box (x0.1, u63.2.2.1, u63.2.2.2) 30) fun u202 =>
  (if (u202.1 == 0) = true then Option.bind (F_spec_l1Cur__among__mut__box (x0.1, u202.2.2.1, u202.2.2.2) [(-1), 0, 999, 1000, 1001]) fun u216 =>
  k194 (u216.2.2.1) (u216.2.2.2) (u216.1) (u163.2.2.1) (u163.2.2.2) else (if (u202.1 == 1) = true then Option.bind (F_spec_l1Cur__among__mut__box (x0.1, u202.2.2.1, u202.2.2.2) [(-1), 0, (List.length u163.2.2.2 : Int)]) fun u244 =>
  Option.bind (app u163.2.2.1 [u244.1]) fun u262 =>
  k194 (u244.2.2.1) (u244.2.2.2) (u163.2.1) (u262) (u163.2.2.2) else (if (u202.1 == 2) = true then Option.bind (F_spec_l1Cur__among__mut__box (x0.1, u202.2.2.1, u202.2.2.2) [(-1), u163.2.1, (w64 (u163.2.1 + 1))]) fun u431 =>
  Option.bind (idx u163.2.2.2 0) fun u439 =>
  k194 (u431.2.2.1) (u431.2.2.2) (u163.2.1) (u163.2.2.1) ((seti u163.2.2.2 0 u431.1)) else (if (u202.1 == 3) = true then Option.bind (app u163.2.2.2 [0]) fun u686 =>
  k194 (u202.2.2.1) (u202.2.2.2) (u163.2.1) (u163.2.2.1) (u686) else jK1 (fun (y701 : Bool) => (if y701 = true then k194 (u202.2.2.1) (u202.2.2.2) ((w64 (u163.2.1 + 30))) (u163.2.2.1) (u163.2.2.2) else k194 (u202.2.2.1) (u202.2.2.2) (u163.2.1) (u163.2.2.1) (u163.2.2.2))) (fun k702 => (if (u202.1 == 4) = true then k702 ((u202.1 == 4)) else k702 ((u202.1 == 5))))))))))
def F_spec_l1Cur__march__mut__box (x0 : ((List Int) × Int × Int)) : Option ((((List (List (Int × Int))) × (List Int) × Int × Int) × Int × (List Int) × (List Int)) × ((List Int) × Int × Int)) :=
  Option.bind (F_spec_l1Cur__show__mut__box x0) fun u8 =>
  Option.bind (F_spec_NewMarch u8.1) fun u28 =>
  (if (!u28.2) = true then some ((u8.1, 0, [], []), (x0.1, u8.2.2.1, u8.2.2.2)) else Option.bind (F_spec_l1Cur__beats__mut__box (x0.1, u8.2.2.1, u8.2.2.2) (List.length u28.1.2.2.2 : Int)) fun u63 =>
  F_spec_l1Cur__march__mut__box_L1 u63 x0 FU (u28.1.1.1) (u28.1.1.2.1) (u28.1.1.2.2.1) (u28.1.1.2.2.2) (u28.1.2.1) (u28.1.2.2.1) (u28.1.2.2.2) (0))
def F_spec_DrawIsMarch (x0 : (List Int)) : Option (((List (List (Int × Int))) × (List Int) × Int × Int) × Int × (List Int) × (List Int)) :=
  Option.bind (F_spec_l1Cur__march__mut__box (x0, 0, 0)) fun u14 =>
  some u14.1
def F_spec_DrawPlacesNow (x0 : (List Int)) : Option (((List (List (Int × Int))) × (List Int) × Int × Int) × Int × (List Int) × (List Int)) :=
  Option.bind (F_spec_DrawIsMarch x0) fun u8 =>
  some u8
def F_impl_arePerformers_L1 (x0 : (List Int)) (x1 : Int) : Nat → Int → Option Bool
  | 0, _ => none
  | m + 1, y7 => (if (decide (y7 < (List.length x0 : Int))) = true then Option.bind (idx x0 y7) fun u16 =>
  jK1 (fun (y23 : Bool) => (if y23 = true then some false else (F_impl_arePerformers_L1 x0 x1 m) ((w64 (y7 + 1))))) (fun k24 => Option.bind (F_impl_within u16 0 (w64 (x1 - 1))) fun u28 =>
  (if (!u28) = true then k24 (true) else (if (decide (0 < y7)) = true then Option.bind (idx x0 (w64 (y7 - 1))) fun u36 =>
  k24 ((decide (u16 ≤ u36))) else k24 (false)))) else some true)
def F_impl_arePerformers (x0 : (List Int)) (x1 : Int) : Option Bool :=
  F_impl_arePerformers_L1 x0 x1 FU (0)
def F_impl_IsMarch_L1 (x0 : (((List (List (Int × Int))) × (List Int) × Int × Int) × Int × (List Int) × (List Int))) : Nat → Int → Option Bool
  | 0, _ => none
  | m + 1, y22 => (if (decide (y22 < (List.length x0.2.2.2 : Int))) = true then Option.bind (idx x0.2.2.2 y22) fun u31 =>
  Option.bind (F_impl_within u31 0 x0.2.1) fun u35 =>
  (if (!u35) = true then some false else (F_impl_IsMarch_L1 x0 m) ((w64 (y22 + 1)))) else some true)
def F_impl_IsMarch (x0 : (((List (List (Int × Int))) × (List Int) × Int × Int) × Int × (List Int) × (List Int))) : Option Bool :=
  jK1 (fun (y12 : Bool) => (if y12 = true then some false else F_impl_IsMarch_L1 x0 FU (0))) (fun k13 => Option.bind (F_impl_IsShow x0.1) fun u49 =>
  (if (!u49) = true then k13 (true) else Option.bind (F_impl_within x0.2.1 0 1000) fun u57 =>
  (if (!u57) = true then k13 (true) else Option.bind (idx x0.1.1 0) fun u65 =>
  Option.bind (F_impl_arePerformers x0.2.2.1 (List.length u65 : Int)) fun u70 =>
  (if (!u70) = true then k13 (true) else Option.bind (idx x0.1.1 0) fun u78 =>
  k13 (((List.length x0.2.2.2 : Int) != (List.length u78 : Int)))))))
def F_impl_ownCount (x0 : (((List (List (Int × Int))) × (List Int) × Int × Int) × Int × (List Int) × (List Int))) (x1 : Int) : Option Int :=
  Option.bind (idx x0.2.2.2 x1) fun u13 =>
  Option.bind (F_impl_totalCounts x0.1) fun u16 =>
  some (minI (w64 (x0.2.1 - u13)) u16)
def F_impl_sheetMoves_L1 (x0 : (Int × (Int × Int) × (List (Int × (Int × Int))))) : Nat → (List ((Int × Int) × (Int × Int) × Int)) → Int → Int → Int → Option (List ((Int × Int) × (Int × Int) × Int))
  | 0, _, _, _, _ => none
  | m + 1, l24, y27, y28, y29 => (if (decide (y29 < (List.length x0.2.2 : Int))) = true then Option.bind (idx x0.2.2 y29) fun u38 =>
  Option.bind (app l24 [((y27, y28), u38.2, u38.1)]) fun u57 =>
  (F_impl_sheetMoves_L1 x0 m) (u57) (u38.2.1) (u38.2.2) ((w64 (y29 + 1))) else some l24)
def F_impl_sheetMoves (x0 : (Int × (Int × Int) × (List (Int × (Int × Int))))) : Option (List ((Int × Int) × (Int × Int) × Int)) :=
  jK3 (fun (l11 : (List ((Int × Int) × (Int × Int) × Int))) (y15 : Int) (y16 : Int) => F_impl_sheetMoves_L1 x0 FU (l11) (y15) (y16) (0)) (fun k17 => k17 ([]) (x0.2.1.1) (x0.2.1.2))
def F_impl_placeAt (x0 : ((Int × Int) × (Int × Int) × Int)) (x1 : Int) : Option (Int × Int) :=
  some ((w64 ((w64 (x0.1.1 * x0.2.2)) + (w64 (x1 * (w64 (x0.2.1.1 - x0.1.1)))))), (w64 ((w64 (x0.1.2 * x0.2.2)) + (w64 (x1 * (w64 (x0.2.1.2 - x0.1.2)))))))
def F_impl_floorDiv (x0 : Int) (x1 : Int) : Option Int :=
  (if x1 = 0 then none else jK1 (fun (y8 : Int) => some y8) (fun k9 => (if x1 = 0 then none else (if (decide ((Int.tmod x0 x1) < 0)) = true then k9 ((w64 ((w64 (Int.tdiv x0 x1)) - 1))) else k9 ((w64 (Int.tdiv x0 x1)))))))
def F_impl_roundDiv (x0 : Int) (x1 : Int) : Option Int :=
  Option.bind (F_impl_floorDiv (w64 ((w64 (2 * x0)) + x1)) (w64 (2 * x1))) fun u3 =>
  some u3
def F_impl_roundedAt (x0 : ((Int × Int) × (Int × Int) × Int)) (x1 : Int) : Option (Int × Int) :=
  Option.bind (F_impl_placeAt x0 x1) fun u13 =>
  Option.bind (F_impl_roundDiv u13.1 x0.2.2) fun u25 =>
  Option.bind (F_impl_roundDiv u13.2 x0.2.2) fun u33 =>
  some (u25, u33)
def F_impl_SpotAfter_L1 (u28 : (List ((Int × Int) × (Int × Int) × Int))) (x0 : (Int × (Int × Int) × (List (Int × (Int × Int))))) : Nat → Int → Int → Option ((Int × Int) × Bool)
  | 0, _, _ => none
  | m + 1, y39, y40 => (if (decide (y40 < (List.length u28 : Int))) = true then Option.bind (idx u28 y40) fun u49 =>
  (if (decide (y39 ≤ u49.2.2)) = true then Option.bind (F_impl_roundedAt u49 y39) fun u66 =>
  some (u66, true) else (F_impl_SpotAfter_L1 u28 x0 m) ((w64 (y39 - u49.2.2))) ((w64 (y40 + 1)))) else (if (decide (0 < y39)) = true then some ((0, 0), false) else some (x0.2.1, true)))
def F_impl_SpotAfter (x0 : (Int × (Int × Int) × (List (Int × (Int × Int))))) (x1 : Int) : Option ((Int × Int) × Bool) :=
  jK1 (fun (y17 : Bool) => (if y17 = true then some ((0, 0), false) else Option.bind (F_impl_sheetMoves x0) fun u28 =>
  F_impl_SpotAfter_L1 u28 x0 FU (x1) (0))) (fun k18 => Option.bind (F_impl_IsSheet x0) fun u89 =>
  (if (!u89) = true then k18 (true) else k18 ((decide (x1 < 0)))))
def F_impl_whereNow (x0 : (((List (List (Int × Int))) × (List Int) × Int × Int) × Int × (List Int) × (List Int))) (x1 : Int) : Option (Int × Int) :=
  jK2 (fun (y17 : Int) (y18 : Int) => some (y17, y18)) (fun k19 => Option.bind (F_impl_sheetOf x0.1.1 x0.1.2.1 x1) fun u31 =>
  Option.bind (F_impl_ownCount x0 x1) fun u41 =>
  Option.bind (F_impl_SpotAfter u31 u41) fun u48 =>
  k19 (u48.1.1) (u48.1.2))
def F_impl_placesNow_L1 (x0 : (((List (List (Int × Int))) × (List Int) × Int × Int) × Int × (List Int) × (List Int))) : Nat → (List (Int × Int)) → Int → Option (List (Int × Int))
  | 0, _, _ => none
  | m + 1, l19, y22 => (if (decide (y22 < (List.length x0.2.2.2 : Int))) = true then Option.bind (F_impl_whereNow x0 y22) fun u31 =>
  Option.bind (app l19 [u31]) fun u43 =>
  (F_impl_placesNow_L1 x0 m) (u43) ((w64 (y22 + 1))) else some l19)
def F_impl_placesNow (x0 : (((List (List (Int × Int))) × (List Int) × Int × Int) × Int × (List Int) × (List Int))) : Option (List (Int × Int)) :=
  F_impl_placesNow_L1 x0 FU ([]) (0)
def F_impl_PlacesNow (x0 : (((List (List (Int × Int))) × (List Int) × Int × Int) × Int × (List Int) × (List Int))) : Option ((List (Int × Int)) × Bool) :=
  Option.bind (F_impl_IsMarch x0) fun u9 =>
  (if (!u9) = true then some ([], false) else Option.bind (F_impl_placesNow x0) fun u19 =>
  some (u19, true))
def F_spec_l1Rising_L1 (x0 : (List Int)) (x1 : Int) (x2 : Int) : Nat → Int → Option Bool
  | 0, _ => none
  | m + 1, y7 => (if (decide (y7 < (List.length x0 : Int))) = true then Option.bind (idx x0 y7) fun u16 =>
  jK1 (fun (y23 : Bool) => (if y23 = true then some false else (F_spec_l1Rising_L1 x0 x1 x2 m) ((w64 (y7 + 1))))) (fun k24 => Option.bind (F_spec_l1In u16 x1 x2) fun u28 =>
  (if (!u28) = true then k24 (true) else (if (decide (0 < y7)) = true then Option.bind (idx x0 (w64 (y7 - 1))) fun u36 =>
  k24 ((decide (u16 ≤ u36))) else k24 (false)))) else some true)
def F_spec_l1Rising (x0 : (List Int)) (x1 : Int) (x2 : Int) : Option Bool :=
  F_spec_l1Rising_L1 x0 x1 x2 FU (0)
def F_spec_mnGood (x0 : (((List (List (Int × Int))) × (List Int) × Int × Int) × Int × (List Int) × (List Int))) : Option Bool :=
  jK1 (fun (y12 : Bool) => (if y12 = true then some false else Option.bind (idx x0.1.1 0) fun u18 =>
  jK1 (fun (y27 : Bool) => some y27) (fun k28 => Option.bind (F_spec_l1Rising x0.2.2.1 0 (w64 ((List.length u18 : Int) - 1))) fun u30 =>
  (if u30 = true then (if ((List.length x0.2.2.2 : Int) == (List.length u18 : Int)) = true then Option.bind (F_spec_l1All x0.2.2.2 0 x0.2.1) fun u38 =>
  k28 (u38) else k28 (false)) else k28 (false))))) (fun k13 => Option.bind (F_spec_swGood x0.1) fun u44 =>
  (if (!u44) = true then k13 (true) else Option.bind (F_spec_l1In x0.2.1 0 1000) fun u51 =>
  k13 ((!u51))))
def F_spec_mnCount (x0 : (((List (List (Int × Int))) × (List Int) × Int × Int) × Int × (List Int) × (List Int))) (x1 : Int) : Option Int :=
  Option.bind (idx x0.2.2.2 x1) fun u13 =>
  Option.bind (F_spec_swTotal x0.1) fun u16 =>
  Option.bind (F_spec_l1Least u16 (w64 (x0.2.1 - u13))) fun u23 =>
  some u23
def F_spec_shGood_L1 (x0 : (Int × (Int × Int) × (List (Int × (Int × Int))))) : Nat → Int → Option Bool
  | 0, _ => none
  | m + 1, y12 => (if (decide (y12 < (List.length x0.2.2 : Int))) = true then Option.bind (idx x0.2.2 y12) fun u21 =>
  jK1 (fun (y37 : Bool) => (if y37 = true then some false else (F_spec_shGood_L1 x0 m) ((w64 (y12 + 1))))) (fun k38 => Option.bind (F_spec_l1In u21.1 1 64) fun u42 =>
  (if (!u42) = true then k38 (true) else Option.bind (F_spec_stGood u21.2) fun u49 =>
  k38 ((!u49)))) else jK1 (fun (y59 : Bool) => some y59) (fun k60 => Option.bind (F_spec_l1In x0.1 0 11) fun u62 =>
  (if u62 = true then Option.bind (F_spec_stGood x0.2.1) fun u69 =>
  (if u69 = true then k60 ((decide ((List.length x0.2.2 : Int) ≤ 8))) else k60 (false)) else k60 (false))))
def F_spec_shGood (x0 : (Int × (Int × Int) × (List (Int × (Int × Int))))) : Option Bool :=
  F_spec_shGood_L1 x0 FU (0)
def F_spec_shRows_L1 (x0 : (Int × (Int × Int) × (List (Int × (Int × Int))))) : Nat → (List ((Int × Int) × (Int × Int) × Int)) → Int → Int → Int → Option (List ((Int × Int) × (Int × Int) × Int))
  | 0, _, _, _, _ => none
  | m + 1, l23, y26, y27, y28 => (if (decide (y28 < (List.length x0.2.2 : Int))) = true then Option.bind (idx x0.2.2 y28) fun u38 =>
  Option.bind (app l23 [((y26, y27), u38.2, u38.1)]) fun u57 =>
  (F_spec_shRows_L1 x0 m) (u57) (u38.2.1) (u38.2.2) ((w64 (y28 + 1))) else some l23)
def F_spec_shRows (x0 : (Int × (Int × Int) × (List (Int × (Int × Int))))) : Option (List ((Int × Int) × (Int × Int) × Int)) :=
  F_spec_shRows_L1 x0 FU ([]) (x0.2.1.1) (x0.2.1.2) (0)
def F_spec_mvAt (x0 : ((Int × Int) × (Int × Int) × Int)) (x1 : Int) : Option (Int × Int) :=
  some ((w64 ((w64 (x0.1.1 * x0.2.2)) + (w64 ((w64 (x0.2.1.1 - x0.1.1)) * x1)))), (w64 ((w64 (x0.1.2 * x0.2.2)) + (w64 ((w64 (x0.2.1.2 - x0.1.2)) * x1)))))
def F_spec_mvRound (x0 : ((Int × Int) × (Int × Int) × Int)) (x1 : Int) : Option (Int × Int) :=
  Option.bind (F_spec_mvAt x0 x1) fun u13 =>
  (if (w64 (2 * x0.2.2)) = 0 then none else (if (w64 (2 * x0.2.2)) = 0 then none else some ((w64 (Int.tdiv (w64 ((w64 (2 * u13.1)) + x0.2.2)) (w64 (2 * x0.2.2)))), (w64 (Int.tdiv (w64 ((w64 (2 * u13.2)) + x0.2.2)) (w64 (2 * x0.2.2)))))))
def F_spec_SpotAfter_L1 (u36 : (List ((Int × Int) × (Int × Int) × Int))) : Nat → Int → Int → Option ((Int × Int) × Bool)
  | 0, _, _ => none
  | m + 1, y47, y48 => (if (decide (y48 < (List.length u36 : Int))) = true then Option.bind (idx u36 y48) fun u57 =>
  (if (decide (y47 ≤ u57.2.2)) = true then Option.bind (F_spec_mvRound u57 y47) fun u74 =>
  some (u74, true) else (F_spec_SpotAfter_L1 u36 m) ((w64 (y47 - u57.2.2))) ((w64 (y48 + 1)))) else some ((0, 0), false))
def F_spec_SpotAfter (x0 : (Int × (Int × Int) × (List (Int × (Int × Int))))) (x1 : Int) : Option ((Int × Int) × Bool) :=
  jK1 (fun (y17 : Bool) => (if y17 = true then some ((0, 0), false) else (if (x1 == 0) = true then some (x0.2.1, true) else Option.bind (F_spec_shRows x0) fun u36 =>
  F_spec_SpotAfter_L1 u36 FU (x1) (0)))) (fun k18 => Option.bind (F_spec_shGood x0) fun u89 =>
  (if (!u89) = true then k18 (true) else k18 ((decide (x1 < 0)))))
def F_spec_mnWhere (x0 : (((List (List (Int × Int))) × (List Int) × Int × Int) × Int × (List Int) × (List Int))) (x1 : Int) : Option (Int × Int) :=
  jK2 (fun (y17 : Int) (y18 : Int) => some (y17, y18)) (fun k19 => Option.bind (F_spec_shOf x0.1.1 x0.1.2.1 x1) fun u31 =>
  Option.bind (F_spec_mnCount x0 x1) fun u41 =>
  Option.bind (F_spec_SpotAfter u31 u41) fun u48 =>
  k19 (u48.1.1) (u48.1.2))
def F_spec_mnPlaces_L1 (x0 : (((List (List (Int × Int))) × (List Int) × Int × Int) × Int × (List Int) × (List Int))) : Nat → (List (Int × Int)) → Int → Option (List (Int × Int))
  | 0, _, _ => none
  | m + 1, l13, y16 => (if (decide (y16 < (List.length x0.2.2.2 : Int))) = true then Option.bind (F_spec_mnWhere x0 y16) fun u26 =>
  Option.bind (app l13 [u26]) fun u38 =>
  (F_spec_mnPlaces_L1 x0 m) (u38) ((w64 (y16 + 1))) else some l13)
def F_spec_mnPlaces (x0 : (((List (List (Int × Int))) × (List Int) × Int × Int) × Int × (List Int) × (List Int))) : Option (List (Int × Int)) :=
  F_spec_mnPlaces_L1 x0 FU ([]) (0)
def F_spec_PlacesNow (x0 : (((List (List (Int × Int))) × (List Int) × Int × Int) × Int × (List Int) × (List Int))) : Option ((List (Int × Int)) × Bool) :=
  Option.bind (F_spec_mnGood x0) fun u9 =>
  (if (!u9) = true then some ([], false) else Option.bind (F_spec_mnPlaces x0) fun u19 =>
  some (u19, true))
def F_impl_TooCloseNow_L2 (u19 : (List (Int × Int))) (y41 : Int) (x0 : (((List (List (Int × Int))) × (List Int) × Int × Int) × Int × (List Int) × (List Int))) (nx42 : ((List (List Int)) → Int → Option ((List (List Int)) × Bool))) : Nat → (List (List Int)) → Int → Option ((List (List Int)) × Bool)
  | 0, _, _ => none
  | m + 1, l54, y57 => (if (decide (y57 < (List.length u19 : Int))) = true then jK1 (fun (l68 : (List (List Int))) => (F_impl_TooCloseNow_L2 u19 y41 x0 nx42 m) (l68) ((w64 (y57 + 1)))) (fun k71 => Option.bind (idx u19 y41) fun u79 =>
  Option.bind (idx u19 y57) fun u83 =>
  Option.bind (F_impl_squareOf u79 u83) fun u87 =>
  (if (decide (u87 < (w64 (x0.1.2.2.1 * x0.1.2.2.1)))) = true then Option.bind (app l54 [[y41, y57]]) fun u110 =>
  k71 (u110) else k71 (l54))) else nx42 (l54) ((w64 (y41 + 1))))
def F_impl_TooCloseNow_L1 (u19 : (List (Int × Int))) (x0 : (((List (List (Int × Int))) × (List Int) × Int × Int) × Int × (List Int) × (List Int))) : Nat → (List (List Int)) → Int → Option ((List (List Int)) × Bool)
  | 0, _, _ => none
  | m + 1, l38, y41 => (if (decide (y41 < (List.length u19 : Int))) = true then F_impl_TooCloseNow_L2 u19 y41 x0 (F_impl_TooCloseNow_L1 u19 x0 m) FU (l38) ((w64 (y41 + 1))) else some (l38, true))
def F_impl_TooCloseNow (x0 : (((List (List (Int × Int))) × (List Int) × Int × Int) × Int × (List Int) × (List Int))) : Option ((List (List Int)) × Bool) :=
  Option.bind (F_impl_IsMarch x0) fun u9 =>
  (if (!u9) = true then some ([], false) else Option.bind (F_impl_placesNow x0) fun u19 =>
  F_impl_TooCloseNow_L1 u19 x0 FU ([]) (0))
def F_spec_TooCloseNow_L2 (u19 : (List (Int × Int))) (u46 : (Int × Int)) (x0 : (((List (List (Int × Int))) × (List Int) × Int × Int) × Int × (List Int) × (List Int))) (y36 : Int) (nx37 : ((List (List Int)) → Int → Option ((List (List Int)) × Bool))) : Nat → (List (List Int)) → Int → Option ((List (List Int)) × Bool)
  | 0, _, _ => none
  | m + 1, l63, y66 => (if (decide (y66 < (List.length u19 : Int))) = true then jK1 (fun (l77 : (List (List Int))) => (F_spec_TooCloseNow_L2 u19 u46 x0 y36 nx37 m) (l77) ((w64 (y66 + 1)))) (fun k80 => Option.bind (idx u19 y66) fun u88 =>
  Option.bind (F_spec_stSquare u46 u88) fun u92 =>
  (if (decide (u92 < (w64 (x0.1.2.2.1 * x0.1.2.2.1)))) = true then Option.bind (app l63 [[y36, y66]]) fun u115 =>
  k80 (u115) else k80 (l63))) else nx37 (l63) ((w64 (y36 + 1))))
def F_spec_TooCloseNow_L1 (u19 : (List (Int × Int))) (x0 : (((List (List (Int × Int))) × (List Int) × Int × Int) × Int × (List Int) × (List Int))) : Nat → (List (List Int)) → Int → Option ((List (List Int)) × Bool)
  | 0, _, _ => none
  | m + 1, l33, y36 => (if (decide (y36 < (List.length u19 : Int))) = true then Option.bind (idx u19 y36) fun u46 =>
  F_spec_TooCloseNow_L2 u19 u46 x0 y36 (F_spec_TooCloseNow_L1 u19 x0 m) FU (l33) ((w64 (y36 + 1))) else some (l33, true))
def F_spec_TooCloseNow (x0 : (((List (List (Int × Int))) × (List Int) × Int × Int) × Int × (List Int) × (List Int))) : Option ((List (List Int)) × Bool) :=
  Option.bind (F_spec_mnGood x0) fun u9 =>
  (if (!u9) = true then some ([], false) else Option.bind (F_spec_mnPlaces x0) fun u19 =>
  F_spec_TooCloseNow_L1 u19 x0 FU ([]) (0))
def F_impl_StillGoing_L1 (x0 : (((List (List (Int × Int))) × (List Int) × Int × Int) × Int × (List Int) × (List Int))) : Nat → (List Int) → Int → Option ((List Int) × Bool)
  | 0, _, _ => none
  | m + 1, l30, y33 => (if (decide (y33 < (List.length x0.2.2.2 : Int))) = true then jK1 (fun (l44 : (List Int)) => (F_impl_StillGoing_L1 x0 m) (l44) ((w64 (y33 + 1)))) (fun k47 => Option.bind (F_impl_ownCount x0 y33) fun u56 =>
  Option.bind (F_impl_totalCounts x0.1) fun u63 =>
  (if (decide (u56 < u63)) = true then Option.bind (app l30 [y33]) fun u78 =>
  k47 (u78) else k47 (l30))) else some (l30, true))
def F_impl_StillGoing (x0 : (((List (List (Int × Int))) × (List Int) × Int × Int) × Int × (List Int) × (List Int))) : Option ((List Int) × Bool) :=
  Option.bind (F_impl_IsMarch x0) fun u9 =>
  (if (!u9) = true then some ([], false) else F_impl_StillGoing_L1 x0 FU ([]) (0))
def F_spec_StillGoing_L1 (x0 : (((List (List (Int × Int))) × (List Int) × Int × Int) × Int × (List Int) × (List Int))) : Nat → (List Int) → Int → Option ((List Int) × Bool)
  | 0, _, _ => none
  | m + 1, l24, y27 => (if (decide (y27 < (List.length x0.2.2.2 : Int))) = true then jK1 (fun (l39 : (List Int)) => (F_spec_StillGoing_L1 x0 m) (l39) ((w64 (y27 + 1)))) (fun k42 => Option.bind (F_spec_mnCount x0 y27) fun u51 =>
  Option.bind (F_spec_swTotal x0.1) fun u58 =>
  (if (decide (u51 < u58)) = true then Option.bind (app l24 [y27]) fun u72 =>
  k42 (u72) else k42 (l24))) else some (l24, true))
def F_spec_StillGoing (x0 : (((List (List (Int × Int))) × (List Int) × Int × Int) × Int × (List Int) × (List Int))) : Option ((List Int) × Bool) :=
  Option.bind (F_spec_mnGood x0) fun u9 =>
  (if (!u9) = true then some ([], false) else F_spec_StillGoing_L1 x0 FU ([]) (0))
def F_impl_MostBehind_L1 (x0 : (((List (List (Int × Int))) × (List Int) × Int × Int) × Int × (List Int) × (List Int))) : Nat → Int → Int → Option (Int × Bool)
  | 0, _, _ => none
  | m + 1, y23, y24 => (if (decide (y24 < (List.length x0.2.2.2 : Int))) = true then jK1 (fun (y35 : Int) => (F_impl_MostBehind_L1 x0 m) (y35) ((w64 (y24 + 1)))) (fun k36 => Option.bind (idx x0.2.2.2 y24) fun u39 =>
  Option.bind (idx x0.2.2.2 y23) fun u43 =>
  (if (decide (u43 < u39)) = true then k36 (y24) else k36 (y23))) else some (y23, true))
def F_impl_MostBehind (x0 : (((List (List (Int × Int))) × (List Int) × Int × Int) × Int × (List Int) × (List Int))) : Option (Int × Bool) :=
  Option.bind (F_impl_IsMarch x0) fun u9 =>
  (if (!u9) = true then some (0, false) else F_impl_MostBehind_L1 x0 FU (0) (0))
def F_spec_MostBehind_L1 (x0 : (((List (List (Int × Int))) × (List Int) × Int × Int) × Int × (List Int) × (List Int))) : Nat → Int → Int → Option (Int × Bool)
  | 0, _, _ => none
  | m + 1, y23, y24 => (if (decide (y24 < (List.length x0.2.2.2 : Int))) = true then jK1 (fun (y35 : Int) => (F_spec_MostBehind_L1 x0 m) (y35) ((w64 (y24 + 1)))) (fun k36 => Option.bind (idx x0.2.2.2 y24) fun u39 =>
  Option.bind (idx x0.2.2.2 y23) fun u43 =>
  (if (decide (u43 < u39)) = true then k36 (y24) else k36 (y23))) else some (y23, true))
def F_spec_MostBehind (x0 : (((List (List (Int × Int))) × (List Int) × Int × Int) × Int × (List Int) × (List Int))) : Option (Int × Bool) :=
  Option.bind (F_spec_mnGood x0) fun u9 =>
  (if (!u9) = true then some (0, false) else F_spec_MostBehind_L1 x0 FU (0) (0))
def F_impl_hasPerformer (x0 : (((List (List (Int × Int))) × (List Int) × Int × Int) × Int × (List Int) × (List Int))) (x1 : Int) : Option Bool :=
  jK1 (fun (y11 : Bool) => some y11) (fun k12 => Option.bind (F_impl_IsMarch x0) fun u14 =>
  (if u14 = true then Option.bind (F_impl_within x1 0 (w64 ((List.length x0.2.2.2 : Int) - 1))) fun u21 =>
  k12 (u21) else k12 (false)))
def F_impl_WhereNow (x0 : (((List (List (Int × Int))) × (List Int) × Int × Int) × Int × (List Int) × (List Int))) (x1 : Int) : Option ((Int × Int) × Bool) :=
  Option.bind (F_impl_hasPerformer x0 x1) fun u14 =>
  (if (!u14) = true then some ((0, 0), false) else Option.bind (F_impl_whereNow x0 x1) fun u27 =>
  some (u27, true))
def F_impl_SheetOf (x0 : (List (List (Int × Int)))) (x1 : (List Int)) (x2 : Int) : Option ((Int × (Int × Int) × (List (Int × (Int × Int)))) × Bool) :=
  jK1 (fun (y12 : Bool) => (if y12 = true then some ((0, (0, 0), []), false) else Option.bind (F_impl_sheetOf x0 x1 x2) fun u23 =>
  some (u23, true))) (fun k13 => Option.bind (F_impl_areCharts x0 x1) fun u35 =>
  (if (!u35) = true then k13 (true) else Option.bind (idx x0 0) fun u42 =>
  Option.bind (F_impl_within x2 0 (w64 ((List.length u42 : Int) - 1))) fun u47 =>
  k13 ((!u47))))
def F_spec_DrawHaltPerformer (x0 : (List Int)) : Option ((((List (List (Int × Int))) × (List Int) × Int × Int) × Int × (List Int) × (List Int)) × Int) :=
  Option.bind (F_spec_l1Cur__march__mut__box (x0, 0, 0)) fun u14 =>
  Option.bind (F_spec_l1Cur__pick__mut__box (x0, u14.2.2.1, u14.2.2.2) 16) fun u43 =>
  Option.bind (F_spec_l1Cur__pick__mut__box (x0, u43.2.2.1, u43.2.2.2) (w64 ((List.length u14.1.2.2.2 : Int) + (w64 (Int.tdiv u43.1 15))))) fun u51 =>
  Option.bind (F_spec_l1Cur__pick__mut__box (x0, u51.2.2.1, u51.2.2.2) 24) fun u59 =>
  some (u14.1, (w64 (u51.1 - (w64 (Int.tdiv u59.1 23)))))
def F_spec_DrawWhereNow (x0 : (List Int)) : Option ((((List (List (Int × Int))) × (List Int) × Int × Int) × Int × (List Int) × (List Int)) × Int) :=
  Option.bind (F_spec_DrawHaltPerformer x0) fun u8 =>
  some u8
def F_spec_mnHas (x0 : (((List (List (Int × Int))) × (List Int) × Int × Int) × Int × (List Int) × (List Int))) (x1 : Int) : Option Bool :=
  jK1 (fun (y11 : Bool) => some y11) (fun k12 => Option.bind (F_spec_mnGood x0) fun u14 =>
  (if u14 = true then Option.bind (F_spec_l1In x1 0 (w64 ((List.length x0.2.2.2 : Int) - 1))) fun u21 =>
  k12 (u21) else k12 (false)))
def F_spec_WhereNow (x0 : (((List (List (Int × Int))) × (List Int) × Int × Int) × Int × (List Int) × (List Int))) (x1 : Int) : Option ((Int × Int) × Bool) :=
  Option.bind (F_spec_mnHas x0 x1) fun u14 =>
  (if (!u14) = true then some ((0, 0), false) else Option.bind (F_spec_mnWhere x0 x1) fun u27 =>
  some (u27, true))
def F_laws_FnPlacesNow_L2 (u64 : ((List (List Int)) × Bool)) (u46 : ((List (Int × Int)) × Bool)) (u13 : (((List (List (Int × Int))) × (List Int) × Int × Int) × Int × (List Int) × (List Int))) (k118 : (Option Bool)) : Nat → Int → Option Bool
  | 0, _ => none
  | m + 1, y385 => (if (decide (y385 < (List.length u64.1 : Int))) = true then Option.bind (idx u64.1 y385) fun u394 =>
  Option.bind (idx u394 0) fun u406 =>
  Option.bind (idx u46.1 u406) fun u409 =>
  Option.bind (idx u394 1) fun u413 =>
  Option.bind (idx u46.1 u413) fun u416 =>
  Option.bind (F_impl_SquareOf u409 u416) fun u420 =>
  jK1 (fun (y431 : Bool) => (if y431 = true then some false else (F_laws_FnPlacesNow_L2 u64 u46 u13 k118 m) ((w64 (y385 + 1))))) (fun k432 => (if (!u420.2) = true then k432 (true) else k432 ((decide ((w64 (u13.1.2.2.1 * u13.1.2.2.1)) ≤ u420.1))))) else k118)
def F_laws_FnPlacesNow_L1 (u46 : ((List (Int × Int)) × Bool)) (u13 : (((List (List (Int × Int))) × (List Int) × Int × Int) × Int × (List Int) × (List Int))) (u194 : (Int × Bool)) (u82 : ((List Int) × Bool)) (u98 : (Int × Bool)) (u64 : ((List (List Int)) × Bool)) (k118 : (Option Bool)) : Nat → Int → Option Bool
  | 0, _ => none
  | m + 1, y215 => (if (decide (y215 < (List.length u46.1 : Int))) = true then Option.bind (idx u46.1 y215) fun u224 =>
  Option.bind (F_impl_WhereNow u13 y215) fun u238 =>
  Option.bind (F_impl_SheetOf u13.1.1 u13.1.2.1 y215) fun u254 =>
  Option.bind (idx u13.2.2.2 y215) fun u277 =>
  jK1 (fun (y285 : Int) => Option.bind (F_impl_SpotAfter u254.1 y285) fun u289 =>
  jK1 (fun (y309 : Bool) => (if y309 = true then some false else jK1 (fun (y318 : Bool) => (if y318 = true then some false else (F_laws_FnPlacesNow_L1 u46 u13 u194 u82 u98 u64 k118 m) ((w64 (y215 + 1))))) (fun k319 => (if (y285 == u194.1) = true then Option.bind (idx u13.1.1 (w64 ((List.length u13.1.1 : Int) - 1))) fun u329 =>
  Option.bind (idx u329 y215) fun u335 =>
  k319 ((!(eqv_Spot u224 u335))) else k319 (false))))) (fun k310 => (if (!u238.2) = true then k310 (true) else (if (!(eqv_Spot u238.1 u224)) = true then k310 (true) else (if (!u254.2) = true then k310 (true) else (if (!u289.2) = true then k310 (true) else (if (!(eqv_Spot u289.1 u224)) = true then k310 (true) else Option.bind (F_laws_pIn u82.1 y215) fun u348 =>
  (if (u348 != (decide (y285 < u194.1))) = true then k310 (true) else Option.bind (idx u13.2.2.2 y215) fun u356 =>
  Option.bind (idx u13.2.2.2 u98.1) fun u360 =>
  k310 ((decide (u360 < u356))))))))))) (fun k286 => (if (decide (u194.1 < (w64 (u13.2.1 - u277)))) = true then k286 (u194.1) else k286 ((w64 (u13.2.1 - u277))))) else F_laws_FnPlacesNow_L2 u64 u46 u13 k118 FU (0))
def F_laws_FnPlacesNow (x0 : (List Int)) (x1 : (List Int)) : Option Bool :=
  Option.bind (F_laws_big x0 x1) fun u4 =>
  (if u4 = true then some true else Option.bind (F_spec_DrawPlacesNow x0) fun u13 =>
  Option.bind (F_impl_PlacesNow u13) fun u37 =>
  Option.bind (F_spec_PlacesNow u13) fun u46 =>
  Option.bind (F_impl_TooCloseNow u13) fun u55 =>
  Option.bind (F_spec_TooCloseNow u13) fun u64 =>
  Option.bind (F_impl_StillGoing u13) fun u73 =>
  Option.bind (F_spec_StillGoing u13) fun u82 =>
  Option.bind (F_impl_MostBehind u13) fun u91 =>
  Option.bind (F_spec_MostBehind u13) fun u98 =>
  jK1 (fun (y109 : Bool) => (if y109 = true then some false else jK0 (Option.bind (F_spec_DrawWhereNow x1) fun u121 =>
  Option.bind (F_impl_WhereNow u121.1 u121.2) fun u145 =>
  Option.bind (F_spec_WhereNow u121.1 u121.2) fun u161 =>
  jK1 (fun (y180 : Bool) => some y180) (fun k181 => (if (u145.2 == u161.2) = true then k181 ((eqv_Spot u145.1 u161.1)) else k181 (false)))) (fun k118 => (if u37.2 = true then Option.bind (F_impl_TotalCounts u13.1) fun u187 =>
  Option.bind (F_spec_TotalCounts u13.1) fun u194 =>
  jK1 (fun (y205 : Bool) => (if y205 = true then some false else F_laws_FnPlacesNow_L1 u46 u13 u194 u82 u98 u64 k118 FU (0))) (fun k206 => (if (!u187.2) = true then k206 (true) else (if (!u194.2) = true then k206 (true) else (if (u187.1 != u194.1) = true then k206 (true) else k206 (((List.length u46.1 : Int) != (List.length u13.2.2.2 : Int))))))) else k118)))) (fun k110 => (if (u37.2 != u46.2) = true then k110 (true) else Option.bind (F_laws_pSameSpots u37.1 u46.1) fun u441 =>
  (if (!u441) = true then k110 (true) else (if (u55.2 != u64.2) = true then k110 (true) else Option.bind (F_laws_sameLists u55.1 u64.1) fun u449 =>
  (if (!u449) = true then k110 (true) else (if (u73.2 != u82.2) = true then k110 (true) else Option.bind (F_laws_sameInts u73.1 u82.1) fun u457 =>
  (if (!u457) = true then k110 (true) else (if (u91.2 != u98.2) = true then k110 (true) else (if (u91.1 != u98.1) = true then k110 (true) else (if (u55.2 != u37.2) = true then k110 (true) else (if (u73.2 != u37.2) = true then k110 (true) else (if (u91.2 != u37.2) = true then k110 (true) else Option.bind (F_impl_IsMarch u13) fun u469 =>
  k110 ((u469 != u37.2)))))))))))))))
def F_spec_DrawLeastCountsOf (x0 : (List Int)) : Option ((List (List (Int × Int))) × (List Int) × Int × Int) :=
  Option.bind (F_spec_DrawWaySums x0) fun u8 =>
  some u8
def F_impl_LeastCounts_L1 (x0 : (Int × Int)) (x1 : (Int × Int)) (x2 : Int) : Nat → Int → Option (Int × Bool)
  | 0, _ => none
  | m + 1, y27 => (if (decide (y27 ≤ 64)) = true then Option.bind (F_impl_withinStep (x0, x1, y27) x2) fun u36 =>
  (if u36 = true then some (y27, true) else (F_impl_LeastCounts_L1 x0 x1 x2 m) ((w64 (y27 + 1)))) else some (0, false))
def F_impl_LeastCounts (x0 : (Int × Int)) (x1 : (Int × Int)) (x2 : Int) : Option (Int × Bool) :=
  jK1 (fun (y17 : Bool) => (if y17 = true then some (0, false) else F_impl_LeastCounts_L1 x0 x1 x2 FU (1))) (fun k18 => Option.bind (F_impl_IsSpot x0) fun u45 =>
  (if (!u45) = true then k18 (true) else Option.bind (F_impl_IsSpot x1) fun u52 =>
  (if (!u52) = true then k18 (true) else Option.bind (F_impl_within x2 1 24) fun u59 =>
  k18 ((!u59)))))
def F_impl_LeastCountsOf_L2 (u45 : (List ((Int × Int) × (Int × Int) × Int))) (x0 : ((List (List (Int × Int))) × (List Int) × Int × Int)) (l30 : (List Int)) (nx34 : ((List Int) → Int → Option ((List Int) × Bool))) (y33 : Int) : Nat → Int → Int → Option ((List Int) × Bool)
  | 0, _, _ => none
  | m + 1, y56, y57 => (if (decide (y57 < (List.length u45 : Int))) = true then Option.bind (idx u45 y57) fun u66 =>
  Option.bind (F_impl_LeastCounts u66.1 u66.2.1 x0.2.2.2) fun u80 =>
  (if (!u80.2) = true then some ([], false) else (F_impl_LeastCountsOf_L2 u45 x0 l30 nx34 y33 m) ((maxI y56 u80.1)) ((w64 (y57 + 1)))) else Option.bind (app l30 [y56]) fun u97 =>
  nx34 (u97) ((w64 (y33 + 1))))
def F_impl_LeastCountsOf_L1 (x0 : ((List (List (Int × Int))) × (List Int) × Int × Int)) : Nat → (List Int) → Int → Option ((List Int) × Bool)
  | 0, _, _ => none
  | m + 1, l30, y33 => (if (decide (y33 < (List.length x0.2.1 : Int))) = true then Option.bind (F_impl_showMoves x0 y33) fun u45 =>
  F_impl_LeastCountsOf_L2 u45 x0 l30 (F_impl_LeastCountsOf_L1 x0 m) y33 FU (0) (0) else some (l30, true))
def F_impl_LeastCountsOf (x0 : ((List (List (Int × Int))) × (List Int) × Int × Int)) : Option ((List Int) × Bool) :=
  Option.bind (F_impl_IsShow x0) fun u9 =>
  (if (!u9) = true then some ([], false) else F_impl_LeastCountsOf_L1 x0 FU ([]) (0))
def F_spec_stTwo (x0 : (Int × Int)) (x1 : (Int × Int)) : Option Bool :=
  jK1 (fun (y16 : Bool) => some y16) (fun k17 => Option.bind (F_spec_stGood x0) fun u19 =>
  (if u19 = true then Option.bind (F_spec_stGood x1) fun u26 =>
  k17 (u26) else k17 (false)))
def F_spec_LeastCounts_L1 (x0 : (Int × Int)) (x1 : (Int × Int)) (x2 : Int) : Nat → Int → Option (Int × Bool)
  | 0, _ => none
  | m + 1, y27 => (if (decide (y27 ≤ 64)) = true then Option.bind (F_spec_mvWithin (x0, x1, y27) x2) fun u36 =>
  (if u36 = true then some (y27, true) else (F_spec_LeastCounts_L1 x0 x1 x2 m) ((w64 (y27 + 1)))) else some (0, false))
def F_spec_LeastCounts (x0 : (Int × Int)) (x1 : (Int × Int)) (x2 : Int) : Option (Int × Bool) :=
  jK1 (fun (y17 : Bool) => (if y17 = true then some (0, false) else F_spec_LeastCounts_L1 x0 x1 x2 FU (1))) (fun k18 => Option.bind (F_spec_stTwo x0 x1) fun u45 =>
  (if (!u45) = true then k18 (true) else Option.bind (F_spec_mvStep x2) fun u52 =>
  k18 ((!u52))))
def F_spec_LeastCountsOf_L2 (u40 : (List ((Int × Int) × (Int × Int) × Int))) (x0 : ((List (List (Int × Int))) × (List Int) × Int × Int)) (l24 : (List Int)) (nx28 : ((List Int) → Int → Option ((List Int) × Bool))) (y27 : Int) : Nat → Int → Int → Option ((List Int) × Bool)
  | 0, _, _ => none
  | m + 1, y51, y52 => (if (decide (y52 < (List.length u40 : Int))) = true then Option.bind (idx u40 y52) fun u61 =>
  Option.bind (F_spec_LeastCounts u61.1 u61.2.1 x0.2.2.2) fun u75 =>
  (if (!u75.2) = true then some ([], false) else Option.bind (F_spec_l1Most y51 u75.1) fun u86 =>
  (F_spec_LeastCountsOf_L2 u40 x0 l24 nx28 y27 m) (u86) ((w64 (y52 + 1)))) else Option.bind (app l24 [y51]) fun u98 =>
  nx28 (u98) ((w64 (y27 + 1))))
def F_spec_LeastCountsOf_L1 (x0 : ((List (List (Int × Int))) × (List Int) × Int × Int)) : Nat → (List Int) → Int → Option ((List Int) × Bool)
  | 0, _, _ => none
  | m + 1, l24, y27 => (if (decide (y27 < (List.length x0.2.1 : Int))) = true then Option.bind (F_spec_swMoves x0 y27) fun u40 =>
  F_spec_LeastCountsOf_L2 u40 x0 l24 (F_spec_LeastCountsOf_L1 x0 m) y27 FU (1) (0) else some (l24, true))
def F_spec_LeastCountsOf (x0 : ((List (List (Int × Int))) × (List Int) × Int × Int)) : Option ((List Int) × Bool) :=
  Option.bind (F_spec_swGood x0) fun u9 =>
  (if (!u9) = true then some ([], false) else F_spec_LeastCountsOf_L1 x0 FU ([]) (0))
def F_impl_LeastStepOf_L2 (x0 : ((List (List (Int × Int))) × (List Int) × Int × Int)) (y22 : Int) (nx23 : (Int → Option (Int × Bool))) : Nat → Bool → Int → Option (Int × Bool)
  | 0, _, _ => none
  | m + 1, y51, y52 => (if (decide (y52 < (List.length x0.2.1 : Int))) = true then jK1 (fun (y63 : Bool) => (F_impl_LeastStepOf_L2 x0 y22 nx23 m) (y63) ((w64 (y52 + 1)))) (fun k64 => (if y51 = true then k64 (true) else Option.bind (F_impl_wideSteps (x0.1, x0.2.1, x0.2.2.1, y22) y52) fun u68 =>
  k64 ((decide (0 < (List.length u68 : Int)))))) else (if (!y51) = true then some (y22, true) else nx23 ((w64 (y22 + 1)))))
def F_impl_LeastStepOf_L1 (x0 : ((List (List (Int × Int))) × (List Int) × Int × Int)) : Nat → Int → Option (Int × Bool)
  | 0, _ => none
  | m + 1, y22 => (if (decide (y22 ≤ 24)) = true then F_impl_LeastStepOf_L2 x0 y22 (F_impl_LeastStepOf_L1 x0 m) FU (false) (0) else some (0, false))
def F_impl_LeastStepOf (x0 : ((List (List (Int × Int))) × (List Int) × Int × Int)) : Option (Int × Bool) :=
  Option.bind (F_impl_IsShow x0) fun u9 =>
  (if (!u9) = true then some (0, false) else F_impl_LeastStepOf_L1 x0 FU (1))
def F_spec_LeastStepOf_L3 (nx47 : (Int → Int → Option (Int × Bool))) (y46 : Int) (u55 : ((Int × Int) × (Int × Int) × Int)) : Nat → Int → Option (Int × Bool)
  | 0, _ => none
  | m + 1, y72 => jK1 (fun (y81 : Bool) => (if y81 = true then (F_spec_LeastStepOf_L3 nx47 y46 u55 m) ((w64 (y72 + 1))) else nx47 (y72) ((w64 (y46 + 1))))) (fun k82 => (if (decide (y72 ≤ 24)) = true then Option.bind (F_spec_mvWithin u55 y72) fun u86 =>
  k82 ((!u86)) else k82 (false)))
def F_spec_LeastStepOf_L2 (u34 : (List ((Int × Int) × (Int × Int) × Int))) (nx25 : (Int → Int → Option (Int × Bool))) (y24 : Int) : Nat → Int → Int → Option (Int × Bool)
  | 0, _, _ => none
  | m + 1, y45, y46 => (if (decide (y46 < (List.length u34 : Int))) = true then Option.bind (idx u34 y46) fun u55 =>
  F_spec_LeastStepOf_L3 (F_spec_LeastStepOf_L2 u34 nx25 y24 m) y46 u55 FU (y45) else nx25 (y45) ((w64 (y24 + 1))))
def F_spec_LeastStepOf_L1 (x0 : ((List (List (Int × Int))) × (List Int) × Int × Int)) : Nat → Int → Int → Option (Int × Bool)
  | 0, _, _ => none
  | m + 1, y23, y24 => (if (decide (y24 < (List.length x0.2.1 : Int))) = true then Option.bind (F_spec_swMoves x0 y24) fun u34 =>
  F_spec_LeastStepOf_L2 u34 (F_spec_LeastStepOf_L1 x0 m) y24 FU (y23) (0) else (if (decide (24 < y23)) = true then some (0, false) else some (y23, true)))
def F_spec_LeastStepOf (x0 : ((List (List (Int × Int))) × (List Int) × Int × Int)) : Option (Int × Bool) :=
  Option.bind (F_spec_swGood x0) fun u9 =>
  (if (!u9) = true then some (0, false) else F_spec_LeastStepOf_L1 x0 FU (1) (0))
def F_impl_sideOf (x0 : Int) : Option Int :=
  (if (decide (0 < x0)) = true then some 1 else (if (decide (x0 < 0)) = true then some (-1) else some 0))
def F_impl_compareDemand_L2 (u108 : (List Int)) : Nat → Int → Int → Option Int
  | 0, _, _ => none
  | m + 1, y119, y120 => (if (decide (y120 < (List.length u108 : Int))) = true then Option.bind (idx u108 y120) fun u129 =>
  (F_impl_compareDemand_L2 u108 m) ((w64 (y119 - u129))) ((w64 (y120 + 1))) else Option.bind (F_impl_sideOf y119) fun u134 =>
  some u134)
def F_impl_compareDemand_L1 (u81 : (List Int)) (x1 : ((List (List (Int × Int))) × (List Int) × Int × Int)) : Nat → Int → Int → Option Int
  | 0, _, _ => none
  | m + 1, y92, y93 => (if (decide (y93 < (List.length u81 : Int))) = true then Option.bind (idx u81 y93) fun u102 =>
  (F_impl_compareDemand_L1 u81 x1 m) ((w64 (y92 + u102))) ((w64 (y93 + 1))) else Option.bind (F_impl_waySums x1) fun u108 =>
  F_impl_compareDemand_L2 u108 FU (y92) (0))
def F_impl_compareDemand (x0 : ((List (List (Int × Int))) × (List Int) × Int × Int)) (x1 : ((List (List (Int × Int))) × (List Int) × Int × Int)) : Option Int :=
  Option.bind (F_impl_unsafParts x0) fun u19 =>
  Option.bind (F_impl_unsafParts x1) fun u29 =>
  (if ((List.length u19 : Int) != (List.length u29 : Int)) = true then Option.bind (F_impl_sideOf (w64 ((List.length u19 : Int) - (List.length u29 : Int)))) fun u42 =>
  some u42 else Option.bind (F_impl_totalCounts x0) fun u55 =>
  Option.bind (F_impl_totalCounts x1) fun u62 =>
  (if (u55 != u62) = true then Option.bind (F_impl_sideOf (w64 (u62 - u55))) fun u72 =>
  some u72 else Option.bind (F_impl_waySums x0) fun u81 =>
  F_impl_compareDemand_L1 u81 x1 FU (0) (0)))
def F_impl_CompareDemand (x0 : ((List (List (Int × Int))) × (List Int) × Int × Int)) (x1 : ((List (List (Int × Int))) × (List Int) × Int × Int)) : Option (Int × Bool) :=
  jK1 (fun (y17 : Bool) => (if y17 = true then some (0, false) else Option.bind (F_impl_compareDemand x0 x1) fun u23 =>
  some (u23, true))) (fun k18 => Option.bind (F_impl_IsShow x0) fun u29 =>
  (if (!u29) = true then k18 (true) else Option.bind (F_impl_IsShow x1) fun u36 =>
  k18 ((!u36))))
def F_spec_l1Sign (x0 : Int) : Option Int :=
  (if (decide (0 < x0)) = true then some 1 else (if (decide (x0 < 0)) = true then some (-1) else some 0))
def F_spec_cpCompare (x0 : ((List (List (Int × Int))) × (List Int) × Int × Int)) (x1 : ((List (List (Int × Int))) × (List Int) × Int × Int)) : Option Int :=
  Option.bind (F_spec_UnsafeParts x0) fun u13 =>
  Option.bind (F_spec_UnsafeParts x1) fun u22 =>
  (if ((List.length u13.1 : Int) != (List.length u22.1 : Int)) = true then Option.bind (F_spec_l1Sign (w64 ((List.length u13.1 : Int) - (List.length u22.1 : Int)))) fun u34 =>
  some u34 else Option.bind (F_spec_swTotal x0) fun u47 =>
  Option.bind (F_spec_swTotal x1) fun u54 =>
  (if (u47 != u54) = true then Option.bind (F_spec_swTotal x1) fun u68 =>
  Option.bind (F_spec_swTotal x0) fun u75 =>
  Option.bind (F_spec_l1Sign (w64 (u68 - u75))) fun u82 =>
  some u82 else Option.bind (F_spec_cpWays x0) fun u95 =>
  Option.bind (F_spec_cpSum u95) fun u105 =>
  Option.bind (F_spec_cpWays x1) fun u112 =>
  Option.bind (F_spec_cpSum u112) fun u122 =>
  Option.bind (F_spec_l1Sign (w64 (u105 - u122))) fun u129 =>
  some u129))
def F_spec_CompareDemand (x0 : ((List (List (Int × Int))) × (List Int) × Int × Int)) (x1 : ((List (List (Int × Int))) × (List Int) × Int × Int)) : Option (Int × Bool) :=
  jK1 (fun (y17 : Bool) => (if y17 = true then some (0, false) else Option.bind (F_spec_cpCompare x0 x1) fun u23 =>
  some (u23, true))) (fun k18 => Option.bind (F_spec_swGood x0) fun u29 =>
  (if (!u29) = true then k18 (true) else Option.bind (F_spec_swGood x1) fun u36 =>
  k18 ((!u36))))
def F_impl_RankShows_1 (x0 : Int) (x1 : Int) (y2 : (List ((List (List (Int × Int))) × (List Int) × Int × Int))) : Option Int :=
  Option.bind (idx y2 x0) fun u8 =>
  Option.bind (idx y2 x1) fun u15 =>
  Option.bind (F_impl_compareDemand u8 u15) fun u22 =>
  some u22
def F_slices_insertionSortCmpFunc_int__impl_RankShows_1__mut_L2 (nx7 : ((List Int) → Int → Option (List Int))) (y6 : Int) (x1 : Int) (y3_0 : (List ((List (List (Int × Int))) × (List Int) × Int × Int))) : Nat → (List Int) → Int → Option (List Int)
  | 0, _, _ => none
  | m + 1, l18, y19 => jK1 (fun (y28 : Bool) => (if y28 = true then jK1 (fun (l36 : (List Int)) => (F_slices_insertionSortCmpFunc_int__impl_RankShows_1__mut_L2 nx7 y6 x1 y3_0 m) (l36) ((w64 (y19 - 1)))) (fun k37 => Option.bind (idx l18 (w64 (y19 - 1))) fun u44 =>
  Option.bind (idx l18 y19) fun u48 =>
  Option.bind (idx l18 y19) fun u52 =>
  Option.bind (idx (seti l18 y19 u44) (w64 (y19 - 1))) fun u61 =>
  k37 ((seti (seti l18 y19 u44) (w64 (y19 - 1)) u48))) else nx7 (l18) ((w64 (y6 + 1))))) (fun k29 => (if (decide (x1 < y19)) = true then Option.bind (idx l18 y19) fun u94 =>
  Option.bind (idx l18 (w64 (y19 - 1))) fun u98 =>
  Option.bind (F_impl_RankShows_1 u94 u98 y3_0) fun u102 =>
  k29 ((decide (u102 < 0))) else k29 (false)))
def F_slices_insertionSortCmpFunc_int__impl_RankShows_1__mut_L1 (x2 : Int) (x1 : Int) (y3_0 : (List ((List (List (Int × Int))) × (List Int) × Int × Int))) : Nat → (List Int) → Int → Option (List Int)
  | 0, _, _ => none
  | m + 1, l5, y6 => (if (decide (y6 < x2)) = true then F_slices_insertionSortCmpFunc_int__impl_RankShows_1__mut_L2 (F_slices_insertionSortCmpFunc_int__impl_RankShows_1__mut_L1 x2 x1 y3_0 m) y6 x1 y3_0 FU (l5) (y6) else some l5)
def F_slices_insertionSortCmpFunc_int__impl_RankShows_1__mut (x0 : (List Int)) (x1 : Int) (x2 : Int) (y3_0 : (List ((List (List (Int × Int))) × (List Int) × Int × Int))) : Option (List Int) :=
  F_slices_insertionSortCmpFunc_int__impl_RankShows_1__mut_L1 x2 x1 y3_0 FU (x0) ((w64 (x1 + 1)))
def F_slices_swapRangeCmpFunc_int__impl_RankShows_1__mut_L1 (x3 : Int) (x2 : Int) (x1 : Int) : Nat → (List Int) → Int → Option (List Int)
  | 0, _, _ => none
  | m + 1, l5, y6 => (if (decide (y6 < x3)) = true then jK1 (fun (l17 : (List Int)) => (F_slices_swapRangeCmpFunc_int__impl_RankShows_1__mut_L1 x3 x2 x1 m) (l17) ((w64 (y6 + 1)))) (fun k18 => Option.bind (idx l5 (w64 (x2 + y6))) fun u25 =>
  Option.bind (idx l5 (w64 (x1 + y6))) fun u29 =>
  Option.bind (idx l5 (w64 (x1 + y6))) fun u33 =>
  Option.bind (idx (seti l5 (w64 (x1 + y6)) u25) (w64 (x2 + y6))) fun u42 =>
  k18 ((seti (seti l5 (w64 (x1 + y6)) u25) (w64 (x2 + y6)) u29))) else some l5)
def F_slices_swapRangeCmpFunc_int__impl_RankShows_1__mut (x0 : (List Int)) (x1 : Int) (x2 : Int) (x3 : Int) (y4_0 : (List ((List (List (Int × Int))) × (List Int) × Int × Int))) : Option (List Int) :=
  F_slices_swapRangeCmpFunc_int__impl_RankShows_1__mut_L1 x3 x2 x1 FU (x0) (0)
def F_slices_rotateCmpFunc_int__impl_RankShows_1__mut_L1 (x2 : Int) (y4_0 : (List ((List (List (Int × Int))) × (List Int) × Int × Int))) : Nat → (List Int) → Int → Int → Option (List Int)
  | 0, _, _, _ => none
  | m + 1, l7, y8, y9 => (if (y8 != y9) = true then (if (decide (y9 < y8)) = true then Option.bind (F_slices_swapRangeCmpFunc_int__impl_RankShows_1__mut l7 (w64 (x2 - y8)) x2 y9 y4_0) fun u19 =>
  (F_slices_rotateCmpFunc_int__impl_RankShows_1__mut_L1 x2 y4_0 m) (u19) ((w64 (y8 - y9))) (y9) else Option.bind (F_slices_swapRangeCmpFunc_int__impl_RankShows_1__mut l7 (w64 (x2 - y8)) (w64 ((w64 (x2 + y9)) - y8)) y8 y4_0) fun u26 =>
  (F_slices_rotateCmpFunc_int__impl_RankShows_1__mut_L1 x2 y4_0 m) (u26) (y8) ((w64 (y9 - y8)))) else Option.bind (F_slices_swapRangeCmpFunc_int__impl_RankShows_1__mut l7 (w64 (x2 - y8)) x2 y8 y4_0) fun u32 =>
  some u32)
def F_slices_rotateCmpFunc_int__impl_RankShows_1__mut (x0 : (List Int)) (x1 : Int) (x2 : Int) (x3 : Int) (y4_0 : (List ((List (List (Int × Int))) × (List Int) × Int × Int))) : Option (List Int) :=
  F_slices_rotateCmpFunc_int__impl_RankShows_1__mut_L1 x2 y4_0 FU (x0) ((w64 (x2 - x1))) ((w64 (x3 - x2)))
def F_slices_stableCmpFunc_int__impl_RankShows_1__mut_L3 (y34 : Int) (x1 : Int) (nx35 : (Int → Option (List Int))) : Nat → Option (List Int)
  | 0 => none
  | m + 1 => (if (decide ((w64 (2 * y34)) ≤ x1)) = true then none else (if (decide ((w64 (0 + y34)) < x1)) = true then none else nx35 ((w64 (y34 * 2)))))
def F_slices_stableCmpFunc_int__impl_RankShows_1__mut_L2 (x1 : Int) (u25 : (List Int)) : Nat → Int → Option (List Int)
  | 0, _ => none
  | m + 1, y34 => (if (decide (y34 < x1)) = true then F_slices_stableCmpFunc_int__impl_RankShows_1__mut_L3 y34 x1 (F_slices_stableCmpFunc_int__impl_RankShows_1__mut_L2 x1 u25 m) FU else some u25)
def F_slices_stableCmpFunc_int__impl_RankShows_1__mut_L1 (x1 : Int) (y2_0 : (List ((List (List (Int × Int))) × (List Int) × Int × Int))) : Nat → (List Int) → Int → Int → Option (List Int)
  | 0, _, _, _ => none
  | m + 1, l7, y8, y9 => (if (decide (y9 ≤ x1)) = true then Option.bind (F_slices_insertionSortCmpFunc_int__impl_RankShows_1__mut l7 y8 y9 y2_0) fun u17 =>
  (F_slices_stableCmpFunc_int__impl_RankShows_1__mut_L1 x1 y2_0 m) (u17) (y9) ((w64 (y9 + 20))) else Option.bind (F_slices_insertionSortCmpFunc_int__impl_RankShows_1__mut l7 y8 x1 y2_0) fun u25 =>
  F_slices_stableCmpFunc_int__impl_RankShows_1__mut_L2 x1 u25 FU (20))
def F_slices_stableCmpFunc_int__impl_RankShows_1__mut (x0 : (List Int)) (x1 : Int) (y2_0 : (List ((List (List (Int × Int))) × (List Int) × Int × Int))) : Option (List Int) :=
  F_slices_stableCmpFunc_int__impl_RankShows_1__mut_L1 x1 y2_0 FU (x0) (0) (20)
def F_slices_SortStableFunc_int_int__impl_RankShows_1__mut (x0 : (List Int)) (y1_0 : (List ((List (List (Int × Int))) × (List Int) × Int × Int))) : Option (List Int) :=
  Option.bind (F_slices_stableCmpFunc_int__impl_RankShows_1__mut x0 (List.length x0 : Int) y1_0) fun u1 =>
  some u1
def F_impl_RankShows_L1 (x0 : (List ((List (List (Int × Int))) × (List Int) × Int × Int))) : Nat → (List Int) → Int → Option ((List Int) × Bool)
  | 0, _, _ => none
  | m + 1, l24, y27 => (if (decide (y27 < (List.length x0 : Int))) = true then Option.bind (idx x0 y27) fun u36 =>
  Option.bind (F_impl_IsShow u36) fun u54 =>
  (if (!u54) = true then some ([], false) else Option.bind (app l24 [y27]) fun u69 =>
  (F_impl_RankShows_L1 x0 m) (u69) ((w64 (y27 + 1)))) else Option.bind (F_slices_SortStableFunc_int_int__impl_RankShows_1__mut l24 x0) fun u77 =>
  some (u77, true))
def F_impl_RankShows (x0 : (List ((List (List (Int × Int))) × (List Int) × Int × Int))) : Option ((List Int) × Bool) :=
  (if (decide (8 < (List.length x0 : Int))) = true then some ([], false) else F_impl_RankShows_L1 x0 FU ([]) (0))
def F_spec_RankShows_L3 (l53 : (List Int)) (y56 : Int) (k71 : ((List Int) → Option ((List Int) × Bool))) (x0 : (List ((List (List (Int × Int))) × (List Int) × Int × Int))) (u74 : ((List (List (Int × Int))) × (List Int) × Int × Int)) : Nat → Int → Option ((List Int) × Bool)
  | 0, _ => none
  | m + 1, y95 => jK1 (fun (y104 : Bool) => (if y104 = true then (F_spec_RankShows_L3 l53 y56 k71 x0 u74 m) ((w64 (y95 - 1))) else Option.bind (sl l53 0 y95) fun u113 =>
  Option.bind (sl l53 y95 (List.length l53 : Int)) fun u118 =>
  Option.bind (F_spec_l1Own u113) fun u123 =>
  Option.bind (app u123 [y56]) fun u143 =>
  Option.bind (app u143 u118) fun u152 =>
  k71 (u152))) (fun k105 => (if (decide (0 < y95)) = true then Option.bind (idx l53 (w64 (y95 - 1))) fun u205 =>
  Option.bind (idx x0 u205) fun u209 =>
  Option.bind (F_spec_cpCompare u74 u209) fun u216 =>
  k105 ((decide (u216 < 0))) else k105 (false)))
def F_spec_RankShows_L2 (x0 : (List ((List (List (Int × Int))) × (List Int) × Int × Int))) : Nat → (List Int) → Int → Option ((List Int) × Bool)
  | 0, _, _ => none
  | m + 1, l53, y56 => (if (decide (y56 < (List.length x0 : Int))) = true then jK1 (fun (l68 : (List Int)) => (F_spec_RankShows_L2 x0 m) (l68) ((w64 (y56 + 1)))) (fun k71 => Option.bind (idx x0 y56) fun u74 =>
  F_spec_RankShows_L3 l53 y56 k71 x0 u74 FU ((List.length l53 : Int))) else some (l53, true))
def F_spec_RankShows_L1 (x0 : (List ((List (List (Int × Int))) × (List Int) × Int × Int))) : Nat → Int → Option ((List Int) × Bool)
  | 0, _ => none
  | m + 1, y7 => (if (decide (y7 < (List.length x0 : Int))) = true then Option.bind (idx x0 y7) fun u16 =>
  Option.bind (F_spec_swGood u16) fun u33 =>
  (if (!u33) = true then some ([], false) else (F_spec_RankShows_L1 x0 m) ((w64 (y7 + 1)))) else (if (decide (8 < (List.length x0 : Int))) = true then some ([], false) else F_spec_RankShows_L2 x0 FU ([]) (0)))
def F_spec_RankShows (x0 : (List ((List (List (Int × Int))) × (List Int) × Int × Int))) : Option ((List Int) × Bool) :=
  F_spec_RankShows_L1 x0 FU (0)
end Go.Proofs.Ytmkignciedkidaa
