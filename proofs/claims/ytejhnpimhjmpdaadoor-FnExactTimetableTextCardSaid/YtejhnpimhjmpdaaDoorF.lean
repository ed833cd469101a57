/-
  THE FUNCTIONS of this seat as plain functions, by program (gen.py).
-/
import Derived.Test.YtejhnpimhjmpdaaDoorCore0
import Derived.Test.YtejhnpimhjmpdaaDoorLibF
set_option linter.unusedSimpArgs false
set_option linter.unusedVariables false
set_option maxRecDepth 100000
set_option maxHeartbeats 1600000
namespace Go.Proofs.YtejhnpimhjmpdaaDoor
open Go
def G_Measure (x : (Int × Int)) : Prop := inI64 x.1 ∧ inI64 x.2
def G_Cue (x : (Int × (List UInt8))) : Prop := inI64 x.1 ∧ (allG anyG) x.2
def F_laws_szMeasureS (x0 : (List (Int × Int))) (x1 : Int) : Option Int :=
  (if (decide ((w64 (x1 - (List.length x0 : Int))) < 0)) = true then some (-1) else some (w64 (x1 - (List.length x0 : Int))))
def F_laws_szCue (x0 : (Int × (List UInt8))) (x1 : Int) : Option Int :=
  (if (decide ((w64 (x1 - (List.length x0.2 : Int))) < 0)) = true then some (-1) else some (w64 (x1 - (List.length x0.2 : Int))))
def F_laws_szCueS_L1 (x0 : (List (Int × (List UInt8)))) : Nat → Int → Int → Option Int
  | 0, _, _ => none
  | m + 1, y12, y13 => (if (decide (y13 < (List.length x0 : Int))) = true then Option.bind (idx x0 y13) fun u22 =>
  Option.bind (F_laws_szCue u22 y12) fun u25 =>
  (if (decide (u25 < 0)) = true then some (-1) else (F_laws_szCueS_L1 x0 m) (u25) ((w64 (y13 + 1)))) else some y12)
def F_laws_szCueS (x0 : (List (Int × (List UInt8)))) (x1 : Int) : Option Int :=
  (if (decide ((w64 (x1 - (List.length x0 : Int))) < 0)) = true then some (-1) else F_laws_szCueS_L1 x0 FU ((w64 (x1 - (List.length x0 : Int)))) (0))
def F_laws_toMeasure (x0 : (Int × Int)) : Option (Int × Int) :=
  some x0
def F_laws_toMeasureS_L1 (x0 : (List (Int × Int))) : Nat → (List (Int × Int)) → Int → Option (List (Int × Int))
  | 0, _, _ => none
  | m + 1, l15, y18 => (if (decide (y18 < (List.length x0 : Int))) = true then Option.bind (idx x0 y18) fun u26 =>
  Option.bind (F_laws_toMeasure u26) fun u29 =>
  Option.bind (idx l15 y18) fun u35 =>
  (F_laws_toMeasureS_L1 x0 m) ((seti l15 y18 u29)) ((w64 (y18 + 1))) else some l15)
def F_laws_toMeasureS (x0 : (List (Int × Int))) : Option (List (Int × Int)) :=
  Option.bind (mkL (List.length x0 : Int) (0, 0)) fun u3 =>
  F_laws_toMeasureS_L1 x0 FU (u3) (0)
def F_laws_toCue (x0 : (Int × (List UInt8))) : Option (Int × (List UInt8)) :=
  some x0
def F_laws_toCueS_L1 (x0 : (List (Int × (List UInt8)))) : Nat → (List (Int × (List UInt8))) → Int → Option (List (Int × (List UInt8)))
  | 0, _, _ => none
  | m + 1, l15, y18 => (if (decide (y18 < (List.length x0 : Int))) = true then Option.bind (idx x0 y18) fun u26 =>
  Option.bind (F_laws_toCue u26) fun u29 =>
  Option.bind (idx l15 y18) fun u35 =>
  (F_laws_toCueS_L1 x0 m) ((seti l15 y18 u29)) ((w64 (y18 + 1))) else some l15)
def F_laws_toCueS (x0 : (List (Int × (List UInt8)))) : Option (List (Int × (List UInt8))) :=
  Option.bind (mkL (List.length x0 : Int) (0, [])) fun u3 =>
  F_laws_toCueS_L1 x0 FU (u3) (0)
def F_spec_l1In (x0 : Int) (x1 : Int) (x2 : Int) : Option Bool :=
  jK1 (fun (y6 : Bool) => some y6) (fun k7 => (if (decide (x1 ≤ x0)) = true then k7 ((decide (x0 ≤ x2))) else k7 (false)))
def F_spec_muMeasure (x0 : (Int × Int)) : Option Bool :=
  jK1 (fun (y11 : Bool) => some y11) (fun k12 => Option.bind (F_spec_l1In x0.1 1 12) fun u14 =>
  (if u14 = true then Option.bind (F_spec_l1In x0.2 40 220) fun u21 =>
  k12 (u21) else k12 (false)))
def F_spec_muGood_L1 (x0 : (List (Int × Int))) : Nat → Int → Option Bool
  | 0, _ => none
  | m + 1, y7 => (if (decide (y7 < (List.length x0 : Int))) = true then Option.bind (idx x0 y7) fun u16 =>
  Option.bind (F_spec_muMeasure u16) fun u29 =>
  (if (!u29) = true then some false else (F_spec_muGood_L1 x0 m) ((w64 (y7 + 1)))) else Option.bind (F_spec_l1In (List.length x0 : Int) 1 40) fun u38 =>
  some u38)
def F_spec_muGood (x0 : (List (Int × Int))) : Option Bool :=
  F_spec_muGood_L1 x0 FU (0)
def F_spec_muCounts_L1 (x0 : (List (Int × Int))) : Nat → Int → Int → Option Int
  | 0, _, _ => none
  | m + 1, y8, y9 => (if (decide (y9 < (List.length x0 : Int))) = true then Option.bind (idx x0 y9) fun u18 =>
  (F_spec_muCounts_L1 x0 m) ((w64 (y8 + u18.1))) ((w64 (y9 + 1))) else some y8)
def F_spec_muCounts (x0 : (List (Int × Int))) : Option Int :=
  F_spec_muCounts_L1 x0 FU (0) (0)
def F_spec_tiName_L1 (x0 : (List UInt8)) : Nat → Int → Option Bool
  | 0, _ => none
  | m + 1, y7 => (if (decide (y7 < (List.length x0 : Int))) = true then jK1 (fun (y19 : Bool) => (if y19 = true then some false else (F_spec_tiName_L1 x0 m) ((w64 (y7 + 1))))) (fun k20 => Option.bind (idx x0 y7) fun u24 =>
  (if (decide ((UInt8.toNat u24 : Int) < 97)) = true then k20 (true) else Option.bind (idx x0 y7) fun u26 =>
  k20 ((decide (122 < (UInt8.toNat u26 : Int)))))) else Option.bind (F_spec_l1In (List.length x0 : Int) 1 8) fun u28 =>
  some u28)
def F_spec_tiName (x0 : (List UInt8)) : Option Bool :=
  F_spec_tiName_L1 x0 FU (0)
def F_spec_tiCues_L2 (u39 : (List (Int × (List UInt8)))) (u16 : (Int × (List UInt8))) (nx8 : (Int → Option Bool)) (y7 : Int) : Nat → Int → Option Bool
  | 0, _ => none
  | m + 1, y45 => (if (decide (y45 < (List.length u39 : Int))) = true then Option.bind (idx u39 y45) fun u54 =>
  (if (u54.2 == u16.2) = true then some false else (F_spec_tiCues_L2 u39 u16 nx8 y7 m) ((w64 (y45 + 1)))) else nx8 ((w64 (y7 + 1))))
def F_spec_tiCues_L1 (x1 : (List (Int × (List UInt8)))) (x0 : (List (Int × Int))) : Nat → Int → Option Bool
  | 0, _ => none
  | m + 1, y7 => (if (decide (y7 < (List.length x1 : Int))) = true then Option.bind (idx x1 y7) fun u16 =>
  jK1 (fun (y33 : Bool) => (if y33 = true then some false else Option.bind (sl x1 0 y7) fun u39 =>
  F_spec_tiCues_L2 u39 u16 (F_spec_tiCues_L1 x1 x0 m) y7 FU (0))) (fun k34 => Option.bind (F_spec_muCounts x0) fun u74 =>
  Option.bind (F_spec_l1In u16.1 0 (w64 (u74 - 1))) fun u81 =>
  (if (!u81) = true then k34 (true) else Option.bind (F_spec_tiName u16.2) fun u89 =>
  (if (!u89) = true then k34 (true) else (if (decide (0 < y7)) = true then Option.bind (idx x1 (w64 (y7 - 1))) fun u98 =>
  k34 ((decide (u16.1 ≤ u98.1))) else k34 (false))))) else some (decide ((List.length x1 : Int) ≤ 30)))
def F_spec_tiCues (x0 : (List (Int × Int))) (x1 : (List (Int × (List UInt8)))) : Option Bool :=
  F_spec_tiCues_L1 x1 x0 FU (0)
def F_spec_tiGood (x0 : (List (Int × Int))) (x1 : (List (Int × (List UInt8)))) : Option Bool :=
  jK1 (fun (y6 : Bool) => some y6) (fun k7 => Option.bind (F_spec_muGood x0) fun u9 =>
  (if u9 = true then Option.bind (F_spec_tiCues x0 x1) fun u16 =>
  k7 (u16) else k7 (false)))
def F_spec_muLasts (x0 : Int) (x1 : Int) : Option Int :=
  (if x1 = 0 then none else some (w64 (Int.tdiv (w64 (60000 * x0)) x1)))
def F_spec_muTime_L1 (x0 : (List (Int × Int))) : Nat → Int → Int → Int → Option Int
  | 0, _, _, _ => none
  | m + 1, y8, y9, y10 => (if (decide (y10 < (List.length x0 : Int))) = true then Option.bind (idx x0 y10) fun u19 =>
  (if (decide (y8 < u19.1)) = true then Option.bind (F_spec_muLasts y8 u19.2) fun u35 =>
  some (w64 (y9 + u35)) else Option.bind (F_spec_muLasts u19.1 u19.2) fun u42 =>
  (F_spec_muTime_L1 x0 m) ((w64 (y8 - u19.1))) ((w64 (y9 + u42))) ((w64 (y10 + 1)))) else some y9)
def F_spec_muTime (x0 : (List (Int × Int))) (x1 : Int) : Option Int :=
  F_spec_muTime_L1 x0 FU (x1) (0) (0)
def F_spec_tiTimes_L1 (x1 : (List (Int × (List UInt8)))) (x0 : (List (Int × Int))) : Nat → (List Int) → Int → Option (List Int)
  | 0, _, _ => none
  | m + 1, l8, y11 => (if (decide (y11 < (List.length x1 : Int))) = true then Option.bind (idx x1 y11) fun u21 =>
  Option.bind (F_spec_muTime x0 u21.1) fun u33 =>
  Option.bind (app l8 [u33]) fun u45 =>
  (F_spec_tiTimes_L1 x1 x0 m) (u45) ((w64 (y11 + 1))) else some l8)
def F_spec_tiTimes (x0 : (List (Int × Int))) (x1 : (List (Int × (List UInt8)))) : Option (List Int) :=
  F_spec_tiTimes_L1 x1 x0 FU ([]) (0)
def F_spec_l1Num_R : Nat → Int → Option (List UInt8)
  | 0, _ => none
  | m + 1, x0 => (if (decide (x0 < 10)) = true then some (bytesOf [(wu8 (w64 (48 + x0)))]) else jK1 (fun (y16 : (List UInt8)) => some y16) (fun k17 => Option.bind (F_spec_l1Num_R m (w64 (Int.tdiv x0 10))) fun u24 =>
  Option.bind (app u24 (bytesOf [(wu8 (w64 (48 + (Int.tmod x0 10))))])) fun u41 =>
  k17 (u41)))
def F_spec_l1Num (x0 : Int) : Option (List UInt8) :=
  F_spec_l1Num_R FU x0
def F_spec_tiPadded_L1 (x1 : Int) : Nat → (List UInt8) → Option (List UInt8)
  | 0, _ => none
  | m + 1, y13 => (if (decide ((List.length y13 : Int) < x1)) = true then Option.bind (app [48] y13) fun u20 =>
  (F_spec_tiPadded_L1 x1 m) (u20) else some y13)
def F_spec_tiPadded (x0 : Int) (x1 : Int) : Option (List UInt8) :=
  Option.bind (F_spec_l1Num x0) fun u3 =>
  F_spec_tiPadded_L1 x1 FU (u3)
def F_spec_tiText (x0 : Int) : Option (List UInt8) :=
  Option.bind (F_spec_l1Num (w64 (Int.tdiv x0 60000))) fun u3 =>
  Option.bind (app u3 [58]) fun u9 =>
  Option.bind (F_spec_tiPadded (Int.tmod (w64 (Int.tdiv x0 1000)) 60) 2) fun u10 =>
  Option.bind (app u9 u10) fun u16 =>
  Option.bind (app u16 [46]) fun u17 =>
  Option.bind (F_spec_tiPadded (Int.tmod x0 1000) 3) fun u18 =>
  Option.bind (app u17 u18) fun u24 =>
  some u24
def F_spec_TimetableText_L1 (u15 : (List Int)) (x1 : (List (Int × (List UInt8)))) : Nat → (List UInt8) → Int → Option ((List UInt8) × Bool)
  | 0, _, _ => none
  | m + 1, y26, y27 => (if (decide (y27 < (List.length u15 : Int))) = true then Option.bind (idx u15 y27) fun u36 =>
  Option.bind (idx x1 y27) fun u45 =>
  Option.bind (idx x1 y27) fun u48 =>
  Option.bind (F_spec_tiText u36) fun u51 =>
  Option.bind (app u51 [32]) fun u58 =>
  Option.bind (F_spec_l1Num u45.1) fun u59 =>
  Option.bind (app u58 u59) fun u66 =>
  Option.bind (app u66 [32]) fun u67 =>
  Option.bind (app u67 u48.2) fun u68 =>
  Option.bind (app u68 [10]) fun u69 =>
  Option.bind (app y26 u69) fun u70 =>
  (F_spec_TimetableText_L1 u15 x1 m) (u70) ((w64 (y27 + 1))) else some (y26, true))
def F_spec_TimetableText (x0 : (List (Int × Int))) (x1 : (List (Int × (List UInt8)))) : Option ((List UInt8) × Bool) :=
  Option.bind (F_spec_tiGood x0 x1) fun u4 =>
  (if (!u4) = true then some ([], false) else Option.bind (F_spec_tiTimes x0 x1) fun u15 =>
  F_spec_TimetableText_L1 u15 x1 FU ([]) (0))
def F_impl_within (x0 : Int) (x1 : Int) (x2 : Int) : Option Bool :=
  jK1 (fun (y6 : Bool) => some y6) (fun k7 => (if (decide (x1 ≤ x0)) = true then k7 ((decide (x0 ≤ x2))) else k7 (false)))
def F_impl_IsMusic_L1 (x0 : (List (Int × Int))) : Nat → Int → Option Bool
  | 0, _ => none
  | m + 1, y7 => (if (decide (y7 < (List.length x0 : Int))) = true then Option.bind (idx x0 y7) fun u16 =>
  jK1 (fun (y32 : Bool) => (if y32 = true then some false else (F_impl_IsMusic_L1 x0 m) ((w64 (y7 + 1))))) (fun k33 => Option.bind (F_impl_within u16.1 1 12) fun u37 =>
  (if (!u37) = true then k33 (true) else Option.bind (F_impl_within u16.2 40 220) fun u44 =>
  k33 ((!u44)))) else Option.bind (F_impl_within (List.length x0 : Int) 1 40) fun u51 =>
  some u51)
def F_impl_IsMusic (x0 : (List (Int × Int))) : Option Bool :=
  F_impl_IsMusic_L1 x0 FU (0)
def F_impl_countsOf_L1 (x0 : (List (Int × Int))) : Nat → Int → Int → Option Int
  | 0, _, _ => none
  | m + 1, y8, y9 => (if (decide (y9 < (List.length x0 : Int))) = true then Option.bind (idx x0 y9) fun u18 =>
  (F_impl_countsOf_L1 x0 m) ((w64 (y8 + u18.1))) ((w64 (y9 + 1))) else some y8)
def F_impl_countsOf (x0 : (List (Int × Int))) : Option Int :=
  F_impl_countsOf_L1 x0 FU (0) (0)
def F_impl_isName_L1 (x0 : (List UInt8)) : Nat → Int → Option Bool
  | 0, _ => none
  | m + 1, y7 => (if (decide (y7 < (List.length x0 : Int))) = true then jK1 (fun (y19 : Bool) => (if y19 = true then some false else (F_impl_isName_L1 x0 m) ((w64 (y7 + 1))))) (fun k20 => Option.bind (idx x0 y7) fun u24 =>
  (if (decide ((UInt8.toNat u24 : Int) < 97)) = true then k20 (true) else Option.bind (idx x0 y7) fun u26 =>
  k20 ((decide (122 < (UInt8.toNat u26 : Int)))))) else Option.bind (F_impl_within (List.length x0 : Int) 1 12) fun u28 =>
  some u28)
def F_impl_isName (x0 : (List UInt8)) : Option Bool :=
  F_impl_isName_L1 x0 FU (0)
def F_impl_areCues_1 (x0 : (Int × (List UInt8))) (y1 : (Int × (List UInt8))) : Option Bool :=
  some (x0.2 == y1.2)
def F_slices_IndexFunc_impl_Cue_impl_Cue__impl_areCues_1_L1 (x0 : (List (Int × (List UInt8)))) (y1_0 : (Int × (List UInt8))) : Nat → Int → Option Int
  | 0, _ => none
  | m + 1, y7 => (if (decide (y7 < (List.length x0 : Int))) = true then Option.bind (idx x0 y7) fun u17 =>
  Option.bind (F_impl_areCues_1 u17 y1_0) fun u20 =>
  (if u20 = true then some y7 else (F_slices_IndexFunc_impl_Cue_impl_Cue__impl_areCues_1_L1 x0 y1_0 m) ((w64 (y7 + 1)))) else some (-1))
def F_slices_IndexFunc_impl_Cue_impl_Cue__impl_areCues_1 (x0 : (List (Int × (List UInt8)))) (y1_0 : (Int × (List UInt8))) : Option Int :=
  F_slices_IndexFunc_impl_Cue_impl_Cue__impl_areCues_1_L1 x0 y1_0 FU (0)
def F_slices_ContainsFunc_impl_Cue_impl_Cue__impl_areCues_1 (x0 : (List (Int × (List UInt8)))) (y1_0 : (Int × (List UInt8))) : Option Bool :=
  Option.bind (F_slices_IndexFunc_impl_Cue_impl_Cue__impl_areCues_1 x0 y1_0) fun u3 =>
  some (decide (0 ≤ u3))
def F_impl_areCues_L1 (x1 : (List (Int × (List UInt8)))) (u7 : Int) : Nat → Int → Option Bool
  | 0, _ => none
  | m + 1, y18 => (if (decide (y18 < (List.length x1 : Int))) = true then Option.bind (idx x1 y18) fun u27 =>
  jK1 (fun (y44 : Bool) => (if y44 = true then some false else Option.bind (sl x1 0 y18) fun u50 =>
  Option.bind (F_slices_ContainsFunc_impl_Cue_impl_Cue__impl_areCues_1 u50 u27) fun u53 =>
  (if u53 = true then some false else (F_impl_areCues_L1 x1 u7 m) ((w64 (y18 + 1)))))) (fun k45 => Option.bind (F_impl_within u27.1 0 (w64 (u7 - 1))) fun u66 =>
  (if (!u66) = true then k45 (true) else (if (decide (8 < (List.length u27.2 : Int))) = true then k45 (true) else Option.bind (F_impl_isName u27.2) fun u75 =>
  (if (!u75) = true then k45 (true) else (if (decide (0 < y18)) = true then Option.bind (idx x1 (w64 (y18 - 1))) fun u84 =>
  k45 ((decide (u27.1 ≤ u84.1))) else k45 (false)))))) else some true)
def F_impl_areCues (x0 : (List (Int × Int))) (x1 : (List (Int × (List UInt8)))) : Option Bool :=
  (if (decide (30 < (List.length x1 : Int))) = true then some false else Option.bind (F_impl_countsOf x0) fun u7 =>
  F_impl_areCues_L1 x1 u7 FU (0))
def F_impl_haveCues (x0 : (List (Int × Int))) (x1 : (List (Int × (List UInt8)))) : Option Bool :=
  jK1 (fun (y6 : Bool) => some y6) (fun k7 => Option.bind (F_impl_IsMusic x0) fun u9 =>
  (if u9 = true then Option.bind (F_impl_areCues x0 x1) fun u16 =>
  k7 (u16) else k7 (false)))
def F_impl_timeOf_L1 (x0 : (List (Int × Int))) : Nat → Int → Int → Int → Option Int
  | 0, _, _, _ => none
  | m + 1, y8, y9, y10 => (if (decide (y10 < (List.length x0 : Int))) = true then Option.bind (idx x0 y10) fun u19 =>
  (if (decide (y8 < u19.1)) = true then (if u19.2 = 0 then none else some (w64 (y9 + (w64 (Int.tdiv (w64 (60000 * y8)) u19.2))))) else (if u19.2 = 0 then none else (F_impl_timeOf_L1 x0 m) ((w64 (y8 - u19.1))) ((w64 (y9 + (w64 (Int.tdiv (w64 (60000 * u19.1)) u19.2))))) ((w64 (y10 + 1))))) else some y9)
def F_impl_timeOf (x0 : (List (Int × Int))) (x1 : Int) : Option Int :=
  F_impl_timeOf_L1 x0 FU (x1) (0) (0)
def F_impl_padded_L1 (x1 : Int) : Nat → (List UInt8) → Option (List UInt8)
  | 0, _ => none
  | m + 1, y13 => (if (decide ((List.length y13 : Int) < x1)) = true then Option.bind (app [48] y13) fun u20 =>
  (F_impl_padded_L1 x1 m) (u20) else some y13)
def F_impl_padded (x0 : Int) (x1 : Int) : Option (List UInt8) :=
  Option.bind (F_strconv_Itoa x0) fun u3 =>
  F_impl_padded_L1 x1 FU (u3)
def F_impl_timeText (x0 : Int) : Option (List UInt8) :=
  Option.bind (F_strconv_Itoa (w64 (Int.tdiv x0 60000))) fun u3 =>
  Option.bind (app u3 [58]) fun u9 =>
  Option.bind (F_impl_padded (Int.tmod (w64 (Int.tdiv x0 1000)) 60) 2) fun u10 =>
  Option.bind (app u9 u10) fun u16 =>
  Option.bind (app u16 [46]) fun u17 =>
  Option.bind (F_impl_padded (Int.tmod x0 1000) 3) fun u18 =>
  Option.bind (app u17 u18) fun u24 =>
  some u24
def F_impl_TimetableText_L1 (x1 : (List (Int × (List UInt8)))) (x0 : (List (Int × Int))) : Nat → (List Int) → Int → Option ((List UInt8) × Bool)
  | 0, _, _ => none
  | m + 1, l25, y28 => (if (decide (y28 < (List.length x1 : Int))) = true then Option.bind (idx x1 y28) fun u38 =>
  Option.bind (F_impl_timeOf x0 u38.1) fun u55 =>
  Option.bind (F_impl_timeText u55) fun u63 =>
  Option.bind (app u63 [32]) fun u72 =>
  Option.bind (F_strconv_Itoa u38.1) fun u73 =>
  Option.bind (app u72 u73) fun u81 =>
  Option.bind (app u81 [32]) fun u82 =>
  Option.bind (app u82 u38.2) fun u83 =>
  Option.bind (app u83 [10]) fun u84 =>
  Option.bind (bwr l25 u84) fun u85 =>
  (F_impl_TimetableText_L1 x1 x0 m) (u85) ((w64 (y28 + 1))) else Option.bind (bstr l25) fun u96 =>
  some (u96, true))
def F_impl_TimetableText (x0 : (List (Int × Int))) (x1 : (List (Int × (List UInt8)))) : Option ((List UInt8) × Bool) :=
  Option.bind (F_impl_haveCues x0 x1) fun u4 =>
  (if (!u4) = true then some ([], false) else F_impl_TimetableText_L1 x1 x0 FU ([]) (0))
def F_laws_eqMeasure (x0 : (Int × Int)) (x1 : (Int × Int)) : Option Bool :=
  (if (x0.1 != x1.1) = true then some false else (if (x0.2 != x1.2) = true then some false else some true))
def F_laws_eqMeasureS_L1 (x0 : (List (Int × Int))) (x1 : (List (Int × Int))) : Nat → Int → Option Bool
  | 0, _ => none
  | m + 1, y11 => (if (decide (y11 < (List.length x0 : Int))) = true then Option.bind (idx x0 y11) fun u25 =>
  Option.bind (idx x1 y11) fun u28 =>
  Option.bind (F_laws_eqMeasure u25 u28) fun u31 =>
  (if (!u31) = true then some false else (F_laws_eqMeasureS_L1 x0 x1 m) ((w64 (y11 + 1)))) else some true)
def F_laws_eqMeasureS (x0 : (List (Int × Int))) (x1 : (List (Int × Int))) : Option Bool :=
  (if ((List.length x0 : Int) != (List.length x1 : Int)) = true then some false else F_laws_eqMeasureS_L1 x0 x1 FU (0))
def F_laws_eqCue (x0 : (Int × (List UInt8))) (x1 : (Int × (List UInt8))) : Option Bool :=
  (if (x0.1 != x1.1) = true then some false else (if (x0.2 != x1.2) = true then some false else some true))
def F_laws_eqCueS_L1 (x0 : (List (Int × (List UInt8)))) (x1 : (List (Int × (List UInt8)))) : Nat → Int → Option Bool
  | 0, _ => none
  | m + 1, y11 => (if (decide (y11 < (List.length x0 : Int))) = true then Option.bind (idx x0 y11) fun u25 =>
  Option.bind (idx x1 y11) fun u28 =>
  Option.bind (F_laws_eqCue u25 u28) fun u31 =>
  (if (!u31) = true then some false else (F_laws_eqCueS_L1 x0 x1 m) ((w64 (y11 + 1)))) else some true)
def F_laws_eqCueS (x0 : (List (Int × (List UInt8)))) (x1 : (List (Int × (List UInt8)))) : Option Bool :=
  (if ((List.length x0 : Int) != (List.length x1 : Int)) = true then some false else F_laws_eqCueS_L1 x0 x1 FU (0))
def F_laws_FnExactTimetableText (x0 : (List (Int × Int))) (x1 : (List (Int × (List UInt8)))) : Option Bool :=
  Option.bind (F_laws_szMeasureS x0 1048576) fun u4 =>
  (if (decide (u4 < 0)) = true then some true else Option.bind (F_laws_szCueS x1 u4) fun u15 =>
  (if (decide (u15 < 0)) = true then some true else Option.bind (F_laws_toMeasureS x0) fun u26 =>
  Option.bind (F_laws_toCueS x1) fun u34 =>
  Option.bind (F_spec_TimetableText u26 u34) fun u42 =>
  Option.bind (F_laws_toMeasureS x0) fun u49 =>
  Option.bind (F_laws_toCueS x1) fun u58 =>
  Option.bind (F_impl_TimetableText u49 u58) fun u67 =>
  jK1 (fun (y78 : Bool) => (if y78 = true then some false else Option.bind (F_laws_toMeasureS x0) fun u85 =>
  Option.bind (F_laws_eqMeasureS u49 u85) fun u93 =>
  (if (!u93) = true then some false else Option.bind (F_laws_toCueS x1) fun u103 =>
  Option.bind (F_laws_eqCueS u58 u103) fun u111 =>
  (if (!u111) = true then some false else some true)))) (fun k79 => (if (u67.1 != u42.1) = true then k79 (true) else k79 ((u67.2 != u42.2))))))
end Go.Proofs.YtejhnpimhjmpdaaDoor
