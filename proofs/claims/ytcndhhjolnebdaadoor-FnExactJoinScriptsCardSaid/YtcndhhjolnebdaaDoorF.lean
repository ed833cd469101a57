/-
  THE FUNCTIONS of this seat as plain functions, by program (gen.py).
-/
import Derived.Test.YtcndhhjolnebdaaDoorCore0
set_option linter.unusedSimpArgs false
set_option linter.unusedVariables false
set_option maxRecDepth 100000
namespace Go.Proofs.YtcndhhjolnebdaaDoor
open Go
def G_Measure (x : (Int × Int)) : Prop := inI64 x.1 ∧ inI64 x.2
def G_Cue (x : (Int × (List UInt8))) : Prop := inI64 x.1 ∧ (allG anyG) x.2
def F_spec_l1Split_L1 (x0 : (List UInt8)) (x1 : Int) : Nat → (List (List UInt8)) → Int → Int → Option (List (List UInt8))
  | 0, _, _, _ => none
  | m + 1, l9, y12, y13 => (if (decide (y13 < (List.length x0 : Int))) = true then jK2 (fun (l25 : (List (List UInt8))) (y28 : Int) => (F_spec_l1Split_L1 x0 x1 m) (l25) (y28) ((w64 (y13 + 1)))) (fun k29 => Option.bind (idx x0 y13) fun u32 =>
  (if ((UInt8.toNat u32 : Int) == x1) = true then Option.bind (sl x0 y12 y13) fun u35 =>
  Option.bind (app l9 [u35]) fun u42 =>
  k29 (u42) ((w64 (y13 + 1))) else k29 (l9) (y12))) else Option.bind (sl x0 y12 (List.length x0 : Int)) fun u50 =>
  Option.bind (app l9 [u50]) fun u57 =>
  some u57)
def F_spec_l1Split (x0 : (List UInt8)) (x1 : Int) : Option (List (List UInt8)) :=
  F_spec_l1Split_L1 x0 x1 FU ([]) (0) (0)
def F_spec_csLines (x0 : (List UInt8)) : Option ((List (List UInt8)) × Bool) :=
  jK1 (fun (y7 : Bool) => (if y7 = true then some ([], false) else Option.bind (F_spec_l1Split x0 10) fun u14 =>
  Option.bind (sl u14 0 (w64 ((List.length u14 : Int) - 1))) fun u23 =>
  (if (decide (40 < (List.length u23 : Int))) = true then some ([], false) else some (u23, true)))) (fun k8 => (if (decide (2000 < (List.length x0 : Int))) = true then k8 (true) else (if (x0 != []) = true then Option.bind (idx x0 (w64 ((List.length x0 : Int) - 1))) fun u42 =>
  k8 (((UInt8.toNat u42 : Int) != 10)) else k8 (false))))
def F_spec_JoinScripts (x0 : (List UInt8)) (x1 : (List UInt8)) : Option ((List UInt8) × Bool) :=
  Option.bind (F_spec_csLines x0) fun u3 =>
  Option.bind (F_spec_csLines x1) fun u12 =>
  Option.bind (app x0 x1) fun u21 =>
  Option.bind (F_spec_csLines u21) fun u22 =>
  jK1 (fun (y35 : Bool) => (if y35 = true then some ([], false) else Option.bind (app x0 x1) fun u41 =>
  some (u41, true))) (fun k36 => (if (!u3.2) = true then k36 (true) else (if (!u12.2) = true then k36 (true) else k36 ((!u22.2)))))
def F_stringslite_IndexByte (x0 : (List UInt8)) (x1 : Int) : Option Int :=
  some (idxB x0 x1)
def F_bytealg_Cutover (x0 : Int) : Option Int :=
  some (w64 (Int.tdiv (w64 (x0 + 16)) 8))
def F_stringslite_Index (x0 : (List UInt8)) (x1 : (List UInt8)) : Option Int :=
  jK1 (fun (y8 : Bool) => (if y8 = true then some 0 else (if ((List.length x1 : Int) == 1) = true then Option.bind (idx x1 0) fun u16 =>
  Option.bind (F_stringslite_IndexByte x0 (UInt8.toNat u16 : Int)) fun u17 =>
  some u17 else (if (decide ((List.length x0 : Int) ≤ (List.length x1 : Int))) = true then some (-1) else none)))) (fun k9 => (if ((List.length x1 : Int) == 0) = true then k9 (true) else k9 ((x1 == x0))))
def F_strings_Index (x0 : (List UInt8)) (x1 : (List UInt8)) : Option Int :=
  Option.bind (F_stringslite_Index x0 x1) fun u3 =>
  some u3
def F_strings_Count_L1 (x1 : (List UInt8)) : Nat → (List UInt8) → Int → Option Int
  | 0, _, _ => none
  | m + 1, y15, y16 => Option.bind (F_strings_Index y15 x1) fun u21 =>
  (if (u21 == (-1)) = true then some y16 else Option.bind (sl y15 (w64 (u21 + (List.length x1 : Int))) (List.length y15 : Int)) fun u32 =>
  (F_strings_Count_L1 x1 m) (u32) ((w64 (y16 + 1))))
def F_strings_Count (x0 : (List UInt8)) (x1 : (List UInt8)) : Option Int :=
  (if ((List.length x1 : Int) == 0) = true then none else (if ((List.length x1 : Int) == 1) = true then Option.bind (idx x1 0) fun u10 =>
  some (cntB x0 (UInt8.toNat u10 : Int)) else F_strings_Count_L1 x1 FU (x0) (0)))
def F_strings_genSplit_L1 (y15 : Int) (x0 : (List UInt8)) (x1 : (List UInt8)) (k38 : ((List UInt8) → (List (List UInt8)) → Int → Option (List (List UInt8)))) (x2 : Int) : Nat → (List UInt8) → (List (List UInt8)) → Int → Option (List (List UInt8))
  | 0, _, _, _ => none
  | m + 1, y64, l65, y68 => (if (decide (y68 < (w64 ((minI y15 (w64 ((List.length x0 : Int) + 1))) - 1)))) = true then Option.bind (F_strings_Index y64 x1) fun u76 =>
  (if (decide (u76 < 0)) = true then k38 (y64) (l65) (y68) else Option.bind (sl y64 0 (w64 (u76 + x2))) fun u86 =>
  Option.bind (idx l65 y68) fun u87 =>
  Option.bind (sl y64 (w64 (u76 + (List.length x1 : Int))) (List.length y64 : Int)) fun u96 =>
  (F_strings_genSplit_L1 y15 x0 x1 k38 x2 m) (u96) ((seti l65 y68 u86)) ((w64 (y68 + 1)))) else k38 (y64) (l65) (y68))
def F_strings_genSplit (x0 : (List UInt8)) (x1 : (List UInt8)) (x2 : Int) (x3 : Int) : Option (List (List UInt8)) :=
  (if (x3 == 0) = true then some [] else (if (x1 == []) = true then none else jK1 (fun (y15 : Int) => Option.bind (mkL (minI y15 (w64 ((List.length x0 : Int) + 1))) []) fun u20 =>
  jK3 (fun (y33 : (List UInt8)) (l34 : (List (List UInt8))) (y37 : Int) => Option.bind (idx l34 y37) fun u41 =>
  Option.bind (sl (seti l34 y37 y33) 0 (w64 (y37 + 1))) fun u50 =>
  some u50) (fun k38 => F_strings_genSplit_L1 y15 x0 x1 k38 x2 FU (x0) (u20) (0))) (fun k16 => (if (decide (x3 < 0)) = true then Option.bind (F_strings_Count x0 x1) fun u99 =>
  k16 ((w64 (u99 + 1))) else k16 (x3)))))
def F_strings_Split (x0 : (List UInt8)) (x1 : (List UInt8)) : Option (List (List UInt8)) :=
  Option.bind (F_strings_genSplit x0 x1 0 (-1)) fun u3 =>
  some u3
def F_impl_linesOf (x0 : (List UInt8)) : Option ((List (List UInt8)) × Bool) :=
  (if (x0 == []) = true then some ([], true) else Option.bind (idx x0 (w64 ((List.length x0 : Int) - 1))) fun u14 =>
  (if ((UInt8.toNat u14 : Int) != 10) = true then some ([], false) else Option.bind (sl x0 0 (w64 ((List.length x0 : Int) - 1))) fun u19 =>
  Option.bind (F_strings_Split u19 [10]) fun u20 =>
  some (u20, true)))
def F_impl_scriptLines (x0 : (List UInt8)) : Option ((List (List UInt8)) × Bool) :=
  Option.bind (F_impl_linesOf x0) fun u3 =>
  jK1 (fun (y16 : Bool) => (if y16 = true then some ([], false) else some (u3.1, true))) (fun k17 => (if (!u3.2) = true then k17 (true) else (if (decide (2000 < (List.length x0 : Int))) = true then k17 (true) else k17 ((decide (40 < (List.length u3.1 : Int)))))))
def F_impl_JoinScripts (x0 : (List UInt8)) (x1 : (List UInt8)) : Option ((List UInt8) × Bool) :=
  Option.bind (F_impl_scriptLines x0) fun u3 =>
  Option.bind (F_impl_scriptLines x1) fun u12 =>
  Option.bind (app x0 x1) fun u21 =>
  Option.bind (F_impl_scriptLines u21) fun u22 =>
  jK1 (fun (y35 : Bool) => (if y35 = true then some ([], false) else Option.bind (app x0 x1) fun u41 =>
  some (u41, true))) (fun k36 => (if (!u3.2) = true then k36 (true) else (if (!u12.2) = true then k36 (true) else k36 ((!u22.2)))))
def F_laws_FnExactJoinScripts (x0 : (List UInt8)) (x1 : (List UInt8)) : Option Bool :=
  (if (decide (1048576 < (List.length x0 : Int))) = true then some true else (if (decide (1048576 < (List.length x1 : Int))) = true then some true else Option.bind (F_spec_JoinScripts x0 x1) fun u11 =>
  Option.bind (F_impl_JoinScripts x0 x1) fun u18 =>
  jK1 (fun (y29 : Bool) => (if y29 = true then some false else some true)) (fun k30 => (if (u18.1 != u11.1) = true then k30 (true) else k30 ((u18.2 != u11.2))))))
def F_laws_szMeasureS (x0 : (List (Int × Int))) (x1 : Int) : Option Int :=
  (if (decide ((w64 (x1 - (List.length x0 : Int))) < 0)) = true then some (-1) else some (w64 (x1 - (List.length x0 : Int))))
def F_laws_szCue (x0 : (Int × (List UInt8))) (x1 : Int) : Option Int :=
  (if (decide ((w64 (x1 - (List.length x0.2 : Int))) < 0)) = true then some (-1) else some (w64 (x1 - (List.length x0.2 : Int))))
def F_laws_szCueS_L1 (x0 : (List (Int × (List UInt8)))) : Nat → Int → Int → Option Int
  | 0, _, _ => none
  | m + 1, y12, y13 => (if (decide (y13 < (List.length x0 : Int))) = true then Option.bind (idx x0 y13) fun u22 =>
  Option.bind (F_laws_szCue u22 y12) fun u25 =>
  (if (decide (u25 < 0)) = true then some (-1) else (F_laws_szCueS_L1 x0 m) (u25) ((w64 (y13 + 1)))) else some y12)
def F_laws_szCueS (x0 : (List (Int × (List UInt8)))) (x1 : Int) : Option Int :=
  (if (decide ((w64 (x1 - (List.length x0 : Int))) < 0)) = true then some (-1) else F_laws_szCueS_L1 x0 FU ((w64 (x1 - (List.length x0 : Int)))) (0))
def F_laws_toMeasure (x0 : (Int × Int)) : Option (Int × Int) :=
  some x0
def F_laws_toMeasureS_L1 (x0 : (List (Int × Int))) : Nat → (List (Int × Int)) → Int → Option (List (Int × Int))
  | 0, _, _ => none
  | m + 1, l15, y18 => (if (decide (y18 < (List.length x0 : Int))) = true then Option.bind (idx x0 y18) fun u26 =>
  Option.bind (F_laws_toMeasure u26) fun u29 =>
  Option.bind (idx l15 y18) fun u35 =>
  (F_laws_toMeasureS_L1 x0 m) ((seti l15 y18 u29)) ((w64 (y18 + 1))) else some l15)
def F_laws_toMeasureS (x0 : (List (Int × Int))) : Option (List (Int × Int)) :=
  Option.bind (mkL (List.length x0 : Int) (0, 0)) fun u3 =>
  F_laws_toMeasureS_L1 x0 FU (u3) (0)
def F_laws_toCue (x0 : (Int × (List UInt8))) : Option (Int × (List UInt8)) :=
  some x0
def F_laws_toCueS_L1 (x0 : (List (Int × (List UInt8)))) : Nat → (List (Int × (List UInt8))) → Int → Option (List (Int × (List UInt8)))
  | 0, _, _ => none
  | m + 1, l15, y18 => (if (decide (y18 < (List.length x0 : Int))) = true then Option.bind (idx x0 y18) fun u26 =>
  Option.bind (F_laws_toCue u26) fun u29 =>
  Option.bind (idx l15 y18) fun u35 =>
  (F_laws_toCueS_L1 x0 m) ((seti l15 y18 u29)) ((w64 (y18 + 1))) else some l15)
def F_laws_toCueS (x0 : (List (Int × (List UInt8)))) : Option (List (Int × (List UInt8))) :=
  Option.bind (mkL (List.length x0 : Int) (0, [])) fun u3 =>
  F_laws_toCueS_L1 x0 FU (u3) (0)
def F_spec_l1In (x0 : Int) (x1 : Int) (x2 : Int) : Option Bool :=
  jK1 (fun (y6 : Bool) => some y6) (fun k7 => (if (decide (x1 ≤ x0)) = true then k7 ((decide (x0 ≤ x2))) else k7 (false)))
def F_spec_muMeasure (x0 : (Int × Int)) : Option Bool :=
  jK1 (fun (y11 : Bool) => some y11) (fun k12 => Option.bind (F_spec_l1In x0.1 1 12) fun u14 =>
  (if u14 = true then Option.bind (F_spec_l1In x0.2 40 220) fun u21 =>
  k12 (u21) else k12 (false)))
def F_spec_muGood_L1 (x0 : (List (Int × Int))) : Nat → Int → Option Bool
  | 0, _ => none
  | m + 1, y7 => (if (decide (y7 < (List.length x0 : Int))) = true then Option.bind (idx x0 y7) fun u16 =>
  Option.bind (F_spec_muMeasure u16) fun u29 =>
  (if (!u29) = true then some false else (F_spec_muGood_L1 x0 m) ((w64 (y7 + 1)))) else Option.bind (F_spec_l1In (List.length x0 : Int) 1 40) fun u38 =>
  some u38)
def F_spec_muGood (x0 : (List (Int × Int))) : Option Bool :=
  F_spec_muGood_L1 x0 FU (0)
def F_spec_muCounts_L1 (x0 : (List (Int × Int))) : Nat → Int → Int → Option Int
  | 0, _, _ => none
  | m + 1, y8, y9 => (if (decide (y9 < (List.length x0 : Int))) = true then Option.bind (idx x0 y9) fun u18 =>
  (F_spec_muCounts_L1 x0 m) ((w64 (y8 + u18.1))) ((w64 (y9 + 1))) else some y8)
def F_spec_muCounts (x0 : (List (Int × Int))) : Option Int :=
  F_spec_muCounts_L1 x0 FU (0) (0)
def F_spec_tiName_L1 (x0 : (List UInt8)) : Nat → Int → Option Bool
  | 0, _ => none
  | m + 1, y7 => (if (decide (y7 < (List.length x0 : Int))) = true then jK1 (fun (y19 : Bool) => (if y19 = true then some false else (F_spec_tiName_L1 x0 m) ((w64 (y7 + 1))))) (fun k20 => Option.bind (idx x0 y7) fun u24 =>
  (if (decide ((UInt8.toNat u24 : Int) < 97)) = true then k20 (true) else Option.bind (idx x0 y7) fun u26 =>
  k20 ((decide (122 < (UInt8.toNat u26 : Int)))))) else Option.bind (F_spec_l1In (List.length x0 : Int) 1 8) fun u28 =>
  some u28)
def F_spec_tiName (x0 : (List UInt8)) : Option Bool :=
  F_spec_tiName_L1 x0 FU (0)
def F_spec_tiCues_L2 (u39 : (List (Int × (List UInt8)))) (u16 : (Int × (List UInt8))) (nx8 : (Int → Option Bool)) (y7 : Int) : Nat → Int → Option Bool
  | 0, _ => none
  | m + 1, y45 => (if (decide (y45 < (List.length u39 : Int))) = true then Option.bind (idx u39 y45) fun u54 =>
  (if (u54.2 == u16.2) = true then some false else (F_spec_tiCues_L2 u39 u16 nx8 y7 m) ((w64 (y45 + 1)))) else nx8 ((w64 (y7 + 1))))
def F_spec_tiCues_L1 (x1 : (List (Int × (List UInt8)))) (x0 : (List (Int × Int))) : Nat → Int → Option Bool
  | 0, _ => none
  | m + 1, y7 => (if (decide (y7 < (List.length x1 : Int))) = true then Option.bind (idx x1 y7) fun u16 =>
  jK1 (fun (y33 : Bool) => (if y33 = true then some false else Option.bind (sl x1 0 y7) fun u39 =>
  F_spec_tiCues_L2 u39 u16 (F_spec_tiCues_L1 x1 x0 m) y7 FU (0))) (fun k34 => Option.bind (F_spec_muCounts x0) fun u74 =>
  Option.bind (F_spec_l1In u16.1 0 (w64 (u74 - 1))) fun u81 =>
  (if (!u81) = true then k34 (true) else Option.bind (F_spec_tiName u16.2) fun u89 =>
  (if (!u89) = true then k34 (true) else (if (decide (0 < y7)) = true then Option.bind (idx x1 (w64 (y7 - 1))) fun u98 =>
  k34 ((decide (u16.1 ≤ u98.1))) else k34 (false))))) else some (decide ((List.length x1 : Int) ≤ 30)))
def F_spec_tiCues (x0 : (List (Int × Int))) (x1 : (List (Int × (List UInt8)))) : Option Bool :=
  F_spec_tiCues_L1 x1 x0 FU (0)
def F_spec_tiGood (x0 : (List (Int × Int))) (x1 : (List (Int × (List UInt8)))) : Option Bool :=
  jK1 (fun (y6 : Bool) => some y6) (fun k7 => Option.bind (F_spec_muGood x0) fun u9 =>
  (if u9 = true then Option.bind (F_spec_tiCues x0 x1) fun u16 =>
  k7 (u16) else k7 (false)))
def F_spec_muLasts (x0 : Int) (x1 : Int) : Option Int :=
  (if x1 = 0 then none else some (w64 (Int.tdiv (w64 (60000 * x0)) x1)))
def F_spec_muTime_L1 (x0 : (List (Int × Int))) : Nat → Int → Int → Int → Option Int
  | 0, _, _, _ => none
  | m + 1, y8, y9, y10 => (if (decide (y10 < (List.length x0 : Int))) = true then Option.bind (idx x0 y10) fun u19 =>
  (if (decide (y8 < u19.1)) = true then Option.bind (F_spec_muLasts y8 u19.2) fun u35 =>
  some (w64 (y9 + u35)) else Option.bind (F_spec_muLasts u19.1 u19.2) fun u42 =>
  (F_spec_muTime_L1 x0 m) ((w64 (y8 - u19.1))) ((w64 (y9 + u42))) ((w64 (y10 + 1)))) else some y9)
def F_spec_muTime (x0 : (List (Int × Int))) (x1 : Int) : Option Int :=
  F_spec_muTime_L1 x0 FU (x1) (0) (0)
def F_spec_tiTimes_L1 (x1 : (List (Int × (List UInt8)))) (x0 : (List (Int × Int))) : Nat → (List Int) → Int → Option (List Int)
  | 0, _, _ => none
  | m + 1, l8, y11 => (if (decide (y11 < (List.length x1 : Int))) = true then Option.bind (idx x1 y11) fun u21 =>
  Option.bind (F_spec_muTime x0 u21.1) fun u33 =>
  Option.bind (app l8 [u33]) fun u45 =>
  (F_spec_tiTimes_L1 x1 x0 m) (u45) ((w64 (y11 + 1))) else some l8)
def F_spec_tiTimes (x0 : (List (Int × Int))) (x1 : (List (Int × (List UInt8)))) : Option (List Int) :=
  F_spec_tiTimes_L1 x1 x0 FU ([]) (0)
def F_impl_within (x0 : Int) (x1 : Int) (x2 : Int) : Option Bool :=
  jK1 (fun (y6 : Bool) => some y6) (fun k7 => (if (decide (x1 ≤ x0)) = true then k7 ((decide (x0 ≤ x2))) else k7 (false)))
def F_impl_IsMusic_L1 (x0 : (List (Int × Int))) : Nat → Int → Option Bool
  | 0, _ => none
  | m + 1, y7 => (if (decide (y7 < (List.length x0 : Int))) = true then Option.bind (idx x0 y7) fun u16 =>
  jK1 (fun (y32 : Bool) => (if y32 = true then some false else (F_impl_IsMusic_L1 x0 m) ((w64 (y7 + 1))))) (fun k33 => Option.bind (F_impl_within u16.1 1 12) fun u37 =>
  (if (!u37) = true then k33 (true) else Option.bind (F_impl_within u16.2 40 220) fun u44 =>
  k33 ((!u44)))) else Option.bind (F_impl_within (List.length x0 : Int) 1 40) fun u51 =>
  some u51)
def F_impl_IsMusic (x0 : (List (Int × Int))) : Option Bool :=
  F_impl_IsMusic_L1 x0 FU (0)
def F_impl_countsOf_L1 (x0 : (List (Int × Int))) : Nat → Int → Int → Option Int
  | 0, _, _ => none
  | m + 1, y8, y9 => (if (decide (y9 < (List.length x0 : Int))) = true then Option.bind (idx x0 y9) fun u18 =>
  (F_impl_countsOf_L1 x0 m) ((w64 (y8 + u18.1))) ((w64 (y9 + 1))) else some y8)
def F_impl_countsOf (x0 : (List (Int × Int))) : Option Int :=
  F_impl_countsOf_L1 x0 FU (0) (0)
def F_impl_isName_L1 (x0 : (List UInt8)) : Nat → Int → Option Bool
  | 0, _ => none
  | m + 1, y7 => (if (decide (y7 < (List.length x0 : Int))) = true then jK1 (fun (y19 : Bool) => (if y19 = true then some false else (F_impl_isName_L1 x0 m) ((w64 (y7 + 1))))) (fun k20 => Option.bind (idx x0 y7) fun u24 =>
  (if (decide ((UInt8.toNat u24 : Int) < 97)) = true then k20 (true) else Option.bind (idx x0 y7) fun u26 =>
  k20 ((decide (122 < (UInt8.toNat u26 : Int)))))) else Option.bind (F_impl_within (List.length x0 : Int) 1 12) fun u28 =>
  some u28)
def F_impl_isName (x0 : (List UInt8)) : Option Bool :=
  F_impl_isName_L1 x0 FU (0)
def F_impl_areCues_1 (x0 : (Int × (List UInt8))) (y1 : (Int × (List UInt8))) : Option Bool :=
  some (x0.2 == y1.2)
def F_slices_IndexFunc_impl_Cue_impl_Cue__impl_areCues_1_L1 (x0 : (List (Int × (List UInt8)))) (y1_0 : (Int × (List UInt8))) : Nat → Int → Option Int
  | 0, _ => none
  | m + 1, y7 => (if (decide (y7 < (List.length x0 : Int))) = true then Option.bind (idx x0 y7) fun u17 =>
  Option.bind (F_impl_areCues_1 u17 y1_0) fun u20 =>
  (if u20 = true then some y7 else (F_slices_IndexFunc_impl_Cue_impl_Cue__impl_areCues_1_L1 x0 y1_0 m) ((w64 (y7 + 1)))) else some (-1))
def F_slices_IndexFunc_impl_Cue_impl_Cue__impl_areCues_1 (x0 : (List (Int × (List UInt8)))) (y1_0 : (Int × (List UInt8))) : Option Int :=
  F_slices_IndexFunc_impl_Cue_impl_Cue__impl_areCues_1_L1 x0 y1_0 FU (0)
def F_slices_ContainsFunc_impl_Cue_impl_Cue__impl_areCues_1 (x0 : (List (Int × (List UInt8)))) (y1_0 : (Int × (List UInt8))) : Option Bool :=
  Option.bind (F_slices_IndexFunc_impl_Cue_impl_Cue__impl_areCues_1 x0 y1_0) fun u3 =>
  some (decide (0 ≤ u3))
def F_impl_areCues_L1 (x1 : (List (Int × (List UInt8)))) (u7 : Int) : Nat → Int → Option Bool
  | 0, _ => none
  | m + 1, y18 => (if (decide (y18 < (List.length x1 : Int))) = true then Option.bind (idx x1 y18) fun u27 =>
  jK1 (fun (y44 : Bool) => (if y44 = true then some false else Option.bind (sl x1 0 y18) fun u50 =>
  Option.bind (F_slices_ContainsFunc_impl_Cue_impl_Cue__impl_areCues_1 u50 u27) fun u53 =>
  (if u53 = true then some false else (F_impl_areCues_L1 x1 u7 m) ((w64 (y18 + 1)))))) (fun k45 => Option.bind (F_impl_within u27.1 0 (w64 (u7 - 1))) fun u66 =>
  (if (!u66) = true then k45 (true) else (if (decide (8 < (List.length u27.2 : Int))) = true then k45 (true) else Option.bind (F_impl_isName u27.2) fun u75 =>
  (if (!u75) = true then k45 (true) else (if (decide (0 < y18)) = true then Option.bind (idx x1 (w64 (y18 - 1))) fun u84 =>
  k45 ((decide (u27.1 ≤ u84.1))) else k45 (false)))))) else some true)
def F_impl_areCues (x0 : (List (Int × Int))) (x1 : (List (Int × (List UInt8)))) : Option Bool :=
  (if (decide (30 < (List.length x1 : Int))) = true then some false else Option.bind (F_impl_countsOf x0) fun u7 =>
  F_impl_areCues_L1 x1 u7 FU (0))
def F_impl_haveCues (x0 : (List (Int × Int))) (x1 : (List (Int × (List UInt8)))) : Option Bool :=
  jK1 (fun (y6 : Bool) => some y6) (fun k7 => Option.bind (F_impl_IsMusic x0) fun u9 =>
  (if u9 = true then Option.bind (F_impl_areCues x0 x1) fun u16 =>
  k7 (u16) else k7 (false)))
def F_impl_timeOf_L1 (x0 : (List (Int × Int))) : Nat → Int → Int → Int → Option Int
  | 0, _, _, _ => none
  | m + 1, y8, y9, y10 => (if (decide (y10 < (List.length x0 : Int))) = true then Option.bind (idx x0 y10) fun u19 =>
  (if (decide (y8 < u19.1)) = true then (if u19.2 = 0 then none else some (w64 (y9 + (w64 (Int.tdiv (w64 (60000 * y8)) u19.2))))) else (if u19.2 = 0 then none else (F_impl_timeOf_L1 x0 m) ((w64 (y8 - u19.1))) ((w64 (y9 + (w64 (Int.tdiv (w64 (60000 * u19.1)) u19.2))))) ((w64 (y10 + 1))))) else some y9)
def F_impl_timeOf (x0 : (List (Int × Int))) (x1 : Int) : Option Int :=
  F_impl_timeOf_L1 x0 FU (x1) (0) (0)
def F_strconv_small (x0 : Int) : Option (List UInt8) :=
  (if (decide (x0 < 10)) = true then Option.bind (sl [48, 49, 50, 51, 52, 53, 54, 55, 56, 57, 97, 98, 99, 100, 101, 102, 103, 104, 105, 106, 107, 108, 109, 110, 111, 112, 113, 114, 115, 116, 117, 118, 119, 120, 121, 122] x0 (w64 (x0 + 1))) fun u6 =>
  some u6 else Option.bind (sl [48, 48, 48, 49, 48, 50, 48, 51, 48, 52, 48, 53, 48, 54, 48, 55, 48, 56, 48, 57, 49, 48, 49, 49, 49, 50, 49, 51, 49, 52, 49, 53, 49, 54, 49, 55, 49, 56, 49, 57, 50, 48, 50, 49, 50, 50, 50, 51, 50, 52, 50, 53, 50, 54, 50, 55, 50, 56, 50, 57, 51, 48, 51, 49, 51, 50, 51, 51, 51, 52, 51, 53, 51, 54, 51, 55, 51, 56, 51, 57, 52, 48, 52, 49, 52, 50, 52, 51, 52, 52, 52, 53, 52, 54, 52, 55, 52, 56, 52, 57, 53, 48, 53, 49, 53, 50, 53, 51, 53, 52, 53, 53, 53, 54, 53, 55, 53, 56, 53, 57, 54, 48, 54, 49, 54, 50, 54, 51, 54, 52, 54, 53, 54, 54, 54, 55, 54, 56, 54, 57, 55, 48, 55, 49, 55, 50, 55, 51, 55, 52, 55, 53, 55, 54, 55, 55, 55, 56, 55, 57, 56, 48, 56, 49, 56, 50, 56, 51, 56, 52, 56, 53, 56, 54, 56, 55, 56, 56, 56, 57, 57, 48, 57, 49, 57, 50, 57, 51, 57, 52, 57, 53, 57, 54, 57, 55, 57, 56, 57, 57] (w64 (x0 * 2)) (w64 ((w64 (x0 * 2)) + 2))) fun u8 =>
  some u8)
def F_bits_Len64 (x0 : Int) : Option Int :=
  jK2 (fun (y6 : Int) (y7 : Int) => jK2 (fun (y14 : Int) (y15 : Int) => jK2 (fun (y22 : Int) (y23 : Int) => Option.bind (idx [0, 1, 2, 2, 3, 3, 3, 3, 4, 4, 4, 4, 4, 4, 4, 4, 5, 5, 5, 5, 5, 5, 5, 5, 5, 5, 5, 5, 5, 5, 5, 5, 6, 6, 6, 6, 6, 6, 6, 6, 6, 6, 6, 6, 6, 6, 6, 6, 6, 6, 6, 6, 6, 6, 6, 6, 6, 6, 6, 6, 6, 6, 6, 6, 7, 7, 7, 7, 7, 7, 7, 7, 7, 7, 7, 7, 7, 7, 7, 7, 7, 7, 7, 7, 7, 7, 7, 7, 7, 7, 7, 7, 7, 7, 7, 7, 7, 7, 7, 7, 7, 7, 7, 7, 7, 7, 7, 7, 7, 7, 7, 7, 7, 7, 7, 7, 7, 7, 7, 7, 7, 7, 7, 7, 7, 7, 7, 7, 8, 8, 8, 8, 8, 8, 8, 8, 8, 8, 8, 8, 8, 8, 8, 8, 8, 8, 8, 8, 8, 8, 8, 8, 8, 8, 8, 8, 8, 8, 8, 8, 8, 8, 8, 8, 8, 8, 8, 8, 8, 8, 8, 8, 8, 8, 8, 8, 8, 8, 8, 8, 8, 8, 8, 8, 8, 8, 8, 8, 8, 8, 8, 8, 8, 8, 8, 8, 8, 8, 8, 8, 8, 8, 8, 8, 8, 8, 8, 8, 8, 8, 8, 8, 8, 8, 8, 8, 8, 8, 8, 8, 8, 8, 8, 8, 8, 8, 8, 8, 8, 8, 8, 8, 8, 8, 8, 8, 8, 8, 8, 8, 8, 8, 8, 8, 8, 8, 8, 8, 8, 8, 8, 8, 8, 8, 8, 8] (wu8 y22)) fun u27 =>
  some (w64 (y23 + (w64 (UInt8.toNat u27 : Int))))) (fun k24 => (if (decide (256 ≤ y14)) = true then k24 ((shrK .u64 y14 8)) ((w64 (y15 + 8))) else k24 (y14) (y15)))) (fun k16 => (if (decide (65536 ≤ y6)) = true then k16 ((shrK .u64 y6 16)) ((w64 (y7 + 16))) else k16 (y6) (y7)))) (fun k8 => (if (decide (4294967296 ≤ x0)) = true then k8 ((shrK .u64 x0 32)) (32) else k8 (x0) (0)))
def F_strconv_log10Pow2 (x0 : Int) : Option Int :=
  some (shrK .i64 (w64 (x0 * 78913)) 18)
def F_strconv_bool2_int (x0 : Bool) : Option Int :=
  (if x0 = true then some 1 else some 0)
def F_strconv_isPowerOfTwo (x0 : Int) : Option Bool :=
  some ((andK .i64 x0 (w64 (x0 - 1))) == 0)
def F_laws_eqMeasure (x0 : (Int × Int)) (x1 : (Int × Int)) : Option Bool :=
  (if (x0.1 != x1.1) = true then some false else (if (x0.2 != x1.2) = true then some false else some true))
def F_laws_eqMeasureS_L1 (x0 : (List (Int × Int))) (x1 : (List (Int × Int))) : Nat → Int → Option Bool
  | 0, _ => none
  | m + 1, y11 => (if (decide (y11 < (List.length x0 : Int))) = true then Option.bind (idx x0 y11) fun u25 =>
  Option.bind (idx x1 y11) fun u28 =>
  Option.bind (F_laws_eqMeasure u25 u28) fun u31 =>
  (if (!u31) = true then some false else (F_laws_eqMeasureS_L1 x0 x1 m) ((w64 (y11 + 1)))) else some true)
def F_laws_eqMeasureS (x0 : (List (Int × Int))) (x1 : (List (Int × Int))) : Option Bool :=
  (if ((List.length x0 : Int) != (List.length x1 : Int)) = true then some false else F_laws_eqMeasureS_L1 x0 x1 FU (0))
def F_laws_eqCue (x0 : (Int × (List UInt8))) (x1 : (Int × (List UInt8))) : Option Bool :=
  (if (x0.1 != x1.1) = true then some false else (if (x0.2 != x1.2) = true then some false else some true))
def F_laws_eqCueS_L1 (x0 : (List (Int × (List UInt8)))) (x1 : (List (Int × (List UInt8)))) : Nat → Int → Option Bool
  | 0, _ => none
  | m + 1, y11 => (if (decide (y11 < (List.length x0 : Int))) = true then Option.bind (idx x0 y11) fun u25 =>
  Option.bind (idx x1 y11) fun u28 =>
  Option.bind (F_laws_eqCue u25 u28) fun u31 =>
  (if (!u31) = true then some false else (F_laws_eqCueS_L1 x0 x1 m) ((w64 (y11 + 1)))) else some true)
def F_laws_eqCueS (x0 : (List (Int × (List UInt8)))) (x1 : (List (Int × (List UInt8)))) : Option Bool :=
  (if ((List.length x0 : Int) != (List.length x1 : Int)) = true then some false else F_laws_eqCueS_L1 x0 x1 FU (0))
end Go.Proofs.YtcndhhjolnebdaaDoor
