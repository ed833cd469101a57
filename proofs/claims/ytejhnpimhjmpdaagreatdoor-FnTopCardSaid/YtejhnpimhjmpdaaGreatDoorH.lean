/-
  THE TYPES of this seat, by program (gen.py).
-/
import Derived.Test.YtejhnpimhjmpdaaGreatDoorCore8
import Derived.Test.YtejhnpimhjmpdaaGreatDoorF
set_option linter.unusedSimpArgs false
set_option linter.unusedVariables false
set_option maxRecDepth 100000
set_option maxHeartbeats 1600000
namespace Go.Proofs.YtejhnpimhjmpdaaGreatDoor
open Go Go.RowKit
noncomputable section
theorem mixed_ : Tryz.prog.follows .mixedOrders = true := by kernel_rfl
theorem tf_3 : TF Tryz.prog 3 1 false (.int .i64 0) := ⟨Tryz.sizeOf3, Tryz.isAgg3, Tryz.zeroValue3, by decide, by decide⟩
theorem tf_5 : TF Tryz.prog 5 1 false (.int .u8 0) := ⟨Tryz.sizeOf5, Tryz.isAgg5, Tryz.zeroValue5, by decide, by decide⟩
theorem tf_9 : TF Tryz.prog 9 1 false (.string .empty) := ⟨Tryz.sizeOf9, Tryz.isAgg9, Tryz.zeroValue9, by decide, by decide⟩
theorem tf_22 : TF Tryz.prog 22 1 false (.slice none 0 0) := ⟨Tryz.sizeOf22, Tryz.isAgg22, Tryz.zeroValue22, by decide, by decide⟩
theorem tf_24 : TF Tryz.prog 24 1 false (.slice none 0 0) := ⟨Tryz.sizeOf24, Tryz.isAgg24, Tryz.zeroValue24, by decide, by decide⟩
theorem tf_25 : TF Tryz.prog 25 1 false (.slice none 0 0) := ⟨Tryz.sizeOf25, Tryz.isAgg25, Tryz.zeroValue25, by decide, by decide⟩
theorem tf_27 : TF Tryz.prog 27 4 true (.agg #[(.slice none 0 0), (.slice none 0 0), (.int .i64 0), (.int .i64 0)]) := ⟨Tryz.sizeOf27, Tryz.isAgg27, Tryz.zeroValue27, by decide, by decide⟩
theorem tf_38 : TF Tryz.prog 38 2 true (.agg #[(.int .i64 0), (.int .i64 0)]) := ⟨Tryz.sizeOf38, Tryz.isAgg38, Tryz.zeroValue38, by decide, by decide⟩
theorem tf_40 : TF Tryz.prog 40 5 true (.agg #[(.int .i64 0), (.int .i64 0), (.int .i64 0), (.int .i64 0), (.int .i64 0)]) := ⟨Tryz.sizeOf40, Tryz.isAgg40, Tryz.zeroValue40, by decide, by decide⟩
theorem tf_46 : TF Tryz.prog 46 1 false (.slice none 0 0) := ⟨Tryz.sizeOf46, Tryz.isAgg46, Tryz.zeroValue46, by decide, by decide⟩
theorem tf_48 : TF Tryz.prog 48 4 true (.agg #[(.int .i64 0), (.int .i64 0), (.int .i64 0), (.slice none 0 0)]) := ⟨Tryz.sizeOf48, Tryz.isAgg48, Tryz.zeroValue48, by decide, by decide⟩
theorem tf_51 : TF Tryz.prog 51 1 false (.slice none 0 0) := ⟨Tryz.sizeOf51, Tryz.isAgg51, Tryz.zeroValue51, by decide, by decide⟩
theorem tf_58 : TF Tryz.prog 58 7 true (.agg #[(.slice none 0 0), (.slice none 0 0), (.int .i64 0), (.int .i64 0), (.int .i64 0), (.slice none 0 0), (.slice none 0 0)]) := ⟨Tryz.sizeOf58, Tryz.isAgg58, Tryz.zeroValue58, by decide, by decide⟩
theorem tf_71 : TF Tryz.prog 71 1 false (.int .u64 0) := ⟨Tryz.sizeOf71, Tryz.isAgg71, Tryz.zeroValue71, by decide, by decide⟩
theorem tf_73 : TF Tryz.prog 73 3 true (.agg #[(.slice none 0 0), (.int .i64 0), (.int .u64 0)]) := ⟨Tryz.sizeOf73, Tryz.isAgg73, Tryz.zeroValue73, by decide, by decide⟩
theorem tf_101 : TF Tryz.prog 101 3 true (.agg #[(.int .i64 0), (.int .i64 0), (.int .i64 0)]) := ⟨Tryz.sizeOf101, Tryz.isAgg101, Tryz.zeroValue101, by decide, by decide⟩
theorem tf_127 : TF Tryz.prog 127 2 true (.agg #[(.pointer none), (.slice none 0 0)]) := ⟨Tryz.sizeOf127, Tryz.isAgg127, Tryz.zeroValue127, by decide, by decide⟩
def enc_3 (x : Int) : List Value := [(.int .i64 x)]
def ty_3 : Ty Tryz.prog Int := { Sh.flat enc_3 1 0 (fun _ => rfl) (fun x => Ones.all (vs := enc_3 x) ⟨rfl, trivial⟩) with tid := 3, bts := 8, agg := false, sz_pos := by decide, bts_le := by decide, info := ⟨_, _, Tryz.type3, rfl, rfl, rfl, rfl⟩, und := ⟨_, Tryz.underlying3, rfl⟩, one1 := by decide }
theorem fl_3 : Flat ty_3 enc_3 := ⟨fun h => h, fun _ _ => ⟨rfl, rfl⟩, fun h => h.1⟩
def enc_5 (x : Int) : List Value := [(.int .u8 x)]
def ty_5 : Ty Tryz.prog Int := { Sh.flat enc_5 1 0 (fun _ => rfl) (fun x => Ones.all (vs := enc_5 x) ⟨rfl, trivial⟩) with tid := 5, bts := 1, agg := false, sz_pos := by decide, bts_le := by decide, info := ⟨_, _, Tryz.type5, rfl, rfl, rfl, rfl⟩, und := ⟨_, Tryz.underlying5, rfl⟩, one1 := by decide }
theorem fl_5 : Flat ty_5 enc_5 := ⟨fun h => h, fun _ _ => ⟨rfl, rfl⟩, fun h => h.1⟩
def enc_9 (x : (List UInt8)) : List Value := [(.string (mkS x))]
def ty_9 : Ty Tryz.prog (List UInt8) := { Sh.flat enc_9 1 [] (fun _ => rfl) (fun x => Ones.all (vs := enc_9 x) ⟨rfl, trivial⟩) with tid := 9, bts := 16, agg := false, sz_pos := by decide, bts_le := by decide, info := ⟨_, _, Tryz.type9, rfl, rfl, rfl, rfl⟩, und := ⟨_, Tryz.underlying9, rfl⟩, one1 := by decide }
theorem fl_9 : Flat ty_9 enc_9 := ⟨fun h => h, fun _ _ => ⟨rfl, rfl⟩, fun h => h.1⟩
def ty_22 : Ty Tryz.prog (List Int) := { Sh.slice ty_5 with tid := 22, bts := 24, agg := false, sz_pos := by decide, bts_le := by decide, info := ⟨_, _, Tryz.type22, rfl, rfl, rfl, rfl⟩, und := ⟨_, Tryz.underlying22, rfl⟩, one1 := by decide }
def ty_25 : Ty Tryz.prog (List Int) := { Sh.slice ty_3 with tid := 25, bts := 24, agg := false, sz_pos := by decide, bts_le := by decide, info := ⟨_, _, Tryz.type25, rfl, rfl, rfl, rfl⟩, und := ⟨_, Tryz.underlying25, rfl⟩, one1 := by decide }
def enc_38 (x : (Int × Int)) : List Value := [(.int .i64 x.1), (.int .i64 x.2)]
def ty_38 : Ty Tryz.prog (Int × Int) := { Sh.flat enc_38 2 (0, 0) (fun _ => rfl) (fun x => Ones.all (vs := enc_38 x) ⟨rfl, rfl, trivial⟩) with tid := 38, bts := 16, agg := true, sz_pos := by decide, bts_le := by decide, info := ⟨_, _, Tryz.type38, rfl, rfl, rfl, rfl⟩, und := ⟨_, Tryz.underlying38, rfl⟩, one1 := by decide }
theorem fl_38 : Flat ty_38 enc_38 := ⟨fun h => h, fun _ _ => ⟨rfl, rfl⟩, fun h => h.1⟩
def enc_40 (x : ((Int × Int) × (Int × Int) × Int)) : List Value := [(.int .i64 x.1.1), (.int .i64 x.1.2), (.int .i64 x.2.1.1), (.int .i64 x.2.1.2), (.int .i64 x.2.2)]
def ty_40 : Ty Tryz.prog ((Int × Int) × (Int × Int) × Int) := { Sh.flat enc_40 5 ((0, 0), (0, 0), 0) (fun _ => rfl) (fun x => Ones.all (vs := enc_40 x) ⟨rfl, rfl, rfl, rfl, rfl, trivial⟩) with tid := 40, bts := 40, agg := true, sz_pos := by decide, bts_le := by decide, info := ⟨_, _, Tryz.type40, rfl, rfl, rfl, rfl⟩, und := ⟨_, Tryz.underlying40, rfl⟩, one1 := by decide }
theorem fl_40 : Flat ty_40 enc_40 := ⟨fun h => h, fun _ _ => ⟨rfl, rfl⟩, fun h => h.1⟩
def enc_101 (x : (Int × (Int × Int))) : List Value := [(.int .i64 x.1), (.int .i64 x.2.1), (.int .i64 x.2.2)]
def ty_101 : Ty Tryz.prog (Int × (Int × Int)) := { Sh.flat enc_101 3 (0, (0, 0)) (fun _ => rfl) (fun x => Ones.all (vs := enc_101 x) ⟨rfl, rfl, rfl, trivial⟩) with tid := 101, bts := 24, agg := true, sz_pos := by decide, bts_le := by decide, info := ⟨_, _, Tryz.type101, rfl, rfl, rfl, rfl⟩, und := ⟨_, Tryz.underlying101, rfl⟩, one1 := by decide }
theorem fl_101 : Flat ty_101 enc_101 := ⟨fun h => h, fun _ _ => ⟨rfl, rfl⟩, fun h => h.1⟩
def ty_46 : Ty Tryz.prog (List (Int × (Int × Int))) := { Sh.slice ty_101 with tid := 46, bts := 24, agg := false, sz_pos := by decide, bts_le := by decide, info := ⟨_, _, Tryz.type46, rfl, rfl, rfl, rfl⟩, und := ⟨_, Tryz.underlying46, rfl⟩, one1 := by decide }
def ty_48 : Ty Tryz.prog (Int × (Int × Int) × (List (Int × (Int × Int)))) := { (Sh.prod ty_3.toSh (Sh.prod ty_38.toSh ty_46.toSh)) with tid := 48, bts := 48, agg := true, sz_pos := by decide, bts_le := by decide, info := ⟨_, _, Tryz.type48, rfl, rfl, rfl, rfl⟩, und := ⟨_, Tryz.underlying48, rfl⟩, one1 := by decide }
def ty_51 : Ty Tryz.prog (List (Int × Int)) := { Sh.slice ty_38 with tid := 51, bts := 24, agg := false, sz_pos := by decide, bts_le := by decide, info := ⟨_, _, Tryz.type51, rfl, rfl, rfl, rfl⟩, und := ⟨_, Tryz.underlying51, rfl⟩, one1 := by decide }
theorem ff_27_0 : FFb Tryz.prog 27 0 0 = true := by kernel_rfl
theorem ff_27_1 : FFb Tryz.prog 27 1 1 = true := by kernel_rfl
theorem ff_27_2 : FFb Tryz.prog 27 2 2 = true := by kernel_rfl
theorem ff_27_3 : FFb Tryz.prog 27 3 3 = true := by kernel_rfl
theorem ff_38_0 : FFb Tryz.prog 38 0 0 = true := by kernel_rfl
theorem ff_38_1 : FFb Tryz.prog 38 1 1 = true := by kernel_rfl
theorem ff_40_0 : FFb Tryz.prog 40 0 0 = true := by kernel_rfl
theorem ff_40_1 : FFb Tryz.prog 40 1 2 = true := by kernel_rfl
theorem ff_40_2 : FFb Tryz.prog 40 2 4 = true := by kernel_rfl
theorem ff_48_0 : FFb Tryz.prog 48 0 0 = true := by kernel_rfl
theorem ff_48_1 : FFb Tryz.prog 48 1 1 = true := by kernel_rfl
theorem ff_48_2 : FFb Tryz.prog 48 2 3 = true := by kernel_rfl
theorem ff_58_0 : FFb Tryz.prog 58 0 0 = true := by kernel_rfl
theorem ff_58_1 : FFb Tryz.prog 58 1 4 = true := by kernel_rfl
theorem ff_58_2 : FFb Tryz.prog 58 2 5 = true := by kernel_rfl
theorem ff_58_3 : FFb Tryz.prog 58 3 6 = true := by kernel_rfl
theorem ff_73_0 : FFb Tryz.prog 73 0 0 = true := by kernel_rfl
theorem ff_73_1 : FFb Tryz.prog 73 1 1 = true := by kernel_rfl
theorem ff_73_2 : FFb Tryz.prog 73 2 2 = true := by kernel_rfl
theorem ff_101_0 : FFb Tryz.prog 101 0 0 = true := by kernel_rfl
theorem ff_101_1 : FFb Tryz.prog 101 1 1 = true := by kernel_rfl
theorem pl_27 : placesB Tryz.prog 27 [(0, 1), (1, 1), (2, 1), (3, 1)] = true := by kernel_rfl
theorem pl_38 : placesB Tryz.prog 38 [(0, 1), (1, 1)] = true := by kernel_rfl
theorem pl_40 : placesB Tryz.prog 40 [(0, 2), (2, 2), (4, 1)] = true := by kernel_rfl
theorem pl_48 : placesB Tryz.prog 48 [(0, 1), (1, 2), (3, 1)] = true := by kernel_rfl
theorem pl_58 : placesB Tryz.prog 58 [(0, 4), (4, 1), (5, 1), (6, 1)] = true := by kernel_rfl
theorem pl_73 : placesB Tryz.prog 73 [(0, 1), (1, 1), (2, 1)] = true := by kernel_rfl
theorem pl_101 : placesB Tryz.prog 101 [(0, 1), (1, 2)] = true := by kernel_rfl
theorem eq_38 (x y : (Int × Int)) (w : World) : (Op.equalIn 10000 38 (.agg #[(.int .i64 x.1), (.int .i64 x.2)]) (.agg #[(.int .i64 y.1), (.int .i64 y.2)])).run Tryz.prog w = .ok (eqv_Spot x y) w := by
  go_simp
  by_cases h0 : x.1 = y.1 <;> by_cases h1 : x.2 = y.2 <;> simp [eqv_Spot, h0, h1]
theorem eq_40 (x y : ((Int × Int) × (Int × Int) × Int)) (w : World) : (Op.equalIn 10000 40 (.agg #[(.int .i64 x.1.1), (.int .i64 x.1.2), (.int .i64 x.2.1.1), (.int .i64 x.2.1.2), (.int .i64 x.2.2)]) (.agg #[(.int .i64 y.1.1), (.int .i64 y.1.2), (.int .i64 y.2.1.1), (.int .i64 y.2.1.2), (.int .i64 y.2.2)])).run Tryz.prog w = .ok (eqv_Move x y) w := by
  go_simp
  by_cases h0 : x.1.1 = y.1.1 <;> by_cases h1 : x.1.2 = y.1.2 <;> by_cases h2 : x.2.1.1 = y.2.1.1 <;> by_cases h3 : x.2.1.2 = y.2.1.2 <;> by_cases h4 : x.2.2 = y.2.2 <;> simp [eqv_Move, h0, h1, h2, h3, h4]
theorem eq_101 (x y : (Int × (Int × Int))) (w : World) : (Op.equalIn 10000 101 (.agg #[(.int .i64 x.1), (.int .i64 x.2.1), (.int .i64 x.2.2)]) (.agg #[(.int .i64 y.1), (.int .i64 y.2.1), (.int .i64 y.2.2)])).run Tryz.prog w = .ok (eqv_Row x y) w := by
  go_simp
  by_cases h0 : x.1 = y.1 <;> by_cases h1 : x.2.1 = y.2.1 <;> by_cases h2 : x.2.2 = y.2.2 <;> simp [eqv_Row, h0, h1, h2]
theorem cells_5 : Tryz.prog.cellsOf 5 = 1 := by kernel_rfl
theorem op_5 : Opn Tryz.prog 5 ty_5.rd inU8 := opn_u8 Tryz.underlying5
theorem op_22 : Opn Tryz.prog 22 ty_22.rd (allG inU8) := opn_slice Tryz.underlying22 cells_5 op_5
end
end Go.Proofs.YtejhnpimhjmpdaaGreatDoor
