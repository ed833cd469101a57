/-
  THE TYPES of this seat, by program (gen.py).
-/
import Derived.Test.YtejhnpimhjmpdaaDoorCore8
import Derived.Test.YtejhnpimhjmpdaaDoorF
set_option linter.unusedSimpArgs false
set_option linter.unusedVariables false
set_option maxRecDepth 100000
set_option maxHeartbeats 1600000
namespace Go.Proofs.YtejhnpimhjmpdaaDoor
open Go Go.RowKit
noncomputable section
theorem mixed_ : Tryd.prog.follows .mixedOrders = true := by kernel_rfl
theorem tf_3 : TF Tryd.prog 3 1 false (.int .i64 0) := ⟨Tryd.sizeOf3, Tryd.isAgg3, Tryd.zeroValue3, by decide, by decide⟩
theorem tf_5 : TF Tryd.prog 5 1 false (.int .u8 0) := ⟨Tryd.sizeOf5, Tryd.isAgg5, Tryd.zeroValue5, by decide, by decide⟩
theorem tf_9 : TF Tryd.prog 9 1 false (.string .empty) := ⟨Tryd.sizeOf9, Tryd.isAgg9, Tryd.zeroValue9, by decide, by decide⟩
theorem tf_35 : TF Tryd.prog 35 1 false (.slice none 0 0) := ⟨Tryd.sizeOf35, Tryd.isAgg35, Tryd.zeroValue35, by decide, by decide⟩
theorem tf_39 : TF Tryd.prog 39 2 true (.agg #[(.int .i64 0), (.string .empty)]) := ⟨Tryd.sizeOf39, Tryd.isAgg39, Tryd.zeroValue39, by decide, by decide⟩
theorem tf_63 : TF Tryd.prog 63 2 true (.agg #[(.int .i64 0), (.int .i64 0)]) := ⟨Tryd.sizeOf63, Tryd.isAgg63, Tryd.zeroValue63, by decide, by decide⟩
theorem tf_69 : TF Tryd.prog 69 2 true (.agg #[(.pointer none), (.slice none 0 0)]) := ⟨Tryd.sizeOf69, Tryd.isAgg69, Tryd.zeroValue69, by decide, by decide⟩
theorem tf_79 : TF Tryd.prog 79 1 false (.int .u64 0) := ⟨Tryd.sizeOf79, Tryd.isAgg79, Tryd.zeroValue79, by decide, by decide⟩
theorem tf_81 : TF Tryd.prog 81 3 true (.agg #[(.slice none 0 0), (.int .i64 0), (.int .u64 0)]) := ⟨Tryd.sizeOf81, Tryd.isAgg81, Tryd.zeroValue81, by decide, by decide⟩
def enc_3 (x : Int) : List Value := [(.int .i64 x)]
def ty_3 : Ty Tryd.prog Int := { Sh.flat enc_3 1 0 (fun _ => rfl) (fun x => Ones.all (vs := enc_3 x) ⟨rfl, trivial⟩) with tid := 3, bts := 8, agg := false, sz_pos := by decide, bts_le := by decide, info := ⟨_, _, Tryd.type3, rfl, rfl, rfl, rfl⟩, und := ⟨_, Tryd.underlying3, rfl⟩, one1 := by decide }
theorem fl_3 : Flat ty_3 enc_3 := ⟨fun h => h, fun _ _ => ⟨rfl, rfl⟩, fun h => h.1⟩
def enc_5 (x : Int) : List Value := [(.int .u8 x)]
def ty_5 : Ty Tryd.prog Int := { Sh.flat enc_5 1 0 (fun _ => rfl) (fun x => Ones.all (vs := enc_5 x) ⟨rfl, trivial⟩) with tid := 5, bts := 1, agg := false, sz_pos := by decide, bts_le := by decide, info := ⟨_, _, Tryd.type5, rfl, rfl, rfl, rfl⟩, und := ⟨_, Tryd.underlying5, rfl⟩, one1 := by decide }
theorem fl_5 : Flat ty_5 enc_5 := ⟨fun h => h, fun _ _ => ⟨rfl, rfl⟩, fun h => h.1⟩
def enc_9 (x : (List UInt8)) : List Value := [(.string (mkS x))]
def ty_9 : Ty Tryd.prog (List UInt8) := { Sh.flat enc_9 1 [] (fun _ => rfl) (fun x => Ones.all (vs := enc_9 x) ⟨rfl, trivial⟩) with tid := 9, bts := 16, agg := false, sz_pos := by decide, bts_le := by decide, info := ⟨_, _, Tryd.type9, rfl, rfl, rfl, rfl⟩, und := ⟨_, Tryd.underlying9, rfl⟩, one1 := by decide }
theorem fl_9 : Flat ty_9 enc_9 := ⟨fun h => h, fun _ _ => ⟨rfl, rfl⟩, fun h => h.1⟩
def ty_35 : Ty Tryd.prog (List Int) := { Sh.slice ty_5 with tid := 35, bts := 24, agg := false, sz_pos := by decide, bts_le := by decide, info := ⟨_, _, Tryd.type35, rfl, rfl, rfl, rfl⟩, und := ⟨_, Tryd.underlying35, rfl⟩, one1 := by decide }
def enc_39 (x : (Int × (List UInt8))) : List Value := [(.int .i64 x.1), (.string (mkS x.2))]
def ty_39 : Ty Tryd.prog (Int × (List UInt8)) := { Sh.flat enc_39 2 (0, []) (fun _ => rfl) (fun x => Ones.all (vs := enc_39 x) ⟨rfl, rfl, trivial⟩) with tid := 39, bts := 24, agg := true, sz_pos := by decide, bts_le := by decide, info := ⟨_, _, Tryd.type39, rfl, rfl, rfl, rfl⟩, und := ⟨_, Tryd.underlying39, rfl⟩, one1 := by decide }
theorem fl_39 : Flat ty_39 enc_39 := ⟨fun h => h, fun _ _ => ⟨rfl, rfl⟩, fun h => h.1⟩
def enc_63 (x : (Int × Int)) : List Value := [(.int .i64 x.1), (.int .i64 x.2)]
def ty_63 : Ty Tryd.prog (Int × Int) := { Sh.flat enc_63 2 (0, 0) (fun _ => rfl) (fun x => Ones.all (vs := enc_63 x) ⟨rfl, rfl, trivial⟩) with tid := 63, bts := 16, agg := true, sz_pos := by decide, bts_le := by decide, info := ⟨_, _, Tryd.type63, rfl, rfl, rfl, rfl⟩, und := ⟨_, Tryd.underlying63, rfl⟩, one1 := by decide }
theorem fl_63 : Flat ty_63 enc_63 := ⟨fun h => h, fun _ _ => ⟨rfl, rfl⟩, fun h => h.1⟩
theorem ff_39_0 : FFb Tryd.prog 39 0 0 = true := by kernel_rfl
theorem ff_39_1 : FFb Tryd.prog 39 1 1 = true := by kernel_rfl
theorem ff_63_0 : FFb Tryd.prog 63 0 0 = true := by kernel_rfl
theorem ff_63_1 : FFb Tryd.prog 63 1 1 = true := by kernel_rfl
theorem ff_81_0 : FFb Tryd.prog 81 0 0 = true := by kernel_rfl
theorem ff_81_1 : FFb Tryd.prog 81 1 1 = true := by kernel_rfl
theorem ff_81_2 : FFb Tryd.prog 81 2 2 = true := by kernel_rfl
theorem pl_39 : placesB Tryd.prog 39 [(0, 1), (1, 1)] = true := by kernel_rfl
theorem pl_63 : placesB Tryd.prog 63 [(0, 1), (1, 1)] = true := by kernel_rfl
theorem pl_81 : placesB Tryd.prog 81 [(0, 1), (1, 1), (2, 1)] = true := by kernel_rfl
theorem eq_39 (x y : (Int × (List UInt8))) (w : World) : (Op.equalIn 10000 39 (.agg #[(.int .i64 x.1), (.string (mkS x.2))]) (.agg #[(.int .i64 y.1), (.string (mkS y.2))])).run Tryd.prog w = .ok (eqv_Cue x y) w := by
  go_simp
  by_cases h0 : x.1 = y.1 <;> by_cases h1 : x.2 = y.2 <;> simp [eqv_Cue, mkS_list, h0, h1]
theorem eq_63 (x y : (Int × Int)) (w : World) : (Op.equalIn 10000 63 (.agg #[(.int .i64 x.1), (.int .i64 x.2)]) (.agg #[(.int .i64 y.1), (.int .i64 y.2)])).run Tryd.prog w = .ok (eqv_Measure x y) w := by
  go_simp
  by_cases h0 : x.1 = y.1 <;> by_cases h1 : x.2 = y.2 <;> simp [eqv_Measure, h0, h1]
theorem cells_5 : Tryd.prog.cellsOf 5 = 1 := by kernel_rfl
theorem op_5 : Opn Tryd.prog 5 ty_5.rd inU8 := opn_u8 Tryd.underlying5
theorem op_35 : Opn Tryd.prog 35 ty_35.rd (allG inU8) := opn_slice Tryd.underlying35 cells_5 op_5
end
end Go.Proofs.YtejhnpimhjmpdaaDoor
