/-
  THE TYPES of this seat, by program (gen.py).
-/
import Derived.Test.YtmkignciedkidaaGreatCore8
import Derived.Test.YtmkignciedkidaaGreatF
set_option linter.unusedSimpArgs false
set_option linter.unusedVariables false
set_option maxRecDepth 100000
set_option maxHeartbeats 1600000
namespace Go.Proofs.YtmkignciedkidaaGreat
open Go Go.RowKit
noncomputable section
theorem mixed_ : Tryz.prog.follows .mixedOrders = true := by kernel_rfl
theorem tf_3 : TF Tryz.prog 3 1 false (.int .i64 0) := ⟨Tryz.sizeOf3, Tryz.isAgg3, Tryz.zeroValue3, by decide, by decide⟩
theorem tf_5 : TF Tryz.prog 5 1 false (.int .u8 0) := ⟨Tryz.sizeOf5, Tryz.isAgg5, Tryz.zeroValue5, by decide, by decide⟩
theorem tf_22 : TF Tryz.prog 22 1 false (.slice none 0 0) := ⟨Tryz.sizeOf22, Tryz.isAgg22, Tryz.zeroValue22, by decide, by decide⟩
theorem tf_24 : TF Tryz.prog 24 1 false (.slice none 0 0) := ⟨Tryz.sizeOf24, Tryz.isAgg24, Tryz.zeroValue24, by decide, by decide⟩
theorem tf_25 : TF Tryz.prog 25 1 false (.slice none 0 0) := ⟨Tryz.sizeOf25, Tryz.isAgg25, Tryz.zeroValue25, by decide, by decide⟩
theorem tf_27 : TF Tryz.prog 27 4 true (.agg #[(.slice none 0 0), (.slice none 0 0), (.int .i64 0), (.int .i64 0)]) := ⟨Tryz.sizeOf27, Tryz.isAgg27, Tryz.zeroValue27, by decide, by decide⟩
theorem tf_29 : TF Tryz.prog 29 7 true (.agg #[(.slice none 0 0), (.slice none 0 0), (.int .i64 0), (.int .i64 0), (.int .i64 0), (.slice none 0 0), (.slice none 0 0)]) := ⟨Tryz.sizeOf29, Tryz.isAgg29, Tryz.zeroValue29, by decide, by decide⟩
theorem tf_42 : TF Tryz.prog 42 2 true (.agg #[(.int .i64 0), (.int .i64 0)]) := ⟨Tryz.sizeOf42, Tryz.isAgg42, Tryz.zeroValue42, by decide, by decide⟩
theorem tf_51 : TF Tryz.prog 51 1 false (.int .u64 0) := ⟨Tryz.sizeOf51, Tryz.isAgg51, Tryz.zeroValue51, by decide, by decide⟩
theorem tf_53 : TF Tryz.prog 53 3 true (.agg #[(.slice none 0 0), (.int .i64 0), (.int .u64 0)]) := ⟨Tryz.sizeOf53, Tryz.isAgg53, Tryz.zeroValue53, by decide, by decide⟩
theorem tf_59 : TF Tryz.prog 59 2 true (.agg #[(.int .i64 0), (.int .i64 0)]) := ⟨Tryz.sizeOf59, Tryz.isAgg59, Tryz.zeroValue59, by decide, by decide⟩
theorem tf_66 : TF Tryz.prog 66 1 false (.slice none 0 0) := ⟨Tryz.sizeOf66, Tryz.isAgg66, Tryz.zeroValue66, by decide, by decide⟩
theorem tf_84 : TF Tryz.prog 84 1 false (.slice none 0 0) := ⟨Tryz.sizeOf84, Tryz.isAgg84, Tryz.zeroValue84, by decide, by decide⟩
theorem tf_86 : TF Tryz.prog 86 4 true (.agg #[(.int .i64 0), (.int .i64 0), (.int .i64 0), (.slice none 0 0)]) := ⟨Tryz.sizeOf86, Tryz.isAgg86, Tryz.zeroValue86, by decide, by decide⟩
theorem tf_101 : TF Tryz.prog 101 5 true (.agg #[(.int .i64 0), (.int .i64 0), (.int .i64 0), (.int .i64 0), (.int .i64 0)]) := ⟨Tryz.sizeOf101, Tryz.isAgg101, Tryz.zeroValue101, by decide, by decide⟩
theorem tf_104 : TF Tryz.prog 104 3 true (.agg #[(.int .i64 0), (.int .i64 0), (.int .i64 0)]) := ⟨Tryz.sizeOf104, Tryz.isAgg104, Tryz.zeroValue104, by decide, by decide⟩
def enc_3 (x : Int) : List Value := [(.int .i64 x)]
def ty_3 : Ty Tryz.prog Int := { Sh.flat enc_3 1 0 (fun _ => rfl) (fun x => Ones.all (vs := enc_3 x) ⟨rfl, trivial⟩) with tid := 3, bts := 8, agg := false, sz_pos := by decide, bts_le := by decide, info := ⟨_, _, Tryz.type3, rfl, rfl, rfl, rfl⟩, und := ⟨_, Tryz.underlying3, rfl⟩, one1 := by decide }
theorem fl_3 : Flat ty_3 enc_3 := ⟨fun h => h, fun _ _ => ⟨rfl, rfl⟩, fun h => h.1⟩
def enc_5 (x : Int) : List Value := [(.int .u8 x)]
def ty_5 : Ty Tryz.prog Int := { Sh.flat enc_5 1 0 (fun _ => rfl) (fun x => Ones.all (vs := enc_5 x) ⟨rfl, trivial⟩) with tid := 5, bts := 1, agg := false, sz_pos := by decide, bts_le := by decide, info := ⟨_, _, Tryz.type5, rfl, rfl, rfl, rfl⟩, und := ⟨_, Tryz.underlying5, rfl⟩, one1 := by decide }
def ty_22 : Ty Tryz.prog (List Int) := { Sh.slice ty_5 with tid := 22, bts := 24, agg := false, sz_pos := by decide, bts_le := by decide, info := ⟨_, _, Tryz.type22, rfl, rfl, rfl, rfl⟩, und := ⟨_, Tryz.underlying22, rfl⟩, one1 := by decide }
def enc_42 (x : (Int × Int)) : List Value := [(.int .i64 x.1), (.int .i64 x.2)]
def ty_42 : Ty Tryz.prog (Int × Int) := { Sh.flat enc_42 2 (0, 0) (fun _ => rfl) (fun x => Ones.all (vs := enc_42 x) ⟨rfl, rfl, trivial⟩) with tid := 42, bts := 16, agg := true, sz_pos := by decide, bts_le := by decide, info := ⟨_, _, Tryz.type42, rfl, rfl, rfl, rfl⟩, und := ⟨_, Tryz.underlying42, rfl⟩, one1 := by decide }
theorem fl_42 : Flat ty_42 enc_42 := ⟨fun h => h, fun _ _ => ⟨rfl, rfl⟩, fun h => h.1⟩
def enc_59 (x : (Int × Int)) : List Value := [(.int .i64 x.1), (.int .i64 x.2)]
def ty_59 : Ty Tryz.prog (Int × Int) := { Sh.flat enc_59 2 (0, 0) (fun _ => rfl) (fun x => Ones.all (vs := enc_59 x) ⟨rfl, rfl, trivial⟩) with tid := 59, bts := 16, agg := true, sz_pos := by decide, bts_le := by decide, info := ⟨_, _, Tryz.type59, rfl, rfl, rfl, rfl⟩, und := ⟨_, Tryz.underlying59, rfl⟩, one1 := by decide }
theorem fl_59 : Flat ty_59 enc_59 := ⟨fun h => h, fun _ _ => ⟨rfl, rfl⟩, fun h => h.1⟩
def ty_66 : Ty Tryz.prog (List (Int × Int)) := { Sh.slice ty_42 with tid := 66, bts := 24, agg := false, sz_pos := by decide, bts_le := by decide, info := ⟨_, _, Tryz.type66, rfl, rfl, rfl, rfl⟩, und := ⟨_, Tryz.underlying66, rfl⟩, one1 := by decide }
def enc_101 (x : ((Int × Int) × (Int × Int) × Int)) : List Value := [(.int .i64 x.1.1), (.int .i64 x.1.2), (.int .i64 x.2.1.1), (.int .i64 x.2.1.2), (.int .i64 x.2.2)]
def ty_101 : Ty Tryz.prog ((Int × Int) × (Int × Int) × Int) := { Sh.flat enc_101 5 ((0, 0), (0, 0), 0) (fun _ => rfl) (fun x => Ones.all (vs := enc_101 x) ⟨rfl, rfl, rfl, rfl, rfl, trivial⟩) with tid := 101, bts := 40, agg := true, sz_pos := by decide, bts_le := by decide, info := ⟨_, _, Tryz.type101, rfl, rfl, rfl, rfl⟩, und := ⟨_, Tryz.underlying101, rfl⟩, one1 := by decide }
theorem fl_101 : Flat ty_101 enc_101 := ⟨fun h => h, fun _ _ => ⟨rfl, rfl⟩, fun h => h.1⟩
def enc_104 (x : (Int × (Int × Int))) : List Value := [(.int .i64 x.1), (.int .i64 x.2.1), (.int .i64 x.2.2)]
def ty_104 : Ty Tryz.prog (Int × (Int × Int)) := { Sh.flat enc_104 3 (0, (0, 0)) (fun _ => rfl) (fun x => Ones.all (vs := enc_104 x) ⟨rfl, rfl, rfl, trivial⟩) with tid := 104, bts := 24, agg := true, sz_pos := by decide, bts_le := by decide, info := ⟨_, _, Tryz.type104, rfl, rfl, rfl, rfl⟩, und := ⟨_, Tryz.underlying104, rfl⟩, one1 := by decide }
theorem fl_104 : Flat ty_104 enc_104 := ⟨fun h => h, fun _ _ => ⟨rfl, rfl⟩, fun h => h.1⟩
theorem ff_27_0 : FFb Tryz.prog 27 0 0 = true := by kernel_rfl
theorem ff_27_1 : FFb Tryz.prog 27 1 1 = true := by kernel_rfl
theorem ff_27_2 : FFb Tryz.prog 27 2 2 = true := by kernel_rfl
theorem ff_27_3 : FFb Tryz.prog 27 3 3 = true := by kernel_rfl
theorem ff_29_0 : FFb Tryz.prog 29 0 0 = true := by kernel_rfl
theorem ff_29_1 : FFb Tryz.prog 29 1 4 = true := by kernel_rfl
theorem ff_29_2 : FFb Tryz.prog 29 2 5 = true := by kernel_rfl
theorem ff_29_3 : FFb Tryz.prog 29 3 6 = true := by kernel_rfl
theorem ff_42_0 : FFb Tryz.prog 42 0 0 = true := by kernel_rfl
theorem ff_42_1 : FFb Tryz.prog 42 1 1 = true := by kernel_rfl
theorem ff_53_0 : FFb Tryz.prog 53 0 0 = true := by kernel_rfl
theorem ff_53_1 : FFb Tryz.prog 53 1 1 = true := by kernel_rfl
theorem ff_53_2 : FFb Tryz.prog 53 2 2 = true := by kernel_rfl
theorem ff_59_0 : FFb Tryz.prog 59 0 0 = true := by kernel_rfl
theorem ff_59_1 : FFb Tryz.prog 59 1 1 = true := by kernel_rfl
theorem ff_86_0 : FFb Tryz.prog 86 0 0 = true := by kernel_rfl
theorem ff_86_1 : FFb Tryz.prog 86 1 1 = true := by kernel_rfl
theorem ff_86_2 : FFb Tryz.prog 86 2 3 = true := by kernel_rfl
theorem ff_101_0 : FFb Tryz.prog 101 0 0 = true := by kernel_rfl
theorem ff_101_1 : FFb Tryz.prog 101 1 2 = true := by kernel_rfl
theorem ff_101_2 : FFb Tryz.prog 101 2 4 = true := by kernel_rfl
theorem ff_104_0 : FFb Tryz.prog 104 0 0 = true := by kernel_rfl
theorem ff_104_1 : FFb Tryz.prog 104 1 1 = true := by kernel_rfl
theorem pl_27 : placesB Tryz.prog 27 [(0, 1), (1, 1), (2, 1), (3, 1)] = true := by kernel_rfl
theorem pl_29 : placesB Tryz.prog 29 [(0, 4), (4, 1), (5, 1), (6, 1)] = true := by kernel_rfl
theorem pl_42 : placesB Tryz.prog 42 [(0, 1), (1, 1)] = true := by kernel_rfl
theorem pl_53 : placesB Tryz.prog 53 [(0, 1), (1, 1), (2, 1)] = true := by kernel_rfl
theorem pl_59 : placesB Tryz.prog 59 [(0, 1), (1, 1)] = true := by kernel_rfl
theorem pl_86 : placesB Tryz.prog 86 [(0, 1), (1, 2), (3, 1)] = true := by kernel_rfl
theorem pl_101 : placesB Tryz.prog 101 [(0, 2), (2, 2), (4, 1)] = true := by kernel_rfl
theorem pl_104 : placesB Tryz.prog 104 [(0, 1), (1, 2)] = true := by kernel_rfl
theorem eq_42 (x y : (Int × Int)) (w : World) : (Op.equalIn 10000 42 (.agg #[(.int .i64 x.1), (.int .i64 x.2)]) (.agg #[(.int .i64 y.1), (.int .i64 y.2)])).run Tryz.prog w = .ok (eqv_Spot x y) w := by
  go_simp
  by_cases h0 : x.1 = y.1 <;> by_cases h1 : x.2 = y.2 <;> simp [eqv_Spot, h0, h1]
theorem cells_5 : Tryz.prog.cellsOf 5 = 1 := by kernel_rfl
theorem op_5 : Opn Tryz.prog 5 ty_5.rd inU8 := opn_u8 Tryz.underlying5
theorem op_22 : Opn Tryz.prog 22 ty_22.rd (allG inU8) := opn_slice Tryz.underlying22 cells_5 op_5
end
end Go.Proofs.YtmkignciedkidaaGreat
