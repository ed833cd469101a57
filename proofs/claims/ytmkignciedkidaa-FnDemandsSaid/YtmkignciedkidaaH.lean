/-
  THE TYPES of this seat, by program (gen.py).
-/
import Derived.Test.YtmkignciedkidaaCore8
import Derived.Test.YtmkignciedkidaaF
set_option linter.unusedSimpArgs false
set_option linter.unusedVariables false
set_option maxRecDepth 100000
set_option maxHeartbeats 1600000
namespace Go.Proofs.Ytmkignciedkidaa
open Go Go.RowKit
noncomputable section
theorem mixed_ : Try.prog.follows .mixedOrders = true := by kernel_rfl
theorem tf_3 : TF Try.prog 3 1 false (.int .i64 0) := ⟨Try.sizeOf3, Try.isAgg3, Try.zeroValue3, by decide, by decide⟩
theorem tf_5 : TF Try.prog 5 1 false (.int .u8 0) := ⟨Try.sizeOf5, Try.isAgg5, Try.zeroValue5, by decide, by decide⟩
theorem tf_22 : TF Try.prog 22 1 false (.slice none 0 0) := ⟨Try.sizeOf22, Try.isAgg22, Try.zeroValue22, by decide, by decide⟩
theorem tf_29 : TF Try.prog 29 1 false (.slice none 0 0) := ⟨Try.sizeOf29, Try.isAgg29, Try.zeroValue29, by decide, by decide⟩
theorem tf_51 : TF Try.prog 51 1 false (.slice none 0 0) := ⟨Try.sizeOf51, Try.isAgg51, Try.zeroValue51, by decide, by decide⟩
theorem tf_53 : TF Try.prog 53 4 true (.agg #[(.slice none 0 0), (.slice none 0 0), (.int .i64 0), (.int .i64 0)]) := ⟨Try.sizeOf53, Try.isAgg53, Try.zeroValue53, by decide, by decide⟩
theorem tf_63 : TF Try.prog 63 1 false (.slice none 0 0) := ⟨Try.sizeOf63, Try.isAgg63, Try.zeroValue63, by decide, by decide⟩
theorem tf_68 : TF Try.prog 68 2 true (.agg #[(.int .i64 0), (.int .i64 0)]) := ⟨Try.sizeOf68, Try.isAgg68, Try.zeroValue68, by decide, by decide⟩
theorem tf_70 : TF Try.prog 70 5 true (.agg #[(.int .i64 0), (.int .i64 0), (.int .i64 0), (.int .i64 0), (.int .i64 0)]) := ⟨Try.sizeOf70, Try.isAgg70, Try.zeroValue70, by decide, by decide⟩
theorem tf_121 : TF Try.prog 121 1 false (.slice none 0 0) := ⟨Try.sizeOf121, Try.isAgg121, Try.zeroValue121, by decide, by decide⟩
theorem tf_129 : TF Try.prog 129 1 false (.int .u64 0) := ⟨Try.sizeOf129, Try.isAgg129, Try.zeroValue129, by decide, by decide⟩
theorem tf_131 : TF Try.prog 131 3 true (.agg #[(.slice none 0 0), (.int .i64 0), (.int .u64 0)]) := ⟨Try.sizeOf131, Try.isAgg131, Try.zeroValue131, by decide, by decide⟩
def enc_3 (x : Int) : List Value := [(.int .i64 x)]
def ty_3 : Ty Try.prog Int := { Sh.flat enc_3 1 0 (fun _ => rfl) (fun x => Ones.all (vs := enc_3 x) ⟨rfl, trivial⟩) with tid := 3, bts := 8, agg := false, sz_pos := by decide, bts_le := by decide, info := ⟨_, _, Try.type3, rfl, rfl, rfl, rfl⟩, und := ⟨_, Try.underlying3, rfl⟩, one1 := by decide }
theorem fl_3 : Flat ty_3 enc_3 := ⟨fun h => h, fun _ _ => ⟨rfl, rfl⟩, fun h => h.1⟩
def enc_5 (x : Int) : List Value := [(.int .u8 x)]
def ty_5 : Ty Try.prog Int := { Sh.flat enc_5 1 0 (fun _ => rfl) (fun x => Ones.all (vs := enc_5 x) ⟨rfl, trivial⟩) with tid := 5, bts := 1, agg := false, sz_pos := by decide, bts_le := by decide, info := ⟨_, _, Try.type5, rfl, rfl, rfl, rfl⟩, und := ⟨_, Try.underlying5, rfl⟩, one1 := by decide }
def ty_22 : Ty Try.prog (List Int) := { Sh.slice ty_5 with tid := 22, bts := 24, agg := false, sz_pos := by decide, bts_le := by decide, info := ⟨_, _, Try.type22, rfl, rfl, rfl, rfl⟩, und := ⟨_, Try.underlying22, rfl⟩, one1 := by decide }
def ty_29 : Ty Try.prog (List Int) := { Sh.slice ty_3 with tid := 29, bts := 24, agg := false, sz_pos := by decide, bts_le := by decide, info := ⟨_, _, Try.type29, rfl, rfl, rfl, rfl⟩, und := ⟨_, Try.underlying29, rfl⟩, one1 := by decide }
def enc_68 (x : (Int × Int)) : List Value := [(.int .i64 x.1), (.int .i64 x.2)]
def ty_68 : Ty Try.prog (Int × Int) := { Sh.flat enc_68 2 (0, 0) (fun _ => rfl) (fun x => Ones.all (vs := enc_68 x) ⟨rfl, rfl, trivial⟩) with tid := 68, bts := 16, agg := true, sz_pos := by decide, bts_le := by decide, info := ⟨_, _, Try.type68, rfl, rfl, rfl, rfl⟩, und := ⟨_, Try.underlying68, rfl⟩, one1 := by decide }
theorem fl_68 : Flat ty_68 enc_68 := ⟨fun h => h, fun _ _ => ⟨rfl, rfl⟩, fun h => h.1⟩
def ty_63 : Ty Try.prog (List (Int × Int)) := { Sh.slice ty_68 with tid := 63, bts := 24, agg := false, sz_pos := by decide, bts_le := by decide, info := ⟨_, _, Try.type63, rfl, rfl, rfl, rfl⟩, und := ⟨_, Try.underlying63, rfl⟩, one1 := by decide }
def ty_51 : Ty Try.prog (List (List (Int × Int))) := { Sh.slice ty_63 with tid := 51, bts := 24, agg := false, sz_pos := by decide, bts_le := by decide, info := ⟨_, _, Try.type51, rfl, rfl, rfl, rfl⟩, und := ⟨_, Try.underlying51, rfl⟩, one1 := by decide }
def ty_53 : Ty Try.prog ((List (List (Int × Int))) × (List Int) × Int × Int) := { (Sh.prod ty_51.toSh (Sh.prod ty_29.toSh (Sh.prod ty_3.toSh ty_3.toSh))) with tid := 53, bts := 64, agg := true, sz_pos := by decide, bts_le := by decide, info := ⟨_, _, Try.type53, rfl, rfl, rfl, rfl⟩, und := ⟨_, Try.underlying53, rfl⟩, one1 := by decide }
def enc_70 (x : ((Int × Int) × (Int × Int) × Int)) : List Value := [(.int .i64 x.1.1), (.int .i64 x.1.2), (.int .i64 x.2.1.1), (.int .i64 x.2.1.2), (.int .i64 x.2.2)]
def ty_70 : Ty Try.prog ((Int × Int) × (Int × Int) × Int) := { Sh.flat enc_70 5 ((0, 0), (0, 0), 0) (fun _ => rfl) (fun x => Ones.all (vs := enc_70 x) ⟨rfl, rfl, rfl, rfl, rfl, trivial⟩) with tid := 70, bts := 40, agg := true, sz_pos := by decide, bts_le := by decide, info := ⟨_, _, Try.type70, rfl, rfl, rfl, rfl⟩, und := ⟨_, Try.underlying70, rfl⟩, one1 := by decide }
theorem fl_70 : Flat ty_70 enc_70 := ⟨fun h => h, fun _ _ => ⟨rfl, rfl⟩, fun h => h.1⟩
theorem ff_53_0 : FFb Try.prog 53 0 0 = true := by kernel_rfl
theorem ff_53_1 : FFb Try.prog 53 1 1 = true := by kernel_rfl
theorem ff_53_2 : FFb Try.prog 53 2 2 = true := by kernel_rfl
theorem ff_53_3 : FFb Try.prog 53 3 3 = true := by kernel_rfl
theorem ff_68_0 : FFb Try.prog 68 0 0 = true := by kernel_rfl
theorem ff_68_1 : FFb Try.prog 68 1 1 = true := by kernel_rfl
theorem ff_70_0 : FFb Try.prog 70 0 0 = true := by kernel_rfl
theorem ff_70_1 : FFb Try.prog 70 1 2 = true := by kernel_rfl
theorem ff_70_2 : FFb Try.prog 70 2 4 = true := by kernel_rfl
theorem ff_131_0 : FFb Try.prog 131 0 0 = true := by kernel_rfl
theorem ff_131_1 : FFb Try.prog 131 1 1 = true := by kernel_rfl
theorem ff_131_2 : FFb Try.prog 131 2 2 = true := by kernel_rfl
theorem pl_53 : placesB Try.prog 53 [(0, 1), (1, 1), (2, 1), (3, 1)] = true := by kernel_rfl
theorem pl_68 : placesB Try.prog 68 [(0, 1), (1, 1)] = true := by kernel_rfl
theorem pl_70 : placesB Try.prog 70 [(0, 2), (2, 2), (4, 1)] = true := by kernel_rfl
theorem pl_131 : placesB Try.prog 131 [(0, 1), (1, 1), (2, 1)] = true := by kernel_rfl
theorem eq_68 (x y : (Int × Int)) (w : World) : (Op.equalIn 10000 68 (.agg #[(.int .i64 x.1), (.int .i64 x.2)]) (.agg #[(.int .i64 y.1), (.int .i64 y.2)])).run Try.prog w = .ok (eqv_Spot x y) w := by
  go_simp
  by_cases h0 : x.1 = y.1 <;> by_cases h1 : x.2 = y.2 <;> simp [eqv_Spot, h0, h1]
theorem cells_5 : Try.prog.cellsOf 5 = 1 := by kernel_rfl
theorem op_5 : Opn Try.prog 5 ty_5.rd inU8 := opn_u8 Try.underlying5
theorem op_22 : Opn Try.prog 22 ty_22.rd (allG inU8) := opn_slice Try.underlying22 cells_5 op_5
end
end Go.Proofs.Ytmkignciedkidaa
