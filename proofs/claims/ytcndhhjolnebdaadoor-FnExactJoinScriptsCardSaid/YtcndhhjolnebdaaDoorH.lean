/-
  THE TYPES of this seat, by program (gen.py).
-/
import Derived.Test.YtcndhhjolnebdaaDoorCore8
import Derived.Test.YtcndhhjolnebdaaDoorF
set_option linter.unusedSimpArgs false
set_option linter.unusedVariables false
set_option maxRecDepth 100000
namespace Go.Proofs.YtcndhhjolnebdaaDoor
open Go Go.RowKit
noncomputable section
theorem mixed_ : Tryd.prog.follows .mixedOrders = true := by kernel_rfl
theorem tf_3 : TF Tryd.prog 3 1 false (.int .i64 0) := ⟨Tryd.sizeOf3, Tryd.isAgg3, Tryd.zeroValue3, by decide, by decide⟩
theorem tf_5 : TF Tryd.prog 5 1 false (.int .u8 0) := ⟨Tryd.sizeOf5, Tryd.isAgg5, Tryd.zeroValue5, by decide, by decide⟩
theorem tf_9 : TF Tryd.prog 9 1 false (.string .empty) := ⟨Tryd.sizeOf9, Tryd.isAgg9, Tryd.zeroValue9, by decide, by decide⟩
theorem tf_42 : TF Tryd.prog 42 2 true (.agg #[(.int .i64 0), (.string .empty)]) := ⟨Tryd.sizeOf42, Tryd.isAgg42, Tryd.zeroValue42, by decide, by decide⟩
theorem tf_47 : TF Tryd.prog 47 2 true (.agg #[(.int .i64 0), (.string .empty)]) := ⟨Tryd.sizeOf47, Tryd.isAgg47, Tryd.zeroValue47, by decide, by decide⟩
theorem tf_49 : TF Tryd.prog 49 2 true (.agg #[(.int .i64 0), (.int .i64 0)]) := ⟨Tryd.sizeOf49, Tryd.isAgg49, Tryd.zeroValue49, by decide, by decide⟩
theorem tf_51 : TF Tryd.prog 51 2 true (.agg #[(.int .i64 0), (.int .i64 0)]) := ⟨Tryd.sizeOf51, Tryd.isAgg51, Tryd.zeroValue51, by decide, by decide⟩
def enc_3 (x : Int) : List Value := [(.int .i64 x)]
def ty_3 : Ty Tryd.prog Int := { Sh.flat enc_3 1 0 (fun _ => rfl) (fun x => Ones.all (vs := enc_3 x) ⟨rfl, trivial⟩) with tid := 3, bts := 8, agg := false, sz_pos := by decide, bts_le := by decide, info := ⟨_, _, Tryd.type3, rfl, rfl, rfl, rfl⟩, und := ⟨_, Tryd.underlying3, rfl⟩, one1 := by decide }
theorem fl_3 : Flat ty_3 enc_3 := ⟨fun h => h, fun _ _ => ⟨rfl, rfl⟩, fun h => h.1⟩
def enc_5 (x : Int) : List Value := [(.int .u8 x)]
def ty_5 : Ty Tryd.prog Int := { Sh.flat enc_5 1 0 (fun _ => rfl) (fun x => Ones.all (vs := enc_5 x) ⟨rfl, trivial⟩) with tid := 5, bts := 1, agg := false, sz_pos := by decide, bts_le := by decide, info := ⟨_, _, Tryd.type5, rfl, rfl, rfl, rfl⟩, und := ⟨_, Tryd.underlying5, rfl⟩, one1 := by decide }
theorem fl_5 : Flat ty_5 enc_5 := ⟨fun h => h, fun _ _ => ⟨rfl, rfl⟩, fun h => h.1⟩
def enc_9 (x : (List UInt8)) : List Value := [(.string (mkS x))]
def ty_9 : Ty Tryd.prog (List UInt8) := { Sh.flat enc_9 1 [] (fun _ => rfl) (fun x => Ones.all (vs := enc_9 x) ⟨rfl, trivial⟩) with tid := 9, bts := 16, agg := false, sz_pos := by decide, bts_le := by decide, info := ⟨_, _, Tryd.type9, rfl, rfl, rfl, rfl⟩, und := ⟨_, Tryd.underlying9, rfl⟩, one1 := by decide }
theorem fl_9 : Flat ty_9 enc_9 := ⟨fun h => h, fun _ _ => ⟨rfl, rfl⟩, fun h => h.1⟩
def enc_42 (x : (Int × (List UInt8))) : List Value := [(.int .i64 x.1), (.string (mkS x.2))]
def ty_42 : Ty Tryd.prog (Int × (List UInt8)) := { Sh.flat enc_42 2 (0, []) (fun _ => rfl) (fun x => Ones.all (vs := enc_42 x) ⟨rfl, rfl, trivial⟩) with tid := 42, bts := 24, agg := true, sz_pos := by decide, bts_le := by decide, info := ⟨_, _, Tryd.type42, rfl, rfl, rfl, rfl⟩, und := ⟨_, Tryd.underlying42, rfl⟩, one1 := by decide }
theorem fl_42 : Flat ty_42 enc_42 := ⟨fun h => h, fun _ _ => ⟨rfl, rfl⟩, fun h => h.1⟩
def enc_47 (x : (Int × (List UInt8))) : List Value := [(.int .i64 x.1), (.string (mkS x.2))]
def ty_47 : Ty Tryd.prog (Int × (List UInt8)) := { Sh.flat enc_47 2 (0, []) (fun _ => rfl) (fun x => Ones.all (vs := enc_47 x) ⟨rfl, rfl, trivial⟩) with tid := 47, bts := 24, agg := true, sz_pos := by decide, bts_le := by decide, info := ⟨_, _, Tryd.type47, rfl, rfl, rfl, rfl⟩, und := ⟨_, Tryd.underlying47, rfl⟩, one1 := by decide }
theorem fl_47 : Flat ty_47 enc_47 := ⟨fun h => h, fun _ _ => ⟨rfl, rfl⟩, fun h => h.1⟩
def enc_49 (x : (Int × Int)) : List Value := [(.int .i64 x.1), (.int .i64 x.2)]
def ty_49 : Ty Tryd.prog (Int × Int) := { Sh.flat enc_49 2 (0, 0) (fun _ => rfl) (fun x => Ones.all (vs := enc_49 x) ⟨rfl, rfl, trivial⟩) with tid := 49, bts := 16, agg := true, sz_pos := by decide, bts_le := by decide, info := ⟨_, _, Tryd.type49, rfl, rfl, rfl, rfl⟩, und := ⟨_, Tryd.underlying49, rfl⟩, one1 := by decide }
theorem fl_49 : Flat ty_49 enc_49 := ⟨fun h => h, fun _ _ => ⟨rfl, rfl⟩, fun h => h.1⟩
def enc_51 (x : (Int × Int)) : List Value := [(.int .i64 x.1), (.int .i64 x.2)]
def ty_51 : Ty Tryd.prog (Int × Int) := { Sh.flat enc_51 2 (0, 0) (fun _ => rfl) (fun x => Ones.all (vs := enc_51 x) ⟨rfl, rfl, trivial⟩) with tid := 51, bts := 16, agg := true, sz_pos := by decide, bts_le := by decide, info := ⟨_, _, Tryd.type51, rfl, rfl, rfl, rfl⟩, und := ⟨_, Tryd.underlying51, rfl⟩, one1 := by decide }
theorem fl_51 : Flat ty_51 enc_51 := ⟨fun h => h, fun _ _ => ⟨rfl, rfl⟩, fun h => h.1⟩
theorem ff_42_0 : FFb Tryd.prog 42 0 0 = true := by kernel_rfl
theorem ff_42_1 : FFb Tryd.prog 42 1 1 = true := by kernel_rfl
theorem ff_47_0 : FFb Tryd.prog 47 0 0 = true := by kernel_rfl
theorem ff_47_1 : FFb Tryd.prog 47 1 1 = true := by kernel_rfl
theorem ff_49_0 : FFb Tryd.prog 49 0 0 = true := by kernel_rfl
theorem ff_49_1 : FFb Tryd.prog 49 1 1 = true := by kernel_rfl
theorem ff_51_0 : FFb Tryd.prog 51 0 0 = true := by kernel_rfl
theorem ff_51_1 : FFb Tryd.prog 51 1 1 = true := by kernel_rfl
theorem cells_9 : Tryd.prog.cellsOf 9 = 1 := by kernel_rfl
theorem op_9 : Opn Tryd.prog 9 ty_9.rd (allG anyG) := opn_string Tryd.underlying9
end
end Go.Proofs.YtcndhhjolnebdaaDoor
