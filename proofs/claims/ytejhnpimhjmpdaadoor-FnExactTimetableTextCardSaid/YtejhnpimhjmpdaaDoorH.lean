/-
  THE TYPES of this seat, by program (gen.py).
-/
import Derived.Test.YtejhnpimhjmpdaaDoorCore8
import Derived.Test.YtejhnpimhjmpdaaDoorF
set_option linter.unusedSimpArgs false
set_option linter.unusedVariables false
set_option maxRecDepth 100000
set_option maxHeartbeats 1600000
namespace Go.Proofs.YtejhnpimhjmpdaaDoor
open Go Go.RowKit
noncomputable section
theorem mixed_ : Tryd.prog.follows .mixedOrders = true := by kernel_rfl
theorem tf_3 : TF Tryd.prog 3 1 false (.int .i64 0) := ⟨Tryd.sizeOf3, Tryd.isAgg3, Tryd.zeroValue3, by decide, by decide⟩
theorem tf_9 : TF Tryd.prog 9 1 false (.string .empty) := ⟨Tryd.sizeOf9, Tryd.isAgg9, Tryd.zeroValue9, by decide, by decide⟩
theorem tf_39 : TF Tryd.prog 39 2 true (.agg #[(.int .i64 0), (.string .empty)]) := ⟨Tryd.sizeOf39, Tryd.isAgg39, Tryd.zeroValue39, by decide, by decide⟩
theorem tf_57 : TF Tryd.prog 57 2 true (.agg #[(.int .i64 0), (.string .empty)]) := ⟨Tryd.sizeOf57, Tryd.isAgg57, Tryd.zeroValue57, by decide, by decide⟩
theorem tf_63 : TF Tryd.prog 63 2 true (.agg #[(.int .i64 0), (.int .i64 0)]) := ⟨Tryd.sizeOf63, Tryd.isAgg63, Tryd.zeroValue63, by decide, by decide⟩
theorem tf_65 : TF Tryd.prog 65 2 true (.agg #[(.int .i64 0), (.int .i64 0)]) := ⟨Tryd.sizeOf65, Tryd.isAgg65, Tryd.zeroValue65, by decide, by decide⟩
theorem tf_69 : TF Tryd.prog 69 2 true (.agg #[(.pointer none), (.slice none 0 0)]) := ⟨Tryd.sizeOf69, Tryd.isAgg69, Tryd.zeroValue69, by decide, by decide⟩
def enc_3 (x : Int) : List Value := [(.int .i64 x)]
def ty_3 : Ty Tryd.prog Int := { Sh.flat enc_3 1 0 (fun _ => rfl) (fun x => Ones.all (vs := enc_3 x) ⟨rfl, trivial⟩) with tid := 3, bts := 8, agg := false, sz_pos := by decide, bts_le := by decide, info := ⟨_, _, Tryd.type3, rfl, rfl, rfl, rfl⟩, und := ⟨_, Tryd.underlying3, rfl⟩, one1 := by decide }
theorem fl_3 : Flat ty_3 enc_3 := ⟨fun h => h, fun _ _ => ⟨rfl, rfl⟩, fun h => h.1⟩
def enc_5 (x : Int) : List Value := [(.int .u8 x)]
def ty_5 : Ty Tryd.prog Int := { Sh.flat enc_5 1 0 (fun _ => rfl) (fun x => Ones.all (vs := enc_5 x) ⟨rfl, trivial⟩) with tid := 5, bts := 1, agg := false, sz_pos := by decide, bts_le := by decide, info := ⟨_, _, Tryd.type5, rfl, rfl, rfl, rfl⟩, und := ⟨_, Tryd.underlying5, rfl⟩, one1 := by decide }
theorem fl_5 : Flat ty_5 enc_5 := ⟨fun h => h, fun _ _ => ⟨rfl, rfl⟩, fun h => h.1⟩
def enc_9 (x : (List UInt8)) : List Value := [(.string (mkS x))]
def ty_9 : Ty Tryd.prog (List UInt8) := { Sh.flat enc_9 1 [] (fun _ => rfl) (fun x => Ones.all (vs := enc_9 x) ⟨rfl, trivial⟩) with tid := 9, bts := 16, agg := false, sz_pos := by decide, bts_le := by decide, info := ⟨_, _, Tryd.type9, rfl, rfl, rfl, rfl⟩, und := ⟨_, Tryd.underlying9, rfl⟩, one1 := by decide }
def enc_65 (x : (Int × Int)) : List Value := [(.int .i64 x.1), (.int .i64 x.2)]
def ty_65 : Ty Tryd.prog (Int × Int) := { Sh.flat enc_65 2 (0, 0) (fun _ => rfl) (fun x => Ones.all (vs := enc_65 x) ⟨rfl, rfl, trivial⟩) with tid := 65, bts := 16, agg := true, sz_pos := by decide, bts_le := by decide, info := ⟨_, _, Tryd.type65, rfl, rfl, rfl, rfl⟩, und := ⟨_, Tryd.underlying65, rfl⟩, one1 := by decide }
def ty_22 : Ty Tryd.prog (List (Int × Int)) := { Sh.slice ty_65 with tid := 22, bts := 24, agg := false, sz_pos := by decide, bts_le := by decide, info := ⟨_, _, Tryd.type22, rfl, rfl, rfl, rfl⟩, und := ⟨_, Tryd.underlying22, rfl⟩, one1 := by decide }
def enc_57 (x : (Int × (List UInt8))) : List Value := [(.int .i64 x.1), (.string (mkS x.2))]
def ty_57 : Ty Tryd.prog (Int × (List UInt8)) := { Sh.flat enc_57 2 (0, []) (fun _ => rfl) (fun x => Ones.all (vs := enc_57 x) ⟨rfl, rfl, trivial⟩) with tid := 57, bts := 24, agg := true, sz_pos := by decide, bts_le := by decide, info := ⟨_, _, Tryd.type57, rfl, rfl, rfl, rfl⟩, und := ⟨_, Tryd.underlying57, rfl⟩, one1 := by decide }
def ty_23 : Ty Tryd.prog (List (Int × (List UInt8))) := { Sh.slice ty_57 with tid := 23, bts := 24, agg := false, sz_pos := by decide, bts_le := by decide, info := ⟨_, _, Tryd.type23, rfl, rfl, rfl, rfl⟩, und := ⟨_, Tryd.underlying23, rfl⟩, one1 := by decide }
def enc_39 (x : (Int × (List UInt8))) : List Value := [(.int .i64 x.1), (.string (mkS x.2))]
def ty_39 : Ty Tryd.prog (Int × (List UInt8)) := { Sh.flat enc_39 2 (0, []) (fun _ => rfl) (fun x => Ones.all (vs := enc_39 x) ⟨rfl, rfl, trivial⟩) with tid := 39, bts := 24, agg := true, sz_pos := by decide, bts_le := by decide, info := ⟨_, _, Tryd.type39, rfl, rfl, rfl, rfl⟩, und := ⟨_, Tryd.underlying39, rfl⟩, one1 := by decide }
theorem fl_39 : Flat ty_39 enc_39 := ⟨fun h => h, fun _ _ => ⟨rfl, rfl⟩, fun h => h.1⟩
def enc_63 (x : (Int × Int)) : List Value := [(.int .i64 x.1), (.int .i64 x.2)]
def ty_63 : Ty Tryd.prog (Int × Int) := { Sh.flat enc_63 2 (0, 0) (fun _ => rfl) (fun x => Ones.all (vs := enc_63 x) ⟨rfl, rfl, trivial⟩) with tid := 63, bts := 16, agg := true, sz_pos := by decide, bts_le := by decide, info := ⟨_, _, Tryd.type63, rfl, rfl, rfl, rfl⟩, und := ⟨_, Tryd.underlying63, rfl⟩, one1 := by decide }
theorem fl_63 : Flat ty_63 enc_63 := ⟨fun h => h, fun _ _ => ⟨rfl, rfl⟩, fun h => h.1⟩
theorem ff_39_0 : FFb Tryd.prog 39 0 0 = true := by kernel_rfl
theorem ff_39_1 : FFb Tryd.prog 39 1 1 = true := by kernel_rfl
theorem ff_57_0 : FFb Tryd.prog 57 0 0 = true := by kernel_rfl
theorem ff_57_1 : FFb Tryd.prog 57 1 1 = true := by kernel_rfl
theorem ff_63_0 : FFb Tryd.prog 63 0 0 = true := by kernel_rfl
theorem ff_63_1 : FFb Tryd.prog 63 1 1 = true := by kernel_rfl
theorem ff_65_0 : FFb Tryd.prog 65 0 0 = true := by kernel_rfl
theorem ff_65_1 : FFb Tryd.prog 65 1 1 = true := by kernel_rfl
theorem cells_65 : Tryd.prog.cellsOf 65 = 2 := by kernel_rfl
theorem cells_3 : Tryd.prog.cellsOf 3 = 1 := by kernel_rfl
theorem op_3 : Opn Tryd.prog 3 ty_3.rd inI64 := opn_i64 Tryd.underlying3
theorem op_65 : Opn Tryd.prog 65 ty_65.rd G_Measure := ⟨fun h => by
  obtain ⟨xs, n, -, -, hl, hx, hf⟩ := DataW.trod_struct Tryd.underlying65 h
  obtain ⟨c0, c1, rfl⟩ := len2 (hl.trans cells_65)
  obtain ⟨y0, k0⟩ := fld hx hf 0 _ rfl (t := 3) (o := 0) (sz := 1) rfl rfl cells_3
  obtain ⟨d0, r0, g0⟩ := op_3.op k0
  obtain ⟨y1, k1⟩ := fld hx hf 1 _ rfl (t := 3) (o := 1) (sz := 1) rfl rfl cells_3
  obtain ⟨d1, r1, g1⟩ := op_3.op k1
  replace r0 : [c0] = enc_3 d0 := r0
  replace r1 : [c1] = enc_3 d1 := r1
  simp only [enc_3, List.cons.injEq, and_true] at r0
  simp only [enc_3, List.cons.injEq, and_true] at r1
  obtain rfl := r0
  obtain rfl := r1
  exact ⟨(d0, d1), rfl, ⟨g0, g1⟩⟩⟩
theorem op_22 : Opn Tryd.prog 22 ty_22.rd (allG G_Measure) := opn_slice Tryd.underlying22 cells_65 op_65
theorem cells_57 : Tryd.prog.cellsOf 57 = 2 := by kernel_rfl
theorem cells_9 : Tryd.prog.cellsOf 9 = 1 := by kernel_rfl
theorem op_9 : Opn Tryd.prog 9 ty_9.rd (allG anyG) := opn_string Tryd.underlying9
theorem op_57 : Opn Tryd.prog 57 ty_57.rd G_Cue := ⟨fun h => by
  obtain ⟨xs, n, -, -, hl, hx, hf⟩ := DataW.trod_struct Tryd.underlying57 h
  obtain ⟨c0, c1, rfl⟩ := len2 (hl.trans cells_57)
  obtain ⟨y0, k0⟩ := fld hx hf 0 _ rfl (t := 3) (o := 0) (sz := 1) rfl rfl cells_3
  obtain ⟨d0, r0, g0⟩ := op_3.op k0
  obtain ⟨y1, k1⟩ := fld hx hf 1 _ rfl (t := 9) (o := 1) (sz := 1) rfl rfl cells_9
  obtain ⟨d1, r1, g1⟩ := op_9.op k1
  replace r0 : [c0] = enc_3 d0 := r0
  replace r1 : [c1] = enc_9 d1 := r1
  simp only [enc_3, List.cons.injEq, and_true] at r0
  simp only [enc_9, List.cons.injEq, and_true] at r1
  obtain rfl := r0
  obtain rfl := r1
  exact ⟨(d0, d1), rfl, ⟨g0, g1⟩⟩⟩
theorem op_23 : Opn Tryd.prog 23 ty_23.rd (allG G_Cue) := opn_slice Tryd.underlying23 cells_57 op_57
end
end Go.Proofs.YtejhnpimhjmpdaaDoor
