/-
  THE TYPES of this seat, by program (gen.py).
-/
import Derived.Test.YtcndhhjolnebdaaCore8
import Derived.Test.YtcndhhjolnebdaaF
set_option linter.unusedSimpArgs false
set_option linter.unusedVariables false
set_option maxRecDepth 100000
namespace Go.Proofs.Ytcndhhjolnebdaa
open Go Go.RowKit
noncomputable section
theorem mixed_ : Try.prog.follows .mixedOrders = true := by kernel_rfl
theorem tf_3 : TF Try.prog 3 1 false (.int .i64 0) := ⟨Try.sizeOf3, Try.isAgg3, Try.zeroValue3, by decide, by decide⟩
theorem tf_22 : TF Try.prog 22 1 false (.slice none 0 0) := ⟨Try.sizeOf22, Try.isAgg22, Try.zeroValue22, by decide, by decide⟩
theorem tf_24 : TF Try.prog 24 1 false (.slice none 0 0) := ⟨Try.sizeOf24, Try.isAgg24, Try.zeroValue24, by decide, by decide⟩
theorem tf_27 : TF Try.prog 27 1 false (.slice none 0 0) := ⟨Try.sizeOf27, Try.isAgg27, Try.zeroValue27, by decide, by decide⟩
theorem tf_34 : TF Try.prog 34 1 false (.slice none 0 0) := ⟨Try.sizeOf34, Try.isAgg34, Try.zeroValue34, by decide, by decide⟩
theorem tf_36 : TF Try.prog 36 4 true (.agg #[(.slice none 0 0), (.slice none 0 0), (.int .i64 0), (.int .i64 0)]) := ⟨Try.sizeOf36, Try.isAgg36, Try.zeroValue36, by decide, by decide⟩
theorem tf_38 : TF Try.prog 38 7 true (.agg #[(.slice none 0 0), (.slice none 0 0), (.int .i64 0), (.int .i64 0), (.int .i64 0), (.slice none 0 0), (.slice none 0 0)]) := ⟨Try.sizeOf38, Try.isAgg38, Try.zeroValue38, by decide, by decide⟩
theorem tf_40 : TF Try.prog 40 1 false (.slice none 0 0) := ⟨Try.sizeOf40, Try.isAgg40, Try.zeroValue40, by decide, by decide⟩
theorem tf_42 : TF Try.prog 42 4 true (.agg #[(.slice none 0 0), (.slice none 0 0), (.int .i64 0), (.int .i64 0)]) := ⟨Try.sizeOf42, Try.isAgg42, Try.zeroValue42, by decide, by decide⟩
theorem tf_44 : TF Try.prog 44 7 true (.agg #[(.slice none 0 0), (.slice none 0 0), (.int .i64 0), (.int .i64 0), (.int .i64 0), (.slice none 0 0), (.slice none 0 0)]) := ⟨Try.sizeOf44, Try.isAgg44, Try.zeroValue44, by decide, by decide⟩
theorem tf_51 : TF Try.prog 51 1 false (.slice none 0 0) := ⟨Try.sizeOf51, Try.isAgg51, Try.zeroValue51, by decide, by decide⟩
theorem tf_71 : TF Try.prog 71 2 true (.agg #[(.int .i64 0), (.int .i64 0)]) := ⟨Try.sizeOf71, Try.isAgg71, Try.zeroValue71, by decide, by decide⟩
theorem tf_79 : TF Try.prog 79 2 true (.agg #[(.int .i64 0), (.int .i64 0)]) := ⟨Try.sizeOf79, Try.isAgg79, Try.zeroValue79, by decide, by decide⟩
theorem tf_82 : TF Try.prog 82 1 false (.slice none 0 0) := ⟨Try.sizeOf82, Try.isAgg82, Try.zeroValue82, by decide, by decide⟩
theorem tf_104 : TF Try.prog 104 1 false (.slice none 0 0) := ⟨Try.sizeOf104, Try.isAgg104, Try.zeroValue104, by decide, by decide⟩
theorem tf_106 : TF Try.prog 106 2 true (.agg #[(.int .i64 0), (.int .i64 0)]) := ⟨Try.sizeOf106, Try.isAgg106, Try.zeroValue106, by decide, by decide⟩
theorem tf_117 : TF Try.prog 117 5 true (.agg #[(.int .i64 0), (.int .i64 0), (.int .i64 0), (.int .i64 0), (.int .i64 0)]) := ⟨Try.sizeOf117, Try.isAgg117, Try.zeroValue117, by decide, by decide⟩
theorem tf_136 : TF Try.prog 136 2 true (.agg #[(.int .i64 0), (.int .i64 0)]) := ⟨Try.sizeOf136, Try.isAgg136, Try.zeroValue136, by decide, by decide⟩
def enc_3 (x : Int) : List Value := [(.int .i64 x)]
def ty_3 : Ty Try.prog Int := { Sh.flat enc_3 1 0 (fun _ => rfl) (fun x => Ones.all (vs := enc_3 x) ⟨rfl, trivial⟩) with tid := 3, bts := 8, agg := false, sz_pos := by decide, bts_le := by decide, info := ⟨_, _, Try.type3, rfl, rfl, rfl, rfl⟩, und := ⟨_, Try.underlying3, rfl⟩, one1 := by decide }
theorem fl_3 : Flat ty_3 enc_3 := ⟨fun h => h, fun _ _ => ⟨rfl, rfl⟩, fun h => h.1⟩
def enc_136 (x : (Int × Int)) : List Value := [(.int .i64 x.1), (.int .i64 x.2)]
def ty_136 : Ty Try.prog (Int × Int) := { Sh.flat enc_136 2 (0, 0) (fun _ => rfl) (fun x => Ones.all (vs := enc_136 x) ⟨rfl, rfl, trivial⟩) with tid := 136, bts := 16, agg := true, sz_pos := by decide, bts_le := by decide, info := ⟨_, _, Try.type136, rfl, rfl, rfl, rfl⟩, und := ⟨_, Try.underlying136, rfl⟩, one1 := by decide }
theorem fl_136 : Flat ty_136 enc_136 := ⟨fun h => h, fun _ _ => ⟨rfl, rfl⟩, fun h => h.1⟩
def ty_104 : Ty Try.prog (List (Int × Int)) := { Sh.slice ty_136 with tid := 104, bts := 24, agg := false, sz_pos := by decide, bts_le := by decide, info := ⟨_, _, Try.type104, rfl, rfl, rfl, rfl⟩, und := ⟨_, Try.underlying104, rfl⟩, one1 := by decide }
def ty_34 : Ty Try.prog (List (List (Int × Int))) := { Sh.slice ty_104 with tid := 34, bts := 24, agg := false, sz_pos := by decide, bts_le := by decide, info := ⟨_, _, Try.type34, rfl, rfl, rfl, rfl⟩, und := ⟨_, Try.underlying34, rfl⟩, one1 := by decide }
def ty_24 : Ty Try.prog (List Int) := { Sh.slice ty_3 with tid := 24, bts := 24, agg := false, sz_pos := by decide, bts_le := by decide, info := ⟨_, _, Try.type24, rfl, rfl, rfl, rfl⟩, und := ⟨_, Try.underlying24, rfl⟩, one1 := by decide }
def ty_36 : Ty Try.prog ((List (List (Int × Int))) × (List Int) × Int × Int) := { (Sh.prod ty_34.toSh (Sh.prod ty_24.toSh (Sh.prod ty_3.toSh ty_3.toSh))) with tid := 36, bts := 64, agg := true, sz_pos := by decide, bts_le := by decide, info := ⟨_, _, Try.type36, rfl, rfl, rfl, rfl⟩, und := ⟨_, Try.underlying36, rfl⟩, one1 := by decide }
def ty_22 : Ty Try.prog (List ((List (List (Int × Int))) × (List Int) × Int × Int)) := { Sh.slice ty_36 with tid := 22, bts := 24, agg := false, sz_pos := by decide, bts_le := by decide, info := ⟨_, _, Try.type22, rfl, rfl, rfl, rfl⟩, und := ⟨_, Try.underlying22, rfl⟩, one1 := by decide }
def ty_38 : Ty Try.prog (((List (List (Int × Int))) × (List Int) × Int × Int) × Int × (List Int) × (List Int)) := { (Sh.prod ty_36.toSh (Sh.prod ty_3.toSh (Sh.prod ty_24.toSh ty_24.toSh))) with tid := 38, bts := 120, agg := true, sz_pos := by decide, bts_le := by decide, info := ⟨_, _, Try.type38, rfl, rfl, rfl, rfl⟩, und := ⟨_, Try.underlying38, rfl⟩, one1 := by decide }
def enc_106 (x : (Int × Int)) : List Value := [(.int .i64 x.1), (.int .i64 x.2)]
def ty_106 : Ty Try.prog (Int × Int) := { Sh.flat enc_106 2 (0, 0) (fun _ => rfl) (fun x => Ones.all (vs := enc_106 x) ⟨rfl, rfl, trivial⟩) with tid := 106, bts := 16, agg := true, sz_pos := by decide, bts_le := by decide, info := ⟨_, _, Try.type106, rfl, rfl, rfl, rfl⟩, und := ⟨_, Try.underlying106, rfl⟩, one1 := by decide }
theorem fl_106 : Flat ty_106 enc_106 := ⟨fun h => h, fun _ _ => ⟨rfl, rfl⟩, fun h => h.1⟩
def ty_82 : Ty Try.prog (List (Int × Int)) := { Sh.slice ty_106 with tid := 82, bts := 24, agg := false, sz_pos := by decide, bts_le := by decide, info := ⟨_, _, Try.type82, rfl, rfl, rfl, rfl⟩, und := ⟨_, Try.underlying82, rfl⟩, one1 := by decide }
def ty_40 : Ty Try.prog (List (List (Int × Int))) := { Sh.slice ty_82 with tid := 40, bts := 24, agg := false, sz_pos := by decide, bts_le := by decide, info := ⟨_, _, Try.type40, rfl, rfl, rfl, rfl⟩, und := ⟨_, Try.underlying40, rfl⟩, one1 := by decide }
def ty_42 : Ty Try.prog ((List (List (Int × Int))) × (List Int) × Int × Int) := { (Sh.prod ty_40.toSh (Sh.prod ty_24.toSh (Sh.prod ty_3.toSh ty_3.toSh))) with tid := 42, bts := 64, agg := true, sz_pos := by decide, bts_le := by decide, info := ⟨_, _, Try.type42, rfl, rfl, rfl, rfl⟩, und := ⟨_, Try.underlying42, rfl⟩, one1 := by decide }
def enc_79 (x : (Int × Int)) : List Value := [(.int .i64 x.1), (.int .i64 x.2)]
def ty_79 : Ty Try.prog (Int × Int) := { Sh.flat enc_79 2 (0, 0) (fun _ => rfl) (fun x => Ones.all (vs := enc_79 x) ⟨rfl, rfl, trivial⟩) with tid := 79, bts := 16, agg := true, sz_pos := by decide, bts_le := by decide, info := ⟨_, _, Try.type79, rfl, rfl, rfl, rfl⟩, und := ⟨_, Try.underlying79, rfl⟩, one1 := by decide }
theorem fl_79 : Flat ty_79 enc_79 := ⟨fun h => h, fun _ _ => ⟨rfl, rfl⟩, fun h => h.1⟩
def ty_51 : Ty Try.prog (List (Int × Int)) := { Sh.slice ty_79 with tid := 51, bts := 24, agg := false, sz_pos := by decide, bts_le := by decide, info := ⟨_, _, Try.type51, rfl, rfl, rfl, rfl⟩, und := ⟨_, Try.underlying51, rfl⟩, one1 := by decide }
def enc_71 (x : (Int × Int)) : List Value := [(.int .i64 x.1), (.int .i64 x.2)]
def ty_71 : Ty Try.prog (Int × Int) := { Sh.flat enc_71 2 (0, 0) (fun _ => rfl) (fun x => Ones.all (vs := enc_71 x) ⟨rfl, rfl, trivial⟩) with tid := 71, bts := 16, agg := true, sz_pos := by decide, bts_le := by decide, info := ⟨_, _, Try.type71, rfl, rfl, rfl, rfl⟩, und := ⟨_, Try.underlying71, rfl⟩, one1 := by decide }
theorem fl_71 : Flat ty_71 enc_71 := ⟨fun h => h, fun _ _ => ⟨rfl, rfl⟩, fun h => h.1⟩
def enc_117 (x : ((Int × Int) × (Int × Int) × Int)) : List Value := [(.int .i64 x.1.1), (.int .i64 x.1.2), (.int .i64 x.2.1.1), (.int .i64 x.2.1.2), (.int .i64 x.2.2)]
def ty_117 : Ty Try.prog ((Int × Int) × (Int × Int) × Int) := { Sh.flat enc_117 5 ((0, 0), (0, 0), 0) (fun _ => rfl) (fun x => Ones.all (vs := enc_117 x) ⟨rfl, rfl, rfl, rfl, rfl, trivial⟩) with tid := 117, bts := 40, agg := true, sz_pos := by decide, bts_le := by decide, info := ⟨_, _, Try.type117, rfl, rfl, rfl, rfl⟩, und := ⟨_, Try.underlying117, rfl⟩, one1 := by decide }
theorem fl_117 : Flat ty_117 enc_117 := ⟨fun h => h, fun _ _ => ⟨rfl, rfl⟩, fun h => h.1⟩
theorem ff_36_0 : FFb Try.prog 36 0 0 = true := by kernel_rfl
theorem ff_36_1 : FFb Try.prog 36 1 1 = true := by kernel_rfl
theorem ff_36_2 : FFb Try.prog 36 2 2 = true := by kernel_rfl
theorem ff_36_3 : FFb Try.prog 36 3 3 = true := by kernel_rfl
theorem ff_38_0 : FFb Try.prog 38 0 0 = true := by kernel_rfl
theorem ff_38_1 : FFb Try.prog 38 1 4 = true := by kernel_rfl
theorem ff_38_2 : FFb Try.prog 38 2 5 = true := by kernel_rfl
theorem ff_38_3 : FFb Try.prog 38 3 6 = true := by kernel_rfl
theorem ff_42_0 : FFb Try.prog 42 0 0 = true := by kernel_rfl
theorem ff_42_1 : FFb Try.prog 42 1 1 = true := by kernel_rfl
theorem ff_42_2 : FFb Try.prog 42 2 2 = true := by kernel_rfl
theorem ff_42_3 : FFb Try.prog 42 3 3 = true := by kernel_rfl
theorem ff_44_0 : FFb Try.prog 44 0 0 = true := by kernel_rfl
theorem ff_44_1 : FFb Try.prog 44 1 4 = true := by kernel_rfl
theorem ff_44_2 : FFb Try.prog 44 2 5 = true := by kernel_rfl
theorem ff_44_3 : FFb Try.prog 44 3 6 = true := by kernel_rfl
theorem ff_71_0 : FFb Try.prog 71 0 0 = true := by kernel_rfl
theorem ff_71_1 : FFb Try.prog 71 1 1 = true := by kernel_rfl
theorem ff_79_0 : FFb Try.prog 79 0 0 = true := by kernel_rfl
theorem ff_79_1 : FFb Try.prog 79 1 1 = true := by kernel_rfl
theorem ff_106_0 : FFb Try.prog 106 0 0 = true := by kernel_rfl
theorem ff_106_1 : FFb Try.prog 106 1 1 = true := by kernel_rfl
theorem ff_117_0 : FFb Try.prog 117 0 0 = true := by kernel_rfl
theorem ff_117_1 : FFb Try.prog 117 1 2 = true := by kernel_rfl
theorem ff_117_2 : FFb Try.prog 117 2 4 = true := by kernel_rfl
theorem ff_136_0 : FFb Try.prog 136 0 0 = true := by kernel_rfl
theorem ff_136_1 : FFb Try.prog 136 1 1 = true := by kernel_rfl
theorem pl_42 : placesB Try.prog 42 [(0, 1), (1, 1), (2, 1), (3, 1)] = true := by kernel_rfl
theorem pl_44 : placesB Try.prog 44 [(0, 4), (4, 1), (5, 1), (6, 1)] = true := by kernel_rfl
theorem pl_71 : placesB Try.prog 71 [(0, 1), (1, 1)] = true := by kernel_rfl
theorem pl_106 : placesB Try.prog 106 [(0, 1), (1, 1)] = true := by kernel_rfl
theorem pl_117 : placesB Try.prog 117 [(0, 2), (2, 2), (4, 1)] = true := by kernel_rfl
theorem eq_106 (x y : (Int × Int)) (w : World) : (Op.equalIn 10000 106 (.agg #[(.int .i64 x.1), (.int .i64 x.2)]) (.agg #[(.int .i64 y.1), (.int .i64 y.2)])).run Try.prog w = .ok (eqv_Spot x y) w := by
  go_simp
  by_cases h0 : x.1 = y.1 <;> by_cases h1 : x.2 = y.2 <;> simp [eqv_Spot, h0, h1]
theorem cells_22 : Try.prog.cellsOf 22 = 1 := by kernel_rfl
theorem cells_36 : Try.prog.cellsOf 36 = 4 := by kernel_rfl
theorem cells_34 : Try.prog.cellsOf 34 = 1 := by kernel_rfl
theorem cells_104 : Try.prog.cellsOf 104 = 1 := by kernel_rfl
theorem cells_136 : Try.prog.cellsOf 136 = 2 := by kernel_rfl
theorem cells_3 : Try.prog.cellsOf 3 = 1 := by kernel_rfl
theorem op_3 : Opn Try.prog 3 ty_3.rd inI64 := opn_i64 Try.underlying3
theorem op_136 : Opn Try.prog 136 ty_136.rd G_Spot := ⟨fun h => by
  obtain ⟨xs, n, -, -, hl, hx, hf⟩ := DataW.trod_struct Try.underlying136 h
  obtain ⟨c0, c1, rfl⟩ := len2 (hl.trans cells_136)
  obtain ⟨y0, k0⟩ := fld hx hf 0 _ rfl (t := 3) (o := 0) (sz := 1) rfl rfl cells_3
  obtain ⟨d0, r0, g0⟩ := op_3.op k0
  obtain ⟨y1, k1⟩ := fld hx hf 1 _ rfl (t := 3) (o := 1) (sz := 1) rfl rfl cells_3
  obtain ⟨d1, r1, g1⟩ := op_3.op k1
  replace r0 : [c0] = enc_3 d0 := r0
  replace r1 : [c1] = enc_3 d1 := r1
  simp only [enc_3, List.cons.injEq, and_true] at r0
  simp only [enc_3, List.cons.injEq, and_true] at r1
  obtain rfl := r0
  obtain rfl := r1
  exact ⟨(d0, d1), rfl, ⟨g0, g1⟩⟩⟩
theorem op_104 : Opn Try.prog 104 ty_104.rd (allG G_Spot) := opn_slice Try.underlying104 cells_136 op_136
theorem op_34 : Opn Try.prog 34 ty_34.rd (allG (allG G_Spot)) := opn_slice Try.underlying34 cells_104 op_104
theorem cells_24 : Try.prog.cellsOf 24 = 1 := by kernel_rfl
theorem op_24 : Opn Try.prog 24 ty_24.rd (allG inI64) := opn_slice Try.underlying24 cells_3 op_3
theorem op_36 : Opn Try.prog 36 ty_36.rd G_Show := ⟨fun h => by
  obtain ⟨xs, n, -, -, hl, hx, hf⟩ := DataW.trod_struct Try.underlying36 h
  obtain ⟨c0, c1, c2, c3, rfl⟩ := len4 (hl.trans cells_36)
  obtain ⟨y0, k0⟩ := fld hx hf 0 _ rfl (t := 34) (o := 0) (sz := 1) rfl rfl cells_34
  obtain ⟨d0, r0, g0⟩ := op_34.op k0
  obtain ⟨y1, k1⟩ := fld hx hf 1 _ rfl (t := 24) (o := 1) (sz := 1) rfl rfl cells_24
  obtain ⟨d1, r1, g1⟩ := op_24.op k1
  obtain ⟨y2, k2⟩ := fld hx hf 2 _ rfl (t := 3) (o := 2) (sz := 1) rfl rfl cells_3
  obtain ⟨d2, r2, g2⟩ := op_3.op k2
  obtain ⟨y3, k3⟩ := fld hx hf 3 _ rfl (t := 3) (o := 3) (sz := 1) rfl rfl cells_3
  obtain ⟨d3, r3, g3⟩ := op_3.op k3
  exact ⟨(d0, d1, d2, d3), ⟨[c0], [c1, c2, c3], rfl, r0, ⟨[c1], [c2, c3], rfl, r1, ⟨[c2], [c3], rfl, r2, r3⟩⟩⟩, ⟨g0, g1, g2, g3⟩⟩⟩
theorem op_22 : Opn Try.prog 22 ty_22.rd (allG G_Show) := opn_slice Try.underlying22 cells_36 op_36
theorem cells_38 : Try.prog.cellsOf 38 = 7 := by kernel_rfl
theorem op_38 : Opn Try.prog 38 ty_38.rd G_March := ⟨fun h => by
  obtain ⟨xs, n, -, -, hl, hx, hf⟩ := DataW.trod_struct Try.underlying38 h
  obtain ⟨c0, c1, c2, c3, c4, c5, c6, rfl⟩ := len7 (hl.trans cells_38)
  obtain ⟨y0, k0⟩ := fld hx hf 0 _ rfl (t := 36) (o := 0) (sz := 4) rfl rfl cells_36
  obtain ⟨d0, r0, g0⟩ := op_36.op k0
  obtain ⟨y1, k1⟩ := fld hx hf 1 _ rfl (t := 3) (o := 4) (sz := 1) rfl rfl cells_3
  obtain ⟨d1, r1, g1⟩ := op_3.op k1
  obtain ⟨y2, k2⟩ := fld hx hf 2 _ rfl (t := 24) (o := 5) (sz := 1) rfl rfl cells_24
  obtain ⟨d2, r2, g2⟩ := op_24.op k2
  obtain ⟨y3, k3⟩ := fld hx hf 3 _ rfl (t := 24) (o := 6) (sz := 1) rfl rfl cells_24
  obtain ⟨d3, r3, g3⟩ := op_24.op k3
  exact ⟨(d0, d1, d2, d3), ⟨[c0, c1, c2, c3], [c4, c5, c6], rfl, r0, ⟨[c4], [c5, c6], rfl, r1, ⟨[c5], [c6], rfl, r2, r3⟩⟩⟩, ⟨g0, g1, g2, g3⟩⟩⟩
theorem cells_51 : Try.prog.cellsOf 51 = 1 := by kernel_rfl
theorem cells_79 : Try.prog.cellsOf 79 = 2 := by kernel_rfl
theorem op_79 : Opn Try.prog 79 ty_79.rd G_Beat := ⟨fun h => by
  obtain ⟨xs, n, -, -, hl, hx, hf⟩ := DataW.trod_struct Try.underlying79 h
  obtain ⟨c0, c1, rfl⟩ := len2 (hl.trans cells_79)
  obtain ⟨y0, k0⟩ := fld hx hf 0 _ rfl (t := 3) (o := 0) (sz := 1) rfl rfl cells_3
  obtain ⟨d0, r0, g0⟩ := op_3.op k0
  obtain ⟨y1, k1⟩ := fld hx hf 1 _ rfl (t := 3) (o := 1) (sz := 1) rfl rfl cells_3
  obtain ⟨d1, r1, g1⟩ := op_3.op k1
  replace r0 : [c0] = enc_3 d0 := r0
  replace r1 : [c1] = enc_3 d1 := r1
  simp only [enc_3, List.cons.injEq, and_true] at r0
  simp only [enc_3, List.cons.injEq, and_true] at r1
  obtain rfl := r0
  obtain rfl := r1
  exact ⟨(d0, d1), rfl, ⟨g0, g1⟩⟩⟩
theorem op_51 : Opn Try.prog 51 ty_51.rd (allG G_Beat) := opn_slice Try.underlying51 cells_79 op_79
end
end Go.Proofs.Ytcndhhjolnebdaa
