/-
  THE TYPES of this seat, by program (gen.py).
-/
import Derived.Test.YthlfhcefeaehmaaCore8
import Derived.Test.YthlfhcefeaehmaaF
set_option linter.unusedSimpArgs false
set_option linter.unusedVariables false
set_option maxRecDepth 100000
namespace Go.Proofs.Ythlfhcefeaehmaa
open Go Go.RowKit
noncomputable section
theorem mixed_ : Try.prog.follows .mixedOrders = true := by kernel_rfl
theorem tf_3 : TF Try.prog 3 1 false (.int .i64 0) := ⟨Try.sizeOf3, Try.isAgg3, Try.zeroValue3, by decide, by decide⟩
theorem tf_22 : TF Try.prog 22 1 false (.slice none 0 0) := ⟨Try.sizeOf22, Try.isAgg22, Try.zeroValue22, by decide, by decide⟩
theorem tf_23 : TF Try.prog 23 1 false (.slice none 0 0) := ⟨Try.sizeOf23, Try.isAgg23, Try.zeroValue23, by decide, by decide⟩
theorem tf_25 : TF Try.prog 25 4 true (.agg #[(.slice none 0 0), (.slice none 0 0), (.int .i64 0), (.int .i64 0)]) := ⟨Try.sizeOf25, Try.isAgg25, Try.zeroValue25, by decide, by decide⟩
theorem tf_29 : TF Try.prog 29 1 false (.slice none 0 0) := ⟨Try.sizeOf29, Try.isAgg29, Try.zeroValue29, by decide, by decide⟩
theorem tf_31 : TF Try.prog 31 4 true (.agg #[(.slice none 0 0), (.slice none 0 0), (.int .i64 0), (.int .i64 0)]) := ⟨Try.sizeOf31, Try.isAgg31, Try.zeroValue31, by decide, by decide⟩
theorem tf_51 : TF Try.prog 51 7 true (.agg #[(.slice none 0 0), (.slice none 0 0), (.int .i64 0), (.int .i64 0), (.int .i64 0), (.slice none 0 0), (.slice none 0 0)]) := ⟨Try.sizeOf51, Try.isAgg51, Try.zeroValue51, by decide, by decide⟩
theorem tf_54 : TF Try.prog 54 2 true (.agg #[(.int .i64 0), (.int .i64 0)]) := ⟨Try.sizeOf54, Try.isAgg54, Try.zeroValue54, by decide, by decide⟩
theorem tf_58 : TF Try.prog 58 7 true (.agg #[(.slice none 0 0), (.slice none 0 0), (.int .i64 0), (.int .i64 0), (.int .i64 0), (.slice none 0 0), (.slice none 0 0)]) := ⟨Try.sizeOf58, Try.isAgg58, Try.zeroValue58, by decide, by decide⟩
theorem tf_70 : TF Try.prog 70 1 false (.slice none 0 0) := ⟨Try.sizeOf70, Try.isAgg70, Try.zeroValue70, by decide, by decide⟩
theorem tf_96 : TF Try.prog 96 5 true (.agg #[(.int .i64 0), (.int .i64 0), (.int .i64 0), (.int .i64 0), (.int .i64 0)]) := ⟨Try.sizeOf96, Try.isAgg96, Try.zeroValue96, by decide, by decide⟩
theorem tf_104 : TF Try.prog 104 2 true (.agg #[(.int .i64 0), (.int .i64 0)]) := ⟨Try.sizeOf104, Try.isAgg104, Try.zeroValue104, by decide, by decide⟩
theorem tf_112 : TF Try.prog 112 1 false (.slice none 0 0) := ⟨Try.sizeOf112, Try.isAgg112, Try.zeroValue112, by decide, by decide⟩
theorem tf_114 : TF Try.prog 114 4 true (.agg #[(.int .i64 0), (.int .i64 0), (.int .i64 0), (.slice none 0 0)]) := ⟨Try.sizeOf114, Try.isAgg114, Try.zeroValue114, by decide, by decide⟩
theorem tf_119 : TF Try.prog 119 1 false (.slice none 0 0) := ⟨Try.sizeOf119, Try.isAgg119, Try.zeroValue119, by decide, by decide⟩
theorem tf_141 : TF Try.prog 141 3 true (.agg #[(.int .i64 0), (.int .i64 0), (.int .i64 0)]) := ⟨Try.sizeOf141, Try.isAgg141, Try.zeroValue141, by decide, by decide⟩
theorem tf_146 : TF Try.prog 146 2 true (.agg #[(.int .i64 0), (.int .i64 0)]) := ⟨Try.sizeOf146, Try.isAgg146, Try.zeroValue146, by decide, by decide⟩
def enc_3 (x : Int) : List Value := [(.int .i64 x)]
def ty_3 : Ty Try.prog Int := { Sh.flat enc_3 1 0 (fun _ => rfl) (fun x => Ones.all (vs := enc_3 x) ⟨rfl, trivial⟩) with tid := 3, bts := 8, agg := false, sz_pos := by decide, bts_le := by decide, info := ⟨_, _, Try.type3, rfl, rfl, rfl, rfl⟩, und := ⟨_, Try.underlying3, rfl⟩, one1 := by decide }
theorem fl_3 : Flat ty_3 enc_3 := ⟨fun h => h, fun _ _ => ⟨rfl, rfl⟩, fun h => h.1⟩
def enc_146 (x : (Int × Int)) : List Value := [(.int .i64 x.1), (.int .i64 x.2)]
def ty_146 : Ty Try.prog (Int × Int) := { Sh.flat enc_146 2 (0, 0) (fun _ => rfl) (fun x => Ones.all (vs := enc_146 x) ⟨rfl, rfl, trivial⟩) with tid := 146, bts := 16, agg := true, sz_pos := by decide, bts_le := by decide, info := ⟨_, _, Try.type146, rfl, rfl, rfl, rfl⟩, und := ⟨_, Try.underlying146, rfl⟩, one1 := by decide }
theorem fl_146 : Flat ty_146 enc_146 := ⟨fun h => h, fun _ _ => ⟨rfl, rfl⟩, fun h => h.1⟩
def ty_119 : Ty Try.prog (List (Int × Int)) := { Sh.slice ty_146 with tid := 119, bts := 24, agg := false, sz_pos := by decide, bts_le := by decide, info := ⟨_, _, Try.type119, rfl, rfl, rfl, rfl⟩, und := ⟨_, Try.underlying119, rfl⟩, one1 := by decide }
def ty_22 : Ty Try.prog (List (List (Int × Int))) := { Sh.slice ty_119 with tid := 22, bts := 24, agg := false, sz_pos := by decide, bts_le := by decide, info := ⟨_, _, Try.type22, rfl, rfl, rfl, rfl⟩, und := ⟨_, Try.underlying22, rfl⟩, one1 := by decide }
def ty_23 : Ty Try.prog (List Int) := { Sh.slice ty_3 with tid := 23, bts := 24, agg := false, sz_pos := by decide, bts_le := by decide, info := ⟨_, _, Try.type23, rfl, rfl, rfl, rfl⟩, und := ⟨_, Try.underlying23, rfl⟩, one1 := by decide }
def ty_25 : Ty Try.prog ((List (List (Int × Int))) × (List Int) × Int × Int) := { (Sh.prod ty_22.toSh (Sh.prod ty_23.toSh (Sh.prod ty_3.toSh ty_3.toSh))) with tid := 25, bts := 64, agg := true, sz_pos := by decide, bts_le := by decide, info := ⟨_, _, Try.type25, rfl, rfl, rfl, rfl⟩, und := ⟨_, Try.underlying25, rfl⟩, one1 := by decide }
def ty_51 : Ty Try.prog (((List (List (Int × Int))) × (List Int) × Int × Int) × Int × (List Int) × (List Int)) := { (Sh.prod ty_25.toSh (Sh.prod ty_3.toSh (Sh.prod ty_23.toSh ty_23.toSh))) with tid := 51, bts := 120, agg := true, sz_pos := by decide, bts_le := by decide, info := ⟨_, _, Try.type51, rfl, rfl, rfl, rfl⟩, und := ⟨_, Try.underlying51, rfl⟩, one1 := by decide }
def enc_54 (x : (Int × Int)) : List Value := [(.int .i64 x.1), (.int .i64 x.2)]
def ty_54 : Ty Try.prog (Int × Int) := { Sh.flat enc_54 2 (0, 0) (fun _ => rfl) (fun x => Ones.all (vs := enc_54 x) ⟨rfl, rfl, trivial⟩) with tid := 54, bts := 16, agg := true, sz_pos := by decide, bts_le := by decide, info := ⟨_, _, Try.type54, rfl, rfl, rfl, rfl⟩, und := ⟨_, Try.underlying54, rfl⟩, one1 := by decide }
theorem fl_54 : Flat ty_54 enc_54 := ⟨fun h => h, fun _ _ => ⟨rfl, rfl⟩, fun h => h.1⟩
def ty_70 : Ty Try.prog (List (Int × Int)) := { Sh.slice ty_54 with tid := 70, bts := 24, agg := false, sz_pos := by decide, bts_le := by decide, info := ⟨_, _, Try.type70, rfl, rfl, rfl, rfl⟩, und := ⟨_, Try.underlying70, rfl⟩, one1 := by decide }
def enc_96 (x : ((Int × Int) × (Int × Int) × Int)) : List Value := [(.int .i64 x.1.1), (.int .i64 x.1.2), (.int .i64 x.2.1.1), (.int .i64 x.2.1.2), (.int .i64 x.2.2)]
def ty_96 : Ty Try.prog ((Int × Int) × (Int × Int) × Int) := { Sh.flat enc_96 5 ((0, 0), (0, 0), 0) (fun _ => rfl) (fun x => Ones.all (vs := enc_96 x) ⟨rfl, rfl, rfl, rfl, rfl, trivial⟩) with tid := 96, bts := 40, agg := true, sz_pos := by decide, bts_le := by decide, info := ⟨_, _, Try.type96, rfl, rfl, rfl, rfl⟩, und := ⟨_, Try.underlying96, rfl⟩, one1 := by decide }
theorem fl_96 : Flat ty_96 enc_96 := ⟨fun h => h, fun _ _ => ⟨rfl, rfl⟩, fun h => h.1⟩
def enc_141 (x : (Int × (Int × Int))) : List Value := [(.int .i64 x.1), (.int .i64 x.2.1), (.int .i64 x.2.2)]
def ty_141 : Ty Try.prog (Int × (Int × Int)) := { Sh.flat enc_141 3 (0, (0, 0)) (fun _ => rfl) (fun x => Ones.all (vs := enc_141 x) ⟨rfl, rfl, rfl, trivial⟩) with tid := 141, bts := 24, agg := true, sz_pos := by decide, bts_le := by decide, info := ⟨_, _, Try.type141, rfl, rfl, rfl, rfl⟩, und := ⟨_, Try.underlying141, rfl⟩, one1 := by decide }
theorem fl_141 : Flat ty_141 enc_141 := ⟨fun h => h, fun _ _ => ⟨rfl, rfl⟩, fun h => h.1⟩
def ty_112 : Ty Try.prog (List (Int × (Int × Int))) := { Sh.slice ty_141 with tid := 112, bts := 24, agg := false, sz_pos := by decide, bts_le := by decide, info := ⟨_, _, Try.type112, rfl, rfl, rfl, rfl⟩, und := ⟨_, Try.underlying112, rfl⟩, one1 := by decide }
def ty_114 : Ty Try.prog (Int × (Int × Int) × (List (Int × (Int × Int)))) := { (Sh.prod ty_3.toSh (Sh.prod ty_54.toSh ty_112.toSh)) with tid := 114, bts := 48, agg := true, sz_pos := by decide, bts_le := by decide, info := ⟨_, _, Try.type114, rfl, rfl, rfl, rfl⟩, und := ⟨_, Try.underlying114, rfl⟩, one1 := by decide }
theorem ff_25_0 : FFb Try.prog 25 0 0 = true := by kernel_rfl
theorem ff_25_1 : FFb Try.prog 25 1 1 = true := by kernel_rfl
theorem ff_25_2 : FFb Try.prog 25 2 2 = true := by kernel_rfl
theorem ff_25_3 : FFb Try.prog 25 3 3 = true := by kernel_rfl
theorem ff_31_0 : FFb Try.prog 31 0 0 = true := by kernel_rfl
theorem ff_31_1 : FFb Try.prog 31 1 1 = true := by kernel_rfl
theorem ff_31_2 : FFb Try.prog 31 2 2 = true := by kernel_rfl
theorem ff_31_3 : FFb Try.prog 31 3 3 = true := by kernel_rfl
theorem ff_51_0 : FFb Try.prog 51 0 0 = true := by kernel_rfl
theorem ff_51_1 : FFb Try.prog 51 1 4 = true := by kernel_rfl
theorem ff_51_2 : FFb Try.prog 51 2 5 = true := by kernel_rfl
theorem ff_51_3 : FFb Try.prog 51 3 6 = true := by kernel_rfl
theorem ff_54_0 : FFb Try.prog 54 0 0 = true := by kernel_rfl
theorem ff_54_1 : FFb Try.prog 54 1 1 = true := by kernel_rfl
theorem ff_58_0 : FFb Try.prog 58 0 0 = true := by kernel_rfl
theorem ff_58_1 : FFb Try.prog 58 1 4 = true := by kernel_rfl
theorem ff_58_2 : FFb Try.prog 58 2 5 = true := by kernel_rfl
theorem ff_58_3 : FFb Try.prog 58 3 6 = true := by kernel_rfl
theorem ff_96_0 : FFb Try.prog 96 0 0 = true := by kernel_rfl
theorem ff_96_1 : FFb Try.prog 96 1 2 = true := by kernel_rfl
theorem ff_96_2 : FFb Try.prog 96 2 4 = true := by kernel_rfl
theorem ff_104_0 : FFb Try.prog 104 0 0 = true := by kernel_rfl
theorem ff_104_1 : FFb Try.prog 104 1 1 = true := by kernel_rfl
theorem ff_114_0 : FFb Try.prog 114 0 0 = true := by kernel_rfl
theorem ff_114_1 : FFb Try.prog 114 1 1 = true := by kernel_rfl
theorem ff_114_2 : FFb Try.prog 114 2 3 = true := by kernel_rfl
theorem ff_141_0 : FFb Try.prog 141 0 0 = true := by kernel_rfl
theorem ff_141_1 : FFb Try.prog 141 1 1 = true := by kernel_rfl
theorem ff_146_0 : FFb Try.prog 146 0 0 = true := by kernel_rfl
theorem ff_146_1 : FFb Try.prog 146 1 1 = true := by kernel_rfl
theorem pl_31 : placesB Try.prog 31 [(0, 1), (1, 1), (2, 1), (3, 1)] = true := by kernel_rfl
theorem pl_54 : placesB Try.prog 54 [(0, 1), (1, 1)] = true := by kernel_rfl
theorem pl_58 : placesB Try.prog 58 [(0, 4), (4, 1), (5, 1), (6, 1)] = true := by kernel_rfl
theorem pl_96 : placesB Try.prog 96 [(0, 2), (2, 2), (4, 1)] = true := by kernel_rfl
theorem pl_104 : placesB Try.prog 104 [(0, 1), (1, 1)] = true := by kernel_rfl
theorem pl_114 : placesB Try.prog 114 [(0, 1), (1, 2), (3, 1)] = true := by kernel_rfl
theorem pl_141 : placesB Try.prog 141 [(0, 1), (1, 2)] = true := by kernel_rfl
theorem eq_54 (x y : (Int × Int)) (w : World) : (Op.equalIn 10000 54 (.agg #[(.int .i64 x.1), (.int .i64 x.2)]) (.agg #[(.int .i64 y.1), (.int .i64 y.2)])).run Try.prog w = .ok (eqv_Spot x y) w := by
  go_simp
  by_cases h0 : x.1 = y.1 <;> by_cases h1 : x.2 = y.2 <;> simp [eqv_Spot, h0, h1]
theorem cells_25 : Try.prog.cellsOf 25 = 4 := by kernel_rfl
theorem cells_22 : Try.prog.cellsOf 22 = 1 := by kernel_rfl
theorem cells_119 : Try.prog.cellsOf 119 = 1 := by kernel_rfl
theorem cells_146 : Try.prog.cellsOf 146 = 2 := by kernel_rfl
theorem cells_3 : Try.prog.cellsOf 3 = 1 := by kernel_rfl
theorem op_3 : Opn Try.prog 3 ty_3.rd inI64 := opn_i64 Try.underlying3
theorem op_146 : Opn Try.prog 146 ty_146.rd G_Spot := ⟨fun h => by
  obtain ⟨xs, n, -, -, hl, hx, hf⟩ := DataW.trod_struct Try.underlying146 h
  obtain ⟨c0, c1, rfl⟩ := len2 (hl.trans cells_146)
  obtain ⟨y0, k0⟩ := fld hx hf 0 _ rfl (t := 3) (o := 0) (sz := 1) rfl rfl cells_3
  obtain ⟨d0, r0, g0⟩ := op_3.op k0
  obtain ⟨y1, k1⟩ := fld hx hf 1 _ rfl (t := 3) (o := 1) (sz := 1) rfl rfl cells_3
  obtain ⟨d1, r1, g1⟩ := op_3.op k1
  replace r0 : [c0] = enc_3 d0 := r0
  replace r1 : [c1] = enc_3 d1 := r1
  simp only [enc_3, List.cons.injEq, and_true] at r0
  simp only [enc_3, List.cons.injEq, and_true] at r1
  obtain rfl := r0
  obtain rfl := r1
  exact ⟨(d0, d1), rfl, ⟨g0, g1⟩⟩⟩
theorem op_119 : Opn Try.prog 119 ty_119.rd (allG G_Spot) := opn_slice Try.underlying119 cells_146 op_146
theorem op_22 : Opn Try.prog 22 ty_22.rd (allG (allG G_Spot)) := opn_slice Try.underlying22 cells_119 op_119
theorem cells_23 : Try.prog.cellsOf 23 = 1 := by kernel_rfl
theorem op_23 : Opn Try.prog 23 ty_23.rd (allG inI64) := opn_slice Try.underlying23 cells_3 op_3
theorem op_25 : Opn Try.prog 25 ty_25.rd G_Show := ⟨fun h => by
  obtain ⟨xs, n, -, -, hl, hx, hf⟩ := DataW.trod_struct Try.underlying25 h
  obtain ⟨c0, c1, c2, c3, rfl⟩ := len4 (hl.trans cells_25)
  obtain ⟨y0, k0⟩ := fld hx hf 0 _ rfl (t := 22) (o := 0) (sz := 1) rfl rfl cells_22
  obtain ⟨d0, r0, g0⟩ := op_22.op k0
  obtain ⟨y1, k1⟩ := fld hx hf 1 _ rfl (t := 23) (o := 1) (sz := 1) rfl rfl cells_23
  obtain ⟨d1, r1, g1⟩ := op_23.op k1
  obtain ⟨y2, k2⟩ := fld hx hf 2 _ rfl (t := 3) (o := 2) (sz := 1) rfl rfl cells_3
  obtain ⟨d2, r2, g2⟩ := op_3.op k2
  obtain ⟨y3, k3⟩ := fld hx hf 3 _ rfl (t := 3) (o := 3) (sz := 1) rfl rfl cells_3
  obtain ⟨d3, r3, g3⟩ := op_3.op k3
  exact ⟨(d0, d1, d2, d3), ⟨[c0], [c1, c2, c3], rfl, r0, ⟨[c1], [c2, c3], rfl, r1, ⟨[c2], [c3], rfl, r2, r3⟩⟩⟩, ⟨g0, g1, g2, g3⟩⟩⟩
theorem cells_51 : Try.prog.cellsOf 51 = 7 := by kernel_rfl
theorem op_51 : Opn Try.prog 51 ty_51.rd G_March := ⟨fun h => by
  obtain ⟨xs, n, -, -, hl, hx, hf⟩ := DataW.trod_struct Try.underlying51 h
  obtain ⟨c0, c1, c2, c3, c4, c5, c6, rfl⟩ := len7 (hl.trans cells_51)
  obtain ⟨y0, k0⟩ := fld hx hf 0 _ rfl (t := 25) (o := 0) (sz := 4) rfl rfl cells_25
  obtain ⟨d0, r0, g0⟩ := op_25.op k0
  obtain ⟨y1, k1⟩ := fld hx hf 1 _ rfl (t := 3) (o := 4) (sz := 1) rfl rfl cells_3
  obtain ⟨d1, r1, g1⟩ := op_3.op k1
  obtain ⟨y2, k2⟩ := fld hx hf 2 _ rfl (t := 23) (o := 5) (sz := 1) rfl rfl cells_23
  obtain ⟨d2, r2, g2⟩ := op_23.op k2
  obtain ⟨y3, k3⟩ := fld hx hf 3 _ rfl (t := 23) (o := 6) (sz := 1) rfl rfl cells_23
  obtain ⟨d3, r3, g3⟩ := op_23.op k3
  exact ⟨(d0, d1, d2, d3), ⟨[c0, c1, c2, c3], [c4, c5, c6], rfl, r0, ⟨[c4], [c5, c6], rfl, r1, ⟨[c5], [c6], rfl, r2, r3⟩⟩⟩, ⟨g0, g1, g2, g3⟩⟩⟩
end
end Go.Proofs.Ythlfhcefeaehmaa
