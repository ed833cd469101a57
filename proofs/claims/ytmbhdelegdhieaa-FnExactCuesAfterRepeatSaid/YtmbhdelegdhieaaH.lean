/-
  THE TYPES of this seat, by program (gen.py).
-/
import Derived.Test.YtmbhdelegdhieaaCore8
import Derived.Test.YtmbhdelegdhieaaF
set_option linter.unusedSimpArgs false
set_option linter.unusedVariables false
set_option maxRecDepth 100000
namespace Go.Proofs.Ytmbhdelegdhieaa
open Go Go.RowKit
noncomputable section
theorem mixed_ : Try.prog.follows .mixedOrders = true := by kernel_rfl
theorem tf_3 : TF Try.prog 3 1 false (.int .i64 0) := ⟨Try.sizeOf3, Try.isAgg3, Try.zeroValue3, by decide, by decide⟩
theorem tf_5 : TF Try.prog 5 1 false (.int .u8 0) := ⟨Try.sizeOf5, Try.isAgg5, Try.zeroValue5, by decide, by decide⟩
theorem tf_9 : TF Try.prog 9 1 false (.string .empty) := ⟨Try.sizeOf9, Try.isAgg9, Try.zeroValue9, by decide, by decide⟩
theorem tf_22 : TF Try.prog 22 1 false (.slice none 0 0) := ⟨Try.sizeOf22, Try.isAgg22, Try.zeroValue22, by decide, by decide⟩
theorem tf_23 : TF Try.prog 23 1 false (.slice none 0 0) := ⟨Try.sizeOf23, Try.isAgg23, Try.zeroValue23, by decide, by decide⟩
theorem tf_25 : TF Try.prog 25 4 true (.agg #[(.slice none 0 0), (.slice none 0 0), (.int .i64 0), (.int .i64 0)]) := ⟨Try.sizeOf25, Try.isAgg25, Try.zeroValue25, by decide, by decide⟩
theorem tf_28 : TF Try.prog 28 1 false (.slice none 0 0) := ⟨Try.sizeOf28, Try.isAgg28, Try.zeroValue28, by decide, by decide⟩
theorem tf_30 : TF Try.prog 30 4 true (.agg #[(.slice none 0 0), (.slice none 0 0), (.int .i64 0), (.int .i64 0)]) := ⟨Try.sizeOf30, Try.isAgg30, Try.zeroValue30, by decide, by decide⟩
theorem tf_36 : TF Try.prog 36 1 false (.slice none 0 0) := ⟨Try.sizeOf36, Try.isAgg36, Try.zeroValue36, by decide, by decide⟩
theorem tf_37 : TF Try.prog 37 1 false (.slice none 0 0) := ⟨Try.sizeOf37, Try.isAgg37, Try.zeroValue37, by decide, by decide⟩
theorem tf_53 : TF Try.prog 53 2 true (.agg #[(.int .i64 0), (.string .empty)]) := ⟨Try.sizeOf53, Try.isAgg53, Try.zeroValue53, by decide, by decide⟩
theorem tf_56 : TF Try.prog 56 2 true (.agg #[(.int .i64 0), (.string .empty)]) := ⟨Try.sizeOf56, Try.isAgg56, Try.zeroValue56, by decide, by decide⟩
theorem tf_65 : TF Try.prog 65 7 true (.agg #[(.slice none 0 0), (.slice none 0 0), (.int .i64 0), (.int .i64 0), (.int .i64 0), (.slice none 0 0), (.slice none 0 0)]) := ⟨Try.sizeOf65, Try.isAgg65, Try.zeroValue65, by decide, by decide⟩
theorem tf_69 : TF Try.prog 69 7 true (.agg #[(.slice none 0 0), (.slice none 0 0), (.int .i64 0), (.int .i64 0), (.int .i64 0), (.slice none 0 0), (.slice none 0 0)]) := ⟨Try.sizeOf69, Try.isAgg69, Try.zeroValue69, by decide, by decide⟩
theorem tf_93 : TF Try.prog 93 2 true (.agg #[(.int .i64 0), (.int .i64 0)]) := ⟨Try.sizeOf93, Try.isAgg93, Try.zeroValue93, by decide, by decide⟩
theorem tf_95 : TF Try.prog 95 2 true (.agg #[(.int .i64 0), (.int .i64 0)]) := ⟨Try.sizeOf95, Try.isAgg95, Try.zeroValue95, by decide, by decide⟩
theorem tf_105 : TF Try.prog 105 2 true (.agg #[(.int .i64 0), (.int .i64 0)]) := ⟨Try.sizeOf105, Try.isAgg105, Try.zeroValue105, by decide, by decide⟩
theorem tf_107 : TF Try.prog 107 5 true (.agg #[(.int .i64 0), (.int .i64 0), (.int .i64 0), (.int .i64 0), (.int .i64 0)]) := ⟨Try.sizeOf107, Try.isAgg107, Try.zeroValue107, by decide, by decide⟩
theorem tf_109 : TF Try.prog 109 1 false (.slice none 0 0) := ⟨Try.sizeOf109, Try.isAgg109, Try.zeroValue109, by decide, by decide⟩
theorem tf_119 : TF Try.prog 119 1 false (.slice none 0 0) := ⟨Try.sizeOf119, Try.isAgg119, Try.zeroValue119, by decide, by decide⟩
theorem tf_132 : TF Try.prog 132 2 true (.agg #[(.int .i64 0), (.int .i64 0)]) := ⟨Try.sizeOf132, Try.isAgg132, Try.zeroValue132, by decide, by decide⟩
def enc_3 (x : Int) : List Value := [(.int .i64 x)]
def ty_3 : Ty Try.prog Int := { Sh.flat enc_3 1 0 (fun _ => rfl) (fun x => Ones.all (vs := enc_3 x) ⟨rfl, trivial⟩) with tid := 3, bts := 8, agg := false, sz_pos := by decide, bts_le := by decide, info := ⟨_, _, Try.type3, rfl, rfl, rfl, rfl⟩, und := ⟨_, Try.underlying3, rfl⟩, one1 := by decide }
theorem fl_3 : Flat ty_3 enc_3 := ⟨fun h => h, fun _ _ => ⟨rfl, rfl⟩, fun h => h.1⟩
def enc_5 (x : Int) : List Value := [(.int .u8 x)]
def ty_5 : Ty Try.prog Int := { Sh.flat enc_5 1 0 (fun _ => rfl) (fun x => Ones.all (vs := enc_5 x) ⟨rfl, trivial⟩) with tid := 5, bts := 1, agg := false, sz_pos := by decide, bts_le := by decide, info := ⟨_, _, Try.type5, rfl, rfl, rfl, rfl⟩, und := ⟨_, Try.underlying5, rfl⟩, one1 := by decide }
theorem fl_5 : Flat ty_5 enc_5 := ⟨fun h => h, fun _ _ => ⟨rfl, rfl⟩, fun h => h.1⟩
def enc_9 (x : (List UInt8)) : List Value := [(.string (mkS x))]
def ty_9 : Ty Try.prog (List UInt8) := { Sh.flat enc_9 1 [] (fun _ => rfl) (fun x => Ones.all (vs := enc_9 x) ⟨rfl, trivial⟩) with tid := 9, bts := 16, agg := false, sz_pos := by decide, bts_le := by decide, info := ⟨_, _, Try.type9, rfl, rfl, rfl, rfl⟩, und := ⟨_, Try.underlying9, rfl⟩, one1 := by decide }
theorem fl_9 : Flat ty_9 enc_9 := ⟨fun h => h, fun _ _ => ⟨rfl, rfl⟩, fun h => h.1⟩
def enc_132 (x : (Int × Int)) : List Value := [(.int .i64 x.1), (.int .i64 x.2)]
def ty_132 : Ty Try.prog (Int × Int) := { Sh.flat enc_132 2 (0, 0) (fun _ => rfl) (fun x => Ones.all (vs := enc_132 x) ⟨rfl, rfl, trivial⟩) with tid := 132, bts := 16, agg := true, sz_pos := by decide, bts_le := by decide, info := ⟨_, _, Try.type132, rfl, rfl, rfl, rfl⟩, und := ⟨_, Try.underlying132, rfl⟩, one1 := by decide }
theorem fl_132 : Flat ty_132 enc_132 := ⟨fun h => h, fun _ _ => ⟨rfl, rfl⟩, fun h => h.1⟩
def ty_119 : Ty Try.prog (List (Int × Int)) := { Sh.slice ty_132 with tid := 119, bts := 24, agg := false, sz_pos := by decide, bts_le := by decide, info := ⟨_, _, Try.type119, rfl, rfl, rfl, rfl⟩, und := ⟨_, Try.underlying119, rfl⟩, one1 := by decide }
def ty_22 : Ty Try.prog (List (List (Int × Int))) := { Sh.slice ty_119 with tid := 22, bts := 24, agg := false, sz_pos := by decide, bts_le := by decide, info := ⟨_, _, Try.type22, rfl, rfl, rfl, rfl⟩, und := ⟨_, Try.underlying22, rfl⟩, one1 := by decide }
def ty_23 : Ty Try.prog (List Int) := { Sh.slice ty_3 with tid := 23, bts := 24, agg := false, sz_pos := by decide, bts_le := by decide, info := ⟨_, _, Try.type23, rfl, rfl, rfl, rfl⟩, und := ⟨_, Try.underlying23, rfl⟩, one1 := by decide }
def ty_25 : Ty Try.prog ((List (List (Int × Int))) × (List Int) × Int × Int) := { (Sh.prod ty_22.toSh (Sh.prod ty_23.toSh (Sh.prod ty_3.toSh ty_3.toSh))) with tid := 25, bts := 64, agg := true, sz_pos := by decide, bts_le := by decide, info := ⟨_, _, Try.type25, rfl, rfl, rfl, rfl⟩, und := ⟨_, Try.underlying25, rfl⟩, one1 := by decide }
def enc_95 (x : (Int × Int)) : List Value := [(.int .i64 x.1), (.int .i64 x.2)]
def ty_95 : Ty Try.prog (Int × Int) := { Sh.flat enc_95 2 (0, 0) (fun _ => rfl) (fun x => Ones.all (vs := enc_95 x) ⟨rfl, rfl, trivial⟩) with tid := 95, bts := 16, agg := true, sz_pos := by decide, bts_le := by decide, info := ⟨_, _, Try.type95, rfl, rfl, rfl, rfl⟩, und := ⟨_, Try.underlying95, rfl⟩, one1 := by decide }
theorem fl_95 : Flat ty_95 enc_95 := ⟨fun h => h, fun _ _ => ⟨rfl, rfl⟩, fun h => h.1⟩
def ty_36 : Ty Try.prog (List (Int × Int)) := { Sh.slice ty_95 with tid := 36, bts := 24, agg := false, sz_pos := by decide, bts_le := by decide, info := ⟨_, _, Try.type36, rfl, rfl, rfl, rfl⟩, und := ⟨_, Try.underlying36, rfl⟩, one1 := by decide }
def enc_53 (x : (Int × (List UInt8))) : List Value := [(.int .i64 x.1), (.string (mkS x.2))]
def ty_53 : Ty Try.prog (Int × (List UInt8)) := { Sh.flat enc_53 2 (0, []) (fun _ => rfl) (fun x => Ones.all (vs := enc_53 x) ⟨rfl, rfl, trivial⟩) with tid := 53, bts := 24, agg := true, sz_pos := by decide, bts_le := by decide, info := ⟨_, _, Try.type53, rfl, rfl, rfl, rfl⟩, und := ⟨_, Try.underlying53, rfl⟩, one1 := by decide }
theorem fl_53 : Flat ty_53 enc_53 := ⟨fun h => h, fun _ _ => ⟨rfl, rfl⟩, fun h => h.1⟩
def ty_37 : Ty Try.prog (List (Int × (List UInt8))) := { Sh.slice ty_53 with tid := 37, bts := 24, agg := false, sz_pos := by decide, bts_le := by decide, info := ⟨_, _, Try.type37, rfl, rfl, rfl, rfl⟩, und := ⟨_, Try.underlying37, rfl⟩, one1 := by decide }
def enc_56 (x : (Int × (List UInt8))) : List Value := [(.int .i64 x.1), (.string (mkS x.2))]
def ty_56 : Ty Try.prog (Int × (List UInt8)) := { Sh.flat enc_56 2 (0, []) (fun _ => rfl) (fun x => Ones.all (vs := enc_56 x) ⟨rfl, rfl, trivial⟩) with tid := 56, bts := 24, agg := true, sz_pos := by decide, bts_le := by decide, info := ⟨_, _, Try.type56, rfl, rfl, rfl, rfl⟩, und := ⟨_, Try.underlying56, rfl⟩, one1 := by decide }
theorem fl_56 : Flat ty_56 enc_56 := ⟨fun h => h, fun _ _ => ⟨rfl, rfl⟩, fun h => h.1⟩
def ty_65 : Ty Try.prog (((List (List (Int × Int))) × (List Int) × Int × Int) × Int × (List Int) × (List Int)) := { (Sh.prod ty_25.toSh (Sh.prod ty_3.toSh (Sh.prod ty_23.toSh ty_23.toSh))) with tid := 65, bts := 120, agg := true, sz_pos := by decide, bts_le := by decide, info := ⟨_, _, Try.type65, rfl, rfl, rfl, rfl⟩, und := ⟨_, Try.underlying65, rfl⟩, one1 := by decide }
def enc_93 (x : (Int × Int)) : List Value := [(.int .i64 x.1), (.int .i64 x.2)]
def ty_93 : Ty Try.prog (Int × Int) := { Sh.flat enc_93 2 (0, 0) (fun _ => rfl) (fun x => Ones.all (vs := enc_93 x) ⟨rfl, rfl, trivial⟩) with tid := 93, bts := 16, agg := true, sz_pos := by decide, bts_le := by decide, info := ⟨_, _, Try.type93, rfl, rfl, rfl, rfl⟩, und := ⟨_, Try.underlying93, rfl⟩, one1 := by decide }
theorem fl_93 : Flat ty_93 enc_93 := ⟨fun h => h, fun _ _ => ⟨rfl, rfl⟩, fun h => h.1⟩
def enc_105 (x : (Int × Int)) : List Value := [(.int .i64 x.1), (.int .i64 x.2)]
def ty_105 : Ty Try.prog (Int × Int) := { Sh.flat enc_105 2 (0, 0) (fun _ => rfl) (fun x => Ones.all (vs := enc_105 x) ⟨rfl, rfl, trivial⟩) with tid := 105, bts := 16, agg := true, sz_pos := by decide, bts_le := by decide, info := ⟨_, _, Try.type105, rfl, rfl, rfl, rfl⟩, und := ⟨_, Try.underlying105, rfl⟩, one1 := by decide }
theorem fl_105 : Flat ty_105 enc_105 := ⟨fun h => h, fun _ _ => ⟨rfl, rfl⟩, fun h => h.1⟩
def enc_107 (x : ((Int × Int) × (Int × Int) × Int)) : List Value := [(.int .i64 x.1.1), (.int .i64 x.1.2), (.int .i64 x.2.1.1), (.int .i64 x.2.1.2), (.int .i64 x.2.2)]
def ty_107 : Ty Try.prog ((Int × Int) × (Int × Int) × Int) := { Sh.flat enc_107 5 ((0, 0), (0, 0), 0) (fun _ => rfl) (fun x => Ones.all (vs := enc_107 x) ⟨rfl, rfl, rfl, rfl, rfl, trivial⟩) with tid := 107, bts := 40, agg := true, sz_pos := by decide, bts_le := by decide, info := ⟨_, _, Try.type107, rfl, rfl, rfl, rfl⟩, und := ⟨_, Try.underlying107, rfl⟩, one1 := by decide }
theorem fl_107 : Flat ty_107 enc_107 := ⟨fun h => h, fun _ _ => ⟨rfl, rfl⟩, fun h => h.1⟩
def ty_109 : Ty Try.prog (List (Int × Int)) := { Sh.slice ty_105 with tid := 109, bts := 24, agg := false, sz_pos := by decide, bts_le := by decide, info := ⟨_, _, Try.type109, rfl, rfl, rfl, rfl⟩, und := ⟨_, Try.underlying109, rfl⟩, one1 := by decide }
theorem ff_25_0 : FFb Try.prog 25 0 0 = true := by kernel_rfl
theorem ff_25_1 : FFb Try.prog 25 1 1 = true := by kernel_rfl
theorem ff_25_2 : FFb Try.prog 25 2 2 = true := by kernel_rfl
theorem ff_25_3 : FFb Try.prog 25 3 3 = true := by kernel_rfl
theorem ff_30_0 : FFb Try.prog 30 0 0 = true := by kernel_rfl
theorem ff_30_1 : FFb Try.prog 30 1 1 = true := by kernel_rfl
theorem ff_30_2 : FFb Try.prog 30 2 2 = true := by kernel_rfl
theorem ff_30_3 : FFb Try.prog 30 3 3 = true := by kernel_rfl
theorem ff_53_0 : FFb Try.prog 53 0 0 = true := by kernel_rfl
theorem ff_53_1 : FFb Try.prog 53 1 1 = true := by kernel_rfl
theorem ff_56_0 : FFb Try.prog 56 0 0 = true := by kernel_rfl
theorem ff_56_1 : FFb Try.prog 56 1 1 = true := by kernel_rfl
theorem ff_65_0 : FFb Try.prog 65 0 0 = true := by kernel_rfl
theorem ff_65_1 : FFb Try.prog 65 1 4 = true := by kernel_rfl
theorem ff_65_2 : FFb Try.prog 65 2 5 = true := by kernel_rfl
theorem ff_65_3 : FFb Try.prog 65 3 6 = true := by kernel_rfl
theorem ff_69_0 : FFb Try.prog 69 0 0 = true := by kernel_rfl
theorem ff_69_1 : FFb Try.prog 69 1 4 = true := by kernel_rfl
theorem ff_69_2 : FFb Try.prog 69 2 5 = true := by kernel_rfl
theorem ff_69_3 : FFb Try.prog 69 3 6 = true := by kernel_rfl
theorem ff_93_0 : FFb Try.prog 93 0 0 = true := by kernel_rfl
theorem ff_93_1 : FFb Try.prog 93 1 1 = true := by kernel_rfl
theorem ff_95_0 : FFb Try.prog 95 0 0 = true := by kernel_rfl
theorem ff_95_1 : FFb Try.prog 95 1 1 = true := by kernel_rfl
theorem ff_105_0 : FFb Try.prog 105 0 0 = true := by kernel_rfl
theorem ff_105_1 : FFb Try.prog 105 1 1 = true := by kernel_rfl
theorem ff_107_0 : FFb Try.prog 107 0 0 = true := by kernel_rfl
theorem ff_107_1 : FFb Try.prog 107 1 2 = true := by kernel_rfl
theorem ff_107_2 : FFb Try.prog 107 2 4 = true := by kernel_rfl
theorem ff_132_0 : FFb Try.prog 132 0 0 = true := by kernel_rfl
theorem ff_132_1 : FFb Try.prog 132 1 1 = true := by kernel_rfl
theorem pl_56 : placesB Try.prog 56 [(0, 1), (1, 1)] = true := by kernel_rfl
theorem pl_107 : placesB Try.prog 107 [(0, 2), (2, 2), (4, 1)] = true := by kernel_rfl
theorem eq_105 (x y : (Int × Int)) (w : World) : (Op.equalIn 10000 105 (.agg #[(.int .i64 x.1), (.int .i64 x.2)]) (.agg #[(.int .i64 y.1), (.int .i64 y.2)])).run Try.prog w = .ok (eqv_Spot x y) w := by
  go_simp
  by_cases h0 : x.1 = y.1 <;> by_cases h1 : x.2 = y.2 <;> simp [eqv_Spot, h0, h1]
theorem cells_25 : Try.prog.cellsOf 25 = 4 := by kernel_rfl
theorem cells_22 : Try.prog.cellsOf 22 = 1 := by kernel_rfl
theorem cells_119 : Try.prog.cellsOf 119 = 1 := by kernel_rfl
theorem cells_132 : Try.prog.cellsOf 132 = 2 := by kernel_rfl
theorem cells_3 : Try.prog.cellsOf 3 = 1 := by kernel_rfl
theorem op_3 : Opn Try.prog 3 ty_3.rd inI64 := opn_i64 Try.underlying3
theorem op_132 : Opn Try.prog 132 ty_132.rd G_Spot := ⟨fun h => by
  obtain ⟨xs, n, -, -, hl, hx, hf⟩ := DataW.trod_struct Try.underlying132 h
  obtain ⟨c0, c1, rfl⟩ := len2 (hl.trans cells_132)
  obtain ⟨y0, k0⟩ := fld hx hf 0 _ rfl (t := 3) (o := 0) (sz := 1) rfl rfl cells_3
  obtain ⟨d0, r0, g0⟩ := op_3.op k0
  obtain ⟨y1, k1⟩ := fld hx hf 1 _ rfl (t := 3) (o := 1) (sz := 1) rfl rfl cells_3
  obtain ⟨d1, r1, g1⟩ := op_3.op k1
  replace r0 : [c0] = enc_3 d0 := r0
  replace r1 : [c1] = enc_3 d1 := r1
  simp only [enc_3, List.cons.injEq, and_true] at r0
  simp only [enc_3, List.cons.injEq, and_true] at r1
  obtain rfl := r0
  obtain rfl := r1
  exact ⟨(d0, d1), rfl, ⟨g0, g1⟩⟩⟩
theorem op_119 : Opn Try.prog 119 ty_119.rd (allG G_Spot) := opn_slice Try.underlying119 cells_132 op_132
theorem op_22 : Opn Try.prog 22 ty_22.rd (allG (allG G_Spot)) := opn_slice Try.underlying22 cells_119 op_119
theorem cells_23 : Try.prog.cellsOf 23 = 1 := by kernel_rfl
theorem op_23 : Opn Try.prog 23 ty_23.rd (allG inI64) := opn_slice Try.underlying23 cells_3 op_3
theorem op_25 : Opn Try.prog 25 ty_25.rd G_Show := ⟨fun h => by
  obtain ⟨xs, n, -, -, hl, hx, hf⟩ := DataW.trod_struct Try.underlying25 h
  obtain ⟨c0, c1, c2, c3, rfl⟩ := len4 (hl.trans cells_25)
  obtain ⟨y0, k0⟩ := fld hx hf 0 _ rfl (t := 22) (o := 0) (sz := 1) rfl rfl cells_22
  obtain ⟨d0, r0, g0⟩ := op_22.op k0
  obtain ⟨y1, k1⟩ := fld hx hf 1 _ rfl (t := 23) (o := 1) (sz := 1) rfl rfl cells_23
  obtain ⟨d1, r1, g1⟩ := op_23.op k1
  obtain ⟨y2, k2⟩ := fld hx hf 2 _ rfl (t := 3) (o := 2) (sz := 1) rfl rfl cells_3
  obtain ⟨d2, r2, g2⟩ := op_3.op k2
  obtain ⟨y3, k3⟩ := fld hx hf 3 _ rfl (t := 3) (o := 3) (sz := 1) rfl rfl cells_3
  obtain ⟨d3, r3, g3⟩ := op_3.op k3
  exact ⟨(d0, d1, d2, d3), ⟨[c0], [c1, c2, c3], rfl, r0, ⟨[c1], [c2, c3], rfl, r1, ⟨[c2], [c3], rfl, r2, r3⟩⟩⟩, ⟨g0, g1, g2, g3⟩⟩⟩
theorem cells_36 : Try.prog.cellsOf 36 = 1 := by kernel_rfl
theorem cells_95 : Try.prog.cellsOf 95 = 2 := by kernel_rfl
theorem op_95 : Opn Try.prog 95 ty_95.rd G_Measure := ⟨fun h => by
  obtain ⟨xs, n, -, -, hl, hx, hf⟩ := DataW.trod_struct Try.underlying95 h
  obtain ⟨c0, c1, rfl⟩ := len2 (hl.trans cells_95)
  obtain ⟨y0, k0⟩ := fld hx hf 0 _ rfl (t := 3) (o := 0) (sz := 1) rfl rfl cells_3
  obtain ⟨d0, r0, g0⟩ := op_3.op k0
  obtain ⟨y1, k1⟩ := fld hx hf 1 _ rfl (t := 3) (o := 1) (sz := 1) rfl rfl cells_3
  obtain ⟨d1, r1, g1⟩ := op_3.op k1
  replace r0 : [c0] = enc_3 d0 := r0
  replace r1 : [c1] = enc_3 d1 := r1
  simp only [enc_3, List.cons.injEq, and_true] at r0
  simp only [enc_3, List.cons.injEq, and_true] at r1
  obtain rfl := r0
  obtain rfl := r1
  exact ⟨(d0, d1), rfl, ⟨g0, g1⟩⟩⟩
theorem op_36 : Opn Try.prog 36 ty_36.rd (allG G_Measure) := opn_slice Try.underlying36 cells_95 op_95
theorem cells_37 : Try.prog.cellsOf 37 = 1 := by kernel_rfl
theorem cells_53 : Try.prog.cellsOf 53 = 2 := by kernel_rfl
theorem cells_9 : Try.prog.cellsOf 9 = 1 := by kernel_rfl
theorem op_9 : Opn Try.prog 9 ty_9.rd (allG anyG) := opn_string Try.underlying9
theorem op_53 : Opn Try.prog 53 ty_53.rd G_Cue := ⟨fun h => by
  obtain ⟨xs, n, -, -, hl, hx, hf⟩ := DataW.trod_struct Try.underlying53 h
  obtain ⟨c0, c1, rfl⟩ := len2 (hl.trans cells_53)
  obtain ⟨y0, k0⟩ := fld hx hf 0 _ rfl (t := 3) (o := 0) (sz := 1) rfl rfl cells_3
  obtain ⟨d0, r0, g0⟩ := op_3.op k0
  obtain ⟨y1, k1⟩ := fld hx hf 1 _ rfl (t := 9) (o := 1) (sz := 1) rfl rfl cells_9
  obtain ⟨d1, r1, g1⟩ := op_9.op k1
  replace r0 : [c0] = enc_3 d0 := r0
  replace r1 : [c1] = enc_9 d1 := r1
  simp only [enc_3, List.cons.injEq, and_true] at r0
  simp only [enc_9, List.cons.injEq, and_true] at r1
  obtain rfl := r0
  obtain rfl := r1
  exact ⟨(d0, d1), rfl, ⟨g0, g1⟩⟩⟩
theorem op_37 : Opn Try.prog 37 ty_37.rd (allG G_Cue) := opn_slice Try.underlying37 cells_53 op_53
theorem cells_65 : Try.prog.cellsOf 65 = 7 := by kernel_rfl
theorem op_65 : Opn Try.prog 65 ty_65.rd G_March := ⟨fun h => by
  obtain ⟨xs, n, -, -, hl, hx, hf⟩ := DataW.trod_struct Try.underlying65 h
  obtain ⟨c0, c1, c2, c3, c4, c5, c6, rfl⟩ := len7 (hl.trans cells_65)
  obtain ⟨y0, k0⟩ := fld hx hf 0 _ rfl (t := 25) (o := 0) (sz := 4) rfl rfl cells_25
  obtain ⟨d0, r0, g0⟩ := op_25.op k0
  obtain ⟨y1, k1⟩ := fld hx hf 1 _ rfl (t := 3) (o := 4) (sz := 1) rfl rfl cells_3
  obtain ⟨d1, r1, g1⟩ := op_3.op k1
  obtain ⟨y2, k2⟩ := fld hx hf 2 _ rfl (t := 23) (o := 5) (sz := 1) rfl rfl cells_23
  obtain ⟨d2, r2, g2⟩ := op_23.op k2
  obtain ⟨y3, k3⟩ := fld hx hf 3 _ rfl (t := 23) (o := 6) (sz := 1) rfl rfl cells_23
  obtain ⟨d3, r3, g3⟩ := op_23.op k3
  exact ⟨(d0, d1, d2, d3), ⟨[c0, c1, c2, c3], [c4, c5, c6], rfl, r0, ⟨[c4], [c5, c6], rfl, r1, ⟨[c5], [c6], rfl, r2, r3⟩⟩⟩, ⟨g0, g1, g2, g3⟩⟩⟩
end
end Go.Proofs.Ytmbhdelegdhieaa
