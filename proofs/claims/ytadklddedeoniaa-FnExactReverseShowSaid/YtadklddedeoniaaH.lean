/-
  THE TYPES of this seat, by program (gen.py).
-/
import Derived.Test.YtadklddedeoniaaCore8
import Derived.Test.YtadklddedeoniaaF
set_option linter.unusedSimpArgs false
set_option linter.unusedVariables false
set_option maxRecDepth 100000
namespace Go.Proofs.Ytadklddedeoniaa
open Go Go.RowKit
noncomputable section
theorem mixed_ : Try.prog.follows .mixedOrders = true := by kernel_rfl
theorem tf_3 : TF Try.prog 3 1 false (.int .i64 0) := ⟨Try.sizeOf3, Try.isAgg3, Try.zeroValue3, by decide, by decide⟩
theorem tf_5 : TF Try.prog 5 1 false (.int .u8 0) := ⟨Try.sizeOf5, Try.isAgg5, Try.zeroValue5, by decide, by decide⟩
theorem tf_9 : TF Try.prog 9 1 false (.string .empty) := ⟨Try.sizeOf9, Try.isAgg9, Try.zeroValue9, by decide, by decide⟩
theorem tf_22 : TF Try.prog 22 1 false (.slice none 0 0) := ⟨Try.sizeOf22, Try.isAgg22, Try.zeroValue22, by decide, by decide⟩
theorem tf_23 : TF Try.prog 23 1 false (.slice none 0 0) := ⟨Try.sizeOf23, Try.isAgg23, Try.zeroValue23, by decide, by decide⟩
theorem tf_25 : TF Try.prog 25 4 true (.agg #[(.slice none 0 0), (.slice none 0 0), (.int .i64 0), (.int .i64 0)]) := ⟨Try.sizeOf25, Try.isAgg25, Try.zeroValue25, by decide, by decide⟩
theorem tf_29 : TF Try.prog 29 1 false (.slice none 0 0) := ⟨Try.sizeOf29, Try.isAgg29, Try.zeroValue29, by decide, by decide⟩
theorem tf_31 : TF Try.prog 31 4 true (.agg #[(.slice none 0 0), (.slice none 0 0), (.int .i64 0), (.int .i64 0)]) := ⟨Try.sizeOf31, Try.isAgg31, Try.zeroValue31, by decide, by decide⟩
theorem tf_40 : TF Try.prog 40 1 false (.slice none 0 0) := ⟨Try.sizeOf40, Try.isAgg40, Try.zeroValue40, by decide, by decide⟩
theorem tf_41 : TF Try.prog 41 1 false (.slice none 0 0) := ⟨Try.sizeOf41, Try.isAgg41, Try.zeroValue41, by decide, by decide⟩
theorem tf_55 : TF Try.prog 55 7 true (.agg #[(.slice none 0 0), (.slice none 0 0), (.int .i64 0), (.int .i64 0), (.int .i64 0), (.slice none 0 0), (.slice none 0 0)]) := ⟨Try.sizeOf55, Try.isAgg55, Try.zeroValue55, by decide, by decide⟩
theorem tf_60 : TF Try.prog 60 7 true (.agg #[(.slice none 0 0), (.slice none 0 0), (.int .i64 0), (.int .i64 0), (.int .i64 0), (.slice none 0 0), (.slice none 0 0)]) := ⟨Try.sizeOf60, Try.isAgg60, Try.zeroValue60, by decide, by decide⟩
theorem tf_66 : TF Try.prog 66 1 false (.slice none 0 0) := ⟨Try.sizeOf66, Try.isAgg66, Try.zeroValue66, by decide, by decide⟩
theorem tf_69 : TF Try.prog 69 1 false (.slice none 0 0) := ⟨Try.sizeOf69, Try.isAgg69, Try.zeroValue69, by decide, by decide⟩
theorem tf_97 : TF Try.prog 97 2 true (.agg #[(.int .i64 0), (.string .empty)]) := ⟨Try.sizeOf97, Try.isAgg97, Try.zeroValue97, by decide, by decide⟩
theorem tf_102 : TF Try.prog 102 2 true (.agg #[(.int .i64 0), (.int .i64 0)]) := ⟨Try.sizeOf102, Try.isAgg102, Try.zeroValue102, by decide, by decide⟩
theorem tf_104 : TF Try.prog 104 2 true (.agg #[(.int .i64 0), (.int .i64 0)]) := ⟨Try.sizeOf104, Try.isAgg104, Try.zeroValue104, by decide, by decide⟩
theorem tf_105 : TF Try.prog 105 2 true (.agg #[(.int .i64 0), (.string .empty)]) := ⟨Try.sizeOf105, Try.isAgg105, Try.zeroValue105, by decide, by decide⟩
theorem tf_116 : TF Try.prog 116 2 true (.agg #[(.int .i64 0), (.int .i64 0)]) := ⟨Try.sizeOf116, Try.isAgg116, Try.zeroValue116, by decide, by decide⟩
theorem tf_118 : TF Try.prog 118 2 true (.agg #[(.int .i64 0), (.int .i64 0)]) := ⟨Try.sizeOf118, Try.isAgg118, Try.zeroValue118, by decide, by decide⟩
theorem tf_123 : TF Try.prog 123 5 true (.agg #[(.int .i64 0), (.int .i64 0), (.int .i64 0), (.int .i64 0), (.int .i64 0)]) := ⟨Try.sizeOf123, Try.isAgg123, Try.zeroValue123, by decide, by decide⟩
def enc_3 (x : Int) : List Value := [(.int .i64 x)]
def ty_3 : Ty Try.prog Int := { Sh.flat enc_3 1 0 (fun _ => rfl) (fun x => Ones.all (vs := enc_3 x) ⟨rfl, trivial⟩) with tid := 3, bts := 8, agg := false, sz_pos := by decide, bts_le := by decide, info := ⟨_, _, Try.type3, rfl, rfl, rfl, rfl⟩, und := ⟨_, Try.underlying3, rfl⟩, one1 := by decide }
theorem fl_3 : Flat ty_3 enc_3 := ⟨fun h => h, fun _ _ => ⟨rfl, rfl⟩, fun h => h.1⟩
def enc_5 (x : Int) : List Value := [(.int .u8 x)]
def ty_5 : Ty Try.prog Int := { Sh.flat enc_5 1 0 (fun _ => rfl) (fun x => Ones.all (vs := enc_5 x) ⟨rfl, trivial⟩) with tid := 5, bts := 1, agg := false, sz_pos := by decide, bts_le := by decide, info := ⟨_, _, Try.type5, rfl, rfl, rfl, rfl⟩, und := ⟨_, Try.underlying5, rfl⟩, one1 := by decide }
theorem fl_5 : Flat ty_5 enc_5 := ⟨fun h => h, fun _ _ => ⟨rfl, rfl⟩, fun h => h.1⟩
def enc_9 (x : (List UInt8)) : List Value := [(.string (mkS x))]
def ty_9 : Ty Try.prog (List UInt8) := { Sh.flat enc_9 1 [] (fun _ => rfl) (fun x => Ones.all (vs := enc_9 x) ⟨rfl, trivial⟩) with tid := 9, bts := 16, agg := false, sz_pos := by decide, bts_le := by decide, info := ⟨_, _, Try.type9, rfl, rfl, rfl, rfl⟩, und := ⟨_, Try.underlying9, rfl⟩, one1 := by decide }
theorem fl_9 : Flat ty_9 enc_9 := ⟨fun h => h, fun _ _ => ⟨rfl, rfl⟩, fun h => h.1⟩
def enc_118 (x : (Int × Int)) : List Value := [(.int .i64 x.1), (.int .i64 x.2)]
def ty_118 : Ty Try.prog (Int × Int) := { Sh.flat enc_118 2 (0, 0) (fun _ => rfl) (fun x => Ones.all (vs := enc_118 x) ⟨rfl, rfl, trivial⟩) with tid := 118, bts := 16, agg := true, sz_pos := by decide, bts_le := by decide, info := ⟨_, _, Try.type118, rfl, rfl, rfl, rfl⟩, und := ⟨_, Try.underlying118, rfl⟩, one1 := by decide }
theorem fl_118 : Flat ty_118 enc_118 := ⟨fun h => h, fun _ _ => ⟨rfl, rfl⟩, fun h => h.1⟩
def ty_66 : Ty Try.prog (List (Int × Int)) := { Sh.slice ty_118 with tid := 66, bts := 24, agg := false, sz_pos := by decide, bts_le := by decide, info := ⟨_, _, Try.type66, rfl, rfl, rfl, rfl⟩, und := ⟨_, Try.underlying66, rfl⟩, one1 := by decide }
def ty_22 : Ty Try.prog (List (List (Int × Int))) := { Sh.slice ty_66 with tid := 22, bts := 24, agg := false, sz_pos := by decide, bts_le := by decide, info := ⟨_, _, Try.type22, rfl, rfl, rfl, rfl⟩, und := ⟨_, Try.underlying22, rfl⟩, one1 := by decide }
def ty_23 : Ty Try.prog (List Int) := { Sh.slice ty_3 with tid := 23, bts := 24, agg := false, sz_pos := by decide, bts_le := by decide, info := ⟨_, _, Try.type23, rfl, rfl, rfl, rfl⟩, und := ⟨_, Try.underlying23, rfl⟩, one1 := by decide }
def ty_25 : Ty Try.prog ((List (List (Int × Int))) × (List Int) × Int × Int) := { (Sh.prod ty_22.toSh (Sh.prod ty_23.toSh (Sh.prod ty_3.toSh ty_3.toSh))) with tid := 25, bts := 64, agg := true, sz_pos := by decide, bts_le := by decide, info := ⟨_, _, Try.type25, rfl, rfl, rfl, rfl⟩, und := ⟨_, Try.underlying25, rfl⟩, one1 := by decide }
def enc_104 (x : (Int × Int)) : List Value := [(.int .i64 x.1), (.int .i64 x.2)]
def ty_104 : Ty Try.prog (Int × Int) := { Sh.flat enc_104 2 (0, 0) (fun _ => rfl) (fun x => Ones.all (vs := enc_104 x) ⟨rfl, rfl, trivial⟩) with tid := 104, bts := 16, agg := true, sz_pos := by decide, bts_le := by decide, info := ⟨_, _, Try.type104, rfl, rfl, rfl, rfl⟩, und := ⟨_, Try.underlying104, rfl⟩, one1 := by decide }
theorem fl_104 : Flat ty_104 enc_104 := ⟨fun h => h, fun _ _ => ⟨rfl, rfl⟩, fun h => h.1⟩
def ty_40 : Ty Try.prog (List (Int × Int)) := { Sh.slice ty_104 with tid := 40, bts := 24, agg := false, sz_pos := by decide, bts_le := by decide, info := ⟨_, _, Try.type40, rfl, rfl, rfl, rfl⟩, und := ⟨_, Try.underlying40, rfl⟩, one1 := by decide }
def enc_97 (x : (Int × (List UInt8))) : List Value := [(.int .i64 x.1), (.string (mkS x.2))]
def ty_97 : Ty Try.prog (Int × (List UInt8)) := { Sh.flat enc_97 2 (0, []) (fun _ => rfl) (fun x => Ones.all (vs := enc_97 x) ⟨rfl, rfl, trivial⟩) with tid := 97, bts := 24, agg := true, sz_pos := by decide, bts_le := by decide, info := ⟨_, _, Try.type97, rfl, rfl, rfl, rfl⟩, und := ⟨_, Try.underlying97, rfl⟩, one1 := by decide }
theorem fl_97 : Flat ty_97 enc_97 := ⟨fun h => h, fun _ _ => ⟨rfl, rfl⟩, fun h => h.1⟩
def ty_41 : Ty Try.prog (List (Int × (List UInt8))) := { Sh.slice ty_97 with tid := 41, bts := 24, agg := false, sz_pos := by decide, bts_le := by decide, info := ⟨_, _, Try.type41, rfl, rfl, rfl, rfl⟩, und := ⟨_, Try.underlying41, rfl⟩, one1 := by decide }
def ty_55 : Ty Try.prog (((List (List (Int × Int))) × (List Int) × Int × Int) × Int × (List Int) × (List Int)) := { (Sh.prod ty_25.toSh (Sh.prod ty_3.toSh (Sh.prod ty_23.toSh ty_23.toSh))) with tid := 55, bts := 120, agg := true, sz_pos := by decide, bts_le := by decide, info := ⟨_, _, Try.type55, rfl, rfl, rfl, rfl⟩, und := ⟨_, Try.underlying55, rfl⟩, one1 := by decide }
def enc_116 (x : (Int × Int)) : List Value := [(.int .i64 x.1), (.int .i64 x.2)]
def ty_116 : Ty Try.prog (Int × Int) := { Sh.flat enc_116 2 (0, 0) (fun _ => rfl) (fun x => Ones.all (vs := enc_116 x) ⟨rfl, rfl, trivial⟩) with tid := 116, bts := 16, agg := true, sz_pos := by decide, bts_le := by decide, info := ⟨_, _, Try.type116, rfl, rfl, rfl, rfl⟩, und := ⟨_, Try.underlying116, rfl⟩, one1 := by decide }
theorem fl_116 : Flat ty_116 enc_116 := ⟨fun h => h, fun _ _ => ⟨rfl, rfl⟩, fun h => h.1⟩
def ty_69 : Ty Try.prog (List (Int × Int)) := { Sh.slice ty_116 with tid := 69, bts := 24, agg := false, sz_pos := by decide, bts_le := by decide, info := ⟨_, _, Try.type69, rfl, rfl, rfl, rfl⟩, und := ⟨_, Try.underlying69, rfl⟩, one1 := by decide }
def enc_102 (x : (Int × Int)) : List Value := [(.int .i64 x.1), (.int .i64 x.2)]
def ty_102 : Ty Try.prog (Int × Int) := { Sh.flat enc_102 2 (0, 0) (fun _ => rfl) (fun x => Ones.all (vs := enc_102 x) ⟨rfl, rfl, trivial⟩) with tid := 102, bts := 16, agg := true, sz_pos := by decide, bts_le := by decide, info := ⟨_, _, Try.type102, rfl, rfl, rfl, rfl⟩, und := ⟨_, Try.underlying102, rfl⟩, one1 := by decide }
theorem fl_102 : Flat ty_102 enc_102 := ⟨fun h => h, fun _ _ => ⟨rfl, rfl⟩, fun h => h.1⟩
def enc_105 (x : (Int × (List UInt8))) : List Value := [(.int .i64 x.1), (.string (mkS x.2))]
def ty_105 : Ty Try.prog (Int × (List UInt8)) := { Sh.flat enc_105 2 (0, []) (fun _ => rfl) (fun x => Ones.all (vs := enc_105 x) ⟨rfl, rfl, trivial⟩) with tid := 105, bts := 24, agg := true, sz_pos := by decide, bts_le := by decide, info := ⟨_, _, Try.type105, rfl, rfl, rfl, rfl⟩, und := ⟨_, Try.underlying105, rfl⟩, one1 := by decide }
theorem fl_105 : Flat ty_105 enc_105 := ⟨fun h => h, fun _ _ => ⟨rfl, rfl⟩, fun h => h.1⟩
def enc_123 (x : ((Int × Int) × (Int × Int) × Int)) : List Value := [(.int .i64 x.1.1), (.int .i64 x.1.2), (.int .i64 x.2.1.1), (.int .i64 x.2.1.2), (.int .i64 x.2.2)]
def ty_123 : Ty Try.prog ((Int × Int) × (Int × Int) × Int) := { Sh.flat enc_123 5 ((0, 0), (0, 0), 0) (fun _ => rfl) (fun x => Ones.all (vs := enc_123 x) ⟨rfl, rfl, rfl, rfl, rfl, trivial⟩) with tid := 123, bts := 40, agg := true, sz_pos := by decide, bts_le := by decide, info := ⟨_, _, Try.type123, rfl, rfl, rfl, rfl⟩, und := ⟨_, Try.underlying123, rfl⟩, one1 := by decide }
theorem fl_123 : Flat ty_123 enc_123 := ⟨fun h => h, fun _ _ => ⟨rfl, rfl⟩, fun h => h.1⟩
def ty_69raw : Ty Try.prog RawCell := { Sh.flat encR 1 ⟨.slice none 0 0, rfl⟩ (fun _ => rfl) (fun x => Ones.all (vs := encR x) ⟨x.2, trivial⟩) with tid := 69, bts := 24, agg := false, sz_pos := by decide, bts_le := by decide, info := ⟨_, _, Try.type69, rfl, rfl, rfl, rfl⟩, und := ⟨_, Try.underlying69, rfl⟩, one1 := by decide }
theorem fl_69raw : Flat ty_69raw encR := ⟨fun h => h, fun _ _ => ⟨rfl, rfl⟩, fun h => h.1⟩
theorem ff_25_0 : FFb Try.prog 25 0 0 = true := by kernel_rfl
theorem ff_25_1 : FFb Try.prog 25 1 1 = true := by kernel_rfl
theorem ff_25_2 : FFb Try.prog 25 2 2 = true := by kernel_rfl
theorem ff_25_3 : FFb Try.prog 25 3 3 = true := by kernel_rfl
theorem ff_31_0 : FFb Try.prog 31 0 0 = true := by kernel_rfl
theorem ff_31_1 : FFb Try.prog 31 1 1 = true := by kernel_rfl
theorem ff_31_2 : FFb Try.prog 31 2 2 = true := by kernel_rfl
theorem ff_31_3 : FFb Try.prog 31 3 3 = true := by kernel_rfl
theorem ff_55_0 : FFb Try.prog 55 0 0 = true := by kernel_rfl
theorem ff_55_1 : FFb Try.prog 55 1 4 = true := by kernel_rfl
theorem ff_55_2 : FFb Try.prog 55 2 5 = true := by kernel_rfl
theorem ff_55_3 : FFb Try.prog 55 3 6 = true := by kernel_rfl
theorem ff_60_0 : FFb Try.prog 60 0 0 = true := by kernel_rfl
theorem ff_60_1 : FFb Try.prog 60 1 4 = true := by kernel_rfl
theorem ff_60_2 : FFb Try.prog 60 2 5 = true := by kernel_rfl
theorem ff_60_3 : FFb Try.prog 60 3 6 = true := by kernel_rfl
theorem ff_97_0 : FFb Try.prog 97 0 0 = true := by kernel_rfl
theorem ff_97_1 : FFb Try.prog 97 1 1 = true := by kernel_rfl
theorem ff_102_0 : FFb Try.prog 102 0 0 = true := by kernel_rfl
theorem ff_102_1 : FFb Try.prog 102 1 1 = true := by kernel_rfl
theorem ff_104_0 : FFb Try.prog 104 0 0 = true := by kernel_rfl
theorem ff_104_1 : FFb Try.prog 104 1 1 = true := by kernel_rfl
theorem ff_105_0 : FFb Try.prog 105 0 0 = true := by kernel_rfl
theorem ff_105_1 : FFb Try.prog 105 1 1 = true := by kernel_rfl
theorem ff_116_0 : FFb Try.prog 116 0 0 = true := by kernel_rfl
theorem ff_116_1 : FFb Try.prog 116 1 1 = true := by kernel_rfl
theorem ff_118_0 : FFb Try.prog 118 0 0 = true := by kernel_rfl
theorem ff_118_1 : FFb Try.prog 118 1 1 = true := by kernel_rfl
theorem ff_123_0 : FFb Try.prog 123 0 0 = true := by kernel_rfl
theorem ff_123_1 : FFb Try.prog 123 1 2 = true := by kernel_rfl
theorem ff_123_2 : FFb Try.prog 123 2 4 = true := by kernel_rfl
theorem pl_31 : placesB Try.prog 31 [(0, 1), (1, 1), (2, 1), (3, 1)] = true := by kernel_rfl
theorem pl_60 : placesB Try.prog 60 [(0, 4), (4, 1), (5, 1), (6, 1)] = true := by kernel_rfl
theorem pl_123 : placesB Try.prog 123 [(0, 2), (2, 2), (4, 1)] = true := by kernel_rfl
theorem eq_116 (x y : (Int × Int)) (w : World) : (Op.equalIn 10000 116 (.agg #[(.int .i64 x.1), (.int .i64 x.2)]) (.agg #[(.int .i64 y.1), (.int .i64 y.2)])).run Try.prog w = .ok (eqv_Spot x y) w := by
  go_simp
  by_cases h0 : x.1 = y.1 <;> by_cases h1 : x.2 = y.2 <;> simp [eqv_Spot, h0, h1]
theorem cells_25 : Try.prog.cellsOf 25 = 4 := by kernel_rfl
theorem cells_22 : Try.prog.cellsOf 22 = 1 := by kernel_rfl
theorem cells_66 : Try.prog.cellsOf 66 = 1 := by kernel_rfl
theorem cells_118 : Try.prog.cellsOf 118 = 2 := by kernel_rfl
theorem cells_3 : Try.prog.cellsOf 3 = 1 := by kernel_rfl
theorem op_3 : Opn Try.prog 3 ty_3.rd inI64 := opn_i64 Try.underlying3
theorem op_118 : Opn Try.prog 118 ty_118.rd G_Spot := ⟨fun h => by
  obtain ⟨xs, n, -, -, hl, hx, hf⟩ := DataW.trod_struct Try.underlying118 h
  obtain ⟨c0, c1, rfl⟩ := len2 (hl.trans cells_118)
  obtain ⟨y0, k0⟩ := fld hx hf 0 _ rfl (t := 3) (o := 0) (sz := 1) rfl rfl cells_3
  obtain ⟨d0, r0, g0⟩ := op_3.op k0
  obtain ⟨y1, k1⟩ := fld hx hf 1 _ rfl (t := 3) (o := 1) (sz := 1) rfl rfl cells_3
  obtain ⟨d1, r1, g1⟩ := op_3.op k1
  replace r0 : [c0] = enc_3 d0 := r0
  replace r1 : [c1] = enc_3 d1 := r1
  simp only [enc_3, List.cons.injEq, and_true] at r0
  simp only [enc_3, List.cons.injEq, and_true] at r1
  obtain rfl := r0
  obtain rfl := r1
  exact ⟨(d0, d1), rfl, ⟨g0, g1⟩⟩⟩
theorem op_66 : Opn Try.prog 66 ty_66.rd (allG G_Spot) := opn_slice Try.underlying66 cells_118 op_118
theorem op_22 : Opn Try.prog 22 ty_22.rd (allG (allG G_Spot)) := opn_slice Try.underlying22 cells_66 op_66
theorem cells_23 : Try.prog.cellsOf 23 = 1 := by kernel_rfl
theorem op_23 : Opn Try.prog 23 ty_23.rd (allG inI64) := opn_slice Try.underlying23 cells_3 op_3
theorem op_25 : Opn Try.prog 25 ty_25.rd G_Show := ⟨fun h => by
  obtain ⟨xs, n, -, -, hl, hx, hf⟩ := DataW.trod_struct Try.underlying25 h
  obtain ⟨c0, c1, c2, c3, rfl⟩ := len4 (hl.trans cells_25)
  obtain ⟨y0, k0⟩ := fld hx hf 0 _ rfl (t := 22) (o := 0) (sz := 1) rfl rfl cells_22
  obtain ⟨d0, r0, g0⟩ := op_22.op k0
  obtain ⟨y1, k1⟩ := fld hx hf 1 _ rfl (t := 23) (o := 1) (sz := 1) rfl rfl cells_23
  obtain ⟨d1, r1, g1⟩ := op_23.op k1
  obtain ⟨y2, k2⟩ := fld hx hf 2 _ rfl (t := 3) (o := 2) (sz := 1) rfl rfl cells_3
  obtain ⟨d2, r2, g2⟩ := op_3.op k2
  obtain ⟨y3, k3⟩ := fld hx hf 3 _ rfl (t := 3) (o := 3) (sz := 1) rfl rfl cells_3
  obtain ⟨d3, r3, g3⟩ := op_3.op k3
  exact ⟨(d0, d1, d2, d3), ⟨[c0], [c1, c2, c3], rfl, r0, ⟨[c1], [c2, c3], rfl, r1, ⟨[c2], [c3], rfl, r2, r3⟩⟩⟩, ⟨g0, g1, g2, g3⟩⟩⟩
theorem cells_40 : Try.prog.cellsOf 40 = 1 := by kernel_rfl
theorem cells_104 : Try.prog.cellsOf 104 = 2 := by kernel_rfl
theorem op_104 : Opn Try.prog 104 ty_104.rd G_Measure := ⟨fun h => by
  obtain ⟨xs, n, -, -, hl, hx, hf⟩ := DataW.trod_struct Try.underlying104 h
  obtain ⟨c0, c1, rfl⟩ := len2 (hl.trans cells_104)
  obtain ⟨y0, k0⟩ := fld hx hf 0 _ rfl (t := 3) (o := 0) (sz := 1) rfl rfl cells_3
  obtain ⟨d0, r0, g0⟩ := op_3.op k0
  obtain ⟨y1, k1⟩ := fld hx hf 1 _ rfl (t := 3) (o := 1) (sz := 1) rfl rfl cells_3
  obtain ⟨d1, r1, g1⟩ := op_3.op k1
  replace r0 : [c0] = enc_3 d0 := r0
  replace r1 : [c1] = enc_3 d1 := r1
  simp only [enc_3, List.cons.injEq, and_true] at r0
  simp only [enc_3, List.cons.injEq, and_true] at r1
  obtain rfl := r0
  obtain rfl := r1
  exact ⟨(d0, d1), rfl, ⟨g0, g1⟩⟩⟩
theorem op_40 : Opn Try.prog 40 ty_40.rd (allG G_Measure) := opn_slice Try.underlying40 cells_104 op_104
theorem cells_41 : Try.prog.cellsOf 41 = 1 := by kernel_rfl
theorem cells_97 : Try.prog.cellsOf 97 = 2 := by kernel_rfl
theorem cells_9 : Try.prog.cellsOf 9 = 1 := by kernel_rfl
theorem op_9 : Opn Try.prog 9 ty_9.rd (allG anyG) := opn_string Try.underlying9
theorem op_97 : Opn Try.prog 97 ty_97.rd G_Cue := ⟨fun h => by
  obtain ⟨xs, n, -, -, hl, hx, hf⟩ := DataW.trod_struct Try.underlying97 h
  obtain ⟨c0, c1, rfl⟩ := len2 (hl.trans cells_97)
  obtain ⟨y0, k0⟩ := fld hx hf 0 _ rfl (t := 3) (o := 0) (sz := 1) rfl rfl cells_3
  obtain ⟨d0, r0, g0⟩ := op_3.op k0
  obtain ⟨y1, k1⟩ := fld hx hf 1 _ rfl (t := 9) (o := 1) (sz := 1) rfl rfl cells_9
  obtain ⟨d1, r1, g1⟩ := op_9.op k1
  replace r0 : [c0] = enc_3 d0 := r0
  replace r1 : [c1] = enc_9 d1 := r1
  simp only [enc_3, List.cons.injEq, and_true] at r0
  simp only [enc_9, List.cons.injEq, and_true] at r1
  obtain rfl := r0
  obtain rfl := r1
  exact ⟨(d0, d1), rfl, ⟨g0, g1⟩⟩⟩
theorem op_41 : Opn Try.prog 41 ty_41.rd (allG G_Cue) := opn_slice Try.underlying41 cells_97 op_97
theorem cells_55 : Try.prog.cellsOf 55 = 7 := by kernel_rfl
theorem op_55 : Opn Try.prog 55 ty_55.rd G_March := ⟨fun h => by
  obtain ⟨xs, n, -, -, hl, hx, hf⟩ := DataW.trod_struct Try.underlying55 h
  obtain ⟨c0, c1, c2, c3, c4, c5, c6, rfl⟩ := len7 (hl.trans cells_55)
  obtain ⟨y0, k0⟩ := fld hx hf 0 _ rfl (t := 25) (o := 0) (sz := 4) rfl rfl cells_25
  obtain ⟨d0, r0, g0⟩ := op_25.op k0
  obtain ⟨y1, k1⟩ := fld hx hf 1 _ rfl (t := 3) (o := 4) (sz := 1) rfl rfl cells_3
  obtain ⟨d1, r1, g1⟩ := op_3.op k1
  obtain ⟨y2, k2⟩ := fld hx hf 2 _ rfl (t := 23) (o := 5) (sz := 1) rfl rfl cells_23
  obtain ⟨d2, r2, g2⟩ := op_23.op k2
  obtain ⟨y3, k3⟩ := fld hx hf 3 _ rfl (t := 23) (o := 6) (sz := 1) rfl rfl cells_23
  obtain ⟨d3, r3, g3⟩ := op_23.op k3
  exact ⟨(d0, d1, d2, d3), ⟨[c0, c1, c2, c3], [c4, c5, c6], rfl, r0, ⟨[c4], [c5, c6], rfl, r1, ⟨[c5], [c6], rfl, r2, r3⟩⟩⟩, ⟨g0, g1, g2, g3⟩⟩⟩
end
end Go.Proofs.Ytadklddedeoniaa
