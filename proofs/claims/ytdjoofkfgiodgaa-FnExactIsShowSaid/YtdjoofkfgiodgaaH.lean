/-
  THE TYPES of this seat, by program (gen.py).
-/
import Derived.Test.YtdjoofkfgiodgaaCore8
import Derived.Test.YtdjoofkfgiodgaaF
set_option linter.unusedSimpArgs false
set_option linter.unusedVariables false
set_option maxRecDepth 100000
namespace Go.Proofs.Ytdjoofkfgiodgaa
open Go Go.RowKit
noncomputable section
theorem mixed_ : Try.prog.follows .mixedOrders = true := by kernel_rfl
theorem tf_3 : TF Try.prog 3 1 false (.int .i64 0) := ⟨Try.sizeOf3, Try.isAgg3, Try.zeroValue3, by decide, by decide⟩
theorem tf_22 : TF Try.prog 22 1 false (.slice none 0 0) := ⟨Try.sizeOf22, Try.isAgg22, Try.zeroValue22, by decide, by decide⟩
theorem tf_23 : TF Try.prog 23 1 false (.slice none 0 0) := ⟨Try.sizeOf23, Try.isAgg23, Try.zeroValue23, by decide, by decide⟩
theorem tf_25 : TF Try.prog 25 4 true (.agg #[(.slice none 0 0), (.slice none 0 0), (.int .i64 0), (.int .i64 0)]) := ⟨Try.sizeOf25, Try.isAgg25, Try.zeroValue25, by decide, by decide⟩
theorem tf_28 : TF Try.prog 28 1 false (.slice none 0 0) := ⟨Try.sizeOf28, Try.isAgg28, Try.zeroValue28, by decide, by decide⟩
theorem tf_30 : TF Try.prog 30 4 true (.agg #[(.slice none 0 0), (.slice none 0 0), (.int .i64 0), (.int .i64 0)]) := ⟨Try.sizeOf30, Try.isAgg30, Try.zeroValue30, by decide, by decide⟩
theorem tf_44 : TF Try.prog 44 1 false (.slice none 0 0) := ⟨Try.sizeOf44, Try.isAgg44, Try.zeroValue44, by decide, by decide⟩
theorem tf_45 : TF Try.prog 45 1 false (.slice none 0 0) := ⟨Try.sizeOf45, Try.isAgg45, Try.zeroValue45, by decide, by decide⟩
theorem tf_51 : TF Try.prog 51 2 true (.agg #[(.int .i64 0), (.int .i64 0)]) := ⟨Try.sizeOf51, Try.isAgg51, Try.zeroValue51, by decide, by decide⟩
theorem tf_54 : TF Try.prog 54 2 true (.agg #[(.int .i64 0), (.int .i64 0)]) := ⟨Try.sizeOf54, Try.isAgg54, Try.zeroValue54, by decide, by decide⟩
def enc_3 (x : Int) : List Value := [(.int .i64 x)]
def ty_3 : Ty Try.prog Int := { Sh.flat enc_3 1 0 (fun _ => rfl) (fun x => Ones.all (vs := enc_3 x) ⟨rfl, trivial⟩) with tid := 3, bts := 8, agg := false, sz_pos := by decide, bts_le := by decide, info := ⟨_, _, Try.type3, rfl, rfl, rfl, rfl⟩, und := ⟨_, Try.underlying3, rfl⟩, one1 := by decide }
theorem fl_3 : Flat ty_3 enc_3 := ⟨fun h => h, fun _ _ => ⟨rfl, rfl⟩, fun h => h.1⟩
def enc_54 (x : (Int × Int)) : List Value := [(.int .i64 x.1), (.int .i64 x.2)]
def ty_54 : Ty Try.prog (Int × Int) := { Sh.flat enc_54 2 (0, 0) (fun _ => rfl) (fun x => Ones.all (vs := enc_54 x) ⟨rfl, rfl, trivial⟩) with tid := 54, bts := 16, agg := true, sz_pos := by decide, bts_le := by decide, info := ⟨_, _, Try.type54, rfl, rfl, rfl, rfl⟩, und := ⟨_, Try.underlying54, rfl⟩, one1 := by decide }
theorem fl_54 : Flat ty_54 enc_54 := ⟨fun h => h, fun _ _ => ⟨rfl, rfl⟩, fun h => h.1⟩
def ty_44 : Ty Try.prog (List (Int × Int)) := { Sh.slice ty_54 with tid := 44, bts := 24, agg := false, sz_pos := by decide, bts_le := by decide, info := ⟨_, _, Try.type44, rfl, rfl, rfl, rfl⟩, und := ⟨_, Try.underlying44, rfl⟩, one1 := by decide }
def ty_22 : Ty Try.prog (List (List (Int × Int))) := { Sh.slice ty_44 with tid := 22, bts := 24, agg := false, sz_pos := by decide, bts_le := by decide, info := ⟨_, _, Try.type22, rfl, rfl, rfl, rfl⟩, und := ⟨_, Try.underlying22, rfl⟩, one1 := by decide }
def ty_23 : Ty Try.prog (List Int) := { Sh.slice ty_3 with tid := 23, bts := 24, agg := false, sz_pos := by decide, bts_le := by decide, info := ⟨_, _, Try.type23, rfl, rfl, rfl, rfl⟩, und := ⟨_, Try.underlying23, rfl⟩, one1 := by decide }
def ty_25 : Ty Try.prog ((List (List (Int × Int))) × (List Int) × Int × Int) := { (Sh.prod ty_22.toSh (Sh.prod ty_23.toSh (Sh.prod ty_3.toSh ty_3.toSh))) with tid := 25, bts := 64, agg := true, sz_pos := by decide, bts_le := by decide, info := ⟨_, _, Try.type25, rfl, rfl, rfl, rfl⟩, und := ⟨_, Try.underlying25, rfl⟩, one1 := by decide }
def enc_51 (x : (Int × Int)) : List Value := [(.int .i64 x.1), (.int .i64 x.2)]
def ty_51 : Ty Try.prog (Int × Int) := { Sh.flat enc_51 2 (0, 0) (fun _ => rfl) (fun x => Ones.all (vs := enc_51 x) ⟨rfl, rfl, trivial⟩) with tid := 51, bts := 16, agg := true, sz_pos := by decide, bts_le := by decide, info := ⟨_, _, Try.type51, rfl, rfl, rfl, rfl⟩, und := ⟨_, Try.underlying51, rfl⟩, one1 := by decide }
theorem fl_51 : Flat ty_51 enc_51 := ⟨fun h => h, fun _ _ => ⟨rfl, rfl⟩, fun h => h.1⟩
def ty_45 : Ty Try.prog (List (Int × Int)) := { Sh.slice ty_51 with tid := 45, bts := 24, agg := false, sz_pos := by decide, bts_le := by decide, info := ⟨_, _, Try.type45, rfl, rfl, rfl, rfl⟩, und := ⟨_, Try.underlying45, rfl⟩, one1 := by decide }
theorem ff_25_0 : FFb Try.prog 25 0 0 = true := by kernel_rfl
theorem ff_25_1 : FFb Try.prog 25 1 1 = true := by kernel_rfl
theorem ff_25_2 : FFb Try.prog 25 2 2 = true := by kernel_rfl
theorem ff_25_3 : FFb Try.prog 25 3 3 = true := by kernel_rfl
theorem ff_30_0 : FFb Try.prog 30 0 0 = true := by kernel_rfl
theorem ff_30_1 : FFb Try.prog 30 1 1 = true := by kernel_rfl
theorem ff_30_2 : FFb Try.prog 30 2 2 = true := by kernel_rfl
theorem ff_30_3 : FFb Try.prog 30 3 3 = true := by kernel_rfl
theorem ff_51_0 : FFb Try.prog 51 0 0 = true := by kernel_rfl
theorem ff_51_1 : FFb Try.prog 51 1 1 = true := by kernel_rfl
theorem ff_54_0 : FFb Try.prog 54 0 0 = true := by kernel_rfl
theorem ff_54_1 : FFb Try.prog 54 1 1 = true := by kernel_rfl
theorem eq_51 (x y : (Int × Int)) (w : World) : (Op.equalIn 10000 51 (.agg #[(.int .i64 x.1), (.int .i64 x.2)]) (.agg #[(.int .i64 y.1), (.int .i64 y.2)])).run Try.prog w = .ok (eqv_Spot x y) w := by
  go_simp
  by_cases h0 : x.1 = y.1 <;> by_cases h1 : x.2 = y.2 <;> simp [eqv_Spot, h0, h1]
theorem cells_25 : Try.prog.cellsOf 25 = 4 := by kernel_rfl
theorem cells_22 : Try.prog.cellsOf 22 = 1 := by kernel_rfl
theorem cells_44 : Try.prog.cellsOf 44 = 1 := by kernel_rfl
theorem cells_54 : Try.prog.cellsOf 54 = 2 := by kernel_rfl
theorem cells_3 : Try.prog.cellsOf 3 = 1 := by kernel_rfl
theorem op_3 : Opn Try.prog 3 ty_3.rd inI64 := opn_i64 Try.underlying3
theorem op_54 : Opn Try.prog 54 ty_54.rd G_Spot := ⟨fun h => by
  obtain ⟨xs, n, -, -, hl, hx, hf⟩ := DataW.trod_struct Try.underlying54 h
  obtain ⟨c0, c1, rfl⟩ := len2 (hl.trans cells_54)
  obtain ⟨y0, k0⟩ := fld hx hf 0 _ rfl (t := 3) (o := 0) (sz := 1) rfl rfl cells_3
  obtain ⟨d0, r0, g0⟩ := op_3.op k0
  obtain ⟨y1, k1⟩ := fld hx hf 1 _ rfl (t := 3) (o := 1) (sz := 1) rfl rfl cells_3
  obtain ⟨d1, r1, g1⟩ := op_3.op k1
  replace r0 : [c0] = enc_3 d0 := r0
  replace r1 : [c1] = enc_3 d1 := r1
  simp only [enc_3, List.cons.injEq, and_true] at r0
  simp only [enc_3, List.cons.injEq, and_true] at r1
  obtain rfl := r0
  obtain rfl := r1
  exact ⟨(d0, d1), rfl, ⟨g0, g1⟩⟩⟩
theorem op_44 : Opn Try.prog 44 ty_44.rd (allG G_Spot) := opn_slice Try.underlying44 cells_54 op_54
theorem op_22 : Opn Try.prog 22 ty_22.rd (allG (allG G_Spot)) := opn_slice Try.underlying22 cells_44 op_44
theorem cells_23 : Try.prog.cellsOf 23 = 1 := by kernel_rfl
theorem op_23 : Opn Try.prog 23 ty_23.rd (allG inI64) := opn_slice Try.underlying23 cells_3 op_3
theorem op_25 : Opn Try.prog 25 ty_25.rd G_Show := ⟨fun h => by
  obtain ⟨xs, n, -, -, hl, hx, hf⟩ := DataW.trod_struct Try.underlying25 h
  obtain ⟨c0, c1, c2, c3, rfl⟩ := len4 (hl.trans cells_25)
  obtain ⟨y0, k0⟩ := fld hx hf 0 _ rfl (t := 22) (o := 0) (sz := 1) rfl rfl cells_22
  obtain ⟨d0, r0, g0⟩ := op_22.op k0
  obtain ⟨y1, k1⟩ := fld hx hf 1 _ rfl (t := 23) (o := 1) (sz := 1) rfl rfl cells_23
  obtain ⟨d1, r1, g1⟩ := op_23.op k1
  obtain ⟨y2, k2⟩ := fld hx hf 2 _ rfl (t := 3) (o := 2) (sz := 1) rfl rfl cells_3
  obtain ⟨d2, r2, g2⟩ := op_3.op k2
  obtain ⟨y3, k3⟩ := fld hx hf 3 _ rfl (t := 3) (o := 3) (sz := 1) rfl rfl cells_3
  obtain ⟨d3, r3, g3⟩ := op_3.op k3
  exact ⟨(d0, d1, d2, d3), ⟨[c0], [c1, c2, c3], rfl, r0, ⟨[c1], [c2, c3], rfl, r1, ⟨[c2], [c3], rfl, r2, r3⟩⟩⟩, ⟨g0, g1, g2, g3⟩⟩⟩
end
end Go.Proofs.Ytdjoofkfgiodgaa
