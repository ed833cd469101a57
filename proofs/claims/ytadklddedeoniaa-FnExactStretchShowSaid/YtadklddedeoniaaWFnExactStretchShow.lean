/-
  THE WALKS of functions of this seat, by program (gen.py).
-/
import Derived.Test.YtadklddedeoniaaH
import Derived.Test.YtadklddedeoniaaWFnExactAddShowChart
import Derived.Test.YtadklddedeoniaaWFnExactMostBehind
import Derived.Test.YtadklddedeoniaaWFnExactReverseShow
import Derived.Test.YtadklddedeoniaaWFnExactShowMoves
import Derived.Test.YtadklddedeoniaaWFnExactWaySums
set_option linter.unusedSimpArgs false
set_option linter.unusedVariables false
set_option maxRecDepth 100000
namespace Go.Proofs.Ytadklddedeoniaa
open Go Go.RowKit
theorem C_spec_StretchShow (w0 : World) (x0 : ((List (List (Int × Int))) × (List Int) × Int × Int)) (v0_0 : Value) (h0_0 : rdS ty_69 (· < w0.heap.size) w0 v0_0 x0.1) (v0_1 : Value) (h0_1 : rdS ty_3 (· < w0.heap.size) w0 v0_1 x0.2.1) (x1 : Int) (x2 : Int) (r : (((List (List (Int × Int))) × (List Int) × Int × Int) × Bool)) (hF : F_spec_StretchShow x0 x1 x2 = some r) :
    Calls Try.prog 50 [(.agg #[v0_0, v0_1, (.int .i64 x0.2.2.1), (.int .i64 x0.2.2.2)]), (.int .i64 x1), (.int .i64 x2)].toArray w0 fun e w' => ∃ (q0 : Value) (G0 : List Nat) (q1 : Value) (G1 : List Nat), e = .returned (.tuple #[(.agg #[q0, q1, (.int .i64 r.1.2.2.1), (.int .i64 r.1.2.2.2)]), (.bool r.2)]) ∧ Below w0.heap.size w0 w' ∧ Sep w0.heap.size w' [R.own ty_69 G0 q0 r.1.1, R.own ty_3 G1 q1 r.1.2.1] := by
  refine calls_mk' Try.func50 rfl Try.ntmps50 rfl rfl fun Q hQ hP => ?_
  have hB : Below w0.heap.size w0 w0 := Below.refl _ _
  have hS : Sep w0.heap.size w0 [] := Sep.nil _ _
  unfold F_spec_StretchShow at hF
  refine W.seq fun K1 hK1 => ?_
  refine W.region ?_
  refine wl_box (cs := [v0_0, v0_1, (.int .i64 x0.2.2.1), (.int .i64 x0.2.2.2)]) rfl rfl rfl hB hS ?_
  intro b2 w3 hb4 hB5 hS6
  refine wl_alloc (cs := [(.slice none 0 0), (.slice none 0 0), (.int .i64 0), (.int .i64 0)]) tf_31 rfl rfl hB5 hS6 ?_
  intro b7 w8 hb9 hB10 hS11
  refine wl_assign rfl rfl ?_
  refine WL.nil ?_
  refine fun a ha => hK1 _ _ ?_ a ha
  refine W.seq fun K12 hK12 => ?_
  refine W.seq fun K13 hK13 => ?_
  refine W.region ?_
  refine wl_load_blk (i := 1) (vs := [v0_0, v0_1, (.int .i64 x0.2.2.1), (.int .i64 x0.2.2.2)]) (v := (.agg #[v0_0, v0_1, (.int .i64 x0.2.2.1), (.int .i64 x0.2.2.2)])) tf_31 rfl rfl hS11 rfl rfl rfl ?_
  refine wl_move rfl rfl ?_
  obtain ⟨u14, hu14, hF⟩ := bindE hF
  refine wl_call rfl Try.call77 (C_spec_swHas w8 x0 v0_0 (h0_0.ro hB10) v0_1 (h0_1.ro hB10) x1 _ hu14) rfl ?_
  rintro _ w15 ⟨rfl, hb16⟩
  refine ⟨_, rfl, ?_⟩
  have hB17 := hB10.trans (hb16.mono hB10.size)
  have hS18 := hS11.below hb16
  refine wl_not rfl rfl ?_
  refine WL.nil ?_
  refine fun a ha => hK13 _ _ ?_ a ha
  refine W.cond rfl (fun h20 => ?_) (fun h20 => ?_)
  · replace hF := ifP h20 hF
    refine W.seq fun K21 hK21 => ?_
    refine W.region ?_
    refine wl_build (zs := [(.slice none 0 0), (.slice none 0 0), (.int .i64 0), (.int .i64 0)]) (out := [(.slice none 0 0), (.slice none 0 0), (.int .i64 0), (.int .i64 0)]) (vs := []) (css := []) tf_31 pl_31 rfl rfl rfl rfl rfl ?_
    refine wl_store_blk (i := 0) (vs := [(.slice none 0 0), (.slice none 0 0), (.int .i64 0), (.int .i64 0)]) (cs' := [(.slice none 0 0), (.slice none 0 0), (.int .i64 0), (.int .i64 0)]) tf_31 rfl rfl rfl rfl hB17 hS18 rfl rfl ⟨rfl, rfl, rfl, rfl, trivial⟩ rfl ?_
    intro w22 hk25 hB23 hS24
    refine wl_assign rfl rfl ?_
    refine WL.nil ?_
    refine fun a ha => hK21 _ _ ?_ a ha
    refine W.ret ?_
    have hS26 := hS24.push0 (r := R.own ty_69 [] (.slice none 0 0) []) rfl fun _ => .inl ⟨rfl, rfl, rfl⟩
    have hS27 := hS26.push0 (r := R.own ty_3 [] (.slice none 0 0) []) rfl fun _ => .inl ⟨rfl, rfl, rfl⟩
    have hr := Option.some.inj hF
    subst hr
    exact rets (vs := [(.agg #[(.slice none 0 0), (.slice none 0 0), (.int .i64 0), (.int .i64 0)]), (.bool false)]) hQ rfl ⟨rv_cell (i := 0) tf_31 rfl hS24 rfl rfl rfl, rv_tmp rfl, trivial⟩ ⟨(.slice none 0 0), [], (.slice none 0 0), [], rfl, hB23, hS27.sel [1, 0] rfl⟩
  · replace hF := ifN h20 hF
    refine W.skip ?_
    refine fun a ha => hK12 _ _ ?_ a ha
    refine W.seq fun K28 hK28 => ?_
    refine W.region ?_
    refine wl_load_blk (i := 1) (vs := [v0_0, v0_1, (.int .i64 x0.2.2.1), (.int .i64 x0.2.2.2)]) (v := (.agg #[v0_0, v0_1, (.int .i64 x0.2.2.1), (.int .i64 x0.2.2.2)])) tf_31 rfl rfl hS18 rfl rfl rfl ?_
    obtain ⟨u29, hu29, hF⟩ := bindE hF
    refine wl_call rfl Try.call100 (C_spec_swOwn w15 x0 v0_0 (h0_0.ro hB17) v0_1 (h0_1.ro hB17) _ hu29) rfl ?_
    rintro _ w34 ⟨v30, F31, v32, F33, rfl, hb35, hM38⟩
    refine ⟨_, rfl, ?_⟩
    have hB36 := hB17.trans (hb35.mono hB17.size)
    have hS37 := hS18.join hb35 hM38 hB17.size
    refine wl_alloc (cs := [(.slice none 0 0), (.slice none 0 0), (.int .i64 0), (.int .i64 0)]) tf_31 rfl rfl hB36 hS37 ?_
    intro b39 w40 hb41 hB42 hS43
    refine wl_store_blk (i := 0) (vs := [v30, v32, (.int .i64 u29.2.2.1), (.int .i64 u29.2.2.2)]) (cs' := [v30, v32, (.int .i64 u29.2.2.1), (.int .i64 u29.2.2.2)]) tf_31 rfl rfl rfl rfl hB42 hS43 rfl rfl ⟨(hS43.own_ro (i := 1) rfl).one, (hS43.own_ro (i := 2) rfl).one, rfl, rfl, trivial⟩ rfl ?_
    intro w44 hk47 hB45 hS46
    refine WL.nil ?_
    refine fun a ha => hK28 _ _ ?_ a ha
    refine W.seq fun K48 hK48 => ?_
    refine W.region ?_
    refine wl_field (o := 1) (off' := 1) ff_31_1 rfl rfl rfl ?_
    refine wl_load_blk (i := 0) (vs := [v32]) (v := v32) tf_23 rfl rfl hS46 rfl rfl rfl ?_
    refine wl_move rfl rfl ?_
    refine wl_move rfl rfl ?_
    obtain ⟨u49, hu49, hF⟩ := bindE hF
    refine wl_indexo (e := ty_3) (i := 2) Try.underlying23 rfl rfl rfl hS46 rfl hu49 ?_
    rintro p50 _ rfl hp51 ho52
    refine wl_storeo (i := 2) (o := 0) (vs := [(.int .i64 x2)]) (u' := x2) fl_3 tf_3 rfl rfl rfl rfl ho52 hu49 hB45 hS46 rfl rfl ⟨rfl, trivial⟩ rfl ?_
    intro w53 hk56 hB54 hS55
    refine WL.nil ?_
    refine fun a ha => hK48 _ _ ?_ a ha
    refine W.seq fun K57 hK57 => ?_
    refine W.region ?_
    refine wl_load_blk (i := 0) (vs := [v30, v32, (.int .i64 u29.2.2.1), (.int .i64 u29.2.2.2)]) (v := (.agg #[v30, v32, (.int .i64 u29.2.2.1), (.int .i64 u29.2.2.2)])) tf_31 rfl rfl hS55 rfl rfl rfl ?_
    obtain ⟨u58, hu58, hF⟩ := bindE hF
    refine wl_call rfl Try.call101 (C_spec_swIf__take w53 (u29.1, (seti u29.2.1 x1 x2), u29.2.2.1, u29.2.2.2) v30 F31 v32 F33 (hS55.sel [1, 2] rfl).base0 _ hu58) rfl ?_
    rintro _ w59 ⟨v64, F65, v66, F67, rfl, hE60, hM61⟩
    refine ⟨_, rfl, ?_⟩
    have hB62 := hS55.takeB [1, 2] rfl (M := [R.own ty_69 F31 v30 u29.1, R.own ty_3 F33 v32 (seti u29.2.1 x1 x2)]) rfl hB54 hE60 hM61
    have hS63 : Sep w0.heap.size w59 [R.own ty_69 F65 v64 u58.1.1, R.own ty_3 F67 v66 u58.1.2.1, R.blk b39 31 [v30, v32, (.int .i64 u29.2.2.1), (.int .i64 u29.2.2.2)], R.blk b7 31 [(.slice none 0 0), (.slice none 0 0), (.int .i64 0), (.int .i64 0)], R.blk b2 31 [v0_0, v0_1, (.int .i64 x0.2.2.1), (.int .i64 x0.2.2.2)]] := hS55.take [1, 2] [0, 3, 4] rfl (M := [R.own ty_69 F31 v30 u29.1, R.own ty_3 F33 v32 (seti u29.2.1 x1 x2)]) rfl hM61 hB54.size
    refine wl_extract rfl rfl rfl ?_
    refine wl_extract rfl rfl rfl ?_
    refine wl_store_blk (i := 3) (vs := [v64, v66, (.int .i64 u58.1.2.2.1), (.int .i64 u58.1.2.2.2)]) (cs' := [v64, v66, (.int .i64 u58.1.2.2.1), (.int .i64 u58.1.2.2.2)]) tf_31 rfl rfl rfl rfl hB62 hS63 rfl rfl ⟨(hS63.own_ro (i := 0) rfl).one, (hS63.own_ro (i := 1) rfl).one, rfl, rfl, trivial⟩ rfl ?_
    intro w68 hk71 hB69 hS70
    refine wl_assign rfl rfl ?_
    refine WL.nil ?_
    refine fun a ha => hK57 _ _ ?_ a ha
    refine W.ret ?_
    have hr := Option.some.inj hF
    subst hr
    exact rets (vs := [(.agg #[v64, v66, (.int .i64 u58.1.2.2.1), (.int .i64 u58.1.2.2.2)]), (.bool u58.2)]) hQ rfl ⟨rv_cell (i := 3) tf_31 rfl hS70 rfl rfl rfl, rv_tmp rfl, trivial⟩ ⟨v64, F65, v66, F67, rfl, hB69, hS70.sel [0, 1] rfl⟩
theorem C_impl_StretchShow (w0 : World) (x0 : ((List (List (Int × Int))) × (List Int) × Int × Int)) (v0_0 : Value) (h0_0 : rdS ty_69 (· < w0.heap.size) w0 v0_0 x0.1) (v0_1 : Value) (h0_1 : rdS ty_3 (· < w0.heap.size) w0 v0_1 x0.2.1) (x1 : Int) (x2 : Int) (r : (((List (List (Int × Int))) × (List Int) × Int × Int) × Bool)) (hF : F_impl_StretchShow x0 x1 x2 = some r) :
    Calls Try.prog 51 [(.agg #[v0_0, v0_1, (.int .i64 x0.2.2.1), (.int .i64 x0.2.2.2)]), (.int .i64 x1), (.int .i64 x2)].toArray w0 fun e w' => ∃ (q0 : Value) (G0 : List Nat) (q1 : Value) (G1 : List Nat), e = .returned (.tuple #[(.agg #[q0, q1, (.int .i64 r.1.2.2.1), (.int .i64 r.1.2.2.2)]), (.bool r.2)]) ∧ Below w0.heap.size w0 w' ∧ Sep w0.heap.size w' [R.own ty_69 G0 q0 r.1.1, R.own ty_3 G1 q1 r.1.2.1] := by
  refine calls_mk' Try.func51 rfl Try.ntmps51 rfl rfl fun Q hQ hP => ?_
  have hB : Below w0.heap.size w0 w0 := Below.refl _ _
  have hS : Sep w0.heap.size w0 [] := Sep.nil _ _
  unfold F_impl_StretchShow at hF
  refine W.seq fun K1 hK1 => ?_
  refine W.region ?_
  refine wl_box (cs := [v0_0, v0_1, (.int .i64 x0.2.2.1), (.int .i64 x0.2.2.2)]) rfl rfl rfl hB hS ?_
  intro b2 w3 hb4 hB5 hS6
  refine wl_alloc (cs := [(.slice none 0 0), (.slice none 0 0), (.int .i64 0), (.int .i64 0)]) tf_31 rfl rfl hB5 hS6 ?_
  intro b7 w8 hb9 hB10 hS11
  refine wl_assign rfl rfl ?_
  refine WL.nil ?_
  refine fun a ha => hK1 _ _ ?_ a ha
  refine W.seq fun K12 hK12 => ?_
  refine W.seq fun K13 hK13 => ?_
  refine W.region ?_
  refine wl_load_blk (i := 1) (vs := [v0_0, v0_1, (.int .i64 x0.2.2.1), (.int .i64 x0.2.2.2)]) (v := (.agg #[v0_0, v0_1, (.int .i64 x0.2.2.1), (.int .i64 x0.2.2.2)])) tf_31 rfl rfl hS11 rfl rfl rfl ?_
  refine wl_move rfl rfl ?_
  obtain ⟨u14, hu14, hF⟩ := bindE hF
  refine wl_call rfl Try.call79 (C_impl_isPart w8 x0 v0_0 (h0_0.ro hB10) v0_1 (h0_1.ro hB10) x1 _ hu14) rfl ?_
  rintro _ w15 ⟨rfl, hb16⟩
  refine ⟨_, rfl, ?_⟩
  have hB17 := hB10.trans (hb16.mono hB10.size)
  have hS18 := hS11.below hb16
  refine wl_not rfl rfl ?_
  refine WL.nil ?_
  refine fun a ha => hK13 _ _ ?_ a ha
  refine W.cond rfl (fun h20 => ?_) (fun h20 => ?_)
  · replace hF := ifP h20 hF
    refine W.seq fun K21 hK21 => ?_
    refine W.region ?_
    refine wl_build (zs := [(.slice none 0 0), (.slice none 0 0), (.int .i64 0), (.int .i64 0)]) (out := [(.slice none 0 0), (.slice none 0 0), (.int .i64 0), (.int .i64 0)]) (vs := []) (css := []) tf_31 pl_31 rfl rfl rfl rfl rfl ?_
    refine wl_store_blk (i := 0) (vs := [(.slice none 0 0), (.slice none 0 0), (.int .i64 0), (.int .i64 0)]) (cs' := [(.slice none 0 0), (.slice none 0 0), (.int .i64 0), (.int .i64 0)]) tf_31 rfl rfl rfl rfl hB17 hS18 rfl rfl ⟨rfl, rfl, rfl, rfl, trivial⟩ rfl ?_
    intro w22 hk25 hB23 hS24
    refine wl_assign rfl rfl ?_
    refine WL.nil ?_
    refine fun a ha => hK21 _ _ ?_ a ha
    refine W.ret ?_
    have hS26 := hS24.push0 (r := R.own ty_69 [] (.slice none 0 0) []) rfl fun _ => .inl ⟨rfl, rfl, rfl⟩
    have hS27 := hS26.push0 (r := R.own ty_3 [] (.slice none 0 0) []) rfl fun _ => .inl ⟨rfl, rfl, rfl⟩
    have hr := Option.some.inj hF
    subst hr
    exact rets (vs := [(.agg #[(.slice none 0 0), (.slice none 0 0), (.int .i64 0), (.int .i64 0)]), (.bool false)]) hQ rfl ⟨rv_cell (i := 0) tf_31 rfl hS24 rfl rfl rfl, rv_tmp rfl, trivial⟩ ⟨(.slice none 0 0), [], (.slice none 0 0), [], rfl, hB23, hS27.sel [1, 0] rfl⟩
  · replace hF := ifN h20 hF
    refine W.skip ?_
    refine fun a ha => hK12 _ _ ?_ a ha
    refine W.seq fun K28 hK28 => ?_
    refine W.region ?_
    refine wl_load_blk (i := 1) (vs := [v0_0, v0_1, (.int .i64 x0.2.2.1), (.int .i64 x0.2.2.2)]) (v := (.agg #[v0_0, v0_1, (.int .i64 x0.2.2.1), (.int .i64 x0.2.2.2)])) tf_31 rfl rfl hS18 rfl rfl rfl ?_
    obtain ⟨u29, hu29, hF⟩ := bindE hF
    refine wl_call rfl Try.call96 (C_impl_copyShow w15 x0 v0_0 (h0_0.ro hB17) v0_1 (h0_1.ro hB17) _ hu29) rfl ?_
    rintro _ w34 ⟨v30, F31, v32, F33, rfl, hb35, hM38⟩
    refine ⟨_, rfl, ?_⟩
    have hB36 := hB17.trans (hb35.mono hB17.size)
    have hS37 := hS18.join hb35 hM38 hB17.size
    refine wl_alloc (cs := [(.slice none 0 0), (.slice none 0 0), (.int .i64 0), (.int .i64 0)]) tf_31 rfl rfl hB36 hS37 ?_
    intro b39 w40 hb41 hB42 hS43
    refine wl_store_blk (i := 0) (vs := [v30, v32, (.int .i64 u29.2.2.1), (.int .i64 u29.2.2.2)]) (cs' := [v30, v32, (.int .i64 u29.2.2.1), (.int .i64 u29.2.2.2)]) tf_31 rfl rfl rfl rfl hB42 hS43 rfl rfl ⟨(hS43.own_ro (i := 1) rfl).one, (hS43.own_ro (i := 2) rfl).one, rfl, rfl, trivial⟩ rfl ?_
    intro w44 hk47 hB45 hS46
    refine WL.nil ?_
    refine fun a ha => hK28 _ _ ?_ a ha
    refine W.seq fun K48 hK48 => ?_
    refine W.region ?_
    refine wl_field (o := 1) (off' := 1) ff_31_1 rfl rfl rfl ?_
    refine wl_load_blk (i := 0) (vs := [v32]) (v := v32) tf_23 rfl rfl hS46 rfl rfl rfl ?_
    refine wl_move rfl rfl ?_
    refine wl_move rfl rfl ?_
    obtain ⟨u49, hu49, hF⟩ := bindE hF
    refine wl_indexo (e := ty_3) (i := 2) Try.underlying23 rfl rfl rfl hS46 rfl hu49 ?_
    rintro p50 _ rfl hp51 ho52
    refine wl_storeo (i := 2) (o := 0) (vs := [(.int .i64 x2)]) (u' := x2) fl_3 tf_3 rfl rfl rfl rfl ho52 hu49 hB45 hS46 rfl rfl ⟨rfl, trivial⟩ rfl ?_
    intro w53 hk56 hB54 hS55
    refine WL.nil ?_
    refine fun a ha => hK48 _ _ ?_ a ha
    refine W.seq fun K57 hK57 => ?_
    refine W.region ?_
    refine wl_load_blk (i := 0) (vs := [v30, v32, (.int .i64 u29.2.2.1), (.int .i64 u29.2.2.2)]) (v := (.agg #[v30, v32, (.int .i64 u29.2.2.1), (.int .i64 u29.2.2.2)])) tf_31 rfl rfl hS55 rfl rfl rfl ?_
    obtain ⟨u58, hu58, hF⟩ := bindE hF
    refine wl_call rfl Try.call103 (C_impl_asShow__take w53 (u29.1, (seti u29.2.1 x1 x2), u29.2.2.1, u29.2.2.2) v30 F31 v32 F33 (hS55.sel [1, 2] rfl).base0 _ hu58) rfl ?_
    rintro _ w59 ⟨v64, F65, v66, F67, rfl, hE60, hM61⟩
    refine ⟨_, rfl, ?_⟩
    have hB62 := hS55.takeB [1, 2] rfl (M := [R.own ty_69 F31 v30 u29.1, R.own ty_3 F33 v32 (seti u29.2.1 x1 x2)]) rfl hB54 hE60 hM61
    have hS63 : Sep w0.heap.size w59 [R.own ty_69 F65 v64 u58.1.1, R.own ty_3 F67 v66 u58.1.2.1, R.blk b39 31 [v30, v32, (.int .i64 u29.2.2.1), (.int .i64 u29.2.2.2)], R.blk b7 31 [(.slice none 0 0), (.slice none 0 0), (.int .i64 0), (.int .i64 0)], R.blk b2 31 [v0_0, v0_1, (.int .i64 x0.2.2.1), (.int .i64 x0.2.2.2)]] := hS55.take [1, 2] [0, 3, 4] rfl (M := [R.own ty_69 F31 v30 u29.1, R.own ty_3 F33 v32 (seti u29.2.1 x1 x2)]) rfl hM61 hB54.size
    refine wl_extract rfl rfl rfl ?_
    refine wl_extract rfl rfl rfl ?_
    refine wl_store_blk (i := 3) (vs := [v64, v66, (.int .i64 u58.1.2.2.1), (.int .i64 u58.1.2.2.2)]) (cs' := [v64, v66, (.int .i64 u58.1.2.2.1), (.int .i64 u58.1.2.2.2)]) tf_31 rfl rfl rfl rfl hB62 hS63 rfl rfl ⟨(hS63.own_ro (i := 0) rfl).one, (hS63.own_ro (i := 1) rfl).one, rfl, rfl, trivial⟩ rfl ?_
    intro w68 hk71 hB69 hS70
    refine wl_assign rfl rfl ?_
    refine WL.nil ?_
    refine fun a ha => hK57 _ _ ?_ a ha
    refine W.ret ?_
    have hr := Option.some.inj hF
    subst hr
    exact rets (vs := [(.agg #[v64, v66, (.int .i64 u58.1.2.2.1), (.int .i64 u58.1.2.2.2)]), (.bool u58.2)]) hQ rfl ⟨rv_cell (i := 3) tf_31 rfl hS70 rfl rfl rfl, rv_tmp rfl, trivial⟩ ⟨v64, F65, v66, F67, rfl, hB69, hS70.sel [0, 1] rfl⟩
theorem C_laws_FnExactStretchShow (w0 : World) (x0 : ((List (List (Int × Int))) × (List Int) × Int × Int)) (v0_0 : Value) (h0_0 : rdS ty_66 (· < w0.heap.size) w0 v0_0 x0.1) (v0_1 : Value) (h0_1 : rdS ty_3 (· < w0.heap.size) w0 v0_1 x0.2.1) (x1 : Int) (x2 : Int) (r : Bool) (hF : F_laws_FnExactStretchShow x0 x1 x2 = some r) :
    Calls Try.prog 9 [(.agg #[v0_0, v0_1, (.int .i64 x0.2.2.1), (.int .i64 x0.2.2.2)]), (.int .i64 x1), (.int .i64 x2)].toArray w0 fun e w' => e = .returned (.bool r) ∧ Below w0.heap.size w0 w' := by
  refine calls_mk' Try.func9 rfl Try.ntmps9 rfl rfl fun Q hQ hP => ?_
  have hB : Below w0.heap.size w0 w0 := Below.refl _ _
  have hS : Sep w0.heap.size w0 [] := Sep.nil _ _
  unfold F_laws_FnExactStretchShow at hF
  refine W.seq fun K1 hK1 => ?_
  refine W.region ?_
  refine wl_box (cs := [v0_0, v0_1, (.int .i64 x0.2.2.1), (.int .i64 x0.2.2.2)]) rfl rfl rfl hB hS ?_
  intro b2 w3 hb4 hB5 hS6
  refine wl_assign rfl rfl ?_
  refine WL.nil ?_
  refine fun a ha => hK1 _ _ ?_ a ha
  refine W.seq fun K7 hK7 => ?_
  refine W.region ?_
  refine wl_assign rfl rfl ?_
  refine WL.nil ?_
  refine fun a ha => hK7 _ _ ?_ a ha
  refine W.seq fun K8 hK8 => ?_
  refine W.region ?_
  refine wl_load_blk (i := 0) (vs := [v0_0, v0_1, (.int .i64 x0.2.2.1), (.int .i64 x0.2.2.2)]) (v := (.agg #[v0_0, v0_1, (.int .i64 x0.2.2.1), (.int .i64 x0.2.2.2)])) tf_25 rfl rfl hS6 rfl rfl rfl ?_
  refine wl_move rfl rfl ?_
  obtain ⟨u9, hu9, hF⟩ := bindE hF
  refine wl_call rfl Try.call15 (C_laws_szShow w3 x0 v0_0 (h0_0.ro hB5) v0_1 (h0_1.ro hB5) 1048576 _ hu9) rfl ?_
  rintro _ w10 ⟨rfl, hb11⟩
  refine ⟨_, rfl, ?_⟩
  have hB12 := hB5.trans (hb11.mono hB5.size)
  have hS13 := hS6.below hb11
  refine wl_assign rfl rfl ?_
  refine WL.nil ?_
  refine fun a ha => hK8 _ _ ?_ a ha
  refine W.seq fun K15 hK15 => ?_
  refine W.seq fun K16 hK16 => ?_
  refine W.region ?_
  refine wl_move rfl rfl ?_
  refine wl_lss rfl rfl rfl ?_
  refine WL.nil ?_
  refine fun a ha => hK16 _ _ ?_ a ha
  refine W.cond rfl (fun h17 => ?_) (fun h17 => ?_)
  · replace hF := ifP h17 hF
    refine W.seq fun K18 hK18 => ?_
    refine W.region ?_
    refine wl_assign rfl rfl ?_
    refine WL.nil ?_
    refine fun a ha => hK18 _ _ ?_ a ha
    refine W.ret ?_
    have hr := Option.some.inj hF
    subst hr
    exact rets (vs := [(.bool true)]) hQ rfl ⟨rv_tmp rfl, trivial⟩ ⟨rfl, hB12⟩
  · replace hF := ifN h17 hF
    refine W.skip ?_
    refine fun a ha => hK15 _ _ ?_ a ha
    refine W.seq fun K19 hK19 => ?_
    refine W.region ?_
    refine wl_load_blk (i := 0) (vs := [v0_0, v0_1, (.int .i64 x0.2.2.1), (.int .i64 x0.2.2.2)]) (v := (.agg #[v0_0, v0_1, (.int .i64 x0.2.2.1), (.int .i64 x0.2.2.2)])) tf_25 rfl rfl hS13 rfl rfl rfl ?_
    obtain ⟨u20, hu20, hF⟩ := bindE hF
    refine wl_call rfl Try.call17 (C_laws_toShow w10 x0 v0_0 (h0_0.ro hB12) v0_1 (h0_1.ro hB12) _ hu20) rfl ?_
    rintro _ w25 ⟨v21, F22, v23, F24, rfl, hb26, hM29⟩
    refine ⟨_, rfl, ?_⟩
    have hB27 := hB12.trans (hb26.mono hB12.size)
    have hS28 := hS13.join hb26 hM29 hB12.size
    refine wl_move rfl rfl ?_
    refine wl_move rfl rfl ?_
    obtain ⟨u30, hu30, hF⟩ := bindE hF
    refine wl_call rfl Try.call50 (C_spec_StretchShow w25 u20 v21 (hS28.own_ro (i := 0) rfl) v23 (hS28.own_ro (i := 1) rfl) x1 x2 _ hu30) rfl ?_
    rintro _ w35 ⟨v31, F32, v33, F34, rfl, hb36, hM39⟩
    refine ⟨_, rfl, ?_⟩
    have hB37 := hB27.trans (hb36.mono hB27.size)
    have hS38 := hS28.join hb36 hM39 hB27.size
    refine wl_move rfl rfl ?_
    refine wl_extract rfl rfl rfl ?_
    refine wl_extract rfl rfl rfl ?_
    refine wl_alloc (cs := [(.slice none 0 0), (.slice none 0 0), (.int .i64 0), (.int .i64 0)]) tf_31 rfl rfl hB37 hS38 ?_
    intro b40 w41 hb42 hB43 hS44
    refine wl_store_blk (i := 0) (vs := [v31, v33, (.int .i64 u30.1.2.2.1), (.int .i64 u30.1.2.2.2)]) (cs' := [v31, v33, (.int .i64 u30.1.2.2.1), (.int .i64 u30.1.2.2.2)]) tf_31 rfl rfl rfl rfl hB43 hS44 rfl rfl ⟨(hS44.own_ro (i := 1) rfl).one, (hS44.own_ro (i := 2) rfl).one, rfl, rfl, trivial⟩ rfl ?_
    intro w45 hk48 hB46 hS47
    refine wl_assign rfl rfl ?_
    refine WL.nil ?_
    refine fun a ha => hK19 _ _ ?_ a ha
    refine W.seq fun K49 hK49 => ?_
    refine W.region ?_
    refine wl_load_blk (i := 5) (vs := [v0_0, v0_1, (.int .i64 x0.2.2.1), (.int .i64 x0.2.2.2)]) (v := (.agg #[v0_0, v0_1, (.int .i64 x0.2.2.1), (.int .i64 x0.2.2.2)])) tf_25 rfl rfl hS47 rfl rfl rfl ?_
    obtain ⟨u50, hu50, hF⟩ := bindE hF
    refine wl_call rfl Try.call17 (C_laws_toShow w45 x0 v0_0 (h0_0.ro hB46) v0_1 (h0_1.ro hB46) _ hu50) rfl ?_
    rintro _ w55 ⟨v51, F52, v53, F54, rfl, hb56, hM59⟩
    refine ⟨_, rfl, ?_⟩
    have hB57 := hB46.trans (hb56.mono hB46.size)
    have hS58 := hS47.join hb56 hM59 hB46.size
    refine wl_alloc (cs := [(.slice none 0 0), (.slice none 0 0), (.int .i64 0), (.int .i64 0)]) tf_31 rfl rfl hB57 hS58 ?_
    intro b60 w61 hb62 hB63 hS64
    refine wl_store_blk (i := 0) (vs := [v51, v53, (.int .i64 u50.2.2.1), (.int .i64 u50.2.2.2)]) (cs' := [v51, v53, (.int .i64 u50.2.2.1), (.int .i64 u50.2.2.2)]) tf_31 rfl rfl rfl rfl hB63 hS64 rfl rfl ⟨(hS64.own_ro (i := 1) rfl).one, (hS64.own_ro (i := 2) rfl).one, rfl, rfl, trivial⟩ rfl ?_
    intro w65 hk68 hB66 hS67
    refine WL.nil ?_
    refine fun a ha => hK49 _ _ ?_ a ha
    refine W.seq fun K69 hK69 => ?_
    refine W.region ?_
    refine wl_load_blk (i := 0) (vs := [v51, v53, (.int .i64 u50.2.2.1), (.int .i64 u50.2.2.2)]) (v := (.agg #[v51, v53, (.int .i64 u50.2.2.1), (.int .i64 u50.2.2.2)])) tf_31 rfl rfl hS67 rfl rfl rfl ?_
    refine wl_move rfl rfl ?_
    refine wl_move rfl rfl ?_
    obtain ⟨u70, hu70, hF⟩ := bindE hF
    refine wl_call rfl Try.call51 (C_impl_StretchShow w65 u50 v51 (hS67.own_ro (i := 1) rfl) v53 (hS67.own_ro (i := 2) rfl) x1 x2 _ hu70) rfl ?_
    rintro _ w75 ⟨v71, F72, v73, F74, rfl, hb76, hM79⟩
    refine ⟨_, rfl, ?_⟩
    have hB77 := hB66.trans (hb76.mono hB66.size)
    have hS78 := hS67.join hb76 hM79 hB66.size
    refine wl_move rfl rfl ?_
    refine wl_extract rfl rfl rfl ?_
    refine wl_extract rfl rfl rfl ?_
    refine wl_alloc (cs := [(.slice none 0 0), (.slice none 0 0), (.int .i64 0), (.int .i64 0)]) tf_31 rfl rfl hB77 hS78 ?_
    intro b80 w81 hb82 hB83 hS84
    refine wl_store_blk (i := 0) (vs := [v71, v73, (.int .i64 u70.1.2.2.1), (.int .i64 u70.1.2.2.2)]) (cs' := [v71, v73, (.int .i64 u70.1.2.2.1), (.int .i64 u70.1.2.2.2)]) tf_31 rfl rfl rfl rfl hB83 hS84 rfl rfl ⟨(hS84.own_ro (i := 1) rfl).one, (hS84.own_ro (i := 2) rfl).one, rfl, rfl, trivial⟩ rfl ?_
    intro w85 hk88 hB86 hS87
    refine wl_assign rfl rfl ?_
    refine WL.nil ?_
    refine fun a ha => hK69 _ _ ?_ a ha
    refine W.seq fun K89 hK89 => ?_
    refine W.seq fun K90 hK90 => ?_
    obtain ⟨k95, hk95, hF⟩ := jE1 hF
    have hJ96 : ∀ (y94 : Bool) (w91 : World) (_ : k95 y94 = some r) (_ : Below w0.heap.size w0 w91) (_ : Sep w0.heap.size w91 [R.blk b2 25 [v0_0, v0_1, (.int .i64 x0.2.2.1), (.int .i64 x0.2.2.2)], R.own ty_69 F32 v31 u30.1.1, R.own ty_3 F34 v33 u30.1.2.1, R.blk b40 31 [v31, v33, (.int .i64 u30.1.2.2.1), (.int .i64 u30.1.2.2.2)], R.own ty_69 F52 v51 u50.1, R.own ty_3 F54 v53 u50.2.1, R.blk b60 31 [v51, v53, (.int .i64 u50.2.2.1), (.int .i64 u50.2.2.2)], R.own ty_69 F72 v71 u70.1.1, R.own ty_3 F74 v73 u70.1.2.1, R.blk b80 31 [v71, v73, (.int .i64 u70.1.2.2.1), (.int .i64 u70.1.2.2.2)]]), ∀ a, St 106 [(1, (.int .i64 x1)), (2, (.int .i64 x2)), (3, (.pointer (some ⟨b2, 0, none⟩))), (8, (.pointer (some ⟨b40, 0, none⟩))), (9, (.bool u30.2)), (10, (.pointer (some ⟨b60, 0, none⟩))), (11, (.pointer (some ⟨b80, 0, none⟩))), (12, (.bool u70.2)), (48, (.bool y94))] a → K90 a w91 := by
      intro y94 w91 hF hB92 hS93
      subst hk95
      refine fun a ha => hK90 _ _ ?_ a ha
      refine W.cond rfl (fun h97 => ?_) (fun h97 => ?_)
      · replace hF := ifP h97 hF
        refine W.seq fun K98 hK98 => ?_
        refine W.region ?_
        refine wl_assign rfl rfl ?_
        refine WL.nil ?_
        refine fun a ha => hK98 _ _ ?_ a ha
        refine W.ret ?_
        have hr := Option.some.inj hF
        subst hr
        exact rets (vs := [(.bool false)]) hQ rfl ⟨rv_tmp rfl, trivial⟩ ⟨rfl, hB92⟩
      · replace hF := ifN h97 hF
        refine W.skip ?_
        refine fun a ha => hK89 _ _ ?_ a ha
        refine W.seq fun K99 hK99 => ?_
        refine W.seq fun K100 hK100 => ?_
        refine W.regionH mixed_ [] hB92 hS93 ?_
        intro w101 hb102 hB103 hS104
        have hSW105 := KeepX.refl w101 []
        refine WH.takex (i := 0) rfl (by kernel_rfl) (by kernel_rfl) (by kernel_rfl) hP hSW105 ?_
        refine pr_load_blk (i := 6) (vs := [v51, v53, (.int .i64 u50.2.2.1), (.int .i64 u50.2.2.2)]) (v := (.agg #[v51, v53, (.int .i64 u50.2.2.1), (.int .i64 u50.2.2.2)])) tf_31 rfl rfl hS104 rfl rfl rfl (by simp) ?_
        refine WH.takex (i := 1) rfl (by kernel_rfl) (by kernel_rfl) (by kernel_rfl) hP hSW105 ?_
        refine pr_load_blk (i := 0) (vs := [v0_0, v0_1, (.int .i64 x0.2.2.1), (.int .i64 x0.2.2.2)]) (v := (.agg #[v0_0, v0_1, (.int .i64 x0.2.2.1), (.int .i64 x0.2.2.2)])) tf_25 rfl rfl hS104 rfl rfl rfl (by simp) ?_
        refine WH.one (i := 2) (by kernel_rfl) rfl ?_
        obtain ⟨u106, hu106, hF⟩ := bindE hF
        refine wl_call rfl Try.call17 (C_laws_toShow w101 x0 v0_0 (h0_0.ro hB103) v0_1 (h0_1.ro hB103) _ hu106) rfl ?_
        rintro _ w111 ⟨v107, F108, v109, F110, rfl, hb112, hM115⟩
        refine ⟨_, rfl, ?_⟩
        have hB113 := hB103.trans (hb112.mono hB103.size)
        have hS114 := hS104.join hb112 hM115 hB103.size
        have hSW116 := hSW105.ext hb112
        refine WL.nil (WH.ret hSW116 ?_)
        refine WH.one (i := 3) (by kernel_rfl) rfl ?_
        obtain ⟨u117, hu117, hF⟩ := bindE hF
        refine wl_call rfl Try.call20 (C_laws_eqShow w111 u50 v51 (hS114.own_ro (i := 6) rfl) v53 (hS114.own_ro (i := 7) rfl) u106 v107 (hS114.own_ro (i := 0) rfl) v109 (hS114.own_ro (i := 1) rfl) _ hu117) rfl ?_
        rintro _ w118 ⟨rfl, hb119⟩
        refine ⟨_, rfl, ?_⟩
        have hB120 := hB113.trans (hb119.mono hB113.size)
        have hS121 := hS114.below hb119
        have hSW123 := hSW116.ext hb119
        refine WL.nil (WH.ret hSW123 ?_)
        refine WH.takex (i := 4) rfl (by kernel_rfl) (by kernel_rfl) (by kernel_rfl) hP hSW123 ?_
        refine pr_not rfl rfl ?_
        refine WH.done (by kernel_rfl) ?_
        refine fun a ha => hK100 _ _ ?_ a ha
        refine W.cond rfl (fun h124 => ?_) (fun h124 => ?_)
        · replace hF := ifP h124 hF
          refine W.seq fun K125 hK125 => ?_
          refine W.region ?_
          refine wl_assign rfl rfl ?_
          refine WL.nil ?_
          refine fun a ha => hK125 _ _ ?_ a ha
          refine W.ret ?_
          have hr := Option.some.inj hF
          subst hr
          exact rets (vs := [(.bool false)]) hQ rfl ⟨rv_tmp rfl, trivial⟩ ⟨rfl, hB120⟩
        · replace hF := ifN h124 hF
          refine W.skip ?_
          refine fun a ha => hK99 _ _ ?_ a ha
          refine W.seq fun K126 hK126 => ?_
          refine W.region ?_
          refine wl_assign rfl rfl ?_
          refine WL.nil ?_
          refine fun a ha => hK126 _ _ ?_ a ha
          refine W.seq fun K127 hK127 => ?_
          refine W.region ?_
          refine wl_load_blk (i := 8) (vs := [v51, v53, (.int .i64 u50.2.2.1), (.int .i64 u50.2.2.2)]) (v := (.agg #[v51, v53, (.int .i64 u50.2.2.1), (.int .i64 u50.2.2.2)])) tf_31 rfl rfl hS121 rfl rfl rfl ?_
          refine wl_move rfl rfl ?_
          obtain ⟨u128, hu128, hF⟩ := bindE hF
          refine wl_call rfl Try.call21 (C_laws_markShow w118 u50 v51 F52 v53 F54 1 (hS121.sel [6, 7] rfl).base0 _ hu128) rfl ?_
          rintro _ w129 ⟨rfl, hE130, hM131⟩
          refine ⟨_, rfl, ?_⟩
          have hB132 := hS121.mutB [6, 7] rfl (M := [R.own ty_69 F52 v51 u50.1, R.own ty_3 F54 v53 u50.2.1]) rfl (M' := [R.own ty_69 F52 v51 u128.2.1, R.own ty_3 F54 v53 u128.2.2.1]) rfl hB120 hB120.size hE130 hM131
          have hS133 : Sep w0.heap.size w129 [R.own ty_69 F52 v51 u128.2.1, R.own ty_3 F54 v53 u128.2.2.1, R.own ty_69 F108 v107 u106.1, R.own ty_3 F110 v109 u106.2.1, R.blk b2 25 [v0_0, v0_1, (.int .i64 x0.2.2.1), (.int .i64 x0.2.2.2)], R.own ty_69 F32 v31 u30.1.1, R.own ty_3 F34 v33 u30.1.2.1, R.blk b40 31 [v31, v33, (.int .i64 u30.1.2.2.1), (.int .i64 u30.1.2.2.2)], R.blk b60 31 [v51, v53, (.int .i64 u50.2.2.1), (.int .i64 u50.2.2.2)], R.own ty_69 F72 v71 u70.1.1, R.own ty_3 F74 v73 u70.1.2.1, R.blk b80 31 [v71, v73, (.int .i64 u70.1.2.2.1), (.int .i64 u70.1.2.2.2)]] := hS121.mut [6, 7] [0, 1, 2, 3, 4, 5, 8, 9, 10, 11] rfl (M := [R.own ty_69 F52 v51 u50.1, R.own ty_3 F54 v53 u50.2.1]) rfl (M' := [R.own ty_69 F52 v51 u128.2.1, R.own ty_3 F54 v53 u128.2.2.1]) rfl hM131
          refine wl_assign rfl rfl ?_
          refine WL.nil ?_
          refine fun a ha => hK127 _ _ ?_ a ha
          refine W.seq fun K134 hK134 => ?_
          refine W.seq fun K135 hK135 => ?_
          obtain ⟨k140, hk140, hF⟩ := jE1 hF
          have hJ141 : ∀ (y139 : Bool) (w136 : World) (_ : k140 y139 = some r) (_ : Below w0.heap.size w0 w136) (_ : Sep w0.heap.size w136 [R.blk b2 25 [v0_0, v0_1, (.int .i64 x0.2.2.1), (.int .i64 x0.2.2.2)], R.own ty_69 F32 v31 u30.1.1, R.own ty_3 F34 v33 u30.1.2.1, R.blk b40 31 [v31, v33, (.int .i64 u30.1.2.2.1), (.int .i64 u30.1.2.2.2)], R.own ty_69 F72 v71 u70.1.1, R.own ty_3 F74 v73 u70.1.2.1, R.blk b80 31 [v71, v73, (.int .i64 u70.1.2.2.1), (.int .i64 u70.1.2.2.2)]]), ∀ a, St 106 [(1, (.int .i64 x1)), (2, (.int .i64 x2)), (3, (.pointer (some ⟨b2, 0, none⟩))), (8, (.pointer (some ⟨b40, 0, none⟩))), (9, (.bool u30.2)), (11, (.pointer (some ⟨b80, 0, none⟩))), (69, (.bool y139))] a → K135 a w136 := by
            intro y139 w136 hF hB137 hS138
            subst hk140
            refine fun a ha => hK135 _ _ ?_ a ha
            refine W.cond rfl (fun h142 => ?_) (fun h142 => ?_)
            · replace hF := ifP h142 hF
              refine W.seq fun K143 hK143 => ?_
              refine W.region ?_
              refine wl_assign rfl rfl ?_
              refine WL.nil ?_
              refine fun a ha => hK143 _ _ ?_ a ha
              refine W.ret ?_
              have hr := Option.some.inj hF
              subst hr
              exact rets (vs := [(.bool false)]) hQ rfl ⟨rv_tmp rfl, trivial⟩ ⟨rfl, hB137⟩
            · replace hF := ifN h142 hF
              refine W.skip ?_
              refine fun a ha => hK134 _ _ ?_ a ha
              refine W.seq fun K144 hK144 => ?_
              refine W.region ?_
              refine wl_assign rfl rfl ?_
              refine WL.nil ?_
              refine fun a ha => hK144 _ _ ?_ a ha
              refine W.seq fun K145 hK145 => ?_
              refine W.region ?_
              refine wl_load_blk (i := 6) (vs := [v71, v73, (.int .i64 u70.1.2.2.1), (.int .i64 u70.1.2.2.2)]) (v := (.agg #[v71, v73, (.int .i64 u70.1.2.2.1), (.int .i64 u70.1.2.2.2)])) tf_31 rfl rfl hS138 rfl rfl rfl ?_
              refine wl_move rfl rfl ?_
              obtain ⟨u146, hu146, hF⟩ := bindE hF
              refine wl_call rfl Try.call21 (C_laws_markShow w136 u70.1 v71 F72 v73 F74 1 (hS138.sel [4, 5] rfl).base0 _ hu146) rfl ?_
              rintro _ w147 ⟨rfl, hE148, hM149⟩
              refine ⟨_, rfl, ?_⟩
              have hB150 := hS138.mutB [4, 5] rfl (M := [R.own ty_69 F72 v71 u70.1.1, R.own ty_3 F74 v73 u70.1.2.1]) rfl (M' := [R.own ty_69 F72 v71 u146.2.1, R.own ty_3 F74 v73 u146.2.2.1]) rfl hB137 hB137.size hE148 hM149
              have hS151 : Sep w0.heap.size w147 [R.own ty_69 F72 v71 u146.2.1, R.own ty_3 F74 v73 u146.2.2.1, R.blk b2 25 [v0_0, v0_1, (.int .i64 x0.2.2.1), (.int .i64 x0.2.2.2)], R.own ty_69 F32 v31 u30.1.1, R.own ty_3 F34 v33 u30.1.2.1, R.blk b40 31 [v31, v33, (.int .i64 u30.1.2.2.1), (.int .i64 u30.1.2.2.2)], R.blk b80 31 [v71, v73, (.int .i64 u70.1.2.2.1), (.int .i64 u70.1.2.2.2)]] := hS138.mut [4, 5] [0, 1, 2, 3, 6] rfl (M := [R.own ty_69 F72 v71 u70.1.1, R.own ty_3 F74 v73 u70.1.2.1]) rfl (M' := [R.own ty_69 F72 v71 u146.2.1, R.own ty_3 F74 v73 u146.2.2.1]) rfl hM149
              refine wl_assign rfl rfl ?_
              refine WL.nil ?_
              refine fun a ha => hK145 _ _ ?_ a ha
              refine W.seq fun K152 hK152 => ?_
              refine W.region ?_
              refine wl_assign rfl rfl ?_
              refine WL.nil ?_
              refine fun a ha => hK152 _ _ ?_ a ha
              refine W.seq fun K153 hK153 => ?_
              refine W.region ?_
              refine wl_load_blk (i := 6) (vs := [v71, v73, (.int .i64 u70.1.2.2.1), (.int .i64 u70.1.2.2.2)]) (v := (.agg #[v71, v73, (.int .i64 u70.1.2.2.1), (.int .i64 u70.1.2.2.2)])) tf_31 rfl rfl hS151 rfl rfl rfl ?_
              refine wl_move rfl rfl ?_
              obtain ⟨u154, hu154, hF⟩ := bindE hF
              refine wl_call rfl Try.call43 (C_laws_heldShow w147 (u146.2.1, u146.2.2.1, u70.1.2.2.1, u70.1.2.2.2) v71 (hS151.own_ro (i := 0) rfl) v73 (hS151.own_ro (i := 1) rfl) 1 _ hu154) rfl ?_
              rintro _ w155 ⟨rfl, hb156⟩
              refine ⟨_, rfl, ?_⟩
              have hB157 := hB150.trans (hb156.mono hB150.size)
              have hS158 := hS151.below hb156
              refine wl_assign rfl rfl ?_
              refine WL.nil ?_
              refine fun a ha => hK153 _ _ ?_ a ha
              refine W.seq fun K160 hK160 => ?_
              refine W.seq fun K161 hK161 => ?_
              refine W.region ?_
              refine wl_move rfl rfl ?_
              refine wl_lss rfl rfl rfl ?_
              refine WL.nil ?_
              refine fun a ha => hK161 _ _ ?_ a ha
              refine W.cond rfl (fun h162 => ?_) (fun h162 => ?_)
              · replace hF := ifP h162 hF
                refine W.seq fun K163 hK163 => ?_
                refine W.region ?_
                refine wl_assign rfl rfl ?_
                refine WL.nil ?_
                refine fun a ha => hK163 _ _ ?_ a ha
                refine W.ret ?_
                have hr := Option.some.inj hF
                subst hr
                exact rets (vs := [(.bool false)]) hQ rfl ⟨rv_tmp rfl, trivial⟩ ⟨rfl, hB157⟩
              · replace hF := ifN h162 hF
                refine W.skip ?_
                refine fun a ha => hK160 _ _ ?_ a ha
                refine W.seq fun K164 hK164 => ?_
                refine W.seq fun K165 hK165 => ?_
                refine W.region ?_
                refine wl_move rfl rfl ?_
                refine wl_move rfl rfl ?_
                refine wl_neq rfl rfl rfl ?_
                refine WL.nil ?_
                refine fun a ha => hK165 _ _ ?_ a ha
                refine W.cond rfl (fun h166 => ?_) (fun h166 => ?_)
                · replace hF := ifP h166 hF
                  refine W.seq fun K167 hK167 => ?_
                  refine W.region ?_
                  refine wl_assign rfl rfl ?_
                  refine WL.nil ?_
                  refine fun a ha => hK167 _ _ ?_ a ha
                  refine W.ret ?_
                  have hr := Option.some.inj hF
                  subst hr
                  exact rets (vs := [(.bool false)]) hQ rfl ⟨rv_tmp rfl, trivial⟩ ⟨rfl, hB157⟩
                · replace hF := ifN h166 hF
                  refine W.skip ?_
                  refine fun a ha => hK164 _ _ ?_ a ha
                  refine W.seq fun K168 hK168 => ?_
                  refine W.region ?_
                  refine wl_load_blk (i := 2) (vs := [v0_0, v0_1, (.int .i64 x0.2.2.1), (.int .i64 x0.2.2.2)]) (v := (.agg #[v0_0, v0_1, (.int .i64 x0.2.2.1), (.int .i64 x0.2.2.2)])) tf_25 rfl rfl hS158 rfl rfl rfl ?_
                  obtain ⟨u169, hu169, hF⟩ := bindE hF
                  refine wl_call rfl Try.call17 (C_laws_toShow w155 x0 v0_0 (h0_0.ro hB157) v0_1 (h0_1.ro hB157) _ hu169) rfl ?_
                  rintro _ w174 ⟨v170, F171, v172, F173, rfl, hb175, hM178⟩
                  refine ⟨_, rfl, ?_⟩
                  have hB176 := hB157.trans (hb175.mono hB157.size)
                  have hS177 := hS158.join hb175 hM178 hB157.size
                  refine wl_move rfl rfl ?_
                  refine wl_move rfl rfl ?_
                  obtain ⟨u179, hu179, hF⟩ := bindE hF
                  refine wl_call rfl Try.call51 (C_impl_StretchShow w174 u169 v170 (hS177.own_ro (i := 0) rfl) v172 (hS177.own_ro (i := 1) rfl) x1 x2 _ hu179) rfl ?_
                  rintro _ w184 ⟨v180, F181, v182, F183, rfl, hb185, hM188⟩
                  refine ⟨_, rfl, ?_⟩
                  have hB186 := hB176.trans (hb185.mono hB176.size)
                  have hS187 := hS177.join hb185 hM188 hB176.size
                  refine wl_move rfl rfl ?_
                  refine wl_extract rfl rfl rfl ?_
                  refine wl_extract rfl rfl rfl ?_
                  refine wl_alloc (cs := [(.slice none 0 0), (.slice none 0 0), (.int .i64 0), (.int .i64 0)]) tf_31 rfl rfl hB186 hS187 ?_
                  intro b189 w190 hb191 hB192 hS193
                  refine wl_store_blk (i := 0) (vs := [v180, v182, (.int .i64 u179.1.2.2.1), (.int .i64 u179.1.2.2.2)]) (cs' := [v180, v182, (.int .i64 u179.1.2.2.1), (.int .i64 u179.1.2.2.2)]) tf_31 rfl rfl rfl rfl hB192 hS193 rfl rfl ⟨(hS193.own_ro (i := 1) rfl).one, (hS193.own_ro (i := 2) rfl).one, rfl, rfl, trivial⟩ rfl ?_
                  intro w194 hk197 hB195 hS196
                  refine wl_assign rfl rfl ?_
                  refine WL.nil ?_
                  refine fun a ha => hK168 _ _ ?_ a ha
                  refine W.seq fun K198 hK198 => ?_
                  refine W.seq fun K199 hK199 => ?_
                  obtain ⟨k204, hk204, hF⟩ := jE1 hF
                  have hJ205 : ∀ (y203 : Bool) (w200 : World) (_ : k204 y203 = some r) (_ : Below w0.heap.size w0 w200) (_ : Sep w0.heap.size w200 [R.own ty_69 F72 v71 u146.2.1, R.own ty_3 F74 v73 u146.2.2.1, R.blk b80 31 [v71, v73, (.int .i64 u70.1.2.2.1), (.int .i64 u70.1.2.2.2)]]), ∀ a, St 106 [(11, (.pointer (some ⟨b80, 0, none⟩))), (14, (.int .i64 u146.1)), (97, (.bool y203))] a → K199 a w200 := by
                    intro y203 w200 hF hB201 hS202
                    subst hk204
                    refine fun a ha => hK199 _ _ ?_ a ha
                    refine W.cond rfl (fun h206 => ?_) (fun h206 => ?_)
                    · replace hF := ifP h206 hF
                      refine W.seq fun K207 hK207 => ?_
                      refine W.region ?_
                      refine wl_assign rfl rfl ?_
                      refine WL.nil ?_
                      refine fun a ha => hK207 _ _ ?_ a ha
                      refine W.ret ?_
                      have hr := Option.some.inj hF
                      subst hr
                      exact rets (vs := [(.bool false)]) hQ rfl ⟨rv_tmp rfl, trivial⟩ ⟨rfl, hB201⟩
                    · replace hF := ifN h206 hF
                      refine W.skip ?_
                      refine fun a ha => hK198 _ _ ?_ a ha
                      refine W.seq fun K208 hK208 => ?_
                      refine W.region ?_
                      refine wl_assign rfl rfl ?_
                      refine WL.nil ?_
                      refine fun a ha => hK208 _ _ ?_ a ha
                      refine W.seq fun K209 hK209 => ?_
                      refine W.region ?_
                      refine wl_load_blk (i := 2) (vs := [v71, v73, (.int .i64 u70.1.2.2.1), (.int .i64 u70.1.2.2.2)]) (v := (.agg #[v71, v73, (.int .i64 u70.1.2.2.1), (.int .i64 u70.1.2.2.2)])) tf_31 rfl rfl hS202 rfl rfl rfl ?_
                      refine wl_move rfl rfl ?_
                      obtain ⟨u210, hu210, hF⟩ := bindE hF
                      refine wl_call rfl Try.call43 (C_laws_heldShow w200 (u146.2.1, u146.2.2.1, u70.1.2.2.1, u70.1.2.2.2) v71 (hS202.own_ro (i := 0) rfl) v73 (hS202.own_ro (i := 1) rfl) 1 _ hu210) rfl ?_
                      rintro _ w211 ⟨rfl, hb212⟩
                      refine ⟨_, rfl, ?_⟩
                      have hB213 := hB201.trans (hb212.mono hB201.size)
                      have hS214 := hS202.below hb212
                      refine wl_assign rfl rfl ?_
                      refine WL.nil ?_
                      refine fun a ha => hK209 _ _ ?_ a ha
                      refine W.seq fun K216 hK216 => ?_
                      refine W.seq fun K217 hK217 => ?_
                      refine W.region ?_
                      refine wl_move rfl rfl ?_
                      refine wl_lss rfl rfl rfl ?_
                      refine WL.nil ?_
                      refine fun a ha => hK217 _ _ ?_ a ha
                      refine W.cond rfl (fun h218 => ?_) (fun h218 => ?_)
                      · replace hF := ifP h218 hF
                        refine W.seq fun K219 hK219 => ?_
                        refine W.region ?_
                        refine wl_assign rfl rfl ?_
                        refine WL.nil ?_
                        refine fun a ha => hK219 _ _ ?_ a ha
                        refine W.ret ?_
                        have hr := Option.some.inj hF
                        subst hr
                        exact rets (vs := [(.bool false)]) hQ rfl ⟨rv_tmp rfl, trivial⟩ ⟨rfl, hB213⟩
                      · replace hF := ifN h218 hF
                        refine W.skip ?_
                        refine fun a ha => hK216 _ _ ?_ a ha
                        refine W.seq fun K220 hK220 => ?_
                        refine W.seq fun K221 hK221 => ?_
                        refine W.region ?_
                        refine wl_move rfl rfl ?_
                        refine wl_move rfl rfl ?_
                        refine wl_neq rfl rfl rfl ?_
                        refine WL.nil ?_
                        refine fun a ha => hK221 _ _ ?_ a ha
                        refine W.cond rfl (fun h222 => ?_) (fun h222 => ?_)
                        · replace hF := ifP h222 hF
                          refine W.seq fun K223 hK223 => ?_
                          refine W.region ?_
                          refine wl_assign rfl rfl ?_
                          refine WL.nil ?_
                          refine fun a ha => hK223 _ _ ?_ a ha
                          refine W.ret ?_
                          have hr := Option.some.inj hF
                          subst hr
                          exact rets (vs := [(.bool false)]) hQ rfl ⟨rv_tmp rfl, trivial⟩ ⟨rfl, hB213⟩
                        · replace hF := ifN h222 hF
                          refine W.skip ?_
                          refine fun a ha => hK220 _ _ ?_ a ha
                          refine W.seq fun K224 hK224 => ?_
                          refine W.region ?_
                          refine wl_assign rfl rfl ?_
                          refine WL.nil ?_
                          refine fun a ha => hK224 _ _ ?_ a ha
                          refine W.ret ?_
                          have hr := Option.some.inj hF
                          subst hr
                          exact rets (vs := [(.bool true)]) hQ rfl ⟨rv_tmp rfl, trivial⟩ ⟨rfl, hB213⟩
                  refine W.region ?_
                  refine wl_load_blk (i := 0) (vs := [v180, v182, (.int .i64 u179.1.2.2.1), (.int .i64 u179.1.2.2.2)]) (v := (.agg #[v180, v182, (.int .i64 u179.1.2.2.1), (.int .i64 u179.1.2.2.2)])) tf_31 rfl rfl hS196 rfl rfl rfl ?_
                  refine wl_load_blk (i := 10) (vs := [v31, v33, (.int .i64 u30.1.2.2.1), (.int .i64 u30.1.2.2.2)]) (v := (.agg #[v31, v33, (.int .i64 u30.1.2.2.1), (.int .i64 u30.1.2.2.2)])) tf_31 rfl rfl hS196 rfl rfl rfl ?_
                  obtain ⟨u225, hu225, hF⟩ := bindE hF
                  refine wl_call rfl Try.call20 (C_laws_eqShow w194 u179.1 v180 (hS196.own_ro (i := 1) rfl) v182 (hS196.own_ro (i := 2) rfl) u30.1 v31 (hS196.own_ro (i := 8) rfl) v33 (hS196.own_ro (i := 9) rfl) _ hu225) rfl ?_
                  rintro _ w226 ⟨rfl, hb227⟩
                  refine ⟨_, rfl, ?_⟩
                  have hB228 := hB195.trans (hb227.mono hB195.size)
                  have hS229 := hS196.below hb227
                  refine wl_not rfl rfl ?_
                  refine wl_move rfl rfl ?_
                  rcases bE (!u225) with h231 | h231
                  · replace hF := ifP h231 hF
                    refine wl_off rfl rfl rfl h231 ?_
                    refine wl_off rfl rfl rfl h231 ?_
                    refine wl_off rfl rfl rfl h231 ?_
                    refine wl_pick_t rfl rfl h231 rfl ?_
                    refine WL.nil ?_
                    exact fun a ha => hJ205 (true) _ hF hB228 (hS229.sel [5, 6, 11] rfl) a (ha.sub ⟨rfl, rfl, rfl, trivial⟩)
                  · replace hF := ifN h231 hF
                    refine wl_on rfl rfl h231 ?_
                    refine wl_move rfl rfl ?_
                    refine wl_on rfl rfl h231 ?_
                    refine wl_move rfl rfl ?_
                    refine wl_on rfl rfl h231 ?_
                    refine wl_neqb Try.underlying4 rfl rfl rfl ?_
                    refine wl_pick_f rfl rfl h231 rfl ?_
                    refine WL.nil ?_
                    exact fun a ha => hJ205 ((u179.2 != u30.2)) _ hF hB228 (hS229.sel [5, 6, 11] rfl) a (ha.sub ⟨rfl, rfl, rfl, trivial⟩)
          refine W.region ?_
          refine wl_move rfl rfl ?_
          refine wl_lss rfl rfl rfl ?_
          refine wl_move rfl rfl ?_
          rcases bE (decide (u128.1 < 0)) with h232 | h232
          · replace hF := ifP h232 hF
            refine wl_off rfl rfl rfl h232 ?_
            refine wl_off rfl rfl rfl h232 ?_
            refine wl_off rfl rfl rfl h232 ?_
            refine wl_off rfl rfl rfl h232 ?_
            refine wl_pick_t rfl rfl h232 rfl ?_
            refine wl_move rfl rfl ?_
            refine wl_off rfl rfl rfl rfl ?_
            refine wl_off rfl rfl rfl rfl ?_
            refine wl_off rfl rfl rfl rfl ?_
            refine wl_pick_t rfl rfl rfl rfl ?_
            refine WL.nil ?_
            exact fun a ha => hJ141 (true) _ hF hB132 (hS133.sel [4, 5, 6, 7, 9, 10, 11] rfl) a (ha.sub ⟨rfl, rfl, rfl, rfl, rfl, rfl, rfl, trivial⟩)
          · replace hF := ifN h232 hF
            refine wl_on rfl rfl h232 ?_
            refine wl_load_blk (i := 11) (vs := [v71, v73, (.int .i64 u70.1.2.2.1), (.int .i64 u70.1.2.2.2)]) (v := (.agg #[v71, v73, (.int .i64 u70.1.2.2.1), (.int .i64 u70.1.2.2.2)])) tf_31 rfl rfl hS133 rfl rfl rfl ?_
            refine wl_on rfl rfl h232 ?_
            refine wl_load_blk (i := 7) (vs := [v31, v33, (.int .i64 u30.1.2.2.1), (.int .i64 u30.1.2.2.2)]) (v := (.agg #[v31, v33, (.int .i64 u30.1.2.2.1), (.int .i64 u30.1.2.2.2)])) tf_31 rfl rfl hS133 rfl rfl rfl ?_
            refine wl_on rfl rfl h232 ?_
            obtain ⟨u233, hu233, hF⟩ := bindE hF
            refine wl_call rfl Try.call20 (C_laws_eqShow w129 u70.1 v71 (hS133.own_ro (i := 9) rfl) v73 (hS133.own_ro (i := 10) rfl) u30.1 v31 (hS133.own_ro (i := 5) rfl) v33 (hS133.own_ro (i := 6) rfl) _ hu233) rfl ?_
            rintro _ w234 ⟨rfl, hb235⟩
            refine ⟨_, rfl, ?_⟩
            have hB236 := hB132.trans (hb235.mono hB132.size)
            have hS237 := hS133.below hb235
            refine wl_on rfl rfl h232 ?_
            refine wl_not rfl rfl ?_
            refine wl_pick_f rfl rfl h232 rfl ?_
            refine wl_move rfl rfl ?_
            rcases bE (!u233) with h239 | h239
            · replace hF := ifP h239 hF
              refine wl_off rfl rfl rfl h239 ?_
              refine wl_off rfl rfl rfl h239 ?_
              refine wl_off rfl rfl rfl h239 ?_
              refine wl_pick_t rfl rfl h239 rfl ?_
              refine WL.nil ?_
              exact fun a ha => hJ141 (true) _ hF hB236 (hS237.sel [4, 5, 6, 7, 9, 10, 11] rfl) a (ha.sub ⟨rfl, rfl, rfl, rfl, rfl, rfl, rfl, trivial⟩)
            · replace hF := ifN h239 hF
              refine wl_on rfl rfl h239 ?_
              refine wl_move rfl rfl ?_
              refine wl_on rfl rfl h239 ?_
              refine wl_move rfl rfl ?_
              refine wl_on rfl rfl h239 ?_
              refine wl_neqb Try.underlying4 rfl rfl rfl ?_
              refine wl_pick_f rfl rfl h239 rfl ?_
              refine WL.nil ?_
              exact fun a ha => hJ141 ((u70.2 != u30.2)) _ hF hB236 (hS237.sel [4, 5, 6, 7, 9, 10, 11] rfl) a (ha.sub ⟨rfl, rfl, rfl, rfl, rfl, rfl, rfl, trivial⟩)
    refine W.region ?_
    refine wl_load_blk (i := 0) (vs := [v71, v73, (.int .i64 u70.1.2.2.1), (.int .i64 u70.1.2.2.2)]) (v := (.agg #[v71, v73, (.int .i64 u70.1.2.2.1), (.int .i64 u70.1.2.2.2)])) tf_31 rfl rfl hS87 rfl rfl rfl ?_
    refine wl_load_blk (i := 6) (vs := [v31, v33, (.int .i64 u30.1.2.2.1), (.int .i64 u30.1.2.2.2)]) (v := (.agg #[v31, v33, (.int .i64 u30.1.2.2.1), (.int .i64 u30.1.2.2.2)])) tf_31 rfl rfl hS87 rfl rfl rfl ?_
    obtain ⟨u240, hu240, hF⟩ := bindE hF
    refine wl_call rfl Try.call20 (C_laws_eqShow w85 u70.1 v71 (hS87.own_ro (i := 1) rfl) v73 (hS87.own_ro (i := 2) rfl) u30.1 v31 (hS87.own_ro (i := 7) rfl) v33 (hS87.own_ro (i := 8) rfl) _ hu240) rfl ?_
    rintro _ w241 ⟨rfl, hb242⟩
    refine ⟨_, rfl, ?_⟩
    have hB243 := hB86.trans (hb242.mono hB86.size)
    have hS244 := hS87.below hb242
    refine wl_not rfl rfl ?_
    refine wl_move rfl rfl ?_
    rcases bE (!u240) with h246 | h246
    · replace hF := ifP h246 hF
      refine wl_off rfl rfl rfl h246 ?_
      refine wl_off rfl rfl rfl h246 ?_
      refine wl_off rfl rfl rfl h246 ?_
      refine wl_pick_t rfl rfl h246 rfl ?_
      refine WL.nil ?_
      exact fun a ha => hJ96 (true) _ hF hB243 (hS244.sel [11, 7, 8, 6, 4, 5, 3, 1, 2, 0] rfl) a (ha.sub ⟨rfl, rfl, rfl, rfl, rfl, rfl, rfl, rfl, rfl, trivial⟩)
    · replace hF := ifN h246 hF
      refine wl_on rfl rfl h246 ?_
      refine wl_move rfl rfl ?_
      refine wl_on rfl rfl h246 ?_
      refine wl_move rfl rfl ?_
      refine wl_on rfl rfl h246 ?_
      refine wl_neqb Try.underlying4 rfl rfl rfl ?_
      refine wl_pick_f rfl rfl h246 rfl ?_
      refine WL.nil ?_
      exact fun a ha => hJ96 ((u70.2 != u30.2)) _ hF hB243 (hS244.sel [11, 7, 8, 6, 4, 5, 3, 1, 2, 0] rfl) a (ha.sub ⟨rfl, rfl, rfl, rfl, rfl, rfl, rfl, rfl, rfl, trivial⟩)
end Go.Proofs.Ytadklddedeoniaa
