/-
  THE WALKS of functions of this seat, by program (gen.py, prune.py).
-/
import Derived.Test.YtcndhhjolnebdaaWXFnExactRunBeatsb
set_option linter.unusedSimpArgs false
set_option linter.unusedVariables false
set_option maxRecDepth 100000
namespace Go.Proofs.Ytcndhhjolnebdaa
open Go Go.RowKit
theorem C_impl_HaltPerformer (w0 : World) (x0 : (((List (List (Int × Int))) × (List Int) × Int × Int) × Int × (List Int) × (List Int))) (v0_0 : Value) (h0_0 : rdS ty_82 (· < w0.heap.size) w0 v0_0 x0.1.1) (v0_1 : Value) (h0_1 : rdS ty_3 (· < w0.heap.size) w0 v0_1 x0.1.2.1) (v0_2 : Value) (h0_2 : rdS ty_3 (· < w0.heap.size) w0 v0_2 x0.2.2.1) (v0_3 : Value) (h0_3 : rdS ty_3 (· < w0.heap.size) w0 v0_3 x0.2.2.2) (x1 : Int) (r : ((((List (List (Int × Int))) × (List Int) × Int × Int) × Int × (List Int) × (List Int)) × Bool)) (hF : F_impl_HaltPerformer x0 x1 = some r) :
    Calls Try.prog 18 [(.agg #[v0_0, v0_1, (.int .i64 x0.1.2.2.1), (.int .i64 x0.1.2.2.2), (.int .i64 x0.2.1), v0_2, v0_3]), (.int .i64 x1)].toArray w0 fun e w' => ∃ (q0 : Value) (G0 : List Nat) (q1 : Value) (G1 : List Nat) (q2 : Value) (G2 : List Nat) (q3 : Value) (G3 : List Nat), e = .returned (.tuple #[(.agg #[q0, q1, (.int .i64 r.1.1.2.2.1), (.int .i64 r.1.1.2.2.2), (.int .i64 r.1.2.1), q2, q3]), (.bool r.2)]) ∧ Below w0.heap.size w0 w' ∧ Sep w0.heap.size w' [R.own ty_82 G0 q0 r.1.1.1, R.own ty_3 G1 q1 r.1.1.2.1, R.own ty_3 G2 q2 r.1.2.2.1, R.own ty_3 G3 q3 r.1.2.2.2] := by
  refine calls_mk' Try.func18 rfl Try.ntmps18 rfl rfl fun Q hQ hP => ?_
  have hB : Below w0.heap.size w0 w0 := Below.refl _ _
  have hS : Sep w0.heap.size w0 [] := Sep.nil _ _
  unfold F_impl_HaltPerformer at hF
  refine W.seq fun K1 hK1 => ?_
  refine W.region ?_
  refine wl_box (cs := [v0_0, v0_1, (.int .i64 x0.1.2.2.1), (.int .i64 x0.1.2.2.2), (.int .i64 x0.2.1), v0_2, v0_3]) rfl rfl rfl hB hS ?_
  intro b2 w3 hb4 hB5 hS6
  refine wl_alloc (cs := [(.slice none 0 0), (.slice none 0 0), (.int .i64 0), (.int .i64 0), (.int .i64 0), (.slice none 0 0), (.slice none 0 0)]) tf_44 rfl rfl hB5 hS6 ?_
  intro b7 w8 hb9 hB10 hS11
  refine wl_assign rfl rfl ?_
  refine WL.nil ?_
  refine fun a ha => hK1 _ _ ?_ a ha
  refine W.seq fun K12 hK12 => ?_
  refine W.seq fun K13 hK13 => ?_
  obtain ⟨k18, hk18, hF⟩ := jE1 hF
  have hJ19 : ∀ (y17 : Bool) (w14 : World) (_ : k18 y17 = some r) (_ : Below w0.heap.size w0 w14) (_ : Sep w0.heap.size w14 [R.blk b2 44 [v0_0, v0_1, (.int .i64 x0.1.2.2.1), (.int .i64 x0.1.2.2.2), (.int .i64 x0.2.1), v0_2, v0_3], R.blk b7 44 [(.slice none 0 0), (.slice none 0 0), (.int .i64 0), (.int .i64 0), (.int .i64 0), (.slice none 0 0), (.slice none 0 0)]]), ∀ a, St 30 [(1, (.int .i64 x1)), (2, (.pointer (some ⟨b2, 0, none⟩))), (4, (.pointer (some ⟨b7, 0, none⟩))), (16, (.bool y17))] a → K13 a w14 := by
    intro y17 w14 hF hB15 hS16
    subst hk18
    refine fun a ha => hK13 _ _ ?_ a ha
    refine W.cond rfl (fun h20 => ?_) (fun h20 => ?_)
    · replace hF := ifP h20 hF
      refine W.seq fun K21 hK21 => ?_
      refine W.region ?_
      refine wl_build (zs := [(.slice none 0 0), (.slice none 0 0), (.int .i64 0), (.int .i64 0), (.int .i64 0), (.slice none 0 0), (.slice none 0 0)]) (out := [(.slice none 0 0), (.slice none 0 0), (.int .i64 0), (.int .i64 0), (.int .i64 0), (.slice none 0 0), (.slice none 0 0)]) (vs := []) (css := []) tf_44 pl_44 rfl rfl rfl rfl rfl ?_
      refine wl_store_blk (i := 1) (vs := [(.slice none 0 0), (.slice none 0 0), (.int .i64 0), (.int .i64 0), (.int .i64 0), (.slice none 0 0), (.slice none 0 0)]) (cs' := [(.slice none 0 0), (.slice none 0 0), (.int .i64 0), (.int .i64 0), (.int .i64 0), (.slice none 0 0), (.slice none 0 0)]) tf_44 rfl rfl rfl rfl hB15 hS16 rfl rfl ⟨rfl, rfl, rfl, rfl, rfl, rfl, rfl, trivial⟩ rfl ?_
      intro w22 hk25 hB23 hS24
      refine wl_assign rfl rfl ?_
      refine WL.nil ?_
      refine fun a ha => hK21 _ _ ?_ a ha
      refine W.ret ?_
      have hS26 := hS24.push0 (r := R.own ty_82 [] (.slice none 0 0) []) rfl fun _ => .inl ⟨rfl, rfl, rfl⟩
      have hS27 := hS26.push0 (r := R.own ty_3 [] (.slice none 0 0) []) rfl fun _ => .inl ⟨rfl, rfl, rfl⟩
      have hS28 := hS27.push0 (r := R.own ty_3 [] (.slice none 0 0) []) rfl fun _ => .inl ⟨rfl, rfl, rfl⟩
      have hS29 := hS28.push0 (r := R.own ty_3 [] (.slice none 0 0) []) rfl fun _ => .inl ⟨rfl, rfl, rfl⟩
      have hr := Option.some.inj hF
      subst hr
      exact rets (vs := [(.agg #[(.slice none 0 0), (.slice none 0 0), (.int .i64 0), (.int .i64 0), (.int .i64 0), (.slice none 0 0), (.slice none 0 0)]), (.bool false)]) hQ rfl ⟨rv_cell (i := 1) tf_44 rfl hS24 rfl rfl rfl, rv_tmp rfl, trivial⟩ ⟨(.slice none 0 0), [], (.slice none 0 0), [], (.slice none 0 0), [], (.slice none 0 0), [], rfl, hB23, hS29.sel [3, 2, 1, 0] rfl⟩
    · replace hF := ifN h20 hF
      refine W.skip ?_
      refine fun a ha => hK12 _ _ ?_ a ha
      refine W.seq fun K30 hK30 => ?_
      refine W.region ?_
      refine wl_load_blk (i := 0) (vs := [v0_0, v0_1, (.int .i64 x0.1.2.2.1), (.int .i64 x0.1.2.2.2), (.int .i64 x0.2.1), v0_2, v0_3]) (v := (.agg #[v0_0, v0_1, (.int .i64 x0.1.2.2.1), (.int .i64 x0.1.2.2.2), (.int .i64 x0.2.1), v0_2, v0_3])) tf_44 rfl rfl hS16 rfl rfl rfl ?_
      obtain ⟨u31, hu31, hF⟩ := bindE hF
      refine wl_call rfl Try.call44 (C_impl_copyMarch w14 x0 v0_0 (h0_0.ro hB15) v0_1 (h0_1.ro hB15) v0_2 (h0_2.ro hB15) v0_3 (h0_3.ro hB15) _ hu31) rfl ?_
      rintro _ w40 ⟨v32, F33, v34, F35, v36, F37, v38, F39, rfl, hb41, hM44⟩
      refine ⟨_, rfl, ?_⟩
      have hB42 := hB15.trans (hb41.mono hB15.size)
      have hS43 := hS16.join hb41 hM44 hB15.size
      refine wl_alloc (cs := [(.slice none 0 0), (.slice none 0 0), (.int .i64 0), (.int .i64 0), (.int .i64 0), (.slice none 0 0), (.slice none 0 0)]) tf_44 rfl rfl hB42 hS43 ?_
      intro b45 w46 hb47 hB48 hS49
      refine wl_store_blk (i := 0) (vs := [v32, v34, (.int .i64 u31.1.2.2.1), (.int .i64 u31.1.2.2.2), (.int .i64 u31.2.1), v36, v38]) (cs' := [v32, v34, (.int .i64 u31.1.2.2.1), (.int .i64 u31.1.2.2.2), (.int .i64 u31.2.1), v36, v38]) tf_44 rfl rfl rfl rfl hB48 hS49 rfl rfl ⟨(hS49.own_ro (i := 1) rfl).one, (hS49.own_ro (i := 2) rfl).one, rfl, rfl, rfl, (hS49.own_ro (i := 3) rfl).one, (hS49.own_ro (i := 4) rfl).one, trivial⟩ rfl ?_
      intro w50 hk53 hB51 hS52
      refine WL.nil ?_
      refine fun a ha => hK30 _ _ ?_ a ha
      refine W.seq fun K54 hK54 => ?_
      refine W.region ?_
      refine wl_field (o := 5) (off' := 5) ff_44_2 rfl rfl rfl ?_
      refine wl_load_blk (i := 0) (vs := [v36]) (v := v36) tf_24 rfl rfl hS52 rfl rfl rfl ?_
      refine wl_move rfl rfl ?_
      refine wl_lit (vs := [(.int .i64 x1)]) (l := [x1]) fl_3 Try.underlying24 rfl rfl rfl rfl rfl rfl hB51 hS52 ?_
      intro v55 F56 w57 hb58 hB59 hS60
      obtain ⟨u61, hu61, hF⟩ := bindE hF
      refine wl_append (i := 4) (S := (· < w57.heap.size)) fl_3 Try.underlying24 rfl rfl rfl hB59 hS60 rfl (hS60.own_ro (i := 0) rfl) hu61 ?_
      intro v62 F63 w65 hk66 hB67 hS68
      refine wl_field (o := 5) (off' := 5) ff_44_2 rfl rfl rfl ?_
      refine wl_store_blk (i := 1) (vs := [v62]) (cs' := [v32, v34, (.int .i64 u31.1.2.2.1), (.int .i64 u31.1.2.2.2), (.int .i64 u31.2.1), v62, v38]) tf_24 rfl rfl (cells_one (hS68.own_ro (i := 4) rfl).one) rfl hB67 hS68 rfl rfl ⟨(hS68.own_ro (i := 4) rfl).one, trivial⟩ rfl ?_
      intro w69 hk72 hB70 hS71
      refine WL.nil ?_
      refine fun a ha => hK54 _ _ ?_ a ha
      refine W.seq fun K73 hK73 => ?_
      refine W.region ?_
      refine wl_field (o := 5) (off' := 5) ff_44_2 rfl rfl rfl ?_
      refine wl_load_blk (i := 1) (vs := [v62]) (v := v62) tf_24 rfl rfl hS71 rfl rfl rfl ?_
      obtain ⟨u74, hu74, hF⟩ := bindE hF
      refine wl_call rfl Try.call45 (C_slices_Sort_int_int__mut w69 u61 v62 F63 (hS71.sel [4] rfl).base0 _ hu74) rfl ?_
      rintro _ w75 ⟨rfl, hE76, hM77⟩
      refine ⟨_, rfl, ?_⟩
      have hB78 := hS71.mutB [4] rfl (M := [R.own ty_3 F63 v62 u61]) rfl (M' := [R.own ty_3 F63 v62 u74]) rfl hB70 hB70.size hE76 hM77
      have hS79 : Sep w0.heap.size w75 [R.own ty_3 F63 v62 u74, R.own ty_3 F56 v55 [x1], R.blk b45 44 [v32, v34, (.int .i64 u31.1.2.2.1), (.int .i64 u31.1.2.2.2), (.int .i64 u31.2.1), v62, v38], R.own ty_82 F33 v32 u31.1.1, R.own ty_3 F35 v34 u31.1.2.1, R.own ty_3 F39 v38 u31.2.2.2, R.blk b2 44 [v0_0, v0_1, (.int .i64 x0.1.2.2.1), (.int .i64 x0.1.2.2.2), (.int .i64 x0.2.1), v0_2, v0_3], R.blk b7 44 [(.slice none 0 0), (.slice none 0 0), (.int .i64 0), (.int .i64 0), (.int .i64 0), (.slice none 0 0), (.slice none 0 0)]] := hS71.mut [4] [0, 1, 2, 3, 5, 6, 7] rfl (M := [R.own ty_3 F63 v62 u61]) rfl (M' := [R.own ty_3 F63 v62 u74]) rfl hM77
      refine WL.nil ?_
      refine fun a ha => hK73 _ _ ?_ a ha
      refine W.seq fun K80 hK80 => ?_
      refine W.region ?_
      refine wl_load_blk (i := 2) (vs := [v32, v34, (.int .i64 u31.1.2.2.1), (.int .i64 u31.1.2.2.2), (.int .i64 u31.2.1), v62, v38]) (v := (.agg #[v32, v34, (.int .i64 u31.1.2.2.1), (.int .i64 u31.1.2.2.2), (.int .i64 u31.2.1), v62, v38])) tf_44 rfl rfl hS79 rfl rfl rfl ?_
      refine wl_store_blk (i := 7) (vs := [v32, v34, (.int .i64 u31.1.2.2.1), (.int .i64 u31.1.2.2.2), (.int .i64 u31.2.1), v62, v38]) (cs' := [v32, v34, (.int .i64 u31.1.2.2.1), (.int .i64 u31.1.2.2.2), (.int .i64 u31.2.1), v62, v38]) tf_44 rfl rfl rfl rfl hB78 hS79 rfl rfl ⟨(hS79.own_ro (i := 3) rfl).one, (hS79.own_ro (i := 4) rfl).one, rfl, rfl, rfl, (hS79.own_ro (i := 0) rfl).one, (hS79.own_ro (i := 5) rfl).one, trivial⟩ rfl ?_
      intro w81 hk84 hB82 hS83
      refine wl_assign rfl rfl ?_
      refine WL.nil ?_
      refine fun a ha => hK80 _ _ ?_ a ha
      refine W.ret ?_
      have hr := Option.some.inj hF
      subst hr
      exact rets (vs := [(.agg #[v32, v34, (.int .i64 u31.1.2.2.1), (.int .i64 u31.1.2.2.2), (.int .i64 u31.2.1), v62, v38]), (.bool true)]) hQ rfl ⟨rv_cell (i := 7) tf_44 rfl hS83 rfl rfl rfl, rv_tmp rfl, trivial⟩ ⟨v32, F33, v34, F35, v62, F63, v38, F39, rfl, hB82, hS83.sel [3, 4, 0, 5] rfl⟩
  refine W.region ?_
  refine wl_load_blk (i := 1) (vs := [v0_0, v0_1, (.int .i64 x0.1.2.2.1), (.int .i64 x0.1.2.2.2), (.int .i64 x0.2.1), v0_2, v0_3]) (v := (.agg #[v0_0, v0_1, (.int .i64 x0.1.2.2.1), (.int .i64 x0.1.2.2.2), (.int .i64 x0.2.1), v0_2, v0_3])) tf_44 rfl rfl hS11 rfl rfl rfl ?_
  refine wl_move rfl rfl ?_
  obtain ⟨u85, hu85, hF⟩ := bindE hF
  refine wl_call rfl Try.call42 (C_impl_hasPerformer w8 x0 v0_0 (h0_0.ro hB10) v0_1 (h0_1.ro hB10) v0_2 (h0_2.ro hB10) v0_3 (h0_3.ro hB10) x1 _ hu85) rfl ?_
  rintro _ w86 ⟨rfl, hb87⟩
  refine ⟨_, rfl, ?_⟩
  have hB88 := hB10.trans (hb87.mono hB10.size)
  have hS89 := hS11.below hb87
  refine wl_not rfl rfl ?_
  refine wl_move rfl rfl ?_
  rcases bE (!u85) with h91 | h91
  · replace hF := ifP h91 hF
    refine wl_off rfl rfl rfl h91 ?_
    refine wl_off rfl rfl rfl h91 ?_
    refine wl_off rfl rfl rfl h91 ?_
    refine wl_off rfl rfl rfl h91 ?_
    refine wl_pick_t rfl rfl h91 rfl ?_
    refine WL.nil ?_
    exact fun a ha => hJ19 (true) _ hF hB88 (hS89.sel [1, 0] rfl) a (ha.sub ⟨rfl, rfl, rfl, rfl, trivial⟩)
  · replace hF := ifN h91 hF
    refine wl_on rfl rfl h91 ?_
    refine wl_field (o := 5) (off' := 5) ff_44_2 rfl rfl rfl ?_
    refine wl_on rfl rfl h91 ?_
    refine wl_load_blk (i := 1) (vs := [v0_2]) (v := v0_2) tf_24 rfl rfl hS89 rfl rfl rfl ?_
    refine wl_on rfl rfl h91 ?_
    refine wl_move rfl rfl ?_
    refine wl_on rfl rfl h91 ?_
    obtain ⟨u92, hu92, hF⟩ := bindE hF
    refine wl_call rfl Try.call43 (C_slices_Contains_int_int w86 x0.2.2.1 v0_2 (h0_2.ro hB88) x1 _ hu92) rfl ?_
    rintro _ w93 ⟨rfl, hb94⟩
    refine ⟨_, rfl, ?_⟩
    have hB95 := hB88.trans (hb94.mono hB88.size)
    have hS96 := hS89.below hb94
    refine wl_pick_f rfl rfl h91 rfl ?_
    refine WL.nil ?_
    exact fun a ha => hJ19 (u92) _ hF hB95 (hS96.sel [1, 0] rfl) a (ha.sub ⟨rfl, rfl, rfl, rfl, trivial⟩)
theorem C_laws_eqMarch (w0 : World) (x0 : (((List (List (Int × Int))) × (List Int) × Int × Int) × Int × (List Int) × (List Int))) (v0_0 : Value) (h0_0 : rdS ty_82 (· < w0.heap.size) w0 v0_0 x0.1.1) (v0_1 : Value) (h0_1 : rdS ty_3 (· < w0.heap.size) w0 v0_1 x0.1.2.1) (v0_2 : Value) (h0_2 : rdS ty_3 (· < w0.heap.size) w0 v0_2 x0.2.2.1) (v0_3 : Value) (h0_3 : rdS ty_3 (· < w0.heap.size) w0 v0_3 x0.2.2.2) (x1 : (((List (List (Int × Int))) × (List Int) × Int × Int) × Int × (List Int) × (List Int))) (v1_0 : Value) (h1_0 : rdS ty_82 (· < w0.heap.size) w0 v1_0 x1.1.1) (v1_1 : Value) (h1_1 : rdS ty_3 (· < w0.heap.size) w0 v1_1 x1.1.2.1) (v1_2 : Value) (h1_2 : rdS ty_3 (· < w0.heap.size) w0 v1_2 x1.2.2.1) (v1_3 : Value) (h1_3 : rdS ty_3 (· < w0.heap.size) w0 v1_3 x1.2.2.2) (r : Bool) (hF : F_laws_eqMarch x0 x1 = some r) :
    Calls Try.prog 19 [(.agg #[v0_0, v0_1, (.int .i64 x0.1.2.2.1), (.int .i64 x0.1.2.2.2), (.int .i64 x0.2.1), v0_2, v0_3]), (.agg #[v1_0, v1_1, (.int .i64 x1.1.2.2.1), (.int .i64 x1.1.2.2.2), (.int .i64 x1.2.1), v1_2, v1_3])].toArray w0 fun e w' => e = .returned (.bool r) ∧ Below w0.heap.size w0 w' := by
  refine calls_mk' Try.func19 rfl Try.ntmps19 rfl rfl fun Q hQ hP => ?_
  have hB : Below w0.heap.size w0 w0 := Below.refl _ _
  have hS : Sep w0.heap.size w0 [] := Sep.nil _ _
  unfold F_laws_eqMarch at hF
  refine W.seq fun K1 hK1 => ?_
  refine W.region ?_
  refine wl_box (cs := [v0_0, v0_1, (.int .i64 x0.1.2.2.1), (.int .i64 x0.1.2.2.2), (.int .i64 x0.2.1), v0_2, v0_3]) rfl rfl rfl hB hS ?_
  intro b2 w3 hb4 hB5 hS6
  refine wl_box (cs := [v1_0, v1_1, (.int .i64 x1.1.2.2.1), (.int .i64 x1.1.2.2.2), (.int .i64 x1.2.1), v1_2, v1_3]) rfl rfl rfl hB5 hS6 ?_
  intro b7 w8 hb9 hB10 hS11
  refine wl_assign rfl rfl ?_
  refine WL.nil ?_
  refine fun a ha => hK1 _ _ ?_ a ha
  refine W.seq fun K12 hK12 => ?_
  refine W.seq fun K13 hK13 => ?_
  refine W.region ?_
  refine wl_field (o := 0) (off' := 0) ff_44_0 rfl rfl rfl ?_
  refine wl_load_blk (i := 1) (vs := [v0_0, v0_1, (.int .i64 x0.1.2.2.1), (.int .i64 x0.1.2.2.2)]) (v := (.agg #[v0_0, v0_1, (.int .i64 x0.1.2.2.1), (.int .i64 x0.1.2.2.2)])) tf_42 rfl rfl hS11 rfl rfl rfl ?_
  refine wl_field (o := 0) (off' := 0) ff_44_0 rfl rfl rfl ?_
  refine wl_load_blk (i := 0) (vs := [v1_0, v1_1, (.int .i64 x1.1.2.2.1), (.int .i64 x1.1.2.2.2)]) (v := (.agg #[v1_0, v1_1, (.int .i64 x1.1.2.2.1), (.int .i64 x1.1.2.2.2)])) tf_42 rfl rfl hS11 rfl rfl rfl ?_
  obtain ⟨u14, hu14, hF⟩ := bindE hF
  refine wl_call rfl Try.call37 (C_laws_eqShow w8 x0.1 v0_0 (h0_0.ro hB10) v0_1 (h0_1.ro hB10) x1.1 v1_0 (h1_0.ro hB10) v1_1 (h1_1.ro hB10) _ hu14) rfl ?_
  rintro _ w15 ⟨rfl, hb16⟩
  refine ⟨_, rfl, ?_⟩
  have hB17 := hB10.trans (hb16.mono hB10.size)
  have hS18 := hS11.below hb16
  refine wl_not rfl rfl ?_
  refine WL.nil ?_
  refine fun a ha => hK13 _ _ ?_ a ha
  refine W.cond rfl (fun h20 => ?_) (fun h20 => ?_)
  · replace hF := ifP h20 hF
    refine W.seq fun K21 hK21 => ?_
    refine W.region ?_
    refine wl_assign rfl rfl ?_
    refine WL.nil ?_
    refine fun a ha => hK21 _ _ ?_ a ha
    refine W.ret ?_
    have hr := Option.some.inj hF
    subst hr
    exact rets (vs := [(.bool false)]) hQ rfl ⟨rv_tmp rfl, trivial⟩ ⟨rfl, hB17⟩
  · replace hF := ifN h20 hF
    refine W.skip ?_
    refine fun a ha => hK12 _ _ ?_ a ha
    refine W.seq fun K22 hK22 => ?_
    refine W.seq fun K23 hK23 => ?_
    refine W.region ?_
    refine wl_field (o := 4) (off' := 4) ff_44_1 rfl rfl rfl ?_
    refine wl_load_blk (i := 1) (vs := [(.int .i64 x0.2.1)]) (v := (.int .i64 x0.2.1)) tf_3 rfl rfl hS18 rfl rfl rfl ?_
    refine wl_field (o := 4) (off' := 4) ff_44_1 rfl rfl rfl ?_
    refine wl_load_blk (i := 0) (vs := [(.int .i64 x1.2.1)]) (v := (.int .i64 x1.2.1)) tf_3 rfl rfl hS18 rfl rfl rfl ?_
    refine wl_neq rfl rfl rfl ?_
    refine WL.nil ?_
    refine fun a ha => hK23 _ _ ?_ a ha
    refine W.cond rfl (fun h24 => ?_) (fun h24 => ?_)
    · replace hF := ifP h24 hF
      refine W.seq fun K25 hK25 => ?_
      refine W.region ?_
      refine wl_assign rfl rfl ?_
      refine WL.nil ?_
      refine fun a ha => hK25 _ _ ?_ a ha
      refine W.ret ?_
      have hr := Option.some.inj hF
      subst hr
      exact rets (vs := [(.bool false)]) hQ rfl ⟨rv_tmp rfl, trivial⟩ ⟨rfl, hB17⟩
    · replace hF := ifN h24 hF
      refine W.skip ?_
      refine fun a ha => hK22 _ _ ?_ a ha
      refine W.seq fun K26 hK26 => ?_
      refine W.seq fun K27 hK27 => ?_
      refine W.region ?_
      refine wl_field (o := 5) (off' := 5) ff_44_2 rfl rfl rfl ?_
      refine wl_load_blk (i := 1) (vs := [v0_2]) (v := v0_2) tf_24 rfl rfl hS18 rfl rfl rfl ?_
      refine wl_field (o := 5) (off' := 5) ff_44_2 rfl rfl rfl ?_
      refine wl_load_blk (i := 0) (vs := [v1_2]) (v := v1_2) tf_24 rfl rfl hS18 rfl rfl rfl ?_
      obtain ⟨u28, hu28, hF⟩ := bindE hF
      refine wl_call rfl Try.call10 (C_laws_eqIntS w15 x0.2.2.1 v0_2 (h0_2.ro hB17) x1.2.2.1 v1_2 (h1_2.ro hB17) _ hu28) rfl ?_
      rintro _ w29 ⟨rfl, hb30⟩
      refine ⟨_, rfl, ?_⟩
      have hB31 := hB17.trans (hb30.mono hB17.size)
      have hS32 := hS18.below hb30
      refine wl_not rfl rfl ?_
      refine WL.nil ?_
      refine fun a ha => hK27 _ _ ?_ a ha
      refine W.cond rfl (fun h34 => ?_) (fun h34 => ?_)
      · replace hF := ifP h34 hF
        refine W.seq fun K35 hK35 => ?_
        refine W.region ?_
        refine wl_assign rfl rfl ?_
        refine WL.nil ?_
        refine fun a ha => hK35 _ _ ?_ a ha
        refine W.ret ?_
        have hr := Option.some.inj hF
        subst hr
        exact rets (vs := [(.bool false)]) hQ rfl ⟨rv_tmp rfl, trivial⟩ ⟨rfl, hB31⟩
      · replace hF := ifN h34 hF
        refine W.skip ?_
        refine fun a ha => hK26 _ _ ?_ a ha
        refine W.seq fun K36 hK36 => ?_
        refine W.seq fun K37 hK37 => ?_
        refine W.region ?_
        refine wl_field (o := 6) (off' := 6) ff_44_3 rfl rfl rfl ?_
        refine wl_load_blk (i := 1) (vs := [v0_3]) (v := v0_3) tf_24 rfl rfl hS32 rfl rfl rfl ?_
        refine wl_field (o := 6) (off' := 6) ff_44_3 rfl rfl rfl ?_
        refine wl_load_blk (i := 0) (vs := [v1_3]) (v := v1_3) tf_24 rfl rfl hS32 rfl rfl rfl ?_
        obtain ⟨u38, hu38, hF⟩ := bindE hF
        refine wl_call rfl Try.call10 (C_laws_eqIntS w29 x0.2.2.2 v0_3 (h0_3.ro hB31) x1.2.2.2 v1_3 (h1_3.ro hB31) _ hu38) rfl ?_
        rintro _ w39 ⟨rfl, hb40⟩
        refine ⟨_, rfl, ?_⟩
        have hB41 := hB31.trans (hb40.mono hB31.size)
        have hS42 := hS32.below hb40
        refine wl_not rfl rfl ?_
        refine WL.nil ?_
        refine fun a ha => hK37 _ _ ?_ a ha
        refine W.cond rfl (fun h44 => ?_) (fun h44 => ?_)
        · replace hF := ifP h44 hF
          refine W.seq fun K45 hK45 => ?_
          refine W.region ?_
          refine wl_assign rfl rfl ?_
          refine WL.nil ?_
          refine fun a ha => hK45 _ _ ?_ a ha
          refine W.ret ?_
          have hr := Option.some.inj hF
          subst hr
          exact rets (vs := [(.bool false)]) hQ rfl ⟨rv_tmp rfl, trivial⟩ ⟨rfl, hB41⟩
        · replace hF := ifN h44 hF
          refine W.skip ?_
          refine fun a ha => hK36 _ _ ?_ a ha
          refine W.seq fun K46 hK46 => ?_
          refine W.region ?_
          refine wl_assign rfl rfl ?_
          refine WL.nil ?_
          refine fun a ha => hK46 _ _ ?_ a ha
          refine W.ret ?_
          have hr := Option.some.inj hF
          subst hr
          exact rets (vs := [(.bool true)]) hQ rfl ⟨rv_tmp rfl, trivial⟩ ⟨rfl, hB41⟩
theorem C_laws_markShow (w0 : World) (x0 : ((List (List (Int × Int))) × (List Int) × Int × Int)) (v0_0 : Value) (B0_0 : List Nat) (v0_1 : Value) (B0_1 : List Nat) (x1 : Int) (hS0 : Sep 0 w0 [R.own ty_82 B0_0 v0_0 x0.1, R.own ty_3 B0_1 v0_1 x0.2.1]) (r : (Int × ((List (List (Int × Int))) × (List Int) × Int × Int))) (hF : F_laws_markShow x0 x1 = some r) :
    Calls Try.prog 46 [(.agg #[v0_0, v0_1, (.int .i64 x0.2.2.1), (.int .i64 x0.2.2.2)]), (.int .i64 x1)].toArray w0 fun e w' => e = .returned (.int .i64 r.1) ∧ Below 0 (wE w0) w' ∧ Sep 0 w' [R.rest w0 (fps [R.own ty_82 B0_0 v0_0 x0.1, R.own ty_3 B0_1 v0_1 x0.2.1]), R.own ty_82 B0_0 v0_0 r.2.1, R.own ty_3 B0_1 v0_1 r.2.2.1] := by
  refine calls_mk' Try.func46 rfl Try.ntmps46 rfl rfl fun Q hQ hP => ?_
  have hB : Below (wE w0).heap.size (wE w0) w0 := wE_below w0
  have hS : Sep (wE w0).heap.size w0 [R.rest w0 (fps [R.own ty_82 B0_0 v0_0 x0.1, R.own ty_3 B0_1 v0_1 x0.2.1]), R.own ty_82 B0_0 v0_0 x0.1, R.own ty_3 B0_1 v0_1 x0.2.1] := hS0.rest
  unfold F_laws_markShow at hF
  refine W.seq fun K1 hK1 => ?_
  refine W.region ?_
  refine wl_box (cs := [v0_0, v0_1, (.int .i64 x0.2.2.1), (.int .i64 x0.2.2.2)]) rfl rfl rfl hB hS ?_
  intro b2 w3 hb4 hB5 hS6
  refine wl_assign rfl rfl ?_
  refine WL.nil ?_
  refine fun a ha => hK1 _ _ ?_ a ha
  refine W.seq fun K7 hK7 => ?_
  refine W.region ?_
  refine wl_field (o := 0) (off' := 0) ff_42_0 rfl rfl rfl ?_
  refine wl_load_blk (i := 0) (vs := [v0_0]) (v := v0_0) tf_40 rfl rfl hS6 rfl rfl rfl ?_
  refine wl_move rfl rfl ?_
  obtain ⟨u8, hu8, hF⟩ := bindE hF
  refine wl_call rfl Try.call38 (C_laws_markSpotSS w3 x0.1 v0_0 B0_0 x1 (hS6.sel [2] rfl).base0 _ hu8) rfl ?_
  rintro _ w9 ⟨rfl, hE10, hM11⟩
  refine ⟨_, rfl, ?_⟩
  have hB12 := hS6.mutB [2] rfl (M := [R.own ty_82 B0_0 v0_0 x0.1]) rfl (M' := [R.own ty_82 B0_0 v0_0 u8.2]) rfl hB5 hB5.size hE10 hM11
  have hS13 : Sep (wE w0).heap.size w9 [R.own ty_82 B0_0 v0_0 u8.2, R.blk b2 42 [v0_0, v0_1, (.int .i64 x0.2.2.1), (.int .i64 x0.2.2.2)], R.rest w0 (fps [R.own ty_82 B0_0 v0_0 x0.1, R.own ty_3 B0_1 v0_1 x0.2.1]), R.own ty_3 B0_1 v0_1 x0.2.1] := hS6.mut [2] [0, 1, 3] rfl (M := [R.own ty_82 B0_0 v0_0 x0.1]) rfl (M' := [R.own ty_82 B0_0 v0_0 u8.2]) rfl hM11
  refine wl_assign rfl rfl ?_
  refine WL.nil ?_
  refine fun a ha => hK7 _ _ ?_ a ha
  refine W.seq fun K14 hK14 => ?_
  refine W.region ?_
  refine wl_field (o := 1) (off' := 1) ff_42_1 rfl rfl rfl ?_
  refine wl_load_blk (i := 1) (vs := [v0_1]) (v := v0_1) tf_24 rfl rfl hS13 rfl rfl rfl ?_
  refine wl_move rfl rfl ?_
  obtain ⟨u15, hu15, hF⟩ := bindE hF
  refine wl_call rfl Try.call13 (C_laws_markIntS w9 x0.2.1 v0_1 B0_1 u8.1 (hS13.sel [3] rfl).base0 _ hu15) rfl ?_
  rintro _ w16 ⟨rfl, hE17, hM18⟩
  refine ⟨_, rfl, ?_⟩
  have hB19 := hS13.mutB [3] rfl (M := [R.own ty_3 B0_1 v0_1 x0.2.1]) rfl (M' := [R.own ty_3 B0_1 v0_1 u15.2]) rfl hB12 hB12.size hE17 hM18
  have hS20 : Sep (wE w0).heap.size w16 [R.own ty_3 B0_1 v0_1 u15.2, R.own ty_82 B0_0 v0_0 u8.2, R.blk b2 42 [v0_0, v0_1, (.int .i64 x0.2.2.1), (.int .i64 x0.2.2.2)], R.rest w0 (fps [R.own ty_82 B0_0 v0_0 x0.1, R.own ty_3 B0_1 v0_1 x0.2.1])] := hS13.mut [3] [0, 1, 2] rfl (M := [R.own ty_3 B0_1 v0_1 x0.2.1]) rfl (M' := [R.own ty_3 B0_1 v0_1 u15.2]) rfl hM18
  refine wl_assign rfl rfl ?_
  refine WL.nil ?_
  refine fun a ha => hK14 _ _ ?_ a ha
  refine W.seq fun K21 hK21 => ?_
  refine W.region ?_
  refine wl_move rfl rfl ?_
  refine wl_assign rfl rfl ?_
  refine WL.nil ?_
  refine fun a ha => hK21 _ _ ?_ a ha
  refine W.ret ?_
  have hr := Option.some.inj hF
  subst hr
  exact rets (vs := [(.int .i64 u15.1)]) hQ rfl ⟨rv_tmp rfl, trivial⟩ ⟨rfl, hB19, hS20.sel [3, 1, 0] rfl⟩
theorem C_laws_markMarch (w0 : World) (x0 : (((List (List (Int × Int))) × (List Int) × Int × Int) × Int × (List Int) × (List Int))) (v0_0 : Value) (B0_0 : List Nat) (v0_1 : Value) (B0_1 : List Nat) (v0_2 : Value) (B0_2 : List Nat) (v0_3 : Value) (B0_3 : List Nat) (x1 : Int) (hS0 : Sep 0 w0 [R.own ty_82 B0_0 v0_0 x0.1.1, R.own ty_3 B0_1 v0_1 x0.1.2.1, R.own ty_3 B0_2 v0_2 x0.2.2.1, R.own ty_3 B0_3 v0_3 x0.2.2.2]) (r : (Int × (((List (List (Int × Int))) × (List Int) × Int × Int) × Int × (List Int) × (List Int)))) (hF : F_laws_markMarch x0 x1 = some r) :
    Calls Try.prog 20 [(.agg #[v0_0, v0_1, (.int .i64 x0.1.2.2.1), (.int .i64 x0.1.2.2.2), (.int .i64 x0.2.1), v0_2, v0_3]), (.int .i64 x1)].toArray w0 fun e w' => e = .returned (.int .i64 r.1) ∧ Below 0 (wE w0) w' ∧ Sep 0 w' [R.rest w0 (fps [R.own ty_82 B0_0 v0_0 x0.1.1, R.own ty_3 B0_1 v0_1 x0.1.2.1, R.own ty_3 B0_2 v0_2 x0.2.2.1, R.own ty_3 B0_3 v0_3 x0.2.2.2]), R.own ty_82 B0_0 v0_0 r.2.1.1, R.own ty_3 B0_1 v0_1 r.2.1.2.1, R.own ty_3 B0_2 v0_2 r.2.2.2.1, R.own ty_3 B0_3 v0_3 r.2.2.2.2] := by
  refine calls_mk' Try.func20 rfl Try.ntmps20 rfl rfl fun Q hQ hP => ?_
  have hB : Below (wE w0).heap.size (wE w0) w0 := wE_below w0
  have hS : Sep (wE w0).heap.size w0 [R.rest w0 (fps [R.own ty_82 B0_0 v0_0 x0.1.1, R.own ty_3 B0_1 v0_1 x0.1.2.1, R.own ty_3 B0_2 v0_2 x0.2.2.1, R.own ty_3 B0_3 v0_3 x0.2.2.2]), R.own ty_82 B0_0 v0_0 x0.1.1, R.own ty_3 B0_1 v0_1 x0.1.2.1, R.own ty_3 B0_2 v0_2 x0.2.2.1, R.own ty_3 B0_3 v0_3 x0.2.2.2] := hS0.rest
  unfold F_laws_markMarch at hF
  refine W.seq fun K1 hK1 => ?_
  refine W.region ?_
  refine wl_box (cs := [v0_0, v0_1, (.int .i64 x0.1.2.2.1), (.int .i64 x0.1.2.2.2), (.int .i64 x0.2.1), v0_2, v0_3]) rfl rfl rfl hB hS ?_
  intro b2 w3 hb4 hB5 hS6
  refine wl_assign rfl rfl ?_
  refine WL.nil ?_
  refine fun a ha => hK1 _ _ ?_ a ha
  refine W.seq fun K7 hK7 => ?_
  refine W.region ?_
  refine wl_field (o := 0) (off' := 0) ff_44_0 rfl rfl rfl ?_
  refine wl_load_blk (i := 0) (vs := [v0_0, v0_1, (.int .i64 x0.1.2.2.1), (.int .i64 x0.1.2.2.2)]) (v := (.agg #[v0_0, v0_1, (.int .i64 x0.1.2.2.1), (.int .i64 x0.1.2.2.2)])) tf_42 rfl rfl hS6 rfl rfl rfl ?_
  refine wl_move rfl rfl ?_
  obtain ⟨u8, hu8, hF⟩ := bindE hF
  refine wl_call rfl Try.call46 (C_laws_markShow w3 x0.1 v0_0 B0_0 v0_1 B0_1 x1 (hS6.sel [2, 3] rfl).base0 _ hu8) rfl ?_
  rintro _ w9 ⟨rfl, hE10, hM11⟩
  refine ⟨_, rfl, ?_⟩
  have hB12 := hS6.mutB [2, 3] rfl (M := [R.own ty_82 B0_0 v0_0 x0.1.1, R.own ty_3 B0_1 v0_1 x0.1.2.1]) rfl (M' := [R.own ty_82 B0_0 v0_0 u8.2.1, R.own ty_3 B0_1 v0_1 u8.2.2.1]) rfl hB5 hB5.size hE10 hM11
  have hS13 : Sep (wE w0).heap.size w9 [R.own ty_82 B0_0 v0_0 u8.2.1, R.own ty_3 B0_1 v0_1 u8.2.2.1, R.blk b2 44 [v0_0, v0_1, (.int .i64 x0.1.2.2.1), (.int .i64 x0.1.2.2.2), (.int .i64 x0.2.1), v0_2, v0_3], R.rest w0 (fps [R.own ty_82 B0_0 v0_0 x0.1.1, R.own ty_3 B0_1 v0_1 x0.1.2.1, R.own ty_3 B0_2 v0_2 x0.2.2.1, R.own ty_3 B0_3 v0_3 x0.2.2.2]), R.own ty_3 B0_2 v0_2 x0.2.2.1, R.own ty_3 B0_3 v0_3 x0.2.2.2] := hS6.mut [2, 3] [0, 1, 4, 5] rfl (M := [R.own ty_82 B0_0 v0_0 x0.1.1, R.own ty_3 B0_1 v0_1 x0.1.2.1]) rfl (M' := [R.own ty_82 B0_0 v0_0 u8.2.1, R.own ty_3 B0_1 v0_1 u8.2.2.1]) rfl hM11
  refine wl_assign rfl rfl ?_
  refine WL.nil ?_
  refine fun a ha => hK7 _ _ ?_ a ha
  refine W.seq fun K14 hK14 => ?_
  refine W.region ?_
  refine wl_field (o := 5) (off' := 5) ff_44_2 rfl rfl rfl ?_
  refine wl_load_blk (i := 2) (vs := [v0_2]) (v := v0_2) tf_24 rfl rfl hS13 rfl rfl rfl ?_
  refine wl_move rfl rfl ?_
  obtain ⟨u15, hu15, hF⟩ := bindE hF
  refine wl_call rfl Try.call13 (C_laws_markIntS w9 x0.2.2.1 v0_2 B0_2 u8.1 (hS13.sel [4] rfl).base0 _ hu15) rfl ?_
  rintro _ w16 ⟨rfl, hE17, hM18⟩
  refine ⟨_, rfl, ?_⟩
  have hB19 := hS13.mutB [4] rfl (M := [R.own ty_3 B0_2 v0_2 x0.2.2.1]) rfl (M' := [R.own ty_3 B0_2 v0_2 u15.2]) rfl hB12 hB12.size hE17 hM18
  have hS20 : Sep (wE w0).heap.size w16 [R.own ty_3 B0_2 v0_2 u15.2, R.own ty_82 B0_0 v0_0 u8.2.1, R.own ty_3 B0_1 v0_1 u8.2.2.1, R.blk b2 44 [v0_0, v0_1, (.int .i64 x0.1.2.2.1), (.int .i64 x0.1.2.2.2), (.int .i64 x0.2.1), v0_2, v0_3], R.rest w0 (fps [R.own ty_82 B0_0 v0_0 x0.1.1, R.own ty_3 B0_1 v0_1 x0.1.2.1, R.own ty_3 B0_2 v0_2 x0.2.2.1, R.own ty_3 B0_3 v0_3 x0.2.2.2]), R.own ty_3 B0_3 v0_3 x0.2.2.2] := hS13.mut [4] [0, 1, 2, 3, 5] rfl (M := [R.own ty_3 B0_2 v0_2 x0.2.2.1]) rfl (M' := [R.own ty_3 B0_2 v0_2 u15.2]) rfl hM18
  refine wl_assign rfl rfl ?_
  refine WL.nil ?_
  refine fun a ha => hK14 _ _ ?_ a ha
  refine W.seq fun K21 hK21 => ?_
  refine W.region ?_
  refine wl_field (o := 6) (off' := 6) ff_44_3 rfl rfl rfl ?_
  refine wl_load_blk (i := 3) (vs := [v0_3]) (v := v0_3) tf_24 rfl rfl hS20 rfl rfl rfl ?_
  refine wl_move rfl rfl ?_
  obtain ⟨u22, hu22, hF⟩ := bindE hF
  refine wl_call rfl Try.call13 (C_laws_markIntS w16 x0.2.2.2 v0_3 B0_3 u15.1 (hS20.sel [5] rfl).base0 _ hu22) rfl ?_
  rintro _ w23 ⟨rfl, hE24, hM25⟩
  refine ⟨_, rfl, ?_⟩
  have hB26 := hS20.mutB [5] rfl (M := [R.own ty_3 B0_3 v0_3 x0.2.2.2]) rfl (M' := [R.own ty_3 B0_3 v0_3 u22.2]) rfl hB19 hB19.size hE24 hM25
  have hS27 : Sep (wE w0).heap.size w23 [R.own ty_3 B0_3 v0_3 u22.2, R.own ty_3 B0_2 v0_2 u15.2, R.own ty_82 B0_0 v0_0 u8.2.1, R.own ty_3 B0_1 v0_1 u8.2.2.1, R.blk b2 44 [v0_0, v0_1, (.int .i64 x0.1.2.2.1), (.int .i64 x0.1.2.2.2), (.int .i64 x0.2.1), v0_2, v0_3], R.rest w0 (fps [R.own ty_82 B0_0 v0_0 x0.1.1, R.own ty_3 B0_1 v0_1 x0.1.2.1, R.own ty_3 B0_2 v0_2 x0.2.2.1, R.own ty_3 B0_3 v0_3 x0.2.2.2])] := hS20.mut [5] [0, 1, 2, 3, 4] rfl (M := [R.own ty_3 B0_3 v0_3 x0.2.2.2]) rfl (M' := [R.own ty_3 B0_3 v0_3 u22.2]) rfl hM25
  refine wl_assign rfl rfl ?_
  refine WL.nil ?_
  refine fun a ha => hK21 _ _ ?_ a ha
  refine W.seq fun K28 hK28 => ?_
  refine W.region ?_
  refine wl_move rfl rfl ?_
  refine wl_assign rfl rfl ?_
  refine WL.nil ?_
  refine fun a ha => hK28 _ _ ?_ a ha
  refine W.ret ?_
  have hr := Option.some.inj hF
  subst hr
  exact rets (vs := [(.int .i64 u22.1)]) hQ rfl ⟨rv_tmp rfl, trivial⟩ ⟨rfl, hB26, hS27.sel [5, 2, 3, 1, 0] rfl⟩
theorem C_laws_heldSpotS (w0 : World) (x0 : (List (Int × Int))) (v0_0 : Value) (h0_0 : rdS ty_106 (· < w0.heap.size) w0 v0_0 x0) (x1 : Int) (r : Int) (hF : F_laws_heldSpotS x0 x1 = some r) :
    Calls Try.prog 114 [v0_0, (.int .i64 x1)].toArray w0 fun e w' => e = .returned (.int .i64 r) ∧ Below w0.heap.size w0 w' := by
  refine calls_mk' Try.func114 rfl Try.ntmps114 rfl rfl fun Q hQ hP => ?_
  have hB : Below w0.heap.size w0 w0 := Below.refl _ _
  have hS : Sep w0.heap.size w0 [] := Sep.nil _ _
  unfold F_laws_heldSpotS at hF
  refine W.seq fun K1 hK1 => ?_
  refine W.region ?_
  refine wl_assign rfl rfl ?_
  refine WL.nil ?_
  refine fun a ha => hK1 _ _ ?_ a ha
  refine W.seq fun K2 hK2 => ?_
  refine W.seq fun K3 hK3 => ?_
  refine W.region ?_
  refine wl_assign rfl rfl ?_
  refine WL.nil ?_
  refine fun a ha => hK3 _ _ ?_ a ha
  refine W.block ?_
  refine W.loopk (fun m a w4 => ∃ (y7 : Int) (y8 : Int), St 31 [(0, v0_0), (1, (.int .i64 y7)), (5, (.int .i64 y8))] a ∧ Below w0.heap.size w0 w4 ∧ Sep w0.heap.size w4 [] ∧ F_laws_heldSpotS_L1 x0 m y7 y8 = some r) FU ?_ ?_
  ·
    exact fun a ha => ⟨x1, 0, ha.sub ⟨rfl, rfl, rfl, trivial⟩, hB, (hS.sel [] rfl), hF⟩
  ·
    rintro m11 a w4 ⟨y7, y8, ha, hB5, hS6, hF⟩ KL10 hKL10
    refine W.at ?_ ha
    cases m11 with
    | zero => exact noneE hF
    | succ m11 =>
      obtain ⟨nx9, hnx9⟩ : ∃ k, k = F_laws_heldSpotS_L1 x0 m11 := ⟨_, rfl⟩
      rw [F_laws_heldSpotS_L1, ← hnx9] at hF
      refine W.seq fun K12 hK12 => ?_
      refine W.seq fun K13 hK13 => ?_
      refine W.region ?_
      refine wl_move rfl rfl ?_
      refine wl_move rfl rfl ?_
      refine wl_lenr (e := ty_106) (l := x0) Try.underlying82 rfl rfl h0_0 ?_
      refine wl_lss rfl rfl rfl ?_
      refine WL.nil ?_
      refine fun a ha => hK13 _ _ ?_ a ha
      refine W.cond rfl (fun h14 => ?_) (fun h14 => ?_)
      · replace hF := ifP h14 hF
        refine W.skip ?_
        refine fun a ha => hK12 _ _ ?_ a ha
        refine W.seq fun K15 hK15 => ?_
        refine W.block ?_
        refine W.seq fun K16 hK16 => ?_
        refine W.seq fun K17 hK17 => ?_
        refine W.region ?_
        refine wl_move rfl rfl ?_
        refine wl_move rfl rfl ?_
        obtain ⟨u18, hu18, hF⟩ := bindE hF
        refine wl_index (e := ty_106) Try.underlying82 rfl rfl rfl h0_0 hu18 ?_
        rintro p19 _ rfl hp20
        refine wl_fieldp (o := 0) ff_106_0 rfl rfl ?_
        refine wl_load_p (vs := [(.int .i64 u18.1)]) (v := (.int .i64 u18.1)) tf_3 rfl rfl ((hp20.ro hB5).add 0) rfl rfl ?_
        refine wl_move rfl rfl ?_
        refine wl_neq rfl rfl rfl ?_
        refine WL.nil ?_
        refine fun a ha => hK17 _ _ ?_ a ha
        refine W.cond rfl (fun h21 => ?_) (fun h21 => ?_)
        · replace hF := ifP h21 hF
          refine W.seq fun K22 hK22 => ?_
          refine W.region ?_
          refine wl_assign rfl rfl ?_
          refine WL.nil ?_
          refine fun a ha => hK22 _ _ ?_ a ha
          refine W.ret ?_
          have hr := Option.some.inj hF
          subst hr
          exact rets (vs := [(.int .i64 (-1))]) hQ rfl ⟨rv_tmp rfl, trivial⟩ ⟨rfl, hB5⟩
        · replace hF := ifN h21 hF
          refine W.skip ?_
          refine fun a ha => hK16 _ _ ?_ a ha
          refine W.seq fun K23 hK23 => ?_
          refine W.region ?_
          refine wl_move rfl rfl ?_
          refine wl_add rfl rfl rfl ?_
          refine wl_assign rfl rfl ?_
          refine WL.nil ?_
          refine fun a ha => hK23 _ _ ?_ a ha
          refine W.seq fun K24 hK24 => ?_
          refine W.seq fun K25 hK25 => ?_
          refine W.region ?_
          refine wl_move rfl rfl ?_
          refine wl_move rfl rfl ?_
          obtain ⟨u26, hu26, hF⟩ := bindE hF
          refine wl_index (e := ty_106) Try.underlying82 rfl rfl rfl h0_0 hu26 ?_
          rintro p27 _ rfl hp28
          refine wl_fieldp (o := 1) ff_106_1 rfl rfl ?_
          refine wl_load_p (vs := [(.int .i64 u26.2)]) (v := (.int .i64 u26.2)) tf_3 rfl rfl ((hp28.ro hB5).add 1) rfl rfl ?_
          refine wl_move rfl rfl ?_
          refine wl_neq rfl rfl rfl ?_
          refine WL.nil ?_
          refine fun a ha => hK25 _ _ ?_ a ha
          refine W.cond rfl (fun h29 => ?_) (fun h29 => ?_)
          · replace hF := ifP h29 hF
            refine W.seq fun K30 hK30 => ?_
            refine W.region ?_
            refine wl_assign rfl rfl ?_
            refine WL.nil ?_
            refine fun a ha => hK30 _ _ ?_ a ha
            refine W.ret ?_
            have hr := Option.some.inj hF
            subst hr
            exact rets (vs := [(.int .i64 (-1))]) hQ rfl ⟨rv_tmp rfl, trivial⟩ ⟨rfl, hB5⟩
          · replace hF := ifN h29 hF
            refine W.skip ?_
            refine fun a ha => hK24 _ _ ?_ a ha
            refine W.region ?_
            refine wl_move rfl rfl ?_
            refine wl_add rfl rfl rfl ?_
            refine wl_assign rfl rfl ?_
            refine WL.nil ?_
            refine fun a ha => hK15 _ _ ?_ a ha
            refine W.region ?_
            refine wl_move rfl rfl ?_
            refine wl_add rfl rfl rfl ?_
            refine wl_assign rfl rfl ?_
            refine WL.nil ?_
            rw [hnx9] at hF
            exact fun a ha => hKL10 a _ m11 (Nat.lt_succ_self m11) ⟨(w64 ((w64 (y7 + 1)) + 1)), (w64 (y8 + 1)), ha.sub ⟨rfl, rfl, rfl, trivial⟩, hB5, (hS6.sel [] rfl), hF⟩
      · replace hF := ifN h14 hF
        refine W.exit ?_
        refine fun a ha => hK2 _ _ ?_ a ha
        refine W.seq fun K31 hK31 => ?_
        refine W.region ?_
        refine wl_move rfl rfl ?_
        refine wl_assign rfl rfl ?_
        refine WL.nil ?_
        refine fun a ha => hK31 _ _ ?_ a ha
        refine W.ret ?_
        have hr := Option.some.inj hF
        subst hr
        exact rets (vs := [(.int .i64 y7)]) hQ rfl ⟨rv_tmp rfl, trivial⟩ ⟨rfl, hB5⟩
theorem C_laws_heldSpotSS (w0 : World) (x0 : (List (List (Int × Int)))) (v0_0 : Value) (h0_0 : rdS ty_82 (· < w0.heap.size) w0 v0_0 x0) (x1 : Int) (r : Int) (hF : F_laws_heldSpotSS x0 x1 = some r) :
    Calls Try.prog 82 [v0_0, (.int .i64 x1)].toArray w0 fun e w' => e = .returned (.int .i64 r) ∧ Below w0.heap.size w0 w' := by
  refine calls_mk' Try.func82 rfl Try.ntmps82 rfl rfl fun Q hQ hP => ?_
  have hB : Below w0.heap.size w0 w0 := Below.refl _ _
  have hS : Sep w0.heap.size w0 [] := Sep.nil _ _
  unfold F_laws_heldSpotSS at hF
  refine W.seq fun K1 hK1 => ?_
  refine W.region ?_
  refine wl_assign rfl rfl ?_
  refine WL.nil ?_
  refine fun a ha => hK1 _ _ ?_ a ha
  refine W.seq fun K2 hK2 => ?_
  refine W.seq fun K3 hK3 => ?_
  refine W.region ?_
  refine wl_assign rfl rfl ?_
  refine WL.nil ?_
  refine fun a ha => hK3 _ _ ?_ a ha
  refine W.block ?_
  refine W.loopk (fun m a w4 => ∃ (y7 : Int) (y8 : Int), St 21 [(0, v0_0), (1, (.int .i64 y7)), (5, (.int .i64 y8))] a ∧ Below w0.heap.size w0 w4 ∧ Sep w0.heap.size w4 [] ∧ F_laws_heldSpotSS_L1 x0 m y7 y8 = some r) FU ?_ ?_
  ·
    exact fun a ha => ⟨x1, 0, ha.sub ⟨rfl, rfl, rfl, trivial⟩, hB, (hS.sel [] rfl), hF⟩
  ·
    rintro m11 a w4 ⟨y7, y8, ha, hB5, hS6, hF⟩ KL10 hKL10
    refine W.at ?_ ha
    cases m11 with
    | zero => exact noneE hF
    | succ m11 =>
      obtain ⟨nx9, hnx9⟩ : ∃ k, k = F_laws_heldSpotSS_L1 x0 m11 := ⟨_, rfl⟩
      rw [F_laws_heldSpotSS_L1, ← hnx9] at hF
      refine W.seq fun K12 hK12 => ?_
      refine W.seq fun K13 hK13 => ?_
      refine W.region ?_
      refine wl_move rfl rfl ?_
      refine wl_move rfl rfl ?_
      refine wl_lenr (e := ty_82) (l := x0) Try.underlying40 rfl rfl h0_0 ?_
      refine wl_lss rfl rfl rfl ?_
      refine WL.nil ?_
      refine fun a ha => hK13 _ _ ?_ a ha
      refine W.cond rfl (fun h14 => ?_) (fun h14 => ?_)
      · replace hF := ifP h14 hF
        refine W.skip ?_
        refine fun a ha => hK12 _ _ ?_ a ha
        refine W.seq fun K15 hK15 => ?_
        refine W.block ?_
        refine W.seq fun K16 hK16 => ?_
        refine W.region ?_
        refine wl_move rfl rfl ?_
        refine wl_move rfl rfl ?_
        obtain ⟨u17, hu17, hF⟩ := bindE hF
        refine wl_index (e := ty_82) Try.underlying40 rfl rfl rfl h0_0 hu17 ?_
        rintro p18 _ ⟨v20, rfl, hv21⟩ hp19
        refine wl_load_p (vs := [v20]) (v := v20) tf_82 rfl rfl (hp19.ro hB5) rfl rfl ?_
        refine wl_move rfl rfl ?_
        obtain ⟨u22, hu22, hF⟩ := bindE hF
        refine wl_call rfl Try.call114 (C_laws_heldSpotS w4 u17 v20 (hv21.ro hB5) y7 _ hu22) rfl ?_
        rintro _ w23 ⟨rfl, hb24⟩
        refine ⟨_, rfl, ?_⟩
        have hB25 := hB5.trans (hb24.mono hB5.size)
        have hS26 := hS6.below hb24
        refine wl_assign rfl rfl ?_
        refine WL.nil ?_
        refine fun a ha => hK16 _ _ ?_ a ha
        refine W.seq fun K28 hK28 => ?_
        refine W.region ?_
        refine wl_move rfl rfl ?_
        refine wl_lss rfl rfl rfl ?_
        refine WL.nil ?_
        refine fun a ha => hK28 _ _ ?_ a ha
        refine W.cond rfl (fun h29 => ?_) (fun h29 => ?_)
        · replace hF := ifP h29 hF
          refine W.seq fun K30 hK30 => ?_
          refine W.region ?_
          refine wl_assign rfl rfl ?_
          refine WL.nil ?_
          refine fun a ha => hK30 _ _ ?_ a ha
          refine W.ret ?_
          have hr := Option.some.inj hF
          subst hr
          exact rets (vs := [(.int .i64 (-1))]) hQ rfl ⟨rv_tmp rfl, trivial⟩ ⟨rfl, hB25⟩
        · replace hF := ifN h29 hF
          refine W.skip ?_
          refine fun a ha => hK15 _ _ ?_ a ha
          refine W.region ?_
          refine wl_move rfl rfl ?_
          refine wl_add rfl rfl rfl ?_
          refine wl_assign rfl rfl ?_
          refine WL.nil ?_
          rw [hnx9] at hF
          exact fun a ha => hKL10 a _ m11 (Nat.lt_succ_self m11) ⟨u22, (w64 (y8 + 1)), ha.sub ⟨rfl, rfl, rfl, trivial⟩, hB25, (hS26.sel [] rfl), hF⟩
      · replace hF := ifN h14 hF
        refine W.exit ?_
        refine fun a ha => hK2 _ _ ?_ a ha
        refine W.seq fun K31 hK31 => ?_
        refine W.region ?_
        refine wl_move rfl rfl ?_
        refine wl_assign rfl rfl ?_
        refine WL.nil ?_
        refine fun a ha => hK31 _ _ ?_ a ha
        refine W.ret ?_
        have hr := Option.some.inj hF
        subst hr
        exact rets (vs := [(.int .i64 y7)]) hQ rfl ⟨rv_tmp rfl, trivial⟩ ⟨rfl, hB5⟩
theorem C_laws_heldShow (w0 : World) (x0 : ((List (List (Int × Int))) × (List Int) × Int × Int)) (v0_0 : Value) (h0_0 : rdS ty_82 (· < w0.heap.size) w0 v0_0 x0.1) (v0_1 : Value) (h0_1 : rdS ty_3 (· < w0.heap.size) w0 v0_1 x0.2.1) (x1 : Int) (r : Int) (hF : F_laws_heldShow x0 x1 = some r) :
    Calls Try.prog 47 [(.agg #[v0_0, v0_1, (.int .i64 x0.2.2.1), (.int .i64 x0.2.2.2)]), (.int .i64 x1)].toArray w0 fun e w' => e = .returned (.int .i64 r) ∧ Below w0.heap.size w0 w' := by
  refine calls_mk' Try.func47 rfl Try.ntmps47 rfl rfl fun Q hQ hP => ?_
  have hB : Below w0.heap.size w0 w0 := Below.refl _ _
  have hS : Sep w0.heap.size w0 [] := Sep.nil _ _
  unfold F_laws_heldShow at hF
  refine W.seq fun K1 hK1 => ?_
  refine W.region ?_
  refine wl_box (cs := [v0_0, v0_1, (.int .i64 x0.2.2.1), (.int .i64 x0.2.2.2)]) rfl rfl rfl hB hS ?_
  intro b2 w3 hb4 hB5 hS6
  refine wl_assign rfl rfl ?_
  refine WL.nil ?_
  refine fun a ha => hK1 _ _ ?_ a ha
  refine W.seq fun K7 hK7 => ?_
  refine W.region ?_
  refine wl_field (o := 0) (off' := 0) ff_42_0 rfl rfl rfl ?_
  refine wl_load_blk (i := 0) (vs := [v0_0]) (v := v0_0) tf_40 rfl rfl hS6 rfl rfl rfl ?_
  refine wl_move rfl rfl ?_
  obtain ⟨u8, hu8, hF⟩ := bindE hF
  refine wl_call rfl Try.call82 (C_laws_heldSpotSS w3 x0.1 v0_0 (h0_0.ro hB5) x1 _ hu8) rfl ?_
  rintro _ w9 ⟨rfl, hb10⟩
  refine ⟨_, rfl, ?_⟩
  have hB11 := hB5.trans (hb10.mono hB5.size)
  have hS12 := hS6.below hb10
  refine wl_assign rfl rfl ?_
  refine WL.nil ?_
  refine fun a ha => hK7 _ _ ?_ a ha
  refine W.seq fun K14 hK14 => ?_
  refine W.seq fun K15 hK15 => ?_
  refine W.region ?_
  refine wl_move rfl rfl ?_
  refine wl_lss rfl rfl rfl ?_
  refine WL.nil ?_
  refine fun a ha => hK15 _ _ ?_ a ha
  refine W.cond rfl (fun h16 => ?_) (fun h16 => ?_)
  · replace hF := ifP h16 hF
    refine W.seq fun K17 hK17 => ?_
    refine W.region ?_
    refine wl_assign rfl rfl ?_
    refine WL.nil ?_
    refine fun a ha => hK17 _ _ ?_ a ha
    refine W.ret ?_
    have hr := Option.some.inj hF
    subst hr
    exact rets (vs := [(.int .i64 (-1))]) hQ rfl ⟨rv_tmp rfl, trivial⟩ ⟨rfl, hB11⟩
  · replace hF := ifN h16 hF
    refine W.skip ?_
    refine fun a ha => hK14 _ _ ?_ a ha
    refine W.seq fun K18 hK18 => ?_
    refine W.region ?_
    refine wl_field (o := 1) (off' := 1) ff_42_1 rfl rfl rfl ?_
    refine wl_load_blk (i := 0) (vs := [v0_1]) (v := v0_1) tf_24 rfl rfl hS12 rfl rfl rfl ?_
    refine wl_move rfl rfl ?_
    obtain ⟨u19, hu19, hF⟩ := bindE hF
    refine wl_call rfl Try.call14 (C_laws_heldIntS w9 x0.2.1 v0_1 (h0_1.ro hB11) u8 _ hu19) rfl ?_
    rintro _ w20 ⟨rfl, hb21⟩
    refine ⟨_, rfl, ?_⟩
    have hB22 := hB11.trans (hb21.mono hB11.size)
    have hS23 := hS12.below hb21
    refine wl_assign rfl rfl ?_
    refine WL.nil ?_
    refine fun a ha => hK18 _ _ ?_ a ha
    refine W.seq fun K25 hK25 => ?_
    refine W.seq fun K26 hK26 => ?_
    refine W.region ?_
    refine wl_move rfl rfl ?_
    refine wl_lss rfl rfl rfl ?_
    refine WL.nil ?_
    refine fun a ha => hK26 _ _ ?_ a ha
    refine W.cond rfl (fun h27 => ?_) (fun h27 => ?_)
    · replace hF := ifP h27 hF
      refine W.seq fun K28 hK28 => ?_
      refine W.region ?_
      refine wl_assign rfl rfl ?_
      refine WL.nil ?_
      refine fun a ha => hK28 _ _ ?_ a ha
      refine W.ret ?_
      have hr := Option.some.inj hF
      subst hr
      exact rets (vs := [(.int .i64 (-1))]) hQ rfl ⟨rv_tmp rfl, trivial⟩ ⟨rfl, hB22⟩
    · replace hF := ifN h27 hF
      refine W.skip ?_
      refine fun a ha => hK25 _ _ ?_ a ha
      refine W.seq fun K29 hK29 => ?_
      refine W.region ?_
      refine wl_move rfl rfl ?_
      refine wl_assign rfl rfl ?_
      refine WL.nil ?_
      refine fun a ha => hK29 _ _ ?_ a ha
      refine W.ret ?_
      have hr := Option.some.inj hF
      subst hr
      exact rets (vs := [(.int .i64 u19)]) hQ rfl ⟨rv_tmp rfl, trivial⟩ ⟨rfl, hB22⟩
theorem C_laws_heldMarch (w0 : World) (x0 : (((List (List (Int × Int))) × (List Int) × Int × Int) × Int × (List Int) × (List Int))) (v0_0 : Value) (h0_0 : rdS ty_82 (· < w0.heap.size) w0 v0_0 x0.1.1) (v0_1 : Value) (h0_1 : rdS ty_3 (· < w0.heap.size) w0 v0_1 x0.1.2.1) (v0_2 : Value) (h0_2 : rdS ty_3 (· < w0.heap.size) w0 v0_2 x0.2.2.1) (v0_3 : Value) (h0_3 : rdS ty_3 (· < w0.heap.size) w0 v0_3 x0.2.2.2) (x1 : Int) (r : Int) (hF : F_laws_heldMarch x0 x1 = some r) :
    Calls Try.prog 21 [(.agg #[v0_0, v0_1, (.int .i64 x0.1.2.2.1), (.int .i64 x0.1.2.2.2), (.int .i64 x0.2.1), v0_2, v0_3]), (.int .i64 x1)].toArray w0 fun e w' => e = .returned (.int .i64 r) ∧ Below w0.heap.size w0 w' := by
  refine calls_mk' Try.func21 rfl Try.ntmps21 rfl rfl fun Q hQ hP => ?_
  have hB : Below w0.heap.size w0 w0 := Below.refl _ _
  have hS : Sep w0.heap.size w0 [] := Sep.nil _ _
  unfold F_laws_heldMarch at hF
  refine W.seq fun K1 hK1 => ?_
  refine W.region ?_
  refine wl_box (cs := [v0_0, v0_1, (.int .i64 x0.1.2.2.1), (.int .i64 x0.1.2.2.2), (.int .i64 x0.2.1), v0_2, v0_3]) rfl rfl rfl hB hS ?_
  intro b2 w3 hb4 hB5 hS6
  refine wl_assign rfl rfl ?_
  refine WL.nil ?_
  refine fun a ha => hK1 _ _ ?_ a ha
  refine W.seq fun K7 hK7 => ?_
  refine W.region ?_
  refine wl_field (o := 0) (off' := 0) ff_44_0 rfl rfl rfl ?_
  refine wl_load_blk (i := 0) (vs := [v0_0, v0_1, (.int .i64 x0.1.2.2.1), (.int .i64 x0.1.2.2.2)]) (v := (.agg #[v0_0, v0_1, (.int .i64 x0.1.2.2.1), (.int .i64 x0.1.2.2.2)])) tf_42 rfl rfl hS6 rfl rfl rfl ?_
  refine wl_move rfl rfl ?_
  obtain ⟨u8, hu8, hF⟩ := bindE hF
  refine wl_call rfl Try.call47 (C_laws_heldShow w3 x0.1 v0_0 (h0_0.ro hB5) v0_1 (h0_1.ro hB5) x1 _ hu8) rfl ?_
  rintro _ w9 ⟨rfl, hb10⟩
  refine ⟨_, rfl, ?_⟩
  have hB11 := hB5.trans (hb10.mono hB5.size)
  have hS12 := hS6.below hb10
  refine wl_assign rfl rfl ?_
  refine WL.nil ?_
  refine fun a ha => hK7 _ _ ?_ a ha
  refine W.seq fun K14 hK14 => ?_
  refine W.seq fun K15 hK15 => ?_
  refine W.region ?_
  refine wl_move rfl rfl ?_
  refine wl_lss rfl rfl rfl ?_
  refine WL.nil ?_
  refine fun a ha => hK15 _ _ ?_ a ha
  refine W.cond rfl (fun h16 => ?_) (fun h16 => ?_)
  · replace hF := ifP h16 hF
    refine W.seq fun K17 hK17 => ?_
    refine W.region ?_
    refine wl_assign rfl rfl ?_
    refine WL.nil ?_
    refine fun a ha => hK17 _ _ ?_ a ha
    refine W.ret ?_
    have hr := Option.some.inj hF
    subst hr
    exact rets (vs := [(.int .i64 (-1))]) hQ rfl ⟨rv_tmp rfl, trivial⟩ ⟨rfl, hB11⟩
  · replace hF := ifN h16 hF
    refine W.skip ?_
    refine fun a ha => hK14 _ _ ?_ a ha
    refine W.seq fun K18 hK18 => ?_
    refine W.region ?_
    refine wl_field (o := 5) (off' := 5) ff_44_2 rfl rfl rfl ?_
    refine wl_load_blk (i := 0) (vs := [v0_2]) (v := v0_2) tf_24 rfl rfl hS12 rfl rfl rfl ?_
    refine wl_move rfl rfl ?_
    obtain ⟨u19, hu19, hF⟩ := bindE hF
    refine wl_call rfl Try.call14 (C_laws_heldIntS w9 x0.2.2.1 v0_2 (h0_2.ro hB11) u8 _ hu19) rfl ?_
    rintro _ w20 ⟨rfl, hb21⟩
    refine ⟨_, rfl, ?_⟩
    have hB22 := hB11.trans (hb21.mono hB11.size)
    have hS23 := hS12.below hb21
    refine wl_assign rfl rfl ?_
    refine WL.nil ?_
    refine fun a ha => hK18 _ _ ?_ a ha
    refine W.seq fun K25 hK25 => ?_
    refine W.seq fun K26 hK26 => ?_
    refine W.region ?_
    refine wl_move rfl rfl ?_
    refine wl_lss rfl rfl rfl ?_
    refine WL.nil ?_
    refine fun a ha => hK26 _ _ ?_ a ha
    refine W.cond rfl (fun h27 => ?_) (fun h27 => ?_)
    · replace hF := ifP h27 hF
      refine W.seq fun K28 hK28 => ?_
      refine W.region ?_
      refine wl_assign rfl rfl ?_
      refine WL.nil ?_
      refine fun a ha => hK28 _ _ ?_ a ha
      refine W.ret ?_
      have hr := Option.some.inj hF
      subst hr
      exact rets (vs := [(.int .i64 (-1))]) hQ rfl ⟨rv_tmp rfl, trivial⟩ ⟨rfl, hB22⟩
    · replace hF := ifN h27 hF
      refine W.skip ?_
      refine fun a ha => hK25 _ _ ?_ a ha
      refine W.seq fun K29 hK29 => ?_
      refine W.region ?_
      refine wl_field (o := 6) (off' := 6) ff_44_3 rfl rfl rfl ?_
      refine wl_load_blk (i := 0) (vs := [v0_3]) (v := v0_3) tf_24 rfl rfl hS23 rfl rfl rfl ?_
      refine wl_move rfl rfl ?_
      obtain ⟨u30, hu30, hF⟩ := bindE hF
      refine wl_call rfl Try.call14 (C_laws_heldIntS w20 x0.2.2.2 v0_3 (h0_3.ro hB22) u19 _ hu30) rfl ?_
      rintro _ w31 ⟨rfl, hb32⟩
      refine ⟨_, rfl, ?_⟩
      have hB33 := hB22.trans (hb32.mono hB22.size)
      have hS34 := hS23.below hb32
      refine wl_assign rfl rfl ?_
      refine WL.nil ?_
      refine fun a ha => hK29 _ _ ?_ a ha
      refine W.seq fun K36 hK36 => ?_
      refine W.seq fun K37 hK37 => ?_
      refine W.region ?_
      refine wl_move rfl rfl ?_
      refine wl_lss rfl rfl rfl ?_
      refine WL.nil ?_
      refine fun a ha => hK37 _ _ ?_ a ha
      refine W.cond rfl (fun h38 => ?_) (fun h38 => ?_)
      · replace hF := ifP h38 hF
        refine W.seq fun K39 hK39 => ?_
        refine W.region ?_
        refine wl_assign rfl rfl ?_
        refine WL.nil ?_
        refine fun a ha => hK39 _ _ ?_ a ha
        refine W.ret ?_
        have hr := Option.some.inj hF
        subst hr
        exact rets (vs := [(.int .i64 (-1))]) hQ rfl ⟨rv_tmp rfl, trivial⟩ ⟨rfl, hB33⟩
      · replace hF := ifN h38 hF
        refine W.skip ?_
        refine fun a ha => hK36 _ _ ?_ a ha
        refine W.seq fun K40 hK40 => ?_
        refine W.region ?_
        refine wl_move rfl rfl ?_
        refine wl_assign rfl rfl ?_
        refine WL.nil ?_
        refine fun a ha => hK40 _ _ ?_ a ha
        refine W.ret ?_
        have hr := Option.some.inj hF
        subst hr
        exact rets (vs := [(.int .i64 u30)]) hQ rfl ⟨rv_tmp rfl, trivial⟩ ⟨rfl, hB33⟩
theorem C_laws_szBeatS (w0 : World) (x0 : (List (Int × Int))) (v0_0 : Value) (h0_0 : rdS ty_79 (· < w0.heap.size) w0 v0_0 x0) (x1 : Int) (r : Int) (hF : F_laws_szBeatS x0 x1 = some r) :
    Calls Try.prog 22 [v0_0, (.int .i64 x1)].toArray w0 fun e w' => e = .returned (.int .i64 r) ∧ Below w0.heap.size w0 w' := by
  refine calls_mk' Try.func22 rfl Try.ntmps22 rfl rfl fun Q hQ hP => ?_
  have hB : Below w0.heap.size w0 w0 := Below.refl _ _
  have hS : Sep w0.heap.size w0 [] := Sep.nil _ _
  unfold F_laws_szBeatS at hF
  refine W.seq fun K1 hK1 => ?_
  refine W.region ?_
  refine wl_assign rfl rfl ?_
  refine WL.nil ?_
  refine fun a ha => hK1 _ _ ?_ a ha
  refine W.seq fun K2 hK2 => ?_
  refine W.region ?_
  refine wl_move rfl rfl ?_
  refine wl_move rfl rfl ?_
  refine wl_lenr (e := ty_79) (l := x0) Try.underlying51 rfl rfl h0_0 ?_
  refine wl_sub rfl rfl rfl ?_
  refine wl_assign rfl rfl ?_
  refine WL.nil ?_
  refine fun a ha => hK2 _ _ ?_ a ha
  refine W.seq fun K3 hK3 => ?_
  refine W.seq fun K4 hK4 => ?_
  refine W.region ?_
  refine wl_move rfl rfl ?_
  refine wl_lss rfl rfl rfl ?_
  refine WL.nil ?_
  refine fun a ha => hK4 _ _ ?_ a ha
  refine W.cond rfl (fun h5 => ?_) (fun h5 => ?_)
  · replace hF := ifP h5 hF
    refine W.seq fun K6 hK6 => ?_
    refine W.region ?_
    refine wl_assign rfl rfl ?_
    refine WL.nil ?_
    refine fun a ha => hK6 _ _ ?_ a ha
    refine W.ret ?_
    have hr := Option.some.inj hF
    subst hr
    exact rets (vs := [(.int .i64 (-1))]) hQ rfl ⟨rv_tmp rfl, trivial⟩ ⟨rfl, hB⟩
  · replace hF := ifN h5 hF
    refine W.skip ?_
    refine fun a ha => hK3 _ _ ?_ a ha
    refine W.seq fun K7 hK7 => ?_
    refine W.region ?_
    refine wl_move rfl rfl ?_
    refine wl_assign rfl rfl ?_
    refine WL.nil ?_
    refine fun a ha => hK7 _ _ ?_ a ha
    refine W.ret ?_
    have hr := Option.some.inj hF
    subst hr
    exact rets (vs := [(.int .i64 (w64 (x1 - (List.length x0 : Int))))]) hQ rfl ⟨rv_tmp rfl, trivial⟩ ⟨rfl, hB⟩
theorem C_laws_toBeat (w0 : World) (x0 : (Int × Int)) (r : (Int × Int)) (hF : F_laws_toBeat x0 = some r) :
    Calls Try.prog 51 [(.agg #[(.int .i64 x0.1), (.int .i64 x0.2)])].toArray w0 fun e w' => e = .returned (.agg #[(.int .i64 r.1), (.int .i64 r.2)]) ∧ Below w0.heap.size w0 w' := by
  refine calls_mk' Try.func51 rfl Try.ntmps51 rfl rfl fun Q hQ hP => ?_
  have hB : Below w0.heap.size w0 w0 := Below.refl _ _
  have hS : Sep w0.heap.size w0 [] := Sep.nil _ _
  unfold F_laws_toBeat at hF
  refine W.seq fun K1 hK1 => ?_
  refine W.region ?_
  refine wl_box (cs := [(.int .i64 x0.1), (.int .i64 x0.2)]) rfl rfl rfl hB hS ?_
  intro b2 w3 hb4 hB5 hS6
  refine wl_alloc (cs := [(.int .i64 0), (.int .i64 0)]) tf_71 rfl rfl hB5 hS6 ?_
  intro b7 w8 hb9 hB10 hS11
  refine WL.nil ?_
  refine fun a ha => hK1 _ _ ?_ a ha
  refine W.seq fun K12 hK12 => ?_
  refine W.region ?_
  refine wl_alloc (cs := [(.int .i64 0), (.int .i64 0)]) tf_71 rfl rfl hB10 hS11 ?_
  intro b13 w14 hb15 hB16 hS17
  refine WL.nil ?_
  refine fun a ha => hK12 _ _ ?_ a ha
  refine W.seq fun K18 hK18 => ?_
  refine W.region ?_
  refine wl_field (o := 0) (off' := 0) ff_79_0 rfl rfl rfl ?_
  refine wl_load_blk (i := 2) (vs := [(.int .i64 x0.1)]) (v := (.int .i64 x0.1)) tf_3 rfl rfl hS17 rfl rfl rfl ?_
  refine wl_field (o := 0) (off' := 0) ff_71_0 rfl rfl rfl ?_
  refine wl_store_blk (i := 0) (vs := [(.int .i64 x0.1)]) (cs' := [(.int .i64 x0.1), (.int .i64 0)]) tf_3 rfl rfl rfl rfl hB16 hS17 rfl rfl ⟨rfl, trivial⟩ rfl ?_
  intro w19 hk22 hB20 hS21
  refine WL.nil ?_
  refine fun a ha => hK18 _ _ ?_ a ha
  refine W.seq fun K23 hK23 => ?_
  refine W.region ?_
  refine wl_field (o := 1) (off' := 1) ff_79_1 rfl rfl rfl ?_
  refine wl_load_blk (i := 2) (vs := [(.int .i64 x0.2)]) (v := (.int .i64 x0.2)) tf_3 rfl rfl hS21 rfl rfl rfl ?_
  refine wl_field (o := 1) (off' := 1) ff_71_1 rfl rfl rfl ?_
  refine wl_store_blk (i := 0) (vs := [(.int .i64 x0.2)]) (cs' := [(.int .i64 x0.1), (.int .i64 x0.2)]) tf_3 rfl rfl rfl rfl hB20 hS21 rfl rfl ⟨rfl, trivial⟩ rfl ?_
  intro w24 hk27 hB25 hS26
  refine WL.nil ?_
  refine fun a ha => hK23 _ _ ?_ a ha
  refine W.seq fun K28 hK28 => ?_
  refine W.region ?_
  refine wl_load_blk (i := 0) (vs := [(.int .i64 x0.1), (.int .i64 x0.2)]) (v := (.agg #[(.int .i64 x0.1), (.int .i64 x0.2)])) tf_71 rfl rfl hS26 rfl rfl rfl ?_
  refine wl_store_blk (i := 1) (vs := [(.int .i64 x0.1), (.int .i64 x0.2)]) (cs' := [(.int .i64 x0.1), (.int .i64 x0.2)]) tf_71 rfl rfl rfl rfl hB25 hS26 rfl rfl ⟨rfl, rfl, trivial⟩ rfl ?_
  intro w29 hk32 hB30 hS31
  refine WL.nil ?_
  refine fun a ha => hK28 _ _ ?_ a ha
  refine W.ret ?_
  have hr := Option.some.inj hF
  subst hr
  exact rets (vs := [(.agg #[(.int .i64 x0.1), (.int .i64 x0.2)])]) hQ rfl ⟨rv_cell (i := 1) tf_71 rfl hS31 rfl rfl rfl, trivial⟩ ⟨rfl, hB30⟩
theorem C_laws_toBeatS (w0 : World) (x0 : (List (Int × Int))) (v0_0 : Value) (h0_0 : rdS ty_79 (· < w0.heap.size) w0 v0_0 x0) (r : (List (Int × Int))) (hF : F_laws_toBeatS x0 = some r) :
    Calls Try.prog 24 [v0_0].toArray w0 fun e w' => ∃ (q0 : Value) (G0 : List Nat), e = .returned q0 ∧ Below w0.heap.size w0 w' ∧ Sep w0.heap.size w' [R.own ty_71 G0 q0 r] := by
  refine calls_mk' Try.func24 rfl Try.ntmps24 rfl rfl fun Q hQ hP => ?_
  have hB : Below w0.heap.size w0 w0 := Below.refl _ _
  have hS : Sep w0.heap.size w0 [] := Sep.nil _ _
  unfold F_laws_toBeatS at hF
  refine W.seq fun K1 hK1 => ?_
  refine W.region ?_
  refine wl_assign rfl rfl ?_
  refine WL.nil ?_
  refine fun a ha => hK1 _ _ ?_ a ha
  refine W.seq fun K2 hK2 => ?_
  refine W.region ?_
  refine wl_move rfl rfl ?_
  refine wl_lenr (e := ty_79) (l := x0) Try.underlying51 rfl rfl h0_0 ?_
  obtain ⟨u3, hu3, hF⟩ := bindE hF
  refine wl_make (e := ty_71) Try.underlying55 rfl rfl hu3 hB hS ?_
  intro v4 F5 w6 hb7 hB8 hS9
  refine wl_assign rfl rfl ?_
  refine WL.nil ?_
  refine fun a ha => hK2 _ _ ?_ a ha
  refine W.seq fun K10 hK10 => ?_
  refine W.seq fun K11 hK11 => ?_
  refine W.region ?_
  refine wl_assign rfl rfl ?_
  refine WL.nil ?_
  refine fun a ha => hK11 _ _ ?_ a ha
  refine W.block ?_
  refine W.loopk (fun m a w12 => ∃ (l15 : (List (Int × Int))) (y18 : Int) (v16 : Value) (F17 : List Nat), St 23 [(0, v0_0), (3, v16), (4, (.int .i64 y18))] a ∧ Below w0.heap.size w0 w12 ∧ Sep w0.heap.size w12 [R.own ty_71 F17 v16 l15] ∧ F_laws_toBeatS_L1 x0 m l15 y18 = some r) FU ?_ ?_
  ·
    exact fun a ha => ⟨u3, 0, v4, F5, ha.sub ⟨rfl, rfl, rfl, trivial⟩, hB8, (hS9.sel [0] rfl), hF⟩
  ·
    rintro m21 a w12 ⟨l15, y18, v16, F17, ha, hB13, hS14, hF⟩ KL20 hKL20
    refine W.at ?_ ha
    cases m21 with
    | zero => exact noneE hF
    | succ m21 =>
      obtain ⟨nx19, hnx19⟩ : ∃ k, k = F_laws_toBeatS_L1 x0 m21 := ⟨_, rfl⟩
      rw [F_laws_toBeatS_L1, ← hnx19] at hF
      refine W.seq fun K22 hK22 => ?_
      refine W.seq fun K23 hK23 => ?_
      refine W.region ?_
      refine wl_move rfl rfl ?_
      refine wl_move rfl rfl ?_
      refine wl_lenr (e := ty_79) (l := x0) Try.underlying51 rfl rfl h0_0 ?_
      refine wl_lss rfl rfl rfl ?_
      refine WL.nil ?_
      refine fun a ha => hK23 _ _ ?_ a ha
      refine W.cond rfl (fun h24 => ?_) (fun h24 => ?_)
      · replace hF := ifP h24 hF
        refine W.skip ?_
        refine fun a ha => hK22 _ _ ?_ a ha
        refine W.seq fun K25 hK25 => ?_
        refine W.block ?_
        refine W.region ?_
        refine wl_move rfl rfl ?_
        refine wl_move rfl rfl ?_
        refine wl_move rfl rfl ?_
        refine wl_move rfl rfl ?_
        obtain ⟨u26, hu26, hF⟩ := bindE hF
        refine wl_index (e := ty_79) Try.underlying51 rfl rfl rfl h0_0 hu26 ?_
        rintro p27 _ rfl hp28
        refine wl_load_p (vs := [(.int .i64 u26.1), (.int .i64 u26.2)]) (v := (.agg #[(.int .i64 u26.1), (.int .i64 u26.2)])) tf_79 rfl rfl (hp28.ro hB13) rfl rfl ?_
        obtain ⟨u29, hu29, hF⟩ := bindE hF
        refine wl_call rfl Try.call51 (C_laws_toBeat w12 u26 _ hu29) rfl ?_
        rintro _ w30 ⟨rfl, hb31⟩
        refine ⟨_, rfl, ?_⟩
        have hB32 := hB13.trans (hb31.mono hB13.size)
        have hS33 := hS14.below hb31
        obtain ⟨u35, hu35, hF⟩ := bindE hF
        refine wl_indexo (e := ty_71) (i := 0) Try.underlying55 rfl rfl rfl hS33 rfl hu35 ?_
        rintro p36 _ rfl hp37 ho38
        refine wl_storeo (i := 0) (o := 0) (vs := [(.int .i64 u29.1), (.int .i64 u29.2)]) (u' := u29) fl_71 tf_71 rfl rfl rfl rfl ho38 hu35 hB32 hS33 rfl rfl ⟨rfl, rfl, trivial⟩ rfl ?_
        intro w39 hk42 hB40 hS41
        refine WL.nil ?_
        refine fun a ha => hK25 _ _ ?_ a ha
        refine W.region ?_
        refine wl_move rfl rfl ?_
        refine wl_add rfl rfl rfl ?_
        refine wl_assign rfl rfl ?_
        refine WL.nil ?_
        rw [hnx19] at hF
        exact fun a ha => hKL20 a _ m21 (Nat.lt_succ_self m21) ⟨(seti l15 y18 u29), (w64 (y18 + 1)), v16, F17, ha.sub ⟨rfl, rfl, rfl, trivial⟩, hB40, (hS41.sel [0] rfl), hF⟩
      · replace hF := ifN h24 hF
        refine W.exit ?_
        refine fun a ha => hK10 _ _ ?_ a ha
        refine W.seq fun K43 hK43 => ?_
        refine W.region ?_
        refine wl_move rfl rfl ?_
        refine wl_assign rfl rfl ?_
        refine WL.nil ?_
        refine fun a ha => hK43 _ _ ?_ a ha
        refine W.ret ?_
        have hr := Option.some.inj hF
        subst hr
        exact rets (vs := [v16]) hQ rfl ⟨rv_tmp rfl, trivial⟩ ⟨v16, F17, rfl, hB13, hS14.sel [0] rfl⟩
theorem C_spec_RunBeats (w0 : World) (x0 : (((List (List (Int × Int))) × (List Int) × Int × Int) × Int × (List Int) × (List Int))) (v0_0 : Value) (h0_0 : rdS ty_82 (· < w0.heap.size) w0 v0_0 x0.1.1) (v0_1 : Value) (h0_1 : rdS ty_3 (· < w0.heap.size) w0 v0_1 x0.1.2.1) (v0_2 : Value) (h0_2 : rdS ty_3 (· < w0.heap.size) w0 v0_2 x0.2.2.1) (v0_3 : Value) (h0_3 : rdS ty_3 (· < w0.heap.size) w0 v0_3 x0.2.2.2) (x1 : (List (Int × Int))) (v1_0 : Value) (h1_0 : rdS ty_71 (· < w0.heap.size) w0 v1_0 x1) (r : ((((List (List (Int × Int))) × (List Int) × Int × Int) × Int × (List Int) × (List Int)) × Int × Bool)) (hF : F_spec_RunBeats x0 x1 = some r) :
    Calls Try.prog 23 [(.agg #[v0_0, v0_1, (.int .i64 x0.1.2.2.1), (.int .i64 x0.1.2.2.2), (.int .i64 x0.2.1), v0_2, v0_3]), v1_0].toArray w0 fun e w' => ∃ (q0 : Value) (G0 : List Nat) (q1 : Value) (G1 : List Nat) (q2 : Value) (G2 : List Nat) (q3 : Value) (G3 : List Nat), e = .returned (.tuple #[(.agg #[q0, q1, (.int .i64 r.1.1.2.2.1), (.int .i64 r.1.1.2.2.2), (.int .i64 r.1.2.1), q2, q3]), (.int .i64 r.2.1), (.bool r.2.2)]) ∧ Below w0.heap.size w0 w' ∧ Sep w0.heap.size w' [R.own ty_82 G0 q0 r.1.1.1, R.own ty_3 G1 q1 r.1.1.2.1, R.own ty_3 G2 q2 r.1.2.2.1, R.own ty_3 G3 q3 r.1.2.2.2] := by
  refine calls_mk' Try.func23 rfl Try.ntmps23 rfl rfl fun Q hQ hP => ?_
  have hB : Below w0.heap.size w0 w0 := Below.refl _ _
  have hS : Sep w0.heap.size w0 [] := Sep.nil _ _
  unfold F_spec_RunBeats at hF
  refine W.seq fun K1 hK1 => ?_
  refine W.region ?_
  refine wl_box (cs := [v0_0, v0_1, (.int .i64 x0.1.2.2.1), (.int .i64 x0.1.2.2.2), (.int .i64 x0.2.1), v0_2, v0_3]) rfl rfl rfl hB hS ?_
  intro b2 w3 hb4 hB5 hS6
  refine wl_alloc (cs := [(.slice none 0 0), (.slice none 0 0), (.int .i64 0), (.int .i64 0), (.int .i64 0), (.slice none 0 0), (.slice none 0 0)]) tf_44 rfl rfl hB5 hS6 ?_
  intro b7 w8 hb9 hB10 hS11
  refine wl_assign rfl rfl ?_
  refine wl_assign rfl rfl ?_
  refine WL.nil ?_
  refine fun a ha => hK1 _ _ ?_ a ha
  refine W.seq fun K12 hK12 => ?_
  refine W.seq fun K13 hK13 => ?_
  obtain ⟨k18, hk18, hF⟩ := jE1 hF
  have hJ19 : ∀ (y17 : Bool) (w14 : World) (_ : k18 y17 = some r) (_ : Below w0.heap.size w0 w14) (_ : Sep w0.heap.size w14 [R.blk b2 44 [v0_0, v0_1, (.int .i64 x0.1.2.2.1), (.int .i64 x0.1.2.2.2), (.int .i64 x0.2.1), v0_2, v0_3], R.blk b7 44 [(.slice none 0 0), (.slice none 0 0), (.int .i64 0), (.int .i64 0), (.int .i64 0), (.slice none 0 0), (.slice none 0 0)]]), ∀ a, St 45 [(1, v1_0), (2, (.pointer (some ⟨b2, 0, none⟩))), (4, (.pointer (some ⟨b7, 0, none⟩))), (19, (.bool y17))] a → K13 a w14 := by
    intro y17 w14 hF hB15 hS16
    subst hk18
    refine fun a ha => hK13 _ _ ?_ a ha
    refine W.cond rfl (fun h20 => ?_) (fun h20 => ?_)
    · replace hF := ifP h20 hF
      refine W.seq fun K21 hK21 => ?_
      refine W.region ?_
      refine wl_build (zs := [(.slice none 0 0), (.slice none 0 0), (.int .i64 0), (.int .i64 0), (.int .i64 0), (.slice none 0 0), (.slice none 0 0)]) (out := [(.slice none 0 0), (.slice none 0 0), (.int .i64 0), (.int .i64 0), (.int .i64 0), (.slice none 0 0), (.slice none 0 0)]) (vs := []) (css := []) tf_44 pl_44 rfl rfl rfl rfl rfl ?_
      refine wl_store_blk (i := 1) (vs := [(.slice none 0 0), (.slice none 0 0), (.int .i64 0), (.int .i64 0), (.int .i64 0), (.slice none 0 0), (.slice none 0 0)]) (cs' := [(.slice none 0 0), (.slice none 0 0), (.int .i64 0), (.int .i64 0), (.int .i64 0), (.slice none 0 0), (.slice none 0 0)]) tf_44 rfl rfl rfl rfl hB15 hS16 rfl rfl ⟨rfl, rfl, rfl, rfl, rfl, rfl, rfl, trivial⟩ rfl ?_
      intro w22 hk25 hB23 hS24
      refine wl_assign rfl rfl ?_
      refine wl_assign rfl rfl ?_
      refine WL.nil ?_
      refine fun a ha => hK21 _ _ ?_ a ha
      refine W.ret ?_
      have hS26 := hS24.push0 (r := R.own ty_82 [] (.slice none 0 0) []) rfl fun _ => .inl ⟨rfl, rfl, rfl⟩
      have hS27 := hS26.push0 (r := R.own ty_3 [] (.slice none 0 0) []) rfl fun _ => .inl ⟨rfl, rfl, rfl⟩
      have hS28 := hS27.push0 (r := R.own ty_3 [] (.slice none 0 0) []) rfl fun _ => .inl ⟨rfl, rfl, rfl⟩
      have hS29 := hS28.push0 (r := R.own ty_3 [] (.slice none 0 0) []) rfl fun _ => .inl ⟨rfl, rfl, rfl⟩
      have hr := Option.some.inj hF
      subst hr
      exact rets (vs := [(.agg #[(.slice none 0 0), (.slice none 0 0), (.int .i64 0), (.int .i64 0), (.int .i64 0), (.slice none 0 0), (.slice none 0 0)]), (.int .i64 0), (.bool false)]) hQ rfl ⟨rv_cell (i := 1) tf_44 rfl hS24 rfl rfl rfl, rv_tmp rfl, rv_tmp rfl, trivial⟩ ⟨(.slice none 0 0), [], (.slice none 0 0), [], (.slice none 0 0), [], (.slice none 0 0), [], rfl, hB23, hS29.sel [3, 2, 1, 0] rfl⟩
    · replace hF := ifN h20 hF
      refine W.skip ?_
      refine fun a ha => hK12 _ _ ?_ a ha
      refine W.seq fun K30 hK30 => ?_
      refine W.region ?_
      refine wl_load_blk (i := 0) (vs := [v0_0, v0_1, (.int .i64 x0.1.2.2.1), (.int .i64 x0.1.2.2.2), (.int .i64 x0.2.1), v0_2, v0_3]) (v := (.agg #[v0_0, v0_1, (.int .i64 x0.1.2.2.1), (.int .i64 x0.1.2.2.2), (.int .i64 x0.2.1), v0_2, v0_3])) tf_44 rfl rfl hS16 rfl rfl rfl ?_
      obtain ⟨u31, hu31, hF⟩ := bindE hF
      refine wl_call rfl Try.call49 (C_spec_mnOwn w14 x0 v0_0 (h0_0.ro hB15) v0_1 (h0_1.ro hB15) v0_2 (h0_2.ro hB15) v0_3 (h0_3.ro hB15) _ hu31) rfl ?_
      rintro _ w40 ⟨v32, F33, v34, F35, v36, F37, v38, F39, rfl, hb41, hM44⟩
      refine ⟨_, rfl, ?_⟩
      have hB42 := hB15.trans (hb41.mono hB15.size)
      have hS43 := hS16.join hb41 hM44 hB15.size
      refine wl_alloc (cs := [(.slice none 0 0), (.slice none 0 0), (.int .i64 0), (.int .i64 0), (.int .i64 0), (.slice none 0 0), (.slice none 0 0)]) tf_44 rfl rfl hB42 hS43 ?_
      intro b45 w46 hb47 hB48 hS49
      refine wl_store_blk (i := 0) (vs := [v32, v34, (.int .i64 u31.1.2.2.1), (.int .i64 u31.1.2.2.2), (.int .i64 u31.2.1), v36, v38]) (cs' := [v32, v34, (.int .i64 u31.1.2.2.1), (.int .i64 u31.1.2.2.2), (.int .i64 u31.2.1), v36, v38]) tf_44 rfl rfl rfl rfl hB48 hS49 rfl rfl ⟨(hS49.own_ro (i := 1) rfl).one, (hS49.own_ro (i := 2) rfl).one, rfl, rfl, rfl, (hS49.own_ro (i := 3) rfl).one, (hS49.own_ro (i := 4) rfl).one, trivial⟩ rfl ?_
      intro w50 hk53 hB51 hS52
      refine WL.nil ?_
      refine fun a ha => hK30 _ _ ?_ a ha
      refine W.seq fun K54 hK54 => ?_
      refine W.seq fun K55 hK55 => ?_
      refine W.region ?_
      refine wl_move rfl rfl ?_
      refine wl_lenr (e := ty_71) (l := x1) Try.underlying55 rfl rfl h1_0 ?_
      refine wl_move rfl rfl ?_
      refine WL.nil ?_
      refine fun a ha => hK55 _ _ ?_ a ha
      refine W.block ?_
      refine W.loopk (fun m a w56 => ∃ (l59 : (List (List (Int × Int)))) (l62 : (List Int)) (y65 : Int) (y66 : Int) (y67 : Int) (l68 : (List Int)) (l71 : (List Int)) (y74 : Int) (v60 : Value) (F61 : List Nat) (v63 : Value) (F64 : List Nat) (v69 : Value) (F70 : List Nat) (v72 : Value) (F73 : List Nat), St 45 [(1, v1_0), (4, (.pointer (some ⟨b7, 0, none⟩))), (7, (.pointer (some ⟨b45, 0, none⟩))), (23, v1_0), (24, (.int .i64 (List.length x1 : Int))), (25, (.int .i64 y74))] a ∧ Below w0.heap.size w0 w56 ∧ Sep w0.heap.size w56 [R.blk b7 44 [(.slice none 0 0), (.slice none 0 0), (.int .i64 0), (.int .i64 0), (.int .i64 0), (.slice none 0 0), (.slice none 0 0)], R.own ty_82 F61 v60 l59, R.own ty_3 F64 v63 l62, R.own ty_3 F70 v69 l68, R.own ty_3 F73 v72 l71, R.blk b45 44 [v60, v63, (.int .i64 y65), (.int .i64 y66), (.int .i64 y67), v69, v72]] ∧ F_spec_RunBeats_L1 x1 m l59 l62 y65 y66 y67 l68 l71 y74 = some r) FU ?_ ?_
      ·
        exact fun a ha => ⟨u31.1.1, u31.1.2.1, u31.1.2.2.1, u31.1.2.2.2, u31.2.1, u31.2.2.1, u31.2.2.2, 0, v32, F33, v34, F35, v36, F37, v38, F39, ha.sub ⟨rfl, rfl, rfl, rfl, rfl, rfl, trivial⟩, hB51, (hS52.sel [6, 1, 2, 3, 4, 0] rfl), hF⟩
      ·
        rintro m77 a w56 ⟨l59, l62, y65, y66, y67, l68, l71, y74, v60, F61, v63, F64, v69, F70, v72, F73, ha, hB57, hS58, hF⟩ KL76 hKL76
        refine W.at ?_ ha
        cases m77 with
        | zero => exact noneE hF
        | succ m77 =>
          obtain ⟨nx75, hnx75⟩ : ∃ k, k = F_spec_RunBeats_L1 x1 m77 := ⟨_, rfl⟩
          rw [F_spec_RunBeats_L1, ← hnx75] at hF
          refine W.seq fun K78 hK78 => ?_
          refine W.region ?_
          refine wl_lss rfl rfl rfl ?_
          refine WL.nil ?_
          refine fun a ha => hK78 _ _ ?_ a ha
          refine W.seq fun K79 hK79 => ?_
          refine W.cond rfl (fun h80 => ?_) (fun h80 => ?_)
          · replace hF := ifP h80 hF
            refine W.skip ?_
            refine fun a ha => hK79 _ _ ?_ a ha
            refine W.seq fun K81 hK81 => ?_
            refine W.block ?_
            refine W.seq fun K82 hK82 => ?_
            refine W.region ?_
            refine wl_move rfl rfl ?_
            obtain ⟨u83, hu83, hF⟩ := bindE hF
            refine wl_index (e := ty_71) Try.underlying55 rfl rfl rfl h1_0 hu83 ?_
            rintro p84 _ rfl hp85
            refine wl_load_p (vs := [(.int .i64 u83.1), (.int .i64 u83.2)]) (v := (.agg #[(.int .i64 u83.1), (.int .i64 u83.2)])) tf_71 rfl rfl (hp85.ro hB57) rfl rfl ?_
            refine wl_alloc (cs := [(.int .i64 0), (.int .i64 0)]) tf_71 rfl rfl hB57 hS58 ?_
            intro b86 w87 hb88 hB89 hS90
            refine wl_assign rfl rfl ?_
            refine wl_store_blk (i := 0) (vs := [(.int .i64 u83.1), (.int .i64 u83.2)]) (cs' := [(.int .i64 u83.1), (.int .i64 u83.2)]) tf_71 rfl rfl rfl rfl hB89 hS90 rfl rfl ⟨rfl, rfl, trivial⟩ rfl ?_
            intro w91 hk94 hB92 hS93
            refine WL.nil ?_
            refine fun a ha => hK82 _ _ ?_ a ha
            refine W.seq fun K95 hK95 => ?_
            refine W.region ?_
            refine wl_load_blk (i := 6) (vs := [v60, v63, (.int .i64 y65), (.int .i64 y66), (.int .i64 y67), v69, v72]) (v := (.agg #[v60, v63, (.int .i64 y65), (.int .i64 y66), (.int .i64 y67), v69, v72])) tf_44 rfl rfl hS93 rfl rfl rfl ?_
            refine wl_load_blk (i := 0) (vs := [(.int .i64 u83.1), (.int .i64 u83.2)]) (v := (.agg #[(.int .i64 u83.1), (.int .i64 u83.2)])) tf_71 rfl rfl hS93 rfl rfl rfl ?_
            obtain ⟨u96, hu96, hF⟩ := bindE hF
            refine wl_call rfl Try.call50 (C_spec_mnStep w91 ((l59, l62, y65, y66), y67, l68, l71) v60 (hS93.own_ro (i := 2) rfl) v63 (hS93.own_ro (i := 3) rfl) v69 (hS93.own_ro (i := 4) rfl) v72 (hS93.own_ro (i := 5) rfl) u83 _ hu96) rfl ?_
            rintro _ w105 ⟨v97, F98, v99, F100, v101, F102, v103, F104, rfl, hb106, hM109⟩
            refine ⟨_, rfl, ?_⟩
            have hB107 := hB92.trans (hb106.mono hB92.size)
            have hS108 := hS93.join hb106 hM109 hB92.size
            refine wl_move rfl rfl ?_
            refine wl_extract rfl rfl rfl ?_
            refine wl_extract rfl rfl rfl ?_
            refine wl_alloc (cs := [(.slice none 0 0), (.slice none 0 0), (.int .i64 0), (.int .i64 0), (.int .i64 0), (.slice none 0 0), (.slice none 0 0)]) tf_44 rfl rfl hB107 hS108 ?_
            intro b110 w111 hb112 hB113 hS114
            refine wl_store_blk (i := 0) (vs := [v97, v99, (.int .i64 u96.1.1.2.2.1), (.int .i64 u96.1.1.2.2.2), (.int .i64 u96.1.2.1), v101, v103]) (cs' := [v97, v99, (.int .i64 u96.1.1.2.2.1), (.int .i64 u96.1.1.2.2.2), (.int .i64 u96.1.2.1), v101, v103]) tf_44 rfl rfl rfl rfl hB113 hS114 rfl rfl ⟨(hS114.own_ro (i := 1) rfl).one, (hS114.own_ro (i := 2) rfl).one, rfl, rfl, rfl, (hS114.own_ro (i := 3) rfl).one, (hS114.own_ro (i := 4) rfl).one, trivial⟩ rfl ?_
            intro w115 hk118 hB116 hS117
            refine wl_assign rfl rfl ?_
            refine WL.nil ?_
            refine fun a ha => hK95 _ _ ?_ a ha
            refine W.seq fun K119 hK119 => ?_
            refine W.seq fun K120 hK120 => ?_
            refine W.region ?_
            refine wl_move rfl rfl ?_
            refine wl_not rfl rfl ?_
            refine WL.nil ?_
            refine fun a ha => hK120 _ _ ?_ a ha
            refine W.cond rfl (fun h121 => ?_) (fun h121 => ?_)
            · replace hF := ifP h121 hF
              refine W.seq fun K122 hK122 => ?_
              refine W.region ?_
              refine wl_load_blk (i := 11) (vs := [v60, v63, (.int .i64 y65), (.int .i64 y66), (.int .i64 y67), v69, v72]) (v := (.agg #[v60, v63, (.int .i64 y65), (.int .i64 y66), (.int .i64 y67), v69, v72])) tf_44 rfl rfl hS117 rfl rfl rfl ?_
              refine wl_move rfl rfl ?_
              refine wl_store_blk (i := 6) (vs := [v60, v63, (.int .i64 y65), (.int .i64 y66), (.int .i64 y67), v69, v72]) (cs' := [v60, v63, (.int .i64 y65), (.int .i64 y66), (.int .i64 y67), v69, v72]) tf_44 rfl rfl rfl rfl hB116 hS117 rfl rfl ⟨(hS117.own_ro (i := 7) rfl).one, (hS117.own_ro (i := 8) rfl).one, rfl, rfl, rfl, (hS117.own_ro (i := 9) rfl).one, (hS117.own_ro (i := 10) rfl).one, trivial⟩ rfl ?_
              intro w123 hk126 hB124 hS125
              refine wl_assign rfl rfl ?_
              refine wl_assign rfl rfl ?_
              refine WL.nil ?_
              refine fun a ha => hK122 _ _ ?_ a ha
              refine W.ret ?_
              have hr := Option.some.inj hF
              subst hr
              exact rets (vs := [(.agg #[v60, v63, (.int .i64 y65), (.int .i64 y66), (.int .i64 y67), v69, v72]), (.int .i64 y74), (.bool true)]) hQ rfl ⟨rv_cell (i := 6) tf_44 rfl hS125 rfl rfl rfl, rv_tmp rfl, rv_tmp rfl, trivial⟩ ⟨v60, F61, v63, F64, v69, F70, v72, F73, rfl, hB124, hS125.sel [7, 8, 9, 10] rfl⟩
            · replace hF := ifN h121 hF
              refine W.skip ?_
              refine fun a ha => hK119 _ _ ?_ a ha
              refine W.region ?_
              refine wl_load_blk (i := 0) (vs := [v97, v99, (.int .i64 u96.1.1.2.2.1), (.int .i64 u96.1.1.2.2.2), (.int .i64 u96.1.2.1), v101, v103]) (v := (.agg #[v97, v99, (.int .i64 u96.1.1.2.2.1), (.int .i64 u96.1.1.2.2.2), (.int .i64 u96.1.2.1), v101, v103])) tf_44 rfl rfl hS117 rfl rfl rfl ?_
              refine wl_store_blk (i := 11) (vs := [v97, v99, (.int .i64 u96.1.1.2.2.1), (.int .i64 u96.1.1.2.2.2), (.int .i64 u96.1.2.1), v101, v103]) (cs' := [v97, v99, (.int .i64 u96.1.1.2.2.1), (.int .i64 u96.1.1.2.2.2), (.int .i64 u96.1.2.1), v101, v103]) tf_44 rfl rfl rfl rfl hB116 hS117 rfl rfl ⟨(hS117.own_ro (i := 1) rfl).one, (hS117.own_ro (i := 2) rfl).one, rfl, rfl, rfl, (hS117.own_ro (i := 3) rfl).one, (hS117.own_ro (i := 4) rfl).one, trivial⟩ rfl ?_
              intro w127 hk130 hB128 hS129
              refine WL.nil ?_
              refine fun a ha => hK81 _ _ ?_ a ha
              refine W.region ?_
              refine wl_add rfl rfl rfl ?_
              refine wl_move rfl rfl ?_
              refine WL.nil ?_
              rw [hnx75] at hF
              exact fun a ha => hKL76 a _ m77 (Nat.lt_succ_self m77) ⟨u96.1.1.1, u96.1.1.2.1, u96.1.1.2.2.1, u96.1.1.2.2.2, u96.1.2.1, u96.1.2.2.1, u96.1.2.2.2, (w64 (y74 + 1)), v97, F98, v99, F100, v101, F102, v103, F104, ha.sub ⟨rfl, rfl, rfl, rfl, rfl, rfl, trivial⟩, hB128, (hS129.sel [6, 1, 2, 3, 4, 11] rfl), hF⟩
          · replace hF := ifN h80 hF
            refine W.exit ?_
            refine fun a ha => hK54 _ _ ?_ a ha
            refine W.seq fun K131 hK131 => ?_
            refine W.region ?_
            refine wl_load_blk (i := 5) (vs := [v60, v63, (.int .i64 y65), (.int .i64 y66), (.int .i64 y67), v69, v72]) (v := (.agg #[v60, v63, (.int .i64 y65), (.int .i64 y66), (.int .i64 y67), v69, v72])) tf_44 rfl rfl hS58 rfl rfl rfl ?_
            refine wl_move rfl rfl ?_
            refine wl_lenr (e := ty_71) (l := x1) Try.underlying55 rfl rfl h1_0 ?_
            refine wl_store_blk (i := 0) (vs := [v60, v63, (.int .i64 y65), (.int .i64 y66), (.int .i64 y67), v69, v72]) (cs' := [v60, v63, (.int .i64 y65), (.int .i64 y66), (.int .i64 y67), v69, v72]) tf_44 rfl rfl rfl rfl hB57 hS58 rfl rfl ⟨(hS58.own_ro (i := 1) rfl).one, (hS58.own_ro (i := 2) rfl).one, rfl, rfl, rfl, (hS58.own_ro (i := 3) rfl).one, (hS58.own_ro (i := 4) rfl).one, trivial⟩ rfl ?_
            intro w132 hk135 hB133 hS134
            refine wl_assign rfl rfl ?_
            refine wl_assign rfl rfl ?_
            refine WL.nil ?_
            refine fun a ha => hK131 _ _ ?_ a ha
            refine W.ret ?_
            have hr := Option.some.inj hF
            subst hr
            exact rets (vs := [(.agg #[v60, v63, (.int .i64 y65), (.int .i64 y66), (.int .i64 y67), v69, v72]), (.int .i64 (List.length x1 : Int)), (.bool true)]) hQ rfl ⟨rv_cell (i := 0) tf_44 rfl hS134 rfl rfl rfl, rv_tmp rfl, rv_tmp rfl, trivial⟩ ⟨v60, F61, v63, F64, v69, F70, v72, F73, rfl, hB133, hS134.sel [1, 2, 3, 4] rfl⟩
  refine W.region ?_
  refine wl_load_blk (i := 1) (vs := [v0_0, v0_1, (.int .i64 x0.1.2.2.1), (.int .i64 x0.1.2.2.2), (.int .i64 x0.2.1), v0_2, v0_3]) (v := (.agg #[v0_0, v0_1, (.int .i64 x0.1.2.2.1), (.int .i64 x0.1.2.2.2), (.int .i64 x0.2.1), v0_2, v0_3])) tf_44 rfl rfl hS11 rfl rfl rfl ?_
  obtain ⟨u136, hu136, hF⟩ := bindE hF
  refine wl_call rfl Try.call48 (C_spec_mnGood w8 x0 v0_0 (h0_0.ro hB10) v0_1 (h0_1.ro hB10) v0_2 (h0_2.ro hB10) v0_3 (h0_3.ro hB10) _ hu136) rfl ?_
  rintro _ w137 ⟨rfl, hb138⟩
  refine ⟨_, rfl, ?_⟩
  have hB139 := hB10.trans (hb138.mono hB10.size)
  have hS140 := hS11.below hb138
  refine wl_not rfl rfl ?_
  refine wl_move rfl rfl ?_
  rcases bE (!u136) with h142 | h142
  · replace hF := ifP h142 hF
    refine wl_off rfl rfl rfl h142 ?_
    refine wl_off rfl rfl rfl h142 ?_
    refine wl_off rfl rfl rfl h142 ?_
    refine wl_pick_t rfl rfl h142 rfl ?_
    refine WL.nil ?_
    exact fun a ha => hJ19 (true) _ hF hB139 (hS140.sel [1, 0] rfl) a (ha.sub ⟨rfl, rfl, rfl, rfl, trivial⟩)
  · replace hF := ifN h142 hF
    refine wl_on rfl rfl h142 ?_
    refine wl_move rfl rfl ?_
    refine wl_on rfl rfl h142 ?_
    refine wl_lenr (e := ty_71) (l := x1) Try.underlying55 rfl rfl h1_0 ?_
    refine wl_on rfl rfl h142 ?_
    refine wl_gtr rfl rfl rfl ?_
    refine wl_pick_f rfl rfl h142 rfl ?_
    refine WL.nil ?_
    exact fun a ha => hJ19 ((decide (100 < (List.length x1 : Int)))) _ hF hB139 (hS140.sel [1, 0] rfl) a (ha.sub ⟨rfl, rfl, rfl, rfl, trivial⟩)
theorem C_impl_BeatOnce (w0 : World) (x0 : (((List (List (Int × Int))) × (List Int) × Int × Int) × Int × (List Int) × (List Int))) (v0_0 : Value) (h0_0 : rdS ty_82 (· < w0.heap.size) w0 v0_0 x0.1.1) (v0_1 : Value) (h0_1 : rdS ty_3 (· < w0.heap.size) w0 v0_1 x0.1.2.1) (v0_2 : Value) (h0_2 : rdS ty_3 (· < w0.heap.size) w0 v0_2 x0.2.2.1) (v0_3 : Value) (h0_3 : rdS ty_3 (· < w0.heap.size) w0 v0_3 x0.2.2.2) (r : ((((List (List (Int × Int))) × (List Int) × Int × Int) × Int × (List Int) × (List Int)) × Bool)) (hF : F_impl_BeatOnce x0 = some r) :
    Calls Try.prog 88 [(.agg #[v0_0, v0_1, (.int .i64 x0.1.2.2.1), (.int .i64 x0.1.2.2.2), (.int .i64 x0.2.1), v0_2, v0_3])].toArray w0 fun e w' => ∃ (q0 : Value) (G0 : List Nat) (q1 : Value) (G1 : List Nat) (q2 : Value) (G2 : List Nat) (q3 : Value) (G3 : List Nat), e = .returned (.tuple #[(.agg #[q0, q1, (.int .i64 r.1.1.2.2.1), (.int .i64 r.1.1.2.2.2), (.int .i64 r.1.2.1), q2, q3]), (.bool r.2)]) ∧ Below w0.heap.size w0 w' ∧ Sep w0.heap.size w' [R.own ty_82 G0 q0 r.1.1.1, R.own ty_3 G1 q1 r.1.1.2.1, R.own ty_3 G2 q2 r.1.2.2.1, R.own ty_3 G3 q3 r.1.2.2.2] := by
  refine calls_mk' Try.func88 rfl Try.ntmps88 rfl rfl fun Q hQ hP => ?_
  have hB : Below w0.heap.size w0 w0 := Below.refl _ _
  have hS : Sep w0.heap.size w0 [] := Sep.nil _ _
  unfold F_impl_BeatOnce at hF
  refine W.seq fun K1 hK1 => ?_
  refine W.region ?_
  refine wl_box (cs := [v0_0, v0_1, (.int .i64 x0.1.2.2.1), (.int .i64 x0.1.2.2.2), (.int .i64 x0.2.1), v0_2, v0_3]) rfl rfl rfl hB hS ?_
  intro b2 w3 hb4 hB5 hS6
  refine wl_alloc (cs := [(.slice none 0 0), (.slice none 0 0), (.int .i64 0), (.int .i64 0), (.int .i64 0), (.slice none 0 0), (.slice none 0 0)]) tf_44 rfl rfl hB5 hS6 ?_
  intro b7 w8 hb9 hB10 hS11
  refine wl_assign rfl rfl ?_
  refine WL.nil ?_
  refine fun a ha => hK1 _ _ ?_ a ha
  refine W.seq fun K12 hK12 => ?_
  refine W.seq fun K13 hK13 => ?_
  obtain ⟨k18, hk18, hF⟩ := jE1 hF
  have hJ19 : ∀ (y17 : Bool) (w14 : World) (_ : k18 y17 = some r) (_ : Below w0.heap.size w0 w14) (_ : Sep w0.heap.size w14 [R.blk b2 44 [v0_0, v0_1, (.int .i64 x0.1.2.2.1), (.int .i64 x0.1.2.2.2), (.int .i64 x0.2.1), v0_2, v0_3], R.blk b7 44 [(.slice none 0 0), (.slice none 0 0), (.int .i64 0), (.int .i64 0), (.int .i64 0), (.slice none 0 0), (.slice none 0 0)]]), ∀ a, St 38 [(1, (.pointer (some ⟨b2, 0, none⟩))), (2, (.pointer (some ⟨b7, 0, none⟩))), (14, (.bool y17))] a → K13 a w14 := by
    intro y17 w14 hF hB15 hS16
    subst hk18
    refine fun a ha => hK13 _ _ ?_ a ha
    refine W.cond rfl (fun h20 => ?_) (fun h20 => ?_)
    · replace hF := ifP h20 hF
      refine W.seq fun K21 hK21 => ?_
      refine W.region ?_
      refine wl_build (zs := [(.slice none 0 0), (.slice none 0 0), (.int .i64 0), (.int .i64 0), (.int .i64 0), (.slice none 0 0), (.slice none 0 0)]) (out := [(.slice none 0 0), (.slice none 0 0), (.int .i64 0), (.int .i64 0), (.int .i64 0), (.slice none 0 0), (.slice none 0 0)]) (vs := []) (css := []) tf_44 pl_44 rfl rfl rfl rfl rfl ?_
      refine wl_store_blk (i := 1) (vs := [(.slice none 0 0), (.slice none 0 0), (.int .i64 0), (.int .i64 0), (.int .i64 0), (.slice none 0 0), (.slice none 0 0)]) (cs' := [(.slice none 0 0), (.slice none 0 0), (.int .i64 0), (.int .i64 0), (.int .i64 0), (.slice none 0 0), (.slice none 0 0)]) tf_44 rfl rfl rfl rfl hB15 hS16 rfl rfl ⟨rfl, rfl, rfl, rfl, rfl, rfl, rfl, trivial⟩ rfl ?_
      intro w22 hk25 hB23 hS24
      refine wl_assign rfl rfl ?_
      refine WL.nil ?_
      refine fun a ha => hK21 _ _ ?_ a ha
      refine W.ret ?_
      have hS26 := hS24.push0 (r := R.own ty_82 [] (.slice none 0 0) []) rfl fun _ => .inl ⟨rfl, rfl, rfl⟩
      have hS27 := hS26.push0 (r := R.own ty_3 [] (.slice none 0 0) []) rfl fun _ => .inl ⟨rfl, rfl, rfl⟩
      have hS28 := hS27.push0 (r := R.own ty_3 [] (.slice none 0 0) []) rfl fun _ => .inl ⟨rfl, rfl, rfl⟩
      have hS29 := hS28.push0 (r := R.own ty_3 [] (.slice none 0 0) []) rfl fun _ => .inl ⟨rfl, rfl, rfl⟩
      have hr := Option.some.inj hF
      subst hr
      exact rets (vs := [(.agg #[(.slice none 0 0), (.slice none 0 0), (.int .i64 0), (.int .i64 0), (.int .i64 0), (.slice none 0 0), (.slice none 0 0)]), (.bool false)]) hQ rfl ⟨rv_cell (i := 1) tf_44 rfl hS24 rfl rfl rfl, rv_tmp rfl, trivial⟩ ⟨(.slice none 0 0), [], (.slice none 0 0), [], (.slice none 0 0), [], (.slice none 0 0), [], rfl, hB23, hS29.sel [3, 2, 1, 0] rfl⟩
    · replace hF := ifN h20 hF
      refine W.skip ?_
      refine fun a ha => hK12 _ _ ?_ a ha
      refine W.seq fun K30 hK30 => ?_
      refine W.region ?_
      refine wl_load_blk (i := 0) (vs := [v0_0, v0_1, (.int .i64 x0.1.2.2.1), (.int .i64 x0.1.2.2.2), (.int .i64 x0.2.1), v0_2, v0_3]) (v := (.agg #[v0_0, v0_1, (.int .i64 x0.1.2.2.1), (.int .i64 x0.1.2.2.2), (.int .i64 x0.2.1), v0_2, v0_3])) tf_44 rfl rfl hS16 rfl rfl rfl ?_
      obtain ⟨u31, hu31, hF⟩ := bindE hF
      refine wl_call rfl Try.call44 (C_impl_copyMarch w14 x0 v0_0 (h0_0.ro hB15) v0_1 (h0_1.ro hB15) v0_2 (h0_2.ro hB15) v0_3 (h0_3.ro hB15) _ hu31) rfl ?_
      rintro _ w40 ⟨v32, F33, v34, F35, v36, F37, v38, F39, rfl, hb41, hM44⟩
      refine ⟨_, rfl, ?_⟩
      have hB42 := hB15.trans (hb41.mono hB15.size)
      have hS43 := hS16.join hb41 hM44 hB15.size
      refine wl_alloc (cs := [(.slice none 0 0), (.slice none 0 0), (.int .i64 0), (.int .i64 0), (.int .i64 0), (.slice none 0 0), (.slice none 0 0)]) tf_44 rfl rfl hB42 hS43 ?_
      intro b45 w46 hb47 hB48 hS49
      refine wl_store_blk (i := 0) (vs := [v32, v34, (.int .i64 u31.1.2.2.1), (.int .i64 u31.1.2.2.2), (.int .i64 u31.2.1), v36, v38]) (cs' := [v32, v34, (.int .i64 u31.1.2.2.1), (.int .i64 u31.1.2.2.2), (.int .i64 u31.2.1), v36, v38]) tf_44 rfl rfl rfl rfl hB48 hS49 rfl rfl ⟨(hS49.own_ro (i := 1) rfl).one, (hS49.own_ro (i := 2) rfl).one, rfl, rfl, rfl, (hS49.own_ro (i := 3) rfl).one, (hS49.own_ro (i := 4) rfl).one, trivial⟩ rfl ?_
      intro w50 hk53 hB51 hS52
      refine WL.nil ?_
      refine fun a ha => hK30 _ _ ?_ a ha
      refine W.seq fun K54 hK54 => ?_
      refine W.region ?_
      refine wl_field (o := 4) (off' := 4) ff_44_1 rfl rfl rfl ?_
      refine wl_load_blk (i := 0) (vs := [(.int .i64 u31.2.1)]) (v := (.int .i64 u31.2.1)) tf_3 rfl rfl hS52 rfl rfl rfl ?_
      refine wl_add rfl rfl rfl ?_
      refine wl_field (o := 4) (off' := 4) ff_44_1 rfl rfl rfl ?_
      refine wl_store_blk (i := 0) (vs := [(.int .i64 (w64 (u31.2.1 + 1)))]) (cs' := [v32, v34, (.int .i64 u31.1.2.2.1), (.int .i64 u31.1.2.2.2), (.int .i64 (w64 (u31.2.1 + 1))), v36, v38]) tf_3 rfl rfl rfl rfl hB51 hS52 rfl rfl ⟨rfl, trivial⟩ rfl ?_
      intro w55 hk58 hB56 hS57
      refine WL.nil ?_
      refine fun a ha => hK54 _ _ ?_ a ha
      refine W.seq fun K59 hK59 => ?_
      refine W.seq fun K60 hK60 => ?_
      refine W.region ?_
      refine wl_field (o := 5) (off' := 5) ff_44_2 rfl rfl rfl ?_
      refine wl_load_blk (i := 0) (vs := [v36]) (v := v36) tf_24 rfl rfl hS57 rfl rfl rfl ?_
      refine wl_lenr (e := ty_3) (l := u31.2.2.1) Try.underlying24 rfl rfl (hS57.own_ro (i := 3) rfl) ?_
      refine wl_move rfl rfl ?_
      refine WL.nil ?_
      refine fun a ha => hK60 _ _ ?_ a ha
      refine W.block ?_
      refine W.loopk (fun m a w61 => ∃ (l64 : (List Int)) (y67 : Int) (v65 : Value) (F66 : List Nat), St 38 [(2, (.pointer (some ⟨b7, 0, none⟩))), (4, (.pointer (some ⟨b45, 0, none⟩))), (23, v36), (24, (.int .i64 (List.length u31.2.2.1 : Int))), (25, (.int .i64 y67))] a ∧ Below w0.heap.size w0 w61 ∧ Sep w0.heap.size w61 [R.blk b7 44 [(.slice none 0 0), (.slice none 0 0), (.int .i64 0), (.int .i64 0), (.int .i64 0), (.slice none 0 0), (.slice none 0 0)], R.own ty_82 F33 v32 u31.1.1, R.own ty_3 F35 v34 u31.1.2.1, R.own ty_3 F37 v36 u31.2.2.1, R.own ty_3 F66 v65 l64, R.blk b45 44 [v32, v34, (.int .i64 u31.1.2.2.1), (.int .i64 u31.1.2.2.2), (.int .i64 (w64 (u31.2.1 + 1))), v36, v65]] ∧ F_impl_BeatOnce_L1 u31 m l64 y67 = some r) FU ?_ ?_
      ·
        exact fun a ha => ⟨u31.2.2.2, 0, v38, F39, ha.sub ⟨rfl, rfl, rfl, rfl, rfl, trivial⟩, hB56, (hS57.sel [6, 1, 2, 3, 4, 0] rfl), hF⟩
      ·
        rintro m70 a w61 ⟨l64, y67, v65, F66, ha, hB62, hS63, hF⟩ KL69 hKL69
        refine W.at ?_ ha
        cases m70 with
        | zero => exact noneE hF
        | succ m70 =>
          obtain ⟨nx68, hnx68⟩ : ∃ k, k = F_impl_BeatOnce_L1 u31 m70 := ⟨_, rfl⟩
          rw [F_impl_BeatOnce_L1, ← hnx68] at hF
          refine W.seq fun K71 hK71 => ?_
          refine W.region ?_
          refine wl_lss rfl rfl rfl ?_
          refine WL.nil ?_
          refine fun a ha => hK71 _ _ ?_ a ha
          refine W.seq fun K72 hK72 => ?_
          refine W.cond rfl (fun h73 => ?_) (fun h73 => ?_)
          · replace hF := ifP h73 hF
            refine W.skip ?_
            refine fun a ha => hK72 _ _ ?_ a ha
            refine W.seq fun K74 hK74 => ?_
            refine W.block ?_
            refine W.seq fun K75 hK75 => ?_
            refine W.region ?_
            obtain ⟨u76, hu76, hF⟩ := bindE hF
            refine wl_indexo (e := ty_3) (i := 3) Try.underlying24 rfl rfl rfl hS63 rfl hu76 ?_
            rintro p77 _ rfl hp78 ho79
            refine wl_load_p (vs := [(.int .i64 u76)]) (v := (.int .i64 u76)) tf_3 rfl rfl hp78 rfl rfl ?_
            refine wl_assign rfl rfl ?_
            refine WL.nil ?_
            refine fun a ha => hK75 _ _ ?_ a ha
            refine W.region ?_
            refine wl_field (o := 6) (off' := 6) ff_44_3 rfl rfl rfl ?_
            refine wl_load_blk (i := 5) (vs := [v65]) (v := v65) tf_24 rfl rfl hS63 rfl rfl rfl ?_
            refine wl_move rfl rfl ?_
            obtain ⟨u80, hu80, hF⟩ := bindE hF
            refine wl_indexo (e := ty_3) (i := 4) Try.underlying24 rfl rfl rfl hS63 rfl hu80 ?_
            rintro p81 _ rfl hp82 ho83
            refine wl_load_p (vs := [(.int .i64 u80)]) (v := (.int .i64 u80)) tf_3 rfl rfl hp82 rfl rfl ?_
            refine wl_add rfl rfl rfl ?_
            obtain ⟨u84, hu84, hF⟩ := bindE hF
            refine wl_indexo (e := ty_3) (i := 4) Try.underlying24 rfl rfl rfl hS63 rfl hu84 ?_
            rintro p85 _ rfl hp86 ho87
            refine wl_storeo (i := 4) (o := 0) (vs := [(.int .i64 (w64 (u80 + 1)))]) (u' := (w64 (u80 + 1))) fl_3 tf_3 rfl rfl rfl rfl ho87 hu84 hB62 hS63 rfl rfl ⟨rfl, trivial⟩ rfl ?_
            intro w88 hk91 hB89 hS90
            refine WL.nil ?_
            refine fun a ha => hK74 _ _ ?_ a ha
            refine W.region ?_
            refine wl_add rfl rfl rfl ?_
            refine wl_move rfl rfl ?_
            refine WL.nil ?_
            rw [hnx68] at hF
            exact fun a ha => hKL69 a _ m70 (Nat.lt_succ_self m70) ⟨(seti l64 u76 (w64 (u80 + 1))), (w64 (y67 + 1)), v65, F66, ha.sub ⟨rfl, rfl, rfl, rfl, rfl, trivial⟩, hB89, (hS90.sel [0, 1, 2, 3, 4, 5] rfl), hF⟩
          · replace hF := ifN h73 hF
            refine W.exit ?_
            refine fun a ha => hK59 _ _ ?_ a ha
            refine W.seq fun K92 hK92 => ?_
            refine W.region ?_
            refine wl_load_blk (i := 5) (vs := [v32, v34, (.int .i64 u31.1.2.2.1), (.int .i64 u31.1.2.2.2), (.int .i64 (w64 (u31.2.1 + 1))), v36, v65]) (v := (.agg #[v32, v34, (.int .i64 u31.1.2.2.1), (.int .i64 u31.1.2.2.2), (.int .i64 (w64 (u31.2.1 + 1))), v36, v65])) tf_44 rfl rfl hS63 rfl rfl rfl ?_
            refine wl_store_blk (i := 0) (vs := [v32, v34, (.int .i64 u31.1.2.2.1), (.int .i64 u31.1.2.2.2), (.int .i64 (w64 (u31.2.1 + 1))), v36, v65]) (cs' := [v32, v34, (.int .i64 u31.1.2.2.1), (.int .i64 u31.1.2.2.2), (.int .i64 (w64 (u31.2.1 + 1))), v36, v65]) tf_44 rfl rfl rfl rfl hB62 hS63 rfl rfl ⟨(hS63.own_ro (i := 1) rfl).one, (hS63.own_ro (i := 2) rfl).one, rfl, rfl, rfl, (hS63.own_ro (i := 3) rfl).one, (hS63.own_ro (i := 4) rfl).one, trivial⟩ rfl ?_
            intro w93 hk96 hB94 hS95
            refine wl_assign rfl rfl ?_
            refine WL.nil ?_
            refine fun a ha => hK92 _ _ ?_ a ha
            refine W.ret ?_
            have hr := Option.some.inj hF
            subst hr
            exact rets (vs := [(.agg #[v32, v34, (.int .i64 u31.1.2.2.1), (.int .i64 u31.1.2.2.2), (.int .i64 (w64 (u31.2.1 + 1))), v36, v65]), (.bool true)]) hQ rfl ⟨rv_cell (i := 0) tf_44 rfl hS95 rfl rfl rfl, rv_tmp rfl, trivial⟩ ⟨v32, F33, v34, F35, v36, F37, v65, F66, rfl, hB94, hS95.sel [1, 2, 3, 4] rfl⟩
  refine W.region ?_
  refine wl_load_blk (i := 1) (vs := [v0_0, v0_1, (.int .i64 x0.1.2.2.1), (.int .i64 x0.1.2.2.2), (.int .i64 x0.2.1), v0_2, v0_3]) (v := (.agg #[v0_0, v0_1, (.int .i64 x0.1.2.2.1), (.int .i64 x0.1.2.2.2), (.int .i64 x0.2.1), v0_2, v0_3])) tf_44 rfl rfl hS11 rfl rfl rfl ?_
  obtain ⟨u97, hu97, hF⟩ := bindE hF
  refine wl_call rfl Try.call52 (C_impl_IsMarch w8 x0 v0_0 (h0_0.ro hB10) v0_1 (h0_1.ro hB10) v0_2 (h0_2.ro hB10) v0_3 (h0_3.ro hB10) _ hu97) rfl ?_
  rintro _ w98 ⟨rfl, hb99⟩
  refine ⟨_, rfl, ?_⟩
  have hB100 := hB10.trans (hb99.mono hB10.size)
  have hS101 := hS11.below hb99
  refine wl_not rfl rfl ?_
  refine wl_move rfl rfl ?_
  rcases bE (!u97) with h103 | h103
  · replace hF := ifP h103 hF
    refine wl_off rfl rfl rfl h103 ?_
    refine wl_off rfl rfl rfl h103 ?_
    refine wl_off rfl rfl rfl h103 ?_
    refine wl_pick_t rfl rfl h103 rfl ?_
    refine WL.nil ?_
    exact fun a ha => hJ19 (true) _ hF hB100 (hS101.sel [1, 0] rfl) a (ha.sub ⟨rfl, rfl, rfl, trivial⟩)
  · replace hF := ifN h103 hF
    refine wl_on rfl rfl h103 ?_
    refine wl_field (o := 4) (off' := 4) ff_44_1 rfl rfl rfl ?_
    refine wl_on rfl rfl h103 ?_
    refine wl_load_blk (i := 1) (vs := [(.int .i64 x0.2.1)]) (v := (.int .i64 x0.2.1)) tf_3 rfl rfl hS101 rfl rfl rfl ?_
    refine wl_on rfl rfl h103 ?_
    refine wl_eql rfl rfl rfl ?_
    refine wl_pick_f rfl rfl h103 rfl ?_
    refine WL.nil ?_
    exact fun a ha => hJ19 ((x0.2.1 == 1000)) _ hF hB100 (hS101.sel [1, 0] rfl) a (ha.sub ⟨rfl, rfl, rfl, trivial⟩)
theorem C_slices_Delete_int_int__take (w0 : World) (x0 : (List Int)) (v0_0 : Value) (B0_0 : List Nat) (x1 : Int) (x2 : Int) (hS0 : Sep 0 w0 [R.own ty_3 B0_0 v0_0 x0]) (r : (List Int)) (hF : F_slices_Delete_int_int__take x0 x1 x2 = some r) :
    Calls Try.prog 116 [v0_0, (.int .i64 x1), (.int .i64 x2)].toArray w0 fun e w' => ∃ (q0 : Value) (G0 : List Nat), e = .returned q0 ∧ Below 0 (wE w0) w' ∧ Sep 0 w' [R.rest w0 (fps [R.own ty_3 B0_0 v0_0 x0]), R.own ty_3 G0 q0 r] := by
  refine calls_mk' Try.func116 rfl Try.ntmps116 rfl rfl fun Q hQ hP => ?_
  have hB : Below (wE w0).heap.size (wE w0) w0 := wE_below w0
  have hS : Sep (wE w0).heap.size w0 [R.rest w0 (fps [R.own ty_3 B0_0 v0_0 x0]), R.own ty_3 B0_0 v0_0 x0] := hS0.rest
  unfold F_slices_Delete_int_int__take at hF
  refine W.seq fun K1 hK1 => ?_
  refine W.region ?_
  refine wl_assign rfl rfl ?_
  refine WL.nil ?_
  refine fun a ha => hK1 _ _ ?_ a ha
  refine W.seq fun K2 hK2 => ?_
  refine W.region ?_
  refine wl_move rfl rfl ?_
  refine wl_move rfl rfl ?_
  refine wl_move rfl rfl ?_
  refine wl_move rfl rfl ?_
  refine wl_lenr (e := ty_3) (l := x0) Try.underlying24 rfl rfl (hS.own_ro (i := 1) rfl) ?_
  obtain ⟨u3, hu3, hF⟩ := bindE hF
  refine wl_slice3 (e := ty_3) Try.underlying24 rfl rfl (hS.own_ro (i := 1) rfl) rfl rfl rfl hu3 ?_
  intro v4
  refine WL.nil ?_
  refine fun a ha => hK2 _ _ ?_ a ha
  refine W.seq fun K5 hK5 => ?_
  refine W.seq fun K6 hK6 => ?_
  refine W.region ?_
  refine wl_move rfl rfl ?_
  refine wl_move rfl rfl ?_
  refine wl_eql rfl rfl rfl ?_
  refine WL.nil ?_
  refine fun a ha => hK6 _ _ ?_ a ha
  refine W.cond rfl (fun h7 => ?_) (fun h7 => ?_)
  · replace hF := ifP h7 hF
    refine W.seq fun K8 hK8 => ?_
    refine W.region ?_
    refine wl_move rfl rfl ?_
    refine wl_assign rfl rfl ?_
    refine WL.nil ?_
    refine fun a ha => hK8 _ _ ?_ a ha
    refine W.ret ?_
    have hr := Option.some.inj hF
    subst hr
    exact rets (vs := [v0_0]) hQ rfl ⟨rv_tmp rfl, trivial⟩ ⟨v0_0, B0_0, rfl, hB, hS.sel [0, 1] rfl⟩
  · replace hF := ifN h7 hF
    refine W.skip ?_
    refine fun a ha => hK5 _ _ ?_ a ha
    refine W.seq fun K9 hK9 => ?_
    refine W.region ?_
    refine wl_move rfl rfl ?_
    refine wl_lenr (e := ty_3) (l := x0) Try.underlying24 rfl rfl (hS.own_ro (i := 1) rfl) ?_
    refine wl_assign rfl rfl ?_
    refine WL.nil ?_
    refine fun a ha => hK9 _ _ ?_ a ha
    refine W.seq fun K10 hK10 => ?_
    refine W.regionH mixed_ B0_0 hB hS ?_
    intro w11 hb12 hB13 hS14
    have hSW15 := KeepX.refl w11 B0_0
    refine WH.takex (i := 0) rfl (by kernel_rfl) (by kernel_rfl) (by kernel_rfl) hP hSW15 ?_
    refine pr_move rfl rfl ?_
    refine WH.takex (i := 1) rfl (by kernel_rfl) (by kernel_rfl) (by kernel_rfl) hP hSW15 ?_
    refine pr_move rfl rfl ?_
    obtain ⟨u16, hu16, hF⟩ := bindE hF
    refine WH.takex (i := 2) rfl (by kernel_rfl) (by kernel_rfl) (by kernel_rfl) hP hSW15 ?_
    refine pr_sliceof (e := ty_3) Try.underlying24 rfl rfl (hS14.ok (i := 1) rfl : ownS ty_3 _ _ _ _).rd hu16 (.inl ⟨rfl, rfl⟩) (.inr ⟨_, _, rfl, rfl⟩) ?_
    intro v17 hv20 hs19
    have hv18 := hv20.mono fun b hb => ((hS14.get (i := 1) rfl).2.1 b hb).2
    refine WH.takex (i := 3) rfl (by kernel_rfl) (by kernel_rfl) (by kernel_rfl) hP hSW15 ?_
    refine pr_move rfl rfl ?_
    refine WH.takex (i := 4) rfl (by kernel_rfl) (by kernel_rfl) (by kernel_rfl) hP hSW15 ?_
    refine pr_move rfl rfl ?_
    obtain ⟨u21, hu21, hF⟩ := bindE hF
    refine WH.takex (i := 5) rfl (by kernel_rfl) (by kernel_rfl) (by kernel_rfl) hP hSW15 ?_
    refine pr_sliceof (e := ty_3) Try.underlying24 rfl rfl (hS14.ok (i := 1) rfl : ownS ty_3 _ _ _ _).rd hu21 (.inr ⟨_, _, rfl, rfl⟩) (.inl ⟨rfl, rfl⟩) ?_
    intro v22 hv25 hs24
    have hv23 := hv25.mono fun b hb => ((hS14.get (i := 1) rfl).2.1 b hb).2
    refine WH.one (i := 6) (by kernel_rfl) rfl ?_
    obtain ⟨u26, hu26, hF⟩ := bindE hF
    obtain ⟨hc27, hc28, hc29, hc30⟩ := cutL_some hu26
    refine wl_appendcut (e := ty_3) Try.underlying24 rfl rfl rfl hB13 (hS14.sel [1, 0] rfl) hs19 hs24 hc28 hc29 ?_
    intro v31 F32 w33 hk34 hcap35 hB36 hS37
    have hS38 : Sep (wE w0).heap.size w33 [R.own ty_3 F32 v31 u26, R.rest w0 (fps [R.own ty_3 B0_0 v0_0 x0])] := by rw [hc27]; exact hS37
    have hSW39 := hSW15.wr' hk34.1 hk34.2.1 (fun _ _ h => h)
    refine WL.nil (WH.ret hSW39 ?_)
    refine WH.takex (i := 7) rfl (by kernel_rfl) (by kernel_rfl) (by kernel_rfl) hP hSW39 ?_
    refine pr_assign rfl rfl ?_
    refine WH.done (by kernel_rfl) ?_
    refine fun a ha => hK10 _ _ ?_ a ha
    refine W.seq fun K40 hK40 => ?_
    refine W.region ?_
    refine wl_move rfl rfl ?_
    refine wl_move rfl rfl ?_
    refine wl_lenr (e := ty_3) (l := u26) Try.underlying24 rfl rfl (hS38.own_ro (i := 0) rfl) ?_
    refine wl_move rfl rfl ?_
    refine wl_slicetail (e := ty_3) Try.underlying24 rfl rfl (hS38.own_ro (i := 0) rfl) rfl rfl (Int.natCast_nonneg _) (Int.ofNat_le.2 hc30) hcap35 ?_
    intro v41 hs42
    refine wl_clear (e := ty_3) Try.underlying24 rfl hB36 (hS38.sel [0, 1] rfl) hs42 hc30 hcap35 ?_
    intro w43 hk44 hB45 hS46
    refine WL.nil ?_
    refine fun a ha => hK40 _ _ ?_ a ha
    refine W.seq fun K47 hK47 => ?_
    refine W.region ?_
    refine wl_move rfl rfl ?_
    refine wl_assign rfl rfl ?_
    refine WL.nil ?_
    refine fun a ha => hK47 _ _ ?_ a ha
    refine W.ret ?_
    have hr := Option.some.inj hF
    subst hr
    exact rets (vs := [v31]) hQ rfl ⟨rv_tmp rfl, trivial⟩ ⟨v31, F32, rfl, hB45, hS46.sel [1, 0] rfl⟩
theorem C_impl_GoOn (w0 : World) (x0 : (((List (List (Int × Int))) × (List Int) × Int × Int) × Int × (List Int) × (List Int))) (v0_0 : Value) (h0_0 : rdS ty_82 (· < w0.heap.size) w0 v0_0 x0.1.1) (v0_1 : Value) (h0_1 : rdS ty_3 (· < w0.heap.size) w0 v0_1 x0.1.2.1) (v0_2 : Value) (h0_2 : rdS ty_3 (· < w0.heap.size) w0 v0_2 x0.2.2.1) (v0_3 : Value) (h0_3 : rdS ty_3 (· < w0.heap.size) w0 v0_3 x0.2.2.2) (x1 : Int) (r : ((((List (List (Int × Int))) × (List Int) × Int × Int) × Int × (List Int) × (List Int)) × Bool)) (hF : F_impl_GoOn x0 x1 = some r) :
    Calls Try.prog 89 [(.agg #[v0_0, v0_1, (.int .i64 x0.1.2.2.1), (.int .i64 x0.1.2.2.2), (.int .i64 x0.2.1), v0_2, v0_3]), (.int .i64 x1)].toArray w0 fun e w' => ∃ (q0 : Value) (G0 : List Nat) (q1 : Value) (G1 : List Nat) (q2 : Value) (G2 : List Nat) (q3 : Value) (G3 : List Nat), e = .returned (.tuple #[(.agg #[q0, q1, (.int .i64 r.1.1.2.2.1), (.int .i64 r.1.1.2.2.2), (.int .i64 r.1.2.1), q2, q3]), (.bool r.2)]) ∧ Below w0.heap.size w0 w' ∧ Sep w0.heap.size w' [R.own ty_82 G0 q0 r.1.1.1, R.own ty_3 G1 q1 r.1.1.2.1, R.own ty_3 G2 q2 r.1.2.2.1, R.own ty_3 G3 q3 r.1.2.2.2] := by
  refine calls_mk' Try.func89 rfl Try.ntmps89 rfl rfl fun Q hQ hP => ?_
  have hB : Below w0.heap.size w0 w0 := Below.refl _ _
  have hS : Sep w0.heap.size w0 [] := Sep.nil _ _
  unfold F_impl_GoOn at hF
  refine W.seq fun K1 hK1 => ?_
  refine W.region ?_
  refine wl_box (cs := [v0_0, v0_1, (.int .i64 x0.1.2.2.1), (.int .i64 x0.1.2.2.2), (.int .i64 x0.2.1), v0_2, v0_3]) rfl rfl rfl hB hS ?_
  intro b2 w3 hb4 hB5 hS6
  refine wl_alloc (cs := [(.slice none 0 0), (.slice none 0 0), (.int .i64 0), (.int .i64 0), (.int .i64 0), (.slice none 0 0), (.slice none 0 0)]) tf_44 rfl rfl hB5 hS6 ?_
  intro b7 w8 hb9 hB10 hS11
  refine wl_assign rfl rfl ?_
  refine WL.nil ?_
  refine fun a ha => hK1 _ _ ?_ a ha
  refine W.seq fun K12 hK12 => ?_
  refine W.seq fun K13 hK13 => ?_
  obtain ⟨k18, hk18, hF⟩ := jE1 hF
  have hJ19 : ∀ (y17 : Bool) (w14 : World) (_ : k18 y17 = some r) (_ : Below w0.heap.size w0 w14) (_ : Sep w0.heap.size w14 [R.blk b2 44 [v0_0, v0_1, (.int .i64 x0.1.2.2.1), (.int .i64 x0.1.2.2.2), (.int .i64 x0.2.1), v0_2, v0_3], R.blk b7 44 [(.slice none 0 0), (.slice none 0 0), (.int .i64 0), (.int .i64 0), (.int .i64 0), (.slice none 0 0), (.slice none 0 0)]]), ∀ a, St 34 [(1, (.int .i64 x1)), (2, (.pointer (some ⟨b2, 0, none⟩))), (4, (.pointer (some ⟨b7, 0, none⟩))), (18, (.bool y17))] a → K13 a w14 := by
    intro y17 w14 hF hB15 hS16
    subst hk18
    refine fun a ha => hK13 _ _ ?_ a ha
    refine W.cond rfl (fun h20 => ?_) (fun h20 => ?_)
    · replace hF := ifP h20 hF
      refine W.seq fun K21 hK21 => ?_
      refine W.region ?_
      refine wl_build (zs := [(.slice none 0 0), (.slice none 0 0), (.int .i64 0), (.int .i64 0), (.int .i64 0), (.slice none 0 0), (.slice none 0 0)]) (out := [(.slice none 0 0), (.slice none 0 0), (.int .i64 0), (.int .i64 0), (.int .i64 0), (.slice none 0 0), (.slice none 0 0)]) (vs := []) (css := []) tf_44 pl_44 rfl rfl rfl rfl rfl ?_
      refine wl_store_blk (i := 1) (vs := [(.slice none 0 0), (.slice none 0 0), (.int .i64 0), (.int .i64 0), (.int .i64 0), (.slice none 0 0), (.slice none 0 0)]) (cs' := [(.slice none 0 0), (.slice none 0 0), (.int .i64 0), (.int .i64 0), (.int .i64 0), (.slice none 0 0), (.slice none 0 0)]) tf_44 rfl rfl rfl rfl hB15 hS16 rfl rfl ⟨rfl, rfl, rfl, rfl, rfl, rfl, rfl, trivial⟩ rfl ?_
      intro w22 hk25 hB23 hS24
      refine wl_assign rfl rfl ?_
      refine WL.nil ?_
      refine fun a ha => hK21 _ _ ?_ a ha
      refine W.ret ?_
      have hS26 := hS24.push0 (r := R.own ty_82 [] (.slice none 0 0) []) rfl fun _ => .inl ⟨rfl, rfl, rfl⟩
      have hS27 := hS26.push0 (r := R.own ty_3 [] (.slice none 0 0) []) rfl fun _ => .inl ⟨rfl, rfl, rfl⟩
      have hS28 := hS27.push0 (r := R.own ty_3 [] (.slice none 0 0) []) rfl fun _ => .inl ⟨rfl, rfl, rfl⟩
      have hS29 := hS28.push0 (r := R.own ty_3 [] (.slice none 0 0) []) rfl fun _ => .inl ⟨rfl, rfl, rfl⟩
      have hr := Option.some.inj hF
      subst hr
      exact rets (vs := [(.agg #[(.slice none 0 0), (.slice none 0 0), (.int .i64 0), (.int .i64 0), (.int .i64 0), (.slice none 0 0), (.slice none 0 0)]), (.bool false)]) hQ rfl ⟨rv_cell (i := 1) tf_44 rfl hS24 rfl rfl rfl, rv_tmp rfl, trivial⟩ ⟨(.slice none 0 0), [], (.slice none 0 0), [], (.slice none 0 0), [], (.slice none 0 0), [], rfl, hB23, hS29.sel [3, 2, 1, 0] rfl⟩
    · replace hF := ifN h20 hF
      refine W.skip ?_
      refine fun a ha => hK12 _ _ ?_ a ha
      refine W.seq fun K30 hK30 => ?_
      refine W.region ?_
      refine wl_load_blk (i := 0) (vs := [v0_0, v0_1, (.int .i64 x0.1.2.2.1), (.int .i64 x0.1.2.2.2), (.int .i64 x0.2.1), v0_2, v0_3]) (v := (.agg #[v0_0, v0_1, (.int .i64 x0.1.2.2.1), (.int .i64 x0.1.2.2.2), (.int .i64 x0.2.1), v0_2, v0_3])) tf_44 rfl rfl hS16 rfl rfl rfl ?_
      obtain ⟨u31, hu31, hF⟩ := bindE hF
      refine wl_call rfl Try.call44 (C_impl_copyMarch w14 x0 v0_0 (h0_0.ro hB15) v0_1 (h0_1.ro hB15) v0_2 (h0_2.ro hB15) v0_3 (h0_3.ro hB15) _ hu31) rfl ?_
      rintro _ w40 ⟨v32, F33, v34, F35, v36, F37, v38, F39, rfl, hb41, hM44⟩
      refine ⟨_, rfl, ?_⟩
      have hB42 := hB15.trans (hb41.mono hB15.size)
      have hS43 := hS16.join hb41 hM44 hB15.size
      refine wl_alloc (cs := [(.slice none 0 0), (.slice none 0 0), (.int .i64 0), (.int .i64 0), (.int .i64 0), (.slice none 0 0), (.slice none 0 0)]) tf_44 rfl rfl hB42 hS43 ?_
      intro b45 w46 hb47 hB48 hS49
      refine wl_store_blk (i := 0) (vs := [v32, v34, (.int .i64 u31.1.2.2.1), (.int .i64 u31.1.2.2.2), (.int .i64 u31.2.1), v36, v38]) (cs' := [v32, v34, (.int .i64 u31.1.2.2.1), (.int .i64 u31.1.2.2.2), (.int .i64 u31.2.1), v36, v38]) tf_44 rfl rfl rfl rfl hB48 hS49 rfl rfl ⟨(hS49.own_ro (i := 1) rfl).one, (hS49.own_ro (i := 2) rfl).one, rfl, rfl, rfl, (hS49.own_ro (i := 3) rfl).one, (hS49.own_ro (i := 4) rfl).one, trivial⟩ rfl ?_
      intro w50 hk53 hB51 hS52
      refine WL.nil ?_
      refine fun a ha => hK30 _ _ ?_ a ha
      refine W.seq fun K54 hK54 => ?_
      refine W.region ?_
      refine wl_field (o := 5) (off' := 5) ff_44_2 rfl rfl rfl ?_
      refine wl_load_blk (i := 0) (vs := [v36]) (v := v36) tf_24 rfl rfl hS52 rfl rfl rfl ?_
      refine wl_move rfl rfl ?_
      obtain ⟨u55, hu55, hF⟩ := bindE hF
      refine wl_call rfl Try.call77 (C_slices_Index_int_int w50 u31.2.2.1 v36 (hS52.own_ro (i := 3) rfl) x1 _ hu55) rfl ?_
      rintro _ w56 ⟨rfl, hb57⟩
      refine ⟨_, rfl, ?_⟩
      have hB58 := hB51.trans (hb57.mono hB51.size)
      have hS59 := hS52.below hb57
      refine wl_assign rfl rfl ?_
      refine WL.nil ?_
      refine fun a ha => hK54 _ _ ?_ a ha
      refine W.seq fun K61 hK61 => ?_
      refine W.region ?_
      refine wl_field (o := 5) (off' := 5) ff_44_2 rfl rfl rfl ?_
      refine wl_load_blk (i := 0) (vs := [v36]) (v := v36) tf_24 rfl rfl hS59 rfl rfl rfl ?_
      refine wl_move rfl rfl ?_
      refine wl_move rfl rfl ?_
      refine wl_add rfl rfl rfl ?_
      obtain ⟨u62, hu62, hF⟩ := bindE hF
      refine wl_call rfl Try.call116 (C_slices_Delete_int_int__take w56 u31.2.2.1 v36 F37 u55 (w64 (u55 + 1)) (hS59.sel [3] rfl).base0 _ hu62) rfl ?_
      rintro _ w63 ⟨v68, F69, rfl, hE64, hM65⟩
      refine ⟨_, rfl, ?_⟩
      have hB66 := hS59.takeB [3] rfl (M := [R.own ty_3 F37 v36 u31.2.2.1]) rfl hB58 hE64 hM65
      have hS67 : Sep w0.heap.size w63 [R.own ty_3 F69 v68 u62, R.blk b45 44 [v32, v34, (.int .i64 u31.1.2.2.1), (.int .i64 u31.1.2.2.2), (.int .i64 u31.2.1), v36, v38], R.own ty_82 F33 v32 u31.1.1, R.own ty_3 F35 v34 u31.1.2.1, R.own ty_3 F39 v38 u31.2.2.2, R.blk b2 44 [v0_0, v0_1, (.int .i64 x0.1.2.2.1), (.int .i64 x0.1.2.2.2), (.int .i64 x0.2.1), v0_2, v0_3], R.blk b7 44 [(.slice none 0 0), (.slice none 0 0), (.int .i64 0), (.int .i64 0), (.int .i64 0), (.slice none 0 0), (.slice none 0 0)]] := hS59.take [3] [0, 1, 2, 4, 5, 6] rfl (M := [R.own ty_3 F37 v36 u31.2.2.1]) rfl hM65 hB58.size
      refine wl_field (o := 5) (off' := 5) ff_44_2 rfl rfl rfl ?_
      refine wl_store_blk (i := 1) (vs := [v68]) (cs' := [v32, v34, (.int .i64 u31.1.2.2.1), (.int .i64 u31.1.2.2.2), (.int .i64 u31.2.1), v68, v38]) tf_24 rfl rfl (cells_one (hS67.own_ro (i := 0) rfl).one) rfl hB66 hS67 rfl rfl ⟨(hS67.own_ro (i := 0) rfl).one, trivial⟩ rfl ?_
      intro w70 hk73 hB71 hS72
      refine WL.nil ?_
      refine fun a ha => hK61 _ _ ?_ a ha
      refine W.seq fun K74 hK74 => ?_
      refine W.region ?_
      refine wl_load_blk (i := 1) (vs := [v32, v34, (.int .i64 u31.1.2.2.1), (.int .i64 u31.1.2.2.2), (.int .i64 u31.2.1), v68, v38]) (v := (.agg #[v32, v34, (.int .i64 u31.1.2.2.1), (.int .i64 u31.1.2.2.2), (.int .i64 u31.2.1), v68, v38])) tf_44 rfl rfl hS72 rfl rfl rfl ?_
      refine wl_store_blk (i := 6) (vs := [v32, v34, (.int .i64 u31.1.2.2.1), (.int .i64 u31.1.2.2.2), (.int .i64 u31.2.1), v68, v38]) (cs' := [v32, v34, (.int .i64 u31.1.2.2.1), (.int .i64 u31.1.2.2.2), (.int .i64 u31.2.1), v68, v38]) tf_44 rfl rfl rfl rfl hB71 hS72 rfl rfl ⟨(hS72.own_ro (i := 2) rfl).one, (hS72.own_ro (i := 3) rfl).one, rfl, rfl, rfl, (hS72.own_ro (i := 0) rfl).one, (hS72.own_ro (i := 4) rfl).one, trivial⟩ rfl ?_
      intro w75 hk78 hB76 hS77
      refine wl_assign rfl rfl ?_
      refine WL.nil ?_
      refine fun a ha => hK74 _ _ ?_ a ha
      refine W.ret ?_
      have hr := Option.some.inj hF
      subst hr
      exact rets (vs := [(.agg #[v32, v34, (.int .i64 u31.1.2.2.1), (.int .i64 u31.1.2.2.2), (.int .i64 u31.2.1), v68, v38]), (.bool true)]) hQ rfl ⟨rv_cell (i := 6) tf_44 rfl hS77 rfl rfl rfl, rv_tmp rfl, trivial⟩ ⟨v32, F33, v34, F35, v68, F69, v38, F39, rfl, hB76, hS77.sel [2, 3, 0, 4] rfl⟩
  refine W.region ?_
  refine wl_load_blk (i := 1) (vs := [v0_0, v0_1, (.int .i64 x0.1.2.2.1), (.int .i64 x0.1.2.2.2), (.int .i64 x0.2.1), v0_2, v0_3]) (v := (.agg #[v0_0, v0_1, (.int .i64 x0.1.2.2.1), (.int .i64 x0.1.2.2.2), (.int .i64 x0.2.1), v0_2, v0_3])) tf_44 rfl rfl hS11 rfl rfl rfl ?_
  refine wl_move rfl rfl ?_
  obtain ⟨u79, hu79, hF⟩ := bindE hF
  refine wl_call rfl Try.call42 (C_impl_hasPerformer w8 x0 v0_0 (h0_0.ro hB10) v0_1 (h0_1.ro hB10) v0_2 (h0_2.ro hB10) v0_3 (h0_3.ro hB10) x1 _ hu79) rfl ?_
  rintro _ w80 ⟨rfl, hb81⟩
  refine ⟨_, rfl, ?_⟩
  have hB82 := hB10.trans (hb81.mono hB10.size)
  have hS83 := hS11.below hb81
  refine wl_not rfl rfl ?_
  refine wl_move rfl rfl ?_
  rcases bE (!u79) with h85 | h85
  · replace hF := ifP h85 hF
    refine wl_off rfl rfl rfl h85 ?_
    refine wl_off rfl rfl rfl h85 ?_
    refine wl_off rfl rfl rfl h85 ?_
    refine wl_off rfl rfl rfl h85 ?_
    refine wl_off rfl rfl rfl h85 ?_
    refine wl_pick_t rfl rfl h85 rfl ?_
    refine WL.nil ?_
    exact fun a ha => hJ19 (true) _ hF hB82 (hS83.sel [1, 0] rfl) a (ha.sub ⟨rfl, rfl, rfl, rfl, trivial⟩)
  · replace hF := ifN h85 hF
    refine wl_on rfl rfl h85 ?_
    refine wl_field (o := 5) (off' := 5) ff_44_2 rfl rfl rfl ?_
    refine wl_on rfl rfl h85 ?_
    refine wl_load_blk (i := 1) (vs := [v0_2]) (v := v0_2) tf_24 rfl rfl hS83 rfl rfl rfl ?_
    refine wl_on rfl rfl h85 ?_
    refine wl_move rfl rfl ?_
    refine wl_on rfl rfl h85 ?_
    obtain ⟨u86, hu86, hF⟩ := bindE hF
    refine wl_call rfl Try.call43 (C_slices_Contains_int_int w80 x0.2.2.1 v0_2 (h0_2.ro hB82) x1 _ hu86) rfl ?_
    rintro _ w87 ⟨rfl, hb88⟩
    refine ⟨_, rfl, ?_⟩
    have hB89 := hB82.trans (hb88.mono hB82.size)
    have hS90 := hS83.below hb88
    refine wl_on rfl rfl h85 ?_
    refine wl_not rfl rfl ?_
    refine wl_pick_f rfl rfl h85 rfl ?_
    refine WL.nil ?_
    exact fun a ha => hJ19 ((!u86)) _ hF hB89 (hS90.sel [1, 0] rfl) a (ha.sub ⟨rfl, rfl, rfl, rfl, trivial⟩)
theorem C_impl_doBeat (w0 : World) (x0 : (((List (List (Int × Int))) × (List Int) × Int × Int) × Int × (List Int) × (List Int))) (v0_0 : Value) (h0_0 : rdS ty_82 (· < w0.heap.size) w0 v0_0 x0.1.1) (v0_1 : Value) (h0_1 : rdS ty_3 (· < w0.heap.size) w0 v0_1 x0.1.2.1) (v0_2 : Value) (h0_2 : rdS ty_3 (· < w0.heap.size) w0 v0_2 x0.2.2.1) (v0_3 : Value) (h0_3 : rdS ty_3 (· < w0.heap.size) w0 v0_3 x0.2.2.2) (x1 : (Int × Int)) (r : ((((List (List (Int × Int))) × (List Int) × Int × Int) × Int × (List Int) × (List Int)) × Bool)) (hF : F_impl_doBeat x0 x1 = some r) :
    Calls Try.prog 53 [(.agg #[v0_0, v0_1, (.int .i64 x0.1.2.2.1), (.int .i64 x0.1.2.2.2), (.int .i64 x0.2.1), v0_2, v0_3]), (.agg #[(.int .i64 x1.1), (.int .i64 x1.2)])].toArray w0 fun e w' => ∃ (q0 : Value) (G0 : List Nat) (q1 : Value) (G1 : List Nat) (q2 : Value) (G2 : List Nat) (q3 : Value) (G3 : List Nat), e = .returned (.tuple #[(.agg #[q0, q1, (.int .i64 r.1.1.2.2.1), (.int .i64 r.1.1.2.2.2), (.int .i64 r.1.2.1), q2, q3]), (.bool r.2)]) ∧ Below w0.heap.size w0 w' ∧ Sep w0.heap.size w' [R.own ty_82 G0 q0 r.1.1.1, R.own ty_3 G1 q1 r.1.1.2.1, R.own ty_3 G2 q2 r.1.2.2.1, R.own ty_3 G3 q3 r.1.2.2.2] := by
  refine calls_mk' Try.func53 rfl Try.ntmps53 rfl rfl fun Q hQ hP => ?_
  have hB : Below w0.heap.size w0 w0 := Below.refl _ _
  have hS : Sep w0.heap.size w0 [] := Sep.nil _ _
  unfold F_impl_doBeat at hF
  refine W.seq fun K1 hK1 => ?_
  refine W.region ?_
  refine wl_box (cs := [v0_0, v0_1, (.int .i64 x0.1.2.2.1), (.int .i64 x0.1.2.2.2), (.int .i64 x0.2.1), v0_2, v0_3]) rfl rfl rfl hB hS ?_
  intro b2 w3 hb4 hB5 hS6
  refine wl_box (cs := [(.int .i64 x1.1), (.int .i64 x1.2)]) rfl rfl rfl hB5 hS6 ?_
  intro b7 w8 hb9 hB10 hS11
  refine wl_alloc (cs := [(.slice none 0 0), (.slice none 0 0), (.int .i64 0), (.int .i64 0), (.int .i64 0), (.slice none 0 0), (.slice none 0 0)]) tf_44 rfl rfl hB10 hS11 ?_
  intro b12 w13 hb14 hB15 hS16
  refine wl_assign rfl rfl ?_
  refine WL.nil ?_
  refine fun a ha => hK1 _ _ ?_ a ha
  refine W.seq fun K17 hK17 => ?_
  refine W.block ?_
  refine W.seq fun K18 hK18 => ?_
  obtain ⟨k23, hk23, hF⟩ := jE1 hF
  have hJ24 : ∀ (y22 : Bool) (w19 : World) (_ : k23 y22 = some r) (_ : Below w0.heap.size w0 w19) (_ : Sep w0.heap.size w19 [R.blk b2 44 [v0_0, v0_1, (.int .i64 x0.1.2.2.1), (.int .i64 x0.1.2.2.2), (.int .i64 x0.2.1), v0_2, v0_3], R.blk b7 71 [(.int .i64 x1.1), (.int .i64 x1.2)], R.blk b12 44 [(.slice none 0 0), (.slice none 0 0), (.int .i64 0), (.int .i64 0), (.int .i64 0), (.slice none 0 0), (.slice none 0 0)]]), ∀ a, St 40 [(2, (.pointer (some ⟨b2, 0, none⟩))), (3, (.pointer (some ⟨b7, 0, none⟩))), (4, (.pointer (some ⟨b12, 0, none⟩))), (6, (.bool y22))] a → K18 a w19 := by
    intro y22 w19 hF hB20 hS21
    subst hk23
    refine fun a ha => hK18 _ _ ?_ a ha
    refine W.cond rfl (fun h25 => ?_) (fun h25 => ?_)
    · replace hF := ifP h25 hF
      refine W.seq fun K26 hK26 => ?_
      refine W.region ?_
      refine wl_load_blk (i := 0) (vs := [v0_0, v0_1, (.int .i64 x0.1.2.2.1), (.int .i64 x0.1.2.2.2), (.int .i64 x0.2.1), v0_2, v0_3]) (v := (.agg #[v0_0, v0_1, (.int .i64 x0.1.2.2.1), (.int .i64 x0.1.2.2.2), (.int .i64 x0.2.1), v0_2, v0_3])) tf_44 rfl rfl hS21 rfl rfl rfl ?_
      obtain ⟨u27, hu27, hF⟩ := bindE hF
      refine wl_call rfl Try.call88 (C_impl_BeatOnce w19 x0 v0_0 (h0_0.ro hB20) v0_1 (h0_1.ro hB20) v0_2 (h0_2.ro hB20) v0_3 (h0_3.ro hB20) _ hu27) rfl ?_
      rintro _ w36 ⟨v28, F29, v30, F31, v32, F33, v34, F35, rfl, hb37, hM40⟩
      refine ⟨_, rfl, ?_⟩
      have hB38 := hB20.trans (hb37.mono hB20.size)
      have hS39 := hS21.join hb37 hM40 hB20.size
      refine wl_extract rfl rfl rfl ?_
      refine wl_extract rfl rfl rfl ?_
      refine wl_store_blk (i := 6) (vs := [v28, v30, (.int .i64 u27.1.1.2.2.1), (.int .i64 u27.1.1.2.2.2), (.int .i64 u27.1.2.1), v32, v34]) (cs' := [v28, v30, (.int .i64 u27.1.1.2.2.1), (.int .i64 u27.1.1.2.2.2), (.int .i64 u27.1.2.1), v32, v34]) tf_44 rfl rfl rfl rfl hB38 hS39 rfl rfl ⟨(hS39.own_ro (i := 0) rfl).one, (hS39.own_ro (i := 1) rfl).one, rfl, rfl, rfl, (hS39.own_ro (i := 2) rfl).one, (hS39.own_ro (i := 3) rfl).one, trivial⟩ rfl ?_
      intro w41 hk44 hB42 hS43
      refine wl_assign rfl rfl ?_
      refine WL.nil ?_
      refine fun a ha => hK26 _ _ ?_ a ha
      refine W.ret ?_
      have hr := Option.some.inj hF
      subst hr
      exact rets (vs := [(.agg #[v28, v30, (.int .i64 u27.1.1.2.2.1), (.int .i64 u27.1.1.2.2.2), (.int .i64 u27.1.2.1), v32, v34]), (.bool u27.2)]) hQ rfl ⟨rv_cell (i := 6) tf_44 rfl hS43 rfl rfl rfl, rv_tmp rfl, trivial⟩ ⟨v28, F29, v30, F31, v32, F33, v34, F35, rfl, hB42, hS43.sel [0, 1, 2, 3] rfl⟩
    · replace hF := ifN h25 hF
      refine W.seq fun K45 hK45 => ?_
      refine W.region ?_
      refine wl_field (o := 0) (off' := 0) ff_71_0 rfl rfl rfl ?_
      refine wl_load_blk (i := 1) (vs := [(.int .i64 x1.1)]) (v := (.int .i64 x1.1)) tf_3 rfl rfl hS21 rfl rfl rfl ?_
      refine wl_eql rfl rfl rfl ?_
      refine wl_assign rfl rfl ?_
      refine WL.nil ?_
      refine fun a ha => hK45 _ _ ?_ a ha
      refine W.cond rfl (fun h46 => ?_) (fun h46 => ?_)
      · replace hF := ifP h46 hF
        refine W.seq fun K47 hK47 => ?_
        refine W.region ?_
        refine wl_load_blk (i := 0) (vs := [v0_0, v0_1, (.int .i64 x0.1.2.2.1), (.int .i64 x0.1.2.2.2), (.int .i64 x0.2.1), v0_2, v0_3]) (v := (.agg #[v0_0, v0_1, (.int .i64 x0.1.2.2.1), (.int .i64 x0.1.2.2.2), (.int .i64 x0.2.1), v0_2, v0_3])) tf_44 rfl rfl hS21 rfl rfl rfl ?_
        refine wl_field (o := 1) (off' := 1) ff_71_1 rfl rfl rfl ?_
        refine wl_load_blk (i := 1) (vs := [(.int .i64 x1.2)]) (v := (.int .i64 x1.2)) tf_3 rfl rfl hS21 rfl rfl rfl ?_
        obtain ⟨u48, hu48, hF⟩ := bindE hF
        refine wl_call rfl Try.call18 (C_impl_HaltPerformer w19 x0 v0_0 (h0_0.ro hB20) v0_1 (h0_1.ro hB20) v0_2 (h0_2.ro hB20) v0_3 (h0_3.ro hB20) x1.2 _ hu48) rfl ?_
        rintro _ w57 ⟨v49, F50, v51, F52, v53, F54, v55, F56, rfl, hb58, hM61⟩
        refine ⟨_, rfl, ?_⟩
        have hB59 := hB20.trans (hb58.mono hB20.size)
        have hS60 := hS21.join hb58 hM61 hB20.size
        refine wl_extract rfl rfl rfl ?_
        refine wl_extract rfl rfl rfl ?_
        refine wl_store_blk (i := 6) (vs := [v49, v51, (.int .i64 u48.1.1.2.2.1), (.int .i64 u48.1.1.2.2.2), (.int .i64 u48.1.2.1), v53, v55]) (cs' := [v49, v51, (.int .i64 u48.1.1.2.2.1), (.int .i64 u48.1.1.2.2.2), (.int .i64 u48.1.2.1), v53, v55]) tf_44 rfl rfl rfl rfl hB59 hS60 rfl rfl ⟨(hS60.own_ro (i := 0) rfl).one, (hS60.own_ro (i := 1) rfl).one, rfl, rfl, rfl, (hS60.own_ro (i := 2) rfl).one, (hS60.own_ro (i := 3) rfl).one, trivial⟩ rfl ?_
        intro w62 hk65 hB63 hS64
        refine wl_assign rfl rfl ?_
        refine WL.nil ?_
        refine fun a ha => hK47 _ _ ?_ a ha
        refine W.ret ?_
        have hr := Option.some.inj hF
        subst hr
        exact rets (vs := [(.agg #[v49, v51, (.int .i64 u48.1.1.2.2.1), (.int .i64 u48.1.1.2.2.2), (.int .i64 u48.1.2.1), v53, v55]), (.bool u48.2)]) hQ rfl ⟨rv_cell (i := 6) tf_44 rfl hS64 rfl rfl rfl, rv_tmp rfl, trivial⟩ ⟨v49, F50, v51, F52, v53, F54, v55, F56, rfl, hB63, hS64.sel [0, 1, 2, 3] rfl⟩
      · replace hF := ifN h46 hF
        refine W.seq fun K66 hK66 => ?_
        refine W.region ?_
        refine wl_field (o := 0) (off' := 0) ff_71_0 rfl rfl rfl ?_
        refine wl_load_blk (i := 1) (vs := [(.int .i64 x1.1)]) (v := (.int .i64 x1.1)) tf_3 rfl rfl hS21 rfl rfl rfl ?_
        refine wl_eql rfl rfl rfl ?_
        refine wl_assign rfl rfl ?_
        refine WL.nil ?_
        refine fun a ha => hK66 _ _ ?_ a ha
        refine W.cond rfl (fun h67 => ?_) (fun h67 => ?_)
        · replace hF := ifP h67 hF
          refine W.seq fun K68 hK68 => ?_
          refine W.region ?_
          refine wl_load_blk (i := 0) (vs := [v0_0, v0_1, (.int .i64 x0.1.2.2.1), (.int .i64 x0.1.2.2.2), (.int .i64 x0.2.1), v0_2, v0_3]) (v := (.agg #[v0_0, v0_1, (.int .i64 x0.1.2.2.1), (.int .i64 x0.1.2.2.2), (.int .i64 x0.2.1), v0_2, v0_3])) tf_44 rfl rfl hS21 rfl rfl rfl ?_
          refine wl_field (o := 1) (off' := 1) ff_71_1 rfl rfl rfl ?_
          refine wl_load_blk (i := 1) (vs := [(.int .i64 x1.2)]) (v := (.int .i64 x1.2)) tf_3 rfl rfl hS21 rfl rfl rfl ?_
          obtain ⟨u69, hu69, hF⟩ := bindE hF
          refine wl_call rfl Try.call89 (C_impl_GoOn w19 x0 v0_0 (h0_0.ro hB20) v0_1 (h0_1.ro hB20) v0_2 (h0_2.ro hB20) v0_3 (h0_3.ro hB20) x1.2 _ hu69) rfl ?_
          rintro _ w78 ⟨v70, F71, v72, F73, v74, F75, v76, F77, rfl, hb79, hM82⟩
          refine ⟨_, rfl, ?_⟩
          have hB80 := hB20.trans (hb79.mono hB20.size)
          have hS81 := hS21.join hb79 hM82 hB20.size
          refine wl_extract rfl rfl rfl ?_
          refine wl_extract rfl rfl rfl ?_
          refine wl_store_blk (i := 6) (vs := [v70, v72, (.int .i64 u69.1.1.2.2.1), (.int .i64 u69.1.1.2.2.2), (.int .i64 u69.1.2.1), v74, v76]) (cs' := [v70, v72, (.int .i64 u69.1.1.2.2.1), (.int .i64 u69.1.1.2.2.2), (.int .i64 u69.1.2.1), v74, v76]) tf_44 rfl rfl rfl rfl hB80 hS81 rfl rfl ⟨(hS81.own_ro (i := 0) rfl).one, (hS81.own_ro (i := 1) rfl).one, rfl, rfl, rfl, (hS81.own_ro (i := 2) rfl).one, (hS81.own_ro (i := 3) rfl).one, trivial⟩ rfl ?_
          intro w83 hk86 hB84 hS85
          refine wl_assign rfl rfl ?_
          refine WL.nil ?_
          refine fun a ha => hK68 _ _ ?_ a ha
          refine W.ret ?_
          have hr := Option.some.inj hF
          subst hr
          exact rets (vs := [(.agg #[v70, v72, (.int .i64 u69.1.1.2.2.1), (.int .i64 u69.1.1.2.2.2), (.int .i64 u69.1.2.1), v74, v76]), (.bool u69.2)]) hQ rfl ⟨rv_cell (i := 6) tf_44 rfl hS85 rfl rfl rfl, rv_tmp rfl, trivial⟩ ⟨v70, F71, v72, F73, v74, F75, v76, F77, rfl, hB84, hS85.sel [0, 1, 2, 3] rfl⟩
        · replace hF := ifN h67 hF
          refine W.skip ?_
          refine fun a ha => hK17 _ _ ?_ a ha
          refine W.seq fun K87 hK87 => ?_
          refine W.region ?_
          refine wl_build (zs := [(.slice none 0 0), (.slice none 0 0), (.int .i64 0), (.int .i64 0), (.int .i64 0), (.slice none 0 0), (.slice none 0 0)]) (out := [(.slice none 0 0), (.slice none 0 0), (.int .i64 0), (.int .i64 0), (.int .i64 0), (.slice none 0 0), (.slice none 0 0)]) (vs := []) (css := []) tf_44 pl_44 rfl rfl rfl rfl rfl ?_
          refine wl_store_blk (i := 2) (vs := [(.slice none 0 0), (.slice none 0 0), (.int .i64 0), (.int .i64 0), (.int .i64 0), (.slice none 0 0), (.slice none 0 0)]) (cs' := [(.slice none 0 0), (.slice none 0 0), (.int .i64 0), (.int .i64 0), (.int .i64 0), (.slice none 0 0), (.slice none 0 0)]) tf_44 rfl rfl rfl rfl hB20 hS21 rfl rfl ⟨rfl, rfl, rfl, rfl, rfl, rfl, rfl, trivial⟩ rfl ?_
          intro w88 hk91 hB89 hS90
          refine wl_assign rfl rfl ?_
          refine WL.nil ?_
          refine fun a ha => hK87 _ _ ?_ a ha
          refine W.ret ?_
          have hS92 := hS90.push0 (r := R.own ty_82 [] (.slice none 0 0) []) rfl fun _ => .inl ⟨rfl, rfl, rfl⟩
          have hS93 := hS92.push0 (r := R.own ty_3 [] (.slice none 0 0) []) rfl fun _ => .inl ⟨rfl, rfl, rfl⟩
          have hS94 := hS93.push0 (r := R.own ty_3 [] (.slice none 0 0) []) rfl fun _ => .inl ⟨rfl, rfl, rfl⟩
          have hS95 := hS94.push0 (r := R.own ty_3 [] (.slice none 0 0) []) rfl fun _ => .inl ⟨rfl, rfl, rfl⟩
          have hr := Option.some.inj hF
          subst hr
          exact rets (vs := [(.agg #[(.slice none 0 0), (.slice none 0 0), (.int .i64 0), (.int .i64 0), (.int .i64 0), (.slice none 0 0), (.slice none 0 0)]), (.bool false)]) hQ rfl ⟨rv_cell (i := 2) tf_44 rfl hS90 rfl rfl rfl, rv_tmp rfl, trivial⟩ ⟨(.slice none 0 0), [], (.slice none 0 0), [], (.slice none 0 0), [], (.slice none 0 0), [], rfl, hB89, hS95.sel [3, 2, 1, 0] rfl⟩
  refine W.region ?_
  refine wl_field (o := 0) (off' := 0) ff_71_0 rfl rfl rfl ?_
  refine wl_load_blk (i := 1) (vs := [(.int .i64 x1.1)]) (v := (.int .i64 x1.1)) tf_3 rfl rfl hS16 rfl rfl rfl ?_
  refine wl_eql rfl rfl rfl ?_
  refine wl_move rfl rfl ?_
  rcases bE (x1.1 == 1) with h96 | h96
  · replace hF := ifP h96 hF
    refine wl_on rfl rfl h96 ?_
    refine wl_field (o := 1) (off' := 1) ff_71_1 rfl rfl rfl ?_
    refine wl_on rfl rfl h96 ?_
    refine wl_load_blk (i := 1) (vs := [(.int .i64 x1.2)]) (v := (.int .i64 x1.2)) tf_3 rfl rfl hS16 rfl rfl rfl ?_
    refine wl_on rfl rfl h96 ?_
    refine wl_eql rfl rfl rfl ?_
    refine wl_pick_t rfl rfl h96 rfl ?_
    refine wl_assign rfl rfl ?_
    refine WL.nil ?_
    exact fun a ha => hJ24 ((x1.2 == 0)) _ hF hB15 (hS16.sel [2, 1, 0] rfl) a (ha.sub ⟨rfl, rfl, rfl, rfl, trivial⟩)
  · replace hF := ifN h96 hF
    refine wl_off rfl rfl rfl h96 ?_
    refine wl_off rfl rfl rfl h96 ?_
    refine wl_off rfl rfl rfl h96 ?_
    refine wl_pick_f rfl rfl h96 rfl ?_
    refine wl_assign rfl rfl ?_
    refine WL.nil ?_
    exact fun a ha => hJ24 (false) _ hF hB15 (hS16.sel [2, 1, 0] rfl) a (ha.sub ⟨rfl, rfl, rfl, rfl, trivial⟩)
theorem C_impl_RunBeats (w0 : World) (x0 : (((List (List (Int × Int))) × (List Int) × Int × Int) × Int × (List Int) × (List Int))) (v0_0 : Value) (h0_0 : rdS ty_82 (· < w0.heap.size) w0 v0_0 x0.1.1) (v0_1 : Value) (h0_1 : rdS ty_3 (· < w0.heap.size) w0 v0_1 x0.1.2.1) (v0_2 : Value) (h0_2 : rdS ty_3 (· < w0.heap.size) w0 v0_2 x0.2.2.1) (v0_3 : Value) (h0_3 : rdS ty_3 (· < w0.heap.size) w0 v0_3 x0.2.2.2) (x1 : (List (Int × Int))) (v1_0 : Value) (h1_0 : rdS ty_71 (· < w0.heap.size) w0 v1_0 x1) (r : ((((List (List (Int × Int))) × (List Int) × Int × Int) × Int × (List Int) × (List Int)) × Int × Bool)) (hF : F_impl_RunBeats x0 x1 = some r) :
    Calls Try.prog 25 [(.agg #[v0_0, v0_1, (.int .i64 x0.1.2.2.1), (.int .i64 x0.1.2.2.2), (.int .i64 x0.2.1), v0_2, v0_3]), v1_0].toArray w0 fun e w' => ∃ (q0 : Value) (G0 : List Nat) (q1 : Value) (G1 : List Nat) (q2 : Value) (G2 : List Nat) (q3 : Value) (G3 : List Nat), e = .returned (.tuple #[(.agg #[q0, q1, (.int .i64 r.1.1.2.2.1), (.int .i64 r.1.1.2.2.2), (.int .i64 r.1.2.1), q2, q3]), (.int .i64 r.2.1), (.bool r.2.2)]) ∧ Below w0.heap.size w0 w' ∧ Sep w0.heap.size w' [R.own ty_82 G0 q0 r.1.1.1, R.own ty_3 G1 q1 r.1.1.2.1, R.own ty_3 G2 q2 r.1.2.2.1, R.own ty_3 G3 q3 r.1.2.2.2] := by
  refine calls_mk' Try.func25 rfl Try.ntmps25 rfl rfl fun Q hQ hP => ?_
  have hB : Below w0.heap.size w0 w0 := Below.refl _ _
  have hS : Sep w0.heap.size w0 [] := Sep.nil _ _
  unfold F_impl_RunBeats at hF
  refine W.seq fun K1 hK1 => ?_
  refine W.region ?_
  refine wl_box (cs := [v0_0, v0_1, (.int .i64 x0.1.2.2.1), (.int .i64 x0.1.2.2.2), (.int .i64 x0.2.1), v0_2, v0_3]) rfl rfl rfl hB hS ?_
  intro b2 w3 hb4 hB5 hS6
  refine wl_alloc (cs := [(.slice none 0 0), (.slice none 0 0), (.int .i64 0), (.int .i64 0), (.int .i64 0), (.slice none 0 0), (.slice none 0 0)]) tf_44 rfl rfl hB5 hS6 ?_
  intro b7 w8 hb9 hB10 hS11
  refine wl_assign rfl rfl ?_
  refine wl_assign rfl rfl ?_
  refine WL.nil ?_
  refine fun a ha => hK1 _ _ ?_ a ha
  refine W.seq fun K12 hK12 => ?_
  refine W.seq fun K13 hK13 => ?_
  obtain ⟨k18, hk18, hF⟩ := jE1 hF
  have hJ19 : ∀ (y17 : Bool) (w14 : World) (_ : k18 y17 = some r) (_ : Below w0.heap.size w0 w14) (_ : Sep w0.heap.size w14 [R.blk b2 44 [v0_0, v0_1, (.int .i64 x0.1.2.2.1), (.int .i64 x0.1.2.2.2), (.int .i64 x0.2.1), v0_2, v0_3], R.blk b7 44 [(.slice none 0 0), (.slice none 0 0), (.int .i64 0), (.int .i64 0), (.int .i64 0), (.slice none 0 0), (.slice none 0 0)]]), ∀ a, St 45 [(1, v1_0), (2, (.pointer (some ⟨b2, 0, none⟩))), (4, (.pointer (some ⟨b7, 0, none⟩))), (19, (.bool y17))] a → K13 a w14 := by
    intro y17 w14 hF hB15 hS16
    subst hk18
    refine fun a ha => hK13 _ _ ?_ a ha
    refine W.cond rfl (fun h20 => ?_) (fun h20 => ?_)
    · replace hF := ifP h20 hF
      refine W.seq fun K21 hK21 => ?_
      refine W.region ?_
      refine wl_build (zs := [(.slice none 0 0), (.slice none 0 0), (.int .i64 0), (.int .i64 0), (.int .i64 0), (.slice none 0 0), (.slice none 0 0)]) (out := [(.slice none 0 0), (.slice none 0 0), (.int .i64 0), (.int .i64 0), (.int .i64 0), (.slice none 0 0), (.slice none 0 0)]) (vs := []) (css := []) tf_44 pl_44 rfl rfl rfl rfl rfl ?_
      refine wl_store_blk (i := 1) (vs := [(.slice none 0 0), (.slice none 0 0), (.int .i64 0), (.int .i64 0), (.int .i64 0), (.slice none 0 0), (.slice none 0 0)]) (cs' := [(.slice none 0 0), (.slice none 0 0), (.int .i64 0), (.int .i64 0), (.int .i64 0), (.slice none 0 0), (.slice none 0 0)]) tf_44 rfl rfl rfl rfl hB15 hS16 rfl rfl ⟨rfl, rfl, rfl, rfl, rfl, rfl, rfl, trivial⟩ rfl ?_
      intro w22 hk25 hB23 hS24
      refine wl_assign rfl rfl ?_
      refine wl_assign rfl rfl ?_
      refine WL.nil ?_
      refine fun a ha => hK21 _ _ ?_ a ha
      refine W.ret ?_
      have hS26 := hS24.push0 (r := R.own ty_82 [] (.slice none 0 0) []) rfl fun _ => .inl ⟨rfl, rfl, rfl⟩
      have hS27 := hS26.push0 (r := R.own ty_3 [] (.slice none 0 0) []) rfl fun _ => .inl ⟨rfl, rfl, rfl⟩
      have hS28 := hS27.push0 (r := R.own ty_3 [] (.slice none 0 0) []) rfl fun _ => .inl ⟨rfl, rfl, rfl⟩
      have hS29 := hS28.push0 (r := R.own ty_3 [] (.slice none 0 0) []) rfl fun _ => .inl ⟨rfl, rfl, rfl⟩
      have hr := Option.some.inj hF
      subst hr
      exact rets (vs := [(.agg #[(.slice none 0 0), (.slice none 0 0), (.int .i64 0), (.int .i64 0), (.int .i64 0), (.slice none 0 0), (.slice none 0 0)]), (.int .i64 0), (.bool false)]) hQ rfl ⟨rv_cell (i := 1) tf_44 rfl hS24 rfl rfl rfl, rv_tmp rfl, rv_tmp rfl, trivial⟩ ⟨(.slice none 0 0), [], (.slice none 0 0), [], (.slice none 0 0), [], (.slice none 0 0), [], rfl, hB23, hS29.sel [3, 2, 1, 0] rfl⟩
    · replace hF := ifN h20 hF
      refine W.skip ?_
      refine fun a ha => hK12 _ _ ?_ a ha
      refine W.seq fun K30 hK30 => ?_
      refine W.region ?_
      refine wl_load_blk (i := 0) (vs := [v0_0, v0_1, (.int .i64 x0.1.2.2.1), (.int .i64 x0.1.2.2.2), (.int .i64 x0.2.1), v0_2, v0_3]) (v := (.agg #[v0_0, v0_1, (.int .i64 x0.1.2.2.1), (.int .i64 x0.1.2.2.2), (.int .i64 x0.2.1), v0_2, v0_3])) tf_44 rfl rfl hS16 rfl rfl rfl ?_
      obtain ⟨u31, hu31, hF⟩ := bindE hF
      refine wl_call rfl Try.call44 (C_impl_copyMarch w14 x0 v0_0 (h0_0.ro hB15) v0_1 (h0_1.ro hB15) v0_2 (h0_2.ro hB15) v0_3 (h0_3.ro hB15) _ hu31) rfl ?_
      rintro _ w40 ⟨v32, F33, v34, F35, v36, F37, v38, F39, rfl, hb41, hM44⟩
      refine ⟨_, rfl, ?_⟩
      have hB42 := hB15.trans (hb41.mono hB15.size)
      have hS43 := hS16.join hb41 hM44 hB15.size
      refine wl_alloc (cs := [(.slice none 0 0), (.slice none 0 0), (.int .i64 0), (.int .i64 0), (.int .i64 0), (.slice none 0 0), (.slice none 0 0)]) tf_44 rfl rfl hB42 hS43 ?_
      intro b45 w46 hb47 hB48 hS49
      refine wl_store_blk (i := 0) (vs := [v32, v34, (.int .i64 u31.1.2.2.1), (.int .i64 u31.1.2.2.2), (.int .i64 u31.2.1), v36, v38]) (cs' := [v32, v34, (.int .i64 u31.1.2.2.1), (.int .i64 u31.1.2.2.2), (.int .i64 u31.2.1), v36, v38]) tf_44 rfl rfl rfl rfl hB48 hS49 rfl rfl ⟨(hS49.own_ro (i := 1) rfl).one, (hS49.own_ro (i := 2) rfl).one, rfl, rfl, rfl, (hS49.own_ro (i := 3) rfl).one, (hS49.own_ro (i := 4) rfl).one, trivial⟩ rfl ?_
      intro w50 hk53 hB51 hS52
      refine WL.nil ?_
      refine fun a ha => hK30 _ _ ?_ a ha
      refine W.seq fun K54 hK54 => ?_
      refine W.seq fun K55 hK55 => ?_
      refine W.region ?_
      refine wl_move rfl rfl ?_
      refine wl_lenr (e := ty_71) (l := x1) Try.underlying55 rfl rfl h1_0 ?_
      refine wl_move rfl rfl ?_
      refine WL.nil ?_
      refine fun a ha => hK55 _ _ ?_ a ha
      refine W.block ?_
      refine W.loopk (fun m a w56 => ∃ (l59 : (List (List (Int × Int)))) (l62 : (List Int)) (y65 : Int) (y66 : Int) (y67 : Int) (l68 : (List Int)) (l71 : (List Int)) (y74 : Int) (v60 : Value) (F61 : List Nat) (v63 : Value) (F64 : List Nat) (v69 : Value) (F70 : List Nat) (v72 : Value) (F73 : List Nat), St 45 [(1, v1_0), (4, (.pointer (some ⟨b7, 0, none⟩))), (7, (.pointer (some ⟨b45, 0, none⟩))), (23, v1_0), (24, (.int .i64 (List.length x1 : Int))), (25, (.int .i64 y74))] a ∧ Below w0.heap.size w0 w56 ∧ Sep w0.heap.size w56 [R.blk b7 44 [(.slice none 0 0), (.slice none 0 0), (.int .i64 0), (.int .i64 0), (.int .i64 0), (.slice none 0 0), (.slice none 0 0)], R.own ty_82 F61 v60 l59, R.own ty_3 F64 v63 l62, R.own ty_3 F70 v69 l68, R.own ty_3 F73 v72 l71, R.blk b45 44 [v60, v63, (.int .i64 y65), (.int .i64 y66), (.int .i64 y67), v69, v72]] ∧ F_impl_RunBeats_L1 x1 m l59 l62 y65 y66 y67 l68 l71 y74 = some r) FU ?_ ?_
      ·
        exact fun a ha => ⟨u31.1.1, u31.1.2.1, u31.1.2.2.1, u31.1.2.2.2, u31.2.1, u31.2.2.1, u31.2.2.2, 0, v32, F33, v34, F35, v36, F37, v38, F39, ha.sub ⟨rfl, rfl, rfl, rfl, rfl, rfl, trivial⟩, hB51, (hS52.sel [6, 1, 2, 3, 4, 0] rfl), hF⟩
      ·
        rintro m77 a w56 ⟨l59, l62, y65, y66, y67, l68, l71, y74, v60, F61, v63, F64, v69, F70, v72, F73, ha, hB57, hS58, hF⟩ KL76 hKL76
        refine W.at ?_ ha
        cases m77 with
        | zero => exact noneE hF
        | succ m77 =>
          obtain ⟨nx75, hnx75⟩ : ∃ k, k = F_impl_RunBeats_L1 x1 m77 := ⟨_, rfl⟩
          rw [F_impl_RunBeats_L1, ← hnx75] at hF
          refine W.seq fun K78 hK78 => ?_
          refine W.region ?_
          refine wl_lss rfl rfl rfl ?_
          refine WL.nil ?_
          refine fun a ha => hK78 _ _ ?_ a ha
          refine W.seq fun K79 hK79 => ?_
          refine W.cond rfl (fun h80 => ?_) (fun h80 => ?_)
          · replace hF := ifP h80 hF
            refine W.skip ?_
            refine fun a ha => hK79 _ _ ?_ a ha
            refine W.seq fun K81 hK81 => ?_
            refine W.block ?_
            refine W.seq fun K82 hK82 => ?_
            refine W.region ?_
            refine wl_move rfl rfl ?_
            obtain ⟨u83, hu83, hF⟩ := bindE hF
            refine wl_index (e := ty_71) Try.underlying55 rfl rfl rfl h1_0 hu83 ?_
            rintro p84 _ rfl hp85
            refine wl_load_p (vs := [(.int .i64 u83.1), (.int .i64 u83.2)]) (v := (.agg #[(.int .i64 u83.1), (.int .i64 u83.2)])) tf_71 rfl rfl (hp85.ro hB57) rfl rfl ?_
            refine wl_alloc (cs := [(.int .i64 0), (.int .i64 0)]) tf_71 rfl rfl hB57 hS58 ?_
            intro b86 w87 hb88 hB89 hS90
            refine wl_assign rfl rfl ?_
            refine wl_store_blk (i := 0) (vs := [(.int .i64 u83.1), (.int .i64 u83.2)]) (cs' := [(.int .i64 u83.1), (.int .i64 u83.2)]) tf_71 rfl rfl rfl rfl hB89 hS90 rfl rfl ⟨rfl, rfl, trivial⟩ rfl ?_
            intro w91 hk94 hB92 hS93
            refine WL.nil ?_
            refine fun a ha => hK82 _ _ ?_ a ha
            refine W.seq fun K95 hK95 => ?_
            refine W.region ?_
            refine wl_load_blk (i := 6) (vs := [v60, v63, (.int .i64 y65), (.int .i64 y66), (.int .i64 y67), v69, v72]) (v := (.agg #[v60, v63, (.int .i64 y65), (.int .i64 y66), (.int .i64 y67), v69, v72])) tf_44 rfl rfl hS93 rfl rfl rfl ?_
            refine wl_load_blk (i := 0) (vs := [(.int .i64 u83.1), (.int .i64 u83.2)]) (v := (.agg #[(.int .i64 u83.1), (.int .i64 u83.2)])) tf_71 rfl rfl hS93 rfl rfl rfl ?_
            obtain ⟨u96, hu96, hF⟩ := bindE hF
            refine wl_call rfl Try.call53 (C_impl_doBeat w91 ((l59, l62, y65, y66), y67, l68, l71) v60 (hS93.own_ro (i := 2) rfl) v63 (hS93.own_ro (i := 3) rfl) v69 (hS93.own_ro (i := 4) rfl) v72 (hS93.own_ro (i := 5) rfl) u83 _ hu96) rfl ?_
            rintro _ w105 ⟨v97, F98, v99, F100, v101, F102, v103, F104, rfl, hb106, hM109⟩
            refine ⟨_, rfl, ?_⟩
            have hB107 := hB92.trans (hb106.mono hB92.size)
            have hS108 := hS93.join hb106 hM109 hB92.size
            refine wl_move rfl rfl ?_
            refine wl_extract rfl rfl rfl ?_
            refine wl_extract rfl rfl rfl ?_
            refine wl_alloc (cs := [(.slice none 0 0), (.slice none 0 0), (.int .i64 0), (.int .i64 0), (.int .i64 0), (.slice none 0 0), (.slice none 0 0)]) tf_44 rfl rfl hB107 hS108 ?_
            intro b110 w111 hb112 hB113 hS114
            refine wl_store_blk (i := 0) (vs := [v97, v99, (.int .i64 u96.1.1.2.2.1), (.int .i64 u96.1.1.2.2.2), (.int .i64 u96.1.2.1), v101, v103]) (cs' := [v97, v99, (.int .i64 u96.1.1.2.2.1), (.int .i64 u96.1.1.2.2.2), (.int .i64 u96.1.2.1), v101, v103]) tf_44 rfl rfl rfl rfl hB113 hS114 rfl rfl ⟨(hS114.own_ro (i := 1) rfl).one, (hS114.own_ro (i := 2) rfl).one, rfl, rfl, rfl, (hS114.own_ro (i := 3) rfl).one, (hS114.own_ro (i := 4) rfl).one, trivial⟩ rfl ?_
            intro w115 hk118 hB116 hS117
            refine wl_assign rfl rfl ?_
            refine WL.nil ?_
            refine fun a ha => hK95 _ _ ?_ a ha
            refine W.seq fun K119 hK119 => ?_
            refine W.seq fun K120 hK120 => ?_
            refine W.region ?_
            refine wl_move rfl rfl ?_
            refine wl_not rfl rfl ?_
            refine WL.nil ?_
            refine fun a ha => hK120 _ _ ?_ a ha
            refine W.cond rfl (fun h121 => ?_) (fun h121 => ?_)
            · replace hF := ifP h121 hF
              refine W.seq fun K122 hK122 => ?_
              refine W.region ?_
              refine wl_load_blk (i := 11) (vs := [v60, v63, (.int .i64 y65), (.int .i64 y66), (.int .i64 y67), v69, v72]) (v := (.agg #[v60, v63, (.int .i64 y65), (.int .i64 y66), (.int .i64 y67), v69, v72])) tf_44 rfl rfl hS117 rfl rfl rfl ?_
              refine wl_move rfl rfl ?_
              refine wl_store_blk (i := 6) (vs := [v60, v63, (.int .i64 y65), (.int .i64 y66), (.int .i64 y67), v69, v72]) (cs' := [v60, v63, (.int .i64 y65), (.int .i64 y66), (.int .i64 y67), v69, v72]) tf_44 rfl rfl rfl rfl hB116 hS117 rfl rfl ⟨(hS117.own_ro (i := 7) rfl).one, (hS117.own_ro (i := 8) rfl).one, rfl, rfl, rfl, (hS117.own_ro (i := 9) rfl).one, (hS117.own_ro (i := 10) rfl).one, trivial⟩ rfl ?_
              intro w123 hk126 hB124 hS125
              refine wl_assign rfl rfl ?_
              refine wl_assign rfl rfl ?_
              refine WL.nil ?_
              refine fun a ha => hK122 _ _ ?_ a ha
              refine W.ret ?_
              have hr := Option.some.inj hF
              subst hr
              exact rets (vs := [(.agg #[v60, v63, (.int .i64 y65), (.int .i64 y66), (.int .i64 y67), v69, v72]), (.int .i64 y74), (.bool true)]) hQ rfl ⟨rv_cell (i := 6) tf_44 rfl hS125 rfl rfl rfl, rv_tmp rfl, rv_tmp rfl, trivial⟩ ⟨v60, F61, v63, F64, v69, F70, v72, F73, rfl, hB124, hS125.sel [7, 8, 9, 10] rfl⟩
            · replace hF := ifN h121 hF
              refine W.skip ?_
              refine fun a ha => hK119 _ _ ?_ a ha
              refine W.region ?_
              refine wl_load_blk (i := 0) (vs := [v97, v99, (.int .i64 u96.1.1.2.2.1), (.int .i64 u96.1.1.2.2.2), (.int .i64 u96.1.2.1), v101, v103]) (v := (.agg #[v97, v99, (.int .i64 u96.1.1.2.2.1), (.int .i64 u96.1.1.2.2.2), (.int .i64 u96.1.2.1), v101, v103])) tf_44 rfl rfl hS117 rfl rfl rfl ?_
              refine wl_store_blk (i := 11) (vs := [v97, v99, (.int .i64 u96.1.1.2.2.1), (.int .i64 u96.1.1.2.2.2), (.int .i64 u96.1.2.1), v101, v103]) (cs' := [v97, v99, (.int .i64 u96.1.1.2.2.1), (.int .i64 u96.1.1.2.2.2), (.int .i64 u96.1.2.1), v101, v103]) tf_44 rfl rfl rfl rfl hB116 hS117 rfl rfl ⟨(hS117.own_ro (i := 1) rfl).one, (hS117.own_ro (i := 2) rfl).one, rfl, rfl, rfl, (hS117.own_ro (i := 3) rfl).one, (hS117.own_ro (i := 4) rfl).one, trivial⟩ rfl ?_
              intro w127 hk130 hB128 hS129
              refine WL.nil ?_
              refine fun a ha => hK81 _ _ ?_ a ha
              refine W.region ?_
              refine wl_add rfl rfl rfl ?_
              refine wl_move rfl rfl ?_
              refine WL.nil ?_
              rw [hnx75] at hF
              exact fun a ha => hKL76 a _ m77 (Nat.lt_succ_self m77) ⟨u96.1.1.1, u96.1.1.2.1, u96.1.1.2.2.1, u96.1.1.2.2.2, u96.1.2.1, u96.1.2.2.1, u96.1.2.2.2, (w64 (y74 + 1)), v97, F98, v99, F100, v101, F102, v103, F104, ha.sub ⟨rfl, rfl, rfl, rfl, rfl, rfl, trivial⟩, hB128, (hS129.sel [6, 1, 2, 3, 4, 11] rfl), hF⟩
          · replace hF := ifN h80 hF
            refine W.exit ?_
            refine fun a ha => hK54 _ _ ?_ a ha
            refine W.seq fun K131 hK131 => ?_
            refine W.region ?_
            refine wl_load_blk (i := 5) (vs := [v60, v63, (.int .i64 y65), (.int .i64 y66), (.int .i64 y67), v69, v72]) (v := (.agg #[v60, v63, (.int .i64 y65), (.int .i64 y66), (.int .i64 y67), v69, v72])) tf_44 rfl rfl hS58 rfl rfl rfl ?_
            refine wl_move rfl rfl ?_
            refine wl_lenr (e := ty_71) (l := x1) Try.underlying55 rfl rfl h1_0 ?_
            refine wl_store_blk (i := 0) (vs := [v60, v63, (.int .i64 y65), (.int .i64 y66), (.int .i64 y67), v69, v72]) (cs' := [v60, v63, (.int .i64 y65), (.int .i64 y66), (.int .i64 y67), v69, v72]) tf_44 rfl rfl rfl rfl hB57 hS58 rfl rfl ⟨(hS58.own_ro (i := 1) rfl).one, (hS58.own_ro (i := 2) rfl).one, rfl, rfl, rfl, (hS58.own_ro (i := 3) rfl).one, (hS58.own_ro (i := 4) rfl).one, trivial⟩ rfl ?_
            intro w132 hk135 hB133 hS134
            refine wl_assign rfl rfl ?_
            refine wl_assign rfl rfl ?_
            refine WL.nil ?_
            refine fun a ha => hK131 _ _ ?_ a ha
            refine W.ret ?_
            have hr := Option.some.inj hF
            subst hr
            exact rets (vs := [(.agg #[v60, v63, (.int .i64 y65), (.int .i64 y66), (.int .i64 y67), v69, v72]), (.int .i64 (List.length x1 : Int)), (.bool true)]) hQ rfl ⟨rv_cell (i := 0) tf_44 rfl hS134 rfl rfl rfl, rv_tmp rfl, rv_tmp rfl, trivial⟩ ⟨v60, F61, v63, F64, v69, F70, v72, F73, rfl, hB133, hS134.sel [1, 2, 3, 4] rfl⟩
  refine W.region ?_
  refine wl_load_blk (i := 1) (vs := [v0_0, v0_1, (.int .i64 x0.1.2.2.1), (.int .i64 x0.1.2.2.2), (.int .i64 x0.2.1), v0_2, v0_3]) (v := (.agg #[v0_0, v0_1, (.int .i64 x0.1.2.2.1), (.int .i64 x0.1.2.2.2), (.int .i64 x0.2.1), v0_2, v0_3])) tf_44 rfl rfl hS11 rfl rfl rfl ?_
  obtain ⟨u136, hu136, hF⟩ := bindE hF
  refine wl_call rfl Try.call52 (C_impl_IsMarch w8 x0 v0_0 (h0_0.ro hB10) v0_1 (h0_1.ro hB10) v0_2 (h0_2.ro hB10) v0_3 (h0_3.ro hB10) _ hu136) rfl ?_
  rintro _ w137 ⟨rfl, hb138⟩
  refine ⟨_, rfl, ?_⟩
  have hB139 := hB10.trans (hb138.mono hB10.size)
  have hS140 := hS11.below hb138
  refine wl_not rfl rfl ?_
  refine wl_move rfl rfl ?_
  rcases bE (!u136) with h142 | h142
  · replace hF := ifP h142 hF
    refine wl_off rfl rfl rfl h142 ?_
    refine wl_off rfl rfl rfl h142 ?_
    refine wl_off rfl rfl rfl h142 ?_
    refine wl_pick_t rfl rfl h142 rfl ?_
    refine WL.nil ?_
    exact fun a ha => hJ19 (true) _ hF hB139 (hS140.sel [1, 0] rfl) a (ha.sub ⟨rfl, rfl, rfl, rfl, trivial⟩)
  · replace hF := ifN h142 hF
    refine wl_on rfl rfl h142 ?_
    refine wl_move rfl rfl ?_
    refine wl_on rfl rfl h142 ?_
    refine wl_lenr (e := ty_71) (l := x1) Try.underlying55 rfl rfl h1_0 ?_
    refine wl_on rfl rfl h142 ?_
    refine wl_gtr rfl rfl rfl ?_
    refine wl_pick_f rfl rfl h142 rfl ?_
    refine WL.nil ?_
    exact fun a ha => hJ19 ((decide (100 < (List.length x1 : Int)))) _ hF hB139 (hS140.sel [1, 0] rfl) a (ha.sub ⟨rfl, rfl, rfl, rfl, trivial⟩)
theorem C_laws_eqBeat (w0 : World) (x0 : (Int × Int)) (x1 : (Int × Int)) (r : Bool) (hF : F_laws_eqBeat x0 x1 = some r) :
    Calls Try.prog 54 [(.agg #[(.int .i64 x0.1), (.int .i64 x0.2)]), (.agg #[(.int .i64 x1.1), (.int .i64 x1.2)])].toArray w0 fun e w' => e = .returned (.bool r) ∧ Below w0.heap.size w0 w' := by
  refine calls_mk' Try.func54 rfl Try.ntmps54 rfl rfl fun Q hQ hP => ?_
  have hB : Below w0.heap.size w0 w0 := Below.refl _ _
  have hS : Sep w0.heap.size w0 [] := Sep.nil _ _
  unfold F_laws_eqBeat at hF
  refine W.seq fun K1 hK1 => ?_
  refine W.region ?_
  refine wl_box (cs := [(.int .i64 x0.1), (.int .i64 x0.2)]) rfl rfl rfl hB hS ?_
  intro b2 w3 hb4 hB5 hS6
  refine wl_box (cs := [(.int .i64 x1.1), (.int .i64 x1.2)]) rfl rfl rfl hB5 hS6 ?_
  intro b7 w8 hb9 hB10 hS11
  refine wl_assign rfl rfl ?_
  refine WL.nil ?_
  refine fun a ha => hK1 _ _ ?_ a ha
  refine W.seq fun K12 hK12 => ?_
  refine W.seq fun K13 hK13 => ?_
  refine W.region ?_
  refine wl_field (o := 0) (off' := 0) ff_71_0 rfl rfl rfl ?_
  refine wl_load_blk (i := 1) (vs := [(.int .i64 x0.1)]) (v := (.int .i64 x0.1)) tf_3 rfl rfl hS11 rfl rfl rfl ?_
  refine wl_field (o := 0) (off' := 0) ff_71_0 rfl rfl rfl ?_
  refine wl_load_blk (i := 0) (vs := [(.int .i64 x1.1)]) (v := (.int .i64 x1.1)) tf_3 rfl rfl hS11 rfl rfl rfl ?_
  refine wl_neq rfl rfl rfl ?_
  refine WL.nil ?_
  refine fun a ha => hK13 _ _ ?_ a ha
  refine W.cond rfl (fun h14 => ?_) (fun h14 => ?_)
  · replace hF := ifP h14 hF
    refine W.seq fun K15 hK15 => ?_
    refine W.region ?_
    refine wl_assign rfl rfl ?_
    refine WL.nil ?_
    refine fun a ha => hK15 _ _ ?_ a ha
    refine W.ret ?_
    have hr := Option.some.inj hF
    subst hr
    exact rets (vs := [(.bool false)]) hQ rfl ⟨rv_tmp rfl, trivial⟩ ⟨rfl, hB10⟩
  · replace hF := ifN h14 hF
    refine W.skip ?_
    refine fun a ha => hK12 _ _ ?_ a ha
    refine W.seq fun K16 hK16 => ?_
    refine W.seq fun K17 hK17 => ?_
    refine W.region ?_
    refine wl_field (o := 1) (off' := 1) ff_71_1 rfl rfl rfl ?_
    refine wl_load_blk (i := 1) (vs := [(.int .i64 x0.2)]) (v := (.int .i64 x0.2)) tf_3 rfl rfl hS11 rfl rfl rfl ?_
    refine wl_field (o := 1) (off' := 1) ff_71_1 rfl rfl rfl ?_
    refine wl_load_blk (i := 0) (vs := [(.int .i64 x1.2)]) (v := (.int .i64 x1.2)) tf_3 rfl rfl hS11 rfl rfl rfl ?_
    refine wl_neq rfl rfl rfl ?_
    refine WL.nil ?_
    refine fun a ha => hK17 _ _ ?_ a ha
    refine W.cond rfl (fun h18 => ?_) (fun h18 => ?_)
    · replace hF := ifP h18 hF
      refine W.seq fun K19 hK19 => ?_
      refine W.region ?_
      refine wl_assign rfl rfl ?_
      refine WL.nil ?_
      refine fun a ha => hK19 _ _ ?_ a ha
      refine W.ret ?_
      have hr := Option.some.inj hF
      subst hr
      exact rets (vs := [(.bool false)]) hQ rfl ⟨rv_tmp rfl, trivial⟩ ⟨rfl, hB10⟩
    · replace hF := ifN h18 hF
      refine W.skip ?_
      refine fun a ha => hK16 _ _ ?_ a ha
      refine W.seq fun K20 hK20 => ?_
      refine W.region ?_
      refine wl_assign rfl rfl ?_
      refine WL.nil ?_
      refine fun a ha => hK20 _ _ ?_ a ha
      refine W.ret ?_
      have hr := Option.some.inj hF
      subst hr
      exact rets (vs := [(.bool true)]) hQ rfl ⟨rv_tmp rfl, trivial⟩ ⟨rfl, hB10⟩
theorem C_laws_eqBeatS (w0 : World) (x0 : (List (Int × Int))) (v0_0 : Value) (h0_0 : rdS ty_71 (· < w0.heap.size) w0 v0_0 x0) (x1 : (List (Int × Int))) (v1_0 : Value) (h1_0 : rdS ty_71 (· < w0.heap.size) w0 v1_0 x1) (r : Bool) (hF : F_laws_eqBeatS x0 x1 = some r) :
    Calls Try.prog 26 [v0_0, v1_0].toArray w0 fun e w' => e = .returned (.bool r) ∧ Below w0.heap.size w0 w' := by
  refine calls_mk' Try.func26 rfl Try.ntmps26 rfl rfl fun Q hQ hP => ?_
  have hB : Below w0.heap.size w0 w0 := Below.refl _ _
  have hS : Sep w0.heap.size w0 [] := Sep.nil _ _
  unfold F_laws_eqBeatS at hF
  refine W.seq fun K1 hK1 => ?_
  refine W.region ?_
  refine wl_assign rfl rfl ?_
  refine WL.nil ?_
  refine fun a ha => hK1 _ _ ?_ a ha
  refine W.seq fun K2 hK2 => ?_
  refine W.seq fun K3 hK3 => ?_
  refine W.region ?_
  refine wl_move rfl rfl ?_
  refine wl_lenr (e := ty_71) (l := x0) Try.underlying55 rfl rfl h0_0 ?_
  refine wl_move rfl rfl ?_
  refine wl_lenr (e := ty_71) (l := x1) Try.underlying55 rfl rfl h1_0 ?_
  refine wl_neq rfl rfl rfl ?_
  refine WL.nil ?_
  refine fun a ha => hK3 _ _ ?_ a ha
  refine W.cond rfl (fun h4 => ?_) (fun h4 => ?_)
  · replace hF := ifP h4 hF
    refine W.seq fun K5 hK5 => ?_
    refine W.region ?_
    refine wl_assign rfl rfl ?_
    refine WL.nil ?_
    refine fun a ha => hK5 _ _ ?_ a ha
    refine W.ret ?_
    have hr := Option.some.inj hF
    subst hr
    exact rets (vs := [(.bool false)]) hQ rfl ⟨rv_tmp rfl, trivial⟩ ⟨rfl, hB⟩
  · replace hF := ifN h4 hF
    refine W.skip ?_
    refine fun a ha => hK2 _ _ ?_ a ha
    refine W.seq fun K6 hK6 => ?_
    refine W.seq fun K7 hK7 => ?_
    refine W.region ?_
    refine wl_assign rfl rfl ?_
    refine WL.nil ?_
    refine fun a ha => hK7 _ _ ?_ a ha
    refine W.block ?_
    refine W.loopk (fun m a w8 => ∃ (y11 : Int), St 27 [(0, v0_0), (1, v1_0), (5, (.int .i64 y11))] a ∧ Below w0.heap.size w0 w8 ∧ Sep w0.heap.size w8 [] ∧ F_laws_eqBeatS_L1 x0 x1 m y11 = some r) FU ?_ ?_
    ·
      exact fun a ha => ⟨0, ha.sub ⟨rfl, rfl, rfl, trivial⟩, hB, (hS.sel [] rfl), hF⟩
    ·
      rintro m14 a w8 ⟨y11, ha, hB9, hS10, hF⟩ KL13 hKL13
      refine W.at ?_ ha
      cases m14 with
      | zero => exact noneE hF
      | succ m14 =>
        obtain ⟨nx12, hnx12⟩ : ∃ k, k = F_laws_eqBeatS_L1 x0 x1 m14 := ⟨_, rfl⟩
        rw [F_laws_eqBeatS_L1, ← hnx12] at hF
        refine W.seq fun K15 hK15 => ?_
        refine W.seq fun K16 hK16 => ?_
        refine W.region ?_
        refine wl_move rfl rfl ?_
        refine wl_move rfl rfl ?_
        refine wl_lenr (e := ty_71) (l := x0) Try.underlying55 rfl rfl h0_0 ?_
        refine wl_lss rfl rfl rfl ?_
        refine WL.nil ?_
        refine fun a ha => hK16 _ _ ?_ a ha
        refine W.cond rfl (fun h17 => ?_) (fun h17 => ?_)
        · replace hF := ifP h17 hF
          refine W.skip ?_
          refine fun a ha => hK15 _ _ ?_ a ha
          refine W.seq fun K18 hK18 => ?_
          refine W.block ?_
          refine W.seq fun K19 hK19 => ?_
          refine W.regionH mixed_ [] hB9 hS10 ?_
          intro w20 hb21 hB22 hS23
          have hSW24 := KeepX.refl w20 []
          refine WH.takex (i := 0) rfl (by kernel_rfl) (by kernel_rfl) (by kernel_rfl) hP hSW24 ?_
          refine pr_move rfl rfl ?_
          refine WH.takex (i := 1) rfl (by kernel_rfl) (by kernel_rfl) (by kernel_rfl) hP hSW24 ?_
          refine pr_move rfl rfl ?_
          obtain ⟨u25, hu25, hF⟩ := bindE hF
          refine WH.takex (i := 2) rfl (by kernel_rfl) (by kernel_rfl) (by kernel_rfl) hP hSW24 ?_
          refine pr_index (e := ty_71) Try.underlying55 rfl rfl rfl h0_0 hu25 ?_
          rintro p26 _ rfl hp27
          refine WH.takex (i := 3) rfl (by kernel_rfl) (by kernel_rfl) (by kernel_rfl) hP hSW24 ?_
          refine pr_load_p (vs := [(.int .i64 u25.1), (.int .i64 u25.2)]) (v := (.agg #[(.int .i64 u25.1), (.int .i64 u25.2)])) tf_71 rfl rfl (hp27.kx hB22 (by simp)) rfl rfl ?_
          refine WH.takex (i := 4) rfl (by kernel_rfl) (by kernel_rfl) (by kernel_rfl) hP hSW24 ?_
          refine pr_move rfl rfl ?_
          refine WH.takex (i := 5) rfl (by kernel_rfl) (by kernel_rfl) (by kernel_rfl) hP hSW24 ?_
          refine pr_move rfl rfl ?_
          obtain ⟨u28, hu28, hF⟩ := bindE hF
          refine WH.takex (i := 6) rfl (by kernel_rfl) (by kernel_rfl) (by kernel_rfl) hP hSW24 ?_
          refine pr_index (e := ty_71) Try.underlying55 rfl rfl rfl h1_0 hu28 ?_
          rintro p29 _ rfl hp30
          refine WH.takex (i := 7) rfl (by kernel_rfl) (by kernel_rfl) (by kernel_rfl) hP hSW24 ?_
          refine pr_load_p (vs := [(.int .i64 u28.1), (.int .i64 u28.2)]) (v := (.agg #[(.int .i64 u28.1), (.int .i64 u28.2)])) tf_71 rfl rfl (hp30.kx hB22 (by simp)) rfl rfl ?_
          refine WH.one (i := 8) (by kernel_rfl) rfl ?_
          obtain ⟨u31, hu31, hF⟩ := bindE hF
          refine wl_call rfl Try.call54 (C_laws_eqBeat w20 u25 u28 _ hu31) rfl ?_
          rintro _ w32 ⟨rfl, hb33⟩
          refine ⟨_, rfl, ?_⟩
          have hB34 := hB22.trans (hb33.mono hB22.size)
          have hS35 := hS23.below hb33
          have hSW37 := hSW24.ext hb33
          refine WL.nil (WH.ret hSW37 ?_)
          refine WH.takex (i := 9) rfl (by kernel_rfl) (by kernel_rfl) (by kernel_rfl) hP hSW37 ?_
          refine pr_not rfl rfl ?_
          refine WH.done (by kernel_rfl) ?_
          refine fun a ha => hK19 _ _ ?_ a ha
          refine W.cond rfl (fun h38 => ?_) (fun h38 => ?_)
          · replace hF := ifP h38 hF
            refine W.seq fun K39 hK39 => ?_
            refine W.region ?_
            refine wl_assign rfl rfl ?_
            refine WL.nil ?_
            refine fun a ha => hK39 _ _ ?_ a ha
            refine W.ret ?_
            have hr := Option.some.inj hF
            subst hr
            exact rets (vs := [(.bool false)]) hQ rfl ⟨rv_tmp rfl, trivial⟩ ⟨rfl, hB34⟩
          · replace hF := ifN h38 hF
            refine W.skip ?_
            refine fun a ha => hK18 _ _ ?_ a ha
            refine W.region ?_
            refine wl_move rfl rfl ?_
            refine wl_add rfl rfl rfl ?_
            refine wl_assign rfl rfl ?_
            refine WL.nil ?_
            rw [hnx12] at hF
            exact fun a ha => hKL13 a _ m14 (Nat.lt_succ_self m14) ⟨(w64 (y11 + 1)), ha.sub ⟨rfl, rfl, rfl, trivial⟩, hB34, (hS35.sel [] rfl), hF⟩
        · replace hF := ifN h17 hF
          refine W.exit ?_
          refine fun a ha => hK6 _ _ ?_ a ha
          refine W.seq fun K40 hK40 => ?_
          refine W.region ?_
          refine wl_assign rfl rfl ?_
          refine WL.nil ?_
          refine fun a ha => hK40 _ _ ?_ a ha
          refine W.ret ?_
          have hr := Option.some.inj hF
          subst hr
          exact rets (vs := [(.bool true)]) hQ rfl ⟨rv_tmp rfl, trivial⟩ ⟨rfl, hB9⟩
theorem C_laws_markBeatS (w0 : World) (x0 : (List (Int × Int))) (v0_0 : Value) (B0_0 : List Nat) (x1 : Int) (hS0 : Sep 0 w0 [R.own ty_71 B0_0 v0_0 x0]) (r : (Int × (List (Int × Int)))) (hF : F_laws_markBeatS x0 x1 = some r) :
    Calls Try.prog 27 [v0_0, (.int .i64 x1)].toArray w0 fun e w' => e = .returned (.int .i64 r.1) ∧ Below 0 (wE w0) w' ∧ Sep 0 w' [R.rest w0 (fps [R.own ty_71 B0_0 v0_0 x0]), R.own ty_71 B0_0 v0_0 r.2] := by
  refine calls_mk' Try.func27 rfl Try.ntmps27 rfl rfl fun Q hQ hP => ?_
  have hB : Below (wE w0).heap.size (wE w0) w0 := wE_below w0
  have hS : Sep (wE w0).heap.size w0 [R.rest w0 (fps [R.own ty_71 B0_0 v0_0 x0]), R.own ty_71 B0_0 v0_0 x0] := hS0.rest
  unfold F_laws_markBeatS at hF
  refine W.seq fun K1 hK1 => ?_
  refine W.region ?_
  refine wl_assign rfl rfl ?_
  refine WL.nil ?_
  refine fun a ha => hK1 _ _ ?_ a ha
  refine W.seq fun K2 hK2 => ?_
  refine W.seq fun K3 hK3 => ?_
  refine W.region ?_
  refine wl_assign rfl rfl ?_
  refine WL.nil ?_
  refine fun a ha => hK3 _ _ ?_ a ha
  refine W.block ?_
  refine W.loopk (fun m a w4 => ∃ (l7 : (List (Int × Int))) (y8 : Int) (y9 : Int), St 27 [(0, v0_0), (1, (.int .i64 y8)), (5, (.int .i64 y9))] a ∧ Below (wE w0).heap.size (wE w0) w4 ∧ Sep (wE w0).heap.size w4 [R.rest w0 (fps [R.own ty_71 B0_0 v0_0 x0]), R.own ty_71 B0_0 v0_0 l7] ∧ F_laws_markBeatS_L1 m l7 y8 y9 = some r) FU ?_ ?_
  ·
    exact fun a ha => ⟨x0, x1, 0, ha.sub ⟨rfl, rfl, rfl, trivial⟩, hB, (hS.sel [0, 1] rfl), hF⟩
  ·
    rintro m12 a w4 ⟨l7, y8, y9, ha, hB5, hS6, hF⟩ KL11 hKL11
    refine W.at ?_ ha
    cases m12 with
    | zero => exact noneE hF
    | succ m12 =>
      obtain ⟨nx10, hnx10⟩ : ∃ k, k = F_laws_markBeatS_L1 m12 := ⟨_, rfl⟩
      rw [F_laws_markBeatS_L1, ← hnx10] at hF
      refine W.seq fun K13 hK13 => ?_
      refine W.seq fun K14 hK14 => ?_
      refine W.region ?_
      refine wl_move rfl rfl ?_
      refine wl_move rfl rfl ?_
      refine wl_lenr (e := ty_71) (l := l7) Try.underlying55 rfl rfl (hS6.own_ro (i := 1) rfl) ?_
      refine wl_lss rfl rfl rfl ?_
      refine WL.nil ?_
      refine fun a ha => hK14 _ _ ?_ a ha
      refine W.cond rfl (fun h15 => ?_) (fun h15 => ?_)
      · replace hF := ifP h15 hF
        refine W.skip ?_
        refine fun a ha => hK13 _ _ ?_ a ha
        refine W.seq fun K16 hK16 => ?_
        refine W.block ?_
        refine W.seq fun K17 hK17 => ?_
        refine W.region ?_
        refine wl_move rfl rfl ?_
        refine wl_move rfl rfl ?_
        refine wl_move rfl rfl ?_
        obtain ⟨u18, hu18, hF⟩ := bindE hF
        refine wl_indexo (e := ty_71) (i := 1) Try.underlying55 rfl rfl rfl hS6 rfl hu18 ?_
        rintro p19 _ rfl hp20 ho21
        refine wl_fieldp (o := 0) ff_71_0 rfl rfl ?_
        refine wl_storeo (i := 1) (o := 0) (vs := [(.int .i64 y8)]) (u' := (y8, u18.2)) fl_71 tf_3 rfl rfl rfl rfl ho21 hu18 hB5 hS6 rfl rfl ⟨rfl, trivial⟩ rfl ?_
        intro w22 hk25 hB23 hS24
        refine WL.nil ?_
        refine fun a ha => hK17 _ _ ?_ a ha
        refine W.seq fun K26 hK26 => ?_
        refine W.region ?_
        refine wl_move rfl rfl ?_
        refine wl_add rfl rfl rfl ?_
        refine wl_assign rfl rfl ?_
        refine WL.nil ?_
        refine fun a ha => hK26 _ _ ?_ a ha
        refine W.seq fun K27 hK27 => ?_
        refine W.region ?_
        refine wl_move rfl rfl ?_
        refine wl_move rfl rfl ?_
        refine wl_move rfl rfl ?_
        obtain ⟨u28, hu28, hF⟩ := bindE hF
        refine wl_indexo (e := ty_71) (i := 1) Try.underlying55 rfl rfl rfl hS24 rfl hu28 ?_
        rintro p29 _ rfl hp30 ho31
        refine wl_fieldp (o := 1) ff_71_1 rfl rfl ?_
        refine wl_storeo (i := 1) (o := 1) (vs := [(.int .i64 (w64 (y8 + 1)))]) (u' := (u28.1, (w64 (y8 + 1)))) fl_71 tf_3 rfl rfl rfl rfl (ho31.add 1) hu28 hB23 hS24 rfl rfl ⟨rfl, trivial⟩ rfl ?_
        intro w32 hk35 hB33 hS34
        refine WL.nil ?_
        refine fun a ha => hK27 _ _ ?_ a ha
        refine W.region ?_
        refine wl_move rfl rfl ?_
        refine wl_add rfl rfl rfl ?_
        refine wl_assign rfl rfl ?_
        refine WL.nil ?_
        refine fun a ha => hK16 _ _ ?_ a ha
        refine W.region ?_
        refine wl_move rfl rfl ?_
        refine wl_add rfl rfl rfl ?_
        refine wl_assign rfl rfl ?_
        refine WL.nil ?_
        rw [hnx10] at hF
        exact fun a ha => hKL11 a _ m12 (Nat.lt_succ_self m12) ⟨(seti (seti l7 y9 (y8, u18.2)) y9 (u28.1, (w64 (y8 + 1)))), (w64 ((w64 (y8 + 1)) + 1)), (w64 (y9 + 1)), ha.sub ⟨rfl, rfl, rfl, trivial⟩, hB33, (hS34.sel [0, 1] rfl), hF⟩
      · replace hF := ifN h15 hF
        refine W.exit ?_
        refine fun a ha => hK2 _ _ ?_ a ha
        refine W.seq fun K36 hK36 => ?_
        refine W.region ?_
        refine wl_move rfl rfl ?_
        refine wl_assign rfl rfl ?_
        refine WL.nil ?_
        refine fun a ha => hK36 _ _ ?_ a ha
        refine W.ret ?_
        have hr := Option.some.inj hF
        subst hr
        exact rets (vs := [(.int .i64 y8)]) hQ rfl ⟨rv_tmp rfl, trivial⟩ ⟨rfl, hB5, hS6.sel [0, 1] rfl⟩
end Go.Proofs.Ytcndhhjolnebdaa
