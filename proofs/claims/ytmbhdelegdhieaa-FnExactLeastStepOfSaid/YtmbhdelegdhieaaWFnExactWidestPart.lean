/-
  THE WALKS of functions of this seat, by program (gen.py).
-/
import Derived.Test.YtmbhdelegdhieaaH
import Derived.Test.YtmbhdelegdhieaaWFnExactIsShow
set_option linter.unusedSimpArgs false
set_option linter.unusedVariables false
set_option maxRecDepth 100000
namespace Go.Proofs.Ytmbhdelegdhieaa
open Go Go.RowKit
theorem C_spec_swMoves (w0 : World) (x0 : ((List (List (Int × Int))) × (List Int) × Int × Int)) (v0_0 : Value) (h0_0 : rdS ty_109 (· < w0.heap.size) w0 v0_0 x0.1) (v0_1 : Value) (h0_1 : rdS ty_3 (· < w0.heap.size) w0 v0_1 x0.2.1) (x1 : Int) (r : (List ((Int × Int) × (Int × Int) × Int))) (hF : F_spec_swMoves x0 x1 = some r) :
    Calls Try.prog 92 [(.agg #[v0_0, v0_1, (.int .i64 x0.2.2.1), (.int .i64 x0.2.2.2)]), (.int .i64 x1)].toArray w0 fun e w' => ∃ (q0 : Value) (G0 : List Nat), e = .returned q0 ∧ Below w0.heap.size w0 w' ∧ Sep w0.heap.size w' [R.own ty_107 G0 q0 r] := by
  refine calls_mk' Try.func92 rfl Try.ntmps92 rfl rfl fun Q hQ hP => ?_
  have hB : Below w0.heap.size w0 w0 := Below.refl _ _
  have hS : Sep w0.heap.size w0 [] := Sep.nil _ _
  unfold F_spec_swMoves at hF
  refine W.seq fun K1 hK1 => ?_
  refine W.region ?_
  refine wl_box (cs := [v0_0, v0_1, (.int .i64 x0.2.2.1), (.int .i64 x0.2.2.2)]) rfl rfl rfl hB hS ?_
  intro b2 w3 hb4 hB5 hS6
  refine wl_assign rfl rfl ?_
  refine WL.nil ?_
  refine fun a ha => hK1 _ _ ?_ a ha
  refine W.seq fun K7 hK7 => ?_
  refine W.region ?_
  refine wl_assign rfl rfl ?_
  refine WL.nil ?_
  refine fun a ha => hK7 _ _ ?_ a ha
  refine W.seq fun K8 hK8 => ?_
  refine W.seq fun K9 hK9 => ?_
  refine W.region ?_
  refine wl_field (o := 0) (off' := 0) ff_30_0 rfl rfl rfl ?_
  refine wl_load_blk (i := 0) (vs := [v0_0]) (v := v0_0) tf_28 rfl rfl hS6 rfl rfl rfl ?_
  refine wl_move rfl rfl ?_
  obtain ⟨u10, hu10, hF⟩ := bindE hF
  refine wl_index (e := ty_109) Try.underlying28 rfl rfl rfl h0_0 hu10 ?_
  rintro p11 _ ⟨v13, rfl, hv14⟩ hp12
  refine wl_load_p (vs := [v13]) (v := v13) tf_109 rfl rfl (hp12.ro hB5) rfl rfl ?_
  refine wl_lenr (e := ty_105) (l := u10) Try.underlying109 rfl rfl hv14 ?_
  refine wl_move rfl rfl ?_
  refine WL.nil ?_
  refine fun a ha => hK9 _ _ ?_ a ha
  refine W.block ?_
  refine W.loopk (fun m a w15 => ∃ (l18 : (List ((Int × Int) × (Int × Int) × Int))) (y21 : Int) (v19 : Value) (F20 : List Nat), St 40 [(1, (.int .i64 x1)), (2, (.pointer (some ⟨b2, 0, none⟩))), (5, v19), (12, v13), (13, (.int .i64 (List.length u10 : Int))), (14, (.int .i64 y21))] a ∧ Below w0.heap.size w0 w15 ∧ Sep w0.heap.size w15 [R.blk b2 30 [v0_0, v0_1, (.int .i64 x0.2.2.1), (.int .i64 x0.2.2.2)], R.own ty_107 F20 v19 l18] ∧ F_spec_swMoves_L1 u10 x0 x1 m l18 y21 = some r) FU ?_ ?_
  ·
    have hS23 := hS6.push0 (r := R.own ty_107 [] (.slice none 0 0) []) rfl fun _ => .inl ⟨rfl, rfl, rfl⟩
    exact fun a ha => ⟨[], 0, (.slice none 0 0), [], ha.sub ⟨rfl, rfl, rfl, rfl, rfl, rfl, trivial⟩, hB5, (hS23.sel [1, 0] rfl), hF⟩
  ·
    rintro m25 a w15 ⟨l18, y21, v19, F20, ha, hB16, hS17, hF⟩ KL24 hKL24
    refine W.at ?_ ha
    cases m25 with
    | zero => exact noneE hF
    | succ m25 =>
      obtain ⟨nx22, hnx22⟩ : ∃ k, k = F_spec_swMoves_L1 u10 x0 x1 m25 := ⟨_, rfl⟩
      rw [F_spec_swMoves_L1, ← hnx22] at hF
      refine W.seq fun K26 hK26 => ?_
      refine W.region ?_
      refine wl_lss rfl rfl rfl ?_
      refine WL.nil ?_
      refine fun a ha => hK26 _ _ ?_ a ha
      refine W.seq fun K27 hK27 => ?_
      refine W.cond rfl (fun h28 => ?_) (fun h28 => ?_)
      · replace hF := ifP h28 hF
        refine W.skip ?_
        refine fun a ha => hK27 _ _ ?_ a ha
        refine W.seq fun K29 hK29 => ?_
        refine W.block ?_
        refine W.seq fun K30 hK30 => ?_
        refine W.region ?_
        refine wl_move rfl rfl ?_
        obtain ⟨u31, hu31, hF⟩ := bindE hF
        refine wl_index (e := ty_105) Try.underlying109 rfl rfl rfl hv14 hu31 ?_
        rintro p32 _ rfl hp33
        refine wl_load_p (vs := [(.int .i64 u31.1), (.int .i64 u31.2)]) (v := (.agg #[(.int .i64 u31.1), (.int .i64 u31.2)])) tf_105 rfl rfl (hp33.ro hB16) rfl rfl ?_
        refine wl_alloc (cs := [(.int .i64 0), (.int .i64 0)]) tf_105 rfl rfl hB16 hS17 ?_
        intro b34 w35 hb36 hB37 hS38
        refine wl_assign rfl rfl ?_
        refine wl_store_blk (i := 0) (vs := [(.int .i64 u31.1), (.int .i64 u31.2)]) (cs' := [(.int .i64 u31.1), (.int .i64 u31.2)]) tf_105 rfl rfl rfl rfl hB37 hS38 rfl rfl ⟨rfl, rfl, trivial⟩ rfl ?_
        intro w39 hk42 hB40 hS41
        refine WL.nil ?_
        refine fun a ha => hK30 _ _ ?_ a ha
        refine W.regionH mixed_ F20 hB40 hS41 ?_
        intro w43 hb44 hB45 hS46
        have hSW47 := KeepX.refl w43 F20
        refine WH.takex (i := 0) rfl (by kernel_rfl) (by kernel_rfl) (by kernel_rfl) hP hSW47 ?_
        refine pr_move rfl rfl ?_
        refine WH.takex (i := 1) rfl (by kernel_rfl) (by kernel_rfl) (by kernel_rfl) hP hSW47 ?_
        refine pr_load_blk (i := 0) (vs := [(.int .i64 u31.1), (.int .i64 u31.2)]) (v := (.agg #[(.int .i64 u31.1), (.int .i64 u31.2)])) tf_105 rfl rfl hS46 rfl rfl rfl (hS46.disj (i := 0) (j := 2) rfl rfl rfl b34 (by simp [R.blk])) ?_
        refine WH.takex (i := 2) rfl (by kernel_rfl) (by kernel_rfl) (by kernel_rfl) hP hSW47 ?_
        refine pr_field (o := 0) (off' := 0) ff_30_0 rfl rfl rfl ?_
        refine WH.takex (i := 3) rfl (by kernel_rfl) (by kernel_rfl) (by kernel_rfl) hP hSW47 ?_
        refine pr_load_blk (i := 1) (vs := [v0_0]) (v := v0_0) tf_28 rfl rfl hS46 rfl rfl rfl (hS46.disj (i := 1) (j := 2) rfl rfl rfl b2 (by simp [R.blk])) ?_
        refine WH.takex (i := 4) rfl (by kernel_rfl) (by kernel_rfl) (by kernel_rfl) hP hSW47 ?_
        refine pr_move rfl rfl ?_
        refine WH.takex (i := 5) rfl (by kernel_rfl) (by kernel_rfl) (by kernel_rfl) hP hSW47 ?_
        refine pr_add rfl rfl rfl ?_
        obtain ⟨u48, hu48, hF⟩ := bindE hF
        refine WH.takex (i := 6) rfl (by kernel_rfl) (by kernel_rfl) (by kernel_rfl) hP hSW47 ?_
        refine pr_index (e := ty_109) Try.underlying28 rfl rfl rfl h0_0 hu48 ?_
        rintro p49 _ ⟨v51, rfl, hv52⟩ hp50
        refine WH.takex (i := 7) rfl (by kernel_rfl) (by kernel_rfl) (by kernel_rfl) hP hSW47 ?_
        refine pr_load_p (vs := [v51]) (v := v51) tf_109 rfl rfl (hp50.kx hB45 (fun b hb => ((hS46.get (i := 2) rfl).2.1 b hb).1)) rfl rfl ?_
        refine WH.takex (i := 8) rfl (by kernel_rfl) (by kernel_rfl) (by kernel_rfl) hP hSW47 ?_
        refine pr_move rfl rfl ?_
        obtain ⟨u53, hu53, hF⟩ := bindE hF
        refine WH.takex (i := 9) rfl (by kernel_rfl) (by kernel_rfl) (by kernel_rfl) hP hSW47 ?_
        refine pr_index (e := ty_105) Try.underlying109 rfl rfl rfl hv52 hu53 ?_
        rintro p54 _ rfl hp55
        refine WH.takex (i := 10) rfl (by kernel_rfl) (by kernel_rfl) (by kernel_rfl) hP hSW47 ?_
        refine pr_load_p (vs := [(.int .i64 u53.1), (.int .i64 u53.2)]) (v := (.agg #[(.int .i64 u53.1), (.int .i64 u53.2)])) tf_105 rfl rfl (hp55.kx hB45 (fun b hb => ((hS46.get (i := 2) rfl).2.1 b hb).1)) rfl rfl ?_
        refine WH.takex (i := 11) rfl (by kernel_rfl) (by kernel_rfl) (by kernel_rfl) hP hSW47 ?_
        refine pr_field (o := 1) (off' := 1) ff_30_1 rfl rfl rfl ?_
        refine WH.takex (i := 12) rfl (by kernel_rfl) (by kernel_rfl) (by kernel_rfl) hP hSW47 ?_
        refine pr_load_blk (i := 1) (vs := [v0_1]) (v := v0_1) tf_23 rfl rfl hS46 rfl rfl rfl (hS46.disj (i := 1) (j := 2) rfl rfl rfl b2 (by simp [R.blk])) ?_
        refine WH.takex (i := 13) rfl (by kernel_rfl) (by kernel_rfl) (by kernel_rfl) hP hSW47 ?_
        refine pr_move rfl rfl ?_
        obtain ⟨u56, hu56, hF⟩ := bindE hF
        refine WH.takex (i := 14) rfl (by kernel_rfl) (by kernel_rfl) (by kernel_rfl) hP hSW47 ?_
        refine pr_index (e := ty_3) Try.underlying23 rfl rfl rfl h0_1 hu56 ?_
        rintro p57 _ rfl hp58
        refine WH.takex (i := 15) rfl (by kernel_rfl) (by kernel_rfl) (by kernel_rfl) hP hSW47 ?_
        refine pr_load_p (vs := [(.int .i64 u56)]) (v := (.int .i64 u56)) tf_3 rfl rfl (hp58.kx hB45 (fun b hb => ((hS46.get (i := 2) rfl).2.1 b hb).1)) rfl rfl ?_
        refine WH.takex (i := 16) rfl (by kernel_rfl) (by kernel_rfl) (by kernel_rfl) hP hSW47 ?_
        refine pr_build (zs := [(.int .i64 0), (.int .i64 0), (.int .i64 0), (.int .i64 0), (.int .i64 0)]) (out := [(.int .i64 u31.1), (.int .i64 u31.2), (.int .i64 u53.1), (.int .i64 u53.2), (.int .i64 u56)]) (vs := [(.agg #[(.int .i64 u31.1), (.int .i64 u31.2)]), (.agg #[(.int .i64 u53.1), (.int .i64 u53.2)]), (.int .i64 u56)]) (css := [[(.int .i64 u31.1), (.int .i64 u31.2)], [(.int .i64 u53.1), (.int .i64 u53.2)], [(.int .i64 u56)]]) tf_107 pl_107 rfl rfl rfl rfl rfl ?_
        refine WH.one (i := 17) (by kernel_rfl) rfl ?_
        refine wl_lit (vs := [(.agg #[(.int .i64 u31.1), (.int .i64 u31.2), (.int .i64 u53.1), (.int .i64 u53.2), (.int .i64 u56)])]) (l := [(u31, u53, u56)]) fl_107 Try.underlying102 rfl rfl rfl rfl rfl rfl hB45 hS46 ?_
        intro v59 F60 w61 hb62 hB63 hS64
        have hSW65 := hSW47.ext hb62
        have hbS66 : Below w43.heap.size w43 w61 := hb62
        refine WL.nil (WH.ret hSW65 ?_)
        refine WH.one (i := 18) (by kernel_rfl) rfl ?_
        obtain ⟨u67, hu67, hF⟩ := bindE hF
        refine wl_append (i := 3) (S := (· < w61.heap.size)) fl_107 Try.underlying102 rfl rfl rfl hB63 hS64 rfl (hS64.own_ro (i := 0) rfl) hu67 ?_
        intro v68 F69 w70 hk71 hB72 hS73
        have hSW74 := hSW65.wr hk71 (fun _ _ h => h)
        refine WL.nil (WH.ret hSW74 ?_)
        refine WH.takex (i := 19) rfl (by kernel_rfl) (by kernel_rfl) (by kernel_rfl) hP hSW74 ?_
        refine pr_assign rfl rfl ?_
        refine WH.done (by kernel_rfl) ?_
        refine fun a ha => hK29 _ _ ?_ a ha
        refine W.region ?_
        refine wl_add rfl rfl rfl ?_
        refine wl_move rfl rfl ?_
        refine WL.nil ?_
        rw [hnx22] at hF
        exact fun a ha => hKL24 a _ m25 (Nat.lt_succ_self m25) ⟨u67, (w64 (y21 + 1)), v68, F69, ha.sub ⟨rfl, rfl, rfl, rfl, rfl, rfl, trivial⟩, hB72, (hS73.sel [2, 3] rfl), hF⟩
      · replace hF := ifN h28 hF
        refine W.exit ?_
        refine fun a ha => hK8 _ _ ?_ a ha
        refine W.seq fun K75 hK75 => ?_
        refine W.region ?_
        refine wl_move rfl rfl ?_
        refine wl_assign rfl rfl ?_
        refine WL.nil ?_
        refine fun a ha => hK75 _ _ ?_ a ha
        refine W.ret ?_
        have hr := Option.some.inj hF
        subst hr
        exact rets (vs := [v19]) hQ rfl ⟨rv_tmp rfl, trivial⟩ ⟨v19, F20, rfl, hB16, hS17.sel [1] rfl⟩
theorem C_spec_stSquare (w0 : World) (x0 : (Int × Int)) (x1 : (Int × Int)) (r : Int) (hF : F_spec_stSquare x0 x1 = some r) :
    Calls Try.prog 118 [(.agg #[(.int .i64 x0.1), (.int .i64 x0.2)]), (.agg #[(.int .i64 x1.1), (.int .i64 x1.2)])].toArray w0 fun e w' => e = .returned (.int .i64 r) ∧ Below w0.heap.size w0 w' := by
  refine calls_mk' Try.func118 rfl Try.ntmps118 rfl rfl fun Q hQ hP => ?_
  have hB : Below w0.heap.size w0 w0 := Below.refl _ _
  have hS : Sep w0.heap.size w0 [] := Sep.nil _ _
  unfold F_spec_stSquare at hF
  refine W.seq fun K1 hK1 => ?_
  refine W.region ?_
  refine wl_box (cs := [(.int .i64 x0.1), (.int .i64 x0.2)]) rfl rfl rfl hB hS ?_
  intro b2 w3 hb4 hB5 hS6
  refine wl_box (cs := [(.int .i64 x1.1), (.int .i64 x1.2)]) rfl rfl rfl hB5 hS6 ?_
  intro b7 w8 hb9 hB10 hS11
  refine wl_assign rfl rfl ?_
  refine WL.nil ?_
  refine fun a ha => hK1 _ _ ?_ a ha
  refine W.seq fun K12 hK12 => ?_
  refine W.region ?_
  refine wl_field (o := 0) (off' := 0) ff_105_0 rfl rfl rfl ?_
  refine wl_load_blk (i := 1) (vs := [(.int .i64 x0.1)]) (v := (.int .i64 x0.1)) tf_3 rfl rfl hS11 rfl rfl rfl ?_
  refine wl_field (o := 0) (off' := 0) ff_105_0 rfl rfl rfl ?_
  refine wl_load_blk (i := 0) (vs := [(.int .i64 x1.1)]) (v := (.int .i64 x1.1)) tf_3 rfl rfl hS11 rfl rfl rfl ?_
  refine wl_sub rfl rfl rfl ?_
  refine wl_field (o := 0) (off' := 0) ff_105_0 rfl rfl rfl ?_
  refine wl_load_blk (i := 1) (vs := [(.int .i64 x0.1)]) (v := (.int .i64 x0.1)) tf_3 rfl rfl hS11 rfl rfl rfl ?_
  refine wl_field (o := 0) (off' := 0) ff_105_0 rfl rfl rfl ?_
  refine wl_load_blk (i := 0) (vs := [(.int .i64 x1.1)]) (v := (.int .i64 x1.1)) tf_3 rfl rfl hS11 rfl rfl rfl ?_
  refine wl_sub rfl rfl rfl ?_
  refine wl_mul rfl rfl rfl ?_
  refine wl_field (o := 1) (off' := 1) ff_105_1 rfl rfl rfl ?_
  refine wl_load_blk (i := 1) (vs := [(.int .i64 x0.2)]) (v := (.int .i64 x0.2)) tf_3 rfl rfl hS11 rfl rfl rfl ?_
  refine wl_field (o := 1) (off' := 1) ff_105_1 rfl rfl rfl ?_
  refine wl_load_blk (i := 0) (vs := [(.int .i64 x1.2)]) (v := (.int .i64 x1.2)) tf_3 rfl rfl hS11 rfl rfl rfl ?_
  refine wl_sub rfl rfl rfl ?_
  refine wl_field (o := 1) (off' := 1) ff_105_1 rfl rfl rfl ?_
  refine wl_load_blk (i := 1) (vs := [(.int .i64 x0.2)]) (v := (.int .i64 x0.2)) tf_3 rfl rfl hS11 rfl rfl rfl ?_
  refine wl_field (o := 1) (off' := 1) ff_105_1 rfl rfl rfl ?_
  refine wl_load_blk (i := 0) (vs := [(.int .i64 x1.2)]) (v := (.int .i64 x1.2)) tf_3 rfl rfl hS11 rfl rfl rfl ?_
  refine wl_sub rfl rfl rfl ?_
  refine wl_mul rfl rfl rfl ?_
  refine wl_add rfl rfl rfl ?_
  refine wl_assign rfl rfl ?_
  refine WL.nil ?_
  refine fun a ha => hK12 _ _ ?_ a ha
  refine W.ret ?_
  have hr := Option.some.inj hF
  subst hr
  exact rets (vs := [(.int .i64 (w64 ((w64 ((w64 (x0.1 - x1.1)) * (w64 (x0.1 - x1.1)))) + (w64 ((w64 (x0.2 - x1.2)) * (w64 (x0.2 - x1.2)))))))]) hQ rfl ⟨rv_tmp rfl, trivial⟩ ⟨rfl, hB10⟩
theorem C_spec_cpSquares (w0 : World) (x0 : ((List (List (Int × Int))) × (List Int) × Int × Int)) (v0_0 : Value) (h0_0 : rdS ty_109 (· < w0.heap.size) w0 v0_0 x0.1) (v0_1 : Value) (h0_1 : rdS ty_3 (· < w0.heap.size) w0 v0_1 x0.2.1) (x1 : Int) (r : (List Int)) (hF : F_spec_cpSquares x0 x1 = some r) :
    Calls Try.prog 85 [(.agg #[v0_0, v0_1, (.int .i64 x0.2.2.1), (.int .i64 x0.2.2.2)]), (.int .i64 x1)].toArray w0 fun e w' => ∃ (q0 : Value) (G0 : List Nat), e = .returned q0 ∧ Below w0.heap.size w0 w' ∧ Sep w0.heap.size w' [R.own ty_3 G0 q0 r] := by
  refine calls_mk' Try.func85 rfl Try.ntmps85 rfl rfl fun Q hQ hP => ?_
  have hB : Below w0.heap.size w0 w0 := Below.refl _ _
  have hS : Sep w0.heap.size w0 [] := Sep.nil _ _
  unfold F_spec_cpSquares at hF
  refine W.seq fun K1 hK1 => ?_
  refine W.region ?_
  refine wl_box (cs := [v0_0, v0_1, (.int .i64 x0.2.2.1), (.int .i64 x0.2.2.2)]) rfl rfl rfl hB hS ?_
  intro b2 w3 hb4 hB5 hS6
  refine wl_assign rfl rfl ?_
  refine WL.nil ?_
  refine fun a ha => hK1 _ _ ?_ a ha
  refine W.seq fun K7 hK7 => ?_
  refine W.region ?_
  refine wl_assign rfl rfl ?_
  refine WL.nil ?_
  refine fun a ha => hK7 _ _ ?_ a ha
  refine W.seq fun K8 hK8 => ?_
  refine W.seq fun K9 hK9 => ?_
  refine W.region ?_
  refine wl_load_blk (i := 0) (vs := [v0_0, v0_1, (.int .i64 x0.2.2.1), (.int .i64 x0.2.2.2)]) (v := (.agg #[v0_0, v0_1, (.int .i64 x0.2.2.1), (.int .i64 x0.2.2.2)])) tf_30 rfl rfl hS6 rfl rfl rfl ?_
  refine wl_move rfl rfl ?_
  obtain ⟨u10, hu10, hF⟩ := bindE hF
  refine wl_call rfl Try.call92 (C_spec_swMoves w3 x0 v0_0 (h0_0.ro hB5) v0_1 (h0_1.ro hB5) x1 _ hu10) rfl ?_
  rintro _ w13 ⟨v11, F12, rfl, hb14, hM17⟩
  refine ⟨_, rfl, ?_⟩
  have hB15 := hB5.trans (hb14.mono hB5.size)
  have hS16 := hS6.join hb14 hM17 hB5.size
  refine wl_lenr (e := ty_107) (l := u10) Try.underlying102 rfl rfl (hS16.own_ro (i := 0) rfl) ?_
  refine wl_move rfl rfl ?_
  refine WL.nil ?_
  refine fun a ha => hK9 _ _ ?_ a ha
  refine W.block ?_
  refine W.loopk (fun m a w18 => ∃ (l21 : (List Int)) (y24 : Int) (v22 : Value) (F23 : List Nat), St 26 [(5, v22), (10, v11), (11, (.int .i64 (List.length u10 : Int))), (12, (.int .i64 y24))] a ∧ Below w0.heap.size w0 w18 ∧ Sep w0.heap.size w18 [R.own ty_3 F23 v22 l21, R.own ty_107 F12 v11 u10] ∧ F_spec_cpSquares_L1 u10 m l21 y24 = some r) FU ?_ ?_
  ·
    have hS26 := hS16.push0 (r := R.own ty_3 [] (.slice none 0 0) []) rfl fun _ => .inl ⟨rfl, rfl, rfl⟩
    exact fun a ha => ⟨[], 0, (.slice none 0 0), [], ha.sub ⟨rfl, rfl, rfl, rfl, trivial⟩, hB15, (hS26.sel [0, 1] rfl), hF⟩
  ·
    rintro m28 a w18 ⟨l21, y24, v22, F23, ha, hB19, hS20, hF⟩ KL27 hKL27
    refine W.at ?_ ha
    cases m28 with
    | zero => exact noneE hF
    | succ m28 =>
      obtain ⟨nx25, hnx25⟩ : ∃ k, k = F_spec_cpSquares_L1 u10 m28 := ⟨_, rfl⟩
      rw [F_spec_cpSquares_L1, ← hnx25] at hF
      refine W.seq fun K29 hK29 => ?_
      refine W.region ?_
      refine wl_lss rfl rfl rfl ?_
      refine WL.nil ?_
      refine fun a ha => hK29 _ _ ?_ a ha
      refine W.seq fun K30 hK30 => ?_
      refine W.cond rfl (fun h31 => ?_) (fun h31 => ?_)
      · replace hF := ifP h31 hF
        refine W.skip ?_
        refine fun a ha => hK30 _ _ ?_ a ha
        refine W.seq fun K32 hK32 => ?_
        refine W.block ?_
        refine W.seq fun K33 hK33 => ?_
        refine W.region ?_
        obtain ⟨u34, hu34, hF⟩ := bindE hF
        refine wl_indexo (e := ty_107) (i := 1) Try.underlying102 rfl rfl rfl hS20 rfl hu34 ?_
        rintro p35 _ rfl hp36 ho37
        refine wl_load_p (vs := [(.int .i64 u34.1.1), (.int .i64 u34.1.2), (.int .i64 u34.2.1.1), (.int .i64 u34.2.1.2), (.int .i64 u34.2.2)]) (v := (.agg #[(.int .i64 u34.1.1), (.int .i64 u34.1.2), (.int .i64 u34.2.1.1), (.int .i64 u34.2.1.2), (.int .i64 u34.2.2)])) tf_107 rfl rfl hp36 rfl rfl ?_
        refine wl_alloc (cs := [(.int .i64 0), (.int .i64 0), (.int .i64 0), (.int .i64 0), (.int .i64 0)]) tf_107 rfl rfl hB19 hS20 ?_
        intro b38 w39 hb40 hB41 hS42
        refine wl_store_blk (i := 0) (vs := [(.int .i64 u34.1.1), (.int .i64 u34.1.2), (.int .i64 u34.2.1.1), (.int .i64 u34.2.1.2), (.int .i64 u34.2.2)]) (cs' := [(.int .i64 u34.1.1), (.int .i64 u34.1.2), (.int .i64 u34.2.1.1), (.int .i64 u34.2.1.2), (.int .i64 u34.2.2)]) tf_107 rfl rfl rfl rfl hB41 hS42 rfl rfl ⟨rfl, rfl, rfl, rfl, rfl, trivial⟩ rfl ?_
        intro w43 hk46 hB44 hS45
        refine WL.nil ?_
        refine fun a ha => hK33 _ _ ?_ a ha
        refine W.region ?_
        refine wl_move rfl rfl ?_
        refine wl_field (o := 0) (off' := 0) ff_107_0 rfl rfl rfl ?_
        refine wl_load_blk (i := 0) (vs := [(.int .i64 u34.1.1), (.int .i64 u34.1.2)]) (v := (.agg #[(.int .i64 u34.1.1), (.int .i64 u34.1.2)])) tf_105 rfl rfl hS45 rfl rfl rfl ?_
        refine wl_field (o := 2) (off' := 2) ff_107_1 rfl rfl rfl ?_
        refine wl_load_blk (i := 0) (vs := [(.int .i64 u34.2.1.1), (.int .i64 u34.2.1.2)]) (v := (.agg #[(.int .i64 u34.2.1.1), (.int .i64 u34.2.1.2)])) tf_105 rfl rfl hS45 rfl rfl rfl ?_
        obtain ⟨u47, hu47, hF⟩ := bindE hF
        refine wl_call rfl Try.call118 (C_spec_stSquare w43 u34.1 u34.2.1 _ hu47) rfl ?_
        rintro _ w48 ⟨rfl, hb49⟩
        refine ⟨_, rfl, ?_⟩
        have hB50 := hB44.trans (hb49.mono hB44.size)
        have hS51 := hS45.below hb49
        refine wl_lit (vs := [(.int .i64 u47)]) (l := [u47]) fl_3 Try.underlying23 rfl rfl rfl rfl rfl rfl hB50 hS51 ?_
        intro v53 F54 w55 hb56 hB57 hS58
        obtain ⟨u59, hu59, hF⟩ := bindE hF
        refine wl_append (i := 2) (S := (· < w55.heap.size)) fl_3 Try.underlying23 rfl rfl rfl hB57 hS58 rfl (hS58.own_ro (i := 0) rfl) hu59 ?_
        intro v60 F61 w62 hk63 hB64 hS65
        refine wl_assign rfl rfl ?_
        refine WL.nil ?_
        refine fun a ha => hK32 _ _ ?_ a ha
        refine W.region ?_
        refine wl_add rfl rfl rfl ?_
        refine wl_move rfl rfl ?_
        refine WL.nil ?_
        rw [hnx25] at hF
        exact fun a ha => hKL27 a _ m28 (Nat.lt_succ_self m28) ⟨u59, (w64 (y24 + 1)), v60, F61, ha.sub ⟨rfl, rfl, rfl, rfl, trivial⟩, hB64, (hS65.sel [2, 3] rfl), hF⟩
      · replace hF := ifN h31 hF
        refine W.exit ?_
        refine fun a ha => hK8 _ _ ?_ a ha
        refine W.seq fun K66 hK66 => ?_
        refine W.region ?_
        refine wl_move rfl rfl ?_
        refine wl_assign rfl rfl ?_
        refine WL.nil ?_
        refine fun a ha => hK66 _ _ ?_ a ha
        refine W.ret ?_
        have hr := Option.some.inj hF
        subst hr
        exact rets (vs := [v22]) hQ rfl ⟨rv_tmp rfl, trivial⟩ ⟨v22, F23, rfl, hB19, hS20.sel [0] rfl⟩
theorem C_spec_cpSum (w0 : World) (x0 : (List Int)) (v0_0 : Value) (h0_0 : rdS ty_3 (· < w0.heap.size) w0 v0_0 x0) (r : Int) (hF : F_spec_cpSum x0 = some r) :
    Calls Try.prog 84 [v0_0].toArray w0 fun e w' => e = .returned (.int .i64 r) ∧ Below w0.heap.size w0 w' := by
  refine calls_mk' Try.func84 rfl Try.ntmps84 rfl rfl fun Q hQ hP => ?_
  have hB : Below w0.heap.size w0 w0 := Below.refl _ _
  have hS : Sep w0.heap.size w0 [] := Sep.nil _ _
  unfold F_spec_cpSum at hF
  refine W.seq fun K1 hK1 => ?_
  refine W.region ?_
  refine wl_assign rfl rfl ?_
  refine WL.nil ?_
  refine fun a ha => hK1 _ _ ?_ a ha
  refine W.seq fun K2 hK2 => ?_
  refine W.region ?_
  refine wl_assign rfl rfl ?_
  refine WL.nil ?_
  refine fun a ha => hK2 _ _ ?_ a ha
  refine W.seq fun K3 hK3 => ?_
  refine W.seq fun K4 hK4 => ?_
  refine W.region ?_
  refine wl_move rfl rfl ?_
  refine wl_lenr (e := ty_3) (l := x0) Try.underlying23 rfl rfl h0_0 ?_
  refine wl_move rfl rfl ?_
  refine WL.nil ?_
  refine fun a ha => hK4 _ _ ?_ a ha
  refine W.block ?_
  refine W.loopk (fun m a w5 => ∃ (y8 : Int) (y9 : Int), St 17 [(3, (.int .i64 y8)), (6, v0_0), (7, (.int .i64 (List.length x0 : Int))), (8, (.int .i64 y9))] a ∧ Below w0.heap.size w0 w5 ∧ Sep w0.heap.size w5 [] ∧ F_spec_cpSum_L1 x0 m y8 y9 = some r) FU ?_ ?_
  ·
    exact fun a ha => ⟨0, 0, ha.sub ⟨rfl, rfl, rfl, rfl, trivial⟩, hB, (hS.sel [] rfl), hF⟩
  ·
    rintro m12 a w5 ⟨y8, y9, ha, hB6, hS7, hF⟩ KL11 hKL11
    refine W.at ?_ ha
    cases m12 with
    | zero => exact noneE hF
    | succ m12 =>
      obtain ⟨nx10, hnx10⟩ : ∃ k, k = F_spec_cpSum_L1 x0 m12 := ⟨_, rfl⟩
      rw [F_spec_cpSum_L1, ← hnx10] at hF
      refine W.seq fun K13 hK13 => ?_
      refine W.region ?_
      refine wl_lss rfl rfl rfl ?_
      refine WL.nil ?_
      refine fun a ha => hK13 _ _ ?_ a ha
      refine W.seq fun K14 hK14 => ?_
      refine W.cond rfl (fun h15 => ?_) (fun h15 => ?_)
      · replace hF := ifP h15 hF
        refine W.skip ?_
        refine fun a ha => hK14 _ _ ?_ a ha
        refine W.seq fun K16 hK16 => ?_
        refine W.block ?_
        refine W.seq fun K17 hK17 => ?_
        refine W.region ?_
        obtain ⟨u18, hu18, hF⟩ := bindE hF
        refine wl_index (e := ty_3) Try.underlying23 rfl rfl rfl h0_0 hu18 ?_
        rintro p19 _ rfl hp20
        refine wl_load_p (vs := [(.int .i64 u18)]) (v := (.int .i64 u18)) tf_3 rfl rfl (hp20.ro hB6) rfl rfl ?_
        refine wl_assign rfl rfl ?_
        refine WL.nil ?_
        refine fun a ha => hK17 _ _ ?_ a ha
        refine W.region ?_
        refine wl_move rfl rfl ?_
        refine wl_move rfl rfl ?_
        refine wl_add rfl rfl rfl ?_
        refine wl_assign rfl rfl ?_
        refine WL.nil ?_
        refine fun a ha => hK16 _ _ ?_ a ha
        refine W.region ?_
        refine wl_add rfl rfl rfl ?_
        refine wl_move rfl rfl ?_
        refine WL.nil ?_
        rw [hnx10] at hF
        exact fun a ha => hKL11 a _ m12 (Nat.lt_succ_self m12) ⟨(w64 (y8 + u18)), (w64 (y9 + 1)), ha.sub ⟨rfl, rfl, rfl, rfl, trivial⟩, hB6, (hS7.sel [] rfl), hF⟩
      · replace hF := ifN h15 hF
        refine W.exit ?_
        refine fun a ha => hK3 _ _ ?_ a ha
        refine W.seq fun K21 hK21 => ?_
        refine W.region ?_
        refine wl_move rfl rfl ?_
        refine wl_assign rfl rfl ?_
        refine WL.nil ?_
        refine fun a ha => hK21 _ _ ?_ a ha
        refine W.ret ?_
        have hr := Option.some.inj hF
        subst hr
        exact rets (vs := [(.int .i64 y8)]) hQ rfl ⟨rv_tmp rfl, trivial⟩ ⟨rfl, hB6⟩
theorem C_spec_WidestPart (w0 : World) (x0 : ((List (List (Int × Int))) × (List Int) × Int × Int)) (v0_0 : Value) (h0_0 : rdS ty_109 (· < w0.heap.size) w0 v0_0 x0.1) (v0_1 : Value) (h0_1 : rdS ty_3 (· < w0.heap.size) w0 v0_1 x0.2.1) (r : (Int × Int × Bool)) (hF : F_spec_WidestPart x0 = some r) :
    Calls Try.prog 39 [(.agg #[v0_0, v0_1, (.int .i64 x0.2.2.1), (.int .i64 x0.2.2.2)])].toArray w0 fun e w' => e = .returned (.tuple #[(.int .i64 r.1), (.int .i64 r.2.1), (.bool r.2.2)]) ∧ Below w0.heap.size w0 w' := by
  refine calls_mk' Try.func39 rfl Try.ntmps39 rfl rfl fun Q hQ hP => ?_
  have hB : Below w0.heap.size w0 w0 := Below.refl _ _
  have hS : Sep w0.heap.size w0 [] := Sep.nil _ _
  unfold F_spec_WidestPart at hF
  refine W.seq fun K1 hK1 => ?_
  refine W.region ?_
  refine wl_box (cs := [v0_0, v0_1, (.int .i64 x0.2.2.1), (.int .i64 x0.2.2.2)]) rfl rfl rfl hB hS ?_
  intro b2 w3 hb4 hB5 hS6
  refine wl_assign rfl rfl ?_
  refine wl_assign rfl rfl ?_
  refine wl_assign rfl rfl ?_
  refine WL.nil ?_
  refine fun a ha => hK1 _ _ ?_ a ha
  refine W.seq fun K7 hK7 => ?_
  refine W.seq fun K8 hK8 => ?_
  refine W.region ?_
  refine wl_load_blk (i := 0) (vs := [v0_0, v0_1, (.int .i64 x0.2.2.1), (.int .i64 x0.2.2.2)]) (v := (.agg #[v0_0, v0_1, (.int .i64 x0.2.2.1), (.int .i64 x0.2.2.2)])) tf_30 rfl rfl hS6 rfl rfl rfl ?_
  obtain ⟨u9, hu9, hF⟩ := bindE hF
  refine wl_call rfl Try.call62 (C_spec_swGood w3 x0 v0_0 (h0_0.ro hB5) v0_1 (h0_1.ro hB5) _ hu9) rfl ?_
  rintro _ w10 ⟨rfl, hb11⟩
  refine ⟨_, rfl, ?_⟩
  have hB12 := hB5.trans (hb11.mono hB5.size)
  have hS13 := hS6.below hb11
  refine wl_not rfl rfl ?_
  refine WL.nil ?_
  refine fun a ha => hK8 _ _ ?_ a ha
  refine W.cond rfl (fun h15 => ?_) (fun h15 => ?_)
  · replace hF := ifP h15 hF
    refine W.seq fun K16 hK16 => ?_
    refine W.region ?_
    refine wl_assign rfl rfl ?_
    refine wl_assign rfl rfl ?_
    refine wl_assign rfl rfl ?_
    refine WL.nil ?_
    refine fun a ha => hK16 _ _ ?_ a ha
    refine W.ret ?_
    have hr := Option.some.inj hF
    subst hr
    exact rets (vs := [(.int .i64 0), (.int .i64 0), (.bool false)]) hQ rfl ⟨rv_tmp rfl, rv_tmp rfl, rv_tmp rfl, trivial⟩ ⟨rfl, hB12⟩
  · replace hF := ifN h15 hF
    refine W.skip ?_
    refine fun a ha => hK7 _ _ ?_ a ha
    refine W.seq fun K17 hK17 => ?_
    refine W.region ?_
    refine wl_assign rfl rfl ?_
    refine wl_assign rfl rfl ?_
    refine WL.nil ?_
    refine fun a ha => hK17 _ _ ?_ a ha
    refine W.seq fun K18 hK18 => ?_
    refine W.seq fun K19 hK19 => ?_
    refine W.region ?_
    refine wl_field (o := 1) (off' := 1) ff_30_1 rfl rfl rfl ?_
    refine wl_load_blk (i := 0) (vs := [v0_1]) (v := v0_1) tf_23 rfl rfl hS13 rfl rfl rfl ?_
    refine wl_lenr (e := ty_3) (l := x0.2.1) Try.underlying23 rfl rfl h0_1 ?_
    refine wl_move rfl rfl ?_
    refine WL.nil ?_
    refine fun a ha => hK19 _ _ ?_ a ha
    refine W.block ?_
    refine W.loopk (fun m a w20 => ∃ (y23 : Int) (y24 : Int) (y25 : Int), St 30 [(1, (.pointer (some ⟨b2, 0, none⟩))), (5, (.int .i64 y23)), (6, (.int .i64 y24)), (14, (.int .i64 (List.length x0.2.1 : Int))), (15, (.int .i64 y25))] a ∧ Below w0.heap.size w0 w20 ∧ Sep w0.heap.size w20 [R.blk b2 30 [v0_0, v0_1, (.int .i64 x0.2.2.1), (.int .i64 x0.2.2.2)]] ∧ F_spec_WidestPart_L1 x0 m y23 y24 y25 = some r) FU ?_ ?_
    ·
      exact fun a ha => ⟨0, (-1), 0, ha.sub ⟨rfl, rfl, rfl, rfl, rfl, trivial⟩, hB12, (hS13.sel [0] rfl), hF⟩
    ·
      rintro m28 a w20 ⟨y23, y24, y25, ha, hB21, hS22, hF⟩ KL27 hKL27
      refine W.at ?_ ha
      cases m28 with
      | zero => exact noneE hF
      | succ m28 =>
        obtain ⟨nx26, hnx26⟩ : ∃ k, k = F_spec_WidestPart_L1 x0 m28 := ⟨_, rfl⟩
        rw [F_spec_WidestPart_L1, ← hnx26] at hF
        refine W.seq fun K29 hK29 => ?_
        refine W.region ?_
        refine wl_lss rfl rfl rfl ?_
        refine WL.nil ?_
        refine fun a ha => hK29 _ _ ?_ a ha
        refine W.seq fun K30 hK30 => ?_
        refine W.cond rfl (fun h31 => ?_) (fun h31 => ?_)
        · replace hF := ifP h31 hF
          refine W.skip ?_
          refine fun a ha => hK30 _ _ ?_ a ha
          refine W.seq fun K32 hK32 => ?_
          obtain ⟨k38, hk38, hF⟩ := jE2 hF
          have hJ39 : ∀ (y36 : Int) (y37 : Int) (w33 : World) (_ : k38 y36 y37 = some r) (_ : Below w0.heap.size w0 w33) (_ : Sep w0.heap.size w33 [R.blk b2 30 [v0_0, v0_1, (.int .i64 x0.2.2.1), (.int .i64 x0.2.2.2)]]), ∀ a, St 30 [(1, (.pointer (some ⟨b2, 0, none⟩))), (5, (.int .i64 y36)), (6, (.int .i64 y37)), (14, (.int .i64 (List.length x0.2.1 : Int))), (15, (.int .i64 y25))] a → K32 a w33 := by
            intro y36 y37 w33 hF hB34 hS35
            subst hk38
            refine fun a ha => hK32 _ _ ?_ a ha
            refine W.region ?_
            refine wl_add rfl rfl rfl ?_
            refine wl_move rfl rfl ?_
            refine WL.nil ?_
            rw [hnx26] at hF
            exact fun a ha => hKL27 a _ m28 (Nat.lt_succ_self m28) ⟨y36, y37, (w64 (y25 + 1)), ha.sub ⟨rfl, rfl, rfl, rfl, rfl, trivial⟩, hB34, (hS35.sel [0] rfl), hF⟩
          refine W.block ?_
          refine W.seq fun K40 hK40 => ?_
          refine W.region ?_
          refine wl_move rfl rfl ?_
          refine wl_assign rfl rfl ?_
          refine WL.nil ?_
          refine fun a ha => hK40 _ _ ?_ a ha
          refine W.seq fun K41 hK41 => ?_
          refine W.region ?_
          refine wl_load_blk (i := 0) (vs := [v0_0, v0_1, (.int .i64 x0.2.2.1), (.int .i64 x0.2.2.2)]) (v := (.agg #[v0_0, v0_1, (.int .i64 x0.2.2.1), (.int .i64 x0.2.2.2)])) tf_30 rfl rfl hS22 rfl rfl rfl ?_
          refine wl_move rfl rfl ?_
          obtain ⟨u42, hu42, hF⟩ := bindE hF
          refine wl_call rfl Try.call85 (C_spec_cpSquares w20 x0 v0_0 (h0_0.ro hB21) v0_1 (h0_1.ro hB21) y25 _ hu42) rfl ?_
          rintro _ w45 ⟨v43, F44, rfl, hb46, hM49⟩
          refine ⟨_, rfl, ?_⟩
          have hB47 := hB21.trans (hb46.mono hB21.size)
          have hS48 := hS22.join hb46 hM49 hB21.size
          obtain ⟨u50, hu50, hF⟩ := bindE hF
          refine wl_call rfl Try.call84 (C_spec_cpSum w45 u42 v43 (hS48.own_ro (i := 0) rfl) _ hu50) rfl ?_
          rintro _ w51 ⟨rfl, hb52⟩
          refine ⟨_, rfl, ?_⟩
          have hB53 := hB47.trans (hb52.mono hB47.size)
          have hS54 := hS48.below hb52
          refine wl_assign rfl rfl ?_
          refine WL.nil ?_
          refine fun a ha => hK41 _ _ ?_ a ha
          refine W.seq fun K56 hK56 => ?_
          refine W.region ?_
          refine wl_move rfl rfl ?_
          refine wl_move rfl rfl ?_
          refine wl_gtr rfl rfl rfl ?_
          refine WL.nil ?_
          refine fun a ha => hK56 _ _ ?_ a ha
          refine W.cond rfl (fun h57 => ?_) (fun h57 => ?_)
          · replace hF := ifP h57 hF
            refine W.seq fun K58 hK58 => ?_
            refine W.region ?_
            refine wl_move rfl rfl ?_
            refine wl_assign rfl rfl ?_
            refine WL.nil ?_
            refine fun a ha => hK58 _ _ ?_ a ha
            refine W.region ?_
            refine wl_move rfl rfl ?_
            refine wl_assign rfl rfl ?_
            refine WL.nil ?_
            exact fun a ha => hJ39 (y25) (u50) _ hF hB53 (hS54.sel [1] rfl) a (ha.sub ⟨rfl, rfl, rfl, rfl, rfl, trivial⟩)
          · replace hF := ifN h57 hF
            refine W.skip ?_
            exact fun a ha => hJ39 (y23) (y24) _ hF hB53 (hS54.sel [1] rfl) a (ha.sub ⟨rfl, rfl, rfl, rfl, rfl, trivial⟩)
        · replace hF := ifN h31 hF
          refine W.exit ?_
          refine fun a ha => hK18 _ _ ?_ a ha
          refine W.seq fun K59 hK59 => ?_
          refine W.region ?_
          refine wl_move rfl rfl ?_
          refine wl_move rfl rfl ?_
          refine wl_assign rfl rfl ?_
          refine wl_assign rfl rfl ?_
          refine wl_assign rfl rfl ?_
          refine WL.nil ?_
          refine fun a ha => hK59 _ _ ?_ a ha
          refine W.ret ?_
          have hr := Option.some.inj hF
          subst hr
          exact rets (vs := [(.int .i64 y23), (.int .i64 y24), (.bool true)]) hQ rfl ⟨rv_tmp rfl, rv_tmp rfl, rv_tmp rfl, trivial⟩ ⟨rfl, hB21⟩
theorem C_impl_showMoves (w0 : World) (x0 : ((List (List (Int × Int))) × (List Int) × Int × Int)) (v0_0 : Value) (h0_0 : rdS ty_109 (· < w0.heap.size) w0 v0_0 x0.1) (v0_1 : Value) (h0_1 : rdS ty_3 (· < w0.heap.size) w0 v0_1 x0.2.1) (x1 : Int) (r : (List ((Int × Int) × (Int × Int) × Int))) (hF : F_impl_showMoves x0 x1 = some r) :
    Calls Try.prog 86 [(.agg #[v0_0, v0_1, (.int .i64 x0.2.2.1), (.int .i64 x0.2.2.2)]), (.int .i64 x1)].toArray w0 fun e w' => ∃ (q0 : Value) (G0 : List Nat), e = .returned q0 ∧ Below w0.heap.size w0 w' ∧ Sep w0.heap.size w' [R.own ty_107 G0 q0 r] := by
  refine calls_mk' Try.func86 rfl Try.ntmps86 rfl rfl fun Q hQ hP => ?_
  have hB : Below w0.heap.size w0 w0 := Below.refl _ _
  have hS : Sep w0.heap.size w0 [] := Sep.nil _ _
  unfold F_impl_showMoves at hF
  refine W.seq fun K1 hK1 => ?_
  refine W.region ?_
  refine wl_box (cs := [v0_0, v0_1, (.int .i64 x0.2.2.1), (.int .i64 x0.2.2.2)]) rfl rfl rfl hB hS ?_
  intro b2 w3 hb4 hB5 hS6
  refine wl_assign rfl rfl ?_
  refine WL.nil ?_
  refine fun a ha => hK1 _ _ ?_ a ha
  refine W.seq fun K7 hK7 => ?_
  refine W.region ?_
  refine wl_lit (vs := []) (l := []) fl_107 Try.underlying102 rfl rfl rfl rfl rfl rfl hB5 hS6 ?_
  intro v8 F9 w10 hb11 hB12 hS13
  refine wl_assign rfl rfl ?_
  refine WL.nil ?_
  refine fun a ha => hK7 _ _ ?_ a ha
  refine W.seq fun K14 hK14 => ?_
  refine W.seq fun K15 hK15 => ?_
  refine W.region ?_
  refine wl_field (o := 0) (off' := 0) ff_30_0 rfl rfl rfl ?_
  refine wl_load_blk (i := 1) (vs := [v0_0]) (v := v0_0) tf_28 rfl rfl hS13 rfl rfl rfl ?_
  refine wl_move rfl rfl ?_
  obtain ⟨u16, hu16, hF⟩ := bindE hF
  refine wl_index (e := ty_109) Try.underlying28 rfl rfl rfl h0_0 hu16 ?_
  rintro p17 _ ⟨v19, rfl, hv20⟩ hp18
  refine wl_load_p (vs := [v19]) (v := v19) tf_109 rfl rfl (hp18.ro hB12) rfl rfl ?_
  refine wl_lenr (e := ty_105) (l := u16) Try.underlying109 rfl rfl hv20 ?_
  refine wl_move rfl rfl ?_
  refine WL.nil ?_
  refine fun a ha => hK15 _ _ ?_ a ha
  refine W.block ?_
  refine W.loopk (fun m a w21 => ∃ (l24 : (List ((Int × Int) × (Int × Int) × Int))) (y27 : Int) (v25 : Value) (F26 : List Nat), St 41 [(1, (.int .i64 x1)), (2, (.pointer (some ⟨b2, 0, none⟩))), (5, v25), (13, v19), (14, (.int .i64 (List.length u16 : Int))), (15, (.int .i64 y27))] a ∧ Below w0.heap.size w0 w21 ∧ Sep w0.heap.size w21 [R.blk b2 30 [v0_0, v0_1, (.int .i64 x0.2.2.1), (.int .i64 x0.2.2.2)], R.own ty_107 F26 v25 l24] ∧ F_impl_showMoves_L1 u16 x0 x1 m l24 y27 = some r) FU ?_ ?_
  ·
    exact fun a ha => ⟨[], 0, v8, F9, ha.sub ⟨rfl, rfl, rfl, rfl, rfl, rfl, trivial⟩, hB12, (hS13.sel [1, 0] rfl), hF⟩
  ·
    rintro m30 a w21 ⟨l24, y27, v25, F26, ha, hB22, hS23, hF⟩ KL29 hKL29
    refine W.at ?_ ha
    cases m30 with
    | zero => exact noneE hF
    | succ m30 =>
      obtain ⟨nx28, hnx28⟩ : ∃ k, k = F_impl_showMoves_L1 u16 x0 x1 m30 := ⟨_, rfl⟩
      rw [F_impl_showMoves_L1, ← hnx28] at hF
      refine W.seq fun K31 hK31 => ?_
      refine W.region ?_
      refine wl_lss rfl rfl rfl ?_
      refine WL.nil ?_
      refine fun a ha => hK31 _ _ ?_ a ha
      refine W.seq fun K32 hK32 => ?_
      refine W.cond rfl (fun h33 => ?_) (fun h33 => ?_)
      · replace hF := ifP h33 hF
        refine W.skip ?_
        refine fun a ha => hK32 _ _ ?_ a ha
        refine W.seq fun K34 hK34 => ?_
        refine W.block ?_
        refine W.seq fun K35 hK35 => ?_
        refine W.region ?_
        refine wl_move rfl rfl ?_
        obtain ⟨u36, hu36, hF⟩ := bindE hF
        refine wl_index (e := ty_105) Try.underlying109 rfl rfl rfl hv20 hu36 ?_
        rintro p37 _ rfl hp38
        refine wl_load_p (vs := [(.int .i64 u36.1), (.int .i64 u36.2)]) (v := (.agg #[(.int .i64 u36.1), (.int .i64 u36.2)])) tf_105 rfl rfl (hp38.ro hB22) rfl rfl ?_
        refine wl_alloc (cs := [(.int .i64 0), (.int .i64 0)]) tf_105 rfl rfl hB22 hS23 ?_
        intro b39 w40 hb41 hB42 hS43
        refine wl_assign rfl rfl ?_
        refine wl_store_blk (i := 0) (vs := [(.int .i64 u36.1), (.int .i64 u36.2)]) (cs' := [(.int .i64 u36.1), (.int .i64 u36.2)]) tf_105 rfl rfl rfl rfl hB42 hS43 rfl rfl ⟨rfl, rfl, trivial⟩ rfl ?_
        intro w44 hk47 hB45 hS46
        refine WL.nil ?_
        refine fun a ha => hK35 _ _ ?_ a ha
        refine W.regionH mixed_ F26 hB45 hS46 ?_
        intro w48 hb49 hB50 hS51
        have hSW52 := KeepX.refl w48 F26
        refine WH.takex (i := 0) rfl (by kernel_rfl) (by kernel_rfl) (by kernel_rfl) hP hSW52 ?_
        refine pr_move rfl rfl ?_
        refine WH.takex (i := 1) rfl (by kernel_rfl) (by kernel_rfl) (by kernel_rfl) hP hSW52 ?_
        refine pr_load_blk (i := 0) (vs := [(.int .i64 u36.1), (.int .i64 u36.2)]) (v := (.agg #[(.int .i64 u36.1), (.int .i64 u36.2)])) tf_105 rfl rfl hS51 rfl rfl rfl (hS51.disj (i := 0) (j := 2) rfl rfl rfl b39 (by simp [R.blk])) ?_
        refine WH.takex (i := 2) rfl (by kernel_rfl) (by kernel_rfl) (by kernel_rfl) hP hSW52 ?_
        refine pr_field (o := 0) (off' := 0) ff_30_0 rfl rfl rfl ?_
        refine WH.takex (i := 3) rfl (by kernel_rfl) (by kernel_rfl) (by kernel_rfl) hP hSW52 ?_
        refine pr_load_blk (i := 1) (vs := [v0_0]) (v := v0_0) tf_28 rfl rfl hS51 rfl rfl rfl (hS51.disj (i := 1) (j := 2) rfl rfl rfl b2 (by simp [R.blk])) ?_
        refine WH.takex (i := 4) rfl (by kernel_rfl) (by kernel_rfl) (by kernel_rfl) hP hSW52 ?_
        refine pr_move rfl rfl ?_
        refine WH.takex (i := 5) rfl (by kernel_rfl) (by kernel_rfl) (by kernel_rfl) hP hSW52 ?_
        refine pr_add rfl rfl rfl ?_
        obtain ⟨u53, hu53, hF⟩ := bindE hF
        refine WH.takex (i := 6) rfl (by kernel_rfl) (by kernel_rfl) (by kernel_rfl) hP hSW52 ?_
        refine pr_index (e := ty_109) Try.underlying28 rfl rfl rfl h0_0 hu53 ?_
        rintro p54 _ ⟨v56, rfl, hv57⟩ hp55
        refine WH.takex (i := 7) rfl (by kernel_rfl) (by kernel_rfl) (by kernel_rfl) hP hSW52 ?_
        refine pr_load_p (vs := [v56]) (v := v56) tf_109 rfl rfl (hp55.kx hB50 (fun b hb => ((hS51.get (i := 2) rfl).2.1 b hb).1)) rfl rfl ?_
        refine WH.takex (i := 8) rfl (by kernel_rfl) (by kernel_rfl) (by kernel_rfl) hP hSW52 ?_
        refine pr_move rfl rfl ?_
        obtain ⟨u58, hu58, hF⟩ := bindE hF
        refine WH.takex (i := 9) rfl (by kernel_rfl) (by kernel_rfl) (by kernel_rfl) hP hSW52 ?_
        refine pr_index (e := ty_105) Try.underlying109 rfl rfl rfl hv57 hu58 ?_
        rintro p59 _ rfl hp60
        refine WH.takex (i := 10) rfl (by kernel_rfl) (by kernel_rfl) (by kernel_rfl) hP hSW52 ?_
        refine pr_load_p (vs := [(.int .i64 u58.1), (.int .i64 u58.2)]) (v := (.agg #[(.int .i64 u58.1), (.int .i64 u58.2)])) tf_105 rfl rfl (hp60.kx hB50 (fun b hb => ((hS51.get (i := 2) rfl).2.1 b hb).1)) rfl rfl ?_
        refine WH.takex (i := 11) rfl (by kernel_rfl) (by kernel_rfl) (by kernel_rfl) hP hSW52 ?_
        refine pr_field (o := 1) (off' := 1) ff_30_1 rfl rfl rfl ?_
        refine WH.takex (i := 12) rfl (by kernel_rfl) (by kernel_rfl) (by kernel_rfl) hP hSW52 ?_
        refine pr_load_blk (i := 1) (vs := [v0_1]) (v := v0_1) tf_23 rfl rfl hS51 rfl rfl rfl (hS51.disj (i := 1) (j := 2) rfl rfl rfl b2 (by simp [R.blk])) ?_
        refine WH.takex (i := 13) rfl (by kernel_rfl) (by kernel_rfl) (by kernel_rfl) hP hSW52 ?_
        refine pr_move rfl rfl ?_
        obtain ⟨u61, hu61, hF⟩ := bindE hF
        refine WH.takex (i := 14) rfl (by kernel_rfl) (by kernel_rfl) (by kernel_rfl) hP hSW52 ?_
        refine pr_index (e := ty_3) Try.underlying23 rfl rfl rfl h0_1 hu61 ?_
        rintro p62 _ rfl hp63
        refine WH.takex (i := 15) rfl (by kernel_rfl) (by kernel_rfl) (by kernel_rfl) hP hSW52 ?_
        refine pr_load_p (vs := [(.int .i64 u61)]) (v := (.int .i64 u61)) tf_3 rfl rfl (hp63.kx hB50 (fun b hb => ((hS51.get (i := 2) rfl).2.1 b hb).1)) rfl rfl ?_
        refine WH.takex (i := 16) rfl (by kernel_rfl) (by kernel_rfl) (by kernel_rfl) hP hSW52 ?_
        refine pr_build (zs := [(.int .i64 0), (.int .i64 0), (.int .i64 0), (.int .i64 0), (.int .i64 0)]) (out := [(.int .i64 u36.1), (.int .i64 u36.2), (.int .i64 u58.1), (.int .i64 u58.2), (.int .i64 u61)]) (vs := [(.agg #[(.int .i64 u36.1), (.int .i64 u36.2)]), (.agg #[(.int .i64 u58.1), (.int .i64 u58.2)]), (.int .i64 u61)]) (css := [[(.int .i64 u36.1), (.int .i64 u36.2)], [(.int .i64 u58.1), (.int .i64 u58.2)], [(.int .i64 u61)]]) tf_107 pl_107 rfl rfl rfl rfl rfl ?_
        refine WH.one (i := 17) (by kernel_rfl) rfl ?_
        refine wl_lit (vs := [(.agg #[(.int .i64 u36.1), (.int .i64 u36.2), (.int .i64 u58.1), (.int .i64 u58.2), (.int .i64 u61)])]) (l := [(u36, u58, u61)]) fl_107 Try.underlying102 rfl rfl rfl rfl rfl rfl hB50 hS51 ?_
        intro v64 F65 w66 hb67 hB68 hS69
        have hSW70 := hSW52.ext hb67
        have hbS71 : Below w48.heap.size w48 w66 := hb67
        refine WL.nil (WH.ret hSW70 ?_)
        refine WH.one (i := 18) (by kernel_rfl) rfl ?_
        obtain ⟨u72, hu72, hF⟩ := bindE hF
        refine wl_append (i := 3) (S := (· < w66.heap.size)) fl_107 Try.underlying102 rfl rfl rfl hB68 hS69 rfl (hS69.own_ro (i := 0) rfl) hu72 ?_
        intro v73 F74 w75 hk76 hB77 hS78
        have hSW79 := hSW70.wr hk76 (fun _ _ h => h)
        refine WL.nil (WH.ret hSW79 ?_)
        refine WH.takex (i := 19) rfl (by kernel_rfl) (by kernel_rfl) (by kernel_rfl) hP hSW79 ?_
        refine pr_assign rfl rfl ?_
        refine WH.done (by kernel_rfl) ?_
        refine fun a ha => hK34 _ _ ?_ a ha
        refine W.region ?_
        refine wl_add rfl rfl rfl ?_
        refine wl_move rfl rfl ?_
        refine WL.nil ?_
        rw [hnx28] at hF
        exact fun a ha => hKL29 a _ m30 (Nat.lt_succ_self m30) ⟨u72, (w64 (y27 + 1)), v73, F74, ha.sub ⟨rfl, rfl, rfl, rfl, rfl, rfl, trivial⟩, hB77, (hS78.sel [2, 3] rfl), hF⟩
      · replace hF := ifN h33 hF
        refine W.exit ?_
        refine fun a ha => hK14 _ _ ?_ a ha
        refine W.seq fun K80 hK80 => ?_
        refine W.region ?_
        refine wl_move rfl rfl ?_
        refine wl_assign rfl rfl ?_
        refine WL.nil ?_
        refine fun a ha => hK80 _ _ ?_ a ha
        refine W.ret ?_
        have hr := Option.some.inj hF
        subst hr
        exact rets (vs := [v25]) hQ rfl ⟨rv_tmp rfl, trivial⟩ ⟨v25, F26, rfl, hB22, hS23.sel [1] rfl⟩
theorem C_impl_squareOf (w0 : World) (x0 : (Int × Int)) (x1 : (Int × Int)) (r : Int) (hF : F_impl_squareOf x0 x1 = some r) :
    Calls Try.prog 87 [(.agg #[(.int .i64 x0.1), (.int .i64 x0.2)]), (.agg #[(.int .i64 x1.1), (.int .i64 x1.2)])].toArray w0 fun e w' => e = .returned (.int .i64 r) ∧ Below w0.heap.size w0 w' := by
  refine calls_mk' Try.func87 rfl Try.ntmps87 rfl rfl fun Q hQ hP => ?_
  have hB : Below w0.heap.size w0 w0 := Below.refl _ _
  have hS : Sep w0.heap.size w0 [] := Sep.nil _ _
  unfold F_impl_squareOf at hF
  refine W.seq fun K1 hK1 => ?_
  refine W.region ?_
  refine wl_box (cs := [(.int .i64 x0.1), (.int .i64 x0.2)]) rfl rfl rfl hB hS ?_
  intro b2 w3 hb4 hB5 hS6
  refine wl_box (cs := [(.int .i64 x1.1), (.int .i64 x1.2)]) rfl rfl rfl hB5 hS6 ?_
  intro b7 w8 hb9 hB10 hS11
  refine wl_assign rfl rfl ?_
  refine WL.nil ?_
  refine fun a ha => hK1 _ _ ?_ a ha
  refine W.seq fun K12 hK12 => ?_
  refine W.region ?_
  refine wl_field (o := 0) (off' := 0) ff_105_0 rfl rfl rfl ?_
  refine wl_load_blk (i := 1) (vs := [(.int .i64 x0.1)]) (v := (.int .i64 x0.1)) tf_3 rfl rfl hS11 rfl rfl rfl ?_
  refine wl_field (o := 0) (off' := 0) ff_105_0 rfl rfl rfl ?_
  refine wl_load_blk (i := 0) (vs := [(.int .i64 x1.1)]) (v := (.int .i64 x1.1)) tf_3 rfl rfl hS11 rfl rfl rfl ?_
  refine wl_sub rfl rfl rfl ?_
  refine wl_field (o := 0) (off' := 0) ff_105_0 rfl rfl rfl ?_
  refine wl_load_blk (i := 1) (vs := [(.int .i64 x0.1)]) (v := (.int .i64 x0.1)) tf_3 rfl rfl hS11 rfl rfl rfl ?_
  refine wl_field (o := 0) (off' := 0) ff_105_0 rfl rfl rfl ?_
  refine wl_load_blk (i := 0) (vs := [(.int .i64 x1.1)]) (v := (.int .i64 x1.1)) tf_3 rfl rfl hS11 rfl rfl rfl ?_
  refine wl_sub rfl rfl rfl ?_
  refine wl_mul rfl rfl rfl ?_
  refine wl_field (o := 1) (off' := 1) ff_105_1 rfl rfl rfl ?_
  refine wl_load_blk (i := 1) (vs := [(.int .i64 x0.2)]) (v := (.int .i64 x0.2)) tf_3 rfl rfl hS11 rfl rfl rfl ?_
  refine wl_field (o := 1) (off' := 1) ff_105_1 rfl rfl rfl ?_
  refine wl_load_blk (i := 0) (vs := [(.int .i64 x1.2)]) (v := (.int .i64 x1.2)) tf_3 rfl rfl hS11 rfl rfl rfl ?_
  refine wl_sub rfl rfl rfl ?_
  refine wl_field (o := 1) (off' := 1) ff_105_1 rfl rfl rfl ?_
  refine wl_load_blk (i := 1) (vs := [(.int .i64 x0.2)]) (v := (.int .i64 x0.2)) tf_3 rfl rfl hS11 rfl rfl rfl ?_
  refine wl_field (o := 1) (off' := 1) ff_105_1 rfl rfl rfl ?_
  refine wl_load_blk (i := 0) (vs := [(.int .i64 x1.2)]) (v := (.int .i64 x1.2)) tf_3 rfl rfl hS11 rfl rfl rfl ?_
  refine wl_sub rfl rfl rfl ?_
  refine wl_mul rfl rfl rfl ?_
  refine wl_add rfl rfl rfl ?_
  refine wl_assign rfl rfl ?_
  refine WL.nil ?_
  refine fun a ha => hK12 _ _ ?_ a ha
  refine W.ret ?_
  have hr := Option.some.inj hF
  subst hr
  exact rets (vs := [(.int .i64 (w64 ((w64 ((w64 (x0.1 - x1.1)) * (w64 (x0.1 - x1.1)))) + (w64 ((w64 (x0.2 - x1.2)) * (w64 (x0.2 - x1.2)))))))]) hQ rfl ⟨rv_tmp rfl, trivial⟩ ⟨rfl, hB10⟩
theorem C_impl_WidestPart (w0 : World) (x0 : ((List (List (Int × Int))) × (List Int) × Int × Int)) (v0_0 : Value) (h0_0 : rdS ty_109 (· < w0.heap.size) w0 v0_0 x0.1) (v0_1 : Value) (h0_1 : rdS ty_3 (· < w0.heap.size) w0 v0_1 x0.2.1) (r : (Int × Int × Bool)) (hF : F_impl_WidestPart x0 = some r) :
    Calls Try.prog 40 [(.agg #[v0_0, v0_1, (.int .i64 x0.2.2.1), (.int .i64 x0.2.2.2)])].toArray w0 fun e w' => e = .returned (.tuple #[(.int .i64 r.1), (.int .i64 r.2.1), (.bool r.2.2)]) ∧ Below w0.heap.size w0 w' := by
  refine calls_mk' Try.func40 rfl Try.ntmps40 rfl rfl fun Q hQ hP => ?_
  have hB : Below w0.heap.size w0 w0 := Below.refl _ _
  have hS : Sep w0.heap.size w0 [] := Sep.nil _ _
  unfold F_impl_WidestPart at hF
  refine W.seq fun K1 hK1 => ?_
  refine W.region ?_
  refine wl_box (cs := [v0_0, v0_1, (.int .i64 x0.2.2.1), (.int .i64 x0.2.2.2)]) rfl rfl rfl hB hS ?_
  intro b2 w3 hb4 hB5 hS6
  refine wl_assign rfl rfl ?_
  refine wl_assign rfl rfl ?_
  refine wl_assign rfl rfl ?_
  refine WL.nil ?_
  refine fun a ha => hK1 _ _ ?_ a ha
  refine W.seq fun K7 hK7 => ?_
  refine W.seq fun K8 hK8 => ?_
  refine W.region ?_
  refine wl_load_blk (i := 0) (vs := [v0_0, v0_1, (.int .i64 x0.2.2.1), (.int .i64 x0.2.2.2)]) (v := (.agg #[v0_0, v0_1, (.int .i64 x0.2.2.1), (.int .i64 x0.2.2.2)])) tf_30 rfl rfl hS6 rfl rfl rfl ?_
  obtain ⟨u9, hu9, hF⟩ := bindE hF
  refine wl_call rfl Try.call18 (C_impl_IsShow w3 x0 v0_0 (h0_0.ro hB5) v0_1 (h0_1.ro hB5) _ hu9) rfl ?_
  rintro _ w10 ⟨rfl, hb11⟩
  refine ⟨_, rfl, ?_⟩
  have hB12 := hB5.trans (hb11.mono hB5.size)
  have hS13 := hS6.below hb11
  refine wl_not rfl rfl ?_
  refine WL.nil ?_
  refine fun a ha => hK8 _ _ ?_ a ha
  refine W.cond rfl (fun h15 => ?_) (fun h15 => ?_)
  · replace hF := ifP h15 hF
    refine W.seq fun K16 hK16 => ?_
    refine W.region ?_
    refine wl_assign rfl rfl ?_
    refine wl_assign rfl rfl ?_
    refine wl_assign rfl rfl ?_
    refine WL.nil ?_
    refine fun a ha => hK16 _ _ ?_ a ha
    refine W.ret ?_
    have hr := Option.some.inj hF
    subst hr
    exact rets (vs := [(.int .i64 0), (.int .i64 0), (.bool false)]) hQ rfl ⟨rv_tmp rfl, rv_tmp rfl, rv_tmp rfl, trivial⟩ ⟨rfl, hB12⟩
  · replace hF := ifN h15 hF
    refine W.skip ?_
    refine fun a ha => hK7 _ _ ?_ a ha
    refine W.seq fun K17 hK17 => ?_
    refine W.region ?_
    refine wl_assign rfl rfl ?_
    refine wl_assign rfl rfl ?_
    refine WL.nil ?_
    refine fun a ha => hK17 _ _ ?_ a ha
    refine W.seq fun K18 hK18 => ?_
    refine W.seq fun K19 hK19 => ?_
    refine W.region ?_
    refine wl_field (o := 1) (off' := 1) ff_30_1 rfl rfl rfl ?_
    refine wl_load_blk (i := 0) (vs := [v0_1]) (v := v0_1) tf_23 rfl rfl hS13 rfl rfl rfl ?_
    refine wl_lenr (e := ty_3) (l := x0.2.1) Try.underlying23 rfl rfl h0_1 ?_
    refine wl_move rfl rfl ?_
    refine WL.nil ?_
    refine fun a ha => hK19 _ _ ?_ a ha
    refine W.block ?_
    refine W.loopk (fun m a w20 => ∃ (y23 : Int) (y24 : Int) (y25 : Int), St 44 [(1, (.pointer (some ⟨b2, 0, none⟩))), (5, (.int .i64 y23)), (6, (.int .i64 y24)), (16, (.int .i64 (List.length x0.2.1 : Int))), (17, (.int .i64 y25))] a ∧ Below w0.heap.size w0 w20 ∧ Sep w0.heap.size w20 [R.blk b2 30 [v0_0, v0_1, (.int .i64 x0.2.2.1), (.int .i64 x0.2.2.2)]] ∧ F_impl_WidestPart_L1 x0 m y23 y24 y25 = some r) FU ?_ ?_
    ·
      exact fun a ha => ⟨0, (-1), 0, ha.sub ⟨rfl, rfl, rfl, rfl, rfl, trivial⟩, hB12, (hS13.sel [0] rfl), hF⟩
    ·
      rintro m28 a w20 ⟨y23, y24, y25, ha, hB21, hS22, hF⟩ KL27 hKL27
      refine W.at ?_ ha
      cases m28 with
      | zero => exact noneE hF
      | succ m28 =>
        obtain ⟨nx26, hnx26⟩ : ∃ k, k = F_impl_WidestPart_L1 x0 m28 := ⟨_, rfl⟩
        rw [F_impl_WidestPart_L1, ← hnx26] at hF
        refine W.seq fun K29 hK29 => ?_
        refine W.region ?_
        refine wl_lss rfl rfl rfl ?_
        refine WL.nil ?_
        refine fun a ha => hK29 _ _ ?_ a ha
        refine W.seq fun K30 hK30 => ?_
        refine W.cond rfl (fun h31 => ?_) (fun h31 => ?_)
        · replace hF := ifP h31 hF
          refine W.skip ?_
          refine fun a ha => hK30 _ _ ?_ a ha
          refine W.seq fun K32 hK32 => ?_
          obtain ⟨k38, hk38, hF⟩ := jE2 hF
          have hJ39 : ∀ (y36 : Int) (y37 : Int) (w33 : World) (_ : k38 y36 y37 = some r) (_ : Below w0.heap.size w0 w33) (_ : Sep w0.heap.size w33 [R.blk b2 30 [v0_0, v0_1, (.int .i64 x0.2.2.1), (.int .i64 x0.2.2.2)]]), ∀ a, St 44 [(1, (.pointer (some ⟨b2, 0, none⟩))), (5, (.int .i64 y36)), (6, (.int .i64 y37)), (16, (.int .i64 (List.length x0.2.1 : Int))), (17, (.int .i64 y25))] a → K32 a w33 := by
            intro y36 y37 w33 hF hB34 hS35
            subst hk38
            refine fun a ha => hK32 _ _ ?_ a ha
            refine W.region ?_
            refine wl_add rfl rfl rfl ?_
            refine wl_move rfl rfl ?_
            refine WL.nil ?_
            rw [hnx26] at hF
            exact fun a ha => hKL27 a _ m28 (Nat.lt_succ_self m28) ⟨y36, y37, (w64 (y25 + 1)), ha.sub ⟨rfl, rfl, rfl, rfl, rfl, trivial⟩, hB34, (hS35.sel [0] rfl), hF⟩
          refine W.block ?_
          refine W.seq fun K40 hK40 => ?_
          refine W.region ?_
          refine wl_move rfl rfl ?_
          refine wl_assign rfl rfl ?_
          refine WL.nil ?_
          refine fun a ha => hK40 _ _ ?_ a ha
          refine W.seq fun K41 hK41 => ?_
          refine W.region ?_
          refine wl_assign rfl rfl ?_
          refine WL.nil ?_
          refine fun a ha => hK41 _ _ ?_ a ha
          refine W.seq fun K42 hK42 => ?_
          refine W.seq fun K43 hK43 => ?_
          refine W.region ?_
          refine wl_load_blk (i := 0) (vs := [v0_0, v0_1, (.int .i64 x0.2.2.1), (.int .i64 x0.2.2.2)]) (v := (.agg #[v0_0, v0_1, (.int .i64 x0.2.2.1), (.int .i64 x0.2.2.2)])) tf_30 rfl rfl hS22 rfl rfl rfl ?_
          refine wl_move rfl rfl ?_
          obtain ⟨u44, hu44, hF⟩ := bindE hF
          refine wl_call rfl Try.call86 (C_impl_showMoves w20 x0 v0_0 (h0_0.ro hB21) v0_1 (h0_1.ro hB21) y25 _ hu44) rfl ?_
          rintro _ w47 ⟨v45, F46, rfl, hb48, hM51⟩
          refine ⟨_, rfl, ?_⟩
          have hB49 := hB21.trans (hb48.mono hB21.size)
          have hS50 := hS22.join hb48 hM51 hB21.size
          refine wl_lenr (e := ty_107) (l := u44) Try.underlying102 rfl rfl (hS50.own_ro (i := 0) rfl) ?_
          refine wl_move rfl rfl ?_
          refine WL.nil ?_
          refine fun a ha => hK43 _ _ ?_ a ha
          refine W.block ?_
          refine W.loopk (fun m a w52 => ∃ (y55 : Int) (y56 : Int), St 44 [(1, (.pointer (some ⟨b2, 0, none⟩))), (5, (.int .i64 y23)), (6, (.int .i64 y24)), (7, (.int .i64 y25)), (8, (.int .i64 y55)), (16, (.int .i64 (List.length x0.2.1 : Int))), (17, (.int .i64 y25)), (22, v45), (23, (.int .i64 (List.length u44 : Int))), (24, (.int .i64 y56))] a ∧ Below w0.heap.size w0 w52 ∧ Sep w0.heap.size w52 [R.blk b2 30 [v0_0, v0_1, (.int .i64 x0.2.2.1), (.int .i64 x0.2.2.2)], R.own ty_107 F46 v45 u44] ∧ F_impl_WidestPart_L2 u44 y24 k38 y25 y23 m y55 y56 = some r) FU ?_ ?_
          ·
            exact fun a ha => ⟨0, 0, ha.sub ⟨rfl, rfl, rfl, rfl, rfl, rfl, rfl, rfl, rfl, rfl, trivial⟩, hB49, (hS50.sel [1, 0] rfl), hF⟩
          ·
            rintro m59 a w52 ⟨y55, y56, ha, hB53, hS54, hF⟩ KL58 hKL58
            refine W.at ?_ ha
            cases m59 with
            | zero => exact noneE hF
            | succ m59 =>
              obtain ⟨nx57, hnx57⟩ : ∃ k, k = F_impl_WidestPart_L2 u44 y24 k38 y25 y23 m59 := ⟨_, rfl⟩
              rw [F_impl_WidestPart_L2, ← hnx57] at hF
              refine W.seq fun K60 hK60 => ?_
              refine W.region ?_
              refine wl_lss rfl rfl rfl ?_
              refine WL.nil ?_
              refine fun a ha => hK60 _ _ ?_ a ha
              refine W.seq fun K61 hK61 => ?_
              refine W.cond rfl (fun h62 => ?_) (fun h62 => ?_)
              · replace hF := ifP h62 hF
                refine W.skip ?_
                refine fun a ha => hK61 _ _ ?_ a ha
                refine W.seq fun K63 hK63 => ?_
                refine W.block ?_
                refine W.seq fun K64 hK64 => ?_
                refine W.region ?_
                obtain ⟨u65, hu65, hF⟩ := bindE hF
                refine wl_indexo (e := ty_107) (i := 1) Try.underlying102 rfl rfl rfl hS54 rfl hu65 ?_
                rintro p66 _ rfl hp67 ho68
                refine wl_load_p (vs := [(.int .i64 u65.1.1), (.int .i64 u65.1.2), (.int .i64 u65.2.1.1), (.int .i64 u65.2.1.2), (.int .i64 u65.2.2)]) (v := (.agg #[(.int .i64 u65.1.1), (.int .i64 u65.1.2), (.int .i64 u65.2.1.1), (.int .i64 u65.2.1.2), (.int .i64 u65.2.2)])) tf_107 rfl rfl hp67 rfl rfl ?_
                refine wl_alloc (cs := [(.int .i64 0), (.int .i64 0), (.int .i64 0), (.int .i64 0), (.int .i64 0)]) tf_107 rfl rfl hB53 hS54 ?_
                intro b69 w70 hb71 hB72 hS73
                refine wl_store_blk (i := 0) (vs := [(.int .i64 u65.1.1), (.int .i64 u65.1.2), (.int .i64 u65.2.1.1), (.int .i64 u65.2.1.2), (.int .i64 u65.2.2)]) (cs' := [(.int .i64 u65.1.1), (.int .i64 u65.1.2), (.int .i64 u65.2.1.1), (.int .i64 u65.2.1.2), (.int .i64 u65.2.2)]) tf_107 rfl rfl rfl rfl hB72 hS73 rfl rfl ⟨rfl, rfl, rfl, rfl, rfl, trivial⟩ rfl ?_
                intro w74 hk77 hB75 hS76
                refine WL.nil ?_
                refine fun a ha => hK64 _ _ ?_ a ha
                refine W.region ?_
                refine wl_move rfl rfl ?_
                refine wl_field (o := 0) (off' := 0) ff_107_0 rfl rfl rfl ?_
                refine wl_load_blk (i := 0) (vs := [(.int .i64 u65.1.1), (.int .i64 u65.1.2)]) (v := (.agg #[(.int .i64 u65.1.1), (.int .i64 u65.1.2)])) tf_105 rfl rfl hS76 rfl rfl rfl ?_
                refine wl_field (o := 2) (off' := 2) ff_107_1 rfl rfl rfl ?_
                refine wl_load_blk (i := 0) (vs := [(.int .i64 u65.2.1.1), (.int .i64 u65.2.1.2)]) (v := (.agg #[(.int .i64 u65.2.1.1), (.int .i64 u65.2.1.2)])) tf_105 rfl rfl hS76 rfl rfl rfl ?_
                obtain ⟨u78, hu78, hF⟩ := bindE hF
                refine wl_call rfl Try.call87 (C_impl_squareOf w74 u65.1 u65.2.1 _ hu78) rfl ?_
                rintro _ w79 ⟨rfl, hb80⟩
                refine ⟨_, rfl, ?_⟩
                have hB81 := hB75.trans (hb80.mono hB75.size)
                have hS82 := hS76.below hb80
                refine wl_add rfl rfl rfl ?_
                refine wl_assign rfl rfl ?_
                refine WL.nil ?_
                refine fun a ha => hK63 _ _ ?_ a ha
                refine W.region ?_
                refine wl_add rfl rfl rfl ?_
                refine wl_move rfl rfl ?_
                refine WL.nil ?_
                rw [hnx57] at hF
                exact fun a ha => hKL58 a _ m59 (Nat.lt_succ_self m59) ⟨(w64 (y55 + u78)), (w64 (y56 + 1)), ha.sub ⟨rfl, rfl, rfl, rfl, rfl, rfl, rfl, rfl, rfl, rfl, trivial⟩, hB81, (hS82.sel [1, 2] rfl), hF⟩
              · replace hF := ifN h62 hF
                refine W.exit ?_
                refine fun a ha => hK42 _ _ ?_ a ha
                refine W.seq fun K84 hK84 => ?_
                refine W.region ?_
                refine wl_move rfl rfl ?_
                refine wl_move rfl rfl ?_
                refine wl_gtr rfl rfl rfl ?_
                refine WL.nil ?_
                refine fun a ha => hK84 _ _ ?_ a ha
                refine W.cond rfl (fun h85 => ?_) (fun h85 => ?_)
                · replace hF := ifP h85 hF
                  refine W.region ?_
                  refine wl_move rfl rfl ?_
                  refine wl_move rfl rfl ?_
                  refine wl_assign rfl rfl ?_
                  refine wl_assign rfl rfl ?_
                  refine WL.nil ?_
                  exact fun a ha => hJ39 (y25) (y55) _ hF hB53 (hS54.sel [0] rfl) a (ha.sub ⟨rfl, rfl, rfl, rfl, rfl, trivial⟩)
                · replace hF := ifN h85 hF
                  refine W.skip ?_
                  exact fun a ha => hJ39 (y23) (y24) _ hF hB53 (hS54.sel [0] rfl) a (ha.sub ⟨rfl, rfl, rfl, rfl, rfl, trivial⟩)
        · replace hF := ifN h31 hF
          refine W.exit ?_
          refine fun a ha => hK18 _ _ ?_ a ha
          refine W.seq fun K86 hK86 => ?_
          refine W.region ?_
          refine wl_move rfl rfl ?_
          refine wl_move rfl rfl ?_
          refine wl_assign rfl rfl ?_
          refine wl_assign rfl rfl ?_
          refine wl_assign rfl rfl ?_
          refine WL.nil ?_
          refine fun a ha => hK86 _ _ ?_ a ha
          refine W.ret ?_
          have hr := Option.some.inj hF
          subst hr
          exact rets (vs := [(.int .i64 y23), (.int .i64 y24), (.bool true)]) hQ rfl ⟨rv_tmp rfl, rv_tmp rfl, rv_tmp rfl, trivial⟩ ⟨rfl, hB21⟩
theorem C_laws_FnExactWidestPart (w0 : World) (x0 : ((List (List (Int × Int))) × (List Int) × Int × Int)) (v0_0 : Value) (h0_0 : rdS ty_119 (· < w0.heap.size) w0 v0_0 x0.1) (v0_1 : Value) (h0_1 : rdS ty_3 (· < w0.heap.size) w0 v0_1 x0.2.1) (r : Bool) (hF : F_laws_FnExactWidestPart x0 = some r) :
    Calls Try.prog 8 [(.agg #[v0_0, v0_1, (.int .i64 x0.2.2.1), (.int .i64 x0.2.2.2)])].toArray w0 fun e w' => e = .returned (.bool r) ∧ Below w0.heap.size w0 w' := by
  refine calls_mk' Try.func8 rfl Try.ntmps8 rfl rfl fun Q hQ hP => ?_
  have hB : Below w0.heap.size w0 w0 := Below.refl _ _
  have hS : Sep w0.heap.size w0 [] := Sep.nil _ _
  unfold F_laws_FnExactWidestPart at hF
  refine W.seq fun K1 hK1 => ?_
  refine W.region ?_
  refine wl_box (cs := [v0_0, v0_1, (.int .i64 x0.2.2.1), (.int .i64 x0.2.2.2)]) rfl rfl rfl hB hS ?_
  intro b2 w3 hb4 hB5 hS6
  refine wl_assign rfl rfl ?_
  refine WL.nil ?_
  refine fun a ha => hK1 _ _ ?_ a ha
  refine W.seq fun K7 hK7 => ?_
  refine W.region ?_
  refine wl_assign rfl rfl ?_
  refine WL.nil ?_
  refine fun a ha => hK7 _ _ ?_ a ha
  refine W.seq fun K8 hK8 => ?_
  refine W.region ?_
  refine wl_load_blk (i := 0) (vs := [v0_0, v0_1, (.int .i64 x0.2.2.1), (.int .i64 x0.2.2.2)]) (v := (.agg #[v0_0, v0_1, (.int .i64 x0.2.2.1), (.int .i64 x0.2.2.2)])) tf_25 rfl rfl hS6 rfl rfl rfl ?_
  refine wl_move rfl rfl ?_
  obtain ⟨u9, hu9, hF⟩ := bindE hF
  refine wl_call rfl Try.call15 (C_laws_szShow w3 x0 v0_0 (h0_0.ro hB5) v0_1 (h0_1.ro hB5) 1048576 _ hu9) rfl ?_
  rintro _ w10 ⟨rfl, hb11⟩
  refine ⟨_, rfl, ?_⟩
  have hB12 := hB5.trans (hb11.mono hB5.size)
  have hS13 := hS6.below hb11
  refine wl_assign rfl rfl ?_
  refine WL.nil ?_
  refine fun a ha => hK8 _ _ ?_ a ha
  refine W.seq fun K15 hK15 => ?_
  refine W.seq fun K16 hK16 => ?_
  refine W.region ?_
  refine wl_move rfl rfl ?_
  refine wl_lss rfl rfl rfl ?_
  refine WL.nil ?_
  refine fun a ha => hK16 _ _ ?_ a ha
  refine W.cond rfl (fun h17 => ?_) (fun h17 => ?_)
  · replace hF := ifP h17 hF
    refine W.seq fun K18 hK18 => ?_
    refine W.region ?_
    refine wl_assign rfl rfl ?_
    refine WL.nil ?_
    refine fun a ha => hK18 _ _ ?_ a ha
    refine W.ret ?_
    have hr := Option.some.inj hF
    subst hr
    exact rets (vs := [(.bool true)]) hQ rfl ⟨rv_tmp rfl, trivial⟩ ⟨rfl, hB12⟩
  · replace hF := ifN h17 hF
    refine W.skip ?_
    refine fun a ha => hK15 _ _ ?_ a ha
    refine W.seq fun K19 hK19 => ?_
    refine W.region ?_
    refine wl_load_blk (i := 0) (vs := [v0_0, v0_1, (.int .i64 x0.2.2.1), (.int .i64 x0.2.2.2)]) (v := (.agg #[v0_0, v0_1, (.int .i64 x0.2.2.1), (.int .i64 x0.2.2.2)])) tf_25 rfl rfl hS13 rfl rfl rfl ?_
    obtain ⟨u20, hu20, hF⟩ := bindE hF
    refine wl_call rfl Try.call17 (C_laws_toShow w10 x0 v0_0 (h0_0.ro hB12) v0_1 (h0_1.ro hB12) _ hu20) rfl ?_
    rintro _ w25 ⟨v21, F22, v23, F24, rfl, hb26, hM29⟩
    refine ⟨_, rfl, ?_⟩
    have hB27 := hB12.trans (hb26.mono hB12.size)
    have hS28 := hS13.join hb26 hM29 hB12.size
    obtain ⟨u30, hu30, hF⟩ := bindE hF
    refine wl_call rfl Try.call39 (C_spec_WidestPart w25 u20 v21 (hS28.own_ro (i := 0) rfl) v23 (hS28.own_ro (i := 1) rfl) _ hu30) rfl ?_
    rintro _ w31 ⟨rfl, hb32⟩
    refine ⟨_, rfl, ?_⟩
    have hB33 := hB27.trans (hb32.mono hB27.size)
    have hS34 := hS28.below hb32
    refine wl_move rfl rfl ?_
    refine wl_extract rfl rfl rfl ?_
    refine wl_extract rfl rfl rfl ?_
    refine wl_extract rfl rfl rfl ?_
    refine wl_assign rfl rfl ?_
    refine wl_assign rfl rfl ?_
    refine wl_assign rfl rfl ?_
    refine WL.nil ?_
    refine fun a ha => hK19 _ _ ?_ a ha
    refine W.seq fun K36 hK36 => ?_
    refine W.region ?_
    refine wl_load_blk (i := 2) (vs := [v0_0, v0_1, (.int .i64 x0.2.2.1), (.int .i64 x0.2.2.2)]) (v := (.agg #[v0_0, v0_1, (.int .i64 x0.2.2.1), (.int .i64 x0.2.2.2)])) tf_25 rfl rfl hS34 rfl rfl rfl ?_
    obtain ⟨u37, hu37, hF⟩ := bindE hF
    refine wl_call rfl Try.call17 (C_laws_toShow w31 x0 v0_0 (h0_0.ro hB33) v0_1 (h0_1.ro hB33) _ hu37) rfl ?_
    rintro _ w42 ⟨v38, F39, v40, F41, rfl, hb43, hM46⟩
    refine ⟨_, rfl, ?_⟩
    have hB44 := hB33.trans (hb43.mono hB33.size)
    have hS45 := hS34.join hb43 hM46 hB33.size
    refine wl_alloc (cs := [(.slice none 0 0), (.slice none 0 0), (.int .i64 0), (.int .i64 0)]) tf_30 rfl rfl hB44 hS45 ?_
    intro b47 w48 hb49 hB50 hS51
    refine wl_store_blk (i := 0) (vs := [v38, v40, (.int .i64 u37.2.2.1), (.int .i64 u37.2.2.2)]) (cs' := [v38, v40, (.int .i64 u37.2.2.1), (.int .i64 u37.2.2.2)]) tf_30 rfl rfl rfl rfl hB50 hS51 rfl rfl ⟨(hS51.own_ro (i := 1) rfl).one, (hS51.own_ro (i := 2) rfl).one, rfl, rfl, trivial⟩ rfl ?_
    intro w52 hk55 hB53 hS54
    refine WL.nil ?_
    refine fun a ha => hK36 _ _ ?_ a ha
    refine W.seq fun K56 hK56 => ?_
    refine W.region ?_
    refine wl_load_blk (i := 0) (vs := [v38, v40, (.int .i64 u37.2.2.1), (.int .i64 u37.2.2.2)]) (v := (.agg #[v38, v40, (.int .i64 u37.2.2.1), (.int .i64 u37.2.2.2)])) tf_30 rfl rfl hS54 rfl rfl rfl ?_
    obtain ⟨u57, hu57, hF⟩ := bindE hF
    refine wl_call rfl Try.call40 (C_impl_WidestPart w52 u37 v38 (hS54.own_ro (i := 1) rfl) v40 (hS54.own_ro (i := 2) rfl) _ hu57) rfl ?_
    rintro _ w58 ⟨rfl, hb59⟩
    refine ⟨_, rfl, ?_⟩
    have hB60 := hB53.trans (hb59.mono hB53.size)
    have hS61 := hS54.below hb59
    refine wl_move rfl rfl ?_
    refine wl_extract rfl rfl rfl ?_
    refine wl_extract rfl rfl rfl ?_
    refine wl_extract rfl rfl rfl ?_
    refine wl_assign rfl rfl ?_
    refine wl_assign rfl rfl ?_
    refine wl_assign rfl rfl ?_
    refine WL.nil ?_
    refine fun a ha => hK56 _ _ ?_ a ha
    refine W.seq fun K63 hK63 => ?_
    refine W.seq fun K64 hK64 => ?_
    obtain ⟨k69, hk69, hF⟩ := jE1 hF
    have hJ70 : ∀ (y68 : Bool) (w65 : World) (_ : k69 y68 = some r) (_ : Below w0.heap.size w0 w65) (_ : Sep w0.heap.size w65 [R.blk b2 25 [v0_0, v0_1, (.int .i64 x0.2.2.1), (.int .i64 x0.2.2.2)], R.own ty_109 F39 v38 u37.1, R.own ty_3 F41 v40 u37.2.1, R.blk b47 30 [v38, v40, (.int .i64 u37.2.2.1), (.int .i64 u37.2.2.2)]]), ∀ a, St 49 [(1, (.pointer (some ⟨b2, 0, none⟩))), (7, (.pointer (some ⟨b47, 0, none⟩))), (43, (.bool y68))] a → K64 a w65 := by
      intro y68 w65 hF hB66 hS67
      subst hk69
      refine fun a ha => hK64 _ _ ?_ a ha
      refine W.cond rfl (fun h71 => ?_) (fun h71 => ?_)
      · replace hF := ifP h71 hF
        refine W.seq fun K72 hK72 => ?_
        refine W.region ?_
        refine wl_assign rfl rfl ?_
        refine WL.nil ?_
        refine fun a ha => hK72 _ _ ?_ a ha
        refine W.ret ?_
        have hr := Option.some.inj hF
        subst hr
        exact rets (vs := [(.bool false)]) hQ rfl ⟨rv_tmp rfl, trivial⟩ ⟨rfl, hB66⟩
      · replace hF := ifN h71 hF
        refine W.skip ?_
        refine fun a ha => hK63 _ _ ?_ a ha
        refine W.seq fun K73 hK73 => ?_
        refine W.seq fun K74 hK74 => ?_
        refine W.regionH mixed_ [] hB66 hS67 ?_
        intro w75 hb76 hB77 hS78
        have hSW79 := KeepX.refl w75 []
        refine WH.takex (i := 0) rfl (by kernel_rfl) (by kernel_rfl) (by kernel_rfl) hP hSW79 ?_
        refine pr_load_blk (i := 3) (vs := [v38, v40, (.int .i64 u37.2.2.1), (.int .i64 u37.2.2.2)]) (v := (.agg #[v38, v40, (.int .i64 u37.2.2.1), (.int .i64 u37.2.2.2)])) tf_30 rfl rfl hS78 rfl rfl rfl (by simp) ?_
        refine WH.takex (i := 1) rfl (by kernel_rfl) (by kernel_rfl) (by kernel_rfl) hP hSW79 ?_
        refine pr_load_blk (i := 0) (vs := [v0_0, v0_1, (.int .i64 x0.2.2.1), (.int .i64 x0.2.2.2)]) (v := (.agg #[v0_0, v0_1, (.int .i64 x0.2.2.1), (.int .i64 x0.2.2.2)])) tf_25 rfl rfl hS78 rfl rfl rfl (by simp) ?_
        refine WH.one (i := 2) (by kernel_rfl) rfl ?_
        obtain ⟨u80, hu80, hF⟩ := bindE hF
        refine wl_call rfl Try.call17 (C_laws_toShow w75 x0 v0_0 (h0_0.ro hB77) v0_1 (h0_1.ro hB77) _ hu80) rfl ?_
        rintro _ w85 ⟨v81, F82, v83, F84, rfl, hb86, hM89⟩
        refine ⟨_, rfl, ?_⟩
        have hB87 := hB77.trans (hb86.mono hB77.size)
        have hS88 := hS78.join hb86 hM89 hB77.size
        have hSW90 := hSW79.ext hb86
        have hbS91 : Below w75.heap.size w75 w85 := hb86
        refine WL.nil (WH.ret hSW90 ?_)
        refine WH.one (i := 3) (by kernel_rfl) rfl ?_
        obtain ⟨u92, hu92, hF⟩ := bindE hF
        refine wl_call rfl Try.call19 (C_laws_eqShow w85 u37 v38 (hS88.own_ro (i := 3) rfl) v40 (hS88.own_ro (i := 4) rfl) u80 v81 (hS88.own_ro (i := 0) rfl) v83 (hS88.own_ro (i := 1) rfl) _ hu92) rfl ?_
        rintro _ w93 ⟨rfl, hb94⟩
        refine ⟨_, rfl, ?_⟩
        have hB95 := hB87.trans (hb94.mono hB87.size)
        have hS96 := hS88.below hb94
        have hSW98 := hSW90.ext hb94
        have hbS99 : Below w75.heap.size w75 w93 := hbS91.trans (hb94.mono hbS91.size)
        refine WL.nil (WH.ret hSW98 ?_)
        refine WH.takex (i := 4) rfl (by kernel_rfl) (by kernel_rfl) (by kernel_rfl) hP hSW98 ?_
        refine pr_not rfl rfl ?_
        refine WH.done (by kernel_rfl) ?_
        refine fun a ha => hK74 _ _ ?_ a ha
        refine W.cond rfl (fun h100 => ?_) (fun h100 => ?_)
        · replace hF := ifP h100 hF
          refine W.seq fun K101 hK101 => ?_
          refine W.region ?_
          refine wl_assign rfl rfl ?_
          refine WL.nil ?_
          refine fun a ha => hK101 _ _ ?_ a ha
          refine W.ret ?_
          have hr := Option.some.inj hF
          subst hr
          exact rets (vs := [(.bool false)]) hQ rfl ⟨rv_tmp rfl, trivial⟩ ⟨rfl, hB95⟩
        · replace hF := ifN h100 hF
          refine W.skip ?_
          refine fun a ha => hK73 _ _ ?_ a ha
          refine W.seq fun K102 hK102 => ?_
          refine W.region ?_
          refine wl_assign rfl rfl ?_
          refine WL.nil ?_
          refine fun a ha => hK102 _ _ ?_ a ha
          refine W.ret ?_
          have hr := Option.some.inj hF
          subst hr
          exact rets (vs := [(.bool true)]) hQ rfl ⟨rv_tmp rfl, trivial⟩ ⟨rfl, hB95⟩
    refine W.region ?_
    refine wl_move rfl rfl ?_
    refine wl_move rfl rfl ?_
    refine wl_neq rfl rfl rfl ?_
    refine wl_move rfl rfl ?_
    rcases bE (u57.1 != u30.1) with h103 | h103
    · replace hF := ifP h103 hF
      refine wl_off rfl rfl rfl h103 ?_
      refine wl_off rfl rfl rfl h103 ?_
      refine wl_off rfl rfl rfl h103 ?_
      refine wl_pick_t rfl rfl h103 rfl ?_
      refine wl_move rfl rfl ?_
      refine wl_off rfl rfl rfl rfl ?_
      refine wl_off rfl rfl rfl rfl ?_
      refine wl_off rfl rfl rfl rfl ?_
      refine wl_pick_t rfl rfl rfl rfl ?_
      refine WL.nil ?_
      exact fun a ha => hJ70 (true) _ hF hB60 (hS61.sel [5, 1, 2, 0] rfl) a (ha.sub ⟨rfl, rfl, rfl, trivial⟩)
    · replace hF := ifN h103 hF
      refine wl_on rfl rfl h103 ?_
      refine wl_move rfl rfl ?_
      refine wl_on rfl rfl h103 ?_
      refine wl_move rfl rfl ?_
      refine wl_on rfl rfl h103 ?_
      refine wl_neq rfl rfl rfl ?_
      refine wl_pick_f rfl rfl h103 rfl ?_
      refine wl_move rfl rfl ?_
      rcases bE (u57.2.1 != u30.2.1) with h104 | h104
      · replace hF := ifP h104 hF
        refine wl_off rfl rfl rfl h104 ?_
        refine wl_off rfl rfl rfl h104 ?_
        refine wl_off rfl rfl rfl h104 ?_
        refine wl_pick_t rfl rfl h104 rfl ?_
        refine WL.nil ?_
        exact fun a ha => hJ70 (true) _ hF hB60 (hS61.sel [5, 1, 2, 0] rfl) a (ha.sub ⟨rfl, rfl, rfl, trivial⟩)
      · replace hF := ifN h104 hF
        refine wl_on rfl rfl h104 ?_
        refine wl_move rfl rfl ?_
        refine wl_on rfl rfl h104 ?_
        refine wl_move rfl rfl ?_
        refine wl_on rfl rfl h104 ?_
        refine wl_neqb Try.underlying4 rfl rfl rfl ?_
        refine wl_pick_f rfl rfl h104 rfl ?_
        refine WL.nil ?_
        exact fun a ha => hJ70 ((u57.2.2 != u30.2.2)) _ hF hB60 (hS61.sel [5, 1, 2, 0] rfl) a (ha.sub ⟨rfl, rfl, rfl, trivial⟩)
end Go.Proofs.Ytmbhdelegdhieaa
