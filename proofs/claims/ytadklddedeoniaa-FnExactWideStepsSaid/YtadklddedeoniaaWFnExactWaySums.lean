/-
  THE WALKS of functions of this seat, by program (gen.py).
-/
import Derived.Test.YtadklddedeoniaaH
import Derived.Test.YtadklddedeoniaaWFnExactCuesBetween
import Derived.Test.YtadklddedeoniaaWFnExactMostBehind
set_option linter.unusedSimpArgs false
set_option linter.unusedVariables false
set_option maxRecDepth 100000
namespace Go.Proofs.Ytadklddedeoniaa
open Go Go.RowKit
theorem C_spec_swMoves (w0 : World) (x0 : ((List (List (Int × Int))) × (List Int) × Int × Int)) (v0_0 : Value) (h0_0 : rdS ty_69 (· < w0.heap.size) w0 v0_0 x0.1) (v0_1 : Value) (h0_1 : rdS ty_3 (· < w0.heap.size) w0 v0_1 x0.2.1) (x1 : Int) (r : (List ((Int × Int) × (Int × Int) × Int))) (hF : F_spec_swMoves x0 x1 = some r) :
    Calls Try.prog 105 [(.agg #[v0_0, v0_1, (.int .i64 x0.2.2.1), (.int .i64 x0.2.2.2)]), (.int .i64 x1)].toArray w0 fun e w' => ∃ (q0 : Value) (G0 : List Nat), e = .returned q0 ∧ Below w0.heap.size w0 w' ∧ Sep w0.heap.size w' [R.own ty_123 G0 q0 r] := by
  refine calls_mk' Try.func105 rfl Try.ntmps105 rfl rfl fun Q hQ hP => ?_
  have hB : Below w0.heap.size w0 w0 := Below.refl _ _
  have hS : Sep w0.heap.size w0 [] := Sep.nil _ _
  unfold F_spec_swMoves at hF
  refine W.seq fun K1 hK1 => ?_
  refine W.region ?_
  refine wl_box (cs := [v0_0, v0_1, (.int .i64 x0.2.2.1), (.int .i64 x0.2.2.2)]) rfl rfl rfl hB hS ?_
  intro b2 w3 hb4 hB5 hS6
  refine wl_assign rfl rfl ?_
  refine WL.nil ?_
  refine fun a ha => hK1 _ _ ?_ a ha
  refine W.seq fun K7 hK7 => ?_
  refine W.region ?_
  refine wl_assign rfl rfl ?_
  refine WL.nil ?_
  refine fun a ha => hK7 _ _ ?_ a ha
  refine W.seq fun K8 hK8 => ?_
  refine W.seq fun K9 hK9 => ?_
  refine W.region ?_
  refine wl_field (o := 0) (off' := 0) ff_31_0 rfl rfl rfl ?_
  refine wl_load_blk (i := 0) (vs := [v0_0]) (v := v0_0) tf_29 rfl rfl hS6 rfl rfl rfl ?_
  refine wl_move rfl rfl ?_
  obtain ⟨u10, hu10, hF⟩ := bindE hF
  refine wl_index (e := ty_69) Try.underlying29 rfl rfl rfl h0_0 hu10 ?_
  rintro p11 _ ⟨v13, rfl, hv14⟩ hp12
  refine wl_load_p (vs := [v13]) (v := v13) tf_69 rfl rfl (hp12.ro hB5) rfl rfl ?_
  refine wl_lenr (e := ty_116) (l := u10) Try.underlying69 rfl rfl hv14 ?_
  refine wl_move rfl rfl ?_
  refine WL.nil ?_
  refine fun a ha => hK9 _ _ ?_ a ha
  refine W.block ?_
  refine W.loopk (fun m a w15 => ∃ (l18 : (List ((Int × Int) × (Int × Int) × Int))) (y21 : Int) (v19 : Value) (F20 : List Nat), St 40 [(1, (.int .i64 x1)), (2, (.pointer (some ⟨b2, 0, none⟩))), (5, v19), (12, v13), (13, (.int .i64 (List.length u10 : Int))), (14, (.int .i64 y21))] a ∧ Below w0.heap.size w0 w15 ∧ Sep w0.heap.size w15 [R.blk b2 31 [v0_0, v0_1, (.int .i64 x0.2.2.1), (.int .i64 x0.2.2.2)], R.own ty_123 F20 v19 l18] ∧ F_spec_swMoves_L1 u10 x0 x1 m l18 y21 = some r) FU ?_ ?_
  ·
    have hS23 := hS6.push0 (r := R.own ty_123 [] (.slice none 0 0) []) rfl fun _ => .inl ⟨rfl, rfl, rfl⟩
    exact fun a ha => ⟨[], 0, (.slice none 0 0), [], ha.sub ⟨rfl, rfl, rfl, rfl, rfl, rfl, trivial⟩, hB5, (hS23.sel [1, 0] rfl), hF⟩
  ·
    rintro m25 a w15 ⟨l18, y21, v19, F20, ha, hB16, hS17, hF⟩ KL24 hKL24
    refine W.at ?_ ha
    cases m25 with
    | zero => exact noneE hF
    | succ m25 =>
      obtain ⟨nx22, hnx22⟩ : ∃ k, k = F_spec_swMoves_L1 u10 x0 x1 m25 := ⟨_, rfl⟩
      rw [F_spec_swMoves_L1, ← hnx22] at hF
      refine W.seq fun K26 hK26 => ?_
      refine W.region ?_
      refine wl_lss rfl rfl rfl ?_
      refine WL.nil ?_
      refine fun a ha => hK26 _ _ ?_ a ha
      refine W.seq fun K27 hK27 => ?_
      refine W.cond rfl (fun h28 => ?_) (fun h28 => ?_)
      · replace hF := ifP h28 hF
        refine W.skip ?_
        refine fun a ha => hK27 _ _ ?_ a ha
        refine W.seq fun K29 hK29 => ?_
        refine W.block ?_
        refine W.seq fun K30 hK30 => ?_
        refine W.region ?_
        refine wl_move rfl rfl ?_
        obtain ⟨u31, hu31, hF⟩ := bindE hF
        refine wl_index (e := ty_116) Try.underlying69 rfl rfl rfl hv14 hu31 ?_
        rintro p32 _ rfl hp33
        refine wl_load_p (vs := [(.int .i64 u31.1), (.int .i64 u31.2)]) (v := (.agg #[(.int .i64 u31.1), (.int .i64 u31.2)])) tf_116 rfl rfl (hp33.ro hB16) rfl rfl ?_
        refine wl_alloc (cs := [(.int .i64 0), (.int .i64 0)]) tf_116 rfl rfl hB16 hS17 ?_
        intro b34 w35 hb36 hB37 hS38
        refine wl_assign rfl rfl ?_
        refine wl_store_blk (i := 0) (vs := [(.int .i64 u31.1), (.int .i64 u31.2)]) (cs' := [(.int .i64 u31.1), (.int .i64 u31.2)]) tf_116 rfl rfl rfl rfl hB37 hS38 rfl rfl ⟨rfl, rfl, trivial⟩ rfl ?_
        intro w39 hk42 hB40 hS41
        refine WL.nil ?_
        refine fun a ha => hK30 _ _ ?_ a ha
        refine W.regionH mixed_ F20 hB40 hS41 ?_
        intro w43 hb44 hB45 hS46
        have hSW47 := KeepX.refl w43 F20
        refine WH.takex (i := 0) rfl (by kernel_rfl) (by kernel_rfl) (by kernel_rfl) hP hSW47 ?_
        refine pr_move rfl rfl ?_
        refine WH.takex (i := 1) rfl (by kernel_rfl) (by kernel_rfl) (by kernel_rfl) hP hSW47 ?_
        refine pr_load_blk (i := 0) (vs := [(.int .i64 u31.1), (.int .i64 u31.2)]) (v := (.agg #[(.int .i64 u31.1), (.int .i64 u31.2)])) tf_116 rfl rfl hS46 rfl rfl rfl (hS46.disj (i := 0) (j := 2) rfl rfl rfl b34 (by simp [R.blk])) ?_
        refine WH.takex (i := 2) rfl (by kernel_rfl) (by kernel_rfl) (by kernel_rfl) hP hSW47 ?_
        refine pr_field (o := 0) (off' := 0) ff_31_0 rfl rfl rfl ?_
        refine WH.takex (i := 3) rfl (by kernel_rfl) (by kernel_rfl) (by kernel_rfl) hP hSW47 ?_
        refine pr_load_blk (i := 1) (vs := [v0_0]) (v := v0_0) tf_29 rfl rfl hS46 rfl rfl rfl (hS46.disj (i := 1) (j := 2) rfl rfl rfl b2 (by simp [R.blk])) ?_
        refine WH.takex (i := 4) rfl (by kernel_rfl) (by kernel_rfl) (by kernel_rfl) hP hSW47 ?_
        refine pr_move rfl rfl ?_
        refine WH.takex (i := 5) rfl (by kernel_rfl) (by kernel_rfl) (by kernel_rfl) hP hSW47 ?_
        refine pr_add rfl rfl rfl ?_
        obtain ⟨u48, hu48, hF⟩ := bindE hF
        refine WH.takex (i := 6) rfl (by kernel_rfl) (by kernel_rfl) (by kernel_rfl) hP hSW47 ?_
        refine pr_index (e := ty_69) Try.underlying29 rfl rfl rfl h0_0 hu48 ?_
        rintro p49 _ ⟨v51, rfl, hv52⟩ hp50
        refine WH.takex (i := 7) rfl (by kernel_rfl) (by kernel_rfl) (by kernel_rfl) hP hSW47 ?_
        refine pr_load_p (vs := [v51]) (v := v51) tf_69 rfl rfl (hp50.kx hB45 (fun b hb => (((hS46.get (i := 2) rfl).2.1 b hb).1))) rfl rfl ?_
        refine WH.takex (i := 8) rfl (by kernel_rfl) (by kernel_rfl) (by kernel_rfl) hP hSW47 ?_
        refine pr_move rfl rfl ?_
        obtain ⟨u53, hu53, hF⟩ := bindE hF
        refine WH.takex (i := 9) rfl (by kernel_rfl) (by kernel_rfl) (by kernel_rfl) hP hSW47 ?_
        refine pr_index (e := ty_116) Try.underlying69 rfl rfl rfl hv52 hu53 ?_
        rintro p54 _ rfl hp55
        refine WH.takex (i := 10) rfl (by kernel_rfl) (by kernel_rfl) (by kernel_rfl) hP hSW47 ?_
        refine pr_load_p (vs := [(.int .i64 u53.1), (.int .i64 u53.2)]) (v := (.agg #[(.int .i64 u53.1), (.int .i64 u53.2)])) tf_116 rfl rfl (hp55.kx hB45 (fun b hb => (((hS46.get (i := 2) rfl).2.1 b hb).1))) rfl rfl ?_
        refine WH.takex (i := 11) rfl (by kernel_rfl) (by kernel_rfl) (by kernel_rfl) hP hSW47 ?_
        refine pr_field (o := 1) (off' := 1) ff_31_1 rfl rfl rfl ?_
        refine WH.takex (i := 12) rfl (by kernel_rfl) (by kernel_rfl) (by kernel_rfl) hP hSW47 ?_
        refine pr_load_blk (i := 1) (vs := [v0_1]) (v := v0_1) tf_23 rfl rfl hS46 rfl rfl rfl (hS46.disj (i := 1) (j := 2) rfl rfl rfl b2 (by simp [R.blk])) ?_
        refine WH.takex (i := 13) rfl (by kernel_rfl) (by kernel_rfl) (by kernel_rfl) hP hSW47 ?_
        refine pr_move rfl rfl ?_
        obtain ⟨u56, hu56, hF⟩ := bindE hF
        refine WH.takex (i := 14) rfl (by kernel_rfl) (by kernel_rfl) (by kernel_rfl) hP hSW47 ?_
        refine pr_index (e := ty_3) Try.underlying23 rfl rfl rfl h0_1 hu56 ?_
        rintro p57 _ rfl hp58
        refine WH.takex (i := 15) rfl (by kernel_rfl) (by kernel_rfl) (by kernel_rfl) hP hSW47 ?_
        refine pr_load_p (vs := [(.int .i64 u56)]) (v := (.int .i64 u56)) tf_3 rfl rfl (hp58.kx hB45 (fun b hb => (((hS46.get (i := 2) rfl).2.1 b hb).1))) rfl rfl ?_
        refine WH.takex (i := 16) rfl (by kernel_rfl) (by kernel_rfl) (by kernel_rfl) hP hSW47 ?_
        refine pr_build (zs := [(.int .i64 0), (.int .i64 0), (.int .i64 0), (.int .i64 0), (.int .i64 0)]) (out := [(.int .i64 u31.1), (.int .i64 u31.2), (.int .i64 u53.1), (.int .i64 u53.2), (.int .i64 u56)]) (vs := [(.agg #[(.int .i64 u31.1), (.int .i64 u31.2)]), (.agg #[(.int .i64 u53.1), (.int .i64 u53.2)]), (.int .i64 u56)]) (css := [[(.int .i64 u31.1), (.int .i64 u31.2)], [(.int .i64 u53.1), (.int .i64 u53.2)], [(.int .i64 u56)]]) tf_123 pl_123 rfl rfl rfl rfl rfl ?_
        refine WH.one (i := 17) (by kernel_rfl) rfl ?_
        refine wl_lit (vs := [(.agg #[(.int .i64 u31.1), (.int .i64 u31.2), (.int .i64 u53.1), (.int .i64 u53.2), (.int .i64 u56)])]) (l := [(u31, u53, u56)]) fl_123 Try.underlying76 rfl rfl rfl rfl rfl rfl (Below.self w43) (Sep.nil _ _) ?_
        intro v59 F60 w61 hb62 hB65 hM66
        have hB63 := hB45.trans (hb62.mono hB45.size)
        have hS64 := hS46.join hb62 hM66 hB45.size
        have hn67 : ∀ b ∈ F60, w43.heap.size ≤ b := fun b hb => Nat.le_trans hSW47.size ((hM66.1 _ (List.mem_cons_self ..)).2.1 b hb).1
        have hSW68 := hSW47.ext hb62
        have hbS69 : Below w43.heap.size w43 w61 := hb62
        refine WL.nil (WH.ret hSW68 ?_)
        refine WH.one (i := 18) (by kernel_rfl) rfl ?_
        obtain ⟨u70, hu70, hF⟩ := bindE hF
        refine wl_append (i := 3) (S := (· < w61.heap.size)) fl_123 Try.underlying76 rfl rfl rfl hB63 hS64 rfl (hS64.own_ro (i := 0) rfl) hu70 ?_
        intro v71 F72 w73 hk74 hB75 hS76
        have hSW77 := hSW68.wr' hk74.1 hk74.2.1 (fun _ _ h => h)
        refine WL.nil (WH.ret hSW77 ?_)
        refine WH.takex (i := 19) rfl (by kernel_rfl) (by kernel_rfl) (by kernel_rfl) hP hSW77 ?_
        refine pr_assign rfl rfl ?_
        refine WH.done (by kernel_rfl) ?_
        refine fun a ha => hK29 _ _ ?_ a ha
        refine W.region ?_
        refine wl_add rfl rfl rfl ?_
        refine wl_move rfl rfl ?_
        refine WL.nil ?_
        rw [hnx22] at hF
        exact fun a ha => hKL24 a _ m25 (Nat.lt_succ_self m25) ⟨u70, (w64 (y21 + 1)), v71, F72, ha.sub ⟨rfl, rfl, rfl, rfl, rfl, rfl, trivial⟩, hB75, (hS76.sel [2, 3] rfl), hF⟩
      · replace hF := ifN h28 hF
        refine W.exit ?_
        refine fun a ha => hK8 _ _ ?_ a ha
        refine W.seq fun K78 hK78 => ?_
        refine W.region ?_
        refine wl_move rfl rfl ?_
        refine wl_assign rfl rfl ?_
        refine WL.nil ?_
        refine fun a ha => hK78 _ _ ?_ a ha
        refine W.ret ?_
        have hr := Option.some.inj hF
        subst hr
        exact rets (vs := [v19]) hQ rfl ⟨rv_tmp rfl, trivial⟩ ⟨v19, F20, rfl, hB16, hS17.sel [1] rfl⟩
theorem C_spec_stSquare (w0 : World) (x0 : (Int × Int)) (x1 : (Int × Int)) (r : Int) (hF : F_spec_stSquare x0 x1 = some r) :
    Calls Try.prog 144 [(.agg #[(.int .i64 x0.1), (.int .i64 x0.2)]), (.agg #[(.int .i64 x1.1), (.int .i64 x1.2)])].toArray w0 fun e w' => e = .returned (.int .i64 r) ∧ Below w0.heap.size w0 w' := by
  refine calls_mk' Try.func144 rfl Try.ntmps144 rfl rfl fun Q hQ hP => ?_
  have hB : Below w0.heap.size w0 w0 := Below.refl _ _
  have hS : Sep w0.heap.size w0 [] := Sep.nil _ _
  unfold F_spec_stSquare at hF
  refine W.seq fun K1 hK1 => ?_
  refine W.region ?_
  refine wl_box (cs := [(.int .i64 x0.1), (.int .i64 x0.2)]) rfl rfl rfl hB hS ?_
  intro b2 w3 hb4 hB5 hS6
  refine wl_box (cs := [(.int .i64 x1.1), (.int .i64 x1.2)]) rfl rfl rfl hB5 hS6 ?_
  intro b7 w8 hb9 hB10 hS11
  refine wl_assign rfl rfl ?_
  refine WL.nil ?_
  refine fun a ha => hK1 _ _ ?_ a ha
  refine W.seq fun K12 hK12 => ?_
  refine W.region ?_
  refine wl_field (o := 0) (off' := 0) ff_116_0 rfl rfl rfl ?_
  refine wl_load_blk (i := 1) (vs := [(.int .i64 x0.1)]) (v := (.int .i64 x0.1)) tf_3 rfl rfl hS11 rfl rfl rfl ?_
  refine wl_field (o := 0) (off' := 0) ff_116_0 rfl rfl rfl ?_
  refine wl_load_blk (i := 0) (vs := [(.int .i64 x1.1)]) (v := (.int .i64 x1.1)) tf_3 rfl rfl hS11 rfl rfl rfl ?_
  refine wl_sub rfl rfl rfl ?_
  refine wl_field (o := 0) (off' := 0) ff_116_0 rfl rfl rfl ?_
  refine wl_load_blk (i := 1) (vs := [(.int .i64 x0.1)]) (v := (.int .i64 x0.1)) tf_3 rfl rfl hS11 rfl rfl rfl ?_
  refine wl_field (o := 0) (off' := 0) ff_116_0 rfl rfl rfl ?_
  refine wl_load_blk (i := 0) (vs := [(.int .i64 x1.1)]) (v := (.int .i64 x1.1)) tf_3 rfl rfl hS11 rfl rfl rfl ?_
  refine wl_sub rfl rfl rfl ?_
  refine wl_mul rfl rfl rfl ?_
  refine wl_field (o := 1) (off' := 1) ff_116_1 rfl rfl rfl ?_
  refine wl_load_blk (i := 1) (vs := [(.int .i64 x0.2)]) (v := (.int .i64 x0.2)) tf_3 rfl rfl hS11 rfl rfl rfl ?_
  refine wl_field (o := 1) (off' := 1) ff_116_1 rfl rfl rfl ?_
  refine wl_load_blk (i := 0) (vs := [(.int .i64 x1.2)]) (v := (.int .i64 x1.2)) tf_3 rfl rfl hS11 rfl rfl rfl ?_
  refine wl_sub rfl rfl rfl ?_
  refine wl_field (o := 1) (off' := 1) ff_116_1 rfl rfl rfl ?_
  refine wl_load_blk (i := 1) (vs := [(.int .i64 x0.2)]) (v := (.int .i64 x0.2)) tf_3 rfl rfl hS11 rfl rfl rfl ?_
  refine wl_field (o := 1) (off' := 1) ff_116_1 rfl rfl rfl ?_
  refine wl_load_blk (i := 0) (vs := [(.int .i64 x1.2)]) (v := (.int .i64 x1.2)) tf_3 rfl rfl hS11 rfl rfl rfl ?_
  refine wl_sub rfl rfl rfl ?_
  refine wl_mul rfl rfl rfl ?_
  refine wl_add rfl rfl rfl ?_
  refine wl_assign rfl rfl ?_
  refine WL.nil ?_
  refine fun a ha => hK12 _ _ ?_ a ha
  refine W.ret ?_
  have hr := Option.some.inj hF
  subst hr
  exact rets (vs := [(.int .i64 (w64 ((w64 ((w64 (x0.1 - x1.1)) * (w64 (x0.1 - x1.1)))) + (w64 ((w64 (x0.2 - x1.2)) * (w64 (x0.2 - x1.2)))))))]) hQ rfl ⟨rv_tmp rfl, trivial⟩ ⟨rfl, hB10⟩
theorem C_spec_cpSquares (w0 : World) (x0 : ((List (List (Int × Int))) × (List Int) × Int × Int)) (v0_0 : Value) (h0_0 : rdS ty_69 (· < w0.heap.size) w0 v0_0 x0.1) (v0_1 : Value) (h0_1 : rdS ty_3 (· < w0.heap.size) w0 v0_1 x0.2.1) (x1 : Int) (r : (List Int)) (hF : F_spec_cpSquares x0 x1 = some r) :
    Calls Try.prog 123 [(.agg #[v0_0, v0_1, (.int .i64 x0.2.2.1), (.int .i64 x0.2.2.2)]), (.int .i64 x1)].toArray w0 fun e w' => ∃ (q0 : Value) (G0 : List Nat), e = .returned q0 ∧ Below w0.heap.size w0 w' ∧ Sep w0.heap.size w' [R.own ty_3 G0 q0 r] := by
  refine calls_mk' Try.func123 rfl Try.ntmps123 rfl rfl fun Q hQ hP => ?_
  have hB : Below w0.heap.size w0 w0 := Below.refl _ _
  have hS : Sep w0.heap.size w0 [] := Sep.nil _ _
  unfold F_spec_cpSquares at hF
  refine W.seq fun K1 hK1 => ?_
  refine W.region ?_
  refine wl_box (cs := [v0_0, v0_1, (.int .i64 x0.2.2.1), (.int .i64 x0.2.2.2)]) rfl rfl rfl hB hS ?_
  intro b2 w3 hb4 hB5 hS6
  refine wl_assign rfl rfl ?_
  refine WL.nil ?_
  refine fun a ha => hK1 _ _ ?_ a ha
  refine W.seq fun K7 hK7 => ?_
  refine W.region ?_
  refine wl_assign rfl rfl ?_
  refine WL.nil ?_
  refine fun a ha => hK7 _ _ ?_ a ha
  refine W.seq fun K8 hK8 => ?_
  refine W.seq fun K9 hK9 => ?_
  refine W.region ?_
  refine wl_load_blk (i := 0) (vs := [v0_0, v0_1, (.int .i64 x0.2.2.1), (.int .i64 x0.2.2.2)]) (v := (.agg #[v0_0, v0_1, (.int .i64 x0.2.2.1), (.int .i64 x0.2.2.2)])) tf_31 rfl rfl hS6 rfl rfl rfl ?_
  refine wl_move rfl rfl ?_
  obtain ⟨u10, hu10, hF⟩ := bindE hF
  refine wl_call rfl Try.call105 (C_spec_swMoves w3 x0 v0_0 (h0_0.ro hB5) v0_1 (h0_1.ro hB5) x1 _ hu10) rfl ?_
  rintro _ w13 ⟨v11, F12, rfl, hb14, hM17⟩
  refine ⟨_, rfl, ?_⟩
  have hB15 := hB5.trans (hb14.mono hB5.size)
  have hS16 := hS6.join hb14 hM17 hB5.size
  refine wl_lenr (e := ty_123) (l := u10) Try.underlying76 rfl rfl (hS16.own_ro (i := 0) rfl) ?_
  refine wl_move rfl rfl ?_
  refine WL.nil ?_
  refine fun a ha => hK9 _ _ ?_ a ha
  refine W.block ?_
  refine W.loopk (fun m a w18 => ∃ (l21 : (List Int)) (y24 : Int) (v22 : Value) (F23 : List Nat), St 26 [(5, v22), (10, v11), (11, (.int .i64 (List.length u10 : Int))), (12, (.int .i64 y24))] a ∧ Below w0.heap.size w0 w18 ∧ Sep w0.heap.size w18 [R.own ty_3 F23 v22 l21, R.own ty_123 F12 v11 u10] ∧ F_spec_cpSquares_L1 u10 m l21 y24 = some r) FU ?_ ?_
  ·
    have hS26 := hS16.push0 (r := R.own ty_3 [] (.slice none 0 0) []) rfl fun _ => .inl ⟨rfl, rfl, rfl⟩
    exact fun a ha => ⟨[], 0, (.slice none 0 0), [], ha.sub ⟨rfl, rfl, rfl, rfl, trivial⟩, hB15, (hS26.sel [0, 1] rfl), hF⟩
  ·
    rintro m28 a w18 ⟨l21, y24, v22, F23, ha, hB19, hS20, hF⟩ KL27 hKL27
    refine W.at ?_ ha
    cases m28 with
    | zero => exact noneE hF
    | succ m28 =>
      obtain ⟨nx25, hnx25⟩ : ∃ k, k = F_spec_cpSquares_L1 u10 m28 := ⟨_, rfl⟩
      rw [F_spec_cpSquares_L1, ← hnx25] at hF
      refine W.seq fun K29 hK29 => ?_
      refine W.region ?_
      refine wl_lss rfl rfl rfl ?_
      refine WL.nil ?_
      refine fun a ha => hK29 _ _ ?_ a ha
      refine W.seq fun K30 hK30 => ?_
      refine W.cond rfl (fun h31 => ?_) (fun h31 => ?_)
      · replace hF := ifP h31 hF
        refine W.skip ?_
        refine fun a ha => hK30 _ _ ?_ a ha
        refine W.seq fun K32 hK32 => ?_
        refine W.block ?_
        refine W.seq fun K33 hK33 => ?_
        refine W.region ?_
        obtain ⟨u34, hu34, hF⟩ := bindE hF
        refine wl_indexo (e := ty_123) (i := 1) Try.underlying76 rfl rfl rfl hS20 rfl hu34 ?_
        rintro p35 _ rfl hp36 ho37
        refine wl_load_p (vs := [(.int .i64 u34.1.1), (.int .i64 u34.1.2), (.int .i64 u34.2.1.1), (.int .i64 u34.2.1.2), (.int .i64 u34.2.2)]) (v := (.agg #[(.int .i64 u34.1.1), (.int .i64 u34.1.2), (.int .i64 u34.2.1.1), (.int .i64 u34.2.1.2), (.int .i64 u34.2.2)])) tf_123 rfl rfl hp36 rfl rfl ?_
        refine wl_alloc (cs := [(.int .i64 0), (.int .i64 0), (.int .i64 0), (.int .i64 0), (.int .i64 0)]) tf_123 rfl rfl hB19 hS20 ?_
        intro b38 w39 hb40 hB41 hS42
        refine wl_store_blk (i := 0) (vs := [(.int .i64 u34.1.1), (.int .i64 u34.1.2), (.int .i64 u34.2.1.1), (.int .i64 u34.2.1.2), (.int .i64 u34.2.2)]) (cs' := [(.int .i64 u34.1.1), (.int .i64 u34.1.2), (.int .i64 u34.2.1.1), (.int .i64 u34.2.1.2), (.int .i64 u34.2.2)]) tf_123 rfl rfl rfl rfl hB41 hS42 rfl rfl ⟨rfl, rfl, rfl, rfl, rfl, trivial⟩ rfl ?_
        intro w43 hk46 hB44 hS45
        refine WL.nil ?_
        refine fun a ha => hK33 _ _ ?_ a ha
        refine W.region ?_
        refine wl_move rfl rfl ?_
        refine wl_field (o := 0) (off' := 0) ff_123_0 rfl rfl rfl ?_
        refine wl_load_blk (i := 0) (vs := [(.int .i64 u34.1.1), (.int .i64 u34.1.2)]) (v := (.agg #[(.int .i64 u34.1.1), (.int .i64 u34.1.2)])) tf_116 rfl rfl hS45 rfl rfl rfl ?_
        refine wl_field (o := 2) (off' := 2) ff_123_1 rfl rfl rfl ?_
        refine wl_load_blk (i := 0) (vs := [(.int .i64 u34.2.1.1), (.int .i64 u34.2.1.2)]) (v := (.agg #[(.int .i64 u34.2.1.1), (.int .i64 u34.2.1.2)])) tf_116 rfl rfl hS45 rfl rfl rfl ?_
        obtain ⟨u47, hu47, hF⟩ := bindE hF
        refine wl_call rfl Try.call144 (C_spec_stSquare w43 u34.1 u34.2.1 _ hu47) rfl ?_
        rintro _ w48 ⟨rfl, hb49⟩
        refine ⟨_, rfl, ?_⟩
        have hB50 := hB44.trans (hb49.mono hB44.size)
        have hS51 := hS45.below hb49
        refine wl_lit (vs := [(.int .i64 u47)]) (l := [u47]) fl_3 Try.underlying23 rfl rfl rfl rfl rfl rfl hB50 hS51 ?_
        intro v53 F54 w55 hb56 hB57 hS58
        obtain ⟨u59, hu59, hF⟩ := bindE hF
        refine wl_append (i := 2) (S := (· < w55.heap.size)) fl_3 Try.underlying23 rfl rfl rfl hB57 hS58 rfl (hS58.own_ro (i := 0) rfl) hu59 ?_
        intro v60 F61 w62 hk63 hB64 hS65
        refine wl_assign rfl rfl ?_
        refine WL.nil ?_
        refine fun a ha => hK32 _ _ ?_ a ha
        refine W.region ?_
        refine wl_add rfl rfl rfl ?_
        refine wl_move rfl rfl ?_
        refine WL.nil ?_
        rw [hnx25] at hF
        exact fun a ha => hKL27 a _ m28 (Nat.lt_succ_self m28) ⟨u59, (w64 (y24 + 1)), v60, F61, ha.sub ⟨rfl, rfl, rfl, rfl, trivial⟩, hB64, (hS65.sel [2, 3] rfl), hF⟩
      · replace hF := ifN h31 hF
        refine W.exit ?_
        refine fun a ha => hK8 _ _ ?_ a ha
        refine W.seq fun K66 hK66 => ?_
        refine W.region ?_
        refine wl_move rfl rfl ?_
        refine wl_assign rfl rfl ?_
        refine WL.nil ?_
        refine fun a ha => hK66 _ _ ?_ a ha
        refine W.ret ?_
        have hr := Option.some.inj hF
        subst hr
        exact rets (vs := [v22]) hQ rfl ⟨rv_tmp rfl, trivial⟩ ⟨v22, F23, rfl, hB19, hS20.sel [0] rfl⟩
theorem C_spec_cpWays (w0 : World) (x0 : ((List (List (Int × Int))) × (List Int) × Int × Int)) (v0_0 : Value) (h0_0 : rdS ty_69 (· < w0.heap.size) w0 v0_0 x0.1) (v0_1 : Value) (h0_1 : rdS ty_3 (· < w0.heap.size) w0 v0_1 x0.2.1) (r : (List Int)) (hF : F_spec_cpWays x0 = some r) :
    Calls Try.prog 70 [(.agg #[v0_0, v0_1, (.int .i64 x0.2.2.1), (.int .i64 x0.2.2.2)])].toArray w0 fun e w' => ∃ (q0 : Value) (G0 : List Nat), e = .returned q0 ∧ Below w0.heap.size w0 w' ∧ Sep w0.heap.size w' [R.own ty_3 G0 q0 r] := by
  refine calls_mk' Try.func70 rfl Try.ntmps70 rfl rfl fun Q hQ hP => ?_
  have hB : Below w0.heap.size w0 w0 := Below.refl _ _
  have hS : Sep w0.heap.size w0 [] := Sep.nil _ _
  unfold F_spec_cpWays at hF
  refine W.seq fun K1 hK1 => ?_
  refine W.region ?_
  refine wl_box (cs := [v0_0, v0_1, (.int .i64 x0.2.2.1), (.int .i64 x0.2.2.2)]) rfl rfl rfl hB hS ?_
  intro b2 w3 hb4 hB5 hS6
  refine wl_assign rfl rfl ?_
  refine WL.nil ?_
  refine fun a ha => hK1 _ _ ?_ a ha
  refine W.seq fun K7 hK7 => ?_
  refine W.region ?_
  refine wl_field (o := 0) (off' := 0) ff_31_0 rfl rfl rfl ?_
  refine wl_load_blk (i := 0) (vs := [v0_0]) (v := v0_0) tf_29 rfl rfl hS6 rfl rfl rfl ?_
  obtain ⟨u8, hu8, hF⟩ := bindE hF
  refine wl_index (e := ty_69) Try.underlying29 rfl rfl rfl h0_0 hu8 ?_
  rintro p9 _ ⟨v11, rfl, hv12⟩ hp10
  refine wl_load_p (vs := [v11]) (v := v11) tf_69 rfl rfl (hp10.ro hB5) rfl rfl ?_
  refine wl_lenr (e := ty_116) (l := u8) Try.underlying69 rfl rfl hv12 ?_
  obtain ⟨u13, hu13, hF⟩ := bindE hF
  refine wl_make (e := ty_3) Try.underlying23 rfl rfl hu13 hB5 hS6 ?_
  intro v14 F15 w16 hb17 hB18 hS19
  refine wl_assign rfl rfl ?_
  refine WL.nil ?_
  refine fun a ha => hK7 _ _ ?_ a ha
  refine W.seq fun K20 hK20 => ?_
  refine W.seq fun K21 hK21 => ?_
  refine W.region ?_
  refine wl_field (o := 1) (off' := 1) ff_31_1 rfl rfl rfl ?_
  refine wl_load_blk (i := 1) (vs := [v0_1]) (v := v0_1) tf_23 rfl rfl hS19 rfl rfl rfl ?_
  refine wl_lenr (e := ty_3) (l := x0.2.1) Try.underlying23 rfl rfl h0_1 ?_
  refine wl_move rfl rfl ?_
  refine WL.nil ?_
  refine fun a ha => hK21 _ _ ?_ a ha
  refine W.block ?_
  refine W.loopk (fun m a w22 => ∃ (l25 : (List Int)) (y28 : Int) (v26 : Value) (F27 : List Nat), St 38 [(1, (.pointer (some ⟨b2, 0, none⟩))), (3, v26), (15, (.int .i64 (List.length x0.2.1 : Int))), (16, (.int .i64 y28))] a ∧ Below w0.heap.size w0 w22 ∧ Sep w0.heap.size w22 [R.blk b2 31 [v0_0, v0_1, (.int .i64 x0.2.2.1), (.int .i64 x0.2.2.2)], R.own ty_3 F27 v26 l25] ∧ F_spec_cpWays_L1 x0 m l25 y28 = some r) FU ?_ ?_
  ·
    exact fun a ha => ⟨u13, 0, v14, F15, ha.sub ⟨rfl, rfl, rfl, rfl, trivial⟩, hB18, (hS19.sel [1, 0] rfl), hF⟩
  ·
    rintro m31 a w22 ⟨l25, y28, v26, F27, ha, hB23, hS24, hF⟩ KL30 hKL30
    refine W.at ?_ ha
    cases m31 with
    | zero => exact noneE hF
    | succ m31 =>
      obtain ⟨nx29, hnx29⟩ : ∃ k, k = F_spec_cpWays_L1 x0 m31 := ⟨_, rfl⟩
      rw [F_spec_cpWays_L1, ← hnx29] at hF
      refine W.seq fun K32 hK32 => ?_
      refine W.region ?_
      refine wl_lss rfl rfl rfl ?_
      refine WL.nil ?_
      refine fun a ha => hK32 _ _ ?_ a ha
      refine W.seq fun K33 hK33 => ?_
      refine W.cond rfl (fun h34 => ?_) (fun h34 => ?_)
      · replace hF := ifP h34 hF
        refine W.skip ?_
        refine fun a ha => hK33 _ _ ?_ a ha
        refine W.seq fun K35 hK35 => ?_
        refine W.block ?_
        refine W.seq fun K36 hK36 => ?_
        refine W.region ?_
        refine wl_move rfl rfl ?_
        refine wl_assign rfl rfl ?_
        refine WL.nil ?_
        refine fun a ha => hK36 _ _ ?_ a ha
        refine W.seq fun K37 hK37 => ?_
        refine W.region ?_
        refine wl_load_blk (i := 0) (vs := [v0_0, v0_1, (.int .i64 x0.2.2.1), (.int .i64 x0.2.2.2)]) (v := (.agg #[v0_0, v0_1, (.int .i64 x0.2.2.1), (.int .i64 x0.2.2.2)])) tf_31 rfl rfl hS24 rfl rfl rfl ?_
        refine wl_move rfl rfl ?_
        obtain ⟨u38, hu38, hF⟩ := bindE hF
        refine wl_call rfl Try.call123 (C_spec_cpSquares w22 x0 v0_0 (h0_0.ro hB23) v0_1 (h0_1.ro hB23) y28 _ hu38) rfl ?_
        rintro _ w41 ⟨v39, F40, rfl, hb42, hM45⟩
        refine ⟨_, rfl, ?_⟩
        have hB43 := hB23.trans (hb42.mono hB23.size)
        have hS44 := hS24.join hb42 hM45 hB23.size
        refine wl_lenr (e := ty_3) (l := u38) Try.underlying23 rfl rfl (hS44.own_ro (i := 0) rfl) ?_
        refine wl_move rfl rfl ?_
        refine WL.nil ?_
        refine fun a ha => hK37 _ _ ?_ a ha
        refine W.block ?_
        refine W.loopk (fun m a w46 => ∃ (l49 : (List Int)) (y52 : Int) (v50 : Value) (F51 : List Nat), St 38 [(1, (.pointer (some ⟨b2, 0, none⟩))), (3, v50), (15, (.int .i64 (List.length x0.2.1 : Int))), (16, (.int .i64 y28)), (21, v39), (22, (.int .i64 (List.length u38 : Int))), (23, (.int .i64 y52))] a ∧ Below w0.heap.size w0 w46 ∧ Sep w0.heap.size w46 [R.blk b2 31 [v0_0, v0_1, (.int .i64 x0.2.2.1), (.int .i64 x0.2.2.2)], R.own ty_3 F51 v50 l49, R.own ty_3 F40 v39 u38] ∧ F_spec_cpWays_L2 u38 nx29 y28 m l49 y52 = some r) FU ?_ ?_
        ·
          exact fun a ha => ⟨l25, 0, v26, F27, ha.sub ⟨rfl, rfl, rfl, rfl, rfl, rfl, rfl, trivial⟩, hB43, (hS44.sel [1, 2, 0] rfl), hF⟩
        ·
          rintro m55 a w46 ⟨l49, y52, v50, F51, ha, hB47, hS48, hF⟩ KL54 hKL54
          refine W.at ?_ ha
          cases m55 with
          | zero => exact noneE hF
          | succ m55 =>
            obtain ⟨nx53, hnx53⟩ : ∃ k, k = F_spec_cpWays_L2 u38 nx29 y28 m55 := ⟨_, rfl⟩
            rw [F_spec_cpWays_L2, ← hnx53] at hF
            refine W.seq fun K56 hK56 => ?_
            refine W.region ?_
            refine wl_lss rfl rfl rfl ?_
            refine WL.nil ?_
            refine fun a ha => hK56 _ _ ?_ a ha
            refine W.seq fun K57 hK57 => ?_
            refine W.cond rfl (fun h58 => ?_) (fun h58 => ?_)
            · replace hF := ifP h58 hF
              refine W.skip ?_
              refine fun a ha => hK57 _ _ ?_ a ha
              refine W.seq fun K59 hK59 => ?_
              refine W.block ?_
              refine W.seq fun K60 hK60 => ?_
              refine W.region ?_
              refine wl_move rfl rfl ?_
              obtain ⟨u61, hu61, hF⟩ := bindE hF
              refine wl_indexo (e := ty_3) (i := 2) Try.underlying23 rfl rfl rfl hS48 rfl hu61 ?_
              rintro p62 _ rfl hp63 ho64
              refine wl_load_p (vs := [(.int .i64 u61)]) (v := (.int .i64 u61)) tf_3 rfl rfl hp63 rfl rfl ?_
              refine wl_assign rfl rfl ?_
              refine wl_assign rfl rfl ?_
              refine WL.nil ?_
              refine fun a ha => hK60 _ _ ?_ a ha
              refine W.region ?_
              refine wl_move rfl rfl ?_
              refine wl_move rfl rfl ?_
              obtain ⟨u65, hu65, hF⟩ := bindE hF
              refine wl_indexo (e := ty_3) (i := 1) Try.underlying23 rfl rfl rfl hS48 rfl hu65 ?_
              rintro p66 _ rfl hp67 ho68
              refine wl_load_p (vs := [(.int .i64 u65)]) (v := (.int .i64 u65)) tf_3 rfl rfl hp67 rfl rfl ?_
              refine wl_move rfl rfl ?_
              refine wl_add rfl rfl rfl ?_
              obtain ⟨u69, hu69, hF⟩ := bindE hF
              refine wl_indexo (e := ty_3) (i := 1) Try.underlying23 rfl rfl rfl hS48 rfl hu69 ?_
              rintro p70 _ rfl hp71 ho72
              refine wl_storeo (i := 1) (o := 0) (vs := [(.int .i64 (w64 (u65 + u61)))]) (u' := (w64 (u65 + u61))) fl_3 tf_3 rfl rfl rfl rfl ho72 hu69 hB47 hS48 rfl rfl ⟨rfl, trivial⟩ rfl ?_
              intro w73 hk76 hB74 hS75
              refine WL.nil ?_
              refine fun a ha => hK59 _ _ ?_ a ha
              refine W.region ?_
              refine wl_add rfl rfl rfl ?_
              refine wl_move rfl rfl ?_
              refine WL.nil ?_
              rw [hnx53] at hF
              exact fun a ha => hKL54 a _ m55 (Nat.lt_succ_self m55) ⟨(seti l49 y52 (w64 (u65 + u61))), (w64 (y52 + 1)), v50, F51, ha.sub ⟨rfl, rfl, rfl, rfl, rfl, rfl, rfl, trivial⟩, hB74, (hS75.sel [0, 1, 2] rfl), hF⟩
            · replace hF := ifN h58 hF
              refine W.exit ?_
              refine fun a ha => hK35 _ _ ?_ a ha
              refine W.region ?_
              refine wl_add rfl rfl rfl ?_
              refine wl_move rfl rfl ?_
              refine WL.nil ?_
              rw [hnx29] at hF
              exact fun a ha => hKL30 a _ m31 (Nat.lt_succ_self m31) ⟨l49, (w64 (y28 + 1)), v50, F51, ha.sub ⟨rfl, rfl, rfl, rfl, trivial⟩, hB47, (hS48.sel [0, 1] rfl), hF⟩
      · replace hF := ifN h34 hF
        refine W.exit ?_
        refine fun a ha => hK20 _ _ ?_ a ha
        refine W.seq fun K77 hK77 => ?_
        refine W.region ?_
        refine wl_move rfl rfl ?_
        refine wl_assign rfl rfl ?_
        refine WL.nil ?_
        refine fun a ha => hK77 _ _ ?_ a ha
        refine W.ret ?_
        have hr := Option.some.inj hF
        subst hr
        exact rets (vs := [v26]) hQ rfl ⟨rv_tmp rfl, trivial⟩ ⟨v26, F27, rfl, hB23, hS24.sel [1] rfl⟩
theorem C_spec_WaySums (w0 : World) (x0 : ((List (List (Int × Int))) × (List Int) × Int × Int)) (v0_0 : Value) (h0_0 : rdS ty_69 (· < w0.heap.size) w0 v0_0 x0.1) (v0_1 : Value) (h0_1 : rdS ty_3 (· < w0.heap.size) w0 v0_1 x0.2.1) (r : ((List Int) × Bool)) (hF : F_spec_WaySums x0 = some r) :
    Calls Try.prog 16 [(.agg #[v0_0, v0_1, (.int .i64 x0.2.2.1), (.int .i64 x0.2.2.2)])].toArray w0 fun e w' => ∃ (q0 : Value) (G0 : List Nat), e = .returned (.tuple #[q0, (.bool r.2)]) ∧ Below w0.heap.size w0 w' ∧ Sep w0.heap.size w' [R.own ty_3 G0 q0 r.1] := by
  refine calls_mk' Try.func16 rfl Try.ntmps16 rfl rfl fun Q hQ hP => ?_
  have hB : Below w0.heap.size w0 w0 := Below.refl _ _
  have hS : Sep w0.heap.size w0 [] := Sep.nil _ _
  unfold F_spec_WaySums at hF
  refine W.seq fun K1 hK1 => ?_
  refine W.region ?_
  refine wl_box (cs := [v0_0, v0_1, (.int .i64 x0.2.2.1), (.int .i64 x0.2.2.2)]) rfl rfl rfl hB hS ?_
  intro b2 w3 hb4 hB5 hS6
  refine wl_assign rfl rfl ?_
  refine wl_assign rfl rfl ?_
  refine WL.nil ?_
  refine fun a ha => hK1 _ _ ?_ a ha
  refine W.seq fun K7 hK7 => ?_
  refine W.seq fun K8 hK8 => ?_
  refine W.region ?_
  refine wl_load_blk (i := 0) (vs := [v0_0, v0_1, (.int .i64 x0.2.2.1), (.int .i64 x0.2.2.2)]) (v := (.agg #[v0_0, v0_1, (.int .i64 x0.2.2.1), (.int .i64 x0.2.2.2)])) tf_31 rfl rfl hS6 rfl rfl rfl ?_
  obtain ⟨u9, hu9, hF⟩ := bindE hF
  refine wl_call rfl Try.call69 (C_spec_swGood w3 x0 v0_0 (h0_0.ro hB5) v0_1 (h0_1.ro hB5) _ hu9) rfl ?_
  rintro _ w10 ⟨rfl, hb11⟩
  refine ⟨_, rfl, ?_⟩
  have hB12 := hB5.trans (hb11.mono hB5.size)
  have hS13 := hS6.below hb11
  refine wl_not rfl rfl ?_
  refine WL.nil ?_
  refine fun a ha => hK8 _ _ ?_ a ha
  refine W.cond rfl (fun h15 => ?_) (fun h15 => ?_)
  · replace hF := ifP h15 hF
    refine W.seq fun K16 hK16 => ?_
    refine W.region ?_
    refine wl_assign rfl rfl ?_
    refine wl_assign rfl rfl ?_
    refine WL.nil ?_
    refine fun a ha => hK16 _ _ ?_ a ha
    refine W.ret ?_
    have hS17 := hS13.push0 (r := R.own ty_3 [] (.slice none 0 0) []) rfl fun _ => .inl ⟨rfl, rfl, rfl⟩
    have hr := Option.some.inj hF
    subst hr
    exact rets (vs := [(.slice none 0 0), (.bool false)]) hQ rfl ⟨rv_tmp rfl, rv_tmp rfl, trivial⟩ ⟨(.slice none 0 0), [], rfl, hB12, hS17.sel [0] rfl⟩
  · replace hF := ifN h15 hF
    refine W.skip ?_
    refine fun a ha => hK7 _ _ ?_ a ha
    refine W.seq fun K18 hK18 => ?_
    refine W.region ?_
    refine wl_load_blk (i := 0) (vs := [v0_0, v0_1, (.int .i64 x0.2.2.1), (.int .i64 x0.2.2.2)]) (v := (.agg #[v0_0, v0_1, (.int .i64 x0.2.2.1), (.int .i64 x0.2.2.2)])) tf_31 rfl rfl hS13 rfl rfl rfl ?_
    obtain ⟨u19, hu19, hF⟩ := bindE hF
    refine wl_call rfl Try.call70 (C_spec_cpWays w10 x0 v0_0 (h0_0.ro hB12) v0_1 (h0_1.ro hB12) _ hu19) rfl ?_
    rintro _ w22 ⟨v20, F21, rfl, hb23, hM26⟩
    refine ⟨_, rfl, ?_⟩
    have hB24 := hB12.trans (hb23.mono hB12.size)
    have hS25 := hS13.join hb23 hM26 hB12.size
    refine wl_assign rfl rfl ?_
    refine wl_assign rfl rfl ?_
    refine WL.nil ?_
    refine fun a ha => hK18 _ _ ?_ a ha
    refine W.ret ?_
    have hr := Option.some.inj hF
    subst hr
    exact rets (vs := [v20, (.bool true)]) hQ rfl ⟨rv_tmp rfl, rv_tmp rfl, trivial⟩ ⟨v20, F21, rfl, hB24, hS25.sel [0] rfl⟩
theorem C_impl_showMoves (w0 : World) (x0 : ((List (List (Int × Int))) × (List Int) × Int × Int)) (v0_0 : Value) (h0_0 : rdS ty_69 (· < w0.heap.size) w0 v0_0 x0.1) (v0_1 : Value) (h0_1 : rdS ty_3 (· < w0.heap.size) w0 v0_1 x0.2.1) (x1 : Int) (r : (List ((Int × Int) × (Int × Int) × Int))) (hF : F_impl_showMoves x0 x1 = some r) :
    Calls Try.prog 106 [(.agg #[v0_0, v0_1, (.int .i64 x0.2.2.1), (.int .i64 x0.2.2.2)]), (.int .i64 x1)].toArray w0 fun e w' => ∃ (q0 : Value) (G0 : List Nat), e = .returned q0 ∧ Below w0.heap.size w0 w' ∧ Sep w0.heap.size w' [R.own ty_123 G0 q0 r] := by
  refine calls_mk' Try.func106 rfl Try.ntmps106 rfl rfl fun Q hQ hP => ?_
  have hB : Below w0.heap.size w0 w0 := Below.refl _ _
  have hS : Sep w0.heap.size w0 [] := Sep.nil _ _
  unfold F_impl_showMoves at hF
  refine W.seq fun K1 hK1 => ?_
  refine W.region ?_
  refine wl_box (cs := [v0_0, v0_1, (.int .i64 x0.2.2.1), (.int .i64 x0.2.2.2)]) rfl rfl rfl hB hS ?_
  intro b2 w3 hb4 hB5 hS6
  refine wl_assign rfl rfl ?_
  refine WL.nil ?_
  refine fun a ha => hK1 _ _ ?_ a ha
  refine W.seq fun K7 hK7 => ?_
  refine W.region ?_
  refine wl_lit (vs := []) (l := []) fl_123 Try.underlying76 rfl rfl rfl rfl rfl rfl hB5 hS6 ?_
  intro v8 F9 w10 hb11 hB12 hS13
  refine wl_assign rfl rfl ?_
  refine WL.nil ?_
  refine fun a ha => hK7 _ _ ?_ a ha
  refine W.seq fun K14 hK14 => ?_
  refine W.seq fun K15 hK15 => ?_
  refine W.region ?_
  refine wl_field (o := 0) (off' := 0) ff_31_0 rfl rfl rfl ?_
  refine wl_load_blk (i := 1) (vs := [v0_0]) (v := v0_0) tf_29 rfl rfl hS13 rfl rfl rfl ?_
  refine wl_move rfl rfl ?_
  obtain ⟨u16, hu16, hF⟩ := bindE hF
  refine wl_index (e := ty_69) Try.underlying29 rfl rfl rfl h0_0 hu16 ?_
  rintro p17 _ ⟨v19, rfl, hv20⟩ hp18
  refine wl_load_p (vs := [v19]) (v := v19) tf_69 rfl rfl (hp18.ro hB12) rfl rfl ?_
  refine wl_lenr (e := ty_116) (l := u16) Try.underlying69 rfl rfl hv20 ?_
  refine wl_move rfl rfl ?_
  refine WL.nil ?_
  refine fun a ha => hK15 _ _ ?_ a ha
  refine W.block ?_
  refine W.loopk (fun m a w21 => ∃ (l24 : (List ((Int × Int) × (Int × Int) × Int))) (y27 : Int) (v25 : Value) (F26 : List Nat), St 41 [(1, (.int .i64 x1)), (2, (.pointer (some ⟨b2, 0, none⟩))), (5, v25), (13, v19), (14, (.int .i64 (List.length u16 : Int))), (15, (.int .i64 y27))] a ∧ Below w0.heap.size w0 w21 ∧ Sep w0.heap.size w21 [R.blk b2 31 [v0_0, v0_1, (.int .i64 x0.2.2.1), (.int .i64 x0.2.2.2)], R.own ty_123 F26 v25 l24] ∧ F_impl_showMoves_L1 u16 x0 x1 m l24 y27 = some r) FU ?_ ?_
  ·
    exact fun a ha => ⟨[], 0, v8, F9, ha.sub ⟨rfl, rfl, rfl, rfl, rfl, rfl, trivial⟩, hB12, (hS13.sel [1, 0] rfl), hF⟩
  ·
    rintro m30 a w21 ⟨l24, y27, v25, F26, ha, hB22, hS23, hF⟩ KL29 hKL29
    refine W.at ?_ ha
    cases m30 with
    | zero => exact noneE hF
    | succ m30 =>
      obtain ⟨nx28, hnx28⟩ : ∃ k, k = F_impl_showMoves_L1 u16 x0 x1 m30 := ⟨_, rfl⟩
      rw [F_impl_showMoves_L1, ← hnx28] at hF
      refine W.seq fun K31 hK31 => ?_
      refine W.region ?_
      refine wl_lss rfl rfl rfl ?_
      refine WL.nil ?_
      refine fun a ha => hK31 _ _ ?_ a ha
      refine W.seq fun K32 hK32 => ?_
      refine W.cond rfl (fun h33 => ?_) (fun h33 => ?_)
      · replace hF := ifP h33 hF
        refine W.skip ?_
        refine fun a ha => hK32 _ _ ?_ a ha
        refine W.seq fun K34 hK34 => ?_
        refine W.block ?_
        refine W.seq fun K35 hK35 => ?_
        refine W.region ?_
        refine wl_move rfl rfl ?_
        obtain ⟨u36, hu36, hF⟩ := bindE hF
        refine wl_index (e := ty_116) Try.underlying69 rfl rfl rfl hv20 hu36 ?_
        rintro p37 _ rfl hp38
        refine wl_load_p (vs := [(.int .i64 u36.1), (.int .i64 u36.2)]) (v := (.agg #[(.int .i64 u36.1), (.int .i64 u36.2)])) tf_116 rfl rfl (hp38.ro hB22) rfl rfl ?_
        refine wl_alloc (cs := [(.int .i64 0), (.int .i64 0)]) tf_116 rfl rfl hB22 hS23 ?_
        intro b39 w40 hb41 hB42 hS43
        refine wl_assign rfl rfl ?_
        refine wl_store_blk (i := 0) (vs := [(.int .i64 u36.1), (.int .i64 u36.2)]) (cs' := [(.int .i64 u36.1), (.int .i64 u36.2)]) tf_116 rfl rfl rfl rfl hB42 hS43 rfl rfl ⟨rfl, rfl, trivial⟩ rfl ?_
        intro w44 hk47 hB45 hS46
        refine WL.nil ?_
        refine fun a ha => hK35 _ _ ?_ a ha
        refine W.regionH mixed_ F26 hB45 hS46 ?_
        intro w48 hb49 hB50 hS51
        have hSW52 := KeepX.refl w48 F26
        refine WH.takex (i := 0) rfl (by kernel_rfl) (by kernel_rfl) (by kernel_rfl) hP hSW52 ?_
        refine pr_move rfl rfl ?_
        refine WH.takex (i := 1) rfl (by kernel_rfl) (by kernel_rfl) (by kernel_rfl) hP hSW52 ?_
        refine pr_load_blk (i := 0) (vs := [(.int .i64 u36.1), (.int .i64 u36.2)]) (v := (.agg #[(.int .i64 u36.1), (.int .i64 u36.2)])) tf_116 rfl rfl hS51 rfl rfl rfl (hS51.disj (i := 0) (j := 2) rfl rfl rfl b39 (by simp [R.blk])) ?_
        refine WH.takex (i := 2) rfl (by kernel_rfl) (by kernel_rfl) (by kernel_rfl) hP hSW52 ?_
        refine pr_field (o := 0) (off' := 0) ff_31_0 rfl rfl rfl ?_
        refine WH.takex (i := 3) rfl (by kernel_rfl) (by kernel_rfl) (by kernel_rfl) hP hSW52 ?_
        refine pr_load_blk (i := 1) (vs := [v0_0]) (v := v0_0) tf_29 rfl rfl hS51 rfl rfl rfl (hS51.disj (i := 1) (j := 2) rfl rfl rfl b2 (by simp [R.blk])) ?_
        refine WH.takex (i := 4) rfl (by kernel_rfl) (by kernel_rfl) (by kernel_rfl) hP hSW52 ?_
        refine pr_move rfl rfl ?_
        refine WH.takex (i := 5) rfl (by kernel_rfl) (by kernel_rfl) (by kernel_rfl) hP hSW52 ?_
        refine pr_add rfl rfl rfl ?_
        obtain ⟨u53, hu53, hF⟩ := bindE hF
        refine WH.takex (i := 6) rfl (by kernel_rfl) (by kernel_rfl) (by kernel_rfl) hP hSW52 ?_
        refine pr_index (e := ty_69) Try.underlying29 rfl rfl rfl h0_0 hu53 ?_
        rintro p54 _ ⟨v56, rfl, hv57⟩ hp55
        refine WH.takex (i := 7) rfl (by kernel_rfl) (by kernel_rfl) (by kernel_rfl) hP hSW52 ?_
        refine pr_load_p (vs := [v56]) (v := v56) tf_69 rfl rfl (hp55.kx hB50 (fun b hb => (((hS51.get (i := 2) rfl).2.1 b hb).1))) rfl rfl ?_
        refine WH.takex (i := 8) rfl (by kernel_rfl) (by kernel_rfl) (by kernel_rfl) hP hSW52 ?_
        refine pr_move rfl rfl ?_
        obtain ⟨u58, hu58, hF⟩ := bindE hF
        refine WH.takex (i := 9) rfl (by kernel_rfl) (by kernel_rfl) (by kernel_rfl) hP hSW52 ?_
        refine pr_index (e := ty_116) Try.underlying69 rfl rfl rfl hv57 hu58 ?_
        rintro p59 _ rfl hp60
        refine WH.takex (i := 10) rfl (by kernel_rfl) (by kernel_rfl) (by kernel_rfl) hP hSW52 ?_
        refine pr_load_p (vs := [(.int .i64 u58.1), (.int .i64 u58.2)]) (v := (.agg #[(.int .i64 u58.1), (.int .i64 u58.2)])) tf_116 rfl rfl (hp60.kx hB50 (fun b hb => (((hS51.get (i := 2) rfl).2.1 b hb).1))) rfl rfl ?_
        refine WH.takex (i := 11) rfl (by kernel_rfl) (by kernel_rfl) (by kernel_rfl) hP hSW52 ?_
        refine pr_field (o := 1) (off' := 1) ff_31_1 rfl rfl rfl ?_
        refine WH.takex (i := 12) rfl (by kernel_rfl) (by kernel_rfl) (by kernel_rfl) hP hSW52 ?_
        refine pr_load_blk (i := 1) (vs := [v0_1]) (v := v0_1) tf_23 rfl rfl hS51 rfl rfl rfl (hS51.disj (i := 1) (j := 2) rfl rfl rfl b2 (by simp [R.blk])) ?_
        refine WH.takex (i := 13) rfl (by kernel_rfl) (by kernel_rfl) (by kernel_rfl) hP hSW52 ?_
        refine pr_move rfl rfl ?_
        obtain ⟨u61, hu61, hF⟩ := bindE hF
        refine WH.takex (i := 14) rfl (by kernel_rfl) (by kernel_rfl) (by kernel_rfl) hP hSW52 ?_
        refine pr_index (e := ty_3) Try.underlying23 rfl rfl rfl h0_1 hu61 ?_
        rintro p62 _ rfl hp63
        refine WH.takex (i := 15) rfl (by kernel_rfl) (by kernel_rfl) (by kernel_rfl) hP hSW52 ?_
        refine pr_load_p (vs := [(.int .i64 u61)]) (v := (.int .i64 u61)) tf_3 rfl rfl (hp63.kx hB50 (fun b hb => (((hS51.get (i := 2) rfl).2.1 b hb).1))) rfl rfl ?_
        refine WH.takex (i := 16) rfl (by kernel_rfl) (by kernel_rfl) (by kernel_rfl) hP hSW52 ?_
        refine pr_build (zs := [(.int .i64 0), (.int .i64 0), (.int .i64 0), (.int .i64 0), (.int .i64 0)]) (out := [(.int .i64 u36.1), (.int .i64 u36.2), (.int .i64 u58.1), (.int .i64 u58.2), (.int .i64 u61)]) (vs := [(.agg #[(.int .i64 u36.1), (.int .i64 u36.2)]), (.agg #[(.int .i64 u58.1), (.int .i64 u58.2)]), (.int .i64 u61)]) (css := [[(.int .i64 u36.1), (.int .i64 u36.2)], [(.int .i64 u58.1), (.int .i64 u58.2)], [(.int .i64 u61)]]) tf_123 pl_123 rfl rfl rfl rfl rfl ?_
        refine WH.one (i := 17) (by kernel_rfl) rfl ?_
        refine wl_lit (vs := [(.agg #[(.int .i64 u36.1), (.int .i64 u36.2), (.int .i64 u58.1), (.int .i64 u58.2), (.int .i64 u61)])]) (l := [(u36, u58, u61)]) fl_123 Try.underlying76 rfl rfl rfl rfl rfl rfl (Below.self w48) (Sep.nil _ _) ?_
        intro v64 F65 w66 hb67 hB70 hM71
        have hB68 := hB50.trans (hb67.mono hB50.size)
        have hS69 := hS51.join hb67 hM71 hB50.size
        have hn72 : ∀ b ∈ F65, w48.heap.size ≤ b := fun b hb => Nat.le_trans hSW52.size ((hM71.1 _ (List.mem_cons_self ..)).2.1 b hb).1
        have hSW73 := hSW52.ext hb67
        have hbS74 : Below w48.heap.size w48 w66 := hb67
        refine WL.nil (WH.ret hSW73 ?_)
        refine WH.one (i := 18) (by kernel_rfl) rfl ?_
        obtain ⟨u75, hu75, hF⟩ := bindE hF
        refine wl_append (i := 3) (S := (· < w66.heap.size)) fl_123 Try.underlying76 rfl rfl rfl hB68 hS69 rfl (hS69.own_ro (i := 0) rfl) hu75 ?_
        intro v76 F77 w78 hk79 hB80 hS81
        have hSW82 := hSW73.wr' hk79.1 hk79.2.1 (fun _ _ h => h)
        refine WL.nil (WH.ret hSW82 ?_)
        refine WH.takex (i := 19) rfl (by kernel_rfl) (by kernel_rfl) (by kernel_rfl) hP hSW82 ?_
        refine pr_assign rfl rfl ?_
        refine WH.done (by kernel_rfl) ?_
        refine fun a ha => hK34 _ _ ?_ a ha
        refine W.region ?_
        refine wl_add rfl rfl rfl ?_
        refine wl_move rfl rfl ?_
        refine WL.nil ?_
        rw [hnx28] at hF
        exact fun a ha => hKL29 a _ m30 (Nat.lt_succ_self m30) ⟨u75, (w64 (y27 + 1)), v76, F77, ha.sub ⟨rfl, rfl, rfl, rfl, rfl, rfl, trivial⟩, hB80, (hS81.sel [2, 3] rfl), hF⟩
      · replace hF := ifN h33 hF
        refine W.exit ?_
        refine fun a ha => hK14 _ _ ?_ a ha
        refine W.seq fun K83 hK83 => ?_
        refine W.region ?_
        refine wl_move rfl rfl ?_
        refine wl_assign rfl rfl ?_
        refine WL.nil ?_
        refine fun a ha => hK83 _ _ ?_ a ha
        refine W.ret ?_
        have hr := Option.some.inj hF
        subst hr
        exact rets (vs := [v25]) hQ rfl ⟨rv_tmp rfl, trivial⟩ ⟨v25, F26, rfl, hB22, hS23.sel [1] rfl⟩
theorem C_impl_squareOf (w0 : World) (x0 : (Int × Int)) (x1 : (Int × Int)) (r : Int) (hF : F_impl_squareOf x0 x1 = some r) :
    Calls Try.prog 126 [(.agg #[(.int .i64 x0.1), (.int .i64 x0.2)]), (.agg #[(.int .i64 x1.1), (.int .i64 x1.2)])].toArray w0 fun e w' => e = .returned (.int .i64 r) ∧ Below w0.heap.size w0 w' := by
  refine calls_mk' Try.func126 rfl Try.ntmps126 rfl rfl fun Q hQ hP => ?_
  have hB : Below w0.heap.size w0 w0 := Below.refl _ _
  have hS : Sep w0.heap.size w0 [] := Sep.nil _ _
  unfold F_impl_squareOf at hF
  refine W.seq fun K1 hK1 => ?_
  refine W.region ?_
  refine wl_box (cs := [(.int .i64 x0.1), (.int .i64 x0.2)]) rfl rfl rfl hB hS ?_
  intro b2 w3 hb4 hB5 hS6
  refine wl_box (cs := [(.int .i64 x1.1), (.int .i64 x1.2)]) rfl rfl rfl hB5 hS6 ?_
  intro b7 w8 hb9 hB10 hS11
  refine wl_assign rfl rfl ?_
  refine WL.nil ?_
  refine fun a ha => hK1 _ _ ?_ a ha
  refine W.seq fun K12 hK12 => ?_
  refine W.region ?_
  refine wl_field (o := 0) (off' := 0) ff_116_0 rfl rfl rfl ?_
  refine wl_load_blk (i := 1) (vs := [(.int .i64 x0.1)]) (v := (.int .i64 x0.1)) tf_3 rfl rfl hS11 rfl rfl rfl ?_
  refine wl_field (o := 0) (off' := 0) ff_116_0 rfl rfl rfl ?_
  refine wl_load_blk (i := 0) (vs := [(.int .i64 x1.1)]) (v := (.int .i64 x1.1)) tf_3 rfl rfl hS11 rfl rfl rfl ?_
  refine wl_sub rfl rfl rfl ?_
  refine wl_field (o := 0) (off' := 0) ff_116_0 rfl rfl rfl ?_
  refine wl_load_blk (i := 1) (vs := [(.int .i64 x0.1)]) (v := (.int .i64 x0.1)) tf_3 rfl rfl hS11 rfl rfl rfl ?_
  refine wl_field (o := 0) (off' := 0) ff_116_0 rfl rfl rfl ?_
  refine wl_load_blk (i := 0) (vs := [(.int .i64 x1.1)]) (v := (.int .i64 x1.1)) tf_3 rfl rfl hS11 rfl rfl rfl ?_
  refine wl_sub rfl rfl rfl ?_
  refine wl_mul rfl rfl rfl ?_
  refine wl_field (o := 1) (off' := 1) ff_116_1 rfl rfl rfl ?_
  refine wl_load_blk (i := 1) (vs := [(.int .i64 x0.2)]) (v := (.int .i64 x0.2)) tf_3 rfl rfl hS11 rfl rfl rfl ?_
  refine wl_field (o := 1) (off' := 1) ff_116_1 rfl rfl rfl ?_
  refine wl_load_blk (i := 0) (vs := [(.int .i64 x1.2)]) (v := (.int .i64 x1.2)) tf_3 rfl rfl hS11 rfl rfl rfl ?_
  refine wl_sub rfl rfl rfl ?_
  refine wl_field (o := 1) (off' := 1) ff_116_1 rfl rfl rfl ?_
  refine wl_load_blk (i := 1) (vs := [(.int .i64 x0.2)]) (v := (.int .i64 x0.2)) tf_3 rfl rfl hS11 rfl rfl rfl ?_
  refine wl_field (o := 1) (off' := 1) ff_116_1 rfl rfl rfl ?_
  refine wl_load_blk (i := 0) (vs := [(.int .i64 x1.2)]) (v := (.int .i64 x1.2)) tf_3 rfl rfl hS11 rfl rfl rfl ?_
  refine wl_sub rfl rfl rfl ?_
  refine wl_mul rfl rfl rfl ?_
  refine wl_add rfl rfl rfl ?_
  refine wl_assign rfl rfl ?_
  refine WL.nil ?_
  refine fun a ha => hK12 _ _ ?_ a ha
  refine W.ret ?_
  have hr := Option.some.inj hF
  subst hr
  exact rets (vs := [(.int .i64 (w64 ((w64 ((w64 (x0.1 - x1.1)) * (w64 (x0.1 - x1.1)))) + (w64 ((w64 (x0.2 - x1.2)) * (w64 (x0.2 - x1.2)))))))]) hQ rfl ⟨rv_tmp rfl, trivial⟩ ⟨rfl, hB10⟩
theorem C_impl_waySums (w0 : World) (x0 : ((List (List (Int × Int))) × (List Int) × Int × Int)) (v0_0 : Value) (h0_0 : rdS ty_69 (· < w0.heap.size) w0 v0_0 x0.1) (v0_1 : Value) (h0_1 : rdS ty_3 (· < w0.heap.size) w0 v0_1 x0.2.1) (r : (List Int)) (hF : F_impl_waySums x0 = some r) :
    Calls Try.prog 74 [(.agg #[v0_0, v0_1, (.int .i64 x0.2.2.1), (.int .i64 x0.2.2.2)])].toArray w0 fun e w' => ∃ (q0 : Value) (G0 : List Nat), e = .returned q0 ∧ Below w0.heap.size w0 w' ∧ Sep w0.heap.size w' [R.own ty_3 G0 q0 r] := by
  refine calls_mk' Try.func74 rfl Try.ntmps74 rfl rfl fun Q hQ hP => ?_
  have hB : Below w0.heap.size w0 w0 := Below.refl _ _
  have hS : Sep w0.heap.size w0 [] := Sep.nil _ _
  unfold F_impl_waySums at hF
  refine W.seq fun K1 hK1 => ?_
  refine W.region ?_
  refine wl_box (cs := [v0_0, v0_1, (.int .i64 x0.2.2.1), (.int .i64 x0.2.2.2)]) rfl rfl rfl hB hS ?_
  intro b2 w3 hb4 hB5 hS6
  refine wl_assign rfl rfl ?_
  refine WL.nil ?_
  refine fun a ha => hK1 _ _ ?_ a ha
  refine W.seq fun K7 hK7 => ?_
  refine W.region ?_
  refine wl_field (o := 0) (off' := 0) ff_31_0 rfl rfl rfl ?_
  refine wl_load_blk (i := 0) (vs := [v0_0]) (v := v0_0) tf_29 rfl rfl hS6 rfl rfl rfl ?_
  obtain ⟨u8, hu8, hF⟩ := bindE hF
  refine wl_index (e := ty_69) Try.underlying29 rfl rfl rfl h0_0 hu8 ?_
  rintro p9 _ ⟨v11, rfl, hv12⟩ hp10
  refine wl_load_p (vs := [v11]) (v := v11) tf_69 rfl rfl (hp10.ro hB5) rfl rfl ?_
  refine wl_lenr (e := ty_116) (l := u8) Try.underlying69 rfl rfl hv12 ?_
  obtain ⟨u13, hu13, hF⟩ := bindE hF
  refine wl_make (e := ty_3) Try.underlying23 rfl rfl hu13 hB5 hS6 ?_
  intro v14 F15 w16 hb17 hB18 hS19
  refine wl_assign rfl rfl ?_
  refine WL.nil ?_
  refine fun a ha => hK7 _ _ ?_ a ha
  refine W.seq fun K20 hK20 => ?_
  refine W.seq fun K21 hK21 => ?_
  refine W.region ?_
  refine wl_field (o := 1) (off' := 1) ff_31_1 rfl rfl rfl ?_
  refine wl_load_blk (i := 1) (vs := [v0_1]) (v := v0_1) tf_23 rfl rfl hS19 rfl rfl rfl ?_
  refine wl_lenr (e := ty_3) (l := x0.2.1) Try.underlying23 rfl rfl h0_1 ?_
  refine wl_move rfl rfl ?_
  refine WL.nil ?_
  refine fun a ha => hK21 _ _ ?_ a ha
  refine W.block ?_
  refine W.loopk (fun m a w22 => ∃ (l25 : (List Int)) (y28 : Int) (v26 : Value) (F27 : List Nat), St 42 [(1, (.pointer (some ⟨b2, 0, none⟩))), (3, v26), (15, (.int .i64 (List.length x0.2.1 : Int))), (16, (.int .i64 y28))] a ∧ Below w0.heap.size w0 w22 ∧ Sep w0.heap.size w22 [R.blk b2 31 [v0_0, v0_1, (.int .i64 x0.2.2.1), (.int .i64 x0.2.2.2)], R.own ty_3 F27 v26 l25] ∧ F_impl_waySums_L1 x0 m l25 y28 = some r) FU ?_ ?_
  ·
    exact fun a ha => ⟨u13, 0, v14, F15, ha.sub ⟨rfl, rfl, rfl, rfl, trivial⟩, hB18, (hS19.sel [1, 0] rfl), hF⟩
  ·
    rintro m31 a w22 ⟨l25, y28, v26, F27, ha, hB23, hS24, hF⟩ KL30 hKL30
    refine W.at ?_ ha
    cases m31 with
    | zero => exact noneE hF
    | succ m31 =>
      obtain ⟨nx29, hnx29⟩ : ∃ k, k = F_impl_waySums_L1 x0 m31 := ⟨_, rfl⟩
      rw [F_impl_waySums_L1, ← hnx29] at hF
      refine W.seq fun K32 hK32 => ?_
      refine W.region ?_
      refine wl_lss rfl rfl rfl ?_
      refine WL.nil ?_
      refine fun a ha => hK32 _ _ ?_ a ha
      refine W.seq fun K33 hK33 => ?_
      refine W.cond rfl (fun h34 => ?_) (fun h34 => ?_)
      · replace hF := ifP h34 hF
        refine W.skip ?_
        refine fun a ha => hK33 _ _ ?_ a ha
        refine W.seq fun K35 hK35 => ?_
        refine W.block ?_
        refine W.seq fun K36 hK36 => ?_
        refine W.region ?_
        refine wl_move rfl rfl ?_
        refine wl_assign rfl rfl ?_
        refine WL.nil ?_
        refine fun a ha => hK36 _ _ ?_ a ha
        refine W.seq fun K37 hK37 => ?_
        refine W.region ?_
        refine wl_load_blk (i := 0) (vs := [v0_0, v0_1, (.int .i64 x0.2.2.1), (.int .i64 x0.2.2.2)]) (v := (.agg #[v0_0, v0_1, (.int .i64 x0.2.2.1), (.int .i64 x0.2.2.2)])) tf_31 rfl rfl hS24 rfl rfl rfl ?_
        refine wl_move rfl rfl ?_
        obtain ⟨u38, hu38, hF⟩ := bindE hF
        refine wl_call rfl Try.call106 (C_impl_showMoves w22 x0 v0_0 (h0_0.ro hB23) v0_1 (h0_1.ro hB23) y28 _ hu38) rfl ?_
        rintro _ w41 ⟨v39, F40, rfl, hb42, hM45⟩
        refine ⟨_, rfl, ?_⟩
        have hB43 := hB23.trans (hb42.mono hB23.size)
        have hS44 := hS24.join hb42 hM45 hB23.size
        refine wl_lenr (e := ty_123) (l := u38) Try.underlying76 rfl rfl (hS44.own_ro (i := 0) rfl) ?_
        refine wl_move rfl rfl ?_
        refine WL.nil ?_
        refine fun a ha => hK37 _ _ ?_ a ha
        refine W.block ?_
        refine W.loopk (fun m a w46 => ∃ (l49 : (List Int)) (y52 : Int) (v50 : Value) (F51 : List Nat), St 42 [(1, (.pointer (some ⟨b2, 0, none⟩))), (3, v50), (15, (.int .i64 (List.length x0.2.1 : Int))), (16, (.int .i64 y28)), (21, v39), (22, (.int .i64 (List.length u38 : Int))), (23, (.int .i64 y52))] a ∧ Below w0.heap.size w0 w46 ∧ Sep w0.heap.size w46 [R.blk b2 31 [v0_0, v0_1, (.int .i64 x0.2.2.1), (.int .i64 x0.2.2.2)], R.own ty_3 F51 v50 l49, R.own ty_123 F40 v39 u38] ∧ F_impl_waySums_L2 u38 nx29 y28 m l49 y52 = some r) FU ?_ ?_
        ·
          exact fun a ha => ⟨l25, 0, v26, F27, ha.sub ⟨rfl, rfl, rfl, rfl, rfl, rfl, rfl, trivial⟩, hB43, (hS44.sel [1, 2, 0] rfl), hF⟩
        ·
          rintro m55 a w46 ⟨l49, y52, v50, F51, ha, hB47, hS48, hF⟩ KL54 hKL54
          refine W.at ?_ ha
          cases m55 with
          | zero => exact noneE hF
          | succ m55 =>
            obtain ⟨nx53, hnx53⟩ : ∃ k, k = F_impl_waySums_L2 u38 nx29 y28 m55 := ⟨_, rfl⟩
            rw [F_impl_waySums_L2, ← hnx53] at hF
            refine W.seq fun K56 hK56 => ?_
            refine W.region ?_
            refine wl_lss rfl rfl rfl ?_
            refine WL.nil ?_
            refine fun a ha => hK56 _ _ ?_ a ha
            refine W.seq fun K57 hK57 => ?_
            refine W.cond rfl (fun h58 => ?_) (fun h58 => ?_)
            · replace hF := ifP h58 hF
              refine W.skip ?_
              refine fun a ha => hK57 _ _ ?_ a ha
              refine W.seq fun K59 hK59 => ?_
              obtain ⟨k66, hk66, hF⟩ := jE1 hF
              have hJ67 : ∀ (l63 : (List Int)) (v64 : Value) (F65 : List Nat) (w60 : World) (_ : k66 l63 = some r) (_ : Below w0.heap.size w0 w60) (_ : Sep w0.heap.size w60 [R.blk b2 31 [v0_0, v0_1, (.int .i64 x0.2.2.1), (.int .i64 x0.2.2.2)], R.own ty_3 F65 v64 l63, R.own ty_123 F40 v39 u38]), ∀ a, St 42 [(1, (.pointer (some ⟨b2, 0, none⟩))), (3, v64), (15, (.int .i64 (List.length x0.2.1 : Int))), (16, (.int .i64 y28)), (21, v39), (22, (.int .i64 (List.length u38 : Int))), (23, (.int .i64 y52))] a → K59 a w60 := by
                intro l63 v64 F65 w60 hF hB61 hS62
                subst hk66
                refine fun a ha => hK59 _ _ ?_ a ha
                refine W.region ?_
                refine wl_add rfl rfl rfl ?_
                refine wl_move rfl rfl ?_
                refine WL.nil ?_
                rw [hnx53] at hF
                exact fun a ha => hKL54 a _ m55 (Nat.lt_succ_self m55) ⟨l63, (w64 (y52 + 1)), v64, F65, ha.sub ⟨rfl, rfl, rfl, rfl, rfl, rfl, rfl, trivial⟩, hB61, (hS62.sel [0, 1, 2] rfl), hF⟩
              refine W.block ?_
              refine W.seq fun K68 hK68 => ?_
              refine W.region ?_
              refine wl_move rfl rfl ?_
              obtain ⟨u69, hu69, hF⟩ := bindE hF
              refine wl_indexo (e := ty_123) (i := 2) Try.underlying76 rfl rfl rfl hS48 rfl hu69 ?_
              rintro p70 _ rfl hp71 ho72
              refine wl_load_p (vs := [(.int .i64 u69.1.1), (.int .i64 u69.1.2), (.int .i64 u69.2.1.1), (.int .i64 u69.2.1.2), (.int .i64 u69.2.2)]) (v := (.agg #[(.int .i64 u69.1.1), (.int .i64 u69.1.2), (.int .i64 u69.2.1.1), (.int .i64 u69.2.1.2), (.int .i64 u69.2.2)])) tf_123 rfl rfl hp71 rfl rfl ?_
              refine wl_alloc (cs := [(.int .i64 0), (.int .i64 0), (.int .i64 0), (.int .i64 0), (.int .i64 0)]) tf_123 rfl rfl hB47 hS48 ?_
              intro b73 w74 hb75 hB76 hS77
              refine wl_assign rfl rfl ?_
              refine wl_store_blk (i := 0) (vs := [(.int .i64 u69.1.1), (.int .i64 u69.1.2), (.int .i64 u69.2.1.1), (.int .i64 u69.2.1.2), (.int .i64 u69.2.2)]) (cs' := [(.int .i64 u69.1.1), (.int .i64 u69.1.2), (.int .i64 u69.2.1.1), (.int .i64 u69.2.1.2), (.int .i64 u69.2.2)]) tf_123 rfl rfl rfl rfl hB76 hS77 rfl rfl ⟨rfl, rfl, rfl, rfl, rfl, trivial⟩ rfl ?_
              intro w78 hk81 hB79 hS80
              refine WL.nil ?_
              refine fun a ha => hK68 _ _ ?_ a ha
              refine W.regionH mixed_ F51 hB79 hS80 ?_
              intro w82 hb83 hB84 hS85
              have hSW86 := KeepX.refl w82 F51
              refine WH.takex (i := 0) rfl (by kernel_rfl) (by kernel_rfl) (by kernel_rfl) hP hSW86 ?_
              refine pr_move rfl rfl ?_
              refine WH.takex (i := 1) rfl (by kernel_rfl) (by kernel_rfl) (by kernel_rfl) hP hSW86 ?_
              refine pr_move rfl rfl ?_
              obtain ⟨u87, hu87, hF⟩ := bindE hF
              refine WH.takex (i := 2) rfl (by kernel_rfl) (by kernel_rfl) (by kernel_rfl) hP hSW86 ?_
              refine pr_indexo (e := ty_3) (i := 2) Try.underlying23 rfl rfl rfl hS85 rfl hu87 ?_
              rintro p88 _ rfl hp89 ho90
              refine WH.takex (i := 4) rfl (by kernel_rfl) (by kernel_rfl) (by kernel_rfl) hP hSW86 ?_
              refine pr_field (o := 0) (off' := 0) ff_123_0 rfl rfl rfl ?_
              refine WH.takex (i := 5) rfl (by kernel_rfl) (by kernel_rfl) (by kernel_rfl) hP hSW86 ?_
              refine pr_load_blk (i := 0) (vs := [(.int .i64 u69.1.1), (.int .i64 u69.1.2)]) (v := (.agg #[(.int .i64 u69.1.1), (.int .i64 u69.1.2)])) tf_116 rfl rfl hS85 rfl rfl rfl (hS85.disj (i := 0) (j := 2) rfl rfl rfl b73 (by simp [R.blk])) ?_
              refine WH.takex (i := 6) rfl (by kernel_rfl) (by kernel_rfl) (by kernel_rfl) hP hSW86 ?_
              refine pr_field (o := 2) (off' := 2) ff_123_1 rfl rfl rfl ?_
              refine WH.takex (i := 7) rfl (by kernel_rfl) (by kernel_rfl) (by kernel_rfl) hP hSW86 ?_
              refine pr_load_blk (i := 0) (vs := [(.int .i64 u69.2.1.1), (.int .i64 u69.2.1.2)]) (v := (.agg #[(.int .i64 u69.2.1.1), (.int .i64 u69.2.1.2)])) tf_116 rfl rfl hS85 rfl rfl rfl (hS85.disj (i := 0) (j := 2) rfl rfl rfl b73 (by simp [R.blk])) ?_
              refine WH.many (is := [3, 8]) (by kernel_rfl) rfl ?_
              refine List.forall_mem_cons.2 ⟨⟨_, rfl, ?_⟩, List.forall_mem_cons.2 ⟨⟨_, rfl, ?_⟩, fun _ h => by cases h⟩⟩
              ·
                refine wl_load_p (vs := [(.int .i64 u87)]) (v := (.int .i64 u87)) tf_3 rfl rfl hp89 rfl rfl ?_
                refine WL.nil (WH.ret hSW86 ?_)
                refine WH.one (i := 8) (by kernel_rfl) rfl ?_
                obtain ⟨u91, hu91, hF⟩ := bindE hF
                refine wl_call rfl Try.call126 (C_impl_squareOf w82 u69.1 u69.2.1 _ hu91) rfl ?_
                rintro _ w92 ⟨rfl, hb93⟩
                refine ⟨_, rfl, ?_⟩
                have hB94 := hB84.trans (hb93.mono hB84.size)
                have hS95 := hS85.below hb93
                have hSW97 := hSW86.ext hb93
                have hbS98 : Below w82.heap.size w82 w92 := hb93
                refine WL.nil (WH.ret hSW97 ?_)
                refine WH.takex (i := 9) rfl (by kernel_rfl) (by kernel_rfl) (by kernel_rfl) hP hSW97 ?_
                refine pr_add rfl rfl rfl ?_
                refine WH.one (i := 10) (by kernel_rfl) rfl ?_
                obtain ⟨u99, hu99, hF⟩ := bindE hF
                refine wl_indexo (e := ty_3) (i := 2) Try.underlying23 rfl rfl rfl hS95 rfl hu99 ?_
                rintro p100 _ rfl hp101 ho102
                refine WL.nil (WH.ret hSW97 ?_)
                refine WH.one (i := 11) (by kernel_rfl) rfl ?_
                refine wl_storeo (i := 2) (o := 0) (vs := [(.int .i64 (w64 (u87 + u91)))]) (u' := (w64 (u87 + u91))) fl_3 tf_3 rfl rfl rfl rfl ho102 hu99 hB94 hS95 rfl rfl ⟨rfl, trivial⟩ rfl ?_
                intro w103 hk106 hB104 hS105
                have hSW107 := hSW97.wr' hk106.1 hk106.2.1 (fun _ _ h => h)
                refine WL.nil (WH.ret hSW107 ?_)
                refine WH.done (by kernel_rfl) ?_
                exact fun a ha => hJ67 ((seti l49 y52 (w64 (u87 + u91)))) (v50) (F51) _ hF hB104 (hS105.sel [1, 2, 3] rfl) a (ha.sub ⟨rfl, rfl, rfl, rfl, rfl, rfl, rfl, trivial⟩)
              ·
                obtain ⟨u108, hu108, hF⟩ := bindE hF
                refine wl_call rfl Try.call126 (C_impl_squareOf w82 u69.1 u69.2.1 _ hu108) rfl ?_
                rintro _ w109 ⟨rfl, hb110⟩
                refine ⟨_, rfl, ?_⟩
                have hB111 := hB84.trans (hb110.mono hB84.size)
                have hS112 := hS85.below hb110
                have hSW114 := hSW86.ext hb110
                have hbS115 : Below w82.heap.size w82 w109 := hb110
                refine WL.nil (WH.ret hSW114 ?_)
                refine WH.one (i := 3) (by kernel_rfl) rfl ?_
                refine wl_load_p (vs := [(.int .i64 u87)]) (v := (.int .i64 u87)) tf_3 rfl rfl (hp89.ro hbS115) rfl rfl ?_
                refine WL.nil (WH.ret hSW114 ?_)
                refine WH.takex (i := 9) rfl (by kernel_rfl) (by kernel_rfl) (by kernel_rfl) hP hSW114 ?_
                refine pr_add rfl rfl rfl ?_
                refine WH.one (i := 10) (by kernel_rfl) rfl ?_
                obtain ⟨u116, hu116, hF⟩ := bindE hF
                refine wl_indexo (e := ty_3) (i := 2) Try.underlying23 rfl rfl rfl hS112 rfl hu116 ?_
                rintro p117 _ rfl hp118 ho119
                refine WL.nil (WH.ret hSW114 ?_)
                refine WH.one (i := 11) (by kernel_rfl) rfl ?_
                refine wl_storeo (i := 2) (o := 0) (vs := [(.int .i64 (w64 (u87 + u108)))]) (u' := (w64 (u87 + u108))) fl_3 tf_3 rfl rfl rfl rfl ho119 hu116 hB111 hS112 rfl rfl ⟨rfl, trivial⟩ rfl ?_
                intro w120 hk123 hB121 hS122
                have hSW124 := hSW114.wr' hk123.1 hk123.2.1 (fun _ _ h => h)
                refine WL.nil (WH.ret hSW124 ?_)
                refine WH.done (by kernel_rfl) ?_
                exact fun a ha => hJ67 ((seti l49 y52 (w64 (u87 + u108)))) (v50) (F51) _ hF hB121 (hS122.sel [1, 2, 3] rfl) a (ha.sub ⟨rfl, rfl, rfl, rfl, rfl, rfl, rfl, trivial⟩)
            · replace hF := ifN h58 hF
              refine W.exit ?_
              refine fun a ha => hK35 _ _ ?_ a ha
              refine W.region ?_
              refine wl_add rfl rfl rfl ?_
              refine wl_move rfl rfl ?_
              refine WL.nil ?_
              rw [hnx29] at hF
              exact fun a ha => hKL30 a _ m31 (Nat.lt_succ_self m31) ⟨l49, (w64 (y28 + 1)), v50, F51, ha.sub ⟨rfl, rfl, rfl, rfl, trivial⟩, hB47, (hS48.sel [0, 1] rfl), hF⟩
      · replace hF := ifN h34 hF
        refine W.exit ?_
        refine fun a ha => hK20 _ _ ?_ a ha
        refine W.seq fun K125 hK125 => ?_
        refine W.region ?_
        refine wl_move rfl rfl ?_
        refine wl_assign rfl rfl ?_
        refine WL.nil ?_
        refine fun a ha => hK125 _ _ ?_ a ha
        refine W.ret ?_
        have hr := Option.some.inj hF
        subst hr
        exact rets (vs := [v26]) hQ rfl ⟨rv_tmp rfl, trivial⟩ ⟨v26, F27, rfl, hB23, hS24.sel [1] rfl⟩
theorem C_impl_WaySums (w0 : World) (x0 : ((List (List (Int × Int))) × (List Int) × Int × Int)) (v0_0 : Value) (h0_0 : rdS ty_69 (· < w0.heap.size) w0 v0_0 x0.1) (v0_1 : Value) (h0_1 : rdS ty_3 (· < w0.heap.size) w0 v0_1 x0.2.1) (r : ((List Int) × Bool)) (hF : F_impl_WaySums x0 = some r) :
    Calls Try.prog 18 [(.agg #[v0_0, v0_1, (.int .i64 x0.2.2.1), (.int .i64 x0.2.2.2)])].toArray w0 fun e w' => ∃ (q0 : Value) (G0 : List Nat), e = .returned (.tuple #[q0, (.bool r.2)]) ∧ Below w0.heap.size w0 w' ∧ Sep w0.heap.size w' [R.own ty_3 G0 q0 r.1] := by
  refine calls_mk' Try.func18 rfl Try.ntmps18 rfl rfl fun Q hQ hP => ?_
  have hB : Below w0.heap.size w0 w0 := Below.refl _ _
  have hS : Sep w0.heap.size w0 [] := Sep.nil _ _
  unfold F_impl_WaySums at hF
  refine W.seq fun K1 hK1 => ?_
  refine W.region ?_
  refine wl_box (cs := [v0_0, v0_1, (.int .i64 x0.2.2.1), (.int .i64 x0.2.2.2)]) rfl rfl rfl hB hS ?_
  intro b2 w3 hb4 hB5 hS6
  refine wl_assign rfl rfl ?_
  refine wl_assign rfl rfl ?_
  refine WL.nil ?_
  refine fun a ha => hK1 _ _ ?_ a ha
  refine W.seq fun K7 hK7 => ?_
  refine W.seq fun K8 hK8 => ?_
  refine W.region ?_
  refine wl_load_blk (i := 0) (vs := [v0_0, v0_1, (.int .i64 x0.2.2.1), (.int .i64 x0.2.2.2)]) (v := (.agg #[v0_0, v0_1, (.int .i64 x0.2.2.1), (.int .i64 x0.2.2.2)])) tf_31 rfl rfl hS6 rfl rfl rfl ?_
  obtain ⟨u9, hu9, hF⟩ := bindE hF
  refine wl_call rfl Try.call73 (C_impl_IsShow w3 x0 v0_0 (h0_0.ro hB5) v0_1 (h0_1.ro hB5) _ hu9) rfl ?_
  rintro _ w10 ⟨rfl, hb11⟩
  refine ⟨_, rfl, ?_⟩
  have hB12 := hB5.trans (hb11.mono hB5.size)
  have hS13 := hS6.below hb11
  refine wl_not rfl rfl ?_
  refine WL.nil ?_
  refine fun a ha => hK8 _ _ ?_ a ha
  refine W.cond rfl (fun h15 => ?_) (fun h15 => ?_)
  · replace hF := ifP h15 hF
    refine W.seq fun K16 hK16 => ?_
    refine W.region ?_
    refine wl_assign rfl rfl ?_
    refine wl_assign rfl rfl ?_
    refine WL.nil ?_
    refine fun a ha => hK16 _ _ ?_ a ha
    refine W.ret ?_
    have hS17 := hS13.push0 (r := R.own ty_3 [] (.slice none 0 0) []) rfl fun _ => .inl ⟨rfl, rfl, rfl⟩
    have hr := Option.some.inj hF
    subst hr
    exact rets (vs := [(.slice none 0 0), (.bool false)]) hQ rfl ⟨rv_tmp rfl, rv_tmp rfl, trivial⟩ ⟨(.slice none 0 0), [], rfl, hB12, hS17.sel [0] rfl⟩
  · replace hF := ifN h15 hF
    refine W.skip ?_
    refine fun a ha => hK7 _ _ ?_ a ha
    refine W.seq fun K18 hK18 => ?_
    refine W.region ?_
    refine wl_load_blk (i := 0) (vs := [v0_0, v0_1, (.int .i64 x0.2.2.1), (.int .i64 x0.2.2.2)]) (v := (.agg #[v0_0, v0_1, (.int .i64 x0.2.2.1), (.int .i64 x0.2.2.2)])) tf_31 rfl rfl hS13 rfl rfl rfl ?_
    obtain ⟨u19, hu19, hF⟩ := bindE hF
    refine wl_call rfl Try.call74 (C_impl_waySums w10 x0 v0_0 (h0_0.ro hB12) v0_1 (h0_1.ro hB12) _ hu19) rfl ?_
    rintro _ w22 ⟨v20, F21, rfl, hb23, hM26⟩
    refine ⟨_, rfl, ?_⟩
    have hB24 := hB12.trans (hb23.mono hB12.size)
    have hS25 := hS13.join hb23 hM26 hB12.size
    refine wl_assign rfl rfl ?_
    refine wl_assign rfl rfl ?_
    refine WL.nil ?_
    refine fun a ha => hK18 _ _ ?_ a ha
    refine W.ret ?_
    have hr := Option.some.inj hF
    subst hr
    exact rets (vs := [v20, (.bool true)]) hQ rfl ⟨rv_tmp rfl, rv_tmp rfl, trivial⟩ ⟨v20, F21, rfl, hB24, hS25.sel [0] rfl⟩
theorem C_laws_markSpotS (w0 : World) (x0 : (List (Int × Int))) (v0_0 : Value) (B0_0 : List Nat) (x1 : Int) (hS0 : Sep 0 w0 [R.own ty_116 B0_0 v0_0 x0]) (r : (Int × (List (Int × Int)))) (hF : F_laws_markSpotS x0 x1 = some r) :
    Calls Try.prog 49 [v0_0, (.int .i64 x1)].toArray w0 fun e w' => e = .returned (.int .i64 r.1) ∧ Below 0 (wE w0) w' ∧ Sep 0 w' [R.rest w0 (fps [R.own ty_116 B0_0 v0_0 x0]), R.own ty_116 B0_0 v0_0 r.2] := by
  refine calls_mk' Try.func49 rfl Try.ntmps49 rfl rfl fun Q hQ hP => ?_
  have hB : Below (wE w0).heap.size (wE w0) w0 := wE_below w0
  have hS : Sep (wE w0).heap.size w0 [R.rest w0 (fps [R.own ty_116 B0_0 v0_0 x0]), R.own ty_116 B0_0 v0_0 x0] := hS0.rest
  unfold F_laws_markSpotS at hF
  refine W.seq fun K1 hK1 => ?_
  refine W.region ?_
  refine wl_assign rfl rfl ?_
  refine WL.nil ?_
  refine fun a ha => hK1 _ _ ?_ a ha
  refine W.seq fun K2 hK2 => ?_
  refine W.seq fun K3 hK3 => ?_
  refine W.region ?_
  refine wl_assign rfl rfl ?_
  refine WL.nil ?_
  refine fun a ha => hK3 _ _ ?_ a ha
  refine W.block ?_
  refine W.loopk (fun m a w4 => ∃ (l7 : (List (Int × Int))) (y8 : Int) (y9 : Int), St 27 [(0, v0_0), (1, (.int .i64 y8)), (5, (.int .i64 y9))] a ∧ Below (wE w0).heap.size (wE w0) w4 ∧ Sep (wE w0).heap.size w4 [R.rest w0 (fps [R.own ty_116 B0_0 v0_0 x0]), R.own ty_116 B0_0 v0_0 l7] ∧ F_laws_markSpotS_L1 m l7 y8 y9 = some r) FU ?_ ?_
  ·
    exact fun a ha => ⟨x0, x1, 0, ha.sub ⟨rfl, rfl, rfl, trivial⟩, hB, (hS.sel [0, 1] rfl), hF⟩
  ·
    rintro m12 a w4 ⟨l7, y8, y9, ha, hB5, hS6, hF⟩ KL11 hKL11
    refine W.at ?_ ha
    cases m12 with
    | zero => exact noneE hF
    | succ m12 =>
      obtain ⟨nx10, hnx10⟩ : ∃ k, k = F_laws_markSpotS_L1 m12 := ⟨_, rfl⟩
      rw [F_laws_markSpotS_L1, ← hnx10] at hF
      refine W.seq fun K13 hK13 => ?_
      refine W.seq fun K14 hK14 => ?_
      refine W.region ?_
      refine wl_move rfl rfl ?_
      refine wl_move rfl rfl ?_
      refine wl_lenr (e := ty_116) (l := l7) Try.underlying69 rfl rfl (hS6.own_ro (i := 1) rfl) ?_
      refine wl_lss rfl rfl rfl ?_
      refine WL.nil ?_
      refine fun a ha => hK14 _ _ ?_ a ha
      refine W.cond rfl (fun h15 => ?_) (fun h15 => ?_)
      · replace hF := ifP h15 hF
        refine W.skip ?_
        refine fun a ha => hK13 _ _ ?_ a ha
        refine W.seq fun K16 hK16 => ?_
        refine W.block ?_
        refine W.seq fun K17 hK17 => ?_
        refine W.region ?_
        refine wl_move rfl rfl ?_
        refine wl_move rfl rfl ?_
        refine wl_move rfl rfl ?_
        obtain ⟨u18, hu18, hF⟩ := bindE hF
        refine wl_indexo (e := ty_116) (i := 1) Try.underlying69 rfl rfl rfl hS6 rfl hu18 ?_
        rintro p19 _ rfl hp20 ho21
        refine wl_fieldp (o := 0) ff_116_0 rfl rfl ?_
        refine wl_storeo (i := 1) (o := 0) (vs := [(.int .i64 y8)]) (u' := (y8, u18.2)) fl_116 tf_3 rfl rfl rfl rfl ho21 hu18 hB5 hS6 rfl rfl ⟨rfl, trivial⟩ rfl ?_
        intro w22 hk25 hB23 hS24
        refine WL.nil ?_
        refine fun a ha => hK17 _ _ ?_ a ha
        refine W.seq fun K26 hK26 => ?_
        refine W.region ?_
        refine wl_move rfl rfl ?_
        refine wl_add rfl rfl rfl ?_
        refine wl_assign rfl rfl ?_
        refine WL.nil ?_
        refine fun a ha => hK26 _ _ ?_ a ha
        refine W.seq fun K27 hK27 => ?_
        refine W.region ?_
        refine wl_move rfl rfl ?_
        refine wl_move rfl rfl ?_
        refine wl_move rfl rfl ?_
        obtain ⟨u28, hu28, hF⟩ := bindE hF
        refine wl_indexo (e := ty_116) (i := 1) Try.underlying69 rfl rfl rfl hS24 rfl hu28 ?_
        rintro p29 _ rfl hp30 ho31
        refine wl_fieldp (o := 1) ff_116_1 rfl rfl ?_
        refine wl_storeo (i := 1) (o := 1) (vs := [(.int .i64 (w64 (y8 + 1)))]) (u' := (u28.1, (w64 (y8 + 1)))) fl_116 tf_3 rfl rfl rfl rfl (ho31.add 1) hu28 hB23 hS24 rfl rfl ⟨rfl, trivial⟩ rfl ?_
        intro w32 hk35 hB33 hS34
        refine WL.nil ?_
        refine fun a ha => hK27 _ _ ?_ a ha
        refine W.region ?_
        refine wl_move rfl rfl ?_
        refine wl_add rfl rfl rfl ?_
        refine wl_assign rfl rfl ?_
        refine WL.nil ?_
        refine fun a ha => hK16 _ _ ?_ a ha
        refine W.region ?_
        refine wl_move rfl rfl ?_
        refine wl_add rfl rfl rfl ?_
        refine wl_assign rfl rfl ?_
        refine WL.nil ?_
        rw [hnx10] at hF
        exact fun a ha => hKL11 a _ m12 (Nat.lt_succ_self m12) ⟨(seti (seti l7 y9 (y8, u18.2)) y9 (u28.1, (w64 (y8 + 1)))), (w64 ((w64 (y8 + 1)) + 1)), (w64 (y9 + 1)), ha.sub ⟨rfl, rfl, rfl, trivial⟩, hB33, (hS34.sel [0, 1] rfl), hF⟩
      · replace hF := ifN h15 hF
        refine W.exit ?_
        refine fun a ha => hK2 _ _ ?_ a ha
        refine W.seq fun K36 hK36 => ?_
        refine W.region ?_
        refine wl_move rfl rfl ?_
        refine wl_assign rfl rfl ?_
        refine WL.nil ?_
        refine fun a ha => hK36 _ _ ?_ a ha
        refine W.ret ?_
        have hr := Option.some.inj hF
        subst hr
        exact rets (vs := [(.int .i64 y8)]) hQ rfl ⟨rv_tmp rfl, trivial⟩ ⟨rfl, hB5, hS6.sel [0, 1] rfl⟩
theorem C_laws_markSpotSS (w0 : World) (x0 : (List (List (Int × Int)))) (v0_0 : Value) (B0_0 : List Nat) (x1 : Int) (hS0 : Sep 0 w0 [R.own ty_69 B0_0 v0_0 x0]) (r : (Int × (List (List (Int × Int))))) (hF : F_laws_markSpotSS x0 x1 = some r) :
    Calls Try.prog 76 [v0_0, (.int .i64 x1)].toArray w0 fun e w' => e = .returned (.int .i64 r.1) ∧ Below 0 (wE w0) w' ∧ Sep 0 w' [R.rest w0 (fps [R.own ty_69 B0_0 v0_0 x0]), R.own ty_69 B0_0 v0_0 r.2] := by
  refine calls_mk' Try.func76 rfl Try.ntmps76 rfl rfl fun Q hQ hP => ?_
  have hB : Below (wE w0).heap.size (wE w0) w0 := wE_below w0
  have hS : Sep (wE w0).heap.size w0 [R.rest w0 (fps [R.own ty_69 B0_0 v0_0 x0]), R.own ty_69 B0_0 v0_0 x0] := hS0.rest
  unfold F_laws_markSpotSS at hF
  refine W.seq fun K1 hK1 => ?_
  refine W.region ?_
  refine wl_assign rfl rfl ?_
  refine WL.nil ?_
  refine fun a ha => hK1 _ _ ?_ a ha
  refine W.seq fun K2 hK2 => ?_
  refine W.seq fun K3 hK3 => ?_
  refine W.region ?_
  refine wl_assign rfl rfl ?_
  refine WL.nil ?_
  refine fun a ha => hK3 _ _ ?_ a ha
  refine W.block ?_
  refine W.loopk (fun m a w4 => ∃ (l7 : (List (List (Int × Int)))) (y8 : Int) (y9 : Int), St 19 [(0, v0_0), (1, (.int .i64 y8)), (5, (.int .i64 y9))] a ∧ Below (wE w0).heap.size (wE w0) w4 ∧ Sep (wE w0).heap.size w4 [R.rest w0 (fps [R.own ty_69 B0_0 v0_0 x0]), R.own ty_69 B0_0 v0_0 l7] ∧ F_laws_markSpotSS_L1 m l7 y8 y9 = some r) FU ?_ ?_
  ·
    exact fun a ha => ⟨x0, x1, 0, ha.sub ⟨rfl, rfl, rfl, trivial⟩, hB, (hS.sel [0, 1] rfl), hF⟩
  ·
    rintro m12 a w4 ⟨l7, y8, y9, ha, hB5, hS6, hF⟩ KL11 hKL11
    refine W.at ?_ ha
    cases m12 with
    | zero => exact noneE hF
    | succ m12 =>
      obtain ⟨nx10, hnx10⟩ : ∃ k, k = F_laws_markSpotSS_L1 m12 := ⟨_, rfl⟩
      rw [F_laws_markSpotSS_L1, ← hnx10] at hF
      refine W.seq fun K13 hK13 => ?_
      refine W.seq fun K14 hK14 => ?_
      refine W.region ?_
      refine wl_move rfl rfl ?_
      refine wl_move rfl rfl ?_
      refine wl_lenr (e := ty_69) (l := l7) Try.underlying29 rfl rfl (hS6.own_ro (i := 1) rfl) ?_
      refine wl_lss rfl rfl rfl ?_
      refine WL.nil ?_
      refine fun a ha => hK14 _ _ ?_ a ha
      refine W.cond rfl (fun h15 => ?_) (fun h15 => ?_)
      · replace hF := ifP h15 hF
        refine W.skip ?_
        refine fun a ha => hK13 _ _ ?_ a ha
        refine W.seq fun K16 hK16 => ?_
        refine W.block ?_
        refine W.region ?_
        refine wl_move rfl rfl ?_
        refine wl_move rfl rfl ?_
        obtain ⟨u17, hu17, hF⟩ := bindE hF
        refine wl_indexo (e := ty_69) (i := 1) Try.underlying29 rfl rfl rfl hS6 rfl hu17 ?_
        rintro p18 _ ⟨v20, rfl, hv21⟩ hp19 ho22
        refine wl_load_p (vs := [v20]) (v := v20) tf_69 rfl rfl hp19 rfl rfl ?_
        refine wl_move rfl rfl ?_
        obtain ⟨F23, hS24, hq25, hq26⟩ := (hS6.sel [1, 0] rfl).borrow (e := ty_69) (F := B0_0) (v := v0_0) (l := l7) hu17 ho22 hp19 rfl
        have hS27 : Sep (wE w0).heap.size w4 [R.own ty_116 F23 v20 u17, R.hole ty_69 B0_0 F23 v0_0 l7 y9.toNat [v20], R.rest w0 (fps [R.own ty_69 B0_0 v0_0 x0])] := hS24.head rfl fun _ h => by obtain ⟨_, h1, h2⟩ := h; cases h1; exact h2
        obtain ⟨u28, hu28, hF⟩ := bindE hF
        refine wl_call rfl Try.call49 (C_laws_markSpotS w4 u17 v20 F23 y8 (hS27.sel [0] rfl).base0 _ hu28) rfl ?_
        rintro _ w29 ⟨rfl, hE30, hM31⟩
        refine ⟨_, rfl, ?_⟩
        have hB32 := hS27.mutB [0] rfl (M := [R.own ty_116 F23 v20 u17]) rfl (M' := [R.own ty_116 F23 v20 u28.2]) rfl hB5 hB5.size hE30 hM31
        have hS33 : Sep (wE w0).heap.size w29 [R.own ty_116 F23 v20 u28.2, R.hole ty_69 B0_0 F23 v0_0 l7 y9.toNat [v20], R.rest w0 (fps [R.own ty_69 B0_0 v0_0 x0])] := hS27.mut [0] [1, 2] rfl (M := [R.own ty_116 F23 v20 u17]) rfl (M' := [R.own ty_116 F23 v20 u28.2]) rfl hM31
        have hS34 := hS33.head (r' := R.cel ty_69 F23 [v20] u28.2) rfl fun _ h => ⟨_, rfl, h⟩
        have hS35 : Sep (wE w0).heap.size w29 [R.own ty_69 B0_0 v0_0 (seti l7 y9 u28.2), R.rest w0 (fps [R.own ty_69 B0_0 v0_0 x0])] := hS34.unborrow hq25 hq26
        refine wl_assign rfl rfl ?_
        refine WL.nil ?_
        refine fun a ha => hK16 _ _ ?_ a ha
        refine W.region ?_
        refine wl_move rfl rfl ?_
        refine wl_add rfl rfl rfl ?_
        refine wl_assign rfl rfl ?_
        refine WL.nil ?_
        rw [hnx10] at hF
        exact fun a ha => hKL11 a _ m12 (Nat.lt_succ_self m12) ⟨(seti l7 y9 u28.2), u28.1, (w64 (y9 + 1)), ha.sub ⟨rfl, rfl, rfl, trivial⟩, hB32, (hS35.sel [1, 0] rfl), hF⟩
      · replace hF := ifN h15 hF
        refine W.exit ?_
        refine fun a ha => hK2 _ _ ?_ a ha
        refine W.seq fun K36 hK36 => ?_
        refine W.region ?_
        refine wl_move rfl rfl ?_
        refine wl_assign rfl rfl ?_
        refine WL.nil ?_
        refine fun a ha => hK36 _ _ ?_ a ha
        refine W.ret ?_
        have hr := Option.some.inj hF
        subst hr
        exact rets (vs := [(.int .i64 y8)]) hQ rfl ⟨rv_tmp rfl, trivial⟩ ⟨rfl, hB5, hS6.sel [0, 1] rfl⟩
theorem C_laws_markShow (w0 : World) (x0 : ((List (List (Int × Int))) × (List Int) × Int × Int)) (v0_0 : Value) (B0_0 : List Nat) (v0_1 : Value) (B0_1 : List Nat) (x1 : Int) (hS0 : Sep 0 w0 [R.own ty_69 B0_0 v0_0 x0.1, R.own ty_3 B0_1 v0_1 x0.2.1]) (r : (Int × ((List (List (Int × Int))) × (List Int) × Int × Int))) (hF : F_laws_markShow x0 x1 = some r) :
    Calls Try.prog 21 [(.agg #[v0_0, v0_1, (.int .i64 x0.2.2.1), (.int .i64 x0.2.2.2)]), (.int .i64 x1)].toArray w0 fun e w' => e = .returned (.int .i64 r.1) ∧ Below 0 (wE w0) w' ∧ Sep 0 w' [R.rest w0 (fps [R.own ty_69 B0_0 v0_0 x0.1, R.own ty_3 B0_1 v0_1 x0.2.1]), R.own ty_69 B0_0 v0_0 r.2.1, R.own ty_3 B0_1 v0_1 r.2.2.1] := by
  refine calls_mk' Try.func21 rfl Try.ntmps21 rfl rfl fun Q hQ hP => ?_
  have hB : Below (wE w0).heap.size (wE w0) w0 := wE_below w0
  have hS : Sep (wE w0).heap.size w0 [R.rest w0 (fps [R.own ty_69 B0_0 v0_0 x0.1, R.own ty_3 B0_1 v0_1 x0.2.1]), R.own ty_69 B0_0 v0_0 x0.1, R.own ty_3 B0_1 v0_1 x0.2.1] := hS0.rest
  unfold F_laws_markShow at hF
  refine W.seq fun K1 hK1 => ?_
  refine W.region ?_
  refine wl_box (cs := [v0_0, v0_1, (.int .i64 x0.2.2.1), (.int .i64 x0.2.2.2)]) rfl rfl rfl hB hS ?_
  intro b2 w3 hb4 hB5 hS6
  refine wl_assign rfl rfl ?_
  refine WL.nil ?_
  refine fun a ha => hK1 _ _ ?_ a ha
  refine W.seq fun K7 hK7 => ?_
  refine W.region ?_
  refine wl_field (o := 0) (off' := 0) ff_31_0 rfl rfl rfl ?_
  refine wl_load_blk (i := 0) (vs := [v0_0]) (v := v0_0) tf_29 rfl rfl hS6 rfl rfl rfl ?_
  refine wl_move rfl rfl ?_
  obtain ⟨u8, hu8, hF⟩ := bindE hF
  refine wl_call rfl Try.call76 (C_laws_markSpotSS w3 x0.1 v0_0 B0_0 x1 (hS6.sel [2] rfl).base0 _ hu8) rfl ?_
  rintro _ w9 ⟨rfl, hE10, hM11⟩
  refine ⟨_, rfl, ?_⟩
  have hB12 := hS6.mutB [2] rfl (M := [R.own ty_69 B0_0 v0_0 x0.1]) rfl (M' := [R.own ty_69 B0_0 v0_0 u8.2]) rfl hB5 hB5.size hE10 hM11
  have hS13 : Sep (wE w0).heap.size w9 [R.own ty_69 B0_0 v0_0 u8.2, R.blk b2 31 [v0_0, v0_1, (.int .i64 x0.2.2.1), (.int .i64 x0.2.2.2)], R.rest w0 (fps [R.own ty_69 B0_0 v0_0 x0.1, R.own ty_3 B0_1 v0_1 x0.2.1]), R.own ty_3 B0_1 v0_1 x0.2.1] := hS6.mut [2] [0, 1, 3] rfl (M := [R.own ty_69 B0_0 v0_0 x0.1]) rfl (M' := [R.own ty_69 B0_0 v0_0 u8.2]) rfl hM11
  refine wl_assign rfl rfl ?_
  refine WL.nil ?_
  refine fun a ha => hK7 _ _ ?_ a ha
  refine W.seq fun K14 hK14 => ?_
  refine W.region ?_
  refine wl_field (o := 1) (off' := 1) ff_31_1 rfl rfl rfl ?_
  refine wl_load_blk (i := 1) (vs := [v0_1]) (v := v0_1) tf_23 rfl rfl hS13 rfl rfl rfl ?_
  refine wl_move rfl rfl ?_
  obtain ⟨u15, hu15, hF⟩ := bindE hF
  refine wl_call rfl Try.call22 (C_laws_markIntS w9 x0.2.1 v0_1 B0_1 u8.1 (hS13.sel [3] rfl).base0 _ hu15) rfl ?_
  rintro _ w16 ⟨rfl, hE17, hM18⟩
  refine ⟨_, rfl, ?_⟩
  have hB19 := hS13.mutB [3] rfl (M := [R.own ty_3 B0_1 v0_1 x0.2.1]) rfl (M' := [R.own ty_3 B0_1 v0_1 u15.2]) rfl hB12 hB12.size hE17 hM18
  have hS20 : Sep (wE w0).heap.size w16 [R.own ty_3 B0_1 v0_1 u15.2, R.own ty_69 B0_0 v0_0 u8.2, R.blk b2 31 [v0_0, v0_1, (.int .i64 x0.2.2.1), (.int .i64 x0.2.2.2)], R.rest w0 (fps [R.own ty_69 B0_0 v0_0 x0.1, R.own ty_3 B0_1 v0_1 x0.2.1])] := hS13.mut [3] [0, 1, 2] rfl (M := [R.own ty_3 B0_1 v0_1 x0.2.1]) rfl (M' := [R.own ty_3 B0_1 v0_1 u15.2]) rfl hM18
  refine wl_assign rfl rfl ?_
  refine WL.nil ?_
  refine fun a ha => hK14 _ _ ?_ a ha
  refine W.seq fun K21 hK21 => ?_
  refine W.region ?_
  refine wl_move rfl rfl ?_
  refine wl_assign rfl rfl ?_
  refine WL.nil ?_
  refine fun a ha => hK21 _ _ ?_ a ha
  refine W.ret ?_
  have hr := Option.some.inj hF
  subst hr
  exact rets (vs := [(.int .i64 u15.1)]) hQ rfl ⟨rv_tmp rfl, trivial⟩ ⟨rfl, hB19, hS20.sel [3, 1, 0] rfl⟩
theorem C_laws_FnExactWaySums (w0 : World) (x0 : ((List (List (Int × Int))) × (List Int) × Int × Int)) (v0_0 : Value) (h0_0 : rdS ty_66 (· < w0.heap.size) w0 v0_0 x0.1) (v0_1 : Value) (h0_1 : rdS ty_3 (· < w0.heap.size) w0 v0_1 x0.2.1) (r : Bool) (hF : F_laws_FnExactWaySums x0 = some r) :
    Calls Try.prog 3 [(.agg #[v0_0, v0_1, (.int .i64 x0.2.2.1), (.int .i64 x0.2.2.2)])].toArray w0 fun e w' => e = .returned (.bool r) ∧ Below w0.heap.size w0 w' := by
  refine calls_mk' Try.func3 rfl Try.ntmps3 rfl rfl fun Q hQ hP => ?_
  have hB : Below w0.heap.size w0 w0 := Below.refl _ _
  have hS : Sep w0.heap.size w0 [] := Sep.nil _ _
  unfold F_laws_FnExactWaySums at hF
  refine W.seq fun K1 hK1 => ?_
  refine W.region ?_
  refine wl_box (cs := [v0_0, v0_1, (.int .i64 x0.2.2.1), (.int .i64 x0.2.2.2)]) rfl rfl rfl hB hS ?_
  intro b2 w3 hb4 hB5 hS6
  refine wl_assign rfl rfl ?_
  refine WL.nil ?_
  refine fun a ha => hK1 _ _ ?_ a ha
  refine W.seq fun K7 hK7 => ?_
  refine W.region ?_
  refine wl_assign rfl rfl ?_
  refine WL.nil ?_
  refine fun a ha => hK7 _ _ ?_ a ha
  refine W.seq fun K8 hK8 => ?_
  refine W.region ?_
  refine wl_load_blk (i := 0) (vs := [v0_0, v0_1, (.int .i64 x0.2.2.1), (.int .i64 x0.2.2.2)]) (v := (.agg #[v0_0, v0_1, (.int .i64 x0.2.2.1), (.int .i64 x0.2.2.2)])) tf_25 rfl rfl hS6 rfl rfl rfl ?_
  refine wl_move rfl rfl ?_
  obtain ⟨u9, hu9, hF⟩ := bindE hF
  refine wl_call rfl Try.call15 (C_laws_szShow w3 x0 v0_0 (h0_0.ro hB5) v0_1 (h0_1.ro hB5) 1048576 _ hu9) rfl ?_
  rintro _ w10 ⟨rfl, hb11⟩
  refine ⟨_, rfl, ?_⟩
  have hB12 := hB5.trans (hb11.mono hB5.size)
  have hS13 := hS6.below hb11
  refine wl_assign rfl rfl ?_
  refine WL.nil ?_
  refine fun a ha => hK8 _ _ ?_ a ha
  refine W.seq fun K15 hK15 => ?_
  refine W.seq fun K16 hK16 => ?_
  refine W.region ?_
  refine wl_move rfl rfl ?_
  refine wl_lss rfl rfl rfl ?_
  refine WL.nil ?_
  refine fun a ha => hK16 _ _ ?_ a ha
  refine W.cond rfl (fun h17 => ?_) (fun h17 => ?_)
  · replace hF := ifP h17 hF
    refine W.seq fun K18 hK18 => ?_
    refine W.region ?_
    refine wl_assign rfl rfl ?_
    refine WL.nil ?_
    refine fun a ha => hK18 _ _ ?_ a ha
    refine W.ret ?_
    have hr := Option.some.inj hF
    subst hr
    exact rets (vs := [(.bool true)]) hQ rfl ⟨rv_tmp rfl, trivial⟩ ⟨rfl, hB12⟩
  · replace hF := ifN h17 hF
    refine W.skip ?_
    refine fun a ha => hK15 _ _ ?_ a ha
    refine W.seq fun K19 hK19 => ?_
    refine W.region ?_
    refine wl_load_blk (i := 0) (vs := [v0_0, v0_1, (.int .i64 x0.2.2.1), (.int .i64 x0.2.2.2)]) (v := (.agg #[v0_0, v0_1, (.int .i64 x0.2.2.1), (.int .i64 x0.2.2.2)])) tf_25 rfl rfl hS13 rfl rfl rfl ?_
    obtain ⟨u20, hu20, hF⟩ := bindE hF
    refine wl_call rfl Try.call17 (C_laws_toShow w10 x0 v0_0 (h0_0.ro hB12) v0_1 (h0_1.ro hB12) _ hu20) rfl ?_
    rintro _ w25 ⟨v21, F22, v23, F24, rfl, hb26, hM29⟩
    refine ⟨_, rfl, ?_⟩
    have hB27 := hB12.trans (hb26.mono hB12.size)
    have hS28 := hS13.join hb26 hM29 hB12.size
    obtain ⟨u30, hu30, hF⟩ := bindE hF
    refine wl_call rfl Try.call16 (C_spec_WaySums w25 u20 v21 (hS28.own_ro (i := 0) rfl) v23 (hS28.own_ro (i := 1) rfl) _ hu30) rfl ?_
    rintro _ w33 ⟨v31, F32, rfl, hb34, hM37⟩
    refine ⟨_, rfl, ?_⟩
    have hB35 := hB27.trans (hb34.mono hB27.size)
    have hS36 := hS28.join hb34 hM37 hB27.size
    refine wl_move rfl rfl ?_
    refine wl_extract rfl rfl rfl ?_
    refine wl_extract rfl rfl rfl ?_
    refine wl_assign rfl rfl ?_
    refine wl_assign rfl rfl ?_
    refine WL.nil ?_
    refine fun a ha => hK19 _ _ ?_ a ha
    refine W.seq fun K38 hK38 => ?_
    refine W.region ?_
    refine wl_load_blk (i := 3) (vs := [v0_0, v0_1, (.int .i64 x0.2.2.1), (.int .i64 x0.2.2.2)]) (v := (.agg #[v0_0, v0_1, (.int .i64 x0.2.2.1), (.int .i64 x0.2.2.2)])) tf_25 rfl rfl hS36 rfl rfl rfl ?_
    obtain ⟨u39, hu39, hF⟩ := bindE hF
    refine wl_call rfl Try.call17 (C_laws_toShow w33 x0 v0_0 (h0_0.ro hB35) v0_1 (h0_1.ro hB35) _ hu39) rfl ?_
    rintro _ w44 ⟨v40, F41, v42, F43, rfl, hb45, hM48⟩
    refine ⟨_, rfl, ?_⟩
    have hB46 := hB35.trans (hb45.mono hB35.size)
    have hS47 := hS36.join hb45 hM48 hB35.size
    refine wl_alloc (cs := [(.slice none 0 0), (.slice none 0 0), (.int .i64 0), (.int .i64 0)]) tf_31 rfl rfl hB46 hS47 ?_
    intro b49 w50 hb51 hB52 hS53
    refine wl_store_blk (i := 0) (vs := [v40, v42, (.int .i64 u39.2.2.1), (.int .i64 u39.2.2.2)]) (cs' := [v40, v42, (.int .i64 u39.2.2.1), (.int .i64 u39.2.2.2)]) tf_31 rfl rfl rfl rfl hB52 hS53 rfl rfl ⟨(hS53.own_ro (i := 1) rfl).one, (hS53.own_ro (i := 2) rfl).one, rfl, rfl, trivial⟩ rfl ?_
    intro w54 hk57 hB55 hS56
    refine WL.nil ?_
    refine fun a ha => hK38 _ _ ?_ a ha
    refine W.seq fun K58 hK58 => ?_
    refine W.region ?_
    refine wl_load_blk (i := 0) (vs := [v40, v42, (.int .i64 u39.2.2.1), (.int .i64 u39.2.2.2)]) (v := (.agg #[v40, v42, (.int .i64 u39.2.2.1), (.int .i64 u39.2.2.2)])) tf_31 rfl rfl hS56 rfl rfl rfl ?_
    obtain ⟨u59, hu59, hF⟩ := bindE hF
    refine wl_call rfl Try.call18 (C_impl_WaySums w54 u39 v40 (hS56.own_ro (i := 1) rfl) v42 (hS56.own_ro (i := 2) rfl) _ hu59) rfl ?_
    rintro _ w62 ⟨v60, F61, rfl, hb63, hM66⟩
    refine ⟨_, rfl, ?_⟩
    have hB64 := hB55.trans (hb63.mono hB55.size)
    have hS65 := hS56.join hb63 hM66 hB55.size
    refine wl_move rfl rfl ?_
    refine wl_extract rfl rfl rfl ?_
    refine wl_extract rfl rfl rfl ?_
    refine wl_assign rfl rfl ?_
    refine wl_assign rfl rfl ?_
    refine WL.nil ?_
    refine fun a ha => hK58 _ _ ?_ a ha
    refine W.seq fun K67 hK67 => ?_
    refine W.seq fun K68 hK68 => ?_
    obtain ⟨k73, hk73, hF⟩ := jE1 hF
    have hJ74 : ∀ (y72 : Bool) (w69 : World) (_ : k73 y72 = some r) (_ : Below w0.heap.size w0 w69) (_ : Sep w0.heap.size w69 [R.blk b2 25 [v0_0, v0_1, (.int .i64 x0.2.2.1), (.int .i64 x0.2.2.2)], R.own ty_3 F32 v31 u30.1, R.own ty_69 F41 v40 u39.1, R.own ty_3 F43 v42 u39.2.1, R.blk b49 31 [v40, v42, (.int .i64 u39.2.2.1), (.int .i64 u39.2.2.2)], R.own ty_3 F61 v60 u59.1]), ∀ a, St 96 [(1, (.pointer (some ⟨b2, 0, none⟩))), (4, v31), (5, (.bool u30.2)), (6, (.pointer (some ⟨b49, 0, none⟩))), (7, v60), (8, (.bool u59.2)), (40, (.bool y72))] a → K68 a w69 := by
      intro y72 w69 hF hB70 hS71
      subst hk73
      refine fun a ha => hK68 _ _ ?_ a ha
      refine W.cond rfl (fun h75 => ?_) (fun h75 => ?_)
      · replace hF := ifP h75 hF
        refine W.seq fun K76 hK76 => ?_
        refine W.region ?_
        refine wl_assign rfl rfl ?_
        refine WL.nil ?_
        refine fun a ha => hK76 _ _ ?_ a ha
        refine W.ret ?_
        have hr := Option.some.inj hF
        subst hr
        exact rets (vs := [(.bool false)]) hQ rfl ⟨rv_tmp rfl, trivial⟩ ⟨rfl, hB70⟩
      · replace hF := ifN h75 hF
        refine W.skip ?_
        refine fun a ha => hK67 _ _ ?_ a ha
        refine W.seq fun K77 hK77 => ?_
        refine W.seq fun K78 hK78 => ?_
        refine W.regionH mixed_ [] hB70 hS71 ?_
        intro w79 hb80 hB81 hS82
        have hSW83 := KeepX.refl w79 []
        refine WH.takex (i := 0) rfl (by kernel_rfl) (by kernel_rfl) (by kernel_rfl) hP hSW83 ?_
        refine pr_load_blk (i := 4) (vs := [v40, v42, (.int .i64 u39.2.2.1), (.int .i64 u39.2.2.2)]) (v := (.agg #[v40, v42, (.int .i64 u39.2.2.1), (.int .i64 u39.2.2.2)])) tf_31 rfl rfl hS82 rfl rfl rfl (by simp) ?_
        refine WH.takex (i := 1) rfl (by kernel_rfl) (by kernel_rfl) (by kernel_rfl) hP hSW83 ?_
        refine pr_load_blk (i := 0) (vs := [v0_0, v0_1, (.int .i64 x0.2.2.1), (.int .i64 x0.2.2.2)]) (v := (.agg #[v0_0, v0_1, (.int .i64 x0.2.2.1), (.int .i64 x0.2.2.2)])) tf_25 rfl rfl hS82 rfl rfl rfl (by simp) ?_
        refine WH.one (i := 2) (by kernel_rfl) rfl ?_
        obtain ⟨u84, hu84, hF⟩ := bindE hF
        refine wl_call rfl Try.call17 (C_laws_toShow w79 x0 v0_0 (h0_0.ro hB81) v0_1 (h0_1.ro hB81) _ hu84) rfl ?_
        rintro _ w89 ⟨v85, F86, v87, F88, rfl, hb90, hM93⟩
        refine ⟨_, rfl, ?_⟩
        have hB91 := hB81.trans (hb90.mono hB81.size)
        have hS92 := hS82.join hb90 hM93 hB81.size
        have hSW94 := hSW83.ext hb90
        refine WL.nil (WH.ret hSW94 ?_)
        refine WH.one (i := 3) (by kernel_rfl) rfl ?_
        obtain ⟨u95, hu95, hF⟩ := bindE hF
        refine wl_call rfl Try.call20 (C_laws_eqShow w89 u39 v40 (hS92.own_ro (i := 4) rfl) v42 (hS92.own_ro (i := 5) rfl) u84 v85 (hS92.own_ro (i := 0) rfl) v87 (hS92.own_ro (i := 1) rfl) _ hu95) rfl ?_
        rintro _ w96 ⟨rfl, hb97⟩
        refine ⟨_, rfl, ?_⟩
        have hB98 := hB91.trans (hb97.mono hB91.size)
        have hS99 := hS92.below hb97
        have hSW101 := hSW94.ext hb97
        refine WL.nil (WH.ret hSW101 ?_)
        refine WH.takex (i := 4) rfl (by kernel_rfl) (by kernel_rfl) (by kernel_rfl) hP hSW101 ?_
        refine pr_not rfl rfl ?_
        refine WH.done (by kernel_rfl) ?_
        refine fun a ha => hK78 _ _ ?_ a ha
        refine W.cond rfl (fun h102 => ?_) (fun h102 => ?_)
        · replace hF := ifP h102 hF
          refine W.seq fun K103 hK103 => ?_
          refine W.region ?_
          refine wl_assign rfl rfl ?_
          refine WL.nil ?_
          refine fun a ha => hK103 _ _ ?_ a ha
          refine W.ret ?_
          have hr := Option.some.inj hF
          subst hr
          exact rets (vs := [(.bool false)]) hQ rfl ⟨rv_tmp rfl, trivial⟩ ⟨rfl, hB98⟩
        · replace hF := ifN h102 hF
          refine W.skip ?_
          refine fun a ha => hK77 _ _ ?_ a ha
          refine W.seq fun K104 hK104 => ?_
          refine W.region ?_
          refine wl_assign rfl rfl ?_
          refine WL.nil ?_
          refine fun a ha => hK104 _ _ ?_ a ha
          refine W.seq fun K105 hK105 => ?_
          refine W.region ?_
          refine wl_load_blk (i := 6) (vs := [v40, v42, (.int .i64 u39.2.2.1), (.int .i64 u39.2.2.2)]) (v := (.agg #[v40, v42, (.int .i64 u39.2.2.1), (.int .i64 u39.2.2.2)])) tf_31 rfl rfl hS99 rfl rfl rfl ?_
          refine wl_move rfl rfl ?_
          obtain ⟨u106, hu106, hF⟩ := bindE hF
          refine wl_call rfl Try.call21 (C_laws_markShow w96 u39 v40 F41 v42 F43 1 (hS99.sel [4, 5] rfl).base0 _ hu106) rfl ?_
          rintro _ w107 ⟨rfl, hE108, hM109⟩
          refine ⟨_, rfl, ?_⟩
          have hB110 := hS99.mutB [4, 5] rfl (M := [R.own ty_69 F41 v40 u39.1, R.own ty_3 F43 v42 u39.2.1]) rfl (M' := [R.own ty_69 F41 v40 u106.2.1, R.own ty_3 F43 v42 u106.2.2.1]) rfl hB98 hB98.size hE108 hM109
          have hS111 : Sep w0.heap.size w107 [R.own ty_69 F41 v40 u106.2.1, R.own ty_3 F43 v42 u106.2.2.1, R.own ty_69 F86 v85 u84.1, R.own ty_3 F88 v87 u84.2.1, R.blk b2 25 [v0_0, v0_1, (.int .i64 x0.2.2.1), (.int .i64 x0.2.2.2)], R.own ty_3 F32 v31 u30.1, R.blk b49 31 [v40, v42, (.int .i64 u39.2.2.1), (.int .i64 u39.2.2.2)], R.own ty_3 F61 v60 u59.1] := hS99.mut [4, 5] [0, 1, 2, 3, 6, 7] rfl (M := [R.own ty_69 F41 v40 u39.1, R.own ty_3 F43 v42 u39.2.1]) rfl (M' := [R.own ty_69 F41 v40 u106.2.1, R.own ty_3 F43 v42 u106.2.2.1]) rfl hM109
          refine wl_assign rfl rfl ?_
          refine WL.nil ?_
          refine fun a ha => hK105 _ _ ?_ a ha
          refine W.seq fun K112 hK112 => ?_
          refine W.seq fun K113 hK113 => ?_
          obtain ⟨k118, hk118, hF⟩ := jE1 hF
          have hJ119 : ∀ (y117 : Bool) (w114 : World) (_ : k118 y117 = some r) (_ : Below w0.heap.size w0 w114) (_ : Sep w0.heap.size w114 [R.blk b2 25 [v0_0, v0_1, (.int .i64 x0.2.2.1), (.int .i64 x0.2.2.2)], R.own ty_3 F32 v31 u30.1, R.own ty_3 F61 v60 u59.1]), ∀ a, St 96 [(1, (.pointer (some ⟨b2, 0, none⟩))), (4, v31), (5, (.bool u30.2)), (7, v60), (61, (.bool y117))] a → K113 a w114 := by
            intro y117 w114 hF hB115 hS116
            subst hk118
            refine fun a ha => hK113 _ _ ?_ a ha
            refine W.cond rfl (fun h120 => ?_) (fun h120 => ?_)
            · replace hF := ifP h120 hF
              refine W.seq fun K121 hK121 => ?_
              refine W.region ?_
              refine wl_assign rfl rfl ?_
              refine WL.nil ?_
              refine fun a ha => hK121 _ _ ?_ a ha
              refine W.ret ?_
              have hr := Option.some.inj hF
              subst hr
              exact rets (vs := [(.bool false)]) hQ rfl ⟨rv_tmp rfl, trivial⟩ ⟨rfl, hB115⟩
            · replace hF := ifN h120 hF
              refine W.skip ?_
              refine fun a ha => hK112 _ _ ?_ a ha
              refine W.seq fun K122 hK122 => ?_
              refine W.region ?_
              refine wl_assign rfl rfl ?_
              refine WL.nil ?_
              refine fun a ha => hK122 _ _ ?_ a ha
              refine W.seq fun K123 hK123 => ?_
              refine W.region ?_
              refine wl_move rfl rfl ?_
              refine wl_move rfl rfl ?_
              obtain ⟨u124, hu124, hF⟩ := bindE hF
              refine wl_call rfl Try.call22 (C_laws_markIntS w114 u59.1 v60 F61 1 (hS116.sel [2] rfl).base0 _ hu124) rfl ?_
              rintro _ w125 ⟨rfl, hE126, hM127⟩
              refine ⟨_, rfl, ?_⟩
              have hB128 := hS116.mutB [2] rfl (M := [R.own ty_3 F61 v60 u59.1]) rfl (M' := [R.own ty_3 F61 v60 u124.2]) rfl hB115 hB115.size hE126 hM127
              have hS129 : Sep w0.heap.size w125 [R.own ty_3 F61 v60 u124.2, R.blk b2 25 [v0_0, v0_1, (.int .i64 x0.2.2.1), (.int .i64 x0.2.2.2)], R.own ty_3 F32 v31 u30.1] := hS116.mut [2] [0, 1] rfl (M := [R.own ty_3 F61 v60 u59.1]) rfl (M' := [R.own ty_3 F61 v60 u124.2]) rfl hM127
              refine wl_assign rfl rfl ?_
              refine WL.nil ?_
              refine fun a ha => hK123 _ _ ?_ a ha
              refine W.seq fun K130 hK130 => ?_
              refine W.region ?_
              refine wl_assign rfl rfl ?_
              refine WL.nil ?_
              refine fun a ha => hK130 _ _ ?_ a ha
              refine W.seq fun K131 hK131 => ?_
              refine W.region ?_
              refine wl_move rfl rfl ?_
              refine wl_move rfl rfl ?_
              obtain ⟨u132, hu132, hF⟩ := bindE hF
              refine wl_call rfl Try.call23 (C_laws_heldIntS w125 u124.2 v60 (hS129.own_ro (i := 0) rfl) 1 _ hu132) rfl ?_
              rintro _ w133 ⟨rfl, hb134⟩
              refine ⟨_, rfl, ?_⟩
              have hB135 := hB128.trans (hb134.mono hB128.size)
              have hS136 := hS129.below hb134
              refine wl_assign rfl rfl ?_
              refine WL.nil ?_
              refine fun a ha => hK131 _ _ ?_ a ha
              refine W.seq fun K138 hK138 => ?_
              refine W.seq fun K139 hK139 => ?_
              refine W.region ?_
              refine wl_move rfl rfl ?_
              refine wl_lss rfl rfl rfl ?_
              refine WL.nil ?_
              refine fun a ha => hK139 _ _ ?_ a ha
              refine W.cond rfl (fun h140 => ?_) (fun h140 => ?_)
              · replace hF := ifP h140 hF
                refine W.seq fun K141 hK141 => ?_
                refine W.region ?_
                refine wl_assign rfl rfl ?_
                refine WL.nil ?_
                refine fun a ha => hK141 _ _ ?_ a ha
                refine W.ret ?_
                have hr := Option.some.inj hF
                subst hr
                exact rets (vs := [(.bool false)]) hQ rfl ⟨rv_tmp rfl, trivial⟩ ⟨rfl, hB135⟩
              · replace hF := ifN h140 hF
                refine W.skip ?_
                refine fun a ha => hK138 _ _ ?_ a ha
                refine W.seq fun K142 hK142 => ?_
                refine W.seq fun K143 hK143 => ?_
                refine W.region ?_
                refine wl_move rfl rfl ?_
                refine wl_move rfl rfl ?_
                refine wl_neq rfl rfl rfl ?_
                refine WL.nil ?_
                refine fun a ha => hK143 _ _ ?_ a ha
                refine W.cond rfl (fun h144 => ?_) (fun h144 => ?_)
                · replace hF := ifP h144 hF
                  refine W.seq fun K145 hK145 => ?_
                  refine W.region ?_
                  refine wl_assign rfl rfl ?_
                  refine WL.nil ?_
                  refine fun a ha => hK145 _ _ ?_ a ha
                  refine W.ret ?_
                  have hr := Option.some.inj hF
                  subst hr
                  exact rets (vs := [(.bool false)]) hQ rfl ⟨rv_tmp rfl, trivial⟩ ⟨rfl, hB135⟩
                · replace hF := ifN h144 hF
                  refine W.skip ?_
                  refine fun a ha => hK142 _ _ ?_ a ha
                  refine W.seq fun K146 hK146 => ?_
                  refine W.region ?_
                  refine wl_load_blk (i := 1) (vs := [v0_0, v0_1, (.int .i64 x0.2.2.1), (.int .i64 x0.2.2.2)]) (v := (.agg #[v0_0, v0_1, (.int .i64 x0.2.2.1), (.int .i64 x0.2.2.2)])) tf_25 rfl rfl hS136 rfl rfl rfl ?_
                  obtain ⟨u147, hu147, hF⟩ := bindE hF
                  refine wl_call rfl Try.call17 (C_laws_toShow w133 x0 v0_0 (h0_0.ro hB135) v0_1 (h0_1.ro hB135) _ hu147) rfl ?_
                  rintro _ w152 ⟨v148, F149, v150, F151, rfl, hb153, hM156⟩
                  refine ⟨_, rfl, ?_⟩
                  have hB154 := hB135.trans (hb153.mono hB135.size)
                  have hS155 := hS136.join hb153 hM156 hB135.size
                  obtain ⟨u157, hu157, hF⟩ := bindE hF
                  refine wl_call rfl Try.call18 (C_impl_WaySums w152 u147 v148 (hS155.own_ro (i := 0) rfl) v150 (hS155.own_ro (i := 1) rfl) _ hu157) rfl ?_
                  rintro _ w160 ⟨v158, F159, rfl, hb161, hM164⟩
                  refine ⟨_, rfl, ?_⟩
                  have hB162 := hB154.trans (hb161.mono hB154.size)
                  have hS163 := hS155.join hb161 hM164 hB154.size
                  refine wl_move rfl rfl ?_
                  refine wl_extract rfl rfl rfl ?_
                  refine wl_extract rfl rfl rfl ?_
                  refine wl_assign rfl rfl ?_
                  refine wl_assign rfl rfl ?_
                  refine WL.nil ?_
                  refine fun a ha => hK146 _ _ ?_ a ha
                  refine W.seq fun K165 hK165 => ?_
                  refine W.seq fun K166 hK166 => ?_
                  obtain ⟨k171, hk171, hF⟩ := jE1 hF
                  have hJ172 : ∀ (y170 : Bool) (w167 : World) (_ : k171 y170 = some r) (_ : Below w0.heap.size w0 w167) (_ : Sep w0.heap.size w167 [R.own ty_3 F61 v60 u124.2]), ∀ a, St 96 [(7, v60), (10, (.int .i64 u124.1)), (87, (.bool y170))] a → K166 a w167 := by
                    intro y170 w167 hF hB168 hS169
                    subst hk171
                    refine fun a ha => hK166 _ _ ?_ a ha
                    refine W.cond rfl (fun h173 => ?_) (fun h173 => ?_)
                    · replace hF := ifP h173 hF
                      refine W.seq fun K174 hK174 => ?_
                      refine W.region ?_
                      refine wl_assign rfl rfl ?_
                      refine WL.nil ?_
                      refine fun a ha => hK174 _ _ ?_ a ha
                      refine W.ret ?_
                      have hr := Option.some.inj hF
                      subst hr
                      exact rets (vs := [(.bool false)]) hQ rfl ⟨rv_tmp rfl, trivial⟩ ⟨rfl, hB168⟩
                    · replace hF := ifN h173 hF
                      refine W.skip ?_
                      refine fun a ha => hK165 _ _ ?_ a ha
                      refine W.seq fun K175 hK175 => ?_
                      refine W.region ?_
                      refine wl_assign rfl rfl ?_
                      refine WL.nil ?_
                      refine fun a ha => hK175 _ _ ?_ a ha
                      refine W.seq fun K176 hK176 => ?_
                      refine W.region ?_
                      refine wl_move rfl rfl ?_
                      refine wl_move rfl rfl ?_
                      obtain ⟨u177, hu177, hF⟩ := bindE hF
                      refine wl_call rfl Try.call23 (C_laws_heldIntS w167 u124.2 v60 (hS169.own_ro (i := 0) rfl) 1 _ hu177) rfl ?_
                      rintro _ w178 ⟨rfl, hb179⟩
                      refine ⟨_, rfl, ?_⟩
                      have hB180 := hB168.trans (hb179.mono hB168.size)
                      have hS181 := hS169.below hb179
                      refine wl_assign rfl rfl ?_
                      refine WL.nil ?_
                      refine fun a ha => hK176 _ _ ?_ a ha
                      refine W.seq fun K183 hK183 => ?_
                      refine W.seq fun K184 hK184 => ?_
                      refine W.region ?_
                      refine wl_move rfl rfl ?_
                      refine wl_lss rfl rfl rfl ?_
                      refine WL.nil ?_
                      refine fun a ha => hK184 _ _ ?_ a ha
                      refine W.cond rfl (fun h185 => ?_) (fun h185 => ?_)
                      · replace hF := ifP h185 hF
                        refine W.seq fun K186 hK186 => ?_
                        refine W.region ?_
                        refine wl_assign rfl rfl ?_
                        refine WL.nil ?_
                        refine fun a ha => hK186 _ _ ?_ a ha
                        refine W.ret ?_
                        have hr := Option.some.inj hF
                        subst hr
                        exact rets (vs := [(.bool false)]) hQ rfl ⟨rv_tmp rfl, trivial⟩ ⟨rfl, hB180⟩
                      · replace hF := ifN h185 hF
                        refine W.skip ?_
                        refine fun a ha => hK183 _ _ ?_ a ha
                        refine W.seq fun K187 hK187 => ?_
                        refine W.seq fun K188 hK188 => ?_
                        refine W.region ?_
                        refine wl_move rfl rfl ?_
                        refine wl_move rfl rfl ?_
                        refine wl_neq rfl rfl rfl ?_
                        refine WL.nil ?_
                        refine fun a ha => hK188 _ _ ?_ a ha
                        refine W.cond rfl (fun h189 => ?_) (fun h189 => ?_)
                        · replace hF := ifP h189 hF
                          refine W.seq fun K190 hK190 => ?_
                          refine W.region ?_
                          refine wl_assign rfl rfl ?_
                          refine WL.nil ?_
                          refine fun a ha => hK190 _ _ ?_ a ha
                          refine W.ret ?_
                          have hr := Option.some.inj hF
                          subst hr
                          exact rets (vs := [(.bool false)]) hQ rfl ⟨rv_tmp rfl, trivial⟩ ⟨rfl, hB180⟩
                        · replace hF := ifN h189 hF
                          refine W.skip ?_
                          refine fun a ha => hK187 _ _ ?_ a ha
                          refine W.seq fun K191 hK191 => ?_
                          refine W.region ?_
                          refine wl_assign rfl rfl ?_
                          refine WL.nil ?_
                          refine fun a ha => hK191 _ _ ?_ a ha
                          refine W.ret ?_
                          have hr := Option.some.inj hF
                          subst hr
                          exact rets (vs := [(.bool true)]) hQ rfl ⟨rv_tmp rfl, trivial⟩ ⟨rfl, hB180⟩
                  refine W.region ?_
                  refine wl_move rfl rfl ?_
                  refine wl_move rfl rfl ?_
                  obtain ⟨u192, hu192, hF⟩ := bindE hF
                  refine wl_call rfl Try.call19 (C_laws_eqIntS w160 u157.1 v158 (hS163.own_ro (i := 0) rfl) u30.1 v31 (hS163.own_ro (i := 5) rfl) _ hu192) rfl ?_
                  rintro _ w193 ⟨rfl, hb194⟩
                  refine ⟨_, rfl, ?_⟩
                  have hB195 := hB162.trans (hb194.mono hB162.size)
                  have hS196 := hS163.below hb194
                  refine wl_not rfl rfl ?_
                  refine wl_move rfl rfl ?_
                  rcases bE (!u192) with h198 | h198
                  · replace hF := ifP h198 hF
                    refine wl_off rfl rfl rfl h198 ?_
                    refine wl_off rfl rfl rfl h198 ?_
                    refine wl_off rfl rfl rfl h198 ?_
                    refine wl_pick_t rfl rfl h198 rfl ?_
                    refine WL.nil ?_
                    exact fun a ha => hJ172 (true) _ hF hB195 (hS196.sel [3] rfl) a (ha.sub ⟨rfl, rfl, rfl, trivial⟩)
                  · replace hF := ifN h198 hF
                    refine wl_on rfl rfl h198 ?_
                    refine wl_move rfl rfl ?_
                    refine wl_on rfl rfl h198 ?_
                    refine wl_move rfl rfl ?_
                    refine wl_on rfl rfl h198 ?_
                    refine wl_neqb Try.underlying4 rfl rfl rfl ?_
                    refine wl_pick_f rfl rfl h198 rfl ?_
                    refine WL.nil ?_
                    exact fun a ha => hJ172 ((u157.2 != u30.2)) _ hF hB195 (hS196.sel [3] rfl) a (ha.sub ⟨rfl, rfl, rfl, trivial⟩)
          refine W.region ?_
          refine wl_move rfl rfl ?_
          refine wl_lss rfl rfl rfl ?_
          refine wl_move rfl rfl ?_
          rcases bE (decide (u106.1 < 0)) with h199 | h199
          · replace hF := ifP h199 hF
            refine wl_off rfl rfl rfl h199 ?_
            refine wl_off rfl rfl rfl h199 ?_
            refine wl_off rfl rfl rfl h199 ?_
            refine wl_off rfl rfl rfl h199 ?_
            refine wl_pick_t rfl rfl h199 rfl ?_
            refine wl_move rfl rfl ?_
            refine wl_off rfl rfl rfl rfl ?_
            refine wl_off rfl rfl rfl rfl ?_
            refine wl_off rfl rfl rfl rfl ?_
            refine wl_pick_t rfl rfl rfl rfl ?_
            refine WL.nil ?_
            exact fun a ha => hJ119 (true) _ hF hB110 (hS111.sel [4, 5, 7] rfl) a (ha.sub ⟨rfl, rfl, rfl, rfl, rfl, trivial⟩)
          · replace hF := ifN h199 hF
            refine wl_on rfl rfl h199 ?_
            refine wl_move rfl rfl ?_
            refine wl_on rfl rfl h199 ?_
            refine wl_move rfl rfl ?_
            refine wl_on rfl rfl h199 ?_
            obtain ⟨u200, hu200, hF⟩ := bindE hF
            refine wl_call rfl Try.call19 (C_laws_eqIntS w107 u59.1 v60 (hS111.own_ro (i := 7) rfl) u30.1 v31 (hS111.own_ro (i := 5) rfl) _ hu200) rfl ?_
            rintro _ w201 ⟨rfl, hb202⟩
            refine ⟨_, rfl, ?_⟩
            have hB203 := hB110.trans (hb202.mono hB110.size)
            have hS204 := hS111.below hb202
            refine wl_on rfl rfl h199 ?_
            refine wl_not rfl rfl ?_
            refine wl_pick_f rfl rfl h199 rfl ?_
            refine wl_move rfl rfl ?_
            rcases bE (!u200) with h206 | h206
            · replace hF := ifP h206 hF
              refine wl_off rfl rfl rfl h206 ?_
              refine wl_off rfl rfl rfl h206 ?_
              refine wl_off rfl rfl rfl h206 ?_
              refine wl_pick_t rfl rfl h206 rfl ?_
              refine WL.nil ?_
              exact fun a ha => hJ119 (true) _ hF hB203 (hS204.sel [4, 5, 7] rfl) a (ha.sub ⟨rfl, rfl, rfl, rfl, rfl, trivial⟩)
            · replace hF := ifN h206 hF
              refine wl_on rfl rfl h206 ?_
              refine wl_move rfl rfl ?_
              refine wl_on rfl rfl h206 ?_
              refine wl_move rfl rfl ?_
              refine wl_on rfl rfl h206 ?_
              refine wl_neqb Try.underlying4 rfl rfl rfl ?_
              refine wl_pick_f rfl rfl h206 rfl ?_
              refine WL.nil ?_
              exact fun a ha => hJ119 ((u59.2 != u30.2)) _ hF hB203 (hS204.sel [4, 5, 7] rfl) a (ha.sub ⟨rfl, rfl, rfl, rfl, rfl, trivial⟩)
    refine W.region ?_
    refine wl_move rfl rfl ?_
    refine wl_move rfl rfl ?_
    obtain ⟨u207, hu207, hF⟩ := bindE hF
    refine wl_call rfl Try.call19 (C_laws_eqIntS w62 u59.1 v60 (hS65.own_ro (i := 0) rfl) u30.1 v31 (hS65.own_ro (i := 4) rfl) _ hu207) rfl ?_
    rintro _ w208 ⟨rfl, hb209⟩
    refine ⟨_, rfl, ?_⟩
    have hB210 := hB64.trans (hb209.mono hB64.size)
    have hS211 := hS65.below hb209
    refine wl_not rfl rfl ?_
    refine wl_move rfl rfl ?_
    rcases bE (!u207) with h213 | h213
    · replace hF := ifP h213 hF
      refine wl_off rfl rfl rfl h213 ?_
      refine wl_off rfl rfl rfl h213 ?_
      refine wl_off rfl rfl rfl h213 ?_
      refine wl_pick_t rfl rfl h213 rfl ?_
      refine WL.nil ?_
      exact fun a ha => hJ74 (true) _ hF hB210 (hS211.sel [7, 4, 2, 3, 1, 0] rfl) a (ha.sub ⟨rfl, rfl, rfl, rfl, rfl, rfl, rfl, trivial⟩)
    · replace hF := ifN h213 hF
      refine wl_on rfl rfl h213 ?_
      refine wl_move rfl rfl ?_
      refine wl_on rfl rfl h213 ?_
      refine wl_move rfl rfl ?_
      refine wl_on rfl rfl h213 ?_
      refine wl_neqb Try.underlying4 rfl rfl rfl ?_
      refine wl_pick_f rfl rfl h213 rfl ?_
      refine WL.nil ?_
      exact fun a ha => hJ74 ((u59.2 != u30.2)) _ hF hB210 (hS211.sel [7, 4, 2, 3, 1, 0] rfl) a (ha.sub ⟨rfl, rfl, rfl, rfl, rfl, rfl, rfl, trivial⟩)
end Go.Proofs.Ytadklddedeoniaa
