/-
  THE WALKS of functions of this seat, by program (gen.py, prune.py).
-/
import Derived.Test.YtcndhhjolnebdaaWXFnExactRankShowsa
set_option linter.unusedSimpArgs false
set_option linter.unusedVariables false
set_option maxRecDepth 100000
namespace Go.Proofs.Ytcndhhjolnebdaa
open Go Go.RowKit
theorem C_spec_cpCompare (w0 : World) (x0 : ((List (List (Int × Int))) × (List Int) × Int × Int)) (v0_0 : Value) (h0_0 : rdS ty_82 (· < w0.heap.size) w0 v0_0 x0.1) (v0_1 : Value) (h0_1 : rdS ty_3 (· < w0.heap.size) w0 v0_1 x0.2.1) (x1 : ((List (List (Int × Int))) × (List Int) × Int × Int)) (v1_0 : Value) (h1_0 : rdS ty_82 (· < w0.heap.size) w0 v1_0 x1.1) (v1_1 : Value) (h1_1 : rdS ty_3 (· < w0.heap.size) w0 v1_1 x1.2.1) (r : Int) (hF : F_spec_cpCompare x0 x1 = some r) :
    Calls Try.prog 30 [(.agg #[v0_0, v0_1, (.int .i64 x0.2.2.1), (.int .i64 x0.2.2.2)]), (.agg #[v1_0, v1_1, (.int .i64 x1.2.2.1), (.int .i64 x1.2.2.2)])].toArray w0 fun e w' => e = .returned (.int .i64 r) ∧ Below w0.heap.size w0 w' := by
  refine calls_mk' Try.func30 rfl Try.ntmps30 rfl rfl fun Q hQ hP => ?_
  have hB : Below w0.heap.size w0 w0 := Below.refl _ _
  have hS : Sep w0.heap.size w0 [] := Sep.nil _ _
  unfold F_spec_cpCompare at hF
  refine W.seq fun K1 hK1 => ?_
  refine W.region ?_
  refine wl_box (cs := [v0_0, v0_1, (.int .i64 x0.2.2.1), (.int .i64 x0.2.2.2)]) rfl rfl rfl hB hS ?_
  intro b2 w3 hb4 hB5 hS6
  refine wl_box (cs := [v1_0, v1_1, (.int .i64 x1.2.2.1), (.int .i64 x1.2.2.2)]) rfl rfl rfl hB5 hS6 ?_
  intro b7 w8 hb9 hB10 hS11
  refine wl_assign rfl rfl ?_
  refine WL.nil ?_
  refine fun a ha => hK1 _ _ ?_ a ha
  refine W.seq fun K12 hK12 => ?_
  refine W.region ?_
  refine wl_load_blk (i := 1) (vs := [v0_0, v0_1, (.int .i64 x0.2.2.1), (.int .i64 x0.2.2.2)]) (v := (.agg #[v0_0, v0_1, (.int .i64 x0.2.2.1), (.int .i64 x0.2.2.2)])) tf_42 rfl rfl hS11 rfl rfl rfl ?_
  obtain ⟨u13, hu13, hF⟩ := bindE hF
  refine wl_call rfl Try.call61 (C_spec_UnsafeParts w8 x0 v0_0 (h0_0.ro hB10) v0_1 (h0_1.ro hB10) _ hu13) rfl ?_
  rintro _ w16 ⟨v14, F15, rfl, hb17, hM20⟩
  refine ⟨_, rfl, ?_⟩
  have hB18 := hB10.trans (hb17.mono hB10.size)
  have hS19 := hS11.join hb17 hM20 hB10.size
  refine wl_move rfl rfl ?_
  refine wl_extract rfl rfl rfl ?_
  refine wl_extract rfl rfl rfl ?_
  refine wl_assign rfl rfl ?_
  refine wl_assign rfl rfl ?_
  refine WL.nil ?_
  refine fun a ha => hK12 _ _ ?_ a ha
  refine W.seq fun K21 hK21 => ?_
  refine W.region ?_
  refine wl_load_blk (i := 1) (vs := [v1_0, v1_1, (.int .i64 x1.2.2.1), (.int .i64 x1.2.2.2)]) (v := (.agg #[v1_0, v1_1, (.int .i64 x1.2.2.1), (.int .i64 x1.2.2.2)])) tf_42 rfl rfl hS19 rfl rfl rfl ?_
  obtain ⟨u22, hu22, hF⟩ := bindE hF
  refine wl_call rfl Try.call61 (C_spec_UnsafeParts w16 x1 v1_0 (h1_0.ro hB18) v1_1 (h1_1.ro hB18) _ hu22) rfl ?_
  rintro _ w25 ⟨v23, F24, rfl, hb26, hM29⟩
  refine ⟨_, rfl, ?_⟩
  have hB27 := hB18.trans (hb26.mono hB18.size)
  have hS28 := hS19.join hb26 hM29 hB18.size
  refine wl_move rfl rfl ?_
  refine wl_extract rfl rfl rfl ?_
  refine wl_extract rfl rfl rfl ?_
  refine wl_assign rfl rfl ?_
  refine wl_assign rfl rfl ?_
  refine WL.nil ?_
  refine fun a ha => hK21 _ _ ?_ a ha
  refine W.seq fun K30 hK30 => ?_
  refine W.seq fun K31 hK31 => ?_
  refine W.region ?_
  refine wl_move rfl rfl ?_
  refine wl_lenr (e := ty_3) (l := u13.1) Try.underlying24 rfl rfl (hS28.own_ro (i := 1) rfl) ?_
  refine wl_move rfl rfl ?_
  refine wl_lenr (e := ty_3) (l := u22.1) Try.underlying24 rfl rfl (hS28.own_ro (i := 0) rfl) ?_
  refine wl_neq rfl rfl rfl ?_
  refine WL.nil ?_
  refine fun a ha => hK31 _ _ ?_ a ha
  refine W.cond rfl (fun h32 => ?_) (fun h32 => ?_)
  · replace hF := ifP h32 hF
    refine W.seq fun K33 hK33 => ?_
    refine W.region ?_
    refine wl_move rfl rfl ?_
    refine wl_lenr (e := ty_3) (l := u13.1) Try.underlying24 rfl rfl (hS28.own_ro (i := 1) rfl) ?_
    refine wl_move rfl rfl ?_
    refine wl_lenr (e := ty_3) (l := u22.1) Try.underlying24 rfl rfl (hS28.own_ro (i := 0) rfl) ?_
    refine wl_sub rfl rfl rfl ?_
    obtain ⟨u34, hu34, hF⟩ := bindE hF
    refine wl_call rfl Try.call62 (C_spec_l1Sign w25 (w64 ((List.length u13.1 : Int) - (List.length u22.1 : Int))) _ hu34) rfl ?_
    rintro _ w35 ⟨rfl, hb36⟩
    refine ⟨_, rfl, ?_⟩
    have hB37 := hB27.trans (hb36.mono hB27.size)
    have hS38 := hS28.below hb36
    refine wl_assign rfl rfl ?_
    refine WL.nil ?_
    refine fun a ha => hK33 _ _ ?_ a ha
    refine W.ret ?_
    have hr := Option.some.inj hF
    subst hr
    exact rets (vs := [(.int .i64 u34)]) hQ rfl ⟨rv_tmp rfl, trivial⟩ ⟨rfl, hB37⟩
  · replace hF := ifN h32 hF
    refine W.skip ?_
    refine fun a ha => hK30 _ _ ?_ a ha
    refine W.seq fun K40 hK40 => ?_
    refine W.seq fun K41 hK41 => ?_
    refine W.regionH mixed_ [] hB27 hS28 ?_
    intro w42 hb43 hB44 hS45
    have hSW46 := KeepX.refl w42 []
    refine WH.takex (i := 0) rfl (by kernel_rfl) (by kernel_rfl) (by kernel_rfl) hP hSW46 ?_
    refine pr_load_blk (i := 3) (vs := [v0_0, v0_1, (.int .i64 x0.2.2.1), (.int .i64 x0.2.2.2)]) (v := (.agg #[v0_0, v0_1, (.int .i64 x0.2.2.1), (.int .i64 x0.2.2.2)])) tf_42 rfl rfl hS45 rfl rfl rfl (by simp) ?_
    refine WH.takex (i := 2) rfl (by kernel_rfl) (by kernel_rfl) (by kernel_rfl) hP hSW46 ?_
    refine pr_load_blk (i := 2) (vs := [v1_0, v1_1, (.int .i64 x1.2.2.1), (.int .i64 x1.2.2.2)]) (v := (.agg #[v1_0, v1_1, (.int .i64 x1.2.2.1), (.int .i64 x1.2.2.2)])) tf_42 rfl rfl hS45 rfl rfl rfl (by simp) ?_
    refine WH.one (i := 1) (by kernel_rfl) rfl ?_
    obtain ⟨u47, hu47, hF⟩ := bindE hF
    refine wl_call rfl Try.call63 (C_spec_swTotal w42 x0 v0_0 (h0_0.ro hB44) v0_1 (h0_1.ro hB44) _ hu47) rfl ?_
    rintro _ w48 ⟨rfl, hb49⟩
    refine ⟨_, rfl, ?_⟩
    have hB50 := hB44.trans (hb49.mono hB44.size)
    have hS51 := hS45.below hb49
    have hSW53 := hSW46.ext hb49
    refine WL.nil (WH.ret hSW53 ?_)
    refine WH.one (i := 3) (by kernel_rfl) rfl ?_
    obtain ⟨u54, hu54, hF⟩ := bindE hF
    refine wl_call rfl Try.call63 (C_spec_swTotal w48 x1 v1_0 (h1_0.ro hB50) v1_1 (h1_1.ro hB50) _ hu54) rfl ?_
    rintro _ w55 ⟨rfl, hb56⟩
    refine ⟨_, rfl, ?_⟩
    have hB57 := hB50.trans (hb56.mono hB50.size)
    have hS58 := hS51.below hb56
    have hSW60 := hSW53.ext hb56
    refine WL.nil (WH.ret hSW60 ?_)
    refine WH.takex (i := 4) rfl (by kernel_rfl) (by kernel_rfl) (by kernel_rfl) hP hSW60 ?_
    refine pr_neq rfl rfl rfl ?_
    refine WH.done (by kernel_rfl) ?_
    refine fun a ha => hK41 _ _ ?_ a ha
    refine W.cond rfl (fun h61 => ?_) (fun h61 => ?_)
    · replace hF := ifP h61 hF
      refine W.seq fun K62 hK62 => ?_
      refine W.regionH mixed_ [] hB57 hS58 ?_
      intro w63 hb64 hB65 hS66
      have hSW67 := KeepX.refl w63 []
      refine WH.takex (i := 0) rfl (by kernel_rfl) (by kernel_rfl) (by kernel_rfl) hP hSW67 ?_
      refine pr_load_blk (i := 2) (vs := [v1_0, v1_1, (.int .i64 x1.2.2.1), (.int .i64 x1.2.2.2)]) (v := (.agg #[v1_0, v1_1, (.int .i64 x1.2.2.1), (.int .i64 x1.2.2.2)])) tf_42 rfl rfl hS66 rfl rfl rfl (by simp) ?_
      refine WH.takex (i := 2) rfl (by kernel_rfl) (by kernel_rfl) (by kernel_rfl) hP hSW67 ?_
      refine pr_load_blk (i := 3) (vs := [v0_0, v0_1, (.int .i64 x0.2.2.1), (.int .i64 x0.2.2.2)]) (v := (.agg #[v0_0, v0_1, (.int .i64 x0.2.2.1), (.int .i64 x0.2.2.2)])) tf_42 rfl rfl hS66 rfl rfl rfl (by simp) ?_
      refine WH.one (i := 1) (by kernel_rfl) rfl ?_
      obtain ⟨u68, hu68, hF⟩ := bindE hF
      refine wl_call rfl Try.call63 (C_spec_swTotal w63 x1 v1_0 (h1_0.ro hB65) v1_1 (h1_1.ro hB65) _ hu68) rfl ?_
      rintro _ w69 ⟨rfl, hb70⟩
      refine ⟨_, rfl, ?_⟩
      have hB71 := hB65.trans (hb70.mono hB65.size)
      have hS72 := hS66.below hb70
      have hSW74 := hSW67.ext hb70
      refine WL.nil (WH.ret hSW74 ?_)
      refine WH.one (i := 3) (by kernel_rfl) rfl ?_
      obtain ⟨u75, hu75, hF⟩ := bindE hF
      refine wl_call rfl Try.call63 (C_spec_swTotal w69 x0 v0_0 (h0_0.ro hB71) v0_1 (h0_1.ro hB71) _ hu75) rfl ?_
      rintro _ w76 ⟨rfl, hb77⟩
      refine ⟨_, rfl, ?_⟩
      have hB78 := hB71.trans (hb77.mono hB71.size)
      have hS79 := hS72.below hb77
      have hSW81 := hSW74.ext hb77
      refine WL.nil (WH.ret hSW81 ?_)
      refine WH.takex (i := 4) rfl (by kernel_rfl) (by kernel_rfl) (by kernel_rfl) hP hSW81 ?_
      refine pr_sub rfl rfl rfl ?_
      refine WH.one (i := 5) (by kernel_rfl) rfl ?_
      obtain ⟨u82, hu82, hF⟩ := bindE hF
      refine wl_call rfl Try.call62 (C_spec_l1Sign w76 (w64 (u68 - u75)) _ hu82) rfl ?_
      rintro _ w83 ⟨rfl, hb84⟩
      refine ⟨_, rfl, ?_⟩
      have hB85 := hB78.trans (hb84.mono hB78.size)
      have hS86 := hS79.below hb84
      have hSW88 := hSW81.ext hb84
      refine WL.nil (WH.ret hSW88 ?_)
      refine WH.takex (i := 6) rfl (by kernel_rfl) (by kernel_rfl) (by kernel_rfl) hP hSW88 ?_
      refine pr_assign rfl rfl ?_
      refine WH.done (by kernel_rfl) ?_
      refine fun a ha => hK62 _ _ ?_ a ha
      refine W.ret ?_
      have hr := Option.some.inj hF
      subst hr
      exact rets (vs := [(.int .i64 u82)]) hQ rfl ⟨rv_tmp rfl, trivial⟩ ⟨rfl, hB85⟩
    · replace hF := ifN h61 hF
      refine W.skip ?_
      refine fun a ha => hK40 _ _ ?_ a ha
      refine W.seq fun K89 hK89 => ?_
      refine W.regionH mixed_ [] hB57 hS58 ?_
      intro w90 hb91 hB92 hS93
      have hSW94 := KeepX.refl w90 []
      refine WH.takex (i := 0) rfl (by kernel_rfl) (by kernel_rfl) (by kernel_rfl) hP hSW94 ?_
      refine pr_load_blk (i := 3) (vs := [v0_0, v0_1, (.int .i64 x0.2.2.1), (.int .i64 x0.2.2.2)]) (v := (.agg #[v0_0, v0_1, (.int .i64 x0.2.2.1), (.int .i64 x0.2.2.2)])) tf_42 rfl rfl hS93 rfl rfl rfl (by simp) ?_
      refine WH.takex (i := 3) rfl (by kernel_rfl) (by kernel_rfl) (by kernel_rfl) hP hSW94 ?_
      refine pr_load_blk (i := 2) (vs := [v1_0, v1_1, (.int .i64 x1.2.2.1), (.int .i64 x1.2.2.2)]) (v := (.agg #[v1_0, v1_1, (.int .i64 x1.2.2.1), (.int .i64 x1.2.2.2)])) tf_42 rfl rfl hS93 rfl rfl rfl (by simp) ?_
      refine WH.one (i := 1) (by kernel_rfl) rfl ?_
      obtain ⟨u95, hu95, hF⟩ := bindE hF
      refine wl_call rfl Try.call65 (C_spec_cpWays w90 x0 v0_0 (h0_0.ro hB92) v0_1 (h0_1.ro hB92) _ hu95) rfl ?_
      rintro _ w98 ⟨v96, F97, rfl, hb99, hM102⟩
      refine ⟨_, rfl, ?_⟩
      have hB100 := hB92.trans (hb99.mono hB92.size)
      have hn103 : ∀ b ∈ F97, w90.heap.size ≤ b := fun b hb => Nat.le_trans hSW94.size ((hM102.get (i := 0) rfl).2.1 b hb).1
      have hS101 := hS93.join hb99 hM102 hB92.size
      have hSW104 := hSW94.ext hb99
      refine WL.nil (WH.ret hSW104 ?_)
      refine WH.one (i := 2) (by kernel_rfl) rfl ?_
      obtain ⟨u105, hu105, hF⟩ := bindE hF
      refine wl_call rfl Try.call64 (C_spec_cpSum w98 u95 v96 (hS101.own_ro (i := 0) rfl) _ hu105) rfl ?_
      rintro _ w106 ⟨rfl, hb107⟩
      refine ⟨_, rfl, ?_⟩
      have hB108 := hB100.trans (hb107.mono hB100.size)
      have hS109 := hS101.below hb107
      have hSW111 := hSW104.ext hb107
      refine WL.nil (WH.ret hSW111 ?_)
      refine WH.one (i := 4) (by kernel_rfl) rfl ?_
      obtain ⟨u112, hu112, hF⟩ := bindE hF
      refine wl_call rfl Try.call65 (C_spec_cpWays w106 x1 v1_0 (h1_0.ro hB108) v1_1 (h1_1.ro hB108) _ hu112) rfl ?_
      rintro _ w115 ⟨v113, F114, rfl, hb116, hM119⟩
      refine ⟨_, rfl, ?_⟩
      have hB117 := hB108.trans (hb116.mono hB108.size)
      have hn120 : ∀ b ∈ F114, w90.heap.size ≤ b := fun b hb => Nat.le_trans hSW111.size ((hM119.get (i := 0) rfl).2.1 b hb).1
      have hS118 := hS109.join hb116 hM119 hB108.size
      have hSW121 := hSW111.ext hb116
      refine WL.nil (WH.ret hSW121 ?_)
      refine WH.one (i := 5) (by kernel_rfl) rfl ?_
      obtain ⟨u122, hu122, hF⟩ := bindE hF
      refine wl_call rfl Try.call64 (C_spec_cpSum w115 u112 v113 (hS118.own_ro (i := 0) rfl) _ hu122) rfl ?_
      rintro _ w123 ⟨rfl, hb124⟩
      refine ⟨_, rfl, ?_⟩
      have hB125 := hB117.trans (hb124.mono hB117.size)
      have hS126 := hS118.below hb124
      have hSW128 := hSW121.ext hb124
      refine WL.nil (WH.ret hSW128 ?_)
      refine WH.takex (i := 6) rfl (by kernel_rfl) (by kernel_rfl) (by kernel_rfl) hP hSW128 ?_
      refine pr_sub rfl rfl rfl ?_
      refine WH.one (i := 7) (by kernel_rfl) rfl ?_
      obtain ⟨u129, hu129, hF⟩ := bindE hF
      refine wl_call rfl Try.call62 (C_spec_l1Sign w123 (w64 (u105 - u122)) _ hu129) rfl ?_
      rintro _ w130 ⟨rfl, hb131⟩
      refine ⟨_, rfl, ?_⟩
      have hB132 := hB125.trans (hb131.mono hB125.size)
      have hS133 := hS126.below hb131
      have hSW135 := hSW128.ext hb131
      refine WL.nil (WH.ret hSW135 ?_)
      refine WH.takex (i := 8) rfl (by kernel_rfl) (by kernel_rfl) (by kernel_rfl) hP hSW135 ?_
      refine pr_assign rfl rfl ?_
      refine WH.done (by kernel_rfl) ?_
      refine fun a ha => hK89 _ _ ?_ a ha
      refine W.ret ?_
      have hr := Option.some.inj hF
      subst hr
      exact rets (vs := [(.int .i64 u129)]) hQ rfl ⟨rv_tmp rfl, trivial⟩ ⟨rfl, hB132⟩
theorem C_spec_l1Own (w0 : World) (x0 : (List Int)) (v0_0 : Value) (h0_0 : rdS ty_3 (· < w0.heap.size) w0 v0_0 x0) (r : (List Int)) (hF : F_spec_l1Own x0 = some r) :
    Calls Try.prog 31 [v0_0].toArray w0 fun e w' => ∃ (q0 : Value) (G0 : List Nat), e = .returned q0 ∧ Below w0.heap.size w0 w' ∧ Sep w0.heap.size w' [R.own ty_3 G0 q0 r] := by
  refine calls_mk' Try.func31 rfl Try.ntmps31 rfl rfl fun Q hQ hP => ?_
  have hB : Below w0.heap.size w0 w0 := Below.refl _ _
  have hS : Sep w0.heap.size w0 [] := Sep.nil _ _
  unfold F_spec_l1Own at hF
  refine W.seq fun K1 hK1 => ?_
  refine W.region ?_
  refine wl_assign rfl rfl ?_
  refine WL.nil ?_
  refine fun a ha => hK1 _ _ ?_ a ha
  refine W.seq fun K2 hK2 => ?_
  refine W.region ?_
  refine wl_lit (vs := []) (l := []) fl_3 Try.underlying24 rfl rfl rfl rfl rfl rfl hB hS ?_
  intro v3 F4 w5 hb6 hB7 hS8
  refine wl_move rfl rfl ?_
  obtain ⟨u9, hu9, hF⟩ := bindE hF
  refine wl_append (i := 0) (S := (· < w5.heap.size)) fl_3 Try.underlying24 rfl rfl rfl hB7 hS8 rfl (h0_0.ro hB7) hu9 ?_
  intro v10 F11 w12 hk13 hB14 hS15
  refine wl_assign rfl rfl ?_
  refine WL.nil ?_
  refine fun a ha => hK2 _ _ ?_ a ha
  refine W.ret ?_
  have hr := Option.some.inj hF
  subst hr
  exact rets (vs := [v10]) hQ rfl ⟨rv_tmp rfl, trivial⟩ ⟨v10, F11, rfl, hB14, hS15.sel [0] rfl⟩
theorem C_spec_RankShows (w0 : World) (x0 : (List ((List (List (Int × Int))) × (List Int) × Int × Int))) (v0_0 : Value) (h0_0 : rdS ty_42 (· < w0.heap.size) w0 v0_0 x0) (r : ((List Int) × Bool)) (hF : F_spec_RankShows x0 = some r) :
    Calls Try.prog 7 [v0_0].toArray w0 fun e w' => ∃ (q0 : Value) (G0 : List Nat), e = .returned (.tuple #[q0, (.bool r.2)]) ∧ Below w0.heap.size w0 w' ∧ Sep w0.heap.size w' [R.own ty_3 G0 q0 r.1] := by
  refine calls_mk' Try.func7 rfl Try.ntmps7 rfl rfl fun Q hQ hP => ?_
  have hB : Below w0.heap.size w0 w0 := Below.refl _ _
  have hS : Sep w0.heap.size w0 [] := Sep.nil _ _
  unfold F_spec_RankShows at hF
  refine W.seq fun K1 hK1 => ?_
  refine W.region ?_
  refine wl_assign rfl rfl ?_
  refine wl_assign rfl rfl ?_
  refine WL.nil ?_
  refine fun a ha => hK1 _ _ ?_ a ha
  refine W.seq fun K2 hK2 => ?_
  refine W.seq fun K3 hK3 => ?_
  refine W.region ?_
  refine wl_move rfl rfl ?_
  refine wl_lenr (e := ty_42) (l := x0) Try.underlying27 rfl rfl h0_0 ?_
  refine wl_move rfl rfl ?_
  refine WL.nil ?_
  refine fun a ha => hK3 _ _ ?_ a ha
  refine W.block ?_
  refine W.loopk (fun m a w4 => ∃ (y7 : Int), St 62 [(0, v0_0), (10, v0_0), (11, (.int .i64 (List.length x0 : Int))), (12, (.int .i64 y7))] a ∧ Below w0.heap.size w0 w4 ∧ Sep w0.heap.size w4 [] ∧ F_spec_RankShows_L1 x0 m y7 = some r) FU ?_ ?_
  ·
    exact fun a ha => ⟨0, ha.sub ⟨rfl, rfl, rfl, rfl, trivial⟩, hB, (hS.sel [] rfl), hF⟩
  ·
    rintro m10 a w4 ⟨y7, ha, hB5, hS6, hF⟩ KL9 hKL9
    refine W.at ?_ ha
    cases m10 with
    | zero => exact noneE hF
    | succ m10 =>
      obtain ⟨nx8, hnx8⟩ : ∃ k, k = F_spec_RankShows_L1 x0 m10 := ⟨_, rfl⟩
      rw [F_spec_RankShows_L1, ← hnx8] at hF
      refine W.seq fun K11 hK11 => ?_
      refine W.region ?_
      refine wl_lss rfl rfl rfl ?_
      refine WL.nil ?_
      refine fun a ha => hK11 _ _ ?_ a ha
      refine W.seq fun K12 hK12 => ?_
      refine W.cond rfl (fun h13 => ?_) (fun h13 => ?_)
      · replace hF := ifP h13 hF
        refine W.skip ?_
        refine fun a ha => hK12 _ _ ?_ a ha
        refine W.seq fun K14 hK14 => ?_
        refine W.block ?_
        refine W.seq fun K15 hK15 => ?_
        refine W.region ?_
        obtain ⟨u16, hu16, hF⟩ := bindE hF
        refine wl_index (e := ty_42) Try.underlying27 rfl rfl rfl h0_0 hu16 ?_
        rintro p17 _ ⟨_, _, rfl, ⟨v19, rfl, hv20⟩, ⟨_, _, rfl, ⟨v21, rfl, hv22⟩, ⟨_, _, rfl, rfl, rfl⟩⟩⟩ hp18
        refine wl_load_p (vs := [v19, v21, (.int .i64 u16.2.2.1), (.int .i64 u16.2.2.2)]) (v := (.agg #[v19, v21, (.int .i64 u16.2.2.1), (.int .i64 u16.2.2.2)])) tf_42 rfl rfl (hp18.ro hB5) rfl rfl ?_
        refine wl_alloc (cs := [(.slice none 0 0), (.slice none 0 0), (.int .i64 0), (.int .i64 0)]) tf_42 rfl rfl hB5 hS6 ?_
        intro b23 w24 hb25 hB26 hS27
        refine wl_store_blk (i := 0) (vs := [v19, v21, (.int .i64 u16.2.2.1), (.int .i64 u16.2.2.2)]) (cs' := [v19, v21, (.int .i64 u16.2.2.1), (.int .i64 u16.2.2.2)]) tf_42 rfl rfl rfl rfl hB26 hS27 rfl rfl ⟨(hv20.ro hB26).one, (hv22.ro hB26).one, rfl, rfl, trivial⟩ rfl ?_
        intro w28 hk31 hB29 hS30
        refine WL.nil ?_
        refine fun a ha => hK15 _ _ ?_ a ha
        refine W.seq fun K32 hK32 => ?_
        refine W.region ?_
        refine wl_load_blk (i := 0) (vs := [v19, v21, (.int .i64 u16.2.2.1), (.int .i64 u16.2.2.2)]) (v := (.agg #[v19, v21, (.int .i64 u16.2.2.1), (.int .i64 u16.2.2.2)])) tf_42 rfl rfl hS30 rfl rfl rfl ?_
        obtain ⟨u33, hu33, hF⟩ := bindE hF
        refine wl_call rfl Try.call29 (C_spec_swGood w28 u16 v19 (hv20.ro hB29) v21 (hv22.ro hB29) _ hu33) rfl ?_
        rintro _ w34 ⟨rfl, hb35⟩
        refine ⟨_, rfl, ?_⟩
        have hB36 := hB29.trans (hb35.mono hB29.size)
        have hS37 := hS30.below hb35
        refine wl_not rfl rfl ?_
        refine WL.nil ?_
        refine fun a ha => hK32 _ _ ?_ a ha
        refine W.cond rfl (fun h39 => ?_) (fun h39 => ?_)
        · replace hF := ifP h39 hF
          refine W.seq fun K40 hK40 => ?_
          refine W.region ?_
          refine wl_assign rfl rfl ?_
          refine wl_assign rfl rfl ?_
          refine WL.nil ?_
          refine fun a ha => hK40 _ _ ?_ a ha
          refine W.ret ?_
          have hS41 := hS37.push0 (r := R.own ty_3 [] (.slice none 0 0) []) rfl fun _ => .inl ⟨rfl, rfl, rfl⟩
          have hr := Option.some.inj hF
          subst hr
          exact rets (vs := [(.slice none 0 0), (.bool false)]) hQ rfl ⟨rv_tmp rfl, rv_tmp rfl, trivial⟩ ⟨(.slice none 0 0), [], rfl, hB36, hS41.sel [0] rfl⟩
        · replace hF := ifN h39 hF
          refine W.skip ?_
          refine fun a ha => hK14 _ _ ?_ a ha
          refine W.region ?_
          refine wl_add rfl rfl rfl ?_
          refine wl_move rfl rfl ?_
          refine WL.nil ?_
          rw [hnx8] at hF
          exact fun a ha => hKL9 a _ m10 (Nat.lt_succ_self m10) ⟨(w64 (y7 + 1)), ha.sub ⟨rfl, rfl, rfl, rfl, trivial⟩, hB36, (hS37.sel [] rfl), hF⟩
      · replace hF := ifN h13 hF
        refine W.exit ?_
        refine fun a ha => hK2 _ _ ?_ a ha
        refine W.seq fun K42 hK42 => ?_
        refine W.seq fun K43 hK43 => ?_
        refine W.region ?_
        refine wl_move rfl rfl ?_
        refine wl_lenr (e := ty_42) (l := x0) Try.underlying27 rfl rfl h0_0 ?_
        refine wl_gtr rfl rfl rfl ?_
        refine WL.nil ?_
        refine fun a ha => hK43 _ _ ?_ a ha
        refine W.cond rfl (fun h44 => ?_) (fun h44 => ?_)
        · replace hF := ifP h44 hF
          refine W.seq fun K45 hK45 => ?_
          refine W.region ?_
          refine wl_assign rfl rfl ?_
          refine wl_assign rfl rfl ?_
          refine WL.nil ?_
          refine fun a ha => hK45 _ _ ?_ a ha
          refine W.ret ?_
          have hS46 := hS6.push0 (r := R.own ty_3 [] (.slice none 0 0) []) rfl fun _ => .inl ⟨rfl, rfl, rfl⟩
          have hr := Option.some.inj hF
          subst hr
          exact rets (vs := [(.slice none 0 0), (.bool false)]) hQ rfl ⟨rv_tmp rfl, rv_tmp rfl, trivial⟩ ⟨(.slice none 0 0), [], rfl, hB5, hS46.sel [0] rfl⟩
        · replace hF := ifN h44 hF
          refine W.skip ?_
          refine fun a ha => hK42 _ _ ?_ a ha
          refine W.seq fun K47 hK47 => ?_
          refine W.region ?_
          refine wl_assign rfl rfl ?_
          refine WL.nil ?_
          refine fun a ha => hK47 _ _ ?_ a ha
          refine W.seq fun K48 hK48 => ?_
          refine W.seq fun K49 hK49 => ?_
          refine W.region ?_
          refine wl_move rfl rfl ?_
          refine wl_lenr (e := ty_42) (l := x0) Try.underlying27 rfl rfl h0_0 ?_
          refine wl_move rfl rfl ?_
          refine WL.nil ?_
          refine fun a ha => hK49 _ _ ?_ a ha
          refine W.block ?_
          refine W.loopk (fun m a w50 => ∃ (l53 : (List Int)) (y56 : Int) (v54 : Value) (F55 : List Nat), St 62 [(0, v0_0), (6, v54), (23, v0_0), (24, (.int .i64 (List.length x0 : Int))), (25, (.int .i64 y56))] a ∧ Below w0.heap.size w0 w50 ∧ Sep w0.heap.size w50 [R.own ty_3 F55 v54 l53] ∧ F_spec_RankShows_L2 x0 m l53 y56 = some r) FU ?_ ?_
          ·
            have hS58 := hS6.push0 (r := R.own ty_3 [] (.slice none 0 0) []) rfl fun _ => .inl ⟨rfl, rfl, rfl⟩
            exact fun a ha => ⟨[], 0, (.slice none 0 0), [], ha.sub ⟨rfl, rfl, rfl, rfl, rfl, trivial⟩, hB5, (hS58.sel [0] rfl), hF⟩
          ·
            rintro m60 a w50 ⟨l53, y56, v54, F55, ha, hB51, hS52, hF⟩ KL59 hKL59
            refine W.at ?_ ha
            cases m60 with
            | zero => exact noneE hF
            | succ m60 =>
              obtain ⟨nx57, hnx57⟩ : ∃ k, k = F_spec_RankShows_L2 x0 m60 := ⟨_, rfl⟩
              rw [F_spec_RankShows_L2, ← hnx57] at hF
              refine W.seq fun K61 hK61 => ?_
              refine W.region ?_
              refine wl_lss rfl rfl rfl ?_
              refine WL.nil ?_
              refine fun a ha => hK61 _ _ ?_ a ha
              refine W.seq fun K62 hK62 => ?_
              refine W.cond rfl (fun h63 => ?_) (fun h63 => ?_)
              · replace hF := ifP h63 hF
                refine W.skip ?_
                refine fun a ha => hK62 _ _ ?_ a ha
                refine W.seq fun K64 hK64 => ?_
                obtain ⟨k71, hk71, hF⟩ := jE1 hF
                have hJ72 : ∀ (l68 : (List Int)) (v69 : Value) (F70 : List Nat) (w65 : World) (_ : k71 l68 = some r) (_ : Below w0.heap.size w0 w65) (_ : Sep w0.heap.size w65 [R.own ty_3 F70 v69 l68]), ∀ a, St 62 [(0, v0_0), (6, v69), (23, v0_0), (24, (.int .i64 (List.length x0 : Int))), (25, (.int .i64 y56))] a → K64 a w65 := by
                  intro l68 v69 F70 w65 hF hB66 hS67
                  subst hk71
                  refine fun a ha => hK64 _ _ ?_ a ha
                  refine W.region ?_
                  refine wl_add rfl rfl rfl ?_
                  refine wl_move rfl rfl ?_
                  refine WL.nil ?_
                  rw [hnx57] at hF
                  exact fun a ha => hKL59 a _ m60 (Nat.lt_succ_self m60) ⟨l68, (w64 (y56 + 1)), v69, F70, ha.sub ⟨rfl, rfl, rfl, rfl, rfl, trivial⟩, hB66, (hS67.sel [0] rfl), hF⟩
                refine W.block ?_
                refine W.seq fun K73 hK73 => ?_
                refine W.region ?_
                refine wl_move rfl rfl ?_
                obtain ⟨u74, hu74, hF⟩ := bindE hF
                refine wl_index (e := ty_42) Try.underlying27 rfl rfl rfl h0_0 hu74 ?_
                rintro p75 _ ⟨_, _, rfl, ⟨v77, rfl, hv78⟩, ⟨_, _, rfl, ⟨v79, rfl, hv80⟩, ⟨_, _, rfl, rfl, rfl⟩⟩⟩ hp76
                refine wl_load_p (vs := [v77, v79, (.int .i64 u74.2.2.1), (.int .i64 u74.2.2.2)]) (v := (.agg #[v77, v79, (.int .i64 u74.2.2.1), (.int .i64 u74.2.2.2)])) tf_42 rfl rfl (hp76.ro hB51) rfl rfl ?_
                refine wl_alloc (cs := [(.slice none 0 0), (.slice none 0 0), (.int .i64 0), (.int .i64 0)]) tf_42 rfl rfl hB51 hS52 ?_
                intro b81 w82 hb83 hB84 hS85
                refine wl_assign rfl rfl ?_
                refine wl_store_blk (i := 0) (vs := [v77, v79, (.int .i64 u74.2.2.1), (.int .i64 u74.2.2.2)]) (cs' := [v77, v79, (.int .i64 u74.2.2.1), (.int .i64 u74.2.2.2)]) tf_42 rfl rfl rfl rfl hB84 hS85 rfl rfl ⟨(hv78.ro hB84).one, (hv80.ro hB84).one, rfl, rfl, trivial⟩ rfl ?_
                intro w86 hk89 hB87 hS88
                refine WL.nil ?_
                refine fun a ha => hK73 _ _ ?_ a ha
                refine W.seq fun K90 hK90 => ?_
                refine W.region ?_
                refine wl_move rfl rfl ?_
                refine wl_lenr (e := ty_3) (l := l53) Try.underlying24 rfl rfl (hS88.own_ro (i := 1) rfl) ?_
                refine wl_assign rfl rfl ?_
                refine WL.nil ?_
                refine fun a ha => hK90 _ _ ?_ a ha
                refine W.seq fun K91 hK91 => ?_
                refine W.block ?_
                refine W.loopk (fun m a w92 => ∃ (y95 : Int), St 62 [(0, v0_0), (6, v54), (7, (.int .i64 y56)), (8, (.pointer (some ⟨b81, 0, none⟩))), (9, (.int .i64 y95)), (23, v0_0), (24, (.int .i64 (List.length x0 : Int))), (25, (.int .i64 y56))] a ∧ Below w0.heap.size w0 w92 ∧ Sep w0.heap.size w92 [R.own ty_3 F55 v54 l53, R.blk b81 42 [v77, v79, (.int .i64 u74.2.2.1), (.int .i64 u74.2.2.2)]] ∧ F_spec_RankShows_L3 l53 y56 k71 x0 u74 m y95 = some r) FU ?_ ?_
                ·
                  exact fun a ha => ⟨(List.length l53 : Int), ha.sub ⟨rfl, rfl, rfl, rfl, rfl, rfl, rfl, rfl, trivial⟩, hB87, (hS88.sel [1, 0] rfl), hF⟩
                ·
                  rintro m98 a w92 ⟨y95, ha, hB93, hS94, hF⟩ KL97 hKL97
                  refine W.at ?_ ha
                  cases m98 with
                  | zero => exact noneE hF
                  | succ m98 =>
                    obtain ⟨nx96, hnx96⟩ : ∃ k, k = F_spec_RankShows_L3 l53 y56 k71 x0 u74 m98 := ⟨_, rfl⟩
                    rw [F_spec_RankShows_L3, ← hnx96] at hF
                    refine W.seq fun K99 hK99 => ?_
                    refine W.seq fun K100 hK100 => ?_
                    obtain ⟨k105, hk105, hF⟩ := jE1 hF
                    have hJ106 : ∀ (y104 : Bool) (w101 : World) (_ : k105 y104 = some r) (_ : Below w0.heap.size w0 w101) (_ : Sep w0.heap.size w101 [R.own ty_3 F55 v54 l53, R.blk b81 42 [v77, v79, (.int .i64 u74.2.2.1), (.int .i64 u74.2.2.2)]]), ∀ a, St 62 [(0, v0_0), (6, v54), (7, (.int .i64 y56)), (8, (.pointer (some ⟨b81, 0, none⟩))), (9, (.int .i64 y95)), (23, v0_0), (24, (.int .i64 (List.length x0 : Int))), (25, (.int .i64 y56)), (46, (.bool y104))] a → K100 a w101 := by
                      intro y104 w101 hF hB102 hS103
                      subst hk105
                      refine fun a ha => hK100 _ _ ?_ a ha
                      refine W.cond rfl (fun h107 => ?_) (fun h107 => ?_)
                      · replace hF := ifP h107 hF
                        refine W.skip ?_
                        refine fun a ha => hK99 _ _ ?_ a ha
                        refine W.block ?_
                        refine W.region ?_
                        refine wl_move rfl rfl ?_
                        refine wl_sub rfl rfl rfl ?_
                        refine wl_assign rfl rfl ?_
                        refine WL.nil ?_
                        rw [hnx96] at hF
                        exact fun a ha => hKL97 a _ m98 (Nat.lt_succ_self m98) ⟨(w64 (y95 - 1)), ha.sub ⟨rfl, rfl, rfl, rfl, rfl, rfl, rfl, rfl, trivial⟩, hB102, (hS103.sel [0, 1] rfl), hF⟩
                      · replace hF := ifN h107 hF
                        refine W.exit ?_
                        refine fun a ha => hK91 _ _ ?_ a ha
                        refine W.regionH mixed_ [] hB102 hS103 ?_
                        intro w108 hb109 hB110 hS111
                        have hSW112 := KeepX.refl w108 []
                        refine WH.takex (i := 0) rfl (by kernel_rfl) (by kernel_rfl) (by kernel_rfl) hP hSW112 ?_
                        refine pr_move rfl rfl ?_
                        refine WH.takex (i := 1) rfl (by kernel_rfl) (by kernel_rfl) (by kernel_rfl) hP hSW112 ?_
                        refine pr_move rfl rfl ?_
                        obtain ⟨u113, hu113, hF⟩ := bindE hF
                        refine WH.takex (i := 2) rfl (by kernel_rfl) (by kernel_rfl) (by kernel_rfl) hP hSW112 ?_
                        refine pr_sliceof (e := ty_3) Try.underlying24 rfl rfl (hS111.ok (i := 0) rfl : ownS ty_3 _ _ _ _).rd hu113 (.inl ⟨rfl, rfl⟩) (.inr ⟨_, _, rfl, rfl⟩) ?_
                        intro v114 hv117 hs116
                        have hv115 := hv117.mono fun b hb => ((hS111.get (i := 0) rfl).2.1 b hb).2
                        refine WH.takex (i := 4) rfl (by kernel_rfl) (by kernel_rfl) (by kernel_rfl) hP hSW112 ?_
                        refine pr_move rfl rfl ?_
                        refine WH.takex (i := 7) rfl (by kernel_rfl) (by kernel_rfl) (by kernel_rfl) hP hSW112 ?_
                        refine pr_move rfl rfl ?_
                        refine WH.takex (i := 8) rfl (by kernel_rfl) (by kernel_rfl) (by kernel_rfl) hP hSW112 ?_
                        refine pr_move rfl rfl ?_
                        obtain ⟨u118, hu118, hF⟩ := bindE hF
                        refine WH.takex (i := 9) rfl (by kernel_rfl) (by kernel_rfl) (by kernel_rfl) hP hSW112 ?_
                        refine pr_sliceof (e := ty_3) Try.underlying24 rfl rfl (hS111.ok (i := 0) rfl : ownS ty_3 _ _ _ _).rd hu118 (.inr ⟨_, _, rfl, rfl⟩) (.inl ⟨rfl, rfl⟩) ?_
                        intro v119 hv122 hs121
                        have hv120 := hv122.mono fun b hb => ((hS111.get (i := 0) rfl).2.1 b hb).2
                        refine WH.many (is := [3, 5]) (by kernel_rfl) rfl ?_
                        refine List.forall_mem_cons.2 ⟨⟨_, rfl, ?_⟩, List.forall_mem_cons.2 ⟨⟨_, rfl, ?_⟩, fun _ h => by cases h⟩⟩
                        ·
                          obtain ⟨u123, hu123, hF⟩ := bindE hF
                          refine wl_call rfl Try.call31 (C_spec_l1Own w108 u113 v114 (hv115.ro (hSW112.below hB110 hB110)) _ hu123) rfl ?_
                          rintro _ w126 ⟨v124, F125, rfl, hb127, hM130⟩
                          refine ⟨_, rfl, ?_⟩
                          have hB128 := hB110.trans (hb127.mono hB110.size)
                          have hn131 : ∀ b ∈ F125, w108.heap.size ≤ b := fun b hb => Nat.le_trans hSW112.size ((hM130.get (i := 0) rfl).2.1 b hb).1
                          have hS129 := hS111.join hb127 hM130 hB110.size
                          have hSW132 := hSW112.ext hb127
                          refine WL.nil (WH.ret hSW132 ?_)
                          refine WH.one (i := 5) (by kernel_rfl) rfl ?_
                          refine wl_lit (vs := [(.int .i64 y56)]) (l := [y56]) fl_3 Try.underlying24 rfl rfl rfl rfl rfl rfl (Below.self w126) (Sep.nil _ _) ?_
                          intro v133 F134 w135 hb136 hB139 hM140
                          have hB137 := hB128.trans (hb136.mono hB128.size)
                          have hS138 := hS129.join hb136 hM140 hB128.size
                          have hn141 : ∀ b ∈ F134, w108.heap.size ≤ b := fun b hb => Nat.le_trans hSW132.size ((hM140.1 _ (List.mem_cons_self ..)).2.1 b hb).1
                          have hSW142 := hSW132.ext hb136
                          refine WL.nil (WH.ret hSW142 ?_)
                          refine WH.one (i := 6) (by kernel_rfl) rfl ?_
                          obtain ⟨u143, hu143, hF⟩ := bindE hF
                          refine wl_append (i := 1) (S := (· < w135.heap.size)) fl_3 Try.underlying24 rfl rfl rfl hB137 hS138 rfl (hS138.own_ro (i := 0) rfl) hu143 ?_
                          intro v144 F145 w146 hk147 hB148 hS149
                          have hSW150 := hSW142.wr' hk147.1 hk147.2.1 (fun b hlt hb => absurd hlt (Nat.not_lt.2 (hn131 b hb)))
                          have hn151 : ∀ b ∈ F145, w108.heap.size ≤ b := fun b hb => (hk147.2.2 b hb).elim (hn131 b) fun h => Nat.le_trans hSW142.size h
                          refine WL.nil (WH.ret hSW150 ?_)
                          refine WH.one (i := 10) (by kernel_rfl) rfl ?_
                          obtain ⟨u152, hu152, hF⟩ := bindE hF
                          refine wl_append (i := 1) (S := (· < w146.heap.size)) fl_3 Try.underlying24 rfl rfl rfl hB148 hS149 rfl (hv120.ro (hSW150.below hB110 hB148)) hu152 ?_
                          intro v153 F154 w155 hk156 hB157 hS158
                          have hSW159 := hSW150.wr' hk156.1 hk156.2.1 (fun b hlt hb => absurd hlt (Nat.not_lt.2 (hn151 b hb)))
                          have hn160 : ∀ b ∈ F154, w108.heap.size ≤ b := fun b hb => (hk156.2.2 b hb).elim (hn151 b) fun h => Nat.le_trans hSW150.size h
                          refine WL.nil (WH.ret hSW159 ?_)
                          refine WH.takex (i := 11) rfl (by kernel_rfl) (by kernel_rfl) (by kernel_rfl) hP hSW159 ?_
                          refine pr_assign rfl rfl ?_
                          refine WH.done (by kernel_rfl) ?_
                          exact fun a ha => hJ72 (u152) (v153) (F154) _ hF hB157 (hS158.sel [1] rfl) a (ha.sub ⟨rfl, rfl, rfl, rfl, rfl, trivial⟩)
                        ·
                          refine wl_lit (vs := [(.int .i64 y56)]) (l := [y56]) fl_3 Try.underlying24 rfl rfl rfl rfl rfl rfl (Below.self w108) (Sep.nil _ _) ?_
                          intro v161 F162 w163 hb164 hB167 hM168
                          have hB165 := hB110.trans (hb164.mono hB110.size)
                          have hS166 := hS111.join hb164 hM168 hB110.size
                          have hn169 : ∀ b ∈ F162, w108.heap.size ≤ b := fun b hb => Nat.le_trans hSW112.size ((hM168.1 _ (List.mem_cons_self ..)).2.1 b hb).1
                          have hSW170 := hSW112.ext hb164
                          refine WL.nil (WH.ret hSW170 ?_)
                          refine WH.one (i := 3) (by kernel_rfl) rfl ?_
                          obtain ⟨u171, hu171, hF⟩ := bindE hF
                          refine wl_call rfl Try.call31 (C_spec_l1Own w163 u113 v114 (hv115.ro (hSW170.below hB110 hB165)) _ hu171) rfl ?_
                          rintro _ w174 ⟨v172, F173, rfl, hb175, hM178⟩
                          refine ⟨_, rfl, ?_⟩
                          have hB176 := hB165.trans (hb175.mono hB165.size)
                          have hn179 : ∀ b ∈ F173, w108.heap.size ≤ b := fun b hb => Nat.le_trans hSW170.size ((hM178.get (i := 0) rfl).2.1 b hb).1
                          have hS177 := hS166.join hb175 hM178 hB165.size
                          have hSW180 := hSW170.ext hb175
                          refine WL.nil (WH.ret hSW180 ?_)
                          refine WH.one (i := 6) (by kernel_rfl) rfl ?_
                          obtain ⟨u181, hu181, hF⟩ := bindE hF
                          refine wl_append (i := 0) (S := (· < w174.heap.size)) fl_3 Try.underlying24 rfl rfl rfl hB176 hS177 rfl (hS177.own_ro (i := 1) rfl) hu181 ?_
                          intro v182 F183 w184 hk185 hB186 hS187
                          have hSW188 := hSW180.wr' hk185.1 hk185.2.1 (fun b hlt hb => absurd hlt (Nat.not_lt.2 (hn179 b hb)))
                          have hn189 : ∀ b ∈ F183, w108.heap.size ≤ b := fun b hb => (hk185.2.2 b hb).elim (hn179 b) fun h => Nat.le_trans hSW180.size h
                          refine WL.nil (WH.ret hSW188 ?_)
                          refine WH.one (i := 10) (by kernel_rfl) rfl ?_
                          obtain ⟨u190, hu190, hF⟩ := bindE hF
                          refine wl_append (i := 0) (S := (· < w184.heap.size)) fl_3 Try.underlying24 rfl rfl rfl hB186 hS187 rfl (hv120.ro (hSW188.below hB110 hB186)) hu190 ?_
                          intro v191 F192 w193 hk194 hB195 hS196
                          have hSW197 := hSW188.wr' hk194.1 hk194.2.1 (fun b hlt hb => absurd hlt (Nat.not_lt.2 (hn189 b hb)))
                          have hn198 : ∀ b ∈ F192, w108.heap.size ≤ b := fun b hb => (hk194.2.2 b hb).elim (hn189 b) fun h => Nat.le_trans hSW188.size h
                          refine WL.nil (WH.ret hSW197 ?_)
                          refine WH.takex (i := 11) rfl (by kernel_rfl) (by kernel_rfl) (by kernel_rfl) hP hSW197 ?_
                          refine pr_assign rfl rfl ?_
                          refine WH.done (by kernel_rfl) ?_
                          exact fun a ha => hJ72 (u190) (v191) (F192) _ hF hB195 (hS196.sel [0] rfl) a (ha.sub ⟨rfl, rfl, rfl, rfl, rfl, trivial⟩)
                    refine W.regionH mixed_ [] hB93 hS94 ?_
                    intro w199 hb200 hB201 hS202
                    have hSW203 := KeepX.refl w199 []
                    refine WH.takex (i := 0) rfl (by kernel_rfl) (by kernel_rfl) (by kernel_rfl) hP hSW203 ?_
                    refine pr_move rfl rfl ?_
                    refine WH.takex (i := 1) rfl (by kernel_rfl) (by kernel_rfl) (by kernel_rfl) hP hSW203 ?_
                    refine pr_gtr rfl rfl rfl ?_
                    refine WH.takex (i := 2) rfl (by kernel_rfl) (by kernel_rfl) (by kernel_rfl) hP hSW203 ?_
                    refine pr_move rfl rfl ?_
                    rcases bE (decide (0 < y95)) with h204 | h204
                    · replace hF := ifP h204 hF
                      refine WH.takexg (i := 3) rfl (by kernel_rfl) (by kernel_rfl) (by kernel_rfl) hP rfl rfl h204 hSW203 ?_
                      refine pr_load_blk (i := 1) (vs := [v77, v79, (.int .i64 u74.2.2.1), (.int .i64 u74.2.2.2)]) (v := (.agg #[v77, v79, (.int .i64 u74.2.2.1), (.int .i64 u74.2.2.2)])) tf_42 rfl rfl hS202 rfl rfl rfl (by simp) ?_
                      refine WH.takexg (i := 4) rfl (by kernel_rfl) (by kernel_rfl) (by kernel_rfl) hP rfl rfl h204 hSW203 ?_
                      refine pr_move rfl rfl ?_
                      refine WH.takexg (i := 5) rfl (by kernel_rfl) (by kernel_rfl) (by kernel_rfl) hP rfl rfl h204 hSW203 ?_
                      refine pr_move rfl rfl ?_
                      refine WH.takexg (i := 6) rfl (by kernel_rfl) (by kernel_rfl) (by kernel_rfl) hP rfl rfl h204 hSW203 ?_
                      refine pr_move rfl rfl ?_
                      refine WH.takexg (i := 7) rfl (by kernel_rfl) (by kernel_rfl) (by kernel_rfl) hP rfl rfl h204 hSW203 ?_
                      refine pr_sub rfl rfl rfl ?_
                      obtain ⟨u205, hu205, hF⟩ := bindE hF
                      refine WH.takexg (i := 8) rfl (by kernel_rfl) (by kernel_rfl) (by kernel_rfl) hP rfl rfl h204 hSW203 ?_
                      refine pr_indexo (e := ty_3) (i := 0) Try.underlying24 rfl rfl rfl hS202 rfl hu205 ?_
                      rintro p206 _ rfl hp207 ho208
                      refine WH.takexg (i := 9) rfl (by kernel_rfl) (by kernel_rfl) (by kernel_rfl) hP rfl rfl h204 hSW203 ?_
                      refine pr_load_p (vs := [(.int .i64 u205)]) (v := (.int .i64 u205)) tf_3 rfl rfl (hp207.kx0) rfl rfl ?_
                      obtain ⟨u209, hu209, hF⟩ := bindE hF
                      refine WH.takexg (i := 10) rfl (by kernel_rfl) (by kernel_rfl) (by kernel_rfl) hP rfl rfl h204 hSW203 ?_
                      refine pr_index (e := ty_42) Try.underlying27 rfl rfl rfl h0_0 hu209 ?_
                      rintro p210 _ ⟨_, _, rfl, ⟨v212, rfl, hv213⟩, ⟨_, _, rfl, ⟨v214, rfl, hv215⟩, ⟨_, _, rfl, rfl, rfl⟩⟩⟩ hp211
                      refine WH.takexg (i := 11) rfl (by kernel_rfl) (by kernel_rfl) (by kernel_rfl) hP rfl rfl h204 hSW203 ?_
                      refine pr_load_p (vs := [v212, v214, (.int .i64 u209.2.2.1), (.int .i64 u209.2.2.2)]) (v := (.agg #[v212, v214, (.int .i64 u209.2.2.1), (.int .i64 u209.2.2.2)])) tf_42 rfl rfl (hp211.kx hB201 (by simp)) rfl rfl ?_
                      refine WH.one (i := 12) (by kernel_rfl) rfl ?_
                      refine wl_on rfl rfl h204 ?_
                      obtain ⟨u216, hu216, hF⟩ := bindE hF
                      refine wl_call rfl Try.call30 (C_spec_cpCompare w199 u74 v77 (hv78.ro hB201) v79 (hv80.ro hB201) u209 v212 (hv213.ro hB201) v214 (hv215.ro hB201) _ hu216) rfl ?_
                      rintro _ w217 ⟨rfl, hb218⟩
                      refine ⟨_, rfl, ?_⟩
                      have hB219 := hB201.trans (hb218.mono hB201.size)
                      have hS220 := hS202.below hb218
                      have hSW222 := hSW203.ext hb218
                      refine WL.nil (WH.ret hSW222 ?_)
                      refine WH.takexg (i := 13) rfl (by kernel_rfl) (by kernel_rfl) (by kernel_rfl) hP rfl rfl h204 hSW222 ?_
                      refine pr_lss rfl rfl rfl ?_
                      refine WH.takex (i := 14) rfl (by kernel_rfl) (by kernel_rfl) (by kernel_rfl) hP hSW222 ?_
                      refine pr_pick_t rfl rfl h204 rfl ?_
                      refine WH.done (by kernel_rfl) ?_
                      exact fun a ha => hJ106 ((decide (u216 < 0))) _ hF hB219 (hS220.sel [0, 1] rfl) a (ha.sub ⟨rfl, rfl, rfl, rfl, rfl, rfl, rfl, rfl, rfl, trivial⟩)
                    · replace hF := ifN h204 hF
                      refine WH.off (i := 3) rfl (by kernel_rfl) (by kernel_rfl) (by kernel_rfl) hP rfl rfl h204 rfl hSW203 ?_
                      refine WH.off (i := 4) rfl (by kernel_rfl) (by kernel_rfl) (by kernel_rfl) hP rfl rfl h204 rfl hSW203 ?_
                      refine WH.off (i := 5) rfl (by kernel_rfl) (by kernel_rfl) (by kernel_rfl) hP rfl rfl h204 rfl hSW203 ?_
                      refine WH.off (i := 6) rfl (by kernel_rfl) (by kernel_rfl) (by kernel_rfl) hP rfl rfl h204 rfl hSW203 ?_
                      refine WH.off (i := 7) rfl (by kernel_rfl) (by kernel_rfl) (by kernel_rfl) hP rfl rfl h204 rfl hSW203 ?_
                      refine WH.off (i := 8) rfl (by kernel_rfl) (by kernel_rfl) (by kernel_rfl) hP rfl rfl h204 rfl hSW203 ?_
                      refine WH.off (i := 9) rfl (by kernel_rfl) (by kernel_rfl) (by kernel_rfl) hP rfl rfl h204 rfl hSW203 ?_
                      refine WH.off (i := 10) rfl (by kernel_rfl) (by kernel_rfl) (by kernel_rfl) hP rfl rfl h204 rfl hSW203 ?_
                      refine WH.off (i := 11) rfl (by kernel_rfl) (by kernel_rfl) (by kernel_rfl) hP rfl rfl h204 rfl hSW203 ?_
                      refine WH.off (i := 12) rfl (by kernel_rfl) (by kernel_rfl) (by kernel_rfl) hP rfl rfl h204 rfl hSW203 ?_
                      refine WH.off (i := 13) rfl (by kernel_rfl) (by kernel_rfl) (by kernel_rfl) hP rfl rfl h204 rfl hSW203 ?_
                      refine WH.takex (i := 14) rfl (by kernel_rfl) (by kernel_rfl) (by kernel_rfl) hP hSW203 ?_
                      refine pr_pick_f rfl rfl h204 rfl ?_
                      refine WH.done (by kernel_rfl) ?_
                      exact fun a ha => hJ106 (false) _ hF hB201 (hS202.sel [0, 1] rfl) a (ha.sub ⟨rfl, rfl, rfl, rfl, rfl, rfl, rfl, rfl, rfl, trivial⟩)
              · replace hF := ifN h63 hF
                refine W.exit ?_
                refine fun a ha => hK48 _ _ ?_ a ha
                refine W.seq fun K223 hK223 => ?_
                refine W.region ?_
                refine wl_move rfl rfl ?_
                refine wl_assign rfl rfl ?_
                refine wl_assign rfl rfl ?_
                refine WL.nil ?_
                refine fun a ha => hK223 _ _ ?_ a ha
                refine W.ret ?_
                have hr := Option.some.inj hF
                subst hr
                exact rets (vs := [v54, (.bool true)]) hQ rfl ⟨rv_tmp rfl, rv_tmp rfl, trivial⟩ ⟨v54, F55, rfl, hB51, hS52.sel [0] rfl⟩
theorem C_impl_within (w0 : World) (x0 : Int) (x1 : Int) (x2 : Int) (r : Bool) (hF : F_impl_within x0 x1 x2 = some r) :
    Calls Try.prog 67 [(.int .i64 x0), (.int .i64 x1), (.int .i64 x2)].toArray w0 fun e w' => e = .returned (.bool r) ∧ Below w0.heap.size w0 w' := by
  refine calls_mk' Try.func67 rfl Try.ntmps67 rfl rfl fun Q hQ hP => ?_
  have hB : Below w0.heap.size w0 w0 := Below.refl _ _
  have hS : Sep w0.heap.size w0 [] := Sep.nil _ _
  unfold F_impl_within at hF
  refine W.seq fun K1 hK1 => ?_
  refine W.region ?_
  refine wl_assign rfl rfl ?_
  refine WL.nil ?_
  refine fun a ha => hK1 _ _ ?_ a ha
  refine W.seq fun K2 hK2 => ?_
  obtain ⟨k7, hk7, hF⟩ := jE1 hF
  have hJ8 : ∀ (y6 : Bool) (w3 : World) (_ : k7 y6 = some r) (_ : Below w0.heap.size w0 w3) (_ : Sep w0.heap.size w3 []), ∀ a, St 15 [(6, (.bool y6))] a → K2 a w3 := by
    intro y6 w3 hF hB4 hS5
    subst hk7
    refine fun a ha => hK2 _ _ ?_ a ha
    refine W.ret ?_
    have hr := Option.some.inj hF
    subst hr
    exact rets (vs := [(.bool y6)]) hQ rfl ⟨rv_tmp rfl, trivial⟩ ⟨rfl, hB4⟩
  refine W.region ?_
  refine wl_move rfl rfl ?_
  refine wl_move rfl rfl ?_
  refine wl_geq rfl rfl rfl ?_
  refine wl_move rfl rfl ?_
  rcases bE (decide (x1 ≤ x0)) with h9 | h9
  · replace hF := ifP h9 hF
    refine wl_on rfl rfl h9 ?_
    refine wl_move rfl rfl ?_
    refine wl_on rfl rfl h9 ?_
    refine wl_move rfl rfl ?_
    refine wl_on rfl rfl h9 ?_
    refine wl_leq rfl rfl rfl ?_
    refine wl_pick_t rfl rfl h9 rfl ?_
    refine wl_assign rfl rfl ?_
    refine WL.nil ?_
    exact fun a ha => hJ8 ((decide (x0 ≤ x2))) _ hF hB (hS.sel [] rfl) a (ha.sub ⟨rfl, trivial⟩)
  · replace hF := ifN h9 hF
    refine wl_off rfl rfl rfl h9 ?_
    refine wl_off rfl rfl rfl h9 ?_
    refine wl_off rfl rfl rfl h9 ?_
    refine wl_pick_f rfl rfl h9 rfl ?_
    refine wl_assign rfl rfl ?_
    refine WL.nil ?_
    exact fun a ha => hJ8 (false) _ hF hB (hS.sel [] rfl) a (ha.sub ⟨rfl, trivial⟩)
theorem C_impl_IsSpot (w0 : World) (x0 : (Int × Int)) (r : Bool) (hF : F_impl_IsSpot x0 = some r) :
    Calls Try.prog 122 [(.agg #[(.int .i64 x0.1), (.int .i64 x0.2)])].toArray w0 fun e w' => e = .returned (.bool r) ∧ Below w0.heap.size w0 w' := by
  refine calls_mk' Try.func122 rfl Try.ntmps122 rfl rfl fun Q hQ hP => ?_
  have hB : Below w0.heap.size w0 w0 := Below.refl _ _
  have hS : Sep w0.heap.size w0 [] := Sep.nil _ _
  unfold F_impl_IsSpot at hF
  refine W.seq fun K1 hK1 => ?_
  refine W.region ?_
  refine wl_box (cs := [(.int .i64 x0.1), (.int .i64 x0.2)]) rfl rfl rfl hB hS ?_
  intro b2 w3 hb4 hB5 hS6
  refine wl_assign rfl rfl ?_
  refine WL.nil ?_
  refine fun a ha => hK1 _ _ ?_ a ha
  refine W.seq fun K7 hK7 => ?_
  obtain ⟨k12, hk12, hF⟩ := jE1 hF
  have hJ13 : ∀ (y11 : Bool) (w8 : World) (_ : k12 y11 = some r) (_ : Below w0.heap.size w0 w8) (_ : Sep w0.heap.size w8 []), ∀ a, St 11 [(2, (.bool y11))] a → K7 a w8 := by
    intro y11 w8 hF hB9 hS10
    subst hk12
    refine fun a ha => hK7 _ _ ?_ a ha
    refine W.ret ?_
    have hr := Option.some.inj hF
    subst hr
    exact rets (vs := [(.bool y11)]) hQ rfl ⟨rv_tmp rfl, trivial⟩ ⟨rfl, hB9⟩
  refine W.region ?_
  refine wl_field (o := 0) (off' := 0) ff_106_0 rfl rfl rfl ?_
  refine wl_load_blk (i := 0) (vs := [(.int .i64 x0.1)]) (v := (.int .i64 x0.1)) tf_3 rfl rfl hS6 rfl rfl rfl ?_
  obtain ⟨u14, hu14, hF⟩ := bindE hF
  refine wl_call rfl Try.call67 (C_impl_within w3 x0.1 0 1280 _ hu14) rfl ?_
  rintro _ w15 ⟨rfl, hb16⟩
  refine ⟨_, rfl, ?_⟩
  have hB17 := hB5.trans (hb16.mono hB5.size)
  have hS18 := hS6.below hb16
  refine wl_move rfl rfl ?_
  rcases bE u14 with h20 | h20
  · replace hF := ifP h20 hF
    refine wl_on rfl rfl h20 ?_
    refine wl_field (o := 1) (off' := 1) ff_106_1 rfl rfl rfl ?_
    refine wl_on rfl rfl h20 ?_
    refine wl_load_blk (i := 0) (vs := [(.int .i64 x0.2)]) (v := (.int .i64 x0.2)) tf_3 rfl rfl hS18 rfl rfl rfl ?_
    refine wl_on rfl rfl h20 ?_
    obtain ⟨u21, hu21, hF⟩ := bindE hF
    refine wl_call rfl Try.call67 (C_impl_within w15 x0.2 0 672 _ hu21) rfl ?_
    rintro _ w22 ⟨rfl, hb23⟩
    refine ⟨_, rfl, ?_⟩
    have hB24 := hB17.trans (hb23.mono hB17.size)
    have hS25 := hS18.below hb23
    refine wl_pick_t rfl rfl h20 rfl ?_
    refine wl_assign rfl rfl ?_
    refine WL.nil ?_
    exact fun a ha => hJ13 (u21) _ hF hB24 (hS25.sel [] rfl) a (ha.sub ⟨rfl, trivial⟩)
  · replace hF := ifN h20 hF
    refine wl_off rfl rfl rfl h20 ?_
    refine wl_off rfl rfl rfl h20 ?_
    refine wl_off rfl rfl rfl h20 ?_
    refine wl_pick_f rfl rfl h20 rfl ?_
    refine wl_assign rfl rfl ?_
    refine WL.nil ?_
    exact fun a ha => hJ13 (false) _ hF hB17 (hS18.sel [] rfl) a (ha.sub ⟨rfl, trivial⟩)
theorem C_slices_Index_impl_Spot_impl_Spot (w0 : World) (x0 : (List (Int × Int))) (v0_0 : Value) (h0_0 : rdS ty_106 (· < w0.heap.size) w0 v0_0 x0) (x1 : (Int × Int)) (r : Int) (hF : F_slices_Index_impl_Spot_impl_Spot x0 x1 = some r) :
    Calls Try.prog 136 [v0_0, (.agg #[(.int .i64 x1.1), (.int .i64 x1.2)])].toArray w0 fun e w' => e = .returned (.int .i64 r) ∧ Below w0.heap.size w0 w' := by
  refine calls_mk' Try.func136 rfl Try.ntmps136 rfl rfl fun Q hQ hP => ?_
  have hB : Below w0.heap.size w0 w0 := Below.refl _ _
  have hS : Sep w0.heap.size w0 [] := Sep.nil _ _
  unfold F_slices_Index_impl_Spot_impl_Spot at hF
  refine W.seq fun K1 hK1 => ?_
  refine W.region ?_
  refine wl_box (cs := [(.int .i64 x1.1), (.int .i64 x1.2)]) rfl rfl rfl hB hS ?_
  intro b2 w3 hb4 hB5 hS6
  refine wl_assign rfl rfl ?_
  refine WL.nil ?_
  refine fun a ha => hK1 _ _ ?_ a ha
  refine W.seq fun K7 hK7 => ?_
  refine W.seq fun K8 hK8 => ?_
  refine W.region ?_
  refine wl_move rfl rfl ?_
  refine wl_lenr (e := ty_106) (l := x0) Try.underlying82 rfl rfl h0_0 ?_
  refine wl_move rfl rfl ?_
  refine WL.nil ?_
  refine fun a ha => hK8 _ _ ?_ a ha
  refine W.block ?_
  refine W.loopk (fun m a w9 => ∃ (y12 : Int), St 19 [(0, v0_0), (3, (.pointer (some ⟨b2, 0, none⟩))), (7, (.int .i64 (List.length x0 : Int))), (8, (.int .i64 y12))] a ∧ Below w0.heap.size w0 w9 ∧ Sep w0.heap.size w9 [R.blk b2 106 [(.int .i64 x1.1), (.int .i64 x1.2)]] ∧ F_slices_Index_impl_Spot_impl_Spot_L1 x0 x1 m y12 = some r) FU ?_ ?_
  ·
    exact fun a ha => ⟨0, ha.sub ⟨rfl, rfl, rfl, rfl, trivial⟩, hB5, (hS6.sel [0] rfl), hF⟩
  ·
    rintro m15 a w9 ⟨y12, ha, hB10, hS11, hF⟩ KL14 hKL14
    refine W.at ?_ ha
    cases m15 with
    | zero => exact noneE hF
    | succ m15 =>
      obtain ⟨nx13, hnx13⟩ : ∃ k, k = F_slices_Index_impl_Spot_impl_Spot_L1 x0 x1 m15 := ⟨_, rfl⟩
      rw [F_slices_Index_impl_Spot_impl_Spot_L1, ← hnx13] at hF
      refine W.seq fun K16 hK16 => ?_
      refine W.region ?_
      refine wl_lss rfl rfl rfl ?_
      refine WL.nil ?_
      refine fun a ha => hK16 _ _ ?_ a ha
      refine W.seq fun K17 hK17 => ?_
      refine W.cond rfl (fun h18 => ?_) (fun h18 => ?_)
      · replace hF := ifP h18 hF
        refine W.skip ?_
        refine fun a ha => hK17 _ _ ?_ a ha
        refine W.seq fun K19 hK19 => ?_
        refine W.block ?_
        refine W.seq fun K20 hK20 => ?_
        refine W.region ?_
        refine wl_move rfl rfl ?_
        refine wl_assign rfl rfl ?_
        refine WL.nil ?_
        refine fun a ha => hK20 _ _ ?_ a ha
        refine W.seq fun K21 hK21 => ?_
        refine W.regionH mixed_ [] hB10 hS11 ?_
        intro w22 hb23 hB24 hS25
        have hSW26 := KeepX.refl w22 []
        refine WH.takex (i := 0) rfl (by kernel_rfl) (by kernel_rfl) (by kernel_rfl) hP hSW26 ?_
        refine pr_load_blk (i := 0) (vs := [(.int .i64 x1.1), (.int .i64 x1.2)]) (v := (.agg #[(.int .i64 x1.1), (.int .i64 x1.2)])) tf_106 rfl rfl hS25 rfl rfl rfl (by simp) ?_
        refine WH.takex (i := 1) rfl (by kernel_rfl) (by kernel_rfl) (by kernel_rfl) hP hSW26 ?_
        refine pr_move rfl rfl ?_
        refine WH.takex (i := 2) rfl (by kernel_rfl) (by kernel_rfl) (by kernel_rfl) hP hSW26 ?_
        refine pr_move rfl rfl ?_
        obtain ⟨u27, hu27, hF⟩ := bindE hF
        refine WH.takex (i := 3) rfl (by kernel_rfl) (by kernel_rfl) (by kernel_rfl) hP hSW26 ?_
        refine pr_index (e := ty_106) Try.underlying82 rfl rfl rfl h0_0 hu27 ?_
        rintro p28 _ rfl hp29
        refine WH.takex (i := 4) rfl (by kernel_rfl) (by kernel_rfl) (by kernel_rfl) hP hSW26 ?_
        refine pr_load_p (vs := [(.int .i64 u27.1), (.int .i64 u27.2)]) (v := (.agg #[(.int .i64 u27.1), (.int .i64 u27.2)])) tf_106 rfl rfl (hp29.kx hB24 (by simp)) rfl rfl ?_
        refine WH.takex (i := 5) rfl (by kernel_rfl) (by kernel_rfl) (by kernel_rfl) hP hSW26 ?_
        refine pr_eqs Try.eqGuardType106 (eq_106 x1 u27) rfl rfl rfl ?_
        refine WH.done (by kernel_rfl) ?_
        refine fun a ha => hK21 _ _ ?_ a ha
        refine W.cond rfl (fun h30 => ?_) (fun h30 => ?_)
        · replace hF := ifP h30 hF
          refine W.seq fun K31 hK31 => ?_
          refine W.region ?_
          refine wl_move rfl rfl ?_
          refine wl_assign rfl rfl ?_
          refine WL.nil ?_
          refine fun a ha => hK31 _ _ ?_ a ha
          refine W.ret ?_
          have hr := Option.some.inj hF
          subst hr
          exact rets (vs := [(.int .i64 y12)]) hQ rfl ⟨rv_tmp rfl, trivial⟩ ⟨rfl, hB24⟩
        · replace hF := ifN h30 hF
          refine W.skip ?_
          refine fun a ha => hK19 _ _ ?_ a ha
          refine W.region ?_
          refine wl_add rfl rfl rfl ?_
          refine wl_move rfl rfl ?_
          refine WL.nil ?_
          rw [hnx13] at hF
          exact fun a ha => hKL14 a _ m15 (Nat.lt_succ_self m15) ⟨(w64 (y12 + 1)), ha.sub ⟨rfl, rfl, rfl, rfl, trivial⟩, hB24, (hS25.sel [0] rfl), hF⟩
      · replace hF := ifN h18 hF
        refine W.exit ?_
        refine fun a ha => hK7 _ _ ?_ a ha
        refine W.seq fun K32 hK32 => ?_
        refine W.region ?_
        refine wl_assign rfl rfl ?_
        refine WL.nil ?_
        refine fun a ha => hK32 _ _ ?_ a ha
        refine W.ret ?_
        have hr := Option.some.inj hF
        subst hr
        exact rets (vs := [(.int .i64 (-1))]) hQ rfl ⟨rv_tmp rfl, trivial⟩ ⟨rfl, hB10⟩
theorem C_slices_Contains_impl_Spot_impl_Spot (w0 : World) (x0 : (List (Int × Int))) (v0_0 : Value) (h0_0 : rdS ty_106 (· < w0.heap.size) w0 v0_0 x0) (x1 : (Int × Int)) (r : Bool) (hF : F_slices_Contains_impl_Spot_impl_Spot x0 x1 = some r) :
    Calls Try.prog 123 [v0_0, (.agg #[(.int .i64 x1.1), (.int .i64 x1.2)])].toArray w0 fun e w' => e = .returned (.bool r) ∧ Below w0.heap.size w0 w' := by
  refine calls_mk' Try.func123 rfl Try.ntmps123 rfl rfl fun Q hQ hP => ?_
  have hB : Below w0.heap.size w0 w0 := Below.refl _ _
  have hS : Sep w0.heap.size w0 [] := Sep.nil _ _
  unfold F_slices_Contains_impl_Spot_impl_Spot at hF
  refine W.seq fun K1 hK1 => ?_
  refine W.region ?_
  refine wl_box (cs := [(.int .i64 x1.1), (.int .i64 x1.2)]) rfl rfl rfl hB hS ?_
  intro b2 w3 hb4 hB5 hS6
  refine wl_assign rfl rfl ?_
  refine WL.nil ?_
  refine fun a ha => hK1 _ _ ?_ a ha
  refine W.seq fun K7 hK7 => ?_
  refine W.region ?_
  refine wl_move rfl rfl ?_
  refine wl_load_blk (i := 0) (vs := [(.int .i64 x1.1), (.int .i64 x1.2)]) (v := (.agg #[(.int .i64 x1.1), (.int .i64 x1.2)])) tf_106 rfl rfl hS6 rfl rfl rfl ?_
  obtain ⟨u8, hu8, hF⟩ := bindE hF
  refine wl_call rfl Try.call136 (C_slices_Index_impl_Spot_impl_Spot w3 x0 v0_0 (h0_0.ro hB5) x1 _ hu8) rfl ?_
  rintro _ w9 ⟨rfl, hb10⟩
  refine ⟨_, rfl, ?_⟩
  have hB11 := hB5.trans (hb10.mono hB5.size)
  have hS12 := hS6.below hb10
  refine wl_geq rfl rfl rfl ?_
  refine wl_assign rfl rfl ?_
  refine WL.nil ?_
  refine fun a ha => hK7 _ _ ?_ a ha
  refine W.ret ?_
  have hr := Option.some.inj hF
  subst hr
  exact rets (vs := [(.bool (decide (0 ≤ u8)))]) hQ rfl ⟨rv_tmp rfl, trivial⟩ ⟨rfl, hB11⟩
theorem C_impl_IsChart (w0 : World) (x0 : (List (Int × Int))) (v0_0 : Value) (h0_0 : rdS ty_106 (· < w0.heap.size) w0 v0_0 x0) (r : Bool) (hF : F_impl_IsChart x0 = some r) :
    Calls Try.prog 95 [v0_0].toArray w0 fun e w' => e = .returned (.bool r) ∧ Below w0.heap.size w0 w' := by
  refine calls_mk' Try.func95 rfl Try.ntmps95 rfl rfl fun Q hQ hP => ?_
  have hB : Below w0.heap.size w0 w0 := Below.refl _ _
  have hS : Sep w0.heap.size w0 [] := Sep.nil _ _
  unfold F_impl_IsChart at hF
  refine W.seq fun K1 hK1 => ?_
  refine W.region ?_
  refine wl_assign rfl rfl ?_
  refine WL.nil ?_
  refine fun a ha => hK1 _ _ ?_ a ha
  refine W.seq fun K2 hK2 => ?_
  refine W.seq fun K3 hK3 => ?_
  refine W.region ?_
  refine wl_move rfl rfl ?_
  refine wl_lenr (e := ty_106) (l := x0) Try.underlying82 rfl rfl h0_0 ?_
  obtain ⟨u4, hu4, hF⟩ := bindE hF
  refine wl_call rfl Try.call67 (C_impl_within w0 (List.length x0 : Int) 1 12 _ hu4) rfl ?_
  rintro _ w5 ⟨rfl, hb6⟩
  refine ⟨_, rfl, ?_⟩
  have hB7 := hB.trans (hb6.mono hB.size)
  have hS8 := hS.below hb6
  refine wl_not rfl rfl ?_
  refine WL.nil ?_
  refine fun a ha => hK3 _ _ ?_ a ha
  refine W.cond rfl (fun h10 => ?_) (fun h10 => ?_)
  · replace hF := ifP h10 hF
    refine W.seq fun K11 hK11 => ?_
    refine W.region ?_
    refine wl_assign rfl rfl ?_
    refine WL.nil ?_
    refine fun a ha => hK11 _ _ ?_ a ha
    refine W.ret ?_
    have hr := Option.some.inj hF
    subst hr
    exact rets (vs := [(.bool false)]) hQ rfl ⟨rv_tmp rfl, trivial⟩ ⟨rfl, hB7⟩
  · replace hF := ifN h10 hF
    refine W.skip ?_
    refine fun a ha => hK2 _ _ ?_ a ha
    refine W.seq fun K12 hK12 => ?_
    refine W.seq fun K13 hK13 => ?_
    refine W.region ?_
    refine wl_move rfl rfl ?_
    refine wl_lenr (e := ty_106) (l := x0) Try.underlying82 rfl rfl h0_0 ?_
    refine wl_move rfl rfl ?_
    refine WL.nil ?_
    refine fun a ha => hK13 _ _ ?_ a ha
    refine W.block ?_
    refine W.loopk (fun m a w14 => ∃ (y17 : Int), St 27 [(0, v0_0), (9, v0_0), (10, (.int .i64 (List.length x0 : Int))), (11, (.int .i64 y17))] a ∧ Below w0.heap.size w0 w14 ∧ Sep w0.heap.size w14 [] ∧ F_impl_IsChart_L1 x0 m y17 = some r) FU ?_ ?_
    ·
      exact fun a ha => ⟨0, ha.sub ⟨rfl, rfl, rfl, rfl, trivial⟩, hB7, (hS8.sel [] rfl), hF⟩
    ·
      rintro m20 a w14 ⟨y17, ha, hB15, hS16, hF⟩ KL19 hKL19
      refine W.at ?_ ha
      cases m20 with
      | zero => exact noneE hF
      | succ m20 =>
        obtain ⟨nx18, hnx18⟩ : ∃ k, k = F_impl_IsChart_L1 x0 m20 := ⟨_, rfl⟩
        rw [F_impl_IsChart_L1, ← hnx18] at hF
        refine W.seq fun K21 hK21 => ?_
        refine W.region ?_
        refine wl_lss rfl rfl rfl ?_
        refine WL.nil ?_
        refine fun a ha => hK21 _ _ ?_ a ha
        refine W.seq fun K22 hK22 => ?_
        refine W.cond rfl (fun h23 => ?_) (fun h23 => ?_)
        · replace hF := ifP h23 hF
          refine W.skip ?_
          refine fun a ha => hK22 _ _ ?_ a ha
          refine W.seq fun K24 hK24 => ?_
          refine W.block ?_
          refine W.seq fun K25 hK25 => ?_
          refine W.region ?_
          refine wl_move rfl rfl ?_
          obtain ⟨u26, hu26, hF⟩ := bindE hF
          refine wl_index (e := ty_106) Try.underlying82 rfl rfl rfl h0_0 hu26 ?_
          rintro p27 _ rfl hp28
          refine wl_load_p (vs := [(.int .i64 u26.1), (.int .i64 u26.2)]) (v := (.agg #[(.int .i64 u26.1), (.int .i64 u26.2)])) tf_106 rfl rfl (hp28.ro hB15) rfl rfl ?_
          refine wl_alloc (cs := [(.int .i64 0), (.int .i64 0)]) tf_106 rfl rfl hB15 hS16 ?_
          intro b29 w30 hb31 hB32 hS33
          refine wl_assign rfl rfl ?_
          refine wl_store_blk (i := 0) (vs := [(.int .i64 u26.1), (.int .i64 u26.2)]) (cs' := [(.int .i64 u26.1), (.int .i64 u26.2)]) tf_106 rfl rfl rfl rfl hB32 hS33 rfl rfl ⟨rfl, rfl, trivial⟩ rfl ?_
          intro w34 hk37 hB35 hS36
          refine WL.nil ?_
          refine fun a ha => hK25 _ _ ?_ a ha
          refine W.seq fun K38 hK38 => ?_
          obtain ⟨k43, hk43, hF⟩ := jE1 hF
          have hJ44 : ∀ (y42 : Bool) (w39 : World) (_ : k43 y42 = some r) (_ : Below w0.heap.size w0 w39) (_ : Sep w0.heap.size w39 []), ∀ a, St 27 [(0, v0_0), (9, v0_0), (10, (.int .i64 (List.length x0 : Int))), (11, (.int .i64 y17)), (25, (.bool y42))] a → K38 a w39 := by
            intro y42 w39 hF hB40 hS41
            subst hk43
            refine fun a ha => hK38 _ _ ?_ a ha
            refine W.cond rfl (fun h45 => ?_) (fun h45 => ?_)
            · replace hF := ifP h45 hF
              refine W.seq fun K46 hK46 => ?_
              refine W.region ?_
              refine wl_assign rfl rfl ?_
              refine WL.nil ?_
              refine fun a ha => hK46 _ _ ?_ a ha
              refine W.ret ?_
              have hr := Option.some.inj hF
              subst hr
              exact rets (vs := [(.bool false)]) hQ rfl ⟨rv_tmp rfl, trivial⟩ ⟨rfl, hB40⟩
            · replace hF := ifN h45 hF
              refine W.skip ?_
              refine fun a ha => hK24 _ _ ?_ a ha
              refine W.region ?_
              refine wl_add rfl rfl rfl ?_
              refine wl_move rfl rfl ?_
              refine WL.nil ?_
              rw [hnx18] at hF
              exact fun a ha => hKL19 a _ m20 (Nat.lt_succ_self m20) ⟨(w64 (y17 + 1)), ha.sub ⟨rfl, rfl, rfl, rfl, trivial⟩, hB40, (hS41.sel [] rfl), hF⟩
          refine W.regionH mixed_ [] hB35 hS36 ?_
          intro w47 hb48 hB49 hS50
          have hSW51 := KeepX.refl w47 []
          refine WH.takex (i := 0) rfl (by kernel_rfl) (by kernel_rfl) (by kernel_rfl) hP hSW51 ?_
          refine pr_load_blk (i := 0) (vs := [(.int .i64 u26.1), (.int .i64 u26.2)]) (v := (.agg #[(.int .i64 u26.1), (.int .i64 u26.2)])) tf_106 rfl rfl hS50 rfl rfl rfl (by simp) ?_
          refine WH.one (i := 1) (by kernel_rfl) rfl ?_
          obtain ⟨u52, hu52, hF⟩ := bindE hF
          refine wl_call rfl Try.call122 (C_impl_IsSpot w47 u26 _ hu52) rfl ?_
          rintro _ w53 ⟨rfl, hb54⟩
          refine ⟨_, rfl, ?_⟩
          have hB55 := hB49.trans (hb54.mono hB49.size)
          have hS56 := hS50.below hb54
          have hSW58 := hSW51.ext hb54
          refine WL.nil (WH.ret hSW58 ?_)
          refine WH.takex (i := 2) rfl (by kernel_rfl) (by kernel_rfl) (by kernel_rfl) hP hSW58 ?_
          refine pr_not rfl rfl ?_
          refine WH.takex (i := 3) rfl (by kernel_rfl) (by kernel_rfl) (by kernel_rfl) hP hSW58 ?_
          refine pr_move rfl rfl ?_
          rcases bE (!u52) with h59 | h59
          · replace hF := ifP h59 hF
            refine WH.off (i := 4) rfl (by kernel_rfl) (by kernel_rfl) (by kernel_rfl) hP rfl rfl h59 rfl hSW58 ?_
            refine WH.off (i := 5) rfl (by kernel_rfl) (by kernel_rfl) (by kernel_rfl) hP rfl rfl h59 rfl hSW58 ?_
            refine WH.off (i := 6) rfl (by kernel_rfl) (by kernel_rfl) (by kernel_rfl) hP rfl rfl h59 rfl hSW58 ?_
            refine WH.off (i := 7) rfl (by kernel_rfl) (by kernel_rfl) (by kernel_rfl) hP rfl rfl h59 rfl hSW58 ?_
            refine WH.off (i := 8) rfl (by kernel_rfl) (by kernel_rfl) (by kernel_rfl) hP rfl rfl h59 rfl hSW58 ?_
            refine WH.takex (i := 9) rfl (by kernel_rfl) (by kernel_rfl) (by kernel_rfl) hP hSW58 ?_
            refine pr_pick_t rfl rfl h59 rfl ?_
            refine WH.done (by kernel_rfl) ?_
            exact fun a ha => hJ44 (true) _ hF hB55 (hS56.sel [] rfl) a (ha.sub ⟨rfl, rfl, rfl, rfl, rfl, trivial⟩)
          · replace hF := ifN h59 hF
            refine WH.takexg (i := 4) rfl (by kernel_rfl) (by kernel_rfl) (by kernel_rfl) hP rfl rfl h59 hSW58 ?_
            refine pr_move rfl rfl ?_
            refine WH.takexg (i := 5) rfl (by kernel_rfl) (by kernel_rfl) (by kernel_rfl) hP rfl rfl h59 hSW58 ?_
            refine pr_move rfl rfl ?_
            obtain ⟨u60, hu60, hF⟩ := bindE hF
            refine WH.takexg (i := 6) rfl (by kernel_rfl) (by kernel_rfl) (by kernel_rfl) hP rfl rfl h59 hSW58 ?_
            refine pr_slice (e := ty_106) Try.underlying82 rfl rfl h0_0 hu60 (.inl ⟨rfl, rfl⟩) (.inr ⟨_, _, rfl, rfl⟩) ?_
            intro v61 hv62
            refine WH.takexg (i := 7) rfl (by kernel_rfl) (by kernel_rfl) (by kernel_rfl) hP rfl rfl h59 hSW58 ?_
            refine pr_load_blk (i := 0) (vs := [(.int .i64 u26.1), (.int .i64 u26.2)]) (v := (.agg #[(.int .i64 u26.1), (.int .i64 u26.2)])) tf_106 rfl rfl hS50 rfl rfl rfl (by simp) ?_
            refine WH.one (i := 8) (by kernel_rfl) rfl ?_
            refine wl_on rfl rfl h59 ?_
            obtain ⟨u63, hu63, hF⟩ := bindE hF
            refine wl_call rfl Try.call123 (C_slices_Contains_impl_Spot_impl_Spot w53 u60 v61 (hv62.ro hB55) u26 _ hu63) rfl ?_
            rintro _ w65 ⟨rfl, hb66⟩
            refine ⟨_, rfl, ?_⟩
            have hB67 := hB55.trans (hb66.mono hB55.size)
            have hS68 := hS56.below hb66
            have hSW70 := hSW58.ext hb66
            refine WL.nil (WH.ret hSW70 ?_)
            refine WH.takex (i := 9) rfl (by kernel_rfl) (by kernel_rfl) (by kernel_rfl) hP hSW70 ?_
            refine pr_pick_f rfl rfl h59 rfl ?_
            refine WH.done (by kernel_rfl) ?_
            exact fun a ha => hJ44 (u63) _ hF hB67 (hS68.sel [] rfl) a (ha.sub ⟨rfl, rfl, rfl, rfl, rfl, trivial⟩)
        · replace hF := ifN h23 hF
          refine W.exit ?_
          refine fun a ha => hK12 _ _ ?_ a ha
          refine W.seq fun K71 hK71 => ?_
          refine W.region ?_
          refine wl_assign rfl rfl ?_
          refine WL.nil ?_
          refine fun a ha => hK71 _ _ ?_ a ha
          refine W.ret ?_
          have hr := Option.some.inj hF
          subst hr
          exact rets (vs := [(.bool true)]) hQ rfl ⟨rv_tmp rfl, trivial⟩ ⟨rfl, hB15⟩
theorem C_impl_areCharts (w0 : World) (x0 : (List (List (Int × Int)))) (v0_0 : Value) (h0_0 : rdS ty_82 (· < w0.heap.size) w0 v0_0 x0) (x1 : (List Int)) (v1_0 : Value) (h1_0 : rdS ty_3 (· < w0.heap.size) w0 v1_0 x1) (r : Bool) (hF : F_impl_areCharts x0 x1 = some r) :
    Calls Try.prog 68 [v0_0, v1_0].toArray w0 fun e w' => e = .returned (.bool r) ∧ Below w0.heap.size w0 w' := by
  refine calls_mk' Try.func68 rfl Try.ntmps68 rfl rfl fun Q hQ hP => ?_
  have hB : Below w0.heap.size w0 w0 := Below.refl _ _
  have hS : Sep w0.heap.size w0 [] := Sep.nil _ _
  unfold F_impl_areCharts at hF
  refine W.seq fun K1 hK1 => ?_
  refine W.region ?_
  refine wl_assign rfl rfl ?_
  refine WL.nil ?_
  refine fun a ha => hK1 _ _ ?_ a ha
  refine W.seq fun K2 hK2 => ?_
  refine W.seq fun K3 hK3 => ?_
  obtain ⟨k8, hk8, hF⟩ := jE1 hF
  have hJ9 : ∀ (y7 : Bool) (w4 : World) (_ : k8 y7 = some r) (_ : Below w0.heap.size w0 w4) (_ : Sep w0.heap.size w4 []), ∀ a, St 50 [(0, v0_0), (1, v1_0), (20, (.bool y7))] a → K3 a w4 := by
    intro y7 w4 hF hB5 hS6
    subst hk8
    refine fun a ha => hK3 _ _ ?_ a ha
    refine W.cond rfl (fun h10 => ?_) (fun h10 => ?_)
    · replace hF := ifP h10 hF
      refine W.seq fun K11 hK11 => ?_
      refine W.region ?_
      refine wl_assign rfl rfl ?_
      refine WL.nil ?_
      refine fun a ha => hK11 _ _ ?_ a ha
      refine W.ret ?_
      have hr := Option.some.inj hF
      subst hr
      exact rets (vs := [(.bool false)]) hQ rfl ⟨rv_tmp rfl, trivial⟩ ⟨rfl, hB5⟩
    · replace hF := ifN h10 hF
      refine W.skip ?_
      refine fun a ha => hK2 _ _ ?_ a ha
      refine W.seq fun K12 hK12 => ?_
      refine W.seq fun K13 hK13 => ?_
      refine W.region ?_
      refine wl_move rfl rfl ?_
      refine wl_lenr (e := ty_82) (l := x0) Try.underlying40 rfl rfl h0_0 ?_
      refine wl_move rfl rfl ?_
      refine WL.nil ?_
      refine fun a ha => hK13 _ _ ?_ a ha
      refine W.block ?_
      refine W.loopk (fun m a w14 => ∃ (y17 : Int), St 50 [(0, v0_0), (1, v1_0), (21, v0_0), (22, (.int .i64 (List.length x0 : Int))), (23, (.int .i64 y17))] a ∧ Below w0.heap.size w0 w14 ∧ Sep w0.heap.size w14 [] ∧ F_impl_areCharts_L1 x0 x1 m y17 = some r) FU ?_ ?_
      ·
        exact fun a ha => ⟨0, ha.sub ⟨rfl, rfl, rfl, rfl, rfl, trivial⟩, hB5, (hS6.sel [] rfl), hF⟩
      ·
        rintro m20 a w14 ⟨y17, ha, hB15, hS16, hF⟩ KL19 hKL19
        refine W.at ?_ ha
        cases m20 with
        | zero => exact noneE hF
        | succ m20 =>
          obtain ⟨nx18, hnx18⟩ : ∃ k, k = F_impl_areCharts_L1 x0 x1 m20 := ⟨_, rfl⟩
          rw [F_impl_areCharts_L1, ← hnx18] at hF
          refine W.seq fun K21 hK21 => ?_
          refine W.region ?_
          refine wl_lss rfl rfl rfl ?_
          refine WL.nil ?_
          refine fun a ha => hK21 _ _ ?_ a ha
          refine W.seq fun K22 hK22 => ?_
          refine W.cond rfl (fun h23 => ?_) (fun h23 => ?_)
          · replace hF := ifP h23 hF
            refine W.skip ?_
            refine fun a ha => hK22 _ _ ?_ a ha
            refine W.seq fun K24 hK24 => ?_
            refine W.block ?_
            refine W.seq fun K25 hK25 => ?_
            refine W.region ?_
            obtain ⟨u26, hu26, hF⟩ := bindE hF
            refine wl_index (e := ty_82) Try.underlying40 rfl rfl rfl h0_0 hu26 ?_
            rintro p27 _ ⟨v29, rfl, hv30⟩ hp28
            refine wl_load_p (vs := [v29]) (v := v29) tf_82 rfl rfl (hp28.ro hB15) rfl rfl ?_
            refine wl_assign rfl rfl ?_
            refine WL.nil ?_
            refine fun a ha => hK25 _ _ ?_ a ha
            refine W.seq fun K31 hK31 => ?_
            obtain ⟨k36, hk36, hF⟩ := jE1 hF
            have hJ37 : ∀ (y35 : Bool) (w32 : World) (_ : k36 y35 = some r) (_ : Below w0.heap.size w0 w32) (_ : Sep w0.heap.size w32 []), ∀ a, St 50 [(0, v0_0), (1, v1_0), (21, v0_0), (22, (.int .i64 (List.length x0 : Int))), (23, (.int .i64 y17)), (38, (.bool y35))] a → K31 a w32 := by
              intro y35 w32 hF hB33 hS34
              subst hk36
              refine fun a ha => hK31 _ _ ?_ a ha
              refine W.cond rfl (fun h38 => ?_) (fun h38 => ?_)
              · replace hF := ifP h38 hF
                refine W.seq fun K39 hK39 => ?_
                refine W.region ?_
                refine wl_assign rfl rfl ?_
                refine WL.nil ?_
                refine fun a ha => hK39 _ _ ?_ a ha
                refine W.ret ?_
                have hr := Option.some.inj hF
                subst hr
                exact rets (vs := [(.bool false)]) hQ rfl ⟨rv_tmp rfl, trivial⟩ ⟨rfl, hB33⟩
              · replace hF := ifN h38 hF
                refine W.skip ?_
                refine fun a ha => hK24 _ _ ?_ a ha
                refine W.region ?_
                refine wl_add rfl rfl rfl ?_
                refine wl_move rfl rfl ?_
                refine WL.nil ?_
                rw [hnx18] at hF
                exact fun a ha => hKL19 a _ m20 (Nat.lt_succ_self m20) ⟨(w64 (y17 + 1)), ha.sub ⟨rfl, rfl, rfl, rfl, rfl, trivial⟩, hB33, (hS34.sel [] rfl), hF⟩
            refine W.region ?_
            refine wl_move rfl rfl ?_
            obtain ⟨u40, hu40, hF⟩ := bindE hF
            refine wl_call rfl Try.call95 (C_impl_IsChart w14 u26 v29 (hv30.ro hB15) _ hu40) rfl ?_
            rintro _ w41 ⟨rfl, hb42⟩
            refine ⟨_, rfl, ?_⟩
            have hB43 := hB15.trans (hb42.mono hB15.size)
            have hS44 := hS16.below hb42
            refine wl_not rfl rfl ?_
            refine wl_move rfl rfl ?_
            rcases bE (!u40) with h46 | h46
            · replace hF := ifP h46 hF
              refine wl_off rfl rfl rfl h46 ?_
              refine wl_off rfl rfl rfl h46 ?_
              refine wl_off rfl rfl rfl h46 ?_
              refine wl_off rfl rfl rfl h46 ?_
              refine wl_off rfl rfl rfl h46 ?_
              refine wl_off rfl rfl rfl h46 ?_
              refine wl_off rfl rfl rfl h46 ?_
              refine wl_pick_t rfl rfl h46 rfl ?_
              refine WL.nil ?_
              exact fun a ha => hJ37 (true) _ hF hB43 (hS44.sel [] rfl) a (ha.sub ⟨rfl, rfl, rfl, rfl, rfl, rfl, trivial⟩)
            · replace hF := ifN h46 hF
              refine wl_on rfl rfl h46 ?_
              refine wl_move rfl rfl ?_
              refine wl_on rfl rfl h46 ?_
              refine wl_lenr (e := ty_106) (l := u26) Try.underlying82 rfl rfl hv30 ?_
              refine wl_on rfl rfl h46 ?_
              refine wl_move rfl rfl ?_
              refine wl_on rfl rfl h46 ?_
              obtain ⟨u47, hu47, hF⟩ := bindE hF
              refine wl_index (e := ty_82) Try.underlying40 rfl rfl rfl h0_0 hu47 ?_
              rintro p48 _ ⟨v50, rfl, hv51⟩ hp49
              refine wl_on rfl rfl h46 ?_
              refine wl_load_p (vs := [v50]) (v := v50) tf_82 rfl rfl (hp49.ro hB43) rfl rfl ?_
              refine wl_on rfl rfl h46 ?_
              refine wl_lenr (e := ty_106) (l := u47) Try.underlying82 rfl rfl hv51 ?_
              refine wl_on rfl rfl h46 ?_
              refine wl_neq rfl rfl rfl ?_
              refine wl_pick_f rfl rfl h46 rfl ?_
              refine WL.nil ?_
              exact fun a ha => hJ37 (((List.length u26 : Int) != (List.length u47 : Int))) _ hF hB43 (hS44.sel [] rfl) a (ha.sub ⟨rfl, rfl, rfl, rfl, rfl, rfl, trivial⟩)
          · replace hF := ifN h23 hF
            refine W.exit ?_
            refine fun a ha => hK12 _ _ ?_ a ha
            refine W.seq fun K52 hK52 => ?_
            refine W.seq fun K53 hK53 => ?_
            refine W.region ?_
            refine wl_move rfl rfl ?_
            refine wl_lenr (e := ty_3) (l := x1) Try.underlying24 rfl rfl h1_0 ?_
            refine wl_move rfl rfl ?_
            refine WL.nil ?_
            refine fun a ha => hK53 _ _ ?_ a ha
            refine W.block ?_
            refine W.loopk (fun m a w54 => ∃ (y57 : Int), St 50 [(40, v1_0), (41, (.int .i64 (List.length x1 : Int))), (42, (.int .i64 y57))] a ∧ Below w0.heap.size w0 w54 ∧ Sep w0.heap.size w54 [] ∧ F_impl_areCharts_L2 x1 m y57 = some r) FU ?_ ?_
            ·
              exact fun a ha => ⟨0, ha.sub ⟨rfl, rfl, rfl, trivial⟩, hB15, (hS16.sel [] rfl), hF⟩
            ·
              rintro m60 a w54 ⟨y57, ha, hB55, hS56, hF⟩ KL59 hKL59
              refine W.at ?_ ha
              cases m60 with
              | zero => exact noneE hF
              | succ m60 =>
                obtain ⟨nx58, hnx58⟩ : ∃ k, k = F_impl_areCharts_L2 x1 m60 := ⟨_, rfl⟩
                rw [F_impl_areCharts_L2, ← hnx58] at hF
                refine W.seq fun K61 hK61 => ?_
                refine W.region ?_
                refine wl_lss rfl rfl rfl ?_
                refine WL.nil ?_
                refine fun a ha => hK61 _ _ ?_ a ha
                refine W.seq fun K62 hK62 => ?_
                refine W.cond rfl (fun h63 => ?_) (fun h63 => ?_)
                · replace hF := ifP h63 hF
                  refine W.skip ?_
                  refine fun a ha => hK62 _ _ ?_ a ha
                  refine W.seq fun K64 hK64 => ?_
                  refine W.block ?_
                  refine W.seq fun K65 hK65 => ?_
                  refine W.region ?_
                  obtain ⟨u66, hu66, hF⟩ := bindE hF
                  refine wl_index (e := ty_3) Try.underlying24 rfl rfl rfl h1_0 hu66 ?_
                  rintro p67 _ rfl hp68
                  refine wl_load_p (vs := [(.int .i64 u66)]) (v := (.int .i64 u66)) tf_3 rfl rfl (hp68.ro hB55) rfl rfl ?_
                  refine wl_assign rfl rfl ?_
                  refine WL.nil ?_
                  refine fun a ha => hK65 _ _ ?_ a ha
                  refine W.seq fun K69 hK69 => ?_
                  refine W.region ?_
                  refine wl_move rfl rfl ?_
                  obtain ⟨u70, hu70, hF⟩ := bindE hF
                  refine wl_call rfl Try.call67 (C_impl_within w54 u66 1 64 _ hu70) rfl ?_
                  rintro _ w71 ⟨rfl, hb72⟩
                  refine ⟨_, rfl, ?_⟩
                  have hB73 := hB55.trans (hb72.mono hB55.size)
                  have hS74 := hS56.below hb72
                  refine wl_not rfl rfl ?_
                  refine WL.nil ?_
                  refine fun a ha => hK69 _ _ ?_ a ha
                  refine W.cond rfl (fun h76 => ?_) (fun h76 => ?_)
                  · replace hF := ifP h76 hF
                    refine W.seq fun K77 hK77 => ?_
                    refine W.region ?_
                    refine wl_assign rfl rfl ?_
                    refine WL.nil ?_
                    refine fun a ha => hK77 _ _ ?_ a ha
                    refine W.ret ?_
                    have hr := Option.some.inj hF
                    subst hr
                    exact rets (vs := [(.bool false)]) hQ rfl ⟨rv_tmp rfl, trivial⟩ ⟨rfl, hB73⟩
                  · replace hF := ifN h76 hF
                    refine W.skip ?_
                    refine fun a ha => hK64 _ _ ?_ a ha
                    refine W.region ?_
                    refine wl_add rfl rfl rfl ?_
                    refine wl_move rfl rfl ?_
                    refine WL.nil ?_
                    rw [hnx58] at hF
                    exact fun a ha => hKL59 a _ m60 (Nat.lt_succ_self m60) ⟨(w64 (y57 + 1)), ha.sub ⟨rfl, rfl, rfl, trivial⟩, hB73, (hS74.sel [] rfl), hF⟩
                · replace hF := ifN h63 hF
                  refine W.exit ?_
                  refine fun a ha => hK52 _ _ ?_ a ha
                  refine W.seq fun K78 hK78 => ?_
                  refine W.region ?_
                  refine wl_assign rfl rfl ?_
                  refine WL.nil ?_
                  refine fun a ha => hK78 _ _ ?_ a ha
                  refine W.ret ?_
                  have hr := Option.some.inj hF
                  subst hr
                  exact rets (vs := [(.bool true)]) hQ rfl ⟨rv_tmp rfl, trivial⟩ ⟨rfl, hB55⟩
  refine W.region ?_
  refine wl_move rfl rfl ?_
  refine wl_lenr (e := ty_82) (l := x0) Try.underlying40 rfl rfl h0_0 ?_
  obtain ⟨u79, hu79, hF⟩ := bindE hF
  refine wl_call rfl Try.call67 (C_impl_within w0 (List.length x0 : Int) 1 9 _ hu79) rfl ?_
  rintro _ w80 ⟨rfl, hb81⟩
  refine ⟨_, rfl, ?_⟩
  have hB82 := hB.trans (hb81.mono hB.size)
  have hS83 := hS.below hb81
  refine wl_not rfl rfl ?_
  refine wl_move rfl rfl ?_
  rcases bE (!u79) with h85 | h85
  · replace hF := ifP h85 hF
    refine wl_off rfl rfl rfl h85 ?_
    refine wl_off rfl rfl rfl h85 ?_
    refine wl_off rfl rfl rfl h85 ?_
    refine wl_off rfl rfl rfl h85 ?_
    refine wl_off rfl rfl rfl h85 ?_
    refine wl_off rfl rfl rfl h85 ?_
    refine wl_pick_t rfl rfl h85 rfl ?_
    refine WL.nil ?_
    exact fun a ha => hJ9 (true) _ hF hB82 (hS83.sel [] rfl) a (ha.sub ⟨rfl, rfl, rfl, trivial⟩)
  · replace hF := ifN h85 hF
    refine wl_on rfl rfl h85 ?_
    refine wl_move rfl rfl ?_
    refine wl_on rfl rfl h85 ?_
    refine wl_lenr (e := ty_3) (l := x1) Try.underlying24 rfl rfl h1_0 ?_
    refine wl_on rfl rfl h85 ?_
    refine wl_move rfl rfl ?_
    refine wl_on rfl rfl h85 ?_
    refine wl_lenr (e := ty_82) (l := x0) Try.underlying40 rfl rfl h0_0 ?_
    refine wl_on rfl rfl h85 ?_
    refine wl_sub rfl rfl rfl ?_
    refine wl_on rfl rfl h85 ?_
    refine wl_neq rfl rfl rfl ?_
    refine wl_pick_f rfl rfl h85 rfl ?_
    refine WL.nil ?_
    exact fun a ha => hJ9 (((List.length x1 : Int) != (w64 ((List.length x0 : Int) - 1)))) _ hF hB82 (hS83.sel [] rfl) a (ha.sub ⟨rfl, rfl, rfl, trivial⟩)
theorem C_impl_isLeast (w0 : World) (x0 : Int) (r : Bool) (hF : F_impl_isLeast x0 = some r) :
    Calls Try.prog 69 [(.int .i64 x0)].toArray w0 fun e w' => e = .returned (.bool r) ∧ Below w0.heap.size w0 w' := by
  refine calls_mk' Try.func69 rfl Try.ntmps69 rfl rfl fun Q hQ hP => ?_
  have hB : Below w0.heap.size w0 w0 := Below.refl _ _
  have hS : Sep w0.heap.size w0 [] := Sep.nil _ _
  unfold F_impl_isLeast at hF
  refine W.seq fun K1 hK1 => ?_
  refine W.region ?_
  refine wl_assign rfl rfl ?_
  refine WL.nil ?_
  refine fun a ha => hK1 _ _ ?_ a ha
  refine W.seq fun K2 hK2 => ?_
  refine W.region ?_
  refine wl_move rfl rfl ?_
  obtain ⟨u3, hu3, hF⟩ := bindE hF
  refine wl_call rfl Try.call67 (C_impl_within w0 x0 0 80 _ hu3) rfl ?_
  rintro _ w4 ⟨rfl, hb5⟩
  refine ⟨_, rfl, ?_⟩
  have hB6 := hB.trans (hb5.mono hB.size)
  have hS7 := hS.below hb5
  refine wl_assign rfl rfl ?_
  refine WL.nil ?_
  refine fun a ha => hK2 _ _ ?_ a ha
  refine W.ret ?_
  have hr := Option.some.inj hF
  subst hr
  exact rets (vs := [(.bool u3)]) hQ rfl ⟨rv_tmp rfl, trivial⟩ ⟨rfl, hB6⟩
theorem C_impl_IsShow (w0 : World) (x0 : ((List (List (Int × Int))) × (List Int) × Int × Int)) (v0_0 : Value) (h0_0 : rdS ty_82 (· < w0.heap.size) w0 v0_0 x0.1) (v0_1 : Value) (h0_1 : rdS ty_3 (· < w0.heap.size) w0 v0_1 x0.2.1) (r : Bool) (hF : F_impl_IsShow x0 = some r) :
    Calls Try.prog 33 [(.agg #[v0_0, v0_1, (.int .i64 x0.2.2.1), (.int .i64 x0.2.2.2)])].toArray w0 fun e w' => e = .returned (.bool r) ∧ Below w0.heap.size w0 w' := by
  refine calls_mk' Try.func33 rfl Try.ntmps33 rfl rfl fun Q hQ hP => ?_
  have hB : Below w0.heap.size w0 w0 := Below.refl _ _
  have hS : Sep w0.heap.size w0 [] := Sep.nil _ _
  unfold F_impl_IsShow at hF
  refine W.seq fun K1 hK1 => ?_
  refine W.region ?_
  refine wl_box (cs := [v0_0, v0_1, (.int .i64 x0.2.2.1), (.int .i64 x0.2.2.2)]) rfl rfl rfl hB hS ?_
  intro b2 w3 hb4 hB5 hS6
  refine wl_assign rfl rfl ?_
  refine WL.nil ?_
  refine fun a ha => hK1 _ _ ?_ a ha
  refine W.seq fun K7 hK7 => ?_
  obtain ⟨k12, hk12, hF⟩ := jE1 hF
  have hJ13 : ∀ (y11 : Bool) (w8 : World) (_ : k12 y11 = some r) (_ : Below w0.heap.size w0 w8) (_ : Sep w0.heap.size w8 []), ∀ a, St 24 [(2, (.bool y11))] a → K7 a w8 := by
    intro y11 w8 hF hB9 hS10
    subst hk12
    refine fun a ha => hK7 _ _ ?_ a ha
    refine W.ret ?_
    have hr := Option.some.inj hF
    subst hr
    exact rets (vs := [(.bool y11)]) hQ rfl ⟨rv_tmp rfl, trivial⟩ ⟨rfl, hB9⟩
  refine W.region ?_
  refine wl_field (o := 0) (off' := 0) ff_42_0 rfl rfl rfl ?_
  refine wl_load_blk (i := 0) (vs := [v0_0]) (v := v0_0) tf_40 rfl rfl hS6 rfl rfl rfl ?_
  refine wl_lenr (e := ty_82) (l := x0.1) Try.underlying40 rfl rfl h0_0 ?_
  obtain ⟨u14, hu14, hF⟩ := bindE hF
  refine wl_call rfl Try.call67 (C_impl_within w3 (List.length x0.1 : Int) 2 8 _ hu14) rfl ?_
  rintro _ w15 ⟨rfl, hb16⟩
  refine ⟨_, rfl, ?_⟩
  have hB17 := hB5.trans (hb16.mono hB5.size)
  have hS18 := hS6.below hb16
  refine wl_move rfl rfl ?_
  rcases bE u14 with h20 | h20
  · replace hF := ifP h20 hF
    refine wl_on rfl rfl h20 ?_
    refine wl_field (o := 0) (off' := 0) ff_42_0 rfl rfl rfl ?_
    refine wl_on rfl rfl h20 ?_
    refine wl_load_blk (i := 0) (vs := [v0_0]) (v := v0_0) tf_40 rfl rfl hS18 rfl rfl rfl ?_
    refine wl_on rfl rfl h20 ?_
    refine wl_field (o := 1) (off' := 1) ff_42_1 rfl rfl rfl ?_
    refine wl_on rfl rfl h20 ?_
    refine wl_load_blk (i := 0) (vs := [v0_1]) (v := v0_1) tf_24 rfl rfl hS18 rfl rfl rfl ?_
    refine wl_on rfl rfl h20 ?_
    obtain ⟨u21, hu21, hF⟩ := bindE hF
    refine wl_call rfl Try.call68 (C_impl_areCharts w15 x0.1 v0_0 (h0_0.ro hB17) x0.2.1 v0_1 (h0_1.ro hB17) _ hu21) rfl ?_
    rintro _ w22 ⟨rfl, hb23⟩
    refine ⟨_, rfl, ?_⟩
    have hB24 := hB17.trans (hb23.mono hB17.size)
    have hS25 := hS18.below hb23
    refine wl_pick_t rfl rfl h20 rfl ?_
    refine wl_move rfl rfl ?_
    rcases bE u21 with h27 | h27
    · replace hF := ifP h27 hF
      refine wl_on rfl rfl h27 ?_
      refine wl_field (o := 2) (off' := 2) ff_42_2 rfl rfl rfl ?_
      refine wl_on rfl rfl h27 ?_
      refine wl_load_blk (i := 0) (vs := [(.int .i64 x0.2.2.1)]) (v := (.int .i64 x0.2.2.1)) tf_3 rfl rfl hS25 rfl rfl rfl ?_
      refine wl_on rfl rfl h27 ?_
      obtain ⟨u28, hu28, hF⟩ := bindE hF
      refine wl_call rfl Try.call69 (C_impl_isLeast w22 x0.2.2.1 _ hu28) rfl ?_
      rintro _ w29 ⟨rfl, hb30⟩
      refine ⟨_, rfl, ?_⟩
      have hB31 := hB24.trans (hb30.mono hB24.size)
      have hS32 := hS25.below hb30
      refine wl_pick_t rfl rfl h27 rfl ?_
      refine wl_move rfl rfl ?_
      rcases bE u28 with h34 | h34
      · replace hF := ifP h34 hF
        refine wl_on rfl rfl h34 ?_
        refine wl_field (o := 3) (off' := 3) ff_42_3 rfl rfl rfl ?_
        refine wl_on rfl rfl h34 ?_
        refine wl_load_blk (i := 0) (vs := [(.int .i64 x0.2.2.2)]) (v := (.int .i64 x0.2.2.2)) tf_3 rfl rfl hS32 rfl rfl rfl ?_
        refine wl_on rfl rfl h34 ?_
        obtain ⟨u35, hu35, hF⟩ := bindE hF
        refine wl_call rfl Try.call67 (C_impl_within w29 x0.2.2.2 1 24 _ hu35) rfl ?_
        rintro _ w36 ⟨rfl, hb37⟩
        refine ⟨_, rfl, ?_⟩
        have hB38 := hB31.trans (hb37.mono hB31.size)
        have hS39 := hS32.below hb37
        refine wl_pick_t rfl rfl h34 rfl ?_
        refine wl_assign rfl rfl ?_
        refine WL.nil ?_
        exact fun a ha => hJ13 (u35) _ hF hB38 (hS39.sel [] rfl) a (ha.sub ⟨rfl, trivial⟩)
      · replace hF := ifN h34 hF
        refine wl_off rfl rfl rfl h34 ?_
        refine wl_off rfl rfl rfl h34 ?_
        refine wl_off rfl rfl rfl h34 ?_
        refine wl_pick_f rfl rfl h34 rfl ?_
        refine wl_assign rfl rfl ?_
        refine WL.nil ?_
        exact fun a ha => hJ13 (false) _ hF hB31 (hS32.sel [] rfl) a (ha.sub ⟨rfl, trivial⟩)
    · replace hF := ifN h27 hF
      refine wl_off rfl rfl rfl h27 ?_
      refine wl_off rfl rfl rfl h27 ?_
      refine wl_off rfl rfl rfl h27 ?_
      refine wl_pick_f rfl rfl h27 rfl ?_
      refine wl_move rfl rfl ?_
      refine wl_off rfl rfl rfl rfl ?_
      refine wl_off rfl rfl rfl rfl ?_
      refine wl_off rfl rfl rfl rfl ?_
      refine wl_pick_f rfl rfl rfl rfl ?_
      refine wl_assign rfl rfl ?_
      refine WL.nil ?_
      exact fun a ha => hJ13 (false) _ hF hB24 (hS25.sel [] rfl) a (ha.sub ⟨rfl, trivial⟩)
  · replace hF := ifN h20 hF
    refine wl_off rfl rfl rfl h20 ?_
    refine wl_off rfl rfl rfl h20 ?_
    refine wl_off rfl rfl rfl h20 ?_
    refine wl_off rfl rfl rfl h20 ?_
    refine wl_off rfl rfl rfl h20 ?_
    refine wl_pick_f rfl rfl h20 rfl ?_
    refine wl_move rfl rfl ?_
    refine wl_off rfl rfl rfl rfl ?_
    refine wl_off rfl rfl rfl rfl ?_
    refine wl_off rfl rfl rfl rfl ?_
    refine wl_pick_f rfl rfl rfl rfl ?_
    refine wl_move rfl rfl ?_
    refine wl_off rfl rfl rfl rfl ?_
    refine wl_off rfl rfl rfl rfl ?_
    refine wl_off rfl rfl rfl rfl ?_
    refine wl_pick_f rfl rfl rfl rfl ?_
    refine wl_assign rfl rfl ?_
    refine WL.nil ?_
    exact fun a ha => hJ13 (false) _ hF hB17 (hS18.sel [] rfl) a (ha.sub ⟨rfl, trivial⟩)
theorem C_impl_showMoves (w0 : World) (x0 : ((List (List (Int × Int))) × (List Int) × Int × Int)) (v0_0 : Value) (h0_0 : rdS ty_82 (· < w0.heap.size) w0 v0_0 x0.1) (v0_1 : Value) (h0_1 : rdS ty_3 (· < w0.heap.size) w0 v0_1 x0.2.1) (x1 : Int) (r : (List ((Int × Int) × (Int × Int) × Int))) (hF : F_impl_showMoves x0 x1 = some r) :
    Calls Try.prog 100 [(.agg #[v0_0, v0_1, (.int .i64 x0.2.2.1), (.int .i64 x0.2.2.2)]), (.int .i64 x1)].toArray w0 fun e w' => ∃ (q0 : Value) (G0 : List Nat), e = .returned q0 ∧ Below w0.heap.size w0 w' ∧ Sep w0.heap.size w' [R.own ty_117 G0 q0 r] := by
  refine calls_mk' Try.func100 rfl Try.ntmps100 rfl rfl fun Q hQ hP => ?_
  have hB : Below w0.heap.size w0 w0 := Below.refl _ _
  have hS : Sep w0.heap.size w0 [] := Sep.nil _ _
  unfold F_impl_showMoves at hF
  refine W.seq fun K1 hK1 => ?_
  refine W.region ?_
  refine wl_box (cs := [v0_0, v0_1, (.int .i64 x0.2.2.1), (.int .i64 x0.2.2.2)]) rfl rfl rfl hB hS ?_
  intro b2 w3 hb4 hB5 hS6
  refine wl_assign rfl rfl ?_
  refine WL.nil ?_
  refine fun a ha => hK1 _ _ ?_ a ha
  refine W.seq fun K7 hK7 => ?_
  refine W.region ?_
  refine wl_lit (vs := []) (l := []) fl_117 Try.underlying114 rfl rfl rfl rfl rfl rfl hB5 hS6 ?_
  intro v8 F9 w10 hb11 hB12 hS13
  refine wl_assign rfl rfl ?_
  refine WL.nil ?_
  refine fun a ha => hK7 _ _ ?_ a ha
  refine W.seq fun K14 hK14 => ?_
  refine W.seq fun K15 hK15 => ?_
  refine W.region ?_
  refine wl_field (o := 0) (off' := 0) ff_42_0 rfl rfl rfl ?_
  refine wl_load_blk (i := 1) (vs := [v0_0]) (v := v0_0) tf_40 rfl rfl hS13 rfl rfl rfl ?_
  refine wl_move rfl rfl ?_
  obtain ⟨u16, hu16, hF⟩ := bindE hF
  refine wl_index (e := ty_82) Try.underlying40 rfl rfl rfl h0_0 hu16 ?_
  rintro p17 _ ⟨v19, rfl, hv20⟩ hp18
  refine wl_load_p (vs := [v19]) (v := v19) tf_82 rfl rfl (hp18.ro hB12) rfl rfl ?_
  refine wl_lenr (e := ty_106) (l := u16) Try.underlying82 rfl rfl hv20 ?_
  refine wl_move rfl rfl ?_
  refine WL.nil ?_
  refine fun a ha => hK15 _ _ ?_ a ha
  refine W.block ?_
  refine W.loopk (fun m a w21 => ∃ (l24 : (List ((Int × Int) × (Int × Int) × Int))) (y27 : Int) (v25 : Value) (F26 : List Nat), St 41 [(1, (.int .i64 x1)), (2, (.pointer (some ⟨b2, 0, none⟩))), (5, v25), (13, v19), (14, (.int .i64 (List.length u16 : Int))), (15, (.int .i64 y27))] a ∧ Below w0.heap.size w0 w21 ∧ Sep w0.heap.size w21 [R.blk b2 42 [v0_0, v0_1, (.int .i64 x0.2.2.1), (.int .i64 x0.2.2.2)], R.own ty_117 F26 v25 l24] ∧ F_impl_showMoves_L1 u16 x0 x1 m l24 y27 = some r) FU ?_ ?_
  ·
    exact fun a ha => ⟨[], 0, v8, F9, ha.sub ⟨rfl, rfl, rfl, rfl, rfl, rfl, trivial⟩, hB12, (hS13.sel [1, 0] rfl), hF⟩
  ·
    rintro m30 a w21 ⟨l24, y27, v25, F26, ha, hB22, hS23, hF⟩ KL29 hKL29
    refine W.at ?_ ha
    cases m30 with
    | zero => exact noneE hF
    | succ m30 =>
      obtain ⟨nx28, hnx28⟩ : ∃ k, k = F_impl_showMoves_L1 u16 x0 x1 m30 := ⟨_, rfl⟩
      rw [F_impl_showMoves_L1, ← hnx28] at hF
      refine W.seq fun K31 hK31 => ?_
      refine W.region ?_
      refine wl_lss rfl rfl rfl ?_
      refine WL.nil ?_
      refine fun a ha => hK31 _ _ ?_ a ha
      refine W.seq fun K32 hK32 => ?_
      refine W.cond rfl (fun h33 => ?_) (fun h33 => ?_)
      · replace hF := ifP h33 hF
        refine W.skip ?_
        refine fun a ha => hK32 _ _ ?_ a ha
        refine W.seq fun K34 hK34 => ?_
        refine W.block ?_
        refine W.seq fun K35 hK35 => ?_
        refine W.region ?_
        refine wl_move rfl rfl ?_
        obtain ⟨u36, hu36, hF⟩ := bindE hF
        refine wl_index (e := ty_106) Try.underlying82 rfl rfl rfl hv20 hu36 ?_
        rintro p37 _ rfl hp38
        refine wl_load_p (vs := [(.int .i64 u36.1), (.int .i64 u36.2)]) (v := (.agg #[(.int .i64 u36.1), (.int .i64 u36.2)])) tf_106 rfl rfl (hp38.ro hB22) rfl rfl ?_
        refine wl_alloc (cs := [(.int .i64 0), (.int .i64 0)]) tf_106 rfl rfl hB22 hS23 ?_
        intro b39 w40 hb41 hB42 hS43
        refine wl_assign rfl rfl ?_
        refine wl_store_blk (i := 0) (vs := [(.int .i64 u36.1), (.int .i64 u36.2)]) (cs' := [(.int .i64 u36.1), (.int .i64 u36.2)]) tf_106 rfl rfl rfl rfl hB42 hS43 rfl rfl ⟨rfl, rfl, trivial⟩ rfl ?_
        intro w44 hk47 hB45 hS46
        refine WL.nil ?_
        refine fun a ha => hK35 _ _ ?_ a ha
        refine W.regionH mixed_ F26 hB45 hS46 ?_
        intro w48 hb49 hB50 hS51
        have hSW52 := KeepX.refl w48 F26
        refine WH.takex (i := 0) rfl (by kernel_rfl) (by kernel_rfl) (by kernel_rfl) hP hSW52 ?_
        refine pr_move rfl rfl ?_
        refine WH.takex (i := 1) rfl (by kernel_rfl) (by kernel_rfl) (by kernel_rfl) hP hSW52 ?_
        refine pr_load_blk (i := 0) (vs := [(.int .i64 u36.1), (.int .i64 u36.2)]) (v := (.agg #[(.int .i64 u36.1), (.int .i64 u36.2)])) tf_106 rfl rfl hS51 rfl rfl rfl (hS51.disj (i := 0) (j := 2) rfl rfl rfl b39 (by simp [R.blk])) ?_
        refine WH.takex (i := 2) rfl (by kernel_rfl) (by kernel_rfl) (by kernel_rfl) hP hSW52 ?_
        refine pr_field (o := 0) (off' := 0) ff_42_0 rfl rfl rfl ?_
        refine WH.takex (i := 3) rfl (by kernel_rfl) (by kernel_rfl) (by kernel_rfl) hP hSW52 ?_
        refine pr_load_blk (i := 1) (vs := [v0_0]) (v := v0_0) tf_40 rfl rfl hS51 rfl rfl rfl (hS51.disj (i := 1) (j := 2) rfl rfl rfl b2 (by simp [R.blk])) ?_
        refine WH.takex (i := 4) rfl (by kernel_rfl) (by kernel_rfl) (by kernel_rfl) hP hSW52 ?_
        refine pr_move rfl rfl ?_
        refine WH.takex (i := 5) rfl (by kernel_rfl) (by kernel_rfl) (by kernel_rfl) hP hSW52 ?_
        refine pr_add rfl rfl rfl ?_
        obtain ⟨u53, hu53, hF⟩ := bindE hF
        refine WH.takex (i := 6) rfl (by kernel_rfl) (by kernel_rfl) (by kernel_rfl) hP hSW52 ?_
        refine pr_index (e := ty_82) Try.underlying40 rfl rfl rfl h0_0 hu53 ?_
        rintro p54 _ ⟨v56, rfl, hv57⟩ hp55
        refine WH.takex (i := 7) rfl (by kernel_rfl) (by kernel_rfl) (by kernel_rfl) hP hSW52 ?_
        refine pr_load_p (vs := [v56]) (v := v56) tf_82 rfl rfl (hp55.kx hB50 (fun b hb => (((hS51.get (i := 2) rfl).2.1 b hb).1))) rfl rfl ?_
        refine WH.takex (i := 8) rfl (by kernel_rfl) (by kernel_rfl) (by kernel_rfl) hP hSW52 ?_
        refine pr_move rfl rfl ?_
        obtain ⟨u58, hu58, hF⟩ := bindE hF
        refine WH.takex (i := 9) rfl (by kernel_rfl) (by kernel_rfl) (by kernel_rfl) hP hSW52 ?_
        refine pr_index (e := ty_106) Try.underlying82 rfl rfl rfl hv57 hu58 ?_
        rintro p59 _ rfl hp60
        refine WH.takex (i := 10) rfl (by kernel_rfl) (by kernel_rfl) (by kernel_rfl) hP hSW52 ?_
        refine pr_load_p (vs := [(.int .i64 u58.1), (.int .i64 u58.2)]) (v := (.agg #[(.int .i64 u58.1), (.int .i64 u58.2)])) tf_106 rfl rfl (hp60.kx hB50 (fun b hb => (((hS51.get (i := 2) rfl).2.1 b hb).1))) rfl rfl ?_
        refine WH.takex (i := 11) rfl (by kernel_rfl) (by kernel_rfl) (by kernel_rfl) hP hSW52 ?_
        refine pr_field (o := 1) (off' := 1) ff_42_1 rfl rfl rfl ?_
        refine WH.takex (i := 12) rfl (by kernel_rfl) (by kernel_rfl) (by kernel_rfl) hP hSW52 ?_
        refine pr_load_blk (i := 1) (vs := [v0_1]) (v := v0_1) tf_24 rfl rfl hS51 rfl rfl rfl (hS51.disj (i := 1) (j := 2) rfl rfl rfl b2 (by simp [R.blk])) ?_
        refine WH.takex (i := 13) rfl (by kernel_rfl) (by kernel_rfl) (by kernel_rfl) hP hSW52 ?_
        refine pr_move rfl rfl ?_
        obtain ⟨u61, hu61, hF⟩ := bindE hF
        refine WH.takex (i := 14) rfl (by kernel_rfl) (by kernel_rfl) (by kernel_rfl) hP hSW52 ?_
        refine pr_index (e := ty_3) Try.underlying24 rfl rfl rfl h0_1 hu61 ?_
        rintro p62 _ rfl hp63
        refine WH.takex (i := 15) rfl (by kernel_rfl) (by kernel_rfl) (by kernel_rfl) hP hSW52 ?_
        refine pr_load_p (vs := [(.int .i64 u61)]) (v := (.int .i64 u61)) tf_3 rfl rfl (hp63.kx hB50 (fun b hb => (((hS51.get (i := 2) rfl).2.1 b hb).1))) rfl rfl ?_
        refine WH.takex (i := 16) rfl (by kernel_rfl) (by kernel_rfl) (by kernel_rfl) hP hSW52 ?_
        refine pr_build (zs := [(.int .i64 0), (.int .i64 0), (.int .i64 0), (.int .i64 0), (.int .i64 0)]) (out := [(.int .i64 u36.1), (.int .i64 u36.2), (.int .i64 u58.1), (.int .i64 u58.2), (.int .i64 u61)]) (vs := [(.agg #[(.int .i64 u36.1), (.int .i64 u36.2)]), (.agg #[(.int .i64 u58.1), (.int .i64 u58.2)]), (.int .i64 u61)]) (css := [[(.int .i64 u36.1), (.int .i64 u36.2)], [(.int .i64 u58.1), (.int .i64 u58.2)], [(.int .i64 u61)]]) tf_117 pl_117 rfl rfl rfl rfl rfl ?_
        refine WH.one (i := 17) (by kernel_rfl) rfl ?_
        refine wl_lit (vs := [(.agg #[(.int .i64 u36.1), (.int .i64 u36.2), (.int .i64 u58.1), (.int .i64 u58.2), (.int .i64 u61)])]) (l := [(u36, u58, u61)]) fl_117 Try.underlying114 rfl rfl rfl rfl rfl rfl (Below.self w48) (Sep.nil _ _) ?_
        intro v64 F65 w66 hb67 hB70 hM71
        have hB68 := hB50.trans (hb67.mono hB50.size)
        have hS69 := hS51.join hb67 hM71 hB50.size
        have hn72 : ∀ b ∈ F65, w48.heap.size ≤ b := fun b hb => Nat.le_trans hSW52.size ((hM71.1 _ (List.mem_cons_self ..)).2.1 b hb).1
        have hSW73 := hSW52.ext hb67
        have hbS74 : Below w48.heap.size w48 w66 := hb67
        refine WL.nil (WH.ret hSW73 ?_)
        refine WH.one (i := 18) (by kernel_rfl) rfl ?_
        obtain ⟨u75, hu75, hF⟩ := bindE hF
        refine wl_append (i := 3) (S := (· < w66.heap.size)) fl_117 Try.underlying114 rfl rfl rfl hB68 hS69 rfl (hS69.own_ro (i := 0) rfl) hu75 ?_
        intro v76 F77 w78 hk79 hB80 hS81
        have hSW82 := hSW73.wr' hk79.1 hk79.2.1 (fun _ _ h => h)
        refine WL.nil (WH.ret hSW82 ?_)
        refine WH.takex (i := 19) rfl (by kernel_rfl) (by kernel_rfl) (by kernel_rfl) hP hSW82 ?_
        refine pr_assign rfl rfl ?_
        refine WH.done (by kernel_rfl) ?_
        refine fun a ha => hK34 _ _ ?_ a ha
        refine W.region ?_
        refine wl_add rfl rfl rfl ?_
        refine wl_move rfl rfl ?_
        refine WL.nil ?_
        rw [hnx28] at hF
        exact fun a ha => hKL29 a _ m30 (Nat.lt_succ_self m30) ⟨u75, (w64 (y27 + 1)), v76, F77, ha.sub ⟨rfl, rfl, rfl, rfl, rfl, rfl, trivial⟩, hB80, (hS81.sel [2, 3] rfl), hF⟩
      · replace hF := ifN h33 hF
        refine W.exit ?_
        refine fun a ha => hK14 _ _ ?_ a ha
        refine W.seq fun K83 hK83 => ?_
        refine W.region ?_
        refine wl_move rfl rfl ?_
        refine wl_assign rfl rfl ?_
        refine WL.nil ?_
        refine fun a ha => hK83 _ _ ?_ a ha
        refine W.ret ?_
        have hr := Option.some.inj hF
        subst hr
        exact rets (vs := [v25]) hQ rfl ⟨rv_tmp rfl, trivial⟩ ⟨v25, F26, rfl, hB22, hS23.sel [1] rfl⟩
theorem C_impl_squareOf (w0 : World) (x0 : (Int × Int)) (x1 : (Int × Int)) (r : Int) (hF : F_impl_squareOf x0 x1 = some r) :
    Calls Try.prog 101 [(.agg #[(.int .i64 x0.1), (.int .i64 x0.2)]), (.agg #[(.int .i64 x1.1), (.int .i64 x1.2)])].toArray w0 fun e w' => e = .returned (.int .i64 r) ∧ Below w0.heap.size w0 w' := by
  refine calls_mk' Try.func101 rfl Try.ntmps101 rfl rfl fun Q hQ hP => ?_
  have hB : Below w0.heap.size w0 w0 := Below.refl _ _
  have hS : Sep w0.heap.size w0 [] := Sep.nil _ _
  unfold F_impl_squareOf at hF
  refine W.seq fun K1 hK1 => ?_
  refine W.region ?_
  refine wl_box (cs := [(.int .i64 x0.1), (.int .i64 x0.2)]) rfl rfl rfl hB hS ?_
  intro b2 w3 hb4 hB5 hS6
  refine wl_box (cs := [(.int .i64 x1.1), (.int .i64 x1.2)]) rfl rfl rfl hB5 hS6 ?_
  intro b7 w8 hb9 hB10 hS11
  refine wl_assign rfl rfl ?_
  refine WL.nil ?_
  refine fun a ha => hK1 _ _ ?_ a ha
  refine W.seq fun K12 hK12 => ?_
  refine W.region ?_
  refine wl_field (o := 0) (off' := 0) ff_106_0 rfl rfl rfl ?_
  refine wl_load_blk (i := 1) (vs := [(.int .i64 x0.1)]) (v := (.int .i64 x0.1)) tf_3 rfl rfl hS11 rfl rfl rfl ?_
  refine wl_field (o := 0) (off' := 0) ff_106_0 rfl rfl rfl ?_
  refine wl_load_blk (i := 0) (vs := [(.int .i64 x1.1)]) (v := (.int .i64 x1.1)) tf_3 rfl rfl hS11 rfl rfl rfl ?_
  refine wl_sub rfl rfl rfl ?_
  refine wl_field (o := 0) (off' := 0) ff_106_0 rfl rfl rfl ?_
  refine wl_load_blk (i := 1) (vs := [(.int .i64 x0.1)]) (v := (.int .i64 x0.1)) tf_3 rfl rfl hS11 rfl rfl rfl ?_
  refine wl_field (o := 0) (off' := 0) ff_106_0 rfl rfl rfl ?_
  refine wl_load_blk (i := 0) (vs := [(.int .i64 x1.1)]) (v := (.int .i64 x1.1)) tf_3 rfl rfl hS11 rfl rfl rfl ?_
  refine wl_sub rfl rfl rfl ?_
  refine wl_mul rfl rfl rfl ?_
  refine wl_field (o := 1) (off' := 1) ff_106_1 rfl rfl rfl ?_
  refine wl_load_blk (i := 1) (vs := [(.int .i64 x0.2)]) (v := (.int .i64 x0.2)) tf_3 rfl rfl hS11 rfl rfl rfl ?_
  refine wl_field (o := 1) (off' := 1) ff_106_1 rfl rfl rfl ?_
  refine wl_load_blk (i := 0) (vs := [(.int .i64 x1.2)]) (v := (.int .i64 x1.2)) tf_3 rfl rfl hS11 rfl rfl rfl ?_
  refine wl_sub rfl rfl rfl ?_
  refine wl_field (o := 1) (off' := 1) ff_106_1 rfl rfl rfl ?_
  refine wl_load_blk (i := 1) (vs := [(.int .i64 x0.2)]) (v := (.int .i64 x0.2)) tf_3 rfl rfl hS11 rfl rfl rfl ?_
  refine wl_field (o := 1) (off' := 1) ff_106_1 rfl rfl rfl ?_
  refine wl_load_blk (i := 0) (vs := [(.int .i64 x1.2)]) (v := (.int .i64 x1.2)) tf_3 rfl rfl hS11 rfl rfl rfl ?_
  refine wl_sub rfl rfl rfl ?_
  refine wl_mul rfl rfl rfl ?_
  refine wl_add rfl rfl rfl ?_
  refine wl_assign rfl rfl ?_
  refine WL.nil ?_
  refine fun a ha => hK12 _ _ ?_ a ha
  refine W.ret ?_
  have hr := Option.some.inj hF
  subst hr
  exact rets (vs := [(.int .i64 (w64 ((w64 ((w64 (x0.1 - x1.1)) * (w64 (x0.1 - x1.1)))) + (w64 ((w64 (x0.2 - x1.2)) * (w64 (x0.2 - x1.2)))))))]) hQ rfl ⟨rv_tmp rfl, trivial⟩ ⟨rfl, hB10⟩
theorem C_impl_withinStep (w0 : World) (x0 : ((Int × Int) × (Int × Int) × Int)) (x1 : Int) (r : Bool) (hF : F_impl_withinStep x0 x1 = some r) :
    Calls Try.prog 125 [(.agg #[(.int .i64 x0.1.1), (.int .i64 x0.1.2), (.int .i64 x0.2.1.1), (.int .i64 x0.2.1.2), (.int .i64 x0.2.2)]), (.int .i64 x1)].toArray w0 fun e w' => e = .returned (.bool r) ∧ Below w0.heap.size w0 w' := by
  refine calls_mk' Try.func125 rfl Try.ntmps125 rfl rfl fun Q hQ hP => ?_
  have hB : Below w0.heap.size w0 w0 := Below.refl _ _
  have hS : Sep w0.heap.size w0 [] := Sep.nil _ _
  unfold F_impl_withinStep at hF
  refine W.seq fun K1 hK1 => ?_
  refine W.region ?_
  refine wl_box (cs := [(.int .i64 x0.1.1), (.int .i64 x0.1.2), (.int .i64 x0.2.1.1), (.int .i64 x0.2.1.2), (.int .i64 x0.2.2)]) rfl rfl rfl hB hS ?_
  intro b2 w3 hb4 hB5 hS6
  refine wl_assign rfl rfl ?_
  refine WL.nil ?_
  refine fun a ha => hK1 _ _ ?_ a ha
  refine W.seq fun K7 hK7 => ?_
  refine W.regionH mixed_ [] hB5 hS6 ?_
  intro w8 hb9 hB10 hS11
  have hSW12 := KeepX.refl w8 []
  refine WH.takex (i := 0) rfl (by kernel_rfl) (by kernel_rfl) (by kernel_rfl) hP hSW12 ?_
  refine pr_field (o := 0) (off' := 0) ff_117_0 rfl rfl rfl ?_
  refine WH.takex (i := 1) rfl (by kernel_rfl) (by kernel_rfl) (by kernel_rfl) hP hSW12 ?_
  refine pr_load_blk (i := 0) (vs := [(.int .i64 x0.1.1), (.int .i64 x0.1.2)]) (v := (.agg #[(.int .i64 x0.1.1), (.int .i64 x0.1.2)])) tf_106 rfl rfl hS11 rfl rfl rfl (by simp) ?_
  refine WH.takex (i := 2) rfl (by kernel_rfl) (by kernel_rfl) (by kernel_rfl) hP hSW12 ?_
  refine pr_field (o := 2) (off' := 2) ff_117_1 rfl rfl rfl ?_
  refine WH.takex (i := 3) rfl (by kernel_rfl) (by kernel_rfl) (by kernel_rfl) hP hSW12 ?_
  refine pr_load_blk (i := 0) (vs := [(.int .i64 x0.2.1.1), (.int .i64 x0.2.1.2)]) (v := (.agg #[(.int .i64 x0.2.1.1), (.int .i64 x0.2.1.2)])) tf_106 rfl rfl hS11 rfl rfl rfl (by simp) ?_
  refine WH.takex (i := 5) rfl (by kernel_rfl) (by kernel_rfl) (by kernel_rfl) hP hSW12 ?_
  refine pr_move rfl rfl ?_
  refine WH.takex (i := 6) rfl (by kernel_rfl) (by kernel_rfl) (by kernel_rfl) hP hSW12 ?_
  refine pr_move rfl rfl ?_
  refine WH.takex (i := 7) rfl (by kernel_rfl) (by kernel_rfl) (by kernel_rfl) hP hSW12 ?_
  refine pr_mul rfl rfl rfl ?_
  refine WH.takex (i := 8) rfl (by kernel_rfl) (by kernel_rfl) (by kernel_rfl) hP hSW12 ?_
  refine pr_field (o := 4) (off' := 4) ff_117_2 rfl rfl rfl ?_
  refine WH.takex (i := 9) rfl (by kernel_rfl) (by kernel_rfl) (by kernel_rfl) hP hSW12 ?_
  refine pr_load_blk (i := 0) (vs := [(.int .i64 x0.2.2)]) (v := (.int .i64 x0.2.2)) tf_3 rfl rfl hS11 rfl rfl rfl (by simp) ?_
  refine WH.takex (i := 10) rfl (by kernel_rfl) (by kernel_rfl) (by kernel_rfl) hP hSW12 ?_
  refine pr_mul rfl rfl rfl ?_
  refine WH.takex (i := 11) rfl (by kernel_rfl) (by kernel_rfl) (by kernel_rfl) hP hSW12 ?_
  refine pr_field (o := 4) (off' := 4) ff_117_2 rfl rfl rfl ?_
  refine WH.takex (i := 12) rfl (by kernel_rfl) (by kernel_rfl) (by kernel_rfl) hP hSW12 ?_
  refine pr_load_blk (i := 0) (vs := [(.int .i64 x0.2.2)]) (v := (.int .i64 x0.2.2)) tf_3 rfl rfl hS11 rfl rfl rfl (by simp) ?_
  refine WH.takex (i := 13) rfl (by kernel_rfl) (by kernel_rfl) (by kernel_rfl) hP hSW12 ?_
  refine pr_mul rfl rfl rfl ?_
  refine WH.one (i := 4) (by kernel_rfl) rfl ?_
  obtain ⟨u13, hu13, hF⟩ := bindE hF
  refine wl_call rfl Try.call101 (C_impl_squareOf w8 x0.1 x0.2.1 _ hu13) rfl ?_
  rintro _ w14 ⟨rfl, hb15⟩
  refine ⟨_, rfl, ?_⟩
  have hB16 := hB10.trans (hb15.mono hB10.size)
  have hS17 := hS11.below hb15
  have hSW19 := hSW12.ext hb15
  refine WL.nil (WH.ret hSW19 ?_)
  refine WH.takex (i := 14) rfl (by kernel_rfl) (by kernel_rfl) (by kernel_rfl) hP hSW19 ?_
  refine pr_leq rfl rfl rfl ?_
  refine WH.takex (i := 15) rfl (by kernel_rfl) (by kernel_rfl) (by kernel_rfl) hP hSW19 ?_
  refine pr_assign rfl rfl ?_
  refine WH.done (by kernel_rfl) ?_
  refine fun a ha => hK7 _ _ ?_ a ha
  refine W.ret ?_
  have hr := Option.some.inj hF
  subst hr
  exact rets (vs := [(.bool (decide (u13 ≤ (w64 ((w64 ((w64 (x1 * x1)) * x0.2.2)) * x0.2.2)))))]) hQ rfl ⟨rv_tmp rfl, trivial⟩ ⟨rfl, hB16⟩
theorem C_impl_wideSteps (w0 : World) (x0 : ((List (List (Int × Int))) × (List Int) × Int × Int)) (v0_0 : Value) (h0_0 : rdS ty_82 (· < w0.heap.size) w0 v0_0 x0.1) (v0_1 : Value) (h0_1 : rdS ty_3 (· < w0.heap.size) w0 v0_1 x0.2.1) (x1 : Int) (r : (List Int)) (hF : F_impl_wideSteps x0 x1 = some r) :
    Calls Try.prog 98 [(.agg #[v0_0, v0_1, (.int .i64 x0.2.2.1), (.int .i64 x0.2.2.2)]), (.int .i64 x1)].toArray w0 fun e w' => ∃ (q0 : Value) (G0 : List Nat), e = .returned q0 ∧ Below w0.heap.size w0 w' ∧ Sep w0.heap.size w' [R.own ty_3 G0 q0 r] := by
  refine calls_mk' Try.func98 rfl Try.ntmps98 rfl rfl fun Q hQ hP => ?_
  have hB : Below w0.heap.size w0 w0 := Below.refl _ _
  have hS : Sep w0.heap.size w0 [] := Sep.nil _ _
  unfold F_impl_wideSteps at hF
  refine W.seq fun K1 hK1 => ?_
  refine W.region ?_
  refine wl_box (cs := [v0_0, v0_1, (.int .i64 x0.2.2.1), (.int .i64 x0.2.2.2)]) rfl rfl rfl hB hS ?_
  intro b2 w3 hb4 hB5 hS6
  refine wl_assign rfl rfl ?_
  refine WL.nil ?_
  refine fun a ha => hK1 _ _ ?_ a ha
  refine W.seq fun K7 hK7 => ?_
  refine W.region ?_
  refine wl_lit (vs := []) (l := []) fl_3 Try.underlying24 rfl rfl rfl rfl rfl rfl hB5 hS6 ?_
  intro v8 F9 w10 hb11 hB12 hS13
  refine wl_assign rfl rfl ?_
  refine WL.nil ?_
  refine fun a ha => hK7 _ _ ?_ a ha
  refine W.seq fun K14 hK14 => ?_
  refine W.seq fun K15 hK15 => ?_
  refine W.region ?_
  refine wl_load_blk (i := 1) (vs := [v0_0, v0_1, (.int .i64 x0.2.2.1), (.int .i64 x0.2.2.2)]) (v := (.agg #[v0_0, v0_1, (.int .i64 x0.2.2.1), (.int .i64 x0.2.2.2)])) tf_42 rfl rfl hS13 rfl rfl rfl ?_
  refine wl_move rfl rfl ?_
  obtain ⟨u16, hu16, hF⟩ := bindE hF
  refine wl_call rfl Try.call100 (C_impl_showMoves w10 x0 v0_0 (h0_0.ro hB12) v0_1 (h0_1.ro hB12) x1 _ hu16) rfl ?_
  rintro _ w19 ⟨v17, F18, rfl, hb20, hM23⟩
  refine ⟨_, rfl, ?_⟩
  have hB21 := hB12.trans (hb20.mono hB12.size)
  have hS22 := hS13.join hb20 hM23 hB12.size
  refine wl_lenr (e := ty_117) (l := u16) Try.underlying114 rfl rfl (hS22.own_ro (i := 0) rfl) ?_
  refine wl_move rfl rfl ?_
  refine WL.nil ?_
  refine fun a ha => hK15 _ _ ?_ a ha
  refine W.block ?_
  refine W.loopk (fun m a w24 => ∃ (l27 : (List Int)) (y30 : Int) (v28 : Value) (F29 : List Nat), St 29 [(2, (.pointer (some ⟨b2, 0, none⟩))), (5, v28), (11, v17), (12, (.int .i64 (List.length u16 : Int))), (13, (.int .i64 y30))] a ∧ Below w0.heap.size w0 w24 ∧ Sep w0.heap.size w24 [R.blk b2 42 [v0_0, v0_1, (.int .i64 x0.2.2.1), (.int .i64 x0.2.2.2)], R.own ty_3 F29 v28 l27, R.own ty_117 F18 v17 u16] ∧ F_impl_wideSteps_L1 u16 x0 m l27 y30 = some r) FU ?_ ?_
  ·
    exact fun a ha => ⟨[], 0, v8, F9, ha.sub ⟨rfl, rfl, rfl, rfl, rfl, trivial⟩, hB21, (hS22.sel [2, 1, 0] rfl), hF⟩
  ·
    rintro m33 a w24 ⟨l27, y30, v28, F29, ha, hB25, hS26, hF⟩ KL32 hKL32
    refine W.at ?_ ha
    cases m33 with
    | zero => exact noneE hF
    | succ m33 =>
      obtain ⟨nx31, hnx31⟩ : ∃ k, k = F_impl_wideSteps_L1 u16 x0 m33 := ⟨_, rfl⟩
      rw [F_impl_wideSteps_L1, ← hnx31] at hF
      refine W.seq fun K34 hK34 => ?_
      refine W.region ?_
      refine wl_lss rfl rfl rfl ?_
      refine WL.nil ?_
      refine fun a ha => hK34 _ _ ?_ a ha
      refine W.seq fun K35 hK35 => ?_
      refine W.cond rfl (fun h36 => ?_) (fun h36 => ?_)
      · replace hF := ifP h36 hF
        refine W.skip ?_
        refine fun a ha => hK35 _ _ ?_ a ha
        refine W.seq fun K37 hK37 => ?_
        obtain ⟨k44, hk44, hF⟩ := jE1 hF
        have hJ45 : ∀ (l41 : (List Int)) (v42 : Value) (F43 : List Nat) (w38 : World) (_ : k44 l41 = some r) (_ : Below w0.heap.size w0 w38) (_ : Sep w0.heap.size w38 [R.blk b2 42 [v0_0, v0_1, (.int .i64 x0.2.2.1), (.int .i64 x0.2.2.2)], R.own ty_3 F43 v42 l41, R.own ty_117 F18 v17 u16]), ∀ a, St 29 [(2, (.pointer (some ⟨b2, 0, none⟩))), (5, v42), (11, v17), (12, (.int .i64 (List.length u16 : Int))), (13, (.int .i64 y30))] a → K37 a w38 := by
          intro l41 v42 F43 w38 hF hB39 hS40
          subst hk44
          refine fun a ha => hK37 _ _ ?_ a ha
          refine W.region ?_
          refine wl_add rfl rfl rfl ?_
          refine wl_move rfl rfl ?_
          refine WL.nil ?_
          rw [hnx31] at hF
          exact fun a ha => hKL32 a _ m33 (Nat.lt_succ_self m33) ⟨l41, (w64 (y30 + 1)), v42, F43, ha.sub ⟨rfl, rfl, rfl, rfl, rfl, trivial⟩, hB39, (hS40.sel [0, 1, 2] rfl), hF⟩
        refine W.block ?_
        refine W.seq fun K46 hK46 => ?_
        refine W.region ?_
        refine wl_move rfl rfl ?_
        obtain ⟨u47, hu47, hF⟩ := bindE hF
        refine wl_indexo (e := ty_117) (i := 2) Try.underlying114 rfl rfl rfl hS26 rfl hu47 ?_
        rintro p48 _ rfl hp49 ho50
        refine wl_load_p (vs := [(.int .i64 u47.1.1), (.int .i64 u47.1.2), (.int .i64 u47.2.1.1), (.int .i64 u47.2.1.2), (.int .i64 u47.2.2)]) (v := (.agg #[(.int .i64 u47.1.1), (.int .i64 u47.1.2), (.int .i64 u47.2.1.1), (.int .i64 u47.2.1.2), (.int .i64 u47.2.2)])) tf_117 rfl rfl hp49 rfl rfl ?_
        refine wl_alloc (cs := [(.int .i64 0), (.int .i64 0), (.int .i64 0), (.int .i64 0), (.int .i64 0)]) tf_117 rfl rfl hB25 hS26 ?_
        intro b51 w52 hb53 hB54 hS55
        refine wl_assign rfl rfl ?_
        refine wl_store_blk (i := 0) (vs := [(.int .i64 u47.1.1), (.int .i64 u47.1.2), (.int .i64 u47.2.1.1), (.int .i64 u47.2.1.2), (.int .i64 u47.2.2)]) (cs' := [(.int .i64 u47.1.1), (.int .i64 u47.1.2), (.int .i64 u47.2.1.1), (.int .i64 u47.2.1.2), (.int .i64 u47.2.2)]) tf_117 rfl rfl rfl rfl hB54 hS55 rfl rfl ⟨rfl, rfl, rfl, rfl, rfl, trivial⟩ rfl ?_
        intro w56 hk59 hB57 hS58
        refine WL.nil ?_
        refine fun a ha => hK46 _ _ ?_ a ha
        refine W.seq fun K60 hK60 => ?_
        refine W.region ?_
        refine wl_load_blk (i := 0) (vs := [(.int .i64 u47.1.1), (.int .i64 u47.1.2), (.int .i64 u47.2.1.1), (.int .i64 u47.2.1.2), (.int .i64 u47.2.2)]) (v := (.agg #[(.int .i64 u47.1.1), (.int .i64 u47.1.2), (.int .i64 u47.2.1.1), (.int .i64 u47.2.1.2), (.int .i64 u47.2.2)])) tf_117 rfl rfl hS58 rfl rfl rfl ?_
        refine wl_field (o := 3) (off' := 3) ff_42_3 rfl rfl rfl ?_
        refine wl_load_blk (i := 1) (vs := [(.int .i64 x0.2.2.2)]) (v := (.int .i64 x0.2.2.2)) tf_3 rfl rfl hS58 rfl rfl rfl ?_
        obtain ⟨u61, hu61, hF⟩ := bindE hF
        refine wl_call rfl Try.call125 (C_impl_withinStep w56 u47 x0.2.2.2 _ hu61) rfl ?_
        rintro _ w62 ⟨rfl, hb63⟩
        refine ⟨_, rfl, ?_⟩
        have hB64 := hB57.trans (hb63.mono hB57.size)
        have hS65 := hS58.below hb63
        refine wl_not rfl rfl ?_
        refine WL.nil ?_
        refine fun a ha => hK60 _ _ ?_ a ha
        refine W.cond rfl (fun h67 => ?_) (fun h67 => ?_)
        · replace hF := ifP h67 hF
          refine W.region ?_
          refine wl_move rfl rfl ?_
          refine wl_move rfl rfl ?_
          refine wl_lit (vs := [(.int .i64 y30)]) (l := [y30]) fl_3 Try.underlying24 rfl rfl rfl rfl rfl rfl hB64 hS65 ?_
          intro v68 F69 w70 hb71 hB72 hS73
          obtain ⟨u74, hu74, hF⟩ := bindE hF
          refine wl_append (i := 3) (S := (· < w70.heap.size)) fl_3 Try.underlying24 rfl rfl rfl hB72 hS73 rfl (hS73.own_ro (i := 0) rfl) hu74 ?_
          intro v75 F76 w77 hk78 hB79 hS80
          refine wl_assign rfl rfl ?_
          refine WL.nil ?_
          exact fun a ha => hJ45 (u74) (v75) (F76) _ hF hB79 (hS80.sel [2, 3, 4] rfl) a (ha.sub ⟨rfl, rfl, rfl, rfl, rfl, trivial⟩)
        · replace hF := ifN h67 hF
          refine W.skip ?_
          exact fun a ha => hJ45 (l27) (v28) (F29) _ hF hB64 (hS65.sel [1, 2, 3] rfl) a (ha.sub ⟨rfl, rfl, rfl, rfl, rfl, trivial⟩)
      · replace hF := ifN h36 hF
        refine W.exit ?_
        refine fun a ha => hK14 _ _ ?_ a ha
        refine W.seq fun K81 hK81 => ?_
        refine W.region ?_
        refine wl_move rfl rfl ?_
        refine wl_assign rfl rfl ?_
        refine WL.nil ?_
        refine fun a ha => hK81 _ _ ?_ a ha
        refine W.ret ?_
        have hr := Option.some.inj hF
        subst hr
        exact rets (vs := [v28]) hQ rfl ⟨rv_tmp rfl, trivial⟩ ⟨v28, F29, rfl, hB25, hS26.sel [1] rfl⟩
theorem C_impl_between (w0 : World) (x0 : ((Int × Int) × (Int × Int) × Int)) (x1 : ((Int × Int) × (Int × Int) × Int)) (r : ((Int × Int) × (Int × Int) × Int × Int)) (hF : F_impl_between x0 x1 = some r) :
    Calls Try.prog 141 [(.agg #[(.int .i64 x0.1.1), (.int .i64 x0.1.2), (.int .i64 x0.2.1.1), (.int .i64 x0.2.1.2), (.int .i64 x0.2.2)]), (.agg #[(.int .i64 x1.1.1), (.int .i64 x1.1.2), (.int .i64 x1.2.1.1), (.int .i64 x1.2.1.2), (.int .i64 x1.2.2)])].toArray w0 fun e w' => e = .returned (.tuple #[(.agg #[(.int .i64 r.1.1), (.int .i64 r.1.2)]), (.agg #[(.int .i64 r.2.1.1), (.int .i64 r.2.1.2)]), (.int .i64 r.2.2.1), (.int .i64 r.2.2.2)]) ∧ Below w0.heap.size w0 w' := by
  refine calls_mk' Try.func141 rfl Try.ntmps141 rfl rfl fun Q hQ hP => ?_
  have hB : Below w0.heap.size w0 w0 := Below.refl _ _
  have hS : Sep w0.heap.size w0 [] := Sep.nil _ _
  unfold F_impl_between at hF
  refine W.seq fun K1 hK1 => ?_
  refine W.region ?_
  refine wl_box (cs := [(.int .i64 x0.1.1), (.int .i64 x0.1.2), (.int .i64 x0.2.1.1), (.int .i64 x0.2.1.2), (.int .i64 x0.2.2)]) rfl rfl rfl hB hS ?_
  intro b2 w3 hb4 hB5 hS6
  refine wl_box (cs := [(.int .i64 x1.1.1), (.int .i64 x1.1.2), (.int .i64 x1.2.1.1), (.int .i64 x1.2.1.2), (.int .i64 x1.2.2)]) rfl rfl rfl hB5 hS6 ?_
  intro b7 w8 hb9 hB10 hS11
  refine wl_alloc (cs := [(.int .i64 0), (.int .i64 0)]) tf_106 rfl rfl hB10 hS11 ?_
  intro b12 w13 hb14 hB15 hS16
  refine wl_alloc (cs := [(.int .i64 0), (.int .i64 0)]) tf_106 rfl rfl hB15 hS16 ?_
  intro b17 w18 hb19 hB20 hS21
  refine wl_assign rfl rfl ?_
  refine wl_assign rfl rfl ?_
  refine WL.nil ?_
  refine fun a ha => hK1 _ _ ?_ a ha
  refine W.seq fun K22 hK22 => ?_
  refine W.region ?_
  refine wl_field (o := 0) (off' := 0) ff_117_0 rfl rfl rfl ?_
  refine wl_field (o := 0) (off' := 0) ff_106_0 rfl rfl rfl ?_
  refine wl_load_blk (i := 3) (vs := [(.int .i64 x0.1.1)]) (v := (.int .i64 x0.1.1)) tf_3 rfl rfl hS21 rfl rfl rfl ?_
  refine wl_field (o := 0) (off' := 0) ff_117_0 rfl rfl rfl ?_
  refine wl_field (o := 0) (off' := 0) ff_106_0 rfl rfl rfl ?_
  refine wl_load_blk (i := 2) (vs := [(.int .i64 x1.1.1)]) (v := (.int .i64 x1.1.1)) tf_3 rfl rfl hS21 rfl rfl rfl ?_
  refine wl_sub rfl rfl rfl ?_
  refine wl_field (o := 0) (off' := 0) ff_117_0 rfl rfl rfl ?_
  refine wl_field (o := 1) (off' := 1) ff_106_1 rfl rfl rfl ?_
  refine wl_load_blk (i := 3) (vs := [(.int .i64 x0.1.2)]) (v := (.int .i64 x0.1.2)) tf_3 rfl rfl hS21 rfl rfl rfl ?_
  refine wl_field (o := 0) (off' := 0) ff_117_0 rfl rfl rfl ?_
  refine wl_field (o := 1) (off' := 1) ff_106_1 rfl rfl rfl ?_
  refine wl_load_blk (i := 2) (vs := [(.int .i64 x1.1.2)]) (v := (.int .i64 x1.1.2)) tf_3 rfl rfl hS21 rfl rfl rfl ?_
  refine wl_sub rfl rfl rfl ?_
  refine wl_build (zs := [(.int .i64 0), (.int .i64 0)]) (out := [(.int .i64 (w64 (x0.1.1 - x1.1.1))), (.int .i64 (w64 (x0.1.2 - x1.1.2)))]) (vs := [(.int .i64 (w64 (x0.1.1 - x1.1.1))), (.int .i64 (w64 (x0.1.2 - x1.1.2)))]) (css := [[(.int .i64 (w64 (x0.1.1 - x1.1.1)))], [(.int .i64 (w64 (x0.1.2 - x1.1.2)))]]) tf_106 pl_106 rfl rfl rfl rfl rfl ?_
  refine wl_alloc (cs := [(.int .i64 0), (.int .i64 0)]) tf_106 rfl rfl hB20 hS21 ?_
  intro b23 w24 hb25 hB26 hS27
  refine wl_store_blk (i := 0) (vs := [(.int .i64 (w64 (x0.1.1 - x1.1.1))), (.int .i64 (w64 (x0.1.2 - x1.1.2)))]) (cs' := [(.int .i64 (w64 (x0.1.1 - x1.1.1))), (.int .i64 (w64 (x0.1.2 - x1.1.2)))]) tf_106 rfl rfl rfl rfl hB26 hS27 rfl rfl ⟨rfl, rfl, trivial⟩ rfl ?_
  intro w28 hk31 hB29 hS30
  refine WL.nil ?_
  refine fun a ha => hK22 _ _ ?_ a ha
  refine W.seq fun K32 hK32 => ?_
  refine W.region ?_
  refine wl_field (o := 2) (off' := 2) ff_117_1 rfl rfl rfl ?_
  refine wl_field (o := 0) (off' := 2) ff_106_0 rfl rfl rfl ?_
  refine wl_load_blk (i := 4) (vs := [(.int .i64 x0.2.1.1)]) (v := (.int .i64 x0.2.1.1)) tf_3 rfl rfl hS30 rfl rfl rfl ?_
  refine wl_field (o := 2) (off' := 2) ff_117_1 rfl rfl rfl ?_
  refine wl_field (o := 0) (off' := 2) ff_106_0 rfl rfl rfl ?_
  refine wl_load_blk (i := 3) (vs := [(.int .i64 x1.2.1.1)]) (v := (.int .i64 x1.2.1.1)) tf_3 rfl rfl hS30 rfl rfl rfl ?_
  refine wl_sub rfl rfl rfl ?_
  refine wl_field (o := 0) (off' := 0) ff_106_0 rfl rfl rfl ?_
  refine wl_load_blk (i := 0) (vs := [(.int .i64 (w64 (x0.1.1 - x1.1.1)))]) (v := (.int .i64 (w64 (x0.1.1 - x1.1.1)))) tf_3 rfl rfl hS30 rfl rfl rfl ?_
  refine wl_sub rfl rfl rfl ?_
  refine wl_field (o := 2) (off' := 2) ff_117_1 rfl rfl rfl ?_
  refine wl_field (o := 1) (off' := 3) ff_106_1 rfl rfl rfl ?_
  refine wl_load_blk (i := 4) (vs := [(.int .i64 x0.2.1.2)]) (v := (.int .i64 x0.2.1.2)) tf_3 rfl rfl hS30 rfl rfl rfl ?_
  refine wl_field (o := 2) (off' := 2) ff_117_1 rfl rfl rfl ?_
  refine wl_field (o := 1) (off' := 3) ff_106_1 rfl rfl rfl ?_
  refine wl_load_blk (i := 3) (vs := [(.int .i64 x1.2.1.2)]) (v := (.int .i64 x1.2.1.2)) tf_3 rfl rfl hS30 rfl rfl rfl ?_
  refine wl_sub rfl rfl rfl ?_
  refine wl_field (o := 1) (off' := 1) ff_106_1 rfl rfl rfl ?_
  refine wl_load_blk (i := 0) (vs := [(.int .i64 (w64 (x0.1.2 - x1.1.2)))]) (v := (.int .i64 (w64 (x0.1.2 - x1.1.2)))) tf_3 rfl rfl hS30 rfl rfl rfl ?_
  refine wl_sub rfl rfl rfl ?_
  refine wl_build (zs := [(.int .i64 0), (.int .i64 0)]) (out := [(.int .i64 (w64 ((w64 (x0.2.1.1 - x1.2.1.1)) - (w64 (x0.1.1 - x1.1.1))))), (.int .i64 (w64 ((w64 (x0.2.1.2 - x1.2.1.2)) - (w64 (x0.1.2 - x1.1.2)))))]) (vs := [(.int .i64 (w64 ((w64 (x0.2.1.1 - x1.2.1.1)) - (w64 (x0.1.1 - x1.1.1))))), (.int .i64 (w64 ((w64 (x0.2.1.2 - x1.2.1.2)) - (w64 (x0.1.2 - x1.1.2)))))]) (css := [[(.int .i64 (w64 ((w64 (x0.2.1.1 - x1.2.1.1)) - (w64 (x0.1.1 - x1.1.1)))))], [(.int .i64 (w64 ((w64 (x0.2.1.2 - x1.2.1.2)) - (w64 (x0.1.2 - x1.1.2)))))]]) tf_106 pl_106 rfl rfl rfl rfl rfl ?_
  refine wl_alloc (cs := [(.int .i64 0), (.int .i64 0)]) tf_106 rfl rfl hB29 hS30 ?_
  intro b33 w34 hb35 hB36 hS37
  refine wl_store_blk (i := 0) (vs := [(.int .i64 (w64 ((w64 (x0.2.1.1 - x1.2.1.1)) - (w64 (x0.1.1 - x1.1.1))))), (.int .i64 (w64 ((w64 (x0.2.1.2 - x1.2.1.2)) - (w64 (x0.1.2 - x1.1.2)))))]) (cs' := [(.int .i64 (w64 ((w64 (x0.2.1.1 - x1.2.1.1)) - (w64 (x0.1.1 - x1.1.1))))), (.int .i64 (w64 ((w64 (x0.2.1.2 - x1.2.1.2)) - (w64 (x0.1.2 - x1.1.2)))))]) tf_106 rfl rfl rfl rfl hB36 hS37 rfl rfl ⟨rfl, rfl, trivial⟩ rfl ?_
  intro w38 hk41 hB39 hS40
  refine WL.nil ?_
  refine fun a ha => hK32 _ _ ?_ a ha
  refine W.seq fun K42 hK42 => ?_
  refine W.regionH mixed_ ([b17] ++ [b12]) hB39 hS40 ?_
  intro w43 hb44 hB45 hS46
  have hSW47 := KeepX.refl w43 ([b17] ++ [b12])
  refine WH.takex (i := 0) rfl (by kernel_rfl) (by kernel_rfl) (by kernel_rfl) hP hSW47 ?_
  refine pr_load_blk (i := 1) (vs := [(.int .i64 (w64 (x0.1.1 - x1.1.1))), (.int .i64 (w64 (x0.1.2 - x1.1.2)))]) (v := (.agg #[(.int .i64 (w64 (x0.1.1 - x1.1.1))), (.int .i64 (w64 (x0.1.2 - x1.1.2)))])) tf_106 rfl rfl hS46 rfl rfl rfl (fun hb => (List.mem_append.1 hb).elim (hS46.disj (i := 1) (j := 2) rfl rfl rfl b23 (by simp [R.blk])) (hS46.disj (i := 1) (j := 3) rfl rfl rfl b23 (by simp [R.blk]))) ?_
  refine WH.takex (i := 1) rfl (by kernel_rfl) (by kernel_rfl) (by kernel_rfl) hP hSW47 ?_
  refine pr_load_blk (i := 0) (vs := [(.int .i64 (w64 ((w64 (x0.2.1.1 - x1.2.1.1)) - (w64 (x0.1.1 - x1.1.1))))), (.int .i64 (w64 ((w64 (x0.2.1.2 - x1.2.1.2)) - (w64 (x0.1.2 - x1.1.2)))))]) (v := (.agg #[(.int .i64 (w64 ((w64 (x0.2.1.1 - x1.2.1.1)) - (w64 (x0.1.1 - x1.1.1))))), (.int .i64 (w64 ((w64 (x0.2.1.2 - x1.2.1.2)) - (w64 (x0.1.2 - x1.1.2)))))])) tf_106 rfl rfl hS46 rfl rfl rfl (fun hb => (List.mem_append.1 hb).elim (hS46.disj (i := 0) (j := 2) rfl rfl rfl b33 (by simp [R.blk])) (hS46.disj (i := 0) (j := 3) rfl rfl rfl b33 (by simp [R.blk]))) ?_
  refine WH.takex (i := 2) rfl (by kernel_rfl) (by kernel_rfl) (by kernel_rfl) hP hSW47 ?_
  refine pr_field (o := 0) (off' := 0) ff_106_0 rfl rfl rfl ?_
  refine WH.takex (i := 3) rfl (by kernel_rfl) (by kernel_rfl) (by kernel_rfl) hP hSW47 ?_
  refine pr_load_blk (i := 1) (vs := [(.int .i64 (w64 (x0.1.1 - x1.1.1)))]) (v := (.int .i64 (w64 (x0.1.1 - x1.1.1)))) tf_3 rfl rfl hS46 rfl rfl rfl (fun hb => (List.mem_append.1 hb).elim (hS46.disj (i := 1) (j := 2) rfl rfl rfl b23 (by simp [R.blk])) (hS46.disj (i := 1) (j := 3) rfl rfl rfl b23 (by simp [R.blk]))) ?_
  refine WH.takex (i := 4) rfl (by kernel_rfl) (by kernel_rfl) (by kernel_rfl) hP hSW47 ?_
  refine pr_field (o := 0) (off' := 0) ff_106_0 rfl rfl rfl ?_
  refine WH.takex (i := 5) rfl (by kernel_rfl) (by kernel_rfl) (by kernel_rfl) hP hSW47 ?_
  refine pr_load_blk (i := 0) (vs := [(.int .i64 (w64 ((w64 (x0.2.1.1 - x1.2.1.1)) - (w64 (x0.1.1 - x1.1.1)))))]) (v := (.int .i64 (w64 ((w64 (x0.2.1.1 - x1.2.1.1)) - (w64 (x0.1.1 - x1.1.1)))))) tf_3 rfl rfl hS46 rfl rfl rfl (fun hb => (List.mem_append.1 hb).elim (hS46.disj (i := 0) (j := 2) rfl rfl rfl b33 (by simp [R.blk])) (hS46.disj (i := 0) (j := 3) rfl rfl rfl b33 (by simp [R.blk]))) ?_
  refine WH.takex (i := 6) rfl (by kernel_rfl) (by kernel_rfl) (by kernel_rfl) hP hSW47 ?_
  refine pr_mul rfl rfl rfl ?_
  refine WH.takex (i := 7) rfl (by kernel_rfl) (by kernel_rfl) (by kernel_rfl) hP hSW47 ?_
  refine pr_field (o := 1) (off' := 1) ff_106_1 rfl rfl rfl ?_
  refine WH.takex (i := 8) rfl (by kernel_rfl) (by kernel_rfl) (by kernel_rfl) hP hSW47 ?_
  refine pr_load_blk (i := 1) (vs := [(.int .i64 (w64 (x0.1.2 - x1.1.2)))]) (v := (.int .i64 (w64 (x0.1.2 - x1.1.2)))) tf_3 rfl rfl hS46 rfl rfl rfl (fun hb => (List.mem_append.1 hb).elim (hS46.disj (i := 1) (j := 2) rfl rfl rfl b23 (by simp [R.blk])) (hS46.disj (i := 1) (j := 3) rfl rfl rfl b23 (by simp [R.blk]))) ?_
  refine WH.takex (i := 9) rfl (by kernel_rfl) (by kernel_rfl) (by kernel_rfl) hP hSW47 ?_
  refine pr_field (o := 1) (off' := 1) ff_106_1 rfl rfl rfl ?_
  refine WH.takex (i := 10) rfl (by kernel_rfl) (by kernel_rfl) (by kernel_rfl) hP hSW47 ?_
  refine pr_load_blk (i := 0) (vs := [(.int .i64 (w64 ((w64 (x0.2.1.2 - x1.2.1.2)) - (w64 (x0.1.2 - x1.1.2)))))]) (v := (.int .i64 (w64 ((w64 (x0.2.1.2 - x1.2.1.2)) - (w64 (x0.1.2 - x1.1.2)))))) tf_3 rfl rfl hS46 rfl rfl rfl (fun hb => (List.mem_append.1 hb).elim (hS46.disj (i := 0) (j := 2) rfl rfl rfl b33 (by simp [R.blk])) (hS46.disj (i := 0) (j := 3) rfl rfl rfl b33 (by simp [R.blk]))) ?_
  refine WH.takex (i := 11) rfl (by kernel_rfl) (by kernel_rfl) (by kernel_rfl) hP hSW47 ?_
  refine pr_mul rfl rfl rfl ?_
  refine WH.takex (i := 12) rfl (by kernel_rfl) (by kernel_rfl) (by kernel_rfl) hP hSW47 ?_
  refine pr_add rfl rfl rfl ?_
  refine WH.takex (i := 13) rfl (by kernel_rfl) (by kernel_rfl) (by kernel_rfl) hP hSW47 ?_
  refine pr_field (o := 0) (off' := 0) ff_106_0 rfl rfl rfl ?_
  refine WH.takex (i := 14) rfl (by kernel_rfl) (by kernel_rfl) (by kernel_rfl) hP hSW47 ?_
  refine pr_load_blk (i := 0) (vs := [(.int .i64 (w64 ((w64 (x0.2.1.1 - x1.2.1.1)) - (w64 (x0.1.1 - x1.1.1)))))]) (v := (.int .i64 (w64 ((w64 (x0.2.1.1 - x1.2.1.1)) - (w64 (x0.1.1 - x1.1.1)))))) tf_3 rfl rfl hS46 rfl rfl rfl (fun hb => (List.mem_append.1 hb).elim (hS46.disj (i := 0) (j := 2) rfl rfl rfl b33 (by simp [R.blk])) (hS46.disj (i := 0) (j := 3) rfl rfl rfl b33 (by simp [R.blk]))) ?_
  refine WH.takex (i := 15) rfl (by kernel_rfl) (by kernel_rfl) (by kernel_rfl) hP hSW47 ?_
  refine pr_field (o := 0) (off' := 0) ff_106_0 rfl rfl rfl ?_
  refine WH.takex (i := 16) rfl (by kernel_rfl) (by kernel_rfl) (by kernel_rfl) hP hSW47 ?_
  refine pr_load_blk (i := 0) (vs := [(.int .i64 (w64 ((w64 (x0.2.1.1 - x1.2.1.1)) - (w64 (x0.1.1 - x1.1.1)))))]) (v := (.int .i64 (w64 ((w64 (x0.2.1.1 - x1.2.1.1)) - (w64 (x0.1.1 - x1.1.1)))))) tf_3 rfl rfl hS46 rfl rfl rfl (fun hb => (List.mem_append.1 hb).elim (hS46.disj (i := 0) (j := 2) rfl rfl rfl b33 (by simp [R.blk])) (hS46.disj (i := 0) (j := 3) rfl rfl rfl b33 (by simp [R.blk]))) ?_
  refine WH.takex (i := 17) rfl (by kernel_rfl) (by kernel_rfl) (by kernel_rfl) hP hSW47 ?_
  refine pr_mul rfl rfl rfl ?_
  refine WH.takex (i := 18) rfl (by kernel_rfl) (by kernel_rfl) (by kernel_rfl) hP hSW47 ?_
  refine pr_field (o := 1) (off' := 1) ff_106_1 rfl rfl rfl ?_
  refine WH.takex (i := 19) rfl (by kernel_rfl) (by kernel_rfl) (by kernel_rfl) hP hSW47 ?_
  refine pr_load_blk (i := 0) (vs := [(.int .i64 (w64 ((w64 (x0.2.1.2 - x1.2.1.2)) - (w64 (x0.1.2 - x1.1.2)))))]) (v := (.int .i64 (w64 ((w64 (x0.2.1.2 - x1.2.1.2)) - (w64 (x0.1.2 - x1.1.2)))))) tf_3 rfl rfl hS46 rfl rfl rfl (fun hb => (List.mem_append.1 hb).elim (hS46.disj (i := 0) (j := 2) rfl rfl rfl b33 (by simp [R.blk])) (hS46.disj (i := 0) (j := 3) rfl rfl rfl b33 (by simp [R.blk]))) ?_
  refine WH.takex (i := 20) rfl (by kernel_rfl) (by kernel_rfl) (by kernel_rfl) hP hSW47 ?_
  refine pr_field (o := 1) (off' := 1) ff_106_1 rfl rfl rfl ?_
  refine WH.takex (i := 21) rfl (by kernel_rfl) (by kernel_rfl) (by kernel_rfl) hP hSW47 ?_
  refine pr_load_blk (i := 0) (vs := [(.int .i64 (w64 ((w64 (x0.2.1.2 - x1.2.1.2)) - (w64 (x0.1.2 - x1.1.2)))))]) (v := (.int .i64 (w64 ((w64 (x0.2.1.2 - x1.2.1.2)) - (w64 (x0.1.2 - x1.1.2)))))) tf_3 rfl rfl hS46 rfl rfl rfl (fun hb => (List.mem_append.1 hb).elim (hS46.disj (i := 0) (j := 2) rfl rfl rfl b33 (by simp [R.blk])) (hS46.disj (i := 0) (j := 3) rfl rfl rfl b33 (by simp [R.blk]))) ?_
  refine WH.takex (i := 22) rfl (by kernel_rfl) (by kernel_rfl) (by kernel_rfl) hP hSW47 ?_
  refine pr_mul rfl rfl rfl ?_
  refine WH.takex (i := 23) rfl (by kernel_rfl) (by kernel_rfl) (by kernel_rfl) hP hSW47 ?_
  refine pr_add rfl rfl rfl ?_
  refine WH.one (i := 24) (by kernel_rfl) rfl ?_
  refine wl_store_blk (i := 3) (vs := [(.int .i64 (w64 (x0.1.1 - x1.1.1))), (.int .i64 (w64 (x0.1.2 - x1.1.2)))]) (cs' := [(.int .i64 (w64 (x0.1.1 - x1.1.1))), (.int .i64 (w64 (x0.1.2 - x1.1.2)))]) tf_106 rfl rfl rfl rfl hB45 hS46 rfl rfl ⟨rfl, rfl, trivial⟩ rfl ?_
  intro w48 hk51 hB49 hS50
  have hSW52 := hSW47.wr' hk51.1 hk51.2.1 (fun _ _ h => List.mem_append_right _ h)
  refine WL.nil (WH.ret hSW52 ?_)
  refine WH.one (i := 25) (by kernel_rfl) rfl ?_
  refine wl_store_blk (i := 2) (vs := [(.int .i64 (w64 ((w64 (x0.2.1.1 - x1.2.1.1)) - (w64 (x0.1.1 - x1.1.1))))), (.int .i64 (w64 ((w64 (x0.2.1.2 - x1.2.1.2)) - (w64 (x0.1.2 - x1.1.2)))))]) (cs' := [(.int .i64 (w64 ((w64 (x0.2.1.1 - x1.2.1.1)) - (w64 (x0.1.1 - x1.1.1))))), (.int .i64 (w64 ((w64 (x0.2.1.2 - x1.2.1.2)) - (w64 (x0.1.2 - x1.1.2)))))]) tf_106 rfl rfl rfl rfl hB49 hS50 rfl rfl ⟨rfl, rfl, trivial⟩ rfl ?_
  intro w53 hk56 hB54 hS55
  have hSW57 := hSW52.wr' hk56.1 hk56.2.1 (fun _ _ h => List.mem_append_left _ (h))
  refine WL.nil (WH.ret hSW57 ?_)
  refine WH.takex (i := 26) rfl (by kernel_rfl) (by kernel_rfl) (by kernel_rfl) hP hSW57 ?_
  refine pr_assign rfl rfl ?_
  refine WH.takex (i := 27) rfl (by kernel_rfl) (by kernel_rfl) (by kernel_rfl) hP hSW57 ?_
  refine pr_assign rfl rfl ?_
  refine WH.done (by kernel_rfl) ?_
  refine fun a ha => hK42 _ _ ?_ a ha
  refine W.ret ?_
  have hr := Option.some.inj hF
  subst hr
  exact rets (vs := [(.agg #[(.int .i64 (w64 (x0.1.1 - x1.1.1))), (.int .i64 (w64 (x0.1.2 - x1.1.2)))]), (.agg #[(.int .i64 (w64 ((w64 (x0.2.1.1 - x1.2.1.1)) - (w64 (x0.1.1 - x1.1.1))))), (.int .i64 (w64 ((w64 (x0.2.1.2 - x1.2.1.2)) - (w64 (x0.1.2 - x1.1.2)))))]), (.int .i64 (w64 ((w64 ((w64 (x0.1.1 - x1.1.1)) * (w64 ((w64 (x0.2.1.1 - x1.2.1.1)) - (w64 (x0.1.1 - x1.1.1)))))) + (w64 ((w64 (x0.1.2 - x1.1.2)) * (w64 ((w64 (x0.2.1.2 - x1.2.1.2)) - (w64 (x0.1.2 - x1.1.2))))))))), (.int .i64 (w64 ((w64 ((w64 ((w64 (x0.2.1.1 - x1.2.1.1)) - (w64 (x0.1.1 - x1.1.1)))) * (w64 ((w64 (x0.2.1.1 - x1.2.1.1)) - (w64 (x0.1.1 - x1.1.1)))))) + (w64 ((w64 ((w64 (x0.2.1.2 - x1.2.1.2)) - (w64 (x0.1.2 - x1.1.2)))) * (w64 ((w64 (x0.2.1.2 - x1.2.1.2)) - (w64 (x0.1.2 - x1.1.2)))))))))]) hQ rfl ⟨rv_cell (i := 3) tf_106 rfl hS55 rfl rfl rfl, rv_cell (i := 2) tf_106 rfl hS55 rfl rfl rfl, rv_tmp rfl, rv_tmp rfl, trivial⟩ ⟨rfl, hB54⟩
theorem C_impl_gcdOf (w0 : World) (x0 : Int) (x1 : Int) (r : Int) (hF : F_impl_gcdOf x0 x1 = some r) :
    Calls Try.prog 147 [(.int .i64 x0), (.int .i64 x1)].toArray w0 fun e w' => e = .returned (.int .i64 r) ∧ Below w0.heap.size w0 w' := by
  refine calls_mk' Try.func147 rfl Try.ntmps147 rfl rfl fun Q hQ hP => ?_
  have hB : Below w0.heap.size w0 w0 := Below.refl _ _
  have hS : Sep w0.heap.size w0 [] := Sep.nil _ _
  unfold F_impl_gcdOf at hF
  refine W.seq fun K1 hK1 => ?_
  refine W.region ?_
  refine wl_assign rfl rfl ?_
  refine WL.nil ?_
  refine fun a ha => hK1 _ _ ?_ a ha
  refine W.seq fun K2 hK2 => ?_
  refine W.region ?_
  refine wl_move rfl rfl ?_
  refine wl_move rfl rfl ?_
  refine wl_neg rfl rfl ?_
  refine wl_max rfl rfl rfl ?_
  refine wl_move rfl rfl ?_
  refine wl_move rfl rfl ?_
  refine wl_neg rfl rfl ?_
  refine wl_max rfl rfl rfl ?_
  refine wl_assign rfl rfl ?_
  refine wl_assign rfl rfl ?_
  refine WL.nil ?_
  refine fun a ha => hK2 _ _ ?_ a ha
  refine W.seq fun K3 hK3 => ?_
  refine W.block ?_
  refine W.loopk (fun m a w4 => ∃ (y7 : Int) (y8 : Int), St 20 [(0, (.int .i64 y7)), (1, (.int .i64 y8))] a ∧ Below w0.heap.size w0 w4 ∧ Sep w0.heap.size w4 [] ∧ F_impl_gcdOf_L1 m y7 y8 = some r) FU ?_ ?_
  ·
    exact fun a ha => ⟨(maxI x0 (w64 (0 - x0))), (maxI x1 (w64 (0 - x1))), ha.sub ⟨rfl, rfl, trivial⟩, hB, (hS.sel [] rfl), hF⟩
  ·
    rintro m11 a w4 ⟨y7, y8, ha, hB5, hS6, hF⟩ KL10 hKL10
    refine W.at ?_ ha
    cases m11 with
    | zero => exact noneE hF
    | succ m11 =>
      obtain ⟨nx9, hnx9⟩ : ∃ k, k = F_impl_gcdOf_L1 m11 := ⟨_, rfl⟩
      rw [F_impl_gcdOf_L1, ← hnx9] at hF
      refine W.seq fun K12 hK12 => ?_
      refine W.seq fun K13 hK13 => ?_
      refine W.region ?_
      refine wl_move rfl rfl ?_
      refine wl_neq rfl rfl rfl ?_
      refine WL.nil ?_
      refine fun a ha => hK13 _ _ ?_ a ha
      refine W.cond rfl (fun h14 => ?_) (fun h14 => ?_)
      · replace hF := ifP h14 hF
        refine W.skip ?_
        refine fun a ha => hK12 _ _ ?_ a ha
        refine W.block ?_
        refine W.regionH mixed_ [] hB5 hS6 ?_
        intro w15 hb16 hB17 hS18
        have hSW19 := KeepX.refl w15 []
        refine WH.takex (i := 0) rfl (by kernel_rfl) (by kernel_rfl) (by kernel_rfl) hP hSW19 ?_
        refine pr_move rfl rfl ?_
        refine WH.takex (i := 1) rfl (by kernel_rfl) (by kernel_rfl) (by kernel_rfl) hP hSW19 ?_
        refine pr_move rfl rfl ?_
        refine WH.takex (i := 2) rfl (by kernel_rfl) (by kernel_rfl) (by kernel_rfl) hP hSW19 ?_
        refine pr_move rfl rfl ?_
        have h20 : y8 ≠ 0 := fun h20 => noneE (ifP h20 hF)
        replace hF := ifNP h20 hF
        refine WH.takex (i := 3) rfl (by kernel_rfl) (by kernel_rfl) (by kernel_rfl) hP hSW19 ?_
        refine pr_rem rfl rfl rfl h20 ?_
        refine WH.takex (i := 4) rfl (by kernel_rfl) (by kernel_rfl) (by kernel_rfl) hP hSW19 ?_
        refine pr_assign rfl rfl ?_
        refine WH.takex (i := 5) rfl (by kernel_rfl) (by kernel_rfl) (by kernel_rfl) hP hSW19 ?_
        refine pr_assign rfl rfl ?_
        refine WH.done (by kernel_rfl) ?_
        rw [hnx9] at hF
        exact fun a ha => hKL10 a _ m11 (Nat.lt_succ_self m11) ⟨y8, (Int.tmod y7 y8), ha.sub ⟨rfl, rfl, trivial⟩, hB17, (hS18.sel [] rfl), hF⟩
      · replace hF := ifN h14 hF
        refine W.exit ?_
        refine fun a ha => hK3 _ _ ?_ a ha
        refine W.seq fun K21 hK21 => ?_
        refine W.region ?_
        refine wl_move rfl rfl ?_
        refine wl_assign rfl rfl ?_
        refine WL.nil ?_
        refine fun a ha => hK21 _ _ ?_ a ha
        refine W.ret ?_
        have hr := Option.some.inj hF
        subst hr
        exact rets (vs := [(.int .i64 y7)]) hQ rfl ⟨rv_tmp rfl, trivial⟩ ⟨rfl, hB5⟩
theorem C_impl_lowestTerms (w0 : World) (x0 : Int) (x1 : Int) (r : (Int × Int)) (hF : F_impl_lowestTerms x0 x1 = some r) :
    Calls Try.prog 142 [(.int .i64 x0), (.int .i64 x1)].toArray w0 fun e w' => e = .returned (.tuple #[(.int .i64 r.1), (.int .i64 r.2)]) ∧ Below w0.heap.size w0 w' := by
  refine calls_mk' Try.func142 rfl Try.ntmps142 rfl rfl fun Q hQ hP => ?_
  have hB : Below w0.heap.size w0 w0 := Below.refl _ _
  have hS : Sep w0.heap.size w0 [] := Sep.nil _ _
  unfold F_impl_lowestTerms at hF
  refine W.seq fun K1 hK1 => ?_
  refine W.region ?_
  refine wl_assign rfl rfl ?_
  refine wl_assign rfl rfl ?_
  refine WL.nil ?_
  refine fun a ha => hK1 _ _ ?_ a ha
  refine W.seq fun K2 hK2 => ?_
  refine W.region ?_
  refine wl_move rfl rfl ?_
  refine wl_move rfl rfl ?_
  obtain ⟨u3, hu3, hF⟩ := bindE hF
  refine wl_call rfl Try.call147 (C_impl_gcdOf w0 x0 x1 _ hu3) rfl ?_
  rintro _ w4 ⟨rfl, hb5⟩
  refine ⟨_, rfl, ?_⟩
  have hB6 := hB.trans (hb5.mono hB.size)
  have hS7 := hS.below hb5
  refine wl_assign rfl rfl ?_
  refine WL.nil ?_
  refine fun a ha => hK2 _ _ ?_ a ha
  refine W.seq fun K9 hK9 => ?_
  refine W.regionH mixed_ [] hB6 hS7 ?_
  intro w10 hb11 hB12 hS13
  have hSW14 := KeepX.refl w10 []
  refine WH.takex (i := 0) rfl (by kernel_rfl) (by kernel_rfl) (by kernel_rfl) hP hSW14 ?_
  refine pr_move rfl rfl ?_
  refine WH.takex (i := 1) rfl (by kernel_rfl) (by kernel_rfl) (by kernel_rfl) hP hSW14 ?_
  refine pr_move rfl rfl ?_
  have h15 : u3 ≠ 0 := fun h15 => noneE (ifP h15 hF)
  replace hF := ifNP h15 hF
  refine WH.takex (i := 2) rfl (by kernel_rfl) (by kernel_rfl) (by kernel_rfl) hP hSW14 ?_
  refine pr_quo rfl rfl rfl h15 ?_
  refine WH.takex (i := 3) rfl (by kernel_rfl) (by kernel_rfl) (by kernel_rfl) hP hSW14 ?_
  refine pr_move rfl rfl ?_
  refine WH.takex (i := 4) rfl (by kernel_rfl) (by kernel_rfl) (by kernel_rfl) hP hSW14 ?_
  refine pr_move rfl rfl ?_
  have h16 : u3 ≠ 0 := fun h16 => noneE (ifP h16 hF)
  replace hF := ifNP h16 hF
  refine WH.takex (i := 5) rfl (by kernel_rfl) (by kernel_rfl) (by kernel_rfl) hP hSW14 ?_
  refine pr_quo rfl rfl rfl h16 ?_
  refine WH.takex (i := 6) rfl (by kernel_rfl) (by kernel_rfl) (by kernel_rfl) hP hSW14 ?_
  refine pr_assign rfl rfl ?_
  refine WH.takex (i := 7) rfl (by kernel_rfl) (by kernel_rfl) (by kernel_rfl) hP hSW14 ?_
  refine pr_assign rfl rfl ?_
  refine WH.done (by kernel_rfl) ?_
  refine fun a ha => hK9 _ _ ?_ a ha
  refine W.ret ?_
  have hr := Option.some.inj hF
  subst hr
  exact rets (vs := [(.int .i64 (w64 (Int.tdiv x0 u3))), (.int .i64 (w64 (Int.tdiv x1 u3)))]) hQ rfl ⟨rv_tmp rfl, rv_tmp rfl, trivial⟩ ⟨rfl, hB12⟩
theorem C_impl_leastApart (w0 : World) (x0 : ((Int × Int) × (Int × Int) × Int)) (x1 : ((Int × Int) × (Int × Int) × Int)) (r : (Int × Int)) (hF : F_impl_leastApart x0 x1 = some r) :
    Calls Try.prog 138 [(.agg #[(.int .i64 x0.1.1), (.int .i64 x0.1.2), (.int .i64 x0.2.1.1), (.int .i64 x0.2.1.2), (.int .i64 x0.2.2)]), (.agg #[(.int .i64 x1.1.1), (.int .i64 x1.1.2), (.int .i64 x1.2.1.1), (.int .i64 x1.2.1.2), (.int .i64 x1.2.2)])].toArray w0 fun e w' => e = .returned (.tuple #[(.int .i64 r.1), (.int .i64 r.2)]) ∧ Below w0.heap.size w0 w' := by
  refine calls_mk' Try.func138 rfl Try.ntmps138 rfl rfl fun Q hQ hP => ?_
  have hB : Below w0.heap.size w0 w0 := Below.refl _ _
  have hS : Sep w0.heap.size w0 [] := Sep.nil _ _
  unfold F_impl_leastApart at hF
  refine W.seq fun K1 hK1 => ?_
  refine W.region ?_
  refine wl_box (cs := [(.int .i64 x0.1.1), (.int .i64 x0.1.2), (.int .i64 x0.2.1.1), (.int .i64 x0.2.1.2), (.int .i64 x0.2.2)]) rfl rfl rfl hB hS ?_
  intro b2 w3 hb4 hB5 hS6
  refine wl_box (cs := [(.int .i64 x1.1.1), (.int .i64 x1.1.2), (.int .i64 x1.2.1.1), (.int .i64 x1.2.1.2), (.int .i64 x1.2.2)]) rfl rfl rfl hB5 hS6 ?_
  intro b7 w8 hb9 hB10 hS11
  refine wl_assign rfl rfl ?_
  refine wl_assign rfl rfl ?_
  refine WL.nil ?_
  refine fun a ha => hK1 _ _ ?_ a ha
  refine W.seq fun K12 hK12 => ?_
  refine W.region ?_
  refine wl_load_blk (i := 1) (vs := [(.int .i64 x0.1.1), (.int .i64 x0.1.2), (.int .i64 x0.2.1.1), (.int .i64 x0.2.1.2), (.int .i64 x0.2.2)]) (v := (.agg #[(.int .i64 x0.1.1), (.int .i64 x0.1.2), (.int .i64 x0.2.1.1), (.int .i64 x0.2.1.2), (.int .i64 x0.2.2)])) tf_117 rfl rfl hS11 rfl rfl rfl ?_
  refine wl_load_blk (i := 0) (vs := [(.int .i64 x1.1.1), (.int .i64 x1.1.2), (.int .i64 x1.2.1.1), (.int .i64 x1.2.1.2), (.int .i64 x1.2.2)]) (v := (.agg #[(.int .i64 x1.1.1), (.int .i64 x1.1.2), (.int .i64 x1.2.1.1), (.int .i64 x1.2.1.2), (.int .i64 x1.2.2)])) tf_117 rfl rfl hS11 rfl rfl rfl ?_
  obtain ⟨u13, hu13, hF⟩ := bindE hF
  refine wl_call rfl Try.call141 (C_impl_between w8 x0 x1 _ hu13) rfl ?_
  rintro _ w14 ⟨rfl, hb15⟩
  refine ⟨_, rfl, ?_⟩
  have hB16 := hB10.trans (hb15.mono hB10.size)
  have hS17 := hS11.below hb15
  refine wl_move rfl rfl ?_
  refine wl_extract rfl rfl rfl ?_
  refine wl_extract rfl rfl rfl ?_
  refine wl_extract rfl rfl rfl ?_
  refine wl_extract rfl rfl rfl ?_
  refine wl_alloc (cs := [(.int .i64 0), (.int .i64 0)]) tf_106 rfl rfl hB16 hS17 ?_
  intro b19 w20 hb21 hB22 hS23
  refine wl_alloc (cs := [(.int .i64 0), (.int .i64 0)]) tf_106 rfl rfl hB22 hS23 ?_
  intro b24 w25 hb26 hB27 hS28
  refine wl_store_blk (i := 1) (vs := [(.int .i64 u13.1.1), (.int .i64 u13.1.2)]) (cs' := [(.int .i64 u13.1.1), (.int .i64 u13.1.2)]) tf_106 rfl rfl rfl rfl hB27 hS28 rfl rfl ⟨rfl, rfl, trivial⟩ rfl ?_
  intro w29 hk32 hB30 hS31
  refine wl_store_blk (i := 0) (vs := [(.int .i64 u13.2.1.1), (.int .i64 u13.2.1.2)]) (cs' := [(.int .i64 u13.2.1.1), (.int .i64 u13.2.1.2)]) tf_106 rfl rfl rfl rfl hB30 hS31 rfl rfl ⟨rfl, rfl, trivial⟩ rfl ?_
  intro w33 hk36 hB34 hS35
  refine wl_assign rfl rfl ?_
  refine wl_assign rfl rfl ?_
  refine WL.nil ?_
  refine fun a ha => hK12 _ _ ?_ a ha
  refine W.seq fun K37 hK37 => ?_
  refine W.block ?_
  refine W.seq fun K38 hK38 => ?_
  refine W.region ?_
  refine wl_move rfl rfl ?_
  refine wl_geq rfl rfl rfl ?_
  refine wl_assign rfl rfl ?_
  refine WL.nil ?_
  refine fun a ha => hK38 _ _ ?_ a ha
  refine W.cond rfl (fun h39 => ?_) (fun h39 => ?_)
  · replace hF := ifP h39 hF
    refine W.seq fun K40 hK40 => ?_
    refine W.region ?_
    refine wl_field (o := 0) (off' := 0) ff_106_0 rfl rfl rfl ?_
    refine wl_load_blk (i := 1) (vs := [(.int .i64 u13.1.1)]) (v := (.int .i64 u13.1.1)) tf_3 rfl rfl hS35 rfl rfl rfl ?_
    refine wl_field (o := 0) (off' := 0) ff_106_0 rfl rfl rfl ?_
    refine wl_load_blk (i := 1) (vs := [(.int .i64 u13.1.1)]) (v := (.int .i64 u13.1.1)) tf_3 rfl rfl hS35 rfl rfl rfl ?_
    refine wl_mul rfl rfl rfl ?_
    refine wl_field (o := 1) (off' := 1) ff_106_1 rfl rfl rfl ?_
    refine wl_load_blk (i := 1) (vs := [(.int .i64 u13.1.2)]) (v := (.int .i64 u13.1.2)) tf_3 rfl rfl hS35 rfl rfl rfl ?_
    refine wl_field (o := 1) (off' := 1) ff_106_1 rfl rfl rfl ?_
    refine wl_load_blk (i := 1) (vs := [(.int .i64 u13.1.2)]) (v := (.int .i64 u13.1.2)) tf_3 rfl rfl hS35 rfl rfl rfl ?_
    refine wl_mul rfl rfl rfl ?_
    refine wl_add rfl rfl rfl ?_
    refine wl_assign rfl rfl ?_
    refine wl_assign rfl rfl ?_
    refine WL.nil ?_
    refine fun a ha => hK40 _ _ ?_ a ha
    refine W.ret ?_
    have hr := Option.some.inj hF
    subst hr
    exact rets (vs := [(.int .i64 (w64 ((w64 (u13.1.1 * u13.1.1)) + (w64 (u13.1.2 * u13.1.2))))), (.int .i64 1)]) hQ rfl ⟨rv_tmp rfl, rv_tmp rfl, trivial⟩ ⟨rfl, hB34⟩
  · replace hF := ifN h39 hF
    refine W.seq fun K41 hK41 => ?_
    refine W.region ?_
    refine wl_move rfl rfl ?_
    refine wl_neg rfl rfl ?_
    refine wl_move rfl rfl ?_
    refine wl_geq rfl rfl rfl ?_
    refine wl_assign rfl rfl ?_
    refine WL.nil ?_
    refine fun a ha => hK41 _ _ ?_ a ha
    refine W.cond rfl (fun h42 => ?_) (fun h42 => ?_)
    · replace hF := ifP h42 hF
      refine W.seq fun K43 hK43 => ?_
      refine W.region ?_
      refine wl_field (o := 2) (off' := 2) ff_117_1 rfl rfl rfl ?_
      refine wl_load_blk (i := 3) (vs := [(.int .i64 x0.2.1.1), (.int .i64 x0.2.1.2)]) (v := (.agg #[(.int .i64 x0.2.1.1), (.int .i64 x0.2.1.2)])) tf_106 rfl rfl hS35 rfl rfl rfl ?_
      refine wl_field (o := 2) (off' := 2) ff_117_1 rfl rfl rfl ?_
      refine wl_load_blk (i := 2) (vs := [(.int .i64 x1.2.1.1), (.int .i64 x1.2.1.2)]) (v := (.agg #[(.int .i64 x1.2.1.1), (.int .i64 x1.2.1.2)])) tf_106 rfl rfl hS35 rfl rfl rfl ?_
      obtain ⟨u44, hu44, hF⟩ := bindE hF
      refine wl_call rfl Try.call101 (C_impl_squareOf w33 x0.2.1 x1.2.1 _ hu44) rfl ?_
      rintro _ w45 ⟨rfl, hb46⟩
      refine ⟨_, rfl, ?_⟩
      have hB47 := hB34.trans (hb46.mono hB34.size)
      have hS48 := hS35.below hb46
      refine wl_assign rfl rfl ?_
      refine wl_assign rfl rfl ?_
      refine WL.nil ?_
      refine fun a ha => hK43 _ _ ?_ a ha
      refine W.ret ?_
      have hr := Option.some.inj hF
      subst hr
      exact rets (vs := [(.int .i64 u44), (.int .i64 1)]) hQ rfl ⟨rv_tmp rfl, rv_tmp rfl, trivial⟩ ⟨rfl, hB47⟩
    · replace hF := ifN h42 hF
      refine W.skip ?_
      refine fun a ha => hK37 _ _ ?_ a ha
      refine W.seq fun K50 hK50 => ?_
      refine W.region ?_
      refine wl_field (o := 0) (off' := 0) ff_106_0 rfl rfl rfl ?_
      refine wl_load_blk (i := 1) (vs := [(.int .i64 u13.1.1)]) (v := (.int .i64 u13.1.1)) tf_3 rfl rfl hS35 rfl rfl rfl ?_
      refine wl_field (o := 1) (off' := 1) ff_106_1 rfl rfl rfl ?_
      refine wl_load_blk (i := 0) (vs := [(.int .i64 u13.2.1.2)]) (v := (.int .i64 u13.2.1.2)) tf_3 rfl rfl hS35 rfl rfl rfl ?_
      refine wl_mul rfl rfl rfl ?_
      refine wl_field (o := 1) (off' := 1) ff_106_1 rfl rfl rfl ?_
      refine wl_load_blk (i := 1) (vs := [(.int .i64 u13.1.2)]) (v := (.int .i64 u13.1.2)) tf_3 rfl rfl hS35 rfl rfl rfl ?_
      refine wl_field (o := 0) (off' := 0) ff_106_0 rfl rfl rfl ?_
      refine wl_load_blk (i := 0) (vs := [(.int .i64 u13.2.1.1)]) (v := (.int .i64 u13.2.1.1)) tf_3 rfl rfl hS35 rfl rfl rfl ?_
      refine wl_mul rfl rfl rfl ?_
      refine wl_sub rfl rfl rfl ?_
      refine wl_assign rfl rfl ?_
      refine WL.nil ?_
      refine fun a ha => hK50 _ _ ?_ a ha
      refine W.seq fun K51 hK51 => ?_
      refine W.region ?_
      refine wl_move rfl rfl ?_
      refine wl_move rfl rfl ?_
      refine wl_mul rfl rfl rfl ?_
      refine wl_move rfl rfl ?_
      obtain ⟨u52, hu52, hF⟩ := bindE hF
      refine wl_call rfl Try.call142 (C_impl_lowestTerms w33 (w64 ((w64 ((w64 (u13.1.1 * u13.2.1.2)) - (w64 (u13.1.2 * u13.2.1.1)))) * (w64 ((w64 (u13.1.1 * u13.2.1.2)) - (w64 (u13.1.2 * u13.2.1.1)))))) u13.2.2.2 _ hu52) rfl ?_
      rintro _ w53 ⟨rfl, hb54⟩
      refine ⟨_, rfl, ?_⟩
      have hB55 := hB34.trans (hb54.mono hB34.size)
      have hS56 := hS35.below hb54
      refine wl_extract rfl rfl rfl ?_
      refine wl_extract rfl rfl rfl ?_
      refine wl_assign rfl rfl ?_
      refine wl_assign rfl rfl ?_
      refine WL.nil ?_
      refine fun a ha => hK51 _ _ ?_ a ha
      refine W.ret ?_
      have hr := Option.some.inj hF
      subst hr
      exact rets (vs := [(.int .i64 u52.1), (.int .i64 u52.2)]) hQ rfl ⟨rv_tmp rfl, rv_tmp rfl, trivial⟩ ⟨rfl, hB55⟩
theorem C_impl_stayApart (w0 : World) (x0 : ((Int × Int) × (Int × Int) × Int)) (x1 : ((Int × Int) × (Int × Int) × Int)) (x2 : Int) (r : Bool) (hF : F_impl_stayApart x0 x1 x2 = some r) :
    Calls Try.prog 126 [(.agg #[(.int .i64 x0.1.1), (.int .i64 x0.1.2), (.int .i64 x0.2.1.1), (.int .i64 x0.2.1.2), (.int .i64 x0.2.2)]), (.agg #[(.int .i64 x1.1.1), (.int .i64 x1.1.2), (.int .i64 x1.2.1.1), (.int .i64 x1.2.1.2), (.int .i64 x1.2.2)]), (.int .i64 x2)].toArray w0 fun e w' => e = .returned (.bool r) ∧ Below w0.heap.size w0 w' := by
  refine calls_mk' Try.func126 rfl Try.ntmps126 rfl rfl fun Q hQ hP => ?_
  have hB : Below w0.heap.size w0 w0 := Below.refl _ _
  have hS : Sep w0.heap.size w0 [] := Sep.nil _ _
  unfold F_impl_stayApart at hF
  refine W.seq fun K1 hK1 => ?_
  refine W.region ?_
  refine wl_box (cs := [(.int .i64 x0.1.1), (.int .i64 x0.1.2), (.int .i64 x0.2.1.1), (.int .i64 x0.2.1.2), (.int .i64 x0.2.2)]) rfl rfl rfl hB hS ?_
  intro b2 w3 hb4 hB5 hS6
  refine wl_box (cs := [(.int .i64 x1.1.1), (.int .i64 x1.1.2), (.int .i64 x1.2.1.1), (.int .i64 x1.2.1.2), (.int .i64 x1.2.2)]) rfl rfl rfl hB5 hS6 ?_
  intro b7 w8 hb9 hB10 hS11
  refine wl_assign rfl rfl ?_
  refine WL.nil ?_
  refine fun a ha => hK1 _ _ ?_ a ha
  refine W.seq fun K12 hK12 => ?_
  refine W.region ?_
  refine wl_load_blk (i := 1) (vs := [(.int .i64 x0.1.1), (.int .i64 x0.1.2), (.int .i64 x0.2.1.1), (.int .i64 x0.2.1.2), (.int .i64 x0.2.2)]) (v := (.agg #[(.int .i64 x0.1.1), (.int .i64 x0.1.2), (.int .i64 x0.2.1.1), (.int .i64 x0.2.1.2), (.int .i64 x0.2.2)])) tf_117 rfl rfl hS11 rfl rfl rfl ?_
  refine wl_load_blk (i := 0) (vs := [(.int .i64 x1.1.1), (.int .i64 x1.1.2), (.int .i64 x1.2.1.1), (.int .i64 x1.2.1.2), (.int .i64 x1.2.2)]) (v := (.agg #[(.int .i64 x1.1.1), (.int .i64 x1.1.2), (.int .i64 x1.2.1.1), (.int .i64 x1.2.1.2), (.int .i64 x1.2.2)])) tf_117 rfl rfl hS11 rfl rfl rfl ?_
  obtain ⟨u13, hu13, hF⟩ := bindE hF
  refine wl_call rfl Try.call138 (C_impl_leastApart w8 x0 x1 _ hu13) rfl ?_
  rintro _ w14 ⟨rfl, hb15⟩
  refine ⟨_, rfl, ?_⟩
  have hB16 := hB10.trans (hb15.mono hB10.size)
  have hS17 := hS11.below hb15
  refine wl_move rfl rfl ?_
  refine wl_extract rfl rfl rfl ?_
  refine wl_extract rfl rfl rfl ?_
  refine wl_assign rfl rfl ?_
  refine wl_assign rfl rfl ?_
  refine WL.nil ?_
  refine fun a ha => hK12 _ _ ?_ a ha
  refine W.seq fun K19 hK19 => ?_
  refine W.region ?_
  refine wl_move rfl rfl ?_
  refine wl_move rfl rfl ?_
  refine wl_move rfl rfl ?_
  refine wl_mul rfl rfl rfl ?_
  refine wl_move rfl rfl ?_
  refine wl_mul rfl rfl rfl ?_
  refine wl_geq rfl rfl rfl ?_
  refine wl_assign rfl rfl ?_
  refine WL.nil ?_
  refine fun a ha => hK19 _ _ ?_ a ha
  refine W.ret ?_
  have hr := Option.some.inj hF
  subst hr
  exact rets (vs := [(.bool (decide ((w64 ((w64 (x2 * x2)) * u13.2)) ≤ u13.1)))]) hQ rfl ⟨rv_tmp rfl, trivial⟩ ⟨rfl, hB16⟩
theorem C_impl_pairsTooClose (w0 : World) (x0 : (List ((Int × Int) × (Int × Int) × Int))) (v0_0 : Value) (h0_0 : rdS ty_117 (· < w0.heap.size) w0 v0_0 x0) (x1 : Int) (r : (List (List Int))) (hF : F_impl_pairsTooClose x0 x1 = some r) :
    Calls Try.prog 99 [v0_0, (.int .i64 x1)].toArray w0 fun e w' => ∃ (q0 : Value) (G0 : List Nat), e = .returned q0 ∧ Below w0.heap.size w0 w' ∧ Sep w0.heap.size w' [R.own ty_24 G0 q0 r] := by
  refine calls_mk' Try.func99 rfl Try.ntmps99 rfl rfl fun Q hQ hP => ?_
  have hB : Below w0.heap.size w0 w0 := Below.refl _ _
  have hS : Sep w0.heap.size w0 [] := Sep.nil _ _
  unfold F_impl_pairsTooClose at hF
  refine W.seq fun K1 hK1 => ?_
  refine W.region ?_
  refine wl_assign rfl rfl ?_
  refine WL.nil ?_
  refine fun a ha => hK1 _ _ ?_ a ha
  refine W.seq fun K2 hK2 => ?_
  refine W.region ?_
  refine wl_lit0 (e := ty_24) Try.underlying112 rfl hB hS ?_
  intro v3 F4 w5 hb6 hB7 hS8
  refine wl_assign rfl rfl ?_
  refine WL.nil ?_
  refine fun a ha => hK2 _ _ ?_ a ha
  refine W.seq fun K9 hK9 => ?_
  refine W.seq fun K10 hK10 => ?_
  refine W.region ?_
  refine wl_move rfl rfl ?_
  refine wl_lenr (e := ty_117) (l := x0) Try.underlying114 rfl rfl h0_0 ?_
  refine wl_move rfl rfl ?_
  refine WL.nil ?_
  refine fun a ha => hK10 _ _ ?_ a ha
  refine W.block ?_
  refine W.loopk (fun m a w11 => ∃ (l14 : (List (List Int))) (y17 : Int) (v15 : Value) (F16 : List Nat), St 41 [(0, v0_0), (1, (.int .i64 x1)), (5, v15), (10, (.int .i64 (List.length x0 : Int))), (11, (.int .i64 y17))] a ∧ Below w0.heap.size w0 w11 ∧ Sep w0.heap.size w11 [R.own ty_24 F16 v15 l14] ∧ F_impl_pairsTooClose_L1 x0 x1 m l14 y17 = some r) FU ?_ ?_
  ·
    exact fun a ha => ⟨[], 0, v3, F4, ha.sub ⟨rfl, rfl, rfl, rfl, rfl, trivial⟩, hB7, (hS8.sel [0] rfl), hF⟩
  ·
    rintro m20 a w11 ⟨l14, y17, v15, F16, ha, hB12, hS13, hF⟩ KL19 hKL19
    refine W.at ?_ ha
    cases m20 with
    | zero => exact noneE hF
    | succ m20 =>
      obtain ⟨nx18, hnx18⟩ : ∃ k, k = F_impl_pairsTooClose_L1 x0 x1 m20 := ⟨_, rfl⟩
      rw [F_impl_pairsTooClose_L1, ← hnx18] at hF
      refine W.seq fun K21 hK21 => ?_
      refine W.region ?_
      refine wl_lss rfl rfl rfl ?_
      refine WL.nil ?_
      refine fun a ha => hK21 _ _ ?_ a ha
      refine W.seq fun K22 hK22 => ?_
      refine W.cond rfl (fun h23 => ?_) (fun h23 => ?_)
      · replace hF := ifP h23 hF
        refine W.skip ?_
        refine fun a ha => hK22 _ _ ?_ a ha
        refine W.seq fun K24 hK24 => ?_
        refine W.block ?_
        refine W.seq fun K25 hK25 => ?_
        refine W.region ?_
        refine wl_move rfl rfl ?_
        refine wl_assign rfl rfl ?_
        refine WL.nil ?_
        refine fun a ha => hK25 _ _ ?_ a ha
        refine W.seq fun K26 hK26 => ?_
        refine W.region ?_
        refine wl_move rfl rfl ?_
        refine wl_add rfl rfl rfl ?_
        refine wl_assign rfl rfl ?_
        refine WL.nil ?_
        refine fun a ha => hK26 _ _ ?_ a ha
        refine W.block ?_
        refine W.loopk (fun m a w27 => ∃ (l30 : (List (List Int))) (y33 : Int) (v31 : Value) (F32 : List Nat), St 41 [(0, v0_0), (1, (.int .i64 x1)), (5, v31), (6, (.int .i64 y17)), (7, (.int .i64 y33)), (10, (.int .i64 (List.length x0 : Int))), (11, (.int .i64 y17))] a ∧ Below w0.heap.size w0 w27 ∧ Sep w0.heap.size w27 [R.own ty_24 F32 v31 l30] ∧ F_impl_pairsTooClose_L2 x0 y17 x1 nx18 m l30 y33 = some r) FU ?_ ?_
        ·
          exact fun a ha => ⟨l14, (w64 (y17 + 1)), v15, F16, ha.sub ⟨rfl, rfl, rfl, rfl, rfl, rfl, rfl, trivial⟩, hB12, (hS13.sel [0] rfl), hF⟩
        ·
          rintro m36 a w27 ⟨l30, y33, v31, F32, ha, hB28, hS29, hF⟩ KL35 hKL35
          refine W.at ?_ ha
          cases m36 with
          | zero => exact noneE hF
          | succ m36 =>
            obtain ⟨nx34, hnx34⟩ : ∃ k, k = F_impl_pairsTooClose_L2 x0 y17 x1 nx18 m36 := ⟨_, rfl⟩
            rw [F_impl_pairsTooClose_L2, ← hnx34] at hF
            refine W.seq fun K37 hK37 => ?_
            refine W.seq fun K38 hK38 => ?_
            refine W.region ?_
            refine wl_move rfl rfl ?_
            refine wl_move rfl rfl ?_
            refine wl_lenr (e := ty_117) (l := x0) Try.underlying114 rfl rfl h0_0 ?_
            refine wl_lss rfl rfl rfl ?_
            refine WL.nil ?_
            refine fun a ha => hK38 _ _ ?_ a ha
            refine W.cond rfl (fun h39 => ?_) (fun h39 => ?_)
            · replace hF := ifP h39 hF
              refine W.skip ?_
              refine fun a ha => hK37 _ _ ?_ a ha
              refine W.seq fun K40 hK40 => ?_
              obtain ⟨k47, hk47, hF⟩ := jE1 hF
              have hJ48 : ∀ (l44 : (List (List Int))) (v45 : Value) (F46 : List Nat) (w41 : World) (_ : k47 l44 = some r) (_ : Below w0.heap.size w0 w41) (_ : Sep w0.heap.size w41 [R.own ty_24 F46 v45 l44]), ∀ a, St 41 [(0, v0_0), (1, (.int .i64 x1)), (5, v45), (6, (.int .i64 y17)), (7, (.int .i64 y33)), (10, (.int .i64 (List.length x0 : Int))), (11, (.int .i64 y17))] a → K40 a w41 := by
                intro l44 v45 F46 w41 hF hB42 hS43
                subst hk47
                refine fun a ha => hK40 _ _ ?_ a ha
                refine W.region ?_
                refine wl_move rfl rfl ?_
                refine wl_add rfl rfl rfl ?_
                refine wl_assign rfl rfl ?_
                refine WL.nil ?_
                rw [hnx34] at hF
                exact fun a ha => hKL35 a _ m36 (Nat.lt_succ_self m36) ⟨l44, (w64 (y33 + 1)), v45, F46, ha.sub ⟨rfl, rfl, rfl, rfl, rfl, rfl, rfl, trivial⟩, hB42, (hS43.sel [0] rfl), hF⟩
              refine W.block ?_
              refine W.seq fun K49 hK49 => ?_
              refine W.regionH mixed_ [] hB28 hS29 ?_
              intro w50 hb51 hB52 hS53
              have hSW54 := KeepX.refl w50 []
              refine WH.takex (i := 0) rfl (by kernel_rfl) (by kernel_rfl) (by kernel_rfl) hP hSW54 ?_
              refine pr_move rfl rfl ?_
              refine WH.takex (i := 1) rfl (by kernel_rfl) (by kernel_rfl) (by kernel_rfl) hP hSW54 ?_
              refine pr_move rfl rfl ?_
              obtain ⟨u55, hu55, hF⟩ := bindE hF
              refine WH.takex (i := 2) rfl (by kernel_rfl) (by kernel_rfl) (by kernel_rfl) hP hSW54 ?_
              refine pr_index (e := ty_117) Try.underlying114 rfl rfl rfl h0_0 hu55 ?_
              rintro p56 _ rfl hp57
              refine WH.takex (i := 3) rfl (by kernel_rfl) (by kernel_rfl) (by kernel_rfl) hP hSW54 ?_
              refine pr_load_p (vs := [(.int .i64 u55.1.1), (.int .i64 u55.1.2), (.int .i64 u55.2.1.1), (.int .i64 u55.2.1.2), (.int .i64 u55.2.2)]) (v := (.agg #[(.int .i64 u55.1.1), (.int .i64 u55.1.2), (.int .i64 u55.2.1.1), (.int .i64 u55.2.1.2), (.int .i64 u55.2.2)])) tf_117 rfl rfl (hp57.kx hB52 (by simp)) rfl rfl ?_
              refine WH.takex (i := 4) rfl (by kernel_rfl) (by kernel_rfl) (by kernel_rfl) hP hSW54 ?_
              refine pr_move rfl rfl ?_
              refine WH.takex (i := 5) rfl (by kernel_rfl) (by kernel_rfl) (by kernel_rfl) hP hSW54 ?_
              refine pr_move rfl rfl ?_
              obtain ⟨u58, hu58, hF⟩ := bindE hF
              refine WH.takex (i := 6) rfl (by kernel_rfl) (by kernel_rfl) (by kernel_rfl) hP hSW54 ?_
              refine pr_index (e := ty_117) Try.underlying114 rfl rfl rfl h0_0 hu58 ?_
              rintro p59 _ rfl hp60
              refine WH.takex (i := 7) rfl (by kernel_rfl) (by kernel_rfl) (by kernel_rfl) hP hSW54 ?_
              refine pr_load_p (vs := [(.int .i64 u58.1.1), (.int .i64 u58.1.2), (.int .i64 u58.2.1.1), (.int .i64 u58.2.1.2), (.int .i64 u58.2.2)]) (v := (.agg #[(.int .i64 u58.1.1), (.int .i64 u58.1.2), (.int .i64 u58.2.1.1), (.int .i64 u58.2.1.2), (.int .i64 u58.2.2)])) tf_117 rfl rfl (hp60.kx hB52 (by simp)) rfl rfl ?_
              refine WH.takex (i := 8) rfl (by kernel_rfl) (by kernel_rfl) (by kernel_rfl) hP hSW54 ?_
              refine pr_move rfl rfl ?_
              refine WH.one (i := 9) (by kernel_rfl) rfl ?_
              obtain ⟨u61, hu61, hF⟩ := bindE hF
              refine wl_call rfl Try.call126 (C_impl_stayApart w50 u55 u58 x1 _ hu61) rfl ?_
              rintro _ w62 ⟨rfl, hb63⟩
              refine ⟨_, rfl, ?_⟩
              have hB64 := hB52.trans (hb63.mono hB52.size)
              have hS65 := hS53.below hb63
              have hSW67 := hSW54.ext hb63
              refine WL.nil (WH.ret hSW67 ?_)
              refine WH.takex (i := 10) rfl (by kernel_rfl) (by kernel_rfl) (by kernel_rfl) hP hSW67 ?_
              refine pr_not rfl rfl ?_
              refine WH.done (by kernel_rfl) ?_
              refine fun a ha => hK49 _ _ ?_ a ha
              refine W.cond rfl (fun h68 => ?_) (fun h68 => ?_)
              · replace hF := ifP h68 hF
                refine W.region ?_
                refine wl_move rfl rfl ?_
                refine wl_move rfl rfl ?_
                refine wl_move rfl rfl ?_
                refine wl_lit (vs := [(.int .i64 y17), (.int .i64 y33)]) (l := [y17, y33]) fl_3 Try.underlying24 rfl rfl rfl rfl rfl rfl hB64 hS65 ?_
                intro v69 F70 w71 hb72 hB73 hS74
                have hq75 := hS74.sel [0, 1] rfl
                have hq76 := hq75.head (r' := R.cel ty_24 F70 [v69] [y17, y33]) (rfl) fun _ h0 => ⟨_, rfl, h0⟩
                refine wl_lit1 (e := ty_24) (vs := [v69]) Try.underlying112 rfl rfl (cells_one (hS74.own_ro (i := 0) rfl).one) rfl hB73 hq76 ?_
                intro v77 F78 w79 hb80 hf81 hB82 hS83
                obtain ⟨u84, hu84, hF⟩ := bindE hF
                refine wl_appendn (e := ty_24) Try.underlying112 rfl rfl rfl hB82 (hS83.sel [1, 0] rfl) hu84 ?_
                intro v85 F86 w87 hk88 hB89 hS90
                refine wl_assign rfl rfl ?_
                refine WL.nil ?_
                exact fun a ha => hJ48 (u84) (v85) (F86) _ hF hB89 (hS90.sel [0] rfl) a (ha.sub ⟨rfl, rfl, rfl, rfl, rfl, rfl, rfl, trivial⟩)
              · replace hF := ifN h68 hF
                refine W.skip ?_
                exact fun a ha => hJ48 (l30) (v31) (F32) _ hF hB64 (hS65.sel [0] rfl) a (ha.sub ⟨rfl, rfl, rfl, rfl, rfl, rfl, rfl, trivial⟩)
            · replace hF := ifN h39 hF
              refine W.exit ?_
              refine fun a ha => hK24 _ _ ?_ a ha
              refine W.region ?_
              refine wl_add rfl rfl rfl ?_
              refine wl_move rfl rfl ?_
              refine WL.nil ?_
              rw [hnx18] at hF
              exact fun a ha => hKL19 a _ m20 (Nat.lt_succ_self m20) ⟨l30, (w64 (y17 + 1)), v31, F32, ha.sub ⟨rfl, rfl, rfl, rfl, rfl, trivial⟩, hB28, (hS29.sel [0] rfl), hF⟩
      · replace hF := ifN h23 hF
        refine W.exit ?_
        refine fun a ha => hK9 _ _ ?_ a ha
        refine W.seq fun K91 hK91 => ?_
        refine W.region ?_
        refine wl_move rfl rfl ?_
        refine wl_assign rfl rfl ?_
        refine WL.nil ?_
        refine fun a ha => hK91 _ _ ?_ a ha
        refine W.ret ?_
        have hr := Option.some.inj hF
        subst hr
        exact rets (vs := [v15]) hQ rfl ⟨rv_tmp rfl, trivial⟩ ⟨v15, F16, rfl, hB12, hS13.sel [0] rfl⟩
theorem C_impl_unsafParts (w0 : World) (x0 : ((List (List (Int × Int))) × (List Int) × Int × Int)) (v0_0 : Value) (h0_0 : rdS ty_82 (· < w0.heap.size) w0 v0_0 x0.1) (v0_1 : Value) (h0_1 : rdS ty_3 (· < w0.heap.size) w0 v0_1 x0.2.1) (r : (List Int)) (hF : F_impl_unsafParts x0 = some r) :
    Calls Try.prog 71 [(.agg #[v0_0, v0_1, (.int .i64 x0.2.2.1), (.int .i64 x0.2.2.2)])].toArray w0 fun e w' => ∃ (q0 : Value) (G0 : List Nat), e = .returned q0 ∧ Below w0.heap.size w0 w' ∧ Sep w0.heap.size w' [R.own ty_3 G0 q0 r] := by
  refine calls_mk' Try.func71 rfl Try.ntmps71 rfl rfl fun Q hQ hP => ?_
  have hB : Below w0.heap.size w0 w0 := Below.refl _ _
  have hS : Sep w0.heap.size w0 [] := Sep.nil _ _
  unfold F_impl_unsafParts at hF
  refine W.seq fun K1 hK1 => ?_
  refine W.region ?_
  refine wl_box (cs := [v0_0, v0_1, (.int .i64 x0.2.2.1), (.int .i64 x0.2.2.2)]) rfl rfl rfl hB hS ?_
  intro b2 w3 hb4 hB5 hS6
  refine wl_assign rfl rfl ?_
  refine WL.nil ?_
  refine fun a ha => hK1 _ _ ?_ a ha
  refine W.seq fun K7 hK7 => ?_
  refine W.region ?_
  refine wl_lit (vs := []) (l := []) fl_3 Try.underlying24 rfl rfl rfl rfl rfl rfl hB5 hS6 ?_
  intro v8 F9 w10 hb11 hB12 hS13
  refine wl_assign rfl rfl ?_
  refine WL.nil ?_
  refine fun a ha => hK7 _ _ ?_ a ha
  refine W.seq fun K14 hK14 => ?_
  refine W.seq fun K15 hK15 => ?_
  refine W.region ?_
  refine wl_field (o := 1) (off' := 1) ff_42_1 rfl rfl rfl ?_
  refine wl_load_blk (i := 1) (vs := [v0_1]) (v := v0_1) tf_24 rfl rfl hS13 rfl rfl rfl ?_
  refine wl_lenr (e := ty_3) (l := x0.2.1) Try.underlying24 rfl rfl h0_1 ?_
  refine wl_move rfl rfl ?_
  refine WL.nil ?_
  refine fun a ha => hK15 _ _ ?_ a ha
  refine W.block ?_
  refine W.loopk (fun m a w16 => ∃ (l19 : (List Int)) (y22 : Int) (v20 : Value) (F21 : List Nat), St 33 [(1, (.pointer (some ⟨b2, 0, none⟩))), (3, v20), (8, (.int .i64 (List.length x0.2.1 : Int))), (9, (.int .i64 y22))] a ∧ Below w0.heap.size w0 w16 ∧ Sep w0.heap.size w16 [R.blk b2 42 [v0_0, v0_1, (.int .i64 x0.2.2.1), (.int .i64 x0.2.2.2)], R.own ty_3 F21 v20 l19] ∧ F_impl_unsafParts_L1 x0 m l19 y22 = some r) FU ?_ ?_
  ·
    exact fun a ha => ⟨[], 0, v8, F9, ha.sub ⟨rfl, rfl, rfl, rfl, trivial⟩, hB12, (hS13.sel [1, 0] rfl), hF⟩
  ·
    rintro m25 a w16 ⟨l19, y22, v20, F21, ha, hB17, hS18, hF⟩ KL24 hKL24
    refine W.at ?_ ha
    cases m25 with
    | zero => exact noneE hF
    | succ m25 =>
      obtain ⟨nx23, hnx23⟩ : ∃ k, k = F_impl_unsafParts_L1 x0 m25 := ⟨_, rfl⟩
      rw [F_impl_unsafParts_L1, ← hnx23] at hF
      refine W.seq fun K26 hK26 => ?_
      refine W.region ?_
      refine wl_lss rfl rfl rfl ?_
      refine WL.nil ?_
      refine fun a ha => hK26 _ _ ?_ a ha
      refine W.seq fun K27 hK27 => ?_
      refine W.cond rfl (fun h28 => ?_) (fun h28 => ?_)
      · replace hF := ifP h28 hF
        refine W.skip ?_
        refine fun a ha => hK27 _ _ ?_ a ha
        refine W.seq fun K29 hK29 => ?_
        obtain ⟨k36, hk36, hF⟩ := jE1 hF
        have hJ37 : ∀ (l33 : (List Int)) (v34 : Value) (F35 : List Nat) (w30 : World) (_ : k36 l33 = some r) (_ : Below w0.heap.size w0 w30) (_ : Sep w0.heap.size w30 [R.blk b2 42 [v0_0, v0_1, (.int .i64 x0.2.2.1), (.int .i64 x0.2.2.2)], R.own ty_3 F35 v34 l33]), ∀ a, St 33 [(1, (.pointer (some ⟨b2, 0, none⟩))), (3, v34), (8, (.int .i64 (List.length x0.2.1 : Int))), (9, (.int .i64 y22))] a → K29 a w30 := by
          intro l33 v34 F35 w30 hF hB31 hS32
          subst hk36
          refine fun a ha => hK29 _ _ ?_ a ha
          refine W.region ?_
          refine wl_add rfl rfl rfl ?_
          refine wl_move rfl rfl ?_
          refine WL.nil ?_
          rw [hnx23] at hF
          exact fun a ha => hKL24 a _ m25 (Nat.lt_succ_self m25) ⟨l33, (w64 (y22 + 1)), v34, F35, ha.sub ⟨rfl, rfl, rfl, rfl, trivial⟩, hB31, (hS32.sel [0, 1] rfl), hF⟩
        refine W.block ?_
        refine W.seq fun K38 hK38 => ?_
        refine W.region ?_
        refine wl_move rfl rfl ?_
        refine wl_assign rfl rfl ?_
        refine WL.nil ?_
        refine fun a ha => hK38 _ _ ?_ a ha
        refine W.seq fun K39 hK39 => ?_
        obtain ⟨k44, hk44, hF⟩ := jE1 hF
        have hJ45 : ∀ (y43 : Bool) (w40 : World) (_ : k44 y43 = some r) (_ : Below w0.heap.size w0 w40) (_ : Sep w0.heap.size w40 [R.blk b2 42 [v0_0, v0_1, (.int .i64 x0.2.2.1), (.int .i64 x0.2.2.2)], R.own ty_3 F21 v20 l19]), ∀ a, St 33 [(1, (.pointer (some ⟨b2, 0, none⟩))), (3, v20), (4, (.int .i64 y22)), (8, (.int .i64 (List.length x0.2.1 : Int))), (9, (.int .i64 y22)), (26, (.bool y43))] a → K39 a w40 := by
          intro y43 w40 hF hB41 hS42
          subst hk44
          refine fun a ha => hK39 _ _ ?_ a ha
          refine W.cond rfl (fun h46 => ?_) (fun h46 => ?_)
          · replace hF := ifP h46 hF
            refine W.region ?_
            refine wl_move rfl rfl ?_
            refine wl_move rfl rfl ?_
            refine wl_lit (vs := [(.int .i64 y22)]) (l := [y22]) fl_3 Try.underlying24 rfl rfl rfl rfl rfl rfl hB41 hS42 ?_
            intro v47 F48 w49 hb50 hB51 hS52
            obtain ⟨u53, hu53, hF⟩ := bindE hF
            refine wl_append (i := 2) (S := (· < w49.heap.size)) fl_3 Try.underlying24 rfl rfl rfl hB51 hS52 rfl (hS52.own_ro (i := 0) rfl) hu53 ?_
            intro v54 F55 w56 hk57 hB58 hS59
            refine wl_assign rfl rfl ?_
            refine WL.nil ?_
            exact fun a ha => hJ37 (u53) (v54) (F55) _ hF hB58 (hS59.sel [1, 2] rfl) a (ha.sub ⟨rfl, rfl, rfl, rfl, trivial⟩)
          · replace hF := ifN h46 hF
            refine W.skip ?_
            exact fun a ha => hJ37 (l19) (v20) (F21) _ hF hB41 (hS42.sel [0, 1] rfl) a (ha.sub ⟨rfl, rfl, rfl, rfl, trivial⟩)
        refine W.regionH mixed_ [] hB17 hS18 ?_
        intro w60 hb61 hB62 hS63
        have hSW64 := KeepX.refl w60 []
        refine WH.takex (i := 0) rfl (by kernel_rfl) (by kernel_rfl) (by kernel_rfl) hP hSW64 ?_
        refine pr_load_blk (i := 0) (vs := [v0_0, v0_1, (.int .i64 x0.2.2.1), (.int .i64 x0.2.2.2)]) (v := (.agg #[v0_0, v0_1, (.int .i64 x0.2.2.1), (.int .i64 x0.2.2.2)])) tf_42 rfl rfl hS63 rfl rfl rfl (by simp) ?_
        refine WH.takex (i := 1) rfl (by kernel_rfl) (by kernel_rfl) (by kernel_rfl) hP hSW64 ?_
        refine pr_move rfl rfl ?_
        refine WH.one (i := 2) (by kernel_rfl) rfl ?_
        obtain ⟨u65, hu65, hF⟩ := bindE hF
        refine wl_call rfl Try.call98 (C_impl_wideSteps w60 x0 v0_0 (h0_0.ro hB62) v0_1 (h0_1.ro hB62) y22 _ hu65) rfl ?_
        rintro _ w68 ⟨v66, F67, rfl, hb69, hM72⟩
        refine ⟨_, rfl, ?_⟩
        have hB70 := hB62.trans (hb69.mono hB62.size)
        have hn73 : ∀ b ∈ F67, w60.heap.size ≤ b := fun b hb => Nat.le_trans hSW64.size ((hM72.get (i := 0) rfl).2.1 b hb).1
        have hS71 := hS63.join hb69 hM72 hB62.size
        have hSW74 := hSW64.ext hb69
        refine WL.nil (WH.ret hSW74 ?_)
        refine WH.takex (i := 3) rfl (by kernel_rfl) (by kernel_rfl) (by kernel_rfl) hP hSW74 ?_
        refine pr_lenr (e := ty_3) (l := u65) Try.underlying24 rfl rfl (hS71.own_ro (i := 0) rfl) ?_
        refine WH.takex (i := 4) rfl (by kernel_rfl) (by kernel_rfl) (by kernel_rfl) hP hSW74 ?_
        refine pr_gtr rfl rfl rfl ?_
        refine WH.takex (i := 5) rfl (by kernel_rfl) (by kernel_rfl) (by kernel_rfl) hP hSW74 ?_
        refine pr_move rfl rfl ?_
        rcases bE (decide (0 < (List.length u65 : Int))) with h75 | h75
        · replace hF := ifP h75 hF
          refine WH.off (i := 6) rfl (by kernel_rfl) (by kernel_rfl) (by kernel_rfl) hP rfl rfl h75 rfl hSW74 ?_
          refine WH.off (i := 7) rfl (by kernel_rfl) (by kernel_rfl) (by kernel_rfl) hP rfl rfl h75 rfl hSW74 ?_
          refine WH.off (i := 8) rfl (by kernel_rfl) (by kernel_rfl) (by kernel_rfl) hP rfl rfl h75 rfl hSW74 ?_
          refine WH.off (i := 9) rfl (by kernel_rfl) (by kernel_rfl) (by kernel_rfl) hP rfl rfl h75 rfl hSW74 ?_
          refine WH.off (i := 10) rfl (by kernel_rfl) (by kernel_rfl) (by kernel_rfl) hP rfl rfl h75 rfl hSW74 ?_
          refine WH.off (i := 11) rfl (by kernel_rfl) (by kernel_rfl) (by kernel_rfl) hP rfl rfl h75 rfl hSW74 ?_
          refine WH.off (i := 12) rfl (by kernel_rfl) (by kernel_rfl) (by kernel_rfl) hP rfl rfl h75 rfl hSW74 ?_
          refine WH.off (i := 13) rfl (by kernel_rfl) (by kernel_rfl) (by kernel_rfl) hP rfl rfl h75 rfl hSW74 ?_
          refine WH.takex (i := 14) rfl (by kernel_rfl) (by kernel_rfl) (by kernel_rfl) hP hSW74 ?_
          refine pr_pick_t rfl rfl h75 rfl ?_
          refine WH.done (by kernel_rfl) ?_
          exact fun a ha => hJ45 (true) _ hF hB70 (hS71.sel [1, 2] rfl) a (ha.sub ⟨rfl, rfl, rfl, rfl, rfl, rfl, trivial⟩)
        · replace hF := ifN h75 hF
          refine WH.takexg (i := 6) rfl (by kernel_rfl) (by kernel_rfl) (by kernel_rfl) hP rfl rfl h75 hSW74 ?_
          refine pr_load_blk (i := 0) (vs := [v0_0, v0_1, (.int .i64 x0.2.2.1), (.int .i64 x0.2.2.2)]) (v := (.agg #[v0_0, v0_1, (.int .i64 x0.2.2.1), (.int .i64 x0.2.2.2)])) tf_42 rfl rfl hS63 rfl rfl rfl (by simp) ?_
          refine WH.takexg (i := 7) rfl (by kernel_rfl) (by kernel_rfl) (by kernel_rfl) hP rfl rfl h75 hSW74 ?_
          refine pr_move rfl rfl ?_
          refine WH.takexg (i := 9) rfl (by kernel_rfl) (by kernel_rfl) (by kernel_rfl) hP rfl rfl h75 hSW74 ?_
          refine pr_field (o := 2) (off' := 2) ff_42_2 rfl rfl rfl ?_
          refine WH.takexg (i := 10) rfl (by kernel_rfl) (by kernel_rfl) (by kernel_rfl) hP rfl rfl h75 hSW74 ?_
          refine pr_load_blk (i := 0) (vs := [(.int .i64 x0.2.2.1)]) (v := (.int .i64 x0.2.2.1)) tf_3 rfl rfl hS63 rfl rfl rfl (by simp) ?_
          refine WH.one (i := 8) (by kernel_rfl) rfl ?_
          refine wl_on rfl rfl h75 ?_
          obtain ⟨u76, hu76, hF⟩ := bindE hF
          refine wl_call rfl Try.call100 (C_impl_showMoves w68 x0 v0_0 (h0_0.ro hB70) v0_1 (h0_1.ro hB70) y22 _ hu76) rfl ?_
          rintro _ w79 ⟨v77, F78, rfl, hb80, hM83⟩
          refine ⟨_, rfl, ?_⟩
          have hB81 := hB70.trans (hb80.mono hB70.size)
          have hn84 : ∀ b ∈ F78, w60.heap.size ≤ b := fun b hb => Nat.le_trans hSW74.size ((hM83.get (i := 0) rfl).2.1 b hb).1
          have hS82 := hS71.join hb80 hM83 hB70.size
          have hSW85 := hSW74.ext hb80
          refine WL.nil (WH.ret hSW85 ?_)
          refine WH.one (i := 11) (by kernel_rfl) rfl ?_
          refine wl_on rfl rfl h75 ?_
          obtain ⟨u86, hu86, hF⟩ := bindE hF
          refine wl_call rfl Try.call99 (C_impl_pairsTooClose w79 u76 v77 (hS82.own_ro (i := 0) rfl) x0.2.2.1 _ hu86) rfl ?_
          rintro _ w89 ⟨v87, F88, rfl, hb90, hM93⟩
          refine ⟨_, rfl, ?_⟩
          have hB91 := hB81.trans (hb90.mono hB81.size)
          have hn94 : ∀ b ∈ F88, w60.heap.size ≤ b := fun b hb => Nat.le_trans hSW85.size ((hM93.get (i := 0) rfl).2.1 b hb).1
          have hS92 := hS82.join hb90 hM93 hB81.size
          have hSW95 := hSW85.ext hb90
          refine WL.nil (WH.ret hSW95 ?_)
          refine WH.takexg (i := 12) rfl (by kernel_rfl) (by kernel_rfl) (by kernel_rfl) hP rfl rfl h75 hSW95 ?_
          refine pr_lenr (e := ty_24) (l := u86) Try.underlying112 rfl rfl (hS92.own_ro (i := 0) rfl) ?_
          refine WH.takexg (i := 13) rfl (by kernel_rfl) (by kernel_rfl) (by kernel_rfl) hP rfl rfl h75 hSW95 ?_
          refine pr_gtr rfl rfl rfl ?_
          refine WH.takex (i := 14) rfl (by kernel_rfl) (by kernel_rfl) (by kernel_rfl) hP hSW95 ?_
          refine pr_pick_f rfl rfl h75 rfl ?_
          refine WH.done (by kernel_rfl) ?_
          exact fun a ha => hJ45 ((decide (0 < (List.length u86 : Int)))) _ hF hB91 (hS92.sel [3, 4] rfl) a (ha.sub ⟨rfl, rfl, rfl, rfl, rfl, rfl, trivial⟩)
      · replace hF := ifN h28 hF
        refine W.exit ?_
        refine fun a ha => hK14 _ _ ?_ a ha
        refine W.seq fun K96 hK96 => ?_
        refine W.region ?_
        refine wl_move rfl rfl ?_
        refine wl_assign rfl rfl ?_
        refine WL.nil ?_
        refine fun a ha => hK96 _ _ ?_ a ha
        refine W.ret ?_
        have hr := Option.some.inj hF
        subst hr
        exact rets (vs := [v20]) hQ rfl ⟨rv_tmp rfl, trivial⟩ ⟨v20, F21, rfl, hB17, hS18.sel [1] rfl⟩
theorem C_impl_sideOf (w0 : World) (x0 : Int) (r : Int) (hF : F_impl_sideOf x0 = some r) :
    Calls Try.prog 72 [(.int .i64 x0)].toArray w0 fun e w' => e = .returned (.int .i64 r) ∧ Below w0.heap.size w0 w' := by
  refine calls_mk' Try.func72 rfl Try.ntmps72 rfl rfl fun Q hQ hP => ?_
  have hB : Below w0.heap.size w0 w0 := Below.refl _ _
  have hS : Sep w0.heap.size w0 [] := Sep.nil _ _
  unfold F_impl_sideOf at hF
  refine W.seq fun K1 hK1 => ?_
  refine W.region ?_
  refine wl_assign rfl rfl ?_
  refine WL.nil ?_
  refine fun a ha => hK1 _ _ ?_ a ha
  refine W.seq fun K2 hK2 => ?_
  refine W.block ?_
  refine W.seq fun K3 hK3 => ?_
  refine W.region ?_
  refine wl_move rfl rfl ?_
  refine wl_gtr rfl rfl rfl ?_
  refine wl_assign rfl rfl ?_
  refine WL.nil ?_
  refine fun a ha => hK3 _ _ ?_ a ha
  refine W.cond rfl (fun h4 => ?_) (fun h4 => ?_)
  · replace hF := ifP h4 hF
    refine W.seq fun K5 hK5 => ?_
    refine W.region ?_
    refine wl_assign rfl rfl ?_
    refine WL.nil ?_
    refine fun a ha => hK5 _ _ ?_ a ha
    refine W.ret ?_
    have hr := Option.some.inj hF
    subst hr
    exact rets (vs := [(.int .i64 1)]) hQ rfl ⟨rv_tmp rfl, trivial⟩ ⟨rfl, hB⟩
  · replace hF := ifN h4 hF
    refine W.seq fun K6 hK6 => ?_
    refine W.region ?_
    refine wl_move rfl rfl ?_
    refine wl_lss rfl rfl rfl ?_
    refine wl_assign rfl rfl ?_
    refine WL.nil ?_
    refine fun a ha => hK6 _ _ ?_ a ha
    refine W.cond rfl (fun h7 => ?_) (fun h7 => ?_)
    · replace hF := ifP h7 hF
      refine W.seq fun K8 hK8 => ?_
      refine W.region ?_
      refine wl_assign rfl rfl ?_
      refine WL.nil ?_
      refine fun a ha => hK8 _ _ ?_ a ha
      refine W.ret ?_
      have hr := Option.some.inj hF
      subst hr
      exact rets (vs := [(.int .i64 (-1))]) hQ rfl ⟨rv_tmp rfl, trivial⟩ ⟨rfl, hB⟩
    · replace hF := ifN h7 hF
      refine W.skip ?_
      refine fun a ha => hK2 _ _ ?_ a ha
      refine W.seq fun K9 hK9 => ?_
      refine W.region ?_
      refine wl_assign rfl rfl ?_
      refine WL.nil ?_
      refine fun a ha => hK9 _ _ ?_ a ha
      refine W.ret ?_
      have hr := Option.some.inj hF
      subst hr
      exact rets (vs := [(.int .i64 0)]) hQ rfl ⟨rv_tmp rfl, trivial⟩ ⟨rfl, hB⟩
theorem C_impl_totalCounts (w0 : World) (x0 : ((List (List (Int × Int))) × (List Int) × Int × Int)) (v0_0 : Value) (h0_0 : rdS ty_82 (· < w0.heap.size) w0 v0_0 x0.1) (v0_1 : Value) (h0_1 : rdS ty_3 (· < w0.heap.size) w0 v0_1 x0.2.1) (r : Int) (hF : F_impl_totalCounts x0 = some r) :
    Calls Try.prog 73 [(.agg #[v0_0, v0_1, (.int .i64 x0.2.2.1), (.int .i64 x0.2.2.2)])].toArray w0 fun e w' => e = .returned (.int .i64 r) ∧ Below w0.heap.size w0 w' := by
  refine calls_mk' Try.func73 rfl Try.ntmps73 rfl rfl fun Q hQ hP => ?_
  have hB : Below w0.heap.size w0 w0 := Below.refl _ _
  have hS : Sep w0.heap.size w0 [] := Sep.nil _ _
  unfold F_impl_totalCounts at hF
  refine W.seq fun K1 hK1 => ?_
  refine W.region ?_
  refine wl_box (cs := [v0_0, v0_1, (.int .i64 x0.2.2.1), (.int .i64 x0.2.2.2)]) rfl rfl rfl hB hS ?_
  intro b2 w3 hb4 hB5 hS6
  refine wl_assign rfl rfl ?_
  refine WL.nil ?_
  refine fun a ha => hK1 _ _ ?_ a ha
  refine W.seq fun K7 hK7 => ?_
  refine W.region ?_
  refine wl_assign rfl rfl ?_
  refine WL.nil ?_
  refine fun a ha => hK7 _ _ ?_ a ha
  refine W.seq fun K8 hK8 => ?_
  refine W.seq fun K9 hK9 => ?_
  refine W.region ?_
  refine wl_field (o := 1) (off' := 1) ff_42_1 rfl rfl rfl ?_
  refine wl_load_blk (i := 0) (vs := [v0_1]) (v := v0_1) tf_24 rfl rfl hS6 rfl rfl rfl ?_
  refine wl_lenr (e := ty_3) (l := x0.2.1) Try.underlying24 rfl rfl h0_1 ?_
  refine wl_move rfl rfl ?_
  refine WL.nil ?_
  refine fun a ha => hK9 _ _ ?_ a ha
  refine W.block ?_
  refine W.loopk (fun m a w10 => ∃ (y13 : Int) (y14 : Int), St 18 [(3, (.int .i64 y13)), (7, v0_1), (8, (.int .i64 (List.length x0.2.1 : Int))), (9, (.int .i64 y14))] a ∧ Below w0.heap.size w0 w10 ∧ Sep w0.heap.size w10 [] ∧ F_impl_totalCounts_L1 x0 m y13 y14 = some r) FU ?_ ?_
  ·
    exact fun a ha => ⟨0, 0, ha.sub ⟨rfl, rfl, rfl, rfl, trivial⟩, hB5, (hS6.sel [] rfl), hF⟩
  ·
    rintro m17 a w10 ⟨y13, y14, ha, hB11, hS12, hF⟩ KL16 hKL16
    refine W.at ?_ ha
    cases m17 with
    | zero => exact noneE hF
    | succ m17 =>
      obtain ⟨nx15, hnx15⟩ : ∃ k, k = F_impl_totalCounts_L1 x0 m17 := ⟨_, rfl⟩
      rw [F_impl_totalCounts_L1, ← hnx15] at hF
      refine W.seq fun K18 hK18 => ?_
      refine W.region ?_
      refine wl_lss rfl rfl rfl ?_
      refine WL.nil ?_
      refine fun a ha => hK18 _ _ ?_ a ha
      refine W.seq fun K19 hK19 => ?_
      refine W.cond rfl (fun h20 => ?_) (fun h20 => ?_)
      · replace hF := ifP h20 hF
        refine W.skip ?_
        refine fun a ha => hK19 _ _ ?_ a ha
        refine W.seq fun K21 hK21 => ?_
        refine W.block ?_
        refine W.seq fun K22 hK22 => ?_
        refine W.region ?_
        obtain ⟨u23, hu23, hF⟩ := bindE hF
        refine wl_index (e := ty_3) Try.underlying24 rfl rfl rfl h0_1 hu23 ?_
        rintro p24 _ rfl hp25
        refine wl_load_p (vs := [(.int .i64 u23)]) (v := (.int .i64 u23)) tf_3 rfl rfl (hp25.ro hB11) rfl rfl ?_
        refine wl_assign rfl rfl ?_
        refine WL.nil ?_
        refine fun a ha => hK22 _ _ ?_ a ha
        refine W.region ?_
        refine wl_move rfl rfl ?_
        refine wl_move rfl rfl ?_
        refine wl_add rfl rfl rfl ?_
        refine wl_assign rfl rfl ?_
        refine WL.nil ?_
        refine fun a ha => hK21 _ _ ?_ a ha
        refine W.region ?_
        refine wl_add rfl rfl rfl ?_
        refine wl_move rfl rfl ?_
        refine WL.nil ?_
        rw [hnx15] at hF
        exact fun a ha => hKL16 a _ m17 (Nat.lt_succ_self m17) ⟨(w64 (y13 + u23)), (w64 (y14 + 1)), ha.sub ⟨rfl, rfl, rfl, rfl, trivial⟩, hB11, (hS12.sel [] rfl), hF⟩
      · replace hF := ifN h20 hF
        refine W.exit ?_
        refine fun a ha => hK8 _ _ ?_ a ha
        refine W.seq fun K26 hK26 => ?_
        refine W.region ?_
        refine wl_move rfl rfl ?_
        refine wl_assign rfl rfl ?_
        refine WL.nil ?_
        refine fun a ha => hK26 _ _ ?_ a ha
        refine W.ret ?_
        have hr := Option.some.inj hF
        subst hr
        exact rets (vs := [(.int .i64 y13)]) hQ rfl ⟨rv_tmp rfl, trivial⟩ ⟨rfl, hB11⟩
theorem C_impl_waySums (w0 : World) (x0 : ((List (List (Int × Int))) × (List Int) × Int × Int)) (v0_0 : Value) (h0_0 : rdS ty_82 (· < w0.heap.size) w0 v0_0 x0.1) (v0_1 : Value) (h0_1 : rdS ty_3 (· < w0.heap.size) w0 v0_1 x0.2.1) (r : (List Int)) (hF : F_impl_waySums x0 = some r) :
    Calls Try.prog 74 [(.agg #[v0_0, v0_1, (.int .i64 x0.2.2.1), (.int .i64 x0.2.2.2)])].toArray w0 fun e w' => ∃ (q0 : Value) (G0 : List Nat), e = .returned q0 ∧ Below w0.heap.size w0 w' ∧ Sep w0.heap.size w' [R.own ty_3 G0 q0 r] := by
  refine calls_mk' Try.func74 rfl Try.ntmps74 rfl rfl fun Q hQ hP => ?_
  have hB : Below w0.heap.size w0 w0 := Below.refl _ _
  have hS : Sep w0.heap.size w0 [] := Sep.nil _ _
  unfold F_impl_waySums at hF
  refine W.seq fun K1 hK1 => ?_
  refine W.region ?_
  refine wl_box (cs := [v0_0, v0_1, (.int .i64 x0.2.2.1), (.int .i64 x0.2.2.2)]) rfl rfl rfl hB hS ?_
  intro b2 w3 hb4 hB5 hS6
  refine wl_assign rfl rfl ?_
  refine WL.nil ?_
  refine fun a ha => hK1 _ _ ?_ a ha
  refine W.seq fun K7 hK7 => ?_
  refine W.region ?_
  refine wl_field (o := 0) (off' := 0) ff_42_0 rfl rfl rfl ?_
  refine wl_load_blk (i := 0) (vs := [v0_0]) (v := v0_0) tf_40 rfl rfl hS6 rfl rfl rfl ?_
  obtain ⟨u8, hu8, hF⟩ := bindE hF
  refine wl_index (e := ty_82) Try.underlying40 rfl rfl rfl h0_0 hu8 ?_
  rintro p9 _ ⟨v11, rfl, hv12⟩ hp10
  refine wl_load_p (vs := [v11]) (v := v11) tf_82 rfl rfl (hp10.ro hB5) rfl rfl ?_
  refine wl_lenr (e := ty_106) (l := u8) Try.underlying82 rfl rfl hv12 ?_
  obtain ⟨u13, hu13, hF⟩ := bindE hF
  refine wl_make (e := ty_3) Try.underlying24 rfl rfl hu13 hB5 hS6 ?_
  intro v14 F15 w16 hb17 hB18 hS19
  refine wl_assign rfl rfl ?_
  refine WL.nil ?_
  refine fun a ha => hK7 _ _ ?_ a ha
  refine W.seq fun K20 hK20 => ?_
  refine W.seq fun K21 hK21 => ?_
  refine W.region ?_
  refine wl_field (o := 1) (off' := 1) ff_42_1 rfl rfl rfl ?_
  refine wl_load_blk (i := 1) (vs := [v0_1]) (v := v0_1) tf_24 rfl rfl hS19 rfl rfl rfl ?_
  refine wl_lenr (e := ty_3) (l := x0.2.1) Try.underlying24 rfl rfl h0_1 ?_
  refine wl_move rfl rfl ?_
  refine WL.nil ?_
  refine fun a ha => hK21 _ _ ?_ a ha
  refine W.block ?_
  refine W.loopk (fun m a w22 => ∃ (l25 : (List Int)) (y28 : Int) (v26 : Value) (F27 : List Nat), St 42 [(1, (.pointer (some ⟨b2, 0, none⟩))), (3, v26), (15, (.int .i64 (List.length x0.2.1 : Int))), (16, (.int .i64 y28))] a ∧ Below w0.heap.size w0 w22 ∧ Sep w0.heap.size w22 [R.blk b2 42 [v0_0, v0_1, (.int .i64 x0.2.2.1), (.int .i64 x0.2.2.2)], R.own ty_3 F27 v26 l25] ∧ F_impl_waySums_L1 x0 m l25 y28 = some r) FU ?_ ?_
  ·
    exact fun a ha => ⟨u13, 0, v14, F15, ha.sub ⟨rfl, rfl, rfl, rfl, trivial⟩, hB18, (hS19.sel [1, 0] rfl), hF⟩
  ·
    rintro m31 a w22 ⟨l25, y28, v26, F27, ha, hB23, hS24, hF⟩ KL30 hKL30
    refine W.at ?_ ha
    cases m31 with
    | zero => exact noneE hF
    | succ m31 =>
      obtain ⟨nx29, hnx29⟩ : ∃ k, k = F_impl_waySums_L1 x0 m31 := ⟨_, rfl⟩
      rw [F_impl_waySums_L1, ← hnx29] at hF
      refine W.seq fun K32 hK32 => ?_
      refine W.region ?_
      refine wl_lss rfl rfl rfl ?_
      refine WL.nil ?_
      refine fun a ha => hK32 _ _ ?_ a ha
      refine W.seq fun K33 hK33 => ?_
      refine W.cond rfl (fun h34 => ?_) (fun h34 => ?_)
      · replace hF := ifP h34 hF
        refine W.skip ?_
        refine fun a ha => hK33 _ _ ?_ a ha
        refine W.seq fun K35 hK35 => ?_
        refine W.block ?_
        refine W.seq fun K36 hK36 => ?_
        refine W.region ?_
        refine wl_move rfl rfl ?_
        refine wl_assign rfl rfl ?_
        refine WL.nil ?_
        refine fun a ha => hK36 _ _ ?_ a ha
        refine W.seq fun K37 hK37 => ?_
        refine W.region ?_
        refine wl_load_blk (i := 0) (vs := [v0_0, v0_1, (.int .i64 x0.2.2.1), (.int .i64 x0.2.2.2)]) (v := (.agg #[v0_0, v0_1, (.int .i64 x0.2.2.1), (.int .i64 x0.2.2.2)])) tf_42 rfl rfl hS24 rfl rfl rfl ?_
        refine wl_move rfl rfl ?_
        obtain ⟨u38, hu38, hF⟩ := bindE hF
        refine wl_call rfl Try.call100 (C_impl_showMoves w22 x0 v0_0 (h0_0.ro hB23) v0_1 (h0_1.ro hB23) y28 _ hu38) rfl ?_
        rintro _ w41 ⟨v39, F40, rfl, hb42, hM45⟩
        refine ⟨_, rfl, ?_⟩
        have hB43 := hB23.trans (hb42.mono hB23.size)
        have hS44 := hS24.join hb42 hM45 hB23.size
        refine wl_lenr (e := ty_117) (l := u38) Try.underlying114 rfl rfl (hS44.own_ro (i := 0) rfl) ?_
        refine wl_move rfl rfl ?_
        refine WL.nil ?_
        refine fun a ha => hK37 _ _ ?_ a ha
        refine W.block ?_
        refine W.loopk (fun m a w46 => ∃ (l49 : (List Int)) (y52 : Int) (v50 : Value) (F51 : List Nat), St 42 [(1, (.pointer (some ⟨b2, 0, none⟩))), (3, v50), (15, (.int .i64 (List.length x0.2.1 : Int))), (16, (.int .i64 y28)), (21, v39), (22, (.int .i64 (List.length u38 : Int))), (23, (.int .i64 y52))] a ∧ Below w0.heap.size w0 w46 ∧ Sep w0.heap.size w46 [R.blk b2 42 [v0_0, v0_1, (.int .i64 x0.2.2.1), (.int .i64 x0.2.2.2)], R.own ty_3 F51 v50 l49, R.own ty_117 F40 v39 u38] ∧ F_impl_waySums_L2 u38 nx29 y28 m l49 y52 = some r) FU ?_ ?_
        ·
          exact fun a ha => ⟨l25, 0, v26, F27, ha.sub ⟨rfl, rfl, rfl, rfl, rfl, rfl, rfl, trivial⟩, hB43, (hS44.sel [1, 2, 0] rfl), hF⟩
        ·
          rintro m55 a w46 ⟨l49, y52, v50, F51, ha, hB47, hS48, hF⟩ KL54 hKL54
          refine W.at ?_ ha
          cases m55 with
          | zero => exact noneE hF
          | succ m55 =>
            obtain ⟨nx53, hnx53⟩ : ∃ k, k = F_impl_waySums_L2 u38 nx29 y28 m55 := ⟨_, rfl⟩
            rw [F_impl_waySums_L2, ← hnx53] at hF
            refine W.seq fun K56 hK56 => ?_
            refine W.region ?_
            refine wl_lss rfl rfl rfl ?_
            refine WL.nil ?_
            refine fun a ha => hK56 _ _ ?_ a ha
            refine W.seq fun K57 hK57 => ?_
            refine W.cond rfl (fun h58 => ?_) (fun h58 => ?_)
            · replace hF := ifP h58 hF
              refine W.skip ?_
              refine fun a ha => hK57 _ _ ?_ a ha
              refine W.seq fun K59 hK59 => ?_
              obtain ⟨k66, hk66, hF⟩ := jE1 hF
              have hJ67 : ∀ (l63 : (List Int)) (v64 : Value) (F65 : List Nat) (w60 : World) (_ : k66 l63 = some r) (_ : Below w0.heap.size w0 w60) (_ : Sep w0.heap.size w60 [R.blk b2 42 [v0_0, v0_1, (.int .i64 x0.2.2.1), (.int .i64 x0.2.2.2)], R.own ty_3 F65 v64 l63, R.own ty_117 F40 v39 u38]), ∀ a, St 42 [(1, (.pointer (some ⟨b2, 0, none⟩))), (3, v64), (15, (.int .i64 (List.length x0.2.1 : Int))), (16, (.int .i64 y28)), (21, v39), (22, (.int .i64 (List.length u38 : Int))), (23, (.int .i64 y52))] a → K59 a w60 := by
                intro l63 v64 F65 w60 hF hB61 hS62
                subst hk66
                refine fun a ha => hK59 _ _ ?_ a ha
                refine W.region ?_
                refine wl_add rfl rfl rfl ?_
                refine wl_move rfl rfl ?_
                refine WL.nil ?_
                rw [hnx53] at hF
                exact fun a ha => hKL54 a _ m55 (Nat.lt_succ_self m55) ⟨l63, (w64 (y52 + 1)), v64, F65, ha.sub ⟨rfl, rfl, rfl, rfl, rfl, rfl, rfl, trivial⟩, hB61, (hS62.sel [0, 1, 2] rfl), hF⟩
              refine W.block ?_
              refine W.seq fun K68 hK68 => ?_
              refine W.region ?_
              refine wl_move rfl rfl ?_
              obtain ⟨u69, hu69, hF⟩ := bindE hF
              refine wl_indexo (e := ty_117) (i := 2) Try.underlying114 rfl rfl rfl hS48 rfl hu69 ?_
              rintro p70 _ rfl hp71 ho72
              refine wl_load_p (vs := [(.int .i64 u69.1.1), (.int .i64 u69.1.2), (.int .i64 u69.2.1.1), (.int .i64 u69.2.1.2), (.int .i64 u69.2.2)]) (v := (.agg #[(.int .i64 u69.1.1), (.int .i64 u69.1.2), (.int .i64 u69.2.1.1), (.int .i64 u69.2.1.2), (.int .i64 u69.2.2)])) tf_117 rfl rfl hp71 rfl rfl ?_
              refine wl_alloc (cs := [(.int .i64 0), (.int .i64 0), (.int .i64 0), (.int .i64 0), (.int .i64 0)]) tf_117 rfl rfl hB47 hS48 ?_
              intro b73 w74 hb75 hB76 hS77
              refine wl_assign rfl rfl ?_
              refine wl_store_blk (i := 0) (vs := [(.int .i64 u69.1.1), (.int .i64 u69.1.2), (.int .i64 u69.2.1.1), (.int .i64 u69.2.1.2), (.int .i64 u69.2.2)]) (cs' := [(.int .i64 u69.1.1), (.int .i64 u69.1.2), (.int .i64 u69.2.1.1), (.int .i64 u69.2.1.2), (.int .i64 u69.2.2)]) tf_117 rfl rfl rfl rfl hB76 hS77 rfl rfl ⟨rfl, rfl, rfl, rfl, rfl, trivial⟩ rfl ?_
              intro w78 hk81 hB79 hS80
              refine WL.nil ?_
              refine fun a ha => hK68 _ _ ?_ a ha
              refine W.regionH mixed_ F51 hB79 hS80 ?_
              intro w82 hb83 hB84 hS85
              have hSW86 := KeepX.refl w82 F51
              refine WH.takex (i := 0) rfl (by kernel_rfl) (by kernel_rfl) (by kernel_rfl) hP hSW86 ?_
              refine pr_move rfl rfl ?_
              refine WH.takex (i := 1) rfl (by kernel_rfl) (by kernel_rfl) (by kernel_rfl) hP hSW86 ?_
              refine pr_move rfl rfl ?_
              obtain ⟨u87, hu87, hF⟩ := bindE hF
              refine WH.takex (i := 2) rfl (by kernel_rfl) (by kernel_rfl) (by kernel_rfl) hP hSW86 ?_
              refine pr_indexo (e := ty_3) (i := 2) Try.underlying24 rfl rfl rfl hS85 rfl hu87 ?_
              rintro p88 _ rfl hp89 ho90
              refine WH.takex (i := 4) rfl (by kernel_rfl) (by kernel_rfl) (by kernel_rfl) hP hSW86 ?_
              refine pr_field (o := 0) (off' := 0) ff_117_0 rfl rfl rfl ?_
              refine WH.takex (i := 5) rfl (by kernel_rfl) (by kernel_rfl) (by kernel_rfl) hP hSW86 ?_
              refine pr_load_blk (i := 0) (vs := [(.int .i64 u69.1.1), (.int .i64 u69.1.2)]) (v := (.agg #[(.int .i64 u69.1.1), (.int .i64 u69.1.2)])) tf_106 rfl rfl hS85 rfl rfl rfl (hS85.disj (i := 0) (j := 2) rfl rfl rfl b73 (by simp [R.blk])) ?_
              refine WH.takex (i := 6) rfl (by kernel_rfl) (by kernel_rfl) (by kernel_rfl) hP hSW86 ?_
              refine pr_field (o := 2) (off' := 2) ff_117_1 rfl rfl rfl ?_
              refine WH.takex (i := 7) rfl (by kernel_rfl) (by kernel_rfl) (by kernel_rfl) hP hSW86 ?_
              refine pr_load_blk (i := 0) (vs := [(.int .i64 u69.2.1.1), (.int .i64 u69.2.1.2)]) (v := (.agg #[(.int .i64 u69.2.1.1), (.int .i64 u69.2.1.2)])) tf_106 rfl rfl hS85 rfl rfl rfl (hS85.disj (i := 0) (j := 2) rfl rfl rfl b73 (by simp [R.blk])) ?_
              refine WH.many (is := [3, 8]) (by kernel_rfl) rfl ?_
              refine List.forall_mem_cons.2 ⟨⟨_, rfl, ?_⟩, List.forall_mem_cons.2 ⟨⟨_, rfl, ?_⟩, fun _ h => by cases h⟩⟩
              ·
                refine wl_load_p (vs := [(.int .i64 u87)]) (v := (.int .i64 u87)) tf_3 rfl rfl hp89 rfl rfl ?_
                refine WL.nil (WH.ret hSW86 ?_)
                refine WH.one (i := 8) (by kernel_rfl) rfl ?_
                obtain ⟨u91, hu91, hF⟩ := bindE hF
                refine wl_call rfl Try.call101 (C_impl_squareOf w82 u69.1 u69.2.1 _ hu91) rfl ?_
                rintro _ w92 ⟨rfl, hb93⟩
                refine ⟨_, rfl, ?_⟩
                have hB94 := hB84.trans (hb93.mono hB84.size)
                have hS95 := hS85.below hb93
                have hSW97 := hSW86.ext hb93
                have hbS98 : Below w82.heap.size w82 w92 := hb93
                refine WL.nil (WH.ret hSW97 ?_)
                refine WH.takex (i := 9) rfl (by kernel_rfl) (by kernel_rfl) (by kernel_rfl) hP hSW97 ?_
                refine pr_add rfl rfl rfl ?_
                refine WH.one (i := 10) (by kernel_rfl) rfl ?_
                obtain ⟨u99, hu99, hF⟩ := bindE hF
                refine wl_indexo (e := ty_3) (i := 2) Try.underlying24 rfl rfl rfl hS95 rfl hu99 ?_
                rintro p100 _ rfl hp101 ho102
                refine WL.nil (WH.ret hSW97 ?_)
                refine WH.one (i := 11) (by kernel_rfl) rfl ?_
                refine wl_storeo (i := 2) (o := 0) (vs := [(.int .i64 (w64 (u87 + u91)))]) (u' := (w64 (u87 + u91))) fl_3 tf_3 rfl rfl rfl rfl ho102 hu99 hB94 hS95 rfl rfl ⟨rfl, trivial⟩ rfl ?_
                intro w103 hk106 hB104 hS105
                have hSW107 := hSW97.wr' hk106.1 hk106.2.1 (fun _ _ h => h)
                refine WL.nil (WH.ret hSW107 ?_)
                refine WH.done (by kernel_rfl) ?_
                exact fun a ha => hJ67 ((seti l49 y52 (w64 (u87 + u91)))) (v50) (F51) _ hF hB104 (hS105.sel [1, 2, 3] rfl) a (ha.sub ⟨rfl, rfl, rfl, rfl, rfl, rfl, rfl, trivial⟩)
              ·
                obtain ⟨u108, hu108, hF⟩ := bindE hF
                refine wl_call rfl Try.call101 (C_impl_squareOf w82 u69.1 u69.2.1 _ hu108) rfl ?_
                rintro _ w109 ⟨rfl, hb110⟩
                refine ⟨_, rfl, ?_⟩
                have hB111 := hB84.trans (hb110.mono hB84.size)
                have hS112 := hS85.below hb110
                have hSW114 := hSW86.ext hb110
                have hbS115 : Below w82.heap.size w82 w109 := hb110
                refine WL.nil (WH.ret hSW114 ?_)
                refine WH.one (i := 3) (by kernel_rfl) rfl ?_
                refine wl_load_p (vs := [(.int .i64 u87)]) (v := (.int .i64 u87)) tf_3 rfl rfl (hp89.ro hbS115) rfl rfl ?_
                refine WL.nil (WH.ret hSW114 ?_)
                refine WH.takex (i := 9) rfl (by kernel_rfl) (by kernel_rfl) (by kernel_rfl) hP hSW114 ?_
                refine pr_add rfl rfl rfl ?_
                refine WH.one (i := 10) (by kernel_rfl) rfl ?_
                obtain ⟨u116, hu116, hF⟩ := bindE hF
                refine wl_indexo (e := ty_3) (i := 2) Try.underlying24 rfl rfl rfl hS112 rfl hu116 ?_
                rintro p117 _ rfl hp118 ho119
                refine WL.nil (WH.ret hSW114 ?_)
                refine WH.one (i := 11) (by kernel_rfl) rfl ?_
                refine wl_storeo (i := 2) (o := 0) (vs := [(.int .i64 (w64 (u87 + u108)))]) (u' := (w64 (u87 + u108))) fl_3 tf_3 rfl rfl rfl rfl ho119 hu116 hB111 hS112 rfl rfl ⟨rfl, trivial⟩ rfl ?_
                intro w120 hk123 hB121 hS122
                have hSW124 := hSW114.wr' hk123.1 hk123.2.1 (fun _ _ h => h)
                refine WL.nil (WH.ret hSW124 ?_)
                refine WH.done (by kernel_rfl) ?_
                exact fun a ha => hJ67 ((seti l49 y52 (w64 (u87 + u108)))) (v50) (F51) _ hF hB121 (hS122.sel [1, 2, 3] rfl) a (ha.sub ⟨rfl, rfl, rfl, rfl, rfl, rfl, rfl, trivial⟩)
            · replace hF := ifN h58 hF
              refine W.exit ?_
              refine fun a ha => hK35 _ _ ?_ a ha
              refine W.region ?_
              refine wl_add rfl rfl rfl ?_
              refine wl_move rfl rfl ?_
              refine WL.nil ?_
              rw [hnx29] at hF
              exact fun a ha => hKL30 a _ m31 (Nat.lt_succ_self m31) ⟨l49, (w64 (y28 + 1)), v50, F51, ha.sub ⟨rfl, rfl, rfl, rfl, trivial⟩, hB47, (hS48.sel [0, 1] rfl), hF⟩
      · replace hF := ifN h34 hF
        refine W.exit ?_
        refine fun a ha => hK20 _ _ ?_ a ha
        refine W.seq fun K125 hK125 => ?_
        refine W.region ?_
        refine wl_move rfl rfl ?_
        refine wl_assign rfl rfl ?_
        refine WL.nil ?_
        refine fun a ha => hK125 _ _ ?_ a ha
        refine W.ret ?_
        have hr := Option.some.inj hF
        subst hr
        exact rets (vs := [v26]) hQ rfl ⟨rv_tmp rfl, trivial⟩ ⟨v26, F27, rfl, hB23, hS24.sel [1] rfl⟩
end Go.Proofs.Ytcndhhjolnebdaa
