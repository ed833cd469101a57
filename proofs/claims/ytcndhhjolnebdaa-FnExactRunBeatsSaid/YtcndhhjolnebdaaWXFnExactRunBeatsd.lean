/-
  THE WALKS of functions of this seat, by program (gen.py, prune.py).
-/
import Derived.Test.YtcndhhjolnebdaaWXFnExactRunBeatsc
set_option linter.unusedSimpArgs false
set_option linter.unusedVariables false
set_option maxRecDepth 100000
namespace Go.Proofs.Ytcndhhjolnebdaa
open Go Go.RowKit
theorem C_laws_FnExactRunBeats (w0 : World) (x0 : (((List (List (Int × Int))) × (List Int) × Int × Int) × Int × (List Int) × (List Int))) (v0_0 : Value) (h0_0 : rdS ty_104 (· < w0.heap.size) w0 v0_0 x0.1.1) (v0_1 : Value) (h0_1 : rdS ty_3 (· < w0.heap.size) w0 v0_1 x0.1.2.1) (v0_2 : Value) (h0_2 : rdS ty_3 (· < w0.heap.size) w0 v0_2 x0.2.2.1) (v0_3 : Value) (h0_3 : rdS ty_3 (· < w0.heap.size) w0 v0_3 x0.2.2.2) (x1 : (List (Int × Int))) (v1_0 : Value) (h1_0 : rdS ty_79 (· < w0.heap.size) w0 v1_0 x1) (r : Bool) (hF : F_laws_FnExactRunBeats x0 x1 = some r) :
    Calls Try.prog 5 [(.agg #[v0_0, v0_1, (.int .i64 x0.1.2.2.1), (.int .i64 x0.1.2.2.2), (.int .i64 x0.2.1), v0_2, v0_3]), v1_0].toArray w0 fun e w' => e = .returned (.bool r) ∧ Below w0.heap.size w0 w' := by
  refine calls_mk' Try.func5 rfl Try.ntmps5 rfl rfl fun Q hQ hP => ?_
  have hB : Below w0.heap.size w0 w0 := Below.refl _ _
  have hS : Sep w0.heap.size w0 [] := Sep.nil _ _
  unfold F_laws_FnExactRunBeats at hF
  refine W.seq fun K1 hK1 => ?_
  refine W.region ?_
  refine wl_box (cs := [v0_0, v0_1, (.int .i64 x0.1.2.2.1), (.int .i64 x0.1.2.2.2), (.int .i64 x0.2.1), v0_2, v0_3]) rfl rfl rfl hB hS ?_
  intro b2 w3 hb4 hB5 hS6
  refine wl_assign rfl rfl ?_
  refine WL.nil ?_
  refine fun a ha => hK1 _ _ ?_ a ha
  refine W.seq fun K7 hK7 => ?_
  refine W.region ?_
  refine wl_assign rfl rfl ?_
  refine WL.nil ?_
  refine fun a ha => hK7 _ _ ?_ a ha
  refine W.seq fun K8 hK8 => ?_
  refine W.region ?_
  refine wl_load_blk (i := 0) (vs := [v0_0, v0_1, (.int .i64 x0.1.2.2.1), (.int .i64 x0.1.2.2.2), (.int .i64 x0.2.1), v0_2, v0_3]) (v := (.agg #[v0_0, v0_1, (.int .i64 x0.1.2.2.1), (.int .i64 x0.1.2.2.2), (.int .i64 x0.2.1), v0_2, v0_3])) tf_38 rfl rfl hS6 rfl rfl rfl ?_
  refine wl_move rfl rfl ?_
  obtain ⟨u9, hu9, hF⟩ := bindE hF
  refine wl_call rfl Try.call15 (C_laws_szMarch w3 x0 v0_0 (h0_0.ro hB5) v0_1 (h0_1.ro hB5) v0_2 (h0_2.ro hB5) v0_3 (h0_3.ro hB5) 1048576 _ hu9) rfl ?_
  rintro _ w10 ⟨rfl, hb11⟩
  refine ⟨_, rfl, ?_⟩
  have hB12 := hB5.trans (hb11.mono hB5.size)
  have hS13 := hS6.below hb11
  refine wl_assign rfl rfl ?_
  refine WL.nil ?_
  refine fun a ha => hK8 _ _ ?_ a ha
  refine W.seq fun K15 hK15 => ?_
  refine W.seq fun K16 hK16 => ?_
  refine W.region ?_
  refine wl_move rfl rfl ?_
  refine wl_lss rfl rfl rfl ?_
  refine WL.nil ?_
  refine fun a ha => hK16 _ _ ?_ a ha
  refine W.cond rfl (fun h17 => ?_) (fun h17 => ?_)
  · replace hF := ifP h17 hF
    refine W.seq fun K18 hK18 => ?_
    refine W.region ?_
    refine wl_assign rfl rfl ?_
    refine WL.nil ?_
    refine fun a ha => hK18 _ _ ?_ a ha
    refine W.ret ?_
    have hr := Option.some.inj hF
    subst hr
    exact rets (vs := [(.bool true)]) hQ rfl ⟨rv_tmp rfl, trivial⟩ ⟨rfl, hB12⟩
  · replace hF := ifN h17 hF
    refine W.skip ?_
    refine fun a ha => hK15 _ _ ?_ a ha
    refine W.seq fun K19 hK19 => ?_
    refine W.region ?_
    refine wl_move rfl rfl ?_
    refine wl_move rfl rfl ?_
    obtain ⟨u20, hu20, hF⟩ := bindE hF
    refine wl_call rfl Try.call22 (C_laws_szBeatS w10 x1 v1_0 (h1_0.ro hB12) u9 _ hu20) rfl ?_
    rintro _ w21 ⟨rfl, hb22⟩
    refine ⟨_, rfl, ?_⟩
    have hB23 := hB12.trans (hb22.mono hB12.size)
    have hS24 := hS13.below hb22
    refine wl_assign rfl rfl ?_
    refine WL.nil ?_
    refine fun a ha => hK19 _ _ ?_ a ha
    refine W.seq fun K26 hK26 => ?_
    refine W.seq fun K27 hK27 => ?_
    refine W.region ?_
    refine wl_move rfl rfl ?_
    refine wl_lss rfl rfl rfl ?_
    refine WL.nil ?_
    refine fun a ha => hK27 _ _ ?_ a ha
    refine W.cond rfl (fun h28 => ?_) (fun h28 => ?_)
    · replace hF := ifP h28 hF
      refine W.seq fun K29 hK29 => ?_
      refine W.region ?_
      refine wl_assign rfl rfl ?_
      refine WL.nil ?_
      refine fun a ha => hK29 _ _ ?_ a ha
      refine W.ret ?_
      have hr := Option.some.inj hF
      subst hr
      exact rets (vs := [(.bool true)]) hQ rfl ⟨rv_tmp rfl, trivial⟩ ⟨rfl, hB23⟩
    · replace hF := ifN h28 hF
      refine W.skip ?_
      refine fun a ha => hK26 _ _ ?_ a ha
      refine W.seq fun K30 hK30 => ?_
      refine W.region ?_
      refine wl_load_blk (i := 0) (vs := [v0_0, v0_1, (.int .i64 x0.1.2.2.1), (.int .i64 x0.1.2.2.2), (.int .i64 x0.2.1), v0_2, v0_3]) (v := (.agg #[v0_0, v0_1, (.int .i64 x0.1.2.2.1), (.int .i64 x0.1.2.2.2), (.int .i64 x0.2.1), v0_2, v0_3])) tf_38 rfl rfl hS24 rfl rfl rfl ?_
      obtain ⟨u31, hu31, hF⟩ := bindE hF
      refine wl_call rfl Try.call17 (C_laws_toMarch w21 x0 v0_0 (h0_0.ro hB23) v0_1 (h0_1.ro hB23) v0_2 (h0_2.ro hB23) v0_3 (h0_3.ro hB23) _ hu31) rfl ?_
      rintro _ w40 ⟨v32, F33, v34, F35, v36, F37, v38, F39, rfl, hb41, hM44⟩
      refine ⟨_, rfl, ?_⟩
      have hB42 := hB23.trans (hb41.mono hB23.size)
      have hS43 := hS24.join hb41 hM44 hB23.size
      refine wl_move rfl rfl ?_
      obtain ⟨u45, hu45, hF⟩ := bindE hF
      refine wl_call rfl Try.call24 (C_laws_toBeatS w40 x1 v1_0 (h1_0.ro hB42) _ hu45) rfl ?_
      rintro _ w48 ⟨v46, F47, rfl, hb49, hM52⟩
      refine ⟨_, rfl, ?_⟩
      have hB50 := hB42.trans (hb49.mono hB42.size)
      have hS51 := hS43.join hb49 hM52 hB42.size
      obtain ⟨u53, hu53, hF⟩ := bindE hF
      refine wl_call rfl Try.call23 (C_spec_RunBeats w48 u31 v32 (hS51.own_ro (i := 1) rfl) v34 (hS51.own_ro (i := 2) rfl) v36 (hS51.own_ro (i := 3) rfl) v38 (hS51.own_ro (i := 4) rfl) u45 v46 (hS51.own_ro (i := 0) rfl) _ hu53) rfl ?_
      rintro _ w62 ⟨v54, F55, v56, F57, v58, F59, v60, F61, rfl, hb63, hM66⟩
      refine ⟨_, rfl, ?_⟩
      have hB64 := hB50.trans (hb63.mono hB50.size)
      have hS65 := hS51.join hb63 hM66 hB50.size
      refine wl_move rfl rfl ?_
      refine wl_extract rfl rfl rfl ?_
      refine wl_extract rfl rfl rfl ?_
      refine wl_extract rfl rfl rfl ?_
      refine wl_alloc (cs := [(.slice none 0 0), (.slice none 0 0), (.int .i64 0), (.int .i64 0), (.int .i64 0), (.slice none 0 0), (.slice none 0 0)]) tf_44 rfl rfl hB64 hS65 ?_
      intro b67 w68 hb69 hB70 hS71
      refine wl_store_blk (i := 0) (vs := [v54, v56, (.int .i64 u53.1.1.2.2.1), (.int .i64 u53.1.1.2.2.2), (.int .i64 u53.1.2.1), v58, v60]) (cs' := [v54, v56, (.int .i64 u53.1.1.2.2.1), (.int .i64 u53.1.1.2.2.2), (.int .i64 u53.1.2.1), v58, v60]) tf_44 rfl rfl rfl rfl hB70 hS71 rfl rfl ⟨(hS71.own_ro (i := 1) rfl).one, (hS71.own_ro (i := 2) rfl).one, rfl, rfl, rfl, (hS71.own_ro (i := 3) rfl).one, (hS71.own_ro (i := 4) rfl).one, trivial⟩ rfl ?_
      intro w72 hk75 hB73 hS74
      refine wl_assign rfl rfl ?_
      refine wl_assign rfl rfl ?_
      refine WL.nil ?_
      refine fun a ha => hK30 _ _ ?_ a ha
      refine W.seq fun K76 hK76 => ?_
      refine W.region ?_
      refine wl_load_blk (i := 10) (vs := [v0_0, v0_1, (.int .i64 x0.1.2.2.1), (.int .i64 x0.1.2.2.2), (.int .i64 x0.2.1), v0_2, v0_3]) (v := (.agg #[v0_0, v0_1, (.int .i64 x0.1.2.2.1), (.int .i64 x0.1.2.2.2), (.int .i64 x0.2.1), v0_2, v0_3])) tf_38 rfl rfl hS74 rfl rfl rfl ?_
      obtain ⟨u77, hu77, hF⟩ := bindE hF
      refine wl_call rfl Try.call17 (C_laws_toMarch w72 x0 v0_0 (h0_0.ro hB73) v0_1 (h0_1.ro hB73) v0_2 (h0_2.ro hB73) v0_3 (h0_3.ro hB73) _ hu77) rfl ?_
      rintro _ w86 ⟨v78, F79, v80, F81, v82, F83, v84, F85, rfl, hb87, hM90⟩
      refine ⟨_, rfl, ?_⟩
      have hB88 := hB73.trans (hb87.mono hB73.size)
      have hS89 := hS74.join hb87 hM90 hB73.size
      refine wl_alloc (cs := [(.slice none 0 0), (.slice none 0 0), (.int .i64 0), (.int .i64 0), (.int .i64 0), (.slice none 0 0), (.slice none 0 0)]) tf_44 rfl rfl hB88 hS89 ?_
      intro b91 w92 hb93 hB94 hS95
      refine wl_store_blk (i := 0) (vs := [v78, v80, (.int .i64 u77.1.2.2.1), (.int .i64 u77.1.2.2.2), (.int .i64 u77.2.1), v82, v84]) (cs' := [v78, v80, (.int .i64 u77.1.2.2.1), (.int .i64 u77.1.2.2.2), (.int .i64 u77.2.1), v82, v84]) tf_44 rfl rfl rfl rfl hB94 hS95 rfl rfl ⟨(hS95.own_ro (i := 1) rfl).one, (hS95.own_ro (i := 2) rfl).one, rfl, rfl, rfl, (hS95.own_ro (i := 3) rfl).one, (hS95.own_ro (i := 4) rfl).one, trivial⟩ rfl ?_
      intro w96 hk99 hB97 hS98
      refine WL.nil ?_
      refine fun a ha => hK76 _ _ ?_ a ha
      refine W.seq fun K100 hK100 => ?_
      refine W.region ?_
      refine wl_move rfl rfl ?_
      obtain ⟨u101, hu101, hF⟩ := bindE hF
      refine wl_call rfl Try.call24 (C_laws_toBeatS w96 x1 v1_0 (h1_0.ro hB97) _ hu101) rfl ?_
      rintro _ w104 ⟨v102, F103, rfl, hb105, hM108⟩
      refine ⟨_, rfl, ?_⟩
      have hB106 := hB97.trans (hb105.mono hB97.size)
      have hS107 := hS98.join hb105 hM108 hB97.size
      refine wl_assign rfl rfl ?_
      refine WL.nil ?_
      refine fun a ha => hK100 _ _ ?_ a ha
      refine W.seq fun K109 hK109 => ?_
      refine W.region ?_
      refine wl_load_blk (i := 1) (vs := [v78, v80, (.int .i64 u77.1.2.2.1), (.int .i64 u77.1.2.2.2), (.int .i64 u77.2.1), v82, v84]) (v := (.agg #[v78, v80, (.int .i64 u77.1.2.2.1), (.int .i64 u77.1.2.2.2), (.int .i64 u77.2.1), v82, v84])) tf_44 rfl rfl hS107 rfl rfl rfl ?_
      refine wl_move rfl rfl ?_
      obtain ⟨u110, hu110, hF⟩ := bindE hF
      refine wl_call rfl Try.call25 (C_impl_RunBeats w104 u77 v78 (hS107.own_ro (i := 2) rfl) v80 (hS107.own_ro (i := 3) rfl) v82 (hS107.own_ro (i := 4) rfl) v84 (hS107.own_ro (i := 5) rfl) u101 v102 (hS107.own_ro (i := 0) rfl) _ hu110) rfl ?_
      rintro _ w119 ⟨v111, F112, v113, F114, v115, F116, v117, F118, rfl, hb120, hM123⟩
      refine ⟨_, rfl, ?_⟩
      have hB121 := hB106.trans (hb120.mono hB106.size)
      have hS122 := hS107.join hb120 hM123 hB106.size
      refine wl_move rfl rfl ?_
      refine wl_extract rfl rfl rfl ?_
      refine wl_extract rfl rfl rfl ?_
      refine wl_extract rfl rfl rfl ?_
      refine wl_alloc (cs := [(.slice none 0 0), (.slice none 0 0), (.int .i64 0), (.int .i64 0), (.int .i64 0), (.slice none 0 0), (.slice none 0 0)]) tf_44 rfl rfl hB121 hS122 ?_
      intro b124 w125 hb126 hB127 hS128
      refine wl_store_blk (i := 0) (vs := [v111, v113, (.int .i64 u110.1.1.2.2.1), (.int .i64 u110.1.1.2.2.2), (.int .i64 u110.1.2.1), v115, v117]) (cs' := [v111, v113, (.int .i64 u110.1.1.2.2.1), (.int .i64 u110.1.1.2.2.2), (.int .i64 u110.1.2.1), v115, v117]) tf_44 rfl rfl rfl rfl hB127 hS128 rfl rfl ⟨(hS128.own_ro (i := 1) rfl).one, (hS128.own_ro (i := 2) rfl).one, rfl, rfl, rfl, (hS128.own_ro (i := 3) rfl).one, (hS128.own_ro (i := 4) rfl).one, trivial⟩ rfl ?_
      intro w129 hk132 hB130 hS131
      refine wl_assign rfl rfl ?_
      refine wl_assign rfl rfl ?_
      refine WL.nil ?_
      refine fun a ha => hK109 _ _ ?_ a ha
      refine W.seq fun K133 hK133 => ?_
      refine W.seq fun K134 hK134 => ?_
      obtain ⟨k139, hk139, hF⟩ := jE1 hF
      have hJ140 : ∀ (y138 : Bool) (w135 : World) (_ : k139 y138 = some r) (_ : Below w0.heap.size w0 w135) (_ : Sep w0.heap.size w135 [R.blk b2 38 [v0_0, v0_1, (.int .i64 x0.1.2.2.1), (.int .i64 x0.1.2.2.2), (.int .i64 x0.2.1), v0_2, v0_3], R.own ty_82 F55 v54 u53.1.1.1, R.own ty_3 F57 v56 u53.1.1.2.1, R.own ty_3 F59 v58 u53.1.2.2.1, R.own ty_3 F61 v60 u53.1.2.2.2, R.blk b67 44 [v54, v56, (.int .i64 u53.1.1.2.2.1), (.int .i64 u53.1.1.2.2.2), (.int .i64 u53.1.2.1), v58, v60], R.own ty_82 F79 v78 u77.1.1, R.own ty_3 F81 v80 u77.1.2.1, R.own ty_3 F83 v82 u77.2.2.1, R.own ty_3 F85 v84 u77.2.2.2, R.blk b91 44 [v78, v80, (.int .i64 u77.1.2.2.1), (.int .i64 u77.1.2.2.2), (.int .i64 u77.2.1), v82, v84], R.own ty_71 F103 v102 u101, R.own ty_82 F112 v111 u110.1.1.1, R.own ty_3 F114 v113 u110.1.1.2.1, R.own ty_3 F116 v115 u110.1.2.2.1, R.own ty_3 F118 v117 u110.1.2.2.2, R.blk b124 44 [v111, v113, (.int .i64 u110.1.1.2.2.1), (.int .i64 u110.1.1.2.2.2), (.int .i64 u110.1.2.1), v115, v117]]), ∀ a, St 140 [(1, v1_0), (2, (.pointer (some ⟨b2, 0, none⟩))), (6, (.pointer (some ⟨b67, 0, none⟩))), (7, (.int .i64 u53.2.1)), (8, (.bool u53.2.2)), (9, (.pointer (some ⟨b91, 0, none⟩))), (10, v102), (11, (.pointer (some ⟨b124, 0, none⟩))), (12, (.int .i64 u110.2.1)), (13, (.bool u110.2.2)), (63, (.bool y138))] a → K134 a w135 := by
        intro y138 w135 hF hB136 hS137
        subst hk139
        refine fun a ha => hK134 _ _ ?_ a ha
        refine W.cond rfl (fun h141 => ?_) (fun h141 => ?_)
        · replace hF := ifP h141 hF
          refine W.seq fun K142 hK142 => ?_
          refine W.region ?_
          refine wl_assign rfl rfl ?_
          refine WL.nil ?_
          refine fun a ha => hK142 _ _ ?_ a ha
          refine W.ret ?_
          have hr := Option.some.inj hF
          subst hr
          exact rets (vs := [(.bool false)]) hQ rfl ⟨rv_tmp rfl, trivial⟩ ⟨rfl, hB136⟩
        · replace hF := ifN h141 hF
          refine W.skip ?_
          refine fun a ha => hK133 _ _ ?_ a ha
          refine W.seq fun K143 hK143 => ?_
          refine W.seq fun K144 hK144 => ?_
          refine W.regionH mixed_ [] hB136 hS137 ?_
          intro w145 hb146 hB147 hS148
          have hSW149 := KeepX.refl w145 []
          refine WH.takex (i := 0) rfl (by kernel_rfl) (by kernel_rfl) (by kernel_rfl) hP hSW149 ?_
          refine pr_load_blk (i := 10) (vs := [v78, v80, (.int .i64 u77.1.2.2.1), (.int .i64 u77.1.2.2.2), (.int .i64 u77.2.1), v82, v84]) (v := (.agg #[v78, v80, (.int .i64 u77.1.2.2.1), (.int .i64 u77.1.2.2.2), (.int .i64 u77.2.1), v82, v84])) tf_44 rfl rfl hS148 rfl rfl rfl (by simp) ?_
          refine WH.takex (i := 1) rfl (by kernel_rfl) (by kernel_rfl) (by kernel_rfl) hP hSW149 ?_
          refine pr_load_blk (i := 0) (vs := [v0_0, v0_1, (.int .i64 x0.1.2.2.1), (.int .i64 x0.1.2.2.2), (.int .i64 x0.2.1), v0_2, v0_3]) (v := (.agg #[v0_0, v0_1, (.int .i64 x0.1.2.2.1), (.int .i64 x0.1.2.2.2), (.int .i64 x0.2.1), v0_2, v0_3])) tf_38 rfl rfl hS148 rfl rfl rfl (by simp) ?_
          refine WH.one (i := 2) (by kernel_rfl) rfl ?_
          obtain ⟨u150, hu150, hF⟩ := bindE hF
          refine wl_call rfl Try.call17 (C_laws_toMarch w145 x0 v0_0 (h0_0.ro hB147) v0_1 (h0_1.ro hB147) v0_2 (h0_2.ro hB147) v0_3 (h0_3.ro hB147) _ hu150) rfl ?_
          rintro _ w159 ⟨v151, F152, v153, F154, v155, F156, v157, F158, rfl, hb160, hM163⟩
          refine ⟨_, rfl, ?_⟩
          have hB161 := hB147.trans (hb160.mono hB147.size)
          have hS162 := hS148.join hb160 hM163 hB147.size
          have hSW164 := hSW149.ext hb160
          refine WL.nil (WH.ret hSW164 ?_)
          refine WH.one (i := 3) (by kernel_rfl) rfl ?_
          obtain ⟨u165, hu165, hF⟩ := bindE hF
          refine wl_call rfl Try.call19 (C_laws_eqMarch w159 u77 v78 (hS162.own_ro (i := 10) rfl) v80 (hS162.own_ro (i := 11) rfl) v82 (hS162.own_ro (i := 12) rfl) v84 (hS162.own_ro (i := 13) rfl) u150 v151 (hS162.own_ro (i := 0) rfl) v153 (hS162.own_ro (i := 1) rfl) v155 (hS162.own_ro (i := 2) rfl) v157 (hS162.own_ro (i := 3) rfl) _ hu165) rfl ?_
          rintro _ w166 ⟨rfl, hb167⟩
          refine ⟨_, rfl, ?_⟩
          have hB168 := hB161.trans (hb167.mono hB161.size)
          have hS169 := hS162.below hb167
          have hSW171 := hSW164.ext hb167
          refine WL.nil (WH.ret hSW171 ?_)
          refine WH.takex (i := 4) rfl (by kernel_rfl) (by kernel_rfl) (by kernel_rfl) hP hSW171 ?_
          refine pr_not rfl rfl ?_
          refine WH.done (by kernel_rfl) ?_
          refine fun a ha => hK144 _ _ ?_ a ha
          refine W.cond rfl (fun h172 => ?_) (fun h172 => ?_)
          · replace hF := ifP h172 hF
            refine W.seq fun K173 hK173 => ?_
            refine W.region ?_
            refine wl_assign rfl rfl ?_
            refine WL.nil ?_
            refine fun a ha => hK173 _ _ ?_ a ha
            refine W.ret ?_
            have hr := Option.some.inj hF
            subst hr
            exact rets (vs := [(.bool false)]) hQ rfl ⟨rv_tmp rfl, trivial⟩ ⟨rfl, hB168⟩
          · replace hF := ifN h172 hF
            refine W.skip ?_
            refine fun a ha => hK143 _ _ ?_ a ha
            refine W.seq fun K174 hK174 => ?_
            refine W.seq fun K175 hK175 => ?_
            refine W.region ?_
            refine wl_move rfl rfl ?_
            refine wl_move rfl rfl ?_
            obtain ⟨u176, hu176, hF⟩ := bindE hF
            refine wl_call rfl Try.call24 (C_laws_toBeatS w166 x1 v1_0 (h1_0.ro hB168) _ hu176) rfl ?_
            rintro _ w179 ⟨v177, F178, rfl, hb180, hM183⟩
            refine ⟨_, rfl, ?_⟩
            have hB181 := hB168.trans (hb180.mono hB168.size)
            have hS182 := hS169.join hb180 hM183 hB168.size
            obtain ⟨u184, hu184, hF⟩ := bindE hF
            refine wl_call rfl Try.call26 (C_laws_eqBeatS w179 u101 v102 (hS182.own_ro (i := 16) rfl) u176 v177 (hS182.own_ro (i := 0) rfl) _ hu184) rfl ?_
            rintro _ w185 ⟨rfl, hb186⟩
            refine ⟨_, rfl, ?_⟩
            have hB187 := hB181.trans (hb186.mono hB181.size)
            have hS188 := hS182.below hb186
            refine wl_not rfl rfl ?_
            refine WL.nil ?_
            refine fun a ha => hK175 _ _ ?_ a ha
            refine W.cond rfl (fun h190 => ?_) (fun h190 => ?_)
            · replace hF := ifP h190 hF
              refine W.seq fun K191 hK191 => ?_
              refine W.region ?_
              refine wl_assign rfl rfl ?_
              refine WL.nil ?_
              refine fun a ha => hK191 _ _ ?_ a ha
              refine W.ret ?_
              have hr := Option.some.inj hF
              subst hr
              exact rets (vs := [(.bool false)]) hQ rfl ⟨rv_tmp rfl, trivial⟩ ⟨rfl, hB187⟩
            · replace hF := ifN h190 hF
              refine W.skip ?_
              refine fun a ha => hK174 _ _ ?_ a ha
              refine W.seq fun K192 hK192 => ?_
              refine W.region ?_
              refine wl_assign rfl rfl ?_
              refine WL.nil ?_
              refine fun a ha => hK192 _ _ ?_ a ha
              refine W.seq fun K193 hK193 => ?_
              refine W.region ?_
              refine wl_load_blk (i := 15) (vs := [v78, v80, (.int .i64 u77.1.2.2.1), (.int .i64 u77.1.2.2.2), (.int .i64 u77.2.1), v82, v84]) (v := (.agg #[v78, v80, (.int .i64 u77.1.2.2.1), (.int .i64 u77.1.2.2.2), (.int .i64 u77.2.1), v82, v84])) tf_44 rfl rfl hS188 rfl rfl rfl ?_
              refine wl_move rfl rfl ?_
              obtain ⟨u194, hu194, hF⟩ := bindE hF
              refine wl_call rfl Try.call20 (C_laws_markMarch w185 u77 v78 F79 v80 F81 v82 F83 v84 F85 1 (hS188.sel [11, 12, 13, 14] rfl).base0 _ hu194) rfl ?_
              rintro _ w195 ⟨rfl, hE196, hM197⟩
              refine ⟨_, rfl, ?_⟩
              have hB198 := hS188.mutB [11, 12, 13, 14] rfl (M := [R.own ty_82 F79 v78 u77.1.1, R.own ty_3 F81 v80 u77.1.2.1, R.own ty_3 F83 v82 u77.2.2.1, R.own ty_3 F85 v84 u77.2.2.2]) rfl (M' := [R.own ty_82 F79 v78 u194.2.1.1, R.own ty_3 F81 v80 u194.2.1.2.1, R.own ty_3 F83 v82 u194.2.2.2.1, R.own ty_3 F85 v84 u194.2.2.2.2]) rfl hB187 hB187.size hE196 hM197
              have hS199 : Sep w0.heap.size w195 [R.own ty_82 F79 v78 u194.2.1.1, R.own ty_3 F81 v80 u194.2.1.2.1, R.own ty_3 F83 v82 u194.2.2.2.1, R.own ty_3 F85 v84 u194.2.2.2.2, R.own ty_71 F178 v177 u176, R.own ty_82 F152 v151 u150.1.1, R.own ty_3 F154 v153 u150.1.2.1, R.own ty_3 F156 v155 u150.2.2.1, R.own ty_3 F158 v157 u150.2.2.2, R.blk b2 38 [v0_0, v0_1, (.int .i64 x0.1.2.2.1), (.int .i64 x0.1.2.2.2), (.int .i64 x0.2.1), v0_2, v0_3], R.own ty_82 F55 v54 u53.1.1.1, R.own ty_3 F57 v56 u53.1.1.2.1, R.own ty_3 F59 v58 u53.1.2.2.1, R.own ty_3 F61 v60 u53.1.2.2.2, R.blk b67 44 [v54, v56, (.int .i64 u53.1.1.2.2.1), (.int .i64 u53.1.1.2.2.2), (.int .i64 u53.1.2.1), v58, v60], R.blk b91 44 [v78, v80, (.int .i64 u77.1.2.2.1), (.int .i64 u77.1.2.2.2), (.int .i64 u77.2.1), v82, v84], R.own ty_71 F103 v102 u101, R.own ty_82 F112 v111 u110.1.1.1, R.own ty_3 F114 v113 u110.1.1.2.1, R.own ty_3 F116 v115 u110.1.2.2.1, R.own ty_3 F118 v117 u110.1.2.2.2, R.blk b124 44 [v111, v113, (.int .i64 u110.1.1.2.2.1), (.int .i64 u110.1.1.2.2.2), (.int .i64 u110.1.2.1), v115, v117]] := hS188.mut [11, 12, 13, 14] [0, 1, 2, 3, 4, 5, 6, 7, 8, 9, 10, 15, 16, 17, 18, 19, 20, 21] rfl (M := [R.own ty_82 F79 v78 u77.1.1, R.own ty_3 F81 v80 u77.1.2.1, R.own ty_3 F83 v82 u77.2.2.1, R.own ty_3 F85 v84 u77.2.2.2]) rfl (M' := [R.own ty_82 F79 v78 u194.2.1.1, R.own ty_3 F81 v80 u194.2.1.2.1, R.own ty_3 F83 v82 u194.2.2.2.1, R.own ty_3 F85 v84 u194.2.2.2.2]) rfl hM197
              refine wl_assign rfl rfl ?_
              refine WL.nil ?_
              refine fun a ha => hK193 _ _ ?_ a ha
              refine W.seq fun K200 hK200 => ?_
              refine W.region ?_
              refine wl_move rfl rfl ?_
              refine wl_move rfl rfl ?_
              obtain ⟨u201, hu201, hF⟩ := bindE hF
              refine wl_call rfl Try.call27 (C_laws_markBeatS w195 u101 v102 F103 u194.1 (hS199.sel [16] rfl).base0 _ hu201) rfl ?_
              rintro _ w202 ⟨rfl, hE203, hM204⟩
              refine ⟨_, rfl, ?_⟩
              have hB205 := hS199.mutB [16] rfl (M := [R.own ty_71 F103 v102 u101]) rfl (M' := [R.own ty_71 F103 v102 u201.2]) rfl hB198 hB198.size hE203 hM204
              have hS206 : Sep w0.heap.size w202 [R.own ty_71 F103 v102 u201.2, R.own ty_82 F79 v78 u194.2.1.1, R.own ty_3 F81 v80 u194.2.1.2.1, R.own ty_3 F83 v82 u194.2.2.2.1, R.own ty_3 F85 v84 u194.2.2.2.2, R.own ty_71 F178 v177 u176, R.own ty_82 F152 v151 u150.1.1, R.own ty_3 F154 v153 u150.1.2.1, R.own ty_3 F156 v155 u150.2.2.1, R.own ty_3 F158 v157 u150.2.2.2, R.blk b2 38 [v0_0, v0_1, (.int .i64 x0.1.2.2.1), (.int .i64 x0.1.2.2.2), (.int .i64 x0.2.1), v0_2, v0_3], R.own ty_82 F55 v54 u53.1.1.1, R.own ty_3 F57 v56 u53.1.1.2.1, R.own ty_3 F59 v58 u53.1.2.2.1, R.own ty_3 F61 v60 u53.1.2.2.2, R.blk b67 44 [v54, v56, (.int .i64 u53.1.1.2.2.1), (.int .i64 u53.1.1.2.2.2), (.int .i64 u53.1.2.1), v58, v60], R.blk b91 44 [v78, v80, (.int .i64 u77.1.2.2.1), (.int .i64 u77.1.2.2.2), (.int .i64 u77.2.1), v82, v84], R.own ty_82 F112 v111 u110.1.1.1, R.own ty_3 F114 v113 u110.1.1.2.1, R.own ty_3 F116 v115 u110.1.2.2.1, R.own ty_3 F118 v117 u110.1.2.2.2, R.blk b124 44 [v111, v113, (.int .i64 u110.1.1.2.2.1), (.int .i64 u110.1.1.2.2.2), (.int .i64 u110.1.2.1), v115, v117]] := hS199.mut [16] [0, 1, 2, 3, 4, 5, 6, 7, 8, 9, 10, 11, 12, 13, 14, 15, 17, 18, 19, 20, 21] rfl (M := [R.own ty_71 F103 v102 u101]) rfl (M' := [R.own ty_71 F103 v102 u201.2]) rfl hM204
              refine wl_assign rfl rfl ?_
              refine WL.nil ?_
              refine fun a ha => hK200 _ _ ?_ a ha
              refine W.seq fun K207 hK207 => ?_
              refine W.seq fun K208 hK208 => ?_
              obtain ⟨k213, hk213, hF⟩ := jE1 hF
              have hJ214 : ∀ (y212 : Bool) (w209 : World) (_ : k213 y212 = some r) (_ : Below w0.heap.size w0 w209) (_ : Sep w0.heap.size w209 [R.blk b2 38 [v0_0, v0_1, (.int .i64 x0.1.2.2.1), (.int .i64 x0.1.2.2.2), (.int .i64 x0.2.1), v0_2, v0_3], R.own ty_82 F55 v54 u53.1.1.1, R.own ty_3 F57 v56 u53.1.1.2.1, R.own ty_3 F59 v58 u53.1.2.2.1, R.own ty_3 F61 v60 u53.1.2.2.2, R.blk b67 44 [v54, v56, (.int .i64 u53.1.1.2.2.1), (.int .i64 u53.1.1.2.2.2), (.int .i64 u53.1.2.1), v58, v60], R.own ty_82 F112 v111 u110.1.1.1, R.own ty_3 F114 v113 u110.1.1.2.1, R.own ty_3 F116 v115 u110.1.2.2.1, R.own ty_3 F118 v117 u110.1.2.2.2, R.blk b124 44 [v111, v113, (.int .i64 u110.1.1.2.2.1), (.int .i64 u110.1.1.2.2.2), (.int .i64 u110.1.2.1), v115, v117]]), ∀ a, St 140 [(1, v1_0), (2, (.pointer (some ⟨b2, 0, none⟩))), (6, (.pointer (some ⟨b67, 0, none⟩))), (7, (.int .i64 u53.2.1)), (8, (.bool u53.2.2)), (11, (.pointer (some ⟨b124, 0, none⟩))), (97, (.bool y212))] a → K208 a w209 := by
                intro y212 w209 hF hB210 hS211
                subst hk213
                refine fun a ha => hK208 _ _ ?_ a ha
                refine W.cond rfl (fun h215 => ?_) (fun h215 => ?_)
                · replace hF := ifP h215 hF
                  refine W.seq fun K216 hK216 => ?_
                  refine W.region ?_
                  refine wl_assign rfl rfl ?_
                  refine WL.nil ?_
                  refine fun a ha => hK216 _ _ ?_ a ha
                  refine W.ret ?_
                  have hr := Option.some.inj hF
                  subst hr
                  exact rets (vs := [(.bool false)]) hQ rfl ⟨rv_tmp rfl, trivial⟩ ⟨rfl, hB210⟩
                · replace hF := ifN h215 hF
                  refine W.skip ?_
                  refine fun a ha => hK207 _ _ ?_ a ha
                  refine W.seq fun K217 hK217 => ?_
                  refine W.region ?_
                  refine wl_assign rfl rfl ?_
                  refine WL.nil ?_
                  refine fun a ha => hK217 _ _ ?_ a ha
                  refine W.seq fun K218 hK218 => ?_
                  refine W.region ?_
                  refine wl_load_blk (i := 10) (vs := [v111, v113, (.int .i64 u110.1.1.2.2.1), (.int .i64 u110.1.1.2.2.2), (.int .i64 u110.1.2.1), v115, v117]) (v := (.agg #[v111, v113, (.int .i64 u110.1.1.2.2.1), (.int .i64 u110.1.1.2.2.2), (.int .i64 u110.1.2.1), v115, v117])) tf_44 rfl rfl hS211 rfl rfl rfl ?_
                  refine wl_move rfl rfl ?_
                  obtain ⟨u219, hu219, hF⟩ := bindE hF
                  refine wl_call rfl Try.call20 (C_laws_markMarch w209 u110.1 v111 F112 v113 F114 v115 F116 v117 F118 1 (hS211.sel [6, 7, 8, 9] rfl).base0 _ hu219) rfl ?_
                  rintro _ w220 ⟨rfl, hE221, hM222⟩
                  refine ⟨_, rfl, ?_⟩
                  have hB223 := hS211.mutB [6, 7, 8, 9] rfl (M := [R.own ty_82 F112 v111 u110.1.1.1, R.own ty_3 F114 v113 u110.1.1.2.1, R.own ty_3 F116 v115 u110.1.2.2.1, R.own ty_3 F118 v117 u110.1.2.2.2]) rfl (M' := [R.own ty_82 F112 v111 u219.2.1.1, R.own ty_3 F114 v113 u219.2.1.2.1, R.own ty_3 F116 v115 u219.2.2.2.1, R.own ty_3 F118 v117 u219.2.2.2.2]) rfl hB210 hB210.size hE221 hM222
                  have hS224 : Sep w0.heap.size w220 [R.own ty_82 F112 v111 u219.2.1.1, R.own ty_3 F114 v113 u219.2.1.2.1, R.own ty_3 F116 v115 u219.2.2.2.1, R.own ty_3 F118 v117 u219.2.2.2.2, R.blk b2 38 [v0_0, v0_1, (.int .i64 x0.1.2.2.1), (.int .i64 x0.1.2.2.2), (.int .i64 x0.2.1), v0_2, v0_3], R.own ty_82 F55 v54 u53.1.1.1, R.own ty_3 F57 v56 u53.1.1.2.1, R.own ty_3 F59 v58 u53.1.2.2.1, R.own ty_3 F61 v60 u53.1.2.2.2, R.blk b67 44 [v54, v56, (.int .i64 u53.1.1.2.2.1), (.int .i64 u53.1.1.2.2.2), (.int .i64 u53.1.2.1), v58, v60], R.blk b124 44 [v111, v113, (.int .i64 u110.1.1.2.2.1), (.int .i64 u110.1.1.2.2.2), (.int .i64 u110.1.2.1), v115, v117]] := hS211.mut [6, 7, 8, 9] [0, 1, 2, 3, 4, 5, 10] rfl (M := [R.own ty_82 F112 v111 u110.1.1.1, R.own ty_3 F114 v113 u110.1.1.2.1, R.own ty_3 F116 v115 u110.1.2.2.1, R.own ty_3 F118 v117 u110.1.2.2.2]) rfl (M' := [R.own ty_82 F112 v111 u219.2.1.1, R.own ty_3 F114 v113 u219.2.1.2.1, R.own ty_3 F116 v115 u219.2.2.2.1, R.own ty_3 F118 v117 u219.2.2.2.2]) rfl hM222
                  refine wl_assign rfl rfl ?_
                  refine WL.nil ?_
                  refine fun a ha => hK218 _ _ ?_ a ha
                  refine W.seq fun K225 hK225 => ?_
                  refine W.region ?_
                  refine wl_assign rfl rfl ?_
                  refine WL.nil ?_
                  refine fun a ha => hK225 _ _ ?_ a ha
                  refine W.seq fun K226 hK226 => ?_
                  refine W.region ?_
                  refine wl_load_blk (i := 10) (vs := [v111, v113, (.int .i64 u110.1.1.2.2.1), (.int .i64 u110.1.1.2.2.2), (.int .i64 u110.1.2.1), v115, v117]) (v := (.agg #[v111, v113, (.int .i64 u110.1.1.2.2.1), (.int .i64 u110.1.1.2.2.2), (.int .i64 u110.1.2.1), v115, v117])) tf_44 rfl rfl hS224 rfl rfl rfl ?_
                  refine wl_move rfl rfl ?_
                  obtain ⟨u227, hu227, hF⟩ := bindE hF
                  refine wl_call rfl Try.call21 (C_laws_heldMarch w220 ((u219.2.1.1, u219.2.1.2.1, u110.1.1.2.2.1, u110.1.1.2.2.2), u110.1.2.1, u219.2.2.2.1, u219.2.2.2.2) v111 (hS224.own_ro (i := 0) rfl) v113 (hS224.own_ro (i := 1) rfl) v115 (hS224.own_ro (i := 2) rfl) v117 (hS224.own_ro (i := 3) rfl) 1 _ hu227) rfl ?_
                  rintro _ w228 ⟨rfl, hb229⟩
                  refine ⟨_, rfl, ?_⟩
                  have hB230 := hB223.trans (hb229.mono hB223.size)
                  have hS231 := hS224.below hb229
                  refine wl_assign rfl rfl ?_
                  refine WL.nil ?_
                  refine fun a ha => hK226 _ _ ?_ a ha
                  refine W.seq fun K233 hK233 => ?_
                  refine W.seq fun K234 hK234 => ?_
                  refine W.region ?_
                  refine wl_move rfl rfl ?_
                  refine wl_lss rfl rfl rfl ?_
                  refine WL.nil ?_
                  refine fun a ha => hK234 _ _ ?_ a ha
                  refine W.cond rfl (fun h235 => ?_) (fun h235 => ?_)
                  · replace hF := ifP h235 hF
                    refine W.seq fun K236 hK236 => ?_
                    refine W.region ?_
                    refine wl_assign rfl rfl ?_
                    refine WL.nil ?_
                    refine fun a ha => hK236 _ _ ?_ a ha
                    refine W.ret ?_
                    have hr := Option.some.inj hF
                    subst hr
                    exact rets (vs := [(.bool false)]) hQ rfl ⟨rv_tmp rfl, trivial⟩ ⟨rfl, hB230⟩
                  · replace hF := ifN h235 hF
                    refine W.skip ?_
                    refine fun a ha => hK233 _ _ ?_ a ha
                    refine W.seq fun K237 hK237 => ?_
                    refine W.seq fun K238 hK238 => ?_
                    refine W.region ?_
                    refine wl_move rfl rfl ?_
                    refine wl_move rfl rfl ?_
                    refine wl_neq rfl rfl rfl ?_
                    refine WL.nil ?_
                    refine fun a ha => hK238 _ _ ?_ a ha
                    refine W.cond rfl (fun h239 => ?_) (fun h239 => ?_)
                    · replace hF := ifP h239 hF
                      refine W.seq fun K240 hK240 => ?_
                      refine W.region ?_
                      refine wl_assign rfl rfl ?_
                      refine WL.nil ?_
                      refine fun a ha => hK240 _ _ ?_ a ha
                      refine W.ret ?_
                      have hr := Option.some.inj hF
                      subst hr
                      exact rets (vs := [(.bool false)]) hQ rfl ⟨rv_tmp rfl, trivial⟩ ⟨rfl, hB230⟩
                    · replace hF := ifN h239 hF
                      refine W.skip ?_
                      refine fun a ha => hK237 _ _ ?_ a ha
                      refine W.seq fun K241 hK241 => ?_
                      refine W.region ?_
                      refine wl_load_blk (i := 4) (vs := [v0_0, v0_1, (.int .i64 x0.1.2.2.1), (.int .i64 x0.1.2.2.2), (.int .i64 x0.2.1), v0_2, v0_3]) (v := (.agg #[v0_0, v0_1, (.int .i64 x0.1.2.2.1), (.int .i64 x0.1.2.2.2), (.int .i64 x0.2.1), v0_2, v0_3])) tf_38 rfl rfl hS231 rfl rfl rfl ?_
                      obtain ⟨u242, hu242, hF⟩ := bindE hF
                      refine wl_call rfl Try.call17 (C_laws_toMarch w228 x0 v0_0 (h0_0.ro hB230) v0_1 (h0_1.ro hB230) v0_2 (h0_2.ro hB230) v0_3 (h0_3.ro hB230) _ hu242) rfl ?_
                      rintro _ w251 ⟨v243, F244, v245, F246, v247, F248, v249, F250, rfl, hb252, hM255⟩
                      refine ⟨_, rfl, ?_⟩
                      have hB253 := hB230.trans (hb252.mono hB230.size)
                      have hS254 := hS231.join hb252 hM255 hB230.size
                      refine wl_move rfl rfl ?_
                      obtain ⟨u256, hu256, hF⟩ := bindE hF
                      refine wl_call rfl Try.call24 (C_laws_toBeatS w251 x1 v1_0 (h1_0.ro hB253) _ hu256) rfl ?_
                      rintro _ w259 ⟨v257, F258, rfl, hb260, hM263⟩
                      refine ⟨_, rfl, ?_⟩
                      have hB261 := hB253.trans (hb260.mono hB253.size)
                      have hS262 := hS254.join hb260 hM263 hB253.size
                      obtain ⟨u264, hu264, hF⟩ := bindE hF
                      refine wl_call rfl Try.call25 (C_impl_RunBeats w259 u242 v243 (hS262.own_ro (i := 1) rfl) v245 (hS262.own_ro (i := 2) rfl) v247 (hS262.own_ro (i := 3) rfl) v249 (hS262.own_ro (i := 4) rfl) u256 v257 (hS262.own_ro (i := 0) rfl) _ hu264) rfl ?_
                      rintro _ w273 ⟨v265, F266, v267, F268, v269, F270, v271, F272, rfl, hb274, hM277⟩
                      refine ⟨_, rfl, ?_⟩
                      have hB275 := hB261.trans (hb274.mono hB261.size)
                      have hS276 := hS262.join hb274 hM277 hB261.size
                      refine wl_move rfl rfl ?_
                      refine wl_extract rfl rfl rfl ?_
                      refine wl_extract rfl rfl rfl ?_
                      refine wl_extract rfl rfl rfl ?_
                      refine wl_alloc (cs := [(.slice none 0 0), (.slice none 0 0), (.int .i64 0), (.int .i64 0), (.int .i64 0), (.slice none 0 0), (.slice none 0 0)]) tf_44 rfl rfl hB275 hS276 ?_
                      intro b278 w279 hb280 hB281 hS282
                      refine wl_store_blk (i := 0) (vs := [v265, v267, (.int .i64 u264.1.1.2.2.1), (.int .i64 u264.1.1.2.2.2), (.int .i64 u264.1.2.1), v269, v271]) (cs' := [v265, v267, (.int .i64 u264.1.1.2.2.1), (.int .i64 u264.1.1.2.2.2), (.int .i64 u264.1.2.1), v269, v271]) tf_44 rfl rfl rfl rfl hB281 hS282 rfl rfl ⟨(hS282.own_ro (i := 1) rfl).one, (hS282.own_ro (i := 2) rfl).one, rfl, rfl, rfl, (hS282.own_ro (i := 3) rfl).one, (hS282.own_ro (i := 4) rfl).one, trivial⟩ rfl ?_
                      intro w283 hk286 hB284 hS285
                      refine wl_assign rfl rfl ?_
                      refine wl_assign rfl rfl ?_
                      refine WL.nil ?_
                      refine fun a ha => hK241 _ _ ?_ a ha
                      refine W.seq fun K287 hK287 => ?_
                      refine W.seq fun K288 hK288 => ?_
                      obtain ⟨k293, hk293, hF⟩ := jE1 hF
                      have hJ294 : ∀ (y292 : Bool) (w289 : World) (_ : k293 y292 = some r) (_ : Below w0.heap.size w0 w289) (_ : Sep w0.heap.size w289 [R.own ty_82 F112 v111 u219.2.1.1, R.own ty_3 F114 v113 u219.2.1.2.1, R.own ty_3 F116 v115 u219.2.2.2.1, R.own ty_3 F118 v117 u219.2.2.2.2, R.blk b124 44 [v111, v113, (.int .i64 u110.1.1.2.2.1), (.int .i64 u110.1.1.2.2.2), (.int .i64 u110.1.2.1), v115, v117]]), ∀ a, St 140 [(11, (.pointer (some ⟨b124, 0, none⟩))), (15, (.int .i64 u219.1)), (131, (.bool y292))] a → K288 a w289 := by
                        intro y292 w289 hF hB290 hS291
                        subst hk293
                        refine fun a ha => hK288 _ _ ?_ a ha
                        refine W.cond rfl (fun h295 => ?_) (fun h295 => ?_)
                        · replace hF := ifP h295 hF
                          refine W.seq fun K296 hK296 => ?_
                          refine W.region ?_
                          refine wl_assign rfl rfl ?_
                          refine WL.nil ?_
                          refine fun a ha => hK296 _ _ ?_ a ha
                          refine W.ret ?_
                          have hr := Option.some.inj hF
                          subst hr
                          exact rets (vs := [(.bool false)]) hQ rfl ⟨rv_tmp rfl, trivial⟩ ⟨rfl, hB290⟩
                        · replace hF := ifN h295 hF
                          refine W.skip ?_
                          refine fun a ha => hK287 _ _ ?_ a ha
                          refine W.seq fun K297 hK297 => ?_
                          refine W.region ?_
                          refine wl_assign rfl rfl ?_
                          refine WL.nil ?_
                          refine fun a ha => hK297 _ _ ?_ a ha
                          refine W.seq fun K298 hK298 => ?_
                          refine W.region ?_
                          refine wl_load_blk (i := 4) (vs := [v111, v113, (.int .i64 u110.1.1.2.2.1), (.int .i64 u110.1.1.2.2.2), (.int .i64 u110.1.2.1), v115, v117]) (v := (.agg #[v111, v113, (.int .i64 u110.1.1.2.2.1), (.int .i64 u110.1.1.2.2.2), (.int .i64 u110.1.2.1), v115, v117])) tf_44 rfl rfl hS291 rfl rfl rfl ?_
                          refine wl_move rfl rfl ?_
                          obtain ⟨u299, hu299, hF⟩ := bindE hF
                          refine wl_call rfl Try.call21 (C_laws_heldMarch w289 ((u219.2.1.1, u219.2.1.2.1, u110.1.1.2.2.1, u110.1.1.2.2.2), u110.1.2.1, u219.2.2.2.1, u219.2.2.2.2) v111 (hS291.own_ro (i := 0) rfl) v113 (hS291.own_ro (i := 1) rfl) v115 (hS291.own_ro (i := 2) rfl) v117 (hS291.own_ro (i := 3) rfl) 1 _ hu299) rfl ?_
                          rintro _ w300 ⟨rfl, hb301⟩
                          refine ⟨_, rfl, ?_⟩
                          have hB302 := hB290.trans (hb301.mono hB290.size)
                          have hS303 := hS291.below hb301
                          refine wl_assign rfl rfl ?_
                          refine WL.nil ?_
                          refine fun a ha => hK298 _ _ ?_ a ha
                          refine W.seq fun K305 hK305 => ?_
                          refine W.seq fun K306 hK306 => ?_
                          refine W.region ?_
                          refine wl_move rfl rfl ?_
                          refine wl_lss rfl rfl rfl ?_
                          refine WL.nil ?_
                          refine fun a ha => hK306 _ _ ?_ a ha
                          refine W.cond rfl (fun h307 => ?_) (fun h307 => ?_)
                          · replace hF := ifP h307 hF
                            refine W.seq fun K308 hK308 => ?_
                            refine W.region ?_
                            refine wl_assign rfl rfl ?_
                            refine WL.nil ?_
                            refine fun a ha => hK308 _ _ ?_ a ha
                            refine W.ret ?_
                            have hr := Option.some.inj hF
                            subst hr
                            exact rets (vs := [(.bool false)]) hQ rfl ⟨rv_tmp rfl, trivial⟩ ⟨rfl, hB302⟩
                          · replace hF := ifN h307 hF
                            refine W.skip ?_
                            refine fun a ha => hK305 _ _ ?_ a ha
                            refine W.seq fun K309 hK309 => ?_
                            refine W.seq fun K310 hK310 => ?_
                            refine W.region ?_
                            refine wl_move rfl rfl ?_
                            refine wl_move rfl rfl ?_
                            refine wl_neq rfl rfl rfl ?_
                            refine WL.nil ?_
                            refine fun a ha => hK310 _ _ ?_ a ha
                            refine W.cond rfl (fun h311 => ?_) (fun h311 => ?_)
                            · replace hF := ifP h311 hF
                              refine W.seq fun K312 hK312 => ?_
                              refine W.region ?_
                              refine wl_assign rfl rfl ?_
                              refine WL.nil ?_
                              refine fun a ha => hK312 _ _ ?_ a ha
                              refine W.ret ?_
                              have hr := Option.some.inj hF
                              subst hr
                              exact rets (vs := [(.bool false)]) hQ rfl ⟨rv_tmp rfl, trivial⟩ ⟨rfl, hB302⟩
                            · replace hF := ifN h311 hF
                              refine W.skip ?_
                              refine fun a ha => hK309 _ _ ?_ a ha
                              refine W.seq fun K313 hK313 => ?_
                              refine W.region ?_
                              refine wl_assign rfl rfl ?_
                              refine WL.nil ?_
                              refine fun a ha => hK313 _ _ ?_ a ha
                              refine W.ret ?_
                              have hr := Option.some.inj hF
                              subst hr
                              exact rets (vs := [(.bool true)]) hQ rfl ⟨rv_tmp rfl, trivial⟩ ⟨rfl, hB302⟩
                      refine W.region ?_
                      refine wl_load_blk (i := 0) (vs := [v265, v267, (.int .i64 u264.1.1.2.2.1), (.int .i64 u264.1.1.2.2.2), (.int .i64 u264.1.2.1), v269, v271]) (v := (.agg #[v265, v267, (.int .i64 u264.1.1.2.2.1), (.int .i64 u264.1.1.2.2.2), (.int .i64 u264.1.2.1), v269, v271])) tf_44 rfl rfl hS285 rfl rfl rfl ?_
                      refine wl_load_blk (i := 19) (vs := [v54, v56, (.int .i64 u53.1.1.2.2.1), (.int .i64 u53.1.1.2.2.2), (.int .i64 u53.1.2.1), v58, v60]) (v := (.agg #[v54, v56, (.int .i64 u53.1.1.2.2.1), (.int .i64 u53.1.1.2.2.2), (.int .i64 u53.1.2.1), v58, v60])) tf_44 rfl rfl hS285 rfl rfl rfl ?_
                      obtain ⟨u314, hu314, hF⟩ := bindE hF
                      refine wl_call rfl Try.call19 (C_laws_eqMarch w283 u264.1 v265 (hS285.own_ro (i := 1) rfl) v267 (hS285.own_ro (i := 2) rfl) v269 (hS285.own_ro (i := 3) rfl) v271 (hS285.own_ro (i := 4) rfl) u53.1 v54 (hS285.own_ro (i := 15) rfl) v56 (hS285.own_ro (i := 16) rfl) v58 (hS285.own_ro (i := 17) rfl) v60 (hS285.own_ro (i := 18) rfl) _ hu314) rfl ?_
                      rintro _ w315 ⟨rfl, hb316⟩
                      refine ⟨_, rfl, ?_⟩
                      have hB317 := hB284.trans (hb316.mono hB284.size)
                      have hS318 := hS285.below hb316
                      refine wl_not rfl rfl ?_
                      refine wl_move rfl rfl ?_
                      rcases bE (!u314) with h320 | h320
                      · replace hF := ifP h320 hF
                        refine wl_off rfl rfl rfl h320 ?_
                        refine wl_off rfl rfl rfl h320 ?_
                        refine wl_off rfl rfl rfl h320 ?_
                        refine wl_pick_t rfl rfl h320 rfl ?_
                        refine wl_move rfl rfl ?_
                        refine wl_off rfl rfl rfl rfl ?_
                        refine wl_off rfl rfl rfl rfl ?_
                        refine wl_off rfl rfl rfl rfl ?_
                        refine wl_pick_t rfl rfl rfl rfl ?_
                        refine WL.nil ?_
                        exact fun a ha => hJ294 (true) _ hF hB317 (hS318.sel [10, 11, 12, 13, 20] rfl) a (ha.sub ⟨rfl, rfl, rfl, trivial⟩)
                      · replace hF := ifN h320 hF
                        refine wl_on rfl rfl h320 ?_
                        refine wl_move rfl rfl ?_
                        refine wl_on rfl rfl h320 ?_
                        refine wl_move rfl rfl ?_
                        refine wl_on rfl rfl h320 ?_
                        refine wl_neq rfl rfl rfl ?_
                        refine wl_pick_f rfl rfl h320 rfl ?_
                        refine wl_move rfl rfl ?_
                        rcases bE (u264.2.1 != u53.2.1) with h321 | h321
                        · replace hF := ifP h321 hF
                          refine wl_off rfl rfl rfl h321 ?_
                          refine wl_off rfl rfl rfl h321 ?_
                          refine wl_off rfl rfl rfl h321 ?_
                          refine wl_pick_t rfl rfl h321 rfl ?_
                          refine WL.nil ?_
                          exact fun a ha => hJ294 (true) _ hF hB317 (hS318.sel [10, 11, 12, 13, 20] rfl) a (ha.sub ⟨rfl, rfl, rfl, trivial⟩)
                        · replace hF := ifN h321 hF
                          refine wl_on rfl rfl h321 ?_
                          refine wl_move rfl rfl ?_
                          refine wl_on rfl rfl h321 ?_
                          refine wl_move rfl rfl ?_
                          refine wl_on rfl rfl h321 ?_
                          refine wl_neqb Try.underlying4 rfl rfl rfl ?_
                          refine wl_pick_f rfl rfl h321 rfl ?_
                          refine WL.nil ?_
                          exact fun a ha => hJ294 ((u264.2.2 != u53.2.2)) _ hF hB317 (hS318.sel [10, 11, 12, 13, 20] rfl) a (ha.sub ⟨rfl, rfl, rfl, trivial⟩)
              refine W.region ?_
              refine wl_move rfl rfl ?_
              refine wl_lss rfl rfl rfl ?_
              refine wl_move rfl rfl ?_
              rcases bE (decide (u201.1 < 0)) with h322 | h322
              · replace hF := ifP h322 hF
                refine wl_off rfl rfl rfl h322 ?_
                refine wl_off rfl rfl rfl h322 ?_
                refine wl_off rfl rfl rfl h322 ?_
                refine wl_off rfl rfl rfl h322 ?_
                refine wl_pick_t rfl rfl h322 rfl ?_
                refine wl_move rfl rfl ?_
                refine wl_off rfl rfl rfl rfl ?_
                refine wl_off rfl rfl rfl rfl ?_
                refine wl_off rfl rfl rfl rfl ?_
                refine wl_pick_t rfl rfl rfl rfl ?_
                refine wl_move rfl rfl ?_
                refine wl_off rfl rfl rfl rfl ?_
                refine wl_off rfl rfl rfl rfl ?_
                refine wl_off rfl rfl rfl rfl ?_
                refine wl_pick_t rfl rfl rfl rfl ?_
                refine WL.nil ?_
                exact fun a ha => hJ214 (true) _ hF hB205 (hS206.sel [10, 11, 12, 13, 14, 15, 17, 18, 19, 20, 21] rfl) a (ha.sub ⟨rfl, rfl, rfl, rfl, rfl, rfl, rfl, trivial⟩)
              · replace hF := ifN h322 hF
                refine wl_on rfl rfl h322 ?_
                refine wl_load_blk (i := 21) (vs := [v111, v113, (.int .i64 u110.1.1.2.2.1), (.int .i64 u110.1.1.2.2.2), (.int .i64 u110.1.2.1), v115, v117]) (v := (.agg #[v111, v113, (.int .i64 u110.1.1.2.2.1), (.int .i64 u110.1.1.2.2.2), (.int .i64 u110.1.2.1), v115, v117])) tf_44 rfl rfl hS206 rfl rfl rfl ?_
                refine wl_on rfl rfl h322 ?_
                refine wl_load_blk (i := 15) (vs := [v54, v56, (.int .i64 u53.1.1.2.2.1), (.int .i64 u53.1.1.2.2.2), (.int .i64 u53.1.2.1), v58, v60]) (v := (.agg #[v54, v56, (.int .i64 u53.1.1.2.2.1), (.int .i64 u53.1.1.2.2.2), (.int .i64 u53.1.2.1), v58, v60])) tf_44 rfl rfl hS206 rfl rfl rfl ?_
                refine wl_on rfl rfl h322 ?_
                obtain ⟨u323, hu323, hF⟩ := bindE hF
                refine wl_call rfl Try.call19 (C_laws_eqMarch w202 u110.1 v111 (hS206.own_ro (i := 17) rfl) v113 (hS206.own_ro (i := 18) rfl) v115 (hS206.own_ro (i := 19) rfl) v117 (hS206.own_ro (i := 20) rfl) u53.1 v54 (hS206.own_ro (i := 11) rfl) v56 (hS206.own_ro (i := 12) rfl) v58 (hS206.own_ro (i := 13) rfl) v60 (hS206.own_ro (i := 14) rfl) _ hu323) rfl ?_
                rintro _ w324 ⟨rfl, hb325⟩
                refine ⟨_, rfl, ?_⟩
                have hB326 := hB205.trans (hb325.mono hB205.size)
                have hS327 := hS206.below hb325
                refine wl_on rfl rfl h322 ?_
                refine wl_not rfl rfl ?_
                refine wl_pick_f rfl rfl h322 rfl ?_
                refine wl_move rfl rfl ?_
                rcases bE (!u323) with h329 | h329
                · replace hF := ifP h329 hF
                  refine wl_off rfl rfl rfl h329 ?_
                  refine wl_off rfl rfl rfl h329 ?_
                  refine wl_off rfl rfl rfl h329 ?_
                  refine wl_pick_t rfl rfl h329 rfl ?_
                  refine wl_move rfl rfl ?_
                  refine wl_off rfl rfl rfl rfl ?_
                  refine wl_off rfl rfl rfl rfl ?_
                  refine wl_off rfl rfl rfl rfl ?_
                  refine wl_pick_t rfl rfl rfl rfl ?_
                  refine WL.nil ?_
                  exact fun a ha => hJ214 (true) _ hF hB326 (hS327.sel [10, 11, 12, 13, 14, 15, 17, 18, 19, 20, 21] rfl) a (ha.sub ⟨rfl, rfl, rfl, rfl, rfl, rfl, rfl, trivial⟩)
                · replace hF := ifN h329 hF
                  refine wl_on rfl rfl h329 ?_
                  refine wl_move rfl rfl ?_
                  refine wl_on rfl rfl h329 ?_
                  refine wl_move rfl rfl ?_
                  refine wl_on rfl rfl h329 ?_
                  refine wl_neq rfl rfl rfl ?_
                  refine wl_pick_f rfl rfl h329 rfl ?_
                  refine wl_move rfl rfl ?_
                  rcases bE (u110.2.1 != u53.2.1) with h330 | h330
                  · replace hF := ifP h330 hF
                    refine wl_off rfl rfl rfl h330 ?_
                    refine wl_off rfl rfl rfl h330 ?_
                    refine wl_off rfl rfl rfl h330 ?_
                    refine wl_pick_t rfl rfl h330 rfl ?_
                    refine WL.nil ?_
                    exact fun a ha => hJ214 (true) _ hF hB326 (hS327.sel [10, 11, 12, 13, 14, 15, 17, 18, 19, 20, 21] rfl) a (ha.sub ⟨rfl, rfl, rfl, rfl, rfl, rfl, rfl, trivial⟩)
                  · replace hF := ifN h330 hF
                    refine wl_on rfl rfl h330 ?_
                    refine wl_move rfl rfl ?_
                    refine wl_on rfl rfl h330 ?_
                    refine wl_move rfl rfl ?_
                    refine wl_on rfl rfl h330 ?_
                    refine wl_neqb Try.underlying4 rfl rfl rfl ?_
                    refine wl_pick_f rfl rfl h330 rfl ?_
                    refine WL.nil ?_
                    exact fun a ha => hJ214 ((u110.2.2 != u53.2.2)) _ hF hB326 (hS327.sel [10, 11, 12, 13, 14, 15, 17, 18, 19, 20, 21] rfl) a (ha.sub ⟨rfl, rfl, rfl, rfl, rfl, rfl, rfl, trivial⟩)
      refine W.region ?_
      refine wl_load_blk (i := 0) (vs := [v111, v113, (.int .i64 u110.1.1.2.2.1), (.int .i64 u110.1.1.2.2.2), (.int .i64 u110.1.2.1), v115, v117]) (v := (.agg #[v111, v113, (.int .i64 u110.1.1.2.2.1), (.int .i64 u110.1.1.2.2.2), (.int .i64 u110.1.2.1), v115, v117])) tf_44 rfl rfl hS131 rfl rfl rfl ?_
      refine wl_load_blk (i := 11) (vs := [v54, v56, (.int .i64 u53.1.1.2.2.1), (.int .i64 u53.1.1.2.2.2), (.int .i64 u53.1.2.1), v58, v60]) (v := (.agg #[v54, v56, (.int .i64 u53.1.1.2.2.1), (.int .i64 u53.1.1.2.2.2), (.int .i64 u53.1.2.1), v58, v60])) tf_44 rfl rfl hS131 rfl rfl rfl ?_
      obtain ⟨u331, hu331, hF⟩ := bindE hF
      refine wl_call rfl Try.call19 (C_laws_eqMarch w129 u110.1 v111 (hS131.own_ro (i := 1) rfl) v113 (hS131.own_ro (i := 2) rfl) v115 (hS131.own_ro (i := 3) rfl) v117 (hS131.own_ro (i := 4) rfl) u53.1 v54 (hS131.own_ro (i := 12) rfl) v56 (hS131.own_ro (i := 13) rfl) v58 (hS131.own_ro (i := 14) rfl) v60 (hS131.own_ro (i := 15) rfl) _ hu331) rfl ?_
      rintro _ w332 ⟨rfl, hb333⟩
      refine ⟨_, rfl, ?_⟩
      have hB334 := hB130.trans (hb333.mono hB130.size)
      have hS335 := hS131.below hb333
      refine wl_not rfl rfl ?_
      refine wl_move rfl rfl ?_
      rcases bE (!u331) with h337 | h337
      · replace hF := ifP h337 hF
        refine wl_off rfl rfl rfl h337 ?_
        refine wl_off rfl rfl rfl h337 ?_
        refine wl_off rfl rfl rfl h337 ?_
        refine wl_pick_t rfl rfl h337 rfl ?_
        refine wl_move rfl rfl ?_
        refine wl_off rfl rfl rfl rfl ?_
        refine wl_off rfl rfl rfl rfl ?_
        refine wl_off rfl rfl rfl rfl ?_
        refine wl_pick_t rfl rfl rfl rfl ?_
        refine WL.nil ?_
        exact fun a ha => hJ140 (true) _ hF hB334 (hS335.sel [21, 12, 13, 14, 15, 11, 7, 8, 9, 10, 6, 5, 1, 2, 3, 4, 0] rfl) a (ha.sub ⟨rfl, rfl, rfl, rfl, rfl, rfl, rfl, rfl, rfl, rfl, rfl, trivial⟩)
      · replace hF := ifN h337 hF
        refine wl_on rfl rfl h337 ?_
        refine wl_move rfl rfl ?_
        refine wl_on rfl rfl h337 ?_
        refine wl_move rfl rfl ?_
        refine wl_on rfl rfl h337 ?_
        refine wl_neq rfl rfl rfl ?_
        refine wl_pick_f rfl rfl h337 rfl ?_
        refine wl_move rfl rfl ?_
        rcases bE (u110.2.1 != u53.2.1) with h338 | h338
        · replace hF := ifP h338 hF
          refine wl_off rfl rfl rfl h338 ?_
          refine wl_off rfl rfl rfl h338 ?_
          refine wl_off rfl rfl rfl h338 ?_
          refine wl_pick_t rfl rfl h338 rfl ?_
          refine WL.nil ?_
          exact fun a ha => hJ140 (true) _ hF hB334 (hS335.sel [21, 12, 13, 14, 15, 11, 7, 8, 9, 10, 6, 5, 1, 2, 3, 4, 0] rfl) a (ha.sub ⟨rfl, rfl, rfl, rfl, rfl, rfl, rfl, rfl, rfl, rfl, rfl, trivial⟩)
        · replace hF := ifN h338 hF
          refine wl_on rfl rfl h338 ?_
          refine wl_move rfl rfl ?_
          refine wl_on rfl rfl h338 ?_
          refine wl_move rfl rfl ?_
          refine wl_on rfl rfl h338 ?_
          refine wl_neqb Try.underlying4 rfl rfl rfl ?_
          refine wl_pick_f rfl rfl h338 rfl ?_
          refine WL.nil ?_
          exact fun a ha => hJ140 ((u110.2.2 != u53.2.2)) _ hF hB334 (hS335.sel [21, 12, 13, 14, 15, 11, 7, 8, 9, 10, 6, 5, 1, 2, 3, 4, 0] rfl) a (ha.sub ⟨rfl, rfl, rfl, rfl, rfl, rfl, rfl, rfl, rfl, rfl, rfl, trivial⟩)
end Go.Proofs.Ytcndhhjolnebdaa
