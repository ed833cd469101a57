/-
  THE WALKS of functions of this seat, by program (gen.py, prune.py).
-/
import Derived.Test.YtmkignciedkidaaWXFnComparedd
set_option linter.unusedSimpArgs false
set_option linter.unusedVariables false
set_option maxRecDepth 100000
set_option maxHeartbeats 1600000
namespace Go.Proofs.Ytmkignciedkidaa
open Go Go.RowKit
theorem C_laws_FnCompared (w0 : World) (x0 : (List Int)) (v0_0 : Value) (h0_0 : rdS ty_5 (· < w0.heap.size) w0 v0_0 x0) (x1 : (List Int)) (v1_0 : Value) (h1_0 : rdS ty_5 (· < w0.heap.size) w0 v1_0 x1) (r : Bool) (hF : F_laws_FnCompared x0 x1 = some r) :
  Calls Try.prog 4 [v0_0, v1_0].toArray w0 fun e w' => e = .returned (.bool r) ∧ Below w0.heap.size w0 w' := by
 refine calls_mk' Try.func4 rfl Try.ntmps4 rfl rfl fun Q hQ hP => ?_
 have hB : Below w0.heap.size w0 w0 := Below.refl _ _
 have hS : Sep w0.heap.size w0 [] := Sep.nil _ _
 unfold F_laws_FnCompared at hF
 refine W.seq fun K1 hK1 => W.region (wl_assign rfl rfl (WL.nil (fun a ha => hK1 _ _ (W.seq fun K2 hK2 => (W.seq fun K3 hK3 => (W.region (wl_move rfl rfl (wl_lenr (e := ty_5) (l := x0) Try.underlying22 rfl rfl h0_0 (wl_move rfl rfl (wl_lenr (e := ty_5) (l := x1) Try.underlying22 rfl rfl h1_0 (wl_add rfl rfl rfl (wl_gtr rfl rfl rfl ?_))))))))) a ha)))
 refine WL.nil fun a ha => hK3 _ _ (W.cond rfl (fun h4 => ?_) (fun h4 => ?_)) a ha
 ·replace hF := ifP h4 hF
  refine W.seq fun K5 hK5 => W.region (wl_assign rfl rfl (WL.nil (fun a ha => hK5 _ _ (W.ret ?_) a ha)))
  have hr := Option.some.inj hF
  subst hr
  exact rets (vs := [(.bool true)]) hQ rfl ⟨rv_tmp rfl, trivial⟩ ⟨rfl, hB⟩
 ·replace hF := ifN h4 hF
  refine W.skip fun a ha => hK2 _ _ (W.seq fun K6 hK6 => (W.region (wl_move rfl rfl ?_))) a ha
  obtain ⟨u7, hu7, hF⟩ := bindE hF
  refine wl_call rfl Try.call34 (C_spec_DrawDifferentCharts w0 x0 v0_0 (h0_0.ro hB) _ hu7) rfl ?_
  rintro _ w16 ⟨v8, F9, v10, F11, v12, F13, v14, F15, rfl, hb17, hM20⟩
  refine ⟨_, rfl, ?_⟩
  have hB18 := hB.trans (hb17.mono hB.size)
  have hS19 := hS.join hb17 hM20 hB.size
  refine wl_move rfl rfl (wl_extract rfl rfl rfl (wl_extract rfl rfl rfl (wl_alloc (cs := [(.slice none 0 0), (.slice none 0 0), (.int .i64 0), (.int .i64 0)]) tf_53 rfl rfl hB18 hS19 ?_)))
  intro b21 w22 hb23 hB24 hS25
  refine wl_alloc (cs := [(.slice none 0 0), (.slice none 0 0), (.int .i64 0), (.int .i64 0)]) tf_53 rfl rfl hB24 hS25 ?_
  intro b26 w27 hb28 hB29 hS30
  refine wl_store_blk (i := 1) (vs := [v8, v10, (.int .i64 u7.1.2.2.1), (.int .i64 u7.1.2.2.2)]) (cs' := [v8, v10, (.int .i64 u7.1.2.2.1), (.int .i64 u7.1.2.2.2)]) tf_53 rfl rfl rfl rfl hB29 hS30 rfl rfl ⟨(hS30.own_ro (i := 2) rfl).one, (hS30.own_ro (i := 3) rfl).one, rfl, rfl, trivial⟩ rfl ?_
  intro w31 hk34 hB32 hS33
  refine wl_store_blk (i := 0) (vs := [v12, v14, (.int .i64 u7.2.2.2.1), (.int .i64 u7.2.2.2.2)]) (cs' := [v12, v14, (.int .i64 u7.2.2.2.1), (.int .i64 u7.2.2.2.2)]) tf_53 rfl rfl rfl rfl hB32 hS33 rfl rfl ⟨(hS33.own_ro (i := 4) rfl).one, (hS33.own_ro (i := 5) rfl).one, rfl, rfl, trivial⟩ rfl ?_
  intro w35 hk38 hB36 hS37
  refine WL.nil fun a ha => hK6 _ _ (W.seq fun K39 hK39 => (W.region (wl_load_blk (i := 1) (vs := [v8, v10, (.int .i64 u7.1.2.2.1), (.int .i64 u7.1.2.2.2)]) (v := (.agg #[v8, v10, (.int .i64 u7.1.2.2.1), (.int .i64 u7.1.2.2.2)])) tf_53 rfl rfl hS37 rfl rfl rfl (wl_load_blk (i := 0) (vs := [v12, v14, (.int .i64 u7.2.2.2.1), (.int .i64 u7.2.2.2.2)]) (v := (.agg #[v12, v14, (.int .i64 u7.2.2.2.1), (.int .i64 u7.2.2.2.2)])) tf_53 rfl rfl hS37 rfl rfl rfl ?_)))) a ha
  obtain ⟨u40, hu40, hF⟩ := bindE hF
  refine wl_call rfl Try.call35 (C_impl_DifferentCharts w35 u7.1 v8 (hS37.own_ro (i := 2) rfl) v10 (hS37.own_ro (i := 3) rfl) u7.2 v12 (hS37.own_ro (i := 4) rfl) v14 (hS37.own_ro (i := 5) rfl) _ hu40) rfl ?_
  rintro _ w43 ⟨v41, F42, rfl, hb44, hM47⟩
  refine ⟨_, rfl, ?_⟩
  have hB45 := hB36.trans (hb44.mono hB36.size)
  have hS46 := hS37.join hb44 hM47 hB36.size
  refine wl_move rfl rfl (wl_extract rfl rfl rfl (wl_extract rfl rfl rfl (wl_assign rfl rfl (wl_assign rfl rfl (WL.nil (fun a ha => hK39 _ _ (W.seq fun K48 hK48 => (W.region (wl_load_blk (i := 2) (vs := [v8, v10, (.int .i64 u7.1.2.2.1), (.int .i64 u7.1.2.2.2)]) (v := (.agg #[v8, v10, (.int .i64 u7.1.2.2.1), (.int .i64 u7.1.2.2.2)])) tf_53 rfl rfl hS46 rfl rfl rfl (wl_load_blk (i := 1) (vs := [v12, v14, (.int .i64 u7.2.2.2.1), (.int .i64 u7.2.2.2.2)]) (v := (.agg #[v12, v14, (.int .i64 u7.2.2.2.1), (.int .i64 u7.2.2.2.2)])) tf_53 rfl rfl hS46 rfl rfl rfl ?_)))) a ha))))))
  obtain ⟨u49, hu49, hF⟩ := bindE hF
  refine wl_call rfl Try.call36 (C_spec_DifferentCharts w43 u7.1 v8 (hS46.own_ro (i := 3) rfl) v10 (hS46.own_ro (i := 4) rfl) u7.2 v12 (hS46.own_ro (i := 5) rfl) v14 (hS46.own_ro (i := 6) rfl) _ hu49) rfl ?_
  rintro _ w52 ⟨v50, F51, rfl, hb53, hM56⟩
  refine ⟨_, rfl, ?_⟩
  have hB54 := hB45.trans (hb53.mono hB45.size)
  have hS55 := hS46.join hb53 hM56 hB45.size
  refine wl_move rfl rfl (wl_extract rfl rfl rfl (wl_extract rfl rfl rfl (wl_assign rfl rfl (wl_assign rfl rfl (WL.nil (fun a ha => hK48 _ _ (W.seq fun K57 hK57 => (W.region (wl_load_blk (i := 3) (vs := [v8, v10, (.int .i64 u7.1.2.2.1), (.int .i64 u7.1.2.2.2)]) (v := (.agg #[v8, v10, (.int .i64 u7.1.2.2.1), (.int .i64 u7.1.2.2.2)])) tf_53 rfl rfl hS55 rfl rfl rfl (wl_load_blk (i := 2) (vs := [v12, v14, (.int .i64 u7.2.2.2.1), (.int .i64 u7.2.2.2.2)]) (v := (.agg #[v12, v14, (.int .i64 u7.2.2.2.1), (.int .i64 u7.2.2.2.2)])) tf_53 rfl rfl hS55 rfl rfl rfl ?_)))) a ha))))))
  obtain ⟨u58, hu58, hF⟩ := bindE hF
  refine wl_call rfl Try.call37 (C_impl_SameShows w52 u7.1 v8 (hS55.own_ro (i := 4) rfl) v10 (hS55.own_ro (i := 5) rfl) u7.2 v12 (hS55.own_ro (i := 6) rfl) v14 (hS55.own_ro (i := 7) rfl) _ hu58) rfl ?_
  rintro _ w59 ⟨rfl, hb60⟩
  refine ⟨_, rfl, ?_⟩
  have hB61 := hB54.trans (hb60.mono hB54.size)
  have hS62 := hS55.below hb60
  refine wl_move rfl rfl (wl_extract rfl rfl rfl (wl_extract rfl rfl rfl (wl_assign rfl rfl (wl_assign rfl rfl (WL.nil (fun a ha => hK57 _ _ (W.seq fun K64 hK64 => (W.region (wl_load_blk (i := 3) (vs := [v8, v10, (.int .i64 u7.1.2.2.1), (.int .i64 u7.1.2.2.2)]) (v := (.agg #[v8, v10, (.int .i64 u7.1.2.2.1), (.int .i64 u7.1.2.2.2)])) tf_53 rfl rfl hS62 rfl rfl rfl (wl_load_blk (i := 2) (vs := [v12, v14, (.int .i64 u7.2.2.2.1), (.int .i64 u7.2.2.2.2)]) (v := (.agg #[v12, v14, (.int .i64 u7.2.2.2.1), (.int .i64 u7.2.2.2.2)])) tf_53 rfl rfl hS62 rfl rfl rfl ?_)))) a ha))))))
  obtain ⟨u65, hu65, hF⟩ := bindE hF
  refine wl_call rfl Try.call38 (C_spec_SameShows w59 u7.1 v8 (hS62.own_ro (i := 4) rfl) v10 (hS62.own_ro (i := 5) rfl) u7.2 v12 (hS62.own_ro (i := 6) rfl) v14 (hS62.own_ro (i := 7) rfl) _ hu65) rfl ?_
  rintro _ w66 ⟨rfl, hb67⟩
  refine ⟨_, rfl, ?_⟩
  have hB68 := hB61.trans (hb67.mono hB61.size)
  have hS69 := hS62.below hb67
  refine wl_move rfl rfl (wl_extract rfl rfl rfl (wl_extract rfl rfl rfl (wl_assign rfl rfl (wl_assign rfl rfl (WL.nil (fun a ha => hK64 _ _ (W.seq fun K71 hK71 => (W.region (wl_move rfl rfl ?_))) a ha))))))
  obtain ⟨u72, hu72, hF⟩ := bindE hF
  refine wl_call rfl Try.call39 (C_spec_DrawWaySums w66 x1 v1_0 (h1_0.ro hB68) _ hu72) rfl ?_
  rintro _ w77 ⟨v73, F74, v75, F76, rfl, hb78, hM81⟩
  refine ⟨_, rfl, ?_⟩
  have hB79 := hB68.trans (hb78.mono hB68.size)
  have hS80 := hS69.join hb78 hM81 hB68.size
  refine wl_alloc (cs := [(.slice none 0 0), (.slice none 0 0), (.int .i64 0), (.int .i64 0)]) tf_53 rfl rfl hB79 hS80 ?_
  intro b82 w83 hb84 hB85 hS86
  refine wl_store_blk (i := 0) (vs := [v73, v75, (.int .i64 u72.2.2.1), (.int .i64 u72.2.2.2)]) (cs' := [v73, v75, (.int .i64 u72.2.2.1), (.int .i64 u72.2.2.2)]) tf_53 rfl rfl rfl rfl hB85 hS86 rfl rfl ⟨(hS86.own_ro (i := 1) rfl).one, (hS86.own_ro (i := 2) rfl).one, rfl, rfl, trivial⟩ rfl ?_
  intro w87 hk90 hB88 hS89
  refine WL.nil fun a ha => hK71 _ _ (W.seq fun K91 hK91 => (W.region (wl_load_blk (i := 0) (vs := [v73, v75, (.int .i64 u72.2.2.1), (.int .i64 u72.2.2.2)]) (v := (.agg #[v73, v75, (.int .i64 u72.2.2.1), (.int .i64 u72.2.2.2)])) tf_53 rfl rfl hS89 rfl rfl rfl ?_))) a ha
  obtain ⟨u92, hu92, hF⟩ := bindE hF
  refine wl_call rfl Try.call40 (C_impl_WaySums w87 u72 v73 (hS89.own_ro (i := 1) rfl) v75 (hS89.own_ro (i := 2) rfl) _ hu92) rfl ?_
  rintro _ w95 ⟨v93, F94, rfl, hb96, hM99⟩
  refine ⟨_, rfl, ?_⟩
  have hB97 := hB88.trans (hb96.mono hB88.size)
  have hS98 := hS89.join hb96 hM99 hB88.size
  refine wl_move rfl rfl (wl_extract rfl rfl rfl (wl_extract rfl rfl rfl (wl_assign rfl rfl (wl_assign rfl rfl (WL.nil (fun a ha => hK91 _ _ (W.seq fun K100 hK100 => (W.region (wl_load_blk (i := 1) (vs := [v73, v75, (.int .i64 u72.2.2.1), (.int .i64 u72.2.2.2)]) (v := (.agg #[v73, v75, (.int .i64 u72.2.2.1), (.int .i64 u72.2.2.2)])) tf_53 rfl rfl hS98 rfl rfl rfl ?_))) a ha))))))
  obtain ⟨u101, hu101, hF⟩ := bindE hF
  refine wl_call rfl Try.call41 (C_spec_WaySums w95 u72 v73 (hS98.own_ro (i := 2) rfl) v75 (hS98.own_ro (i := 3) rfl) _ hu101) rfl ?_
  rintro _ w104 ⟨v102, F103, rfl, hb105, hM108⟩
  refine ⟨_, rfl, ?_⟩
  have hB106 := hB97.trans (hb105.mono hB97.size)
  have hS107 := hS98.join hb105 hM108 hB97.size
  refine wl_move rfl rfl (wl_extract rfl rfl rfl (wl_extract rfl rfl rfl (wl_assign rfl rfl (wl_assign rfl rfl (WL.nil (fun a ha => hK100 _ _ (W.seq fun K109 hK109 => (W.region (wl_load_blk (i := 2) (vs := [v73, v75, (.int .i64 u72.2.2.1), (.int .i64 u72.2.2.2)]) (v := (.agg #[v73, v75, (.int .i64 u72.2.2.1), (.int .i64 u72.2.2.2)])) tf_53 rfl rfl hS107 rfl rfl rfl ?_))) a ha))))))
  obtain ⟨u110, hu110, hF⟩ := bindE hF
  refine wl_call rfl Try.call42 (C_impl_WidestPart w104 u72 v73 (hS107.own_ro (i := 3) rfl) v75 (hS107.own_ro (i := 4) rfl) _ hu110) rfl ?_
  rintro _ w111 ⟨rfl, hb112⟩
  refine ⟨_, rfl, ?_⟩
  have hB113 := hB106.trans (hb112.mono hB106.size)
  have hS114 := hS107.below hb112
  refine wl_move rfl rfl (wl_extract rfl rfl rfl (wl_extract rfl rfl rfl (wl_extract rfl rfl rfl (wl_assign rfl rfl (wl_assign rfl rfl (wl_assign rfl rfl (WL.nil (fun a ha => hK109 _ _ (W.seq fun K116 hK116 => (W.region (wl_load_blk (i := 2) (vs := [v73, v75, (.int .i64 u72.2.2.1), (.int .i64 u72.2.2.2)]) (v := (.agg #[v73, v75, (.int .i64 u72.2.2.1), (.int .i64 u72.2.2.2)])) tf_53 rfl rfl hS114 rfl rfl rfl ?_))) a ha))))))))
  obtain ⟨u117, hu117, hF⟩ := bindE hF
  refine wl_call rfl Try.call43 (C_spec_WidestPart w111 u72 v73 (hS114.own_ro (i := 3) rfl) v75 (hS114.own_ro (i := 4) rfl) _ hu117) rfl ?_
  rintro _ w118 ⟨rfl, hb119⟩
  refine ⟨_, rfl, ?_⟩
  have hB120 := hB113.trans (hb119.mono hB113.size)
  have hS121 := hS114.below hb119
  refine wl_move rfl rfl (wl_extract rfl rfl rfl (wl_extract rfl rfl rfl (wl_extract rfl rfl rfl (wl_assign rfl rfl (wl_assign rfl rfl (wl_assign rfl rfl (WL.nil (fun a ha => hK116 _ _ (W.seq fun K123 hK123 => (W.region (wl_load_blk (i := 2) (vs := [v73, v75, (.int .i64 u72.2.2.1), (.int .i64 u72.2.2.2)]) (v := (.agg #[v73, v75, (.int .i64 u72.2.2.1), (.int .i64 u72.2.2.2)])) tf_53 rfl rfl hS121 rfl rfl rfl ?_))) a ha))))))))
  obtain ⟨u124, hu124, hF⟩ := bindE hF
  refine wl_call rfl Try.call44 (C_impl_LeastOfShow w118 u72 v73 (hS121.own_ro (i := 3) rfl) v75 (hS121.own_ro (i := 4) rfl) _ hu124) rfl ?_
  rintro _ w125 ⟨rfl, hb126⟩
  refine ⟨_, rfl, ?_⟩
  have hB127 := hB120.trans (hb126.mono hB120.size)
  have hS128 := hS121.below hb126
  refine wl_move rfl rfl (wl_extract rfl rfl rfl (wl_extract rfl rfl rfl (wl_extract rfl rfl rfl (wl_assign rfl rfl (wl_assign rfl rfl (wl_assign rfl rfl (WL.nil (fun a ha => hK123 _ _ (W.seq fun K130 hK130 => (W.region (wl_load_blk (i := 2) (vs := [v73, v75, (.int .i64 u72.2.2.1), (.int .i64 u72.2.2.2)]) (v := (.agg #[v73, v75, (.int .i64 u72.2.2.1), (.int .i64 u72.2.2.2)])) tf_53 rfl rfl hS128 rfl rfl rfl ?_))) a ha))))))))
  obtain ⟨u131, hu131, hF⟩ := bindE hF
  refine wl_call rfl Try.call45 (C_spec_LeastOfShow w125 u72 v73 (hS128.own_ro (i := 3) rfl) v75 (hS128.own_ro (i := 4) rfl) _ hu131) rfl ?_
  rintro _ w132 ⟨rfl, hb133⟩
  refine ⟨_, rfl, ?_⟩
  have hB134 := hB127.trans (hb133.mono hB127.size)
  have hS135 := hS128.below hb133
  refine wl_move rfl rfl (wl_extract rfl rfl rfl (wl_extract rfl rfl rfl (wl_extract rfl rfl rfl (wl_assign rfl rfl (wl_assign rfl rfl (wl_assign rfl rfl (WL.nil (fun a ha => hK130 _ _ (W.seq fun K137 hK137 => (W.region (wl_load_blk (i := 2) (vs := [v73, v75, (.int .i64 u72.2.2.1), (.int .i64 u72.2.2.2)]) (v := (.agg #[v73, v75, (.int .i64 u72.2.2.1), (.int .i64 u72.2.2.2)])) tf_53 rfl rfl hS135 rfl rfl rfl ?_))) a ha))))))))
  obtain ⟨u138, hu138, hF⟩ := bindE hF
  refine wl_call rfl Try.call46 (C_impl_LeastToKeep w132 u72 v73 (hS135.own_ro (i := 3) rfl) v75 (hS135.own_ro (i := 4) rfl) _ hu138) rfl ?_
  rintro _ w139 ⟨rfl, hb140⟩
  refine ⟨_, rfl, ?_⟩
  have hB141 := hB134.trans (hb140.mono hB134.size)
  have hS142 := hS135.below hb140
  refine wl_move rfl rfl (wl_extract rfl rfl rfl (wl_extract rfl rfl rfl (wl_assign rfl rfl (wl_assign rfl rfl (WL.nil (fun a ha => hK137 _ _ (W.seq fun K144 hK144 => (W.region (wl_load_blk (i := 2) (vs := [v73, v75, (.int .i64 u72.2.2.1), (.int .i64 u72.2.2.2)]) (v := (.agg #[v73, v75, (.int .i64 u72.2.2.1), (.int .i64 u72.2.2.2)])) tf_53 rfl rfl hS142 rfl rfl rfl ?_))) a ha))))))
  obtain ⟨u145, hu145, hF⟩ := bindE hF
  refine wl_call rfl Try.call47 (C_spec_LeastToKeep w139 u72 v73 (hS142.own_ro (i := 3) rfl) v75 (hS142.own_ro (i := 4) rfl) _ hu145) rfl ?_
  rintro _ w146 ⟨rfl, hb147⟩
  refine ⟨_, rfl, ?_⟩
  have hB148 := hB141.trans (hb147.mono hB141.size)
  have hS149 := hS142.below hb147
  refine wl_move rfl rfl (wl_extract rfl rfl rfl (wl_extract rfl rfl rfl (wl_assign rfl rfl (wl_assign rfl rfl (WL.nil (fun a ha => hK144 _ _ (W.seq fun K151 hK151 => (W.seq fun K152 hK152 => ?_)) a ha))))))
  obtain ⟨k157, hk157, hF⟩ := jE1 hF
  have hJ158 : ∀ (y156 : Bool) (w153 : World) (_ : k157 y156 = some r) (_ : Below w0.heap.size w0 w153) (_ : Sep w0.heap.size w153 [R.own ty_63 F9 v8 u7.1.1, R.own ty_3 F11 v10 u7.1.2.1, R.blk b21 53 [v8, v10, (.int .i64 u7.1.2.2.1), (.int .i64 u7.1.2.2.2)], R.own ty_63 F13 v12 u7.2.1, R.own ty_3 F15 v14 u7.2.2.1, R.blk b26 53 [v12, v14, (.int .i64 u7.2.2.2.1), (.int .i64 u7.2.2.2.2)], R.own ty_3 F51 v50 u49.1, R.own ty_63 F74 v73 u72.1, R.own ty_3 F76 v75 u72.2.1, R.blk b82 53 [v73, v75, (.int .i64 u72.2.2.1), (.int .i64 u72.2.2.2)], R.own ty_3 F103 v102 u101.1]), ∀ a, St 395 [(5, (.pointer (some ⟨b21, 0, none⟩))), (6, (.pointer (some ⟨b26, 0, none⟩))), (8, (.bool u40.2)), (9, v50), (13, (.bool u65.1)), (15, (.pointer (some ⟨b82, 0, none⟩))), (17, (.bool u92.2)), (18, v102), (24, (.int .i64 u117.2.1)), (28, (.bool u124.2.2)), (29, (.int .i64 u131.1)), (30, (.int .i64 u131.2.1)), (34, (.int .i64 u145.1)), (220, (.bool y156))] a → K152 a w153 := by
   intro y156 w153 hF hB154 hS155
   subst hk157
   refine fun a ha => hK152 _ _ (W.cond rfl (fun h159 => ?_) (fun h159 => ?_)) a ha
   ·replace hF := ifP h159 hF
    refine W.seq fun K160 hK160 => W.region (wl_assign rfl rfl (WL.nil (fun a ha => hK160 _ _ (W.ret ?_) a ha)))
    have hr := Option.some.inj hF
    subst hr
    exact rets (vs := [(.bool false)]) hQ rfl ⟨rv_tmp rfl, trivial⟩ ⟨rfl, hB154⟩
   ·replace hF := ifN h159 hF
    refine W.skip fun a ha => hK151 _ _ (W.seq fun K161 hK161 => ?_) a ha
    obtain ⟨k165, hk165, hF⟩ := jE0 hF
    have hJ166 : ∀ (w162 : World) (_ : k165 = some r) (_ : Below w0.heap.size w0 w162) (_ : Sep w0.heap.size w162 [R.own ty_63 F74 v73 u72.1, R.own ty_3 F76 v75 u72.2.1, R.blk b82 53 [v73, v75, (.int .i64 u72.2.2.1), (.int .i64 u72.2.2.2)], R.own ty_3 F103 v102 u101.1]), ∀ a, St 395 [(15, (.pointer (some ⟨b82, 0, none⟩))), (17, (.bool u92.2)), (18, v102), (24, (.int .i64 u117.2.1)), (28, (.bool u124.2.2)), (29, (.int .i64 u131.1)), (30, (.int .i64 u131.2.1)), (34, (.int .i64 u145.1))] a → K161 a w162 := by
     intro w162 hF hB163 hS164
     subst hk165
     refine fun a ha => hK161 _ _ (W.seq fun K167 hK167 => (W.seq fun K168 hK168 => (W.region (wl_move rfl rfl (wl_not rfl rfl (WL.nil (fun a ha => hK168 _ _ (W.cond rfl (fun h169 => ?_) (fun h169 => ?_)) a ha))))))) a ha
     ·replace hF := ifP h169 hF
      refine W.seq fun K170 hK170 => W.region (wl_assign rfl rfl (WL.nil (fun a ha => hK170 _ _ (W.ret ?_) a ha)))
      have hr := Option.some.inj hF
      subst hr
      exact rets (vs := [(.bool true)]) hQ rfl ⟨rv_tmp rfl, trivial⟩ ⟨rfl, hB163⟩
     ·replace hF := ifN h169 hF
      refine W.skip fun a ha => hK167 _ _ (W.seq fun K171 hK171 => (W.region (wl_assign rfl rfl (wl_assign rfl rfl (WL.nil (fun a ha => hK171 _ _ (W.seq fun K172 hK172 => (W.seq fun K173 hK173 => (W.region (wl_field (o := 1) (off' := 1) ff_53_1 rfl rfl rfl (wl_load_blk (i := 2) (vs := [v75]) (v := v75) tf_29 rfl rfl hS164 rfl rfl rfl (wl_lenr (e := ty_3) (l := u72.2.1) Try.underlying29 rfl rfl (hS164.own_ro (i := 1) rfl) ?_)))))) a ha)))))) a ha
      refine wl_move rfl rfl (WL.nil (fun a ha => hK173 _ _ (W.block (W.loopk (fun m a w174 => ∃ (y177 : Int) (y178 : Int) (y179 : Int), St 395 [(15, (.pointer (some ⟨b82, 0, none⟩))), (18, v102), (24, (.int .i64 u117.2.1)), (28, (.bool u124.2.2)), (29, (.int .i64 u131.1)), (30, (.int .i64 u131.2.1)), (34, (.int .i64 u145.1)), (41, (.int .i64 y177)), (42, (.int .i64 y178)), (282, (.int .i64 (List.length u72.2.1 : Int))), (283, (.int .i64 y179))] a ∧ Below w0.heap.size w0 w174 ∧ Sep w0.heap.size w174 [R.own ty_63 F74 v73 u72.1, R.own ty_3 F76 v75 u72.2.1, R.blk b82 53 [v73, v75, (.int .i64 u72.2.2.1), (.int .i64 u72.2.2.2)], R.own ty_3 F103 v102 u101.1] ∧ F_laws_FnCompared_L2 u72 u145 u124 u131 u101 u117 m y177 y178 y179 = some r) FU ?_ ?_)) a ha))
      ·
       exact fun a ha => ⟨0, 0, 0, ha.sub ⟨rfl, rfl, rfl, rfl, rfl, rfl, rfl, rfl, rfl, rfl, rfl, trivial⟩, hB163, (hS164.sel [0, 1, 2, 3] rfl), hF⟩
      ·
       rintro m182 a w174 ⟨y177, y178, y179, ha, hB175, hS176, hF⟩ KL181 hKL181
       refine W.at ?_ ha
       cases m182 with
       | zero => exact noneE hF
       | succ m182 =>
        obtain ⟨nx180, hnx180⟩ : ∃ k, k = F_laws_FnCompared_L2 u72 u145 u124 u131 u101 u117 m182 := ⟨_, rfl⟩
        rw [F_laws_FnCompared_L2, ← hnx180] at hF
        refine W.seq fun K183 hK183 => W.region (wl_lss rfl rfl rfl (WL.nil (fun a ha => hK183 _ _ (W.seq fun K184 hK184 => (W.cond rfl (fun h185 => ?_) (fun h185 => ?_))) a ha)))
        ·replace hF := ifP h185 hF
         refine W.skip fun a ha => hK184 _ _ (W.seq fun K186 hK186 => (W.block (W.seq fun K187 hK187 => (W.region (wl_move rfl rfl (wl_assign rfl rfl (WL.nil (fun a ha => hK187 _ _ (W.seq fun K188 hK188 => (W.region (wl_load_blk (i := 2) (vs := [v73, v75, (.int .i64 u72.2.2.1), (.int .i64 u72.2.2.2)]) (v := (.agg #[v73, v75, (.int .i64 u72.2.2.1), (.int .i64 u72.2.2.2)])) tf_53 rfl rfl hS176 rfl rfl rfl (wl_move rfl rfl ?_)))) a ha)))))))) a ha
         obtain ⟨u189, hu189, hF⟩ := bindE hF
         refine wl_call rfl Try.call49 (C_impl_ShowMoves w174 u72 v73 (hS176.own_ro (i := 0) rfl) v75 (hS176.own_ro (i := 1) rfl) y179 _ hu189) rfl ?_
         rintro _ w192 ⟨v190, F191, rfl, hb193, hM196⟩
         refine ⟨_, rfl, ?_⟩
         have hB194 := hB175.trans (hb193.mono hB175.size)
         have hS195 := hS176.join hb193 hM196 hB175.size
         refine wl_move rfl rfl (wl_extract rfl rfl rfl (wl_extract rfl rfl rfl (wl_assign rfl rfl (wl_assign rfl rfl (WL.nil (fun a ha => hK188 _ _ (W.seq fun K197 hK197 => (W.seq fun K198 hK198 => ?_)) a ha))))))
         obtain ⟨k203, hk203, hF⟩ := jE1 hF
         have hJ204 : ∀ (y202 : Bool) (w199 : World) (_ : k203 y202 = some r) (_ : Below w0.heap.size w0 w199) (_ : Sep w0.heap.size w199 [R.own ty_63 F74 v73 u72.1, R.own ty_3 F76 v75 u72.2.1, R.blk b82 53 [v73, v75, (.int .i64 u72.2.2.1), (.int .i64 u72.2.2.2)], R.own ty_3 F103 v102 u101.1, R.own ty_70 F191 v190 u189.1]), ∀ a, St 395 [(15, (.pointer (some ⟨b82, 0, none⟩))), (18, v102), (24, (.int .i64 u117.2.1)), (28, (.bool u124.2.2)), (29, (.int .i64 u131.1)), (30, (.int .i64 u131.2.1)), (34, (.int .i64 u145.1)), (41, (.int .i64 y177)), (42, (.int .i64 y178)), (43, (.int .i64 y179)), (44, v190), (282, (.int .i64 (List.length u72.2.1 : Int))), (283, (.int .i64 y179)), (303, (.bool y202))] a → K198 a w199 := by
          intro y202 w199 hF hB200 hS201
          subst hk203
          refine fun a ha => hK198 _ _ (W.cond rfl (fun h205 => ?_) (fun h205 => ?_)) a ha
          ·replace hF := ifP h205 hF
           refine W.seq fun K206 hK206 => W.region (wl_assign rfl rfl (WL.nil (fun a ha => hK206 _ _ (W.ret ?_) a ha)))
           have hr := Option.some.inj hF
           subst hr
           exact rets (vs := [(.bool false)]) hQ rfl ⟨rv_tmp rfl, trivial⟩ ⟨rfl, hB200⟩
          ·replace hF := ifN h205 hF
           refine W.skip fun a ha => hK197 _ _ (W.seq fun K207 hK207 => (W.region (wl_assign rfl rfl (WL.nil (fun a ha => hK207 _ _ (W.seq fun K208 hK208 => (W.seq fun K209 hK209 => (W.region (wl_move rfl rfl (wl_lenr (e := ty_70) (l := u189.1) Try.underlying64 rfl rfl (hS201.own_ro (i := 4) rfl) (wl_move rfl rfl (WL.nil ?_))))))) a ha))))) a ha
           refine fun a ha => hK209 _ _ (W.block (W.loopk (fun m a w210 => ∃ (y213 : Int) (y214 : Int), St 395 [(15, (.pointer (some ⟨b82, 0, none⟩))), (18, v102), (24, (.int .i64 u117.2.1)), (28, (.bool u124.2.2)), (29, (.int .i64 u131.1)), (30, (.int .i64 u131.2.1)), (34, (.int .i64 u145.1)), (41, (.int .i64 y177)), (42, (.int .i64 y178)), (43, (.int .i64 y179)), (46, (.int .i64 y213)), (282, (.int .i64 (List.length u72.2.1 : Int))), (283, (.int .i64 y179)), (304, v190), (305, (.int .i64 (List.length u189.1 : Int))), (306, (.int .i64 y214))] a ∧ Below w0.heap.size w0 w210 ∧ Sep w0.heap.size w210 [R.own ty_63 F74 v73 u72.1, R.own ty_3 F76 v75 u72.2.1, R.blk b82 53 [v73, v75, (.int .i64 u72.2.2.1), (.int .i64 u72.2.2.2)], R.own ty_3 F103 v102 u101.1, R.own ty_70 F191 v190 u189.1] ∧ F_laws_FnCompared_L3 u189 u72 u145 y179 nx180 y177 y178 m y213 y214 = some r) FU ?_ ?_)) a ha
           ·
            exact fun a ha => ⟨0, 0, ha.sub ⟨rfl, rfl, rfl, rfl, rfl, rfl, rfl, rfl, rfl, rfl, rfl, rfl, rfl, rfl, rfl, rfl, trivial⟩, hB200, (hS201.sel [0, 1, 2, 3, 4] rfl), hF⟩
           ·
            rintro m217 a w210 ⟨y213, y214, ha, hB211, hS212, hF⟩ KL216 hKL216
            refine W.at ?_ ha
            cases m217 with
            | zero => exact noneE hF
            | succ m217 =>
             obtain ⟨nx215, hnx215⟩ : ∃ k, k = F_laws_FnCompared_L3 u189 u72 u145 y179 nx180 y177 y178 m217 := ⟨_, rfl⟩
             rw [F_laws_FnCompared_L3, ← hnx215] at hF
             refine W.seq fun K218 hK218 => W.region (wl_lss rfl rfl rfl (WL.nil (fun a ha => hK218 _ _ (W.seq fun K219 hK219 => (W.cond rfl (fun h220 => ?_) (fun h220 => ?_))) a ha)))
             ·replace hF := ifP h220 hF
              refine W.skip fun a ha => hK219 _ _ (W.seq fun K221 hK221 => (W.block (W.seq fun K222 hK222 => (W.region ?_)))) a ha
              obtain ⟨u223, hu223, hF⟩ := bindE hF
              refine wl_indexo (e := ty_70) (i := 4) Try.underlying64 rfl rfl rfl hS212 rfl hu223 ?_
              rintro p224 _ rfl hp225 ho226
              refine wl_load_p (vs := [(.int .i64 u223.1.1), (.int .i64 u223.1.2), (.int .i64 u223.2.1.1), (.int .i64 u223.2.1.2), (.int .i64 u223.2.2)]) (v := (.agg #[(.int .i64 u223.1.1), (.int .i64 u223.1.2), (.int .i64 u223.2.1.1), (.int .i64 u223.2.1.2), (.int .i64 u223.2.2)])) tf_70 rfl rfl hp225 rfl rfl (wl_alloc (cs := [(.int .i64 0), (.int .i64 0), (.int .i64 0), (.int .i64 0), (.int .i64 0)]) tf_70 rfl rfl hB211 hS212 ?_)
              intro b227 w228 hb229 hB230 hS231
              refine wl_store_blk (i := 0) (vs := [(.int .i64 u223.1.1), (.int .i64 u223.1.2), (.int .i64 u223.2.1.1), (.int .i64 u223.2.1.2), (.int .i64 u223.2.2)]) (cs' := [(.int .i64 u223.1.1), (.int .i64 u223.1.2), (.int .i64 u223.2.1.1), (.int .i64 u223.2.1.2), (.int .i64 u223.2.2)]) tf_70 rfl rfl rfl rfl hB230 hS231 rfl rfl ⟨rfl, rfl, rfl, rfl, rfl, trivial⟩ rfl ?_
              intro w232 hk235 hB233 hS234
              refine WL.nil fun a ha => hK222 _ _ (W.seq fun K236 hK236 => (W.region (wl_field (o := 0) (off' := 0) ff_70_0 rfl rfl rfl (wl_load_blk (i := 0) (vs := [(.int .i64 u223.1.1), (.int .i64 u223.1.2)]) (v := (.agg #[(.int .i64 u223.1.1), (.int .i64 u223.1.2)])) tf_68 rfl rfl hS234 rfl rfl rfl (wl_field (o := 2) (off' := 2) ff_70_1 rfl rfl rfl (wl_load_blk (i := 0) (vs := [(.int .i64 u223.2.1.1), (.int .i64 u223.2.1.2)]) (v := (.agg #[(.int .i64 u223.2.1.1), (.int .i64 u223.2.1.2)])) tf_68 rfl rfl hS234 rfl rfl rfl ?_)))))) a ha
              obtain ⟨u237, hu237, hF⟩ := bindE hF
              refine wl_call rfl Try.call50 (C_impl_SquareOf w232 u223.1 u223.2.1 _ hu237) rfl ?_
              rintro _ w238 ⟨rfl, hb239⟩
              refine ⟨_, rfl, ?_⟩
              have hB240 := hB233.trans (hb239.mono hB233.size)
              have hS241 := hS234.below hb239
              refine wl_move rfl rfl (wl_extract rfl rfl rfl (wl_extract rfl rfl rfl (wl_assign rfl rfl (wl_assign rfl rfl (WL.nil (fun a ha => hK236 _ _ (W.seq fun K243 hK243 => (W.seq fun K244 hK244 => (W.region (wl_move rfl rfl (wl_not rfl rfl (WL.nil (fun a ha => hK244 _ _ ?_ a ha))))))) a ha))))))
              refine W.cond rfl (fun h245 => ?_) (fun h245 => ?_)
              ·replace hF := ifP h245 hF
               refine W.seq fun K246 hK246 => W.region (wl_assign rfl rfl (WL.nil (fun a ha => hK246 _ _ (W.ret ?_) a ha)))
               have hr := Option.some.inj hF
               subst hr
               exact rets (vs := [(.bool false)]) hQ rfl ⟨rv_tmp rfl, trivial⟩ ⟨rfl, hB240⟩
              ·replace hF := ifN h245 hF
               refine W.skip fun a ha => hK243 _ _ (W.region (wl_move rfl rfl (wl_move rfl rfl (wl_add rfl rfl rfl (wl_assign rfl rfl (WL.nil (fun a ha => hK221 _ _ (W.region (wl_add rfl rfl rfl (wl_move rfl rfl (WL.nil ?_)))) a ha))))))) a ha
               rw [hnx215] at hF
               exact fun a ha => hKL216 a _ m217 (Nat.lt_succ_self m217) ⟨(w64 (y213 + u237.1)), (w64 (y214 + 1)), ha.sub ⟨rfl, rfl, rfl, rfl, rfl, rfl, rfl, rfl, rfl, rfl, rfl, rfl, rfl, rfl, rfl, rfl, trivial⟩, hB240, (hS241.sel [1, 2, 3, 4, 5] rfl), hF⟩
             ·replace hF := ifN h220 hF
              refine W.exit fun a ha => hK208 _ _ (W.seq fun K247 hK247 => (W.region (wl_move rfl rfl (wl_move rfl rfl (wl_add rfl rfl rfl (wl_assign rfl rfl (WL.nil (fun a ha => hK247 _ _ (W.seq fun K248 hK248 => ?_) a ha)))))))) a ha
              obtain ⟨k253, hk253, hF⟩ := jE1 hF
              have hJ254 : ∀ (y252 : Int) (w249 : World) (_ : k253 y252 = some r) (_ : Below w0.heap.size w0 w249) (_ : Sep w0.heap.size w249 [R.own ty_63 F74 v73 u72.1, R.own ty_3 F76 v75 u72.2.1, R.blk b82 53 [v73, v75, (.int .i64 u72.2.2.1), (.int .i64 u72.2.2.2)], R.own ty_3 F103 v102 u101.1]), ∀ a, St 395 [(15, (.pointer (some ⟨b82, 0, none⟩))), (18, v102), (24, (.int .i64 u117.2.1)), (28, (.bool u124.2.2)), (29, (.int .i64 u131.1)), (30, (.int .i64 u131.2.1)), (34, (.int .i64 u145.1)), (41, (.int .i64 (w64 (y177 + y213)))), (42, (.int .i64 y252)), (43, (.int .i64 y179)), (282, (.int .i64 (List.length u72.2.1 : Int))), (283, (.int .i64 y179))] a → K248 a w249 := by
               intro y252 w249 hF hB250 hS251
               subst hk253
               refine fun a ha => hK248 _ _ (W.seq fun K255 hK255 => (W.region (wl_field (o := 0) (off' := 0) ff_53_0 rfl rfl rfl (wl_load_blk (i := 2) (vs := [v73]) (v := v73) tf_51 rfl rfl hS251 rfl rfl rfl (wl_field (o := 1) (off' := 1) ff_53_1 rfl rfl rfl (wl_load_blk (i := 2) (vs := [v75]) (v := v75) tf_29 rfl rfl hS251 rfl rfl rfl (wl_move rfl rfl (wl_field (o := 3) (off' := 3) ff_53_3 rfl rfl rfl (wl_load_blk (i := 2) (vs := [(.int .i64 u72.2.2.2)]) (v := (.int .i64 u72.2.2.2)) tf_3 rfl rfl hS251 rfl rfl rfl ?_))))))))) a ha
               refine wl_build (zs := [(.slice none 0 0), (.slice none 0 0), (.int .i64 0), (.int .i64 0)]) (out := [v73, v75, (.int .i64 u145.1), (.int .i64 u72.2.2.2)]) (vs := [v73, v75, (.int .i64 u145.1), (.int .i64 u72.2.2.2)]) (css := [[v73], [v75], [(.int .i64 u145.1)], [(.int .i64 u72.2.2.2)]]) tf_53 pl_53 rfl rfl (by simp only [List.map_cons, List.map_nil, cells_one ((hS251.own_ro (i := 0) rfl).one), cells_one ((hS251.own_ro (i := 1) rfl).one)] <;> rfl) rfl rfl (wl_move rfl rfl ?_)
               obtain ⟨u256, hu256, hF⟩ := bindE hF
               refine wl_call rfl Try.call51 (C_impl_ClosePairs w249 (u72.1, u72.2.1, u145.1, u72.2.2.2) v73 (hS251.own_ro (i := 0) rfl) v75 (hS251.own_ro (i := 1) rfl) y179 _ hu256) rfl ?_
               rintro _ w259 ⟨v257, F258, rfl, hb260, hM263⟩
               refine ⟨_, rfl, ?_⟩
               have hB261 := hB250.trans (hb260.mono hB250.size)
               have hS262 := hS251.join hb260 hM263 hB250.size
               refine wl_move rfl rfl (wl_extract rfl rfl rfl (wl_extract rfl rfl rfl (wl_assign rfl rfl (wl_assign rfl rfl (WL.nil (fun a ha => hK255 _ _ (W.seq fun K264 hK264 => ?_) a ha))))))
               obtain ⟨k269, hk269, hF⟩ := jE1 hF
               have hJ270 : ∀ (y268 : Bool) (w265 : World) (_ : k269 y268 = some r) (_ : Below w0.heap.size w0 w265) (_ : Sep w0.heap.size w265 [R.own ty_63 F74 v73 u72.1, R.own ty_3 F76 v75 u72.2.1, R.blk b82 53 [v73, v75, (.int .i64 u72.2.2.1), (.int .i64 u72.2.2.2)], R.own ty_3 F103 v102 u101.1]), ∀ a, St 395 [(15, (.pointer (some ⟨b82, 0, none⟩))), (18, v102), (24, (.int .i64 u117.2.1)), (28, (.bool u124.2.2)), (29, (.int .i64 u131.1)), (30, (.int .i64 u131.2.1)), (34, (.int .i64 u145.1)), (41, (.int .i64 (w64 (y177 + y213)))), (42, (.int .i64 y252)), (282, (.int .i64 (List.length u72.2.1 : Int))), (283, (.int .i64 y179)), (350, (.bool y268))] a → K264 a w265 := by
                intro y268 w265 hF hB266 hS267
                subst hk269
                refine fun a ha => hK264 _ _ (W.cond rfl (fun h271 => ?_) (fun h271 => ?_)) a ha
                ·replace hF := ifP h271 hF
                 refine W.seq fun K272 hK272 => W.region (wl_assign rfl rfl (WL.nil (fun a ha => hK272 _ _ (W.ret ?_) a ha)))
                 have hr := Option.some.inj hF
                 subst hr
                 exact rets (vs := [(.bool false)]) hQ rfl ⟨rv_tmp rfl, trivial⟩ ⟨rfl, hB266⟩
                ·replace hF := ifN h271 hF
                 refine W.skip fun a ha => hK186 _ _ (W.region (wl_add rfl rfl rfl (wl_move rfl rfl (WL.nil ?_)))) a ha
                 rw [hnx180] at hF
                 exact fun a ha => hKL181 a _ m182 (Nat.lt_succ_self m182) ⟨(w64 (y177 + y213)), y252, (w64 (y179 + 1)), ha.sub ⟨rfl, rfl, rfl, rfl, rfl, rfl, rfl, rfl, rfl, rfl, rfl, trivial⟩, hB266, (hS267.sel [0, 1, 2, 3] rfl), hF⟩
               refine W.region (wl_move rfl rfl (wl_not rfl rfl (wl_move rfl rfl ?_)))
               rcases bE (!u256.2) with h273 | h273
               ·replace hF := ifP h273 hF
                refine wl_off rfl rfl rfl h273 (wl_off rfl rfl rfl h273 (wl_off rfl rfl rfl h273 (wl_pick_t rfl rfl h273 rfl (WL.nil ?_))))
                exact fun a ha => hJ270 (true) _ hF hB261 (hS262.sel [1, 2, 3, 4] rfl) a (ha.sub ⟨rfl, rfl, rfl, rfl, rfl, rfl, rfl, rfl, rfl, rfl, rfl, rfl, trivial⟩)
               ·replace hF := ifN h273 hF
                refine wl_on rfl rfl h273 (wl_move rfl rfl (wl_on rfl rfl h273 (wl_lenr (e := ty_29) (l := u256.1) Try.underlying72 rfl rfl (hS262.own_ro (i := 0) rfl) (wl_on rfl rfl h273 (wl_gtr rfl rfl rfl (wl_pick_f rfl rfl h273 rfl (WL.nil ?_)))))))
                exact fun a ha => hJ270 ((decide (0 < (List.length u256.1 : Int)))) _ hF hB261 (hS262.sel [1, 2, 3, 4] rfl) a (ha.sub ⟨rfl, rfl, rfl, rfl, rfl, rfl, rfl, rfl, rfl, rfl, rfl, rfl, trivial⟩)
              refine W.seq fun K274 hK274 => W.region (wl_move rfl rfl (wl_move rfl rfl (wl_gtr rfl rfl rfl (WL.nil (fun a ha => hK274 _ _ (W.cond rfl (fun h275 => ?_) (fun h275 => ?_)) a ha)))))
              ·replace hF := ifP h275 hF
               refine W.region (wl_move rfl rfl (wl_assign rfl rfl (WL.nil ?_)))
               exact fun a ha => hJ254 (y213) _ hF hB211 (hS212.sel [0, 1, 2, 3] rfl) a (ha.sub ⟨rfl, rfl, rfl, rfl, rfl, rfl, rfl, rfl, rfl, rfl, rfl, rfl, trivial⟩)
              ·replace hF := ifN h275 hF
               refine W.skip ?_
               exact fun a ha => hJ254 (y178) _ hF hB211 (hS212.sel [0, 1, 2, 3] rfl) a (ha.sub ⟨rfl, rfl, rfl, rfl, rfl, rfl, rfl, rfl, rfl, rfl, rfl, rfl, trivial⟩)
         refine W.region (wl_move rfl rfl (wl_not rfl rfl (wl_move rfl rfl ?_)))
         rcases bE (!u189.2) with h276 | h276
         ·replace hF := ifP h276 hF
          refine wl_off rfl rfl rfl h276 (wl_off rfl rfl rfl h276 (wl_off rfl rfl rfl h276 (wl_off rfl rfl rfl h276 (wl_off rfl rfl rfl h276 (wl_off rfl rfl rfl h276 (wl_off rfl rfl rfl h276 (wl_off rfl rfl rfl h276 (wl_pick_t rfl rfl h276 rfl (WL.nil ?_)))))))))
          exact fun a ha => hJ204 (true) _ hF hB194 (hS195.sel [1, 2, 3, 4, 0] rfl) a (ha.sub ⟨rfl, rfl, rfl, rfl, rfl, rfl, rfl, rfl, rfl, rfl, rfl, rfl, rfl, rfl, trivial⟩)
         ·replace hF := ifN h276 hF
          refine wl_on rfl rfl h276 (wl_move rfl rfl (wl_on rfl rfl h276 (wl_lenr (e := ty_70) (l := u189.1) Try.underlying64 rfl rfl (hS195.own_ro (i := 0) rfl) (wl_on rfl rfl h276 (wl_field (o := 0) (off' := 0) ff_53_0 rfl rfl rfl (wl_on rfl rfl h276 (wl_load_blk (i := 3) (vs := [v73]) (v := v73) tf_51 rfl rfl hS195 rfl rfl rfl (wl_on rfl rfl h276 ?_))))))))
          obtain ⟨u277, hu277, hF⟩ := bindE hF
          refine wl_indexo (e := ty_63) (i := 1) Try.underlying51 rfl rfl rfl hS195 rfl hu277 ?_
          rintro p278 _ ⟨v280, rfl, hv281⟩ hp279 ho282
          refine wl_on rfl rfl h276 (wl_load_p (vs := [v280]) (v := v280) tf_63 rfl rfl hp279 rfl rfl (wl_on rfl rfl h276 (wl_lenr (e := ty_68) (l := u277) Try.underlying63 rfl rfl hv281 (wl_on rfl rfl h276 (wl_neq rfl rfl rfl (wl_pick_f rfl rfl h276 rfl (WL.nil ?_)))))))
          exact fun a ha => hJ204 (((List.length u189.1 : Int) != (List.length u277 : Int))) _ hF hB194 (hS195.sel [1, 2, 3, 4, 0] rfl) a (ha.sub ⟨rfl, rfl, rfl, rfl, rfl, rfl, rfl, rfl, rfl, rfl, rfl, rfl, rfl, rfl, trivial⟩)
        ·replace hF := ifN h185 hF
         refine W.exit fun a ha => hK172 _ _ (W.seq fun K283 hK283 => (W.seq fun K284 hK284 => ?_)) a ha
         obtain ⟨k289, hk289, hF⟩ := jE1 hF
         have hJ290 : ∀ (y288 : Bool) (w285 : World) (_ : k289 y288 = some r) (_ : Below w0.heap.size w0 w285) (_ : Sep w0.heap.size w285 []), ∀ a, St 395 [(28, (.bool u124.2.2)), (29, (.int .i64 u131.1)), (30, (.int .i64 u131.2.1)), (34, (.int .i64 u145.1)), (381, (.bool y288))] a → K284 a w285 := by
          intro y288 w285 hF hB286 hS287
          subst hk289
          refine fun a ha => hK284 _ _ (W.cond rfl (fun h291 => ?_) (fun h291 => ?_)) a ha
          ·replace hF := ifP h291 hF
           refine W.seq fun K292 hK292 => W.region (wl_assign rfl rfl (WL.nil (fun a ha => hK292 _ _ (W.ret ?_) a ha)))
           have hr := Option.some.inj hF
           subst hr
           exact rets (vs := [(.bool false)]) hQ rfl ⟨rv_tmp rfl, trivial⟩ ⟨rfl, hB286⟩
          ·replace hF := ifN h291 hF
           refine W.skip fun a ha => hK283 _ _ (W.seq fun K293 hK293 => (W.seq fun K294 hK294 => (W.region (wl_move rfl rfl (wl_eql rfl rfl rfl (WL.nil (fun a ha => hK294 _ _ (W.cond rfl (fun h295 => ?_) (fun h295 => ?_)) a ha))))))) a ha
           ·replace hF := ifP h295 hF
            refine W.seq fun K296 hK296 => W.region (wl_assign rfl rfl (WL.nil (fun a ha => hK296 _ _ (W.ret ?_) a ha)))
            have hr := Option.some.inj hF
            subst hr
            exact rets (vs := [(.bool true)]) hQ rfl ⟨rv_tmp rfl, trivial⟩ ⟨rfl, hB286⟩
           ·replace hF := ifN h295 hF
            refine W.skip fun a ha => hK293 _ _ (W.seq fun K297 hK297 => ?_) a ha
            obtain ⟨k302, hk302, hF⟩ := jE1 hF
            have hJ303 : ∀ (y301 : Bool) (w298 : World) (_ : k302 y301 = some r) (_ : Below w0.heap.size w0 w298) (_ : Sep w0.heap.size w298 []), ∀ a, St 395 [(4, (.bool y301))] a → K297 a w298 := by
             intro y301 w298 hF hB299 hS300
             subst hk302
             refine fun a ha => hK297 _ _ (W.ret ?_) a ha
             have hr := Option.some.inj hF
             subst hr
             exact rets (vs := [(.bool y301)]) hQ rfl ⟨rv_tmp rfl, trivial⟩ ⟨rfl, hB299⟩
            refine W.region (wl_move rfl rfl (wl_move rfl rfl ?_))
            rcases bE u124.2.2 with h304 | h304
            ·replace hF := ifP h304 hF
             refine wl_on rfl rfl h304 (wl_move rfl rfl (wl_on rfl rfl h304 (wl_move rfl rfl (wl_on rfl rfl h304 (wl_move rfl rfl (wl_on rfl rfl h304 (wl_add rfl rfl rfl (wl_on rfl rfl h304 (wl_move rfl rfl (wl_on rfl rfl h304 (wl_add rfl rfl rfl (wl_on rfl rfl h304 (wl_mul rfl rfl rfl ?_)))))))))))))
             refine wl_on rfl rfl h304 ?_
             obtain ⟨u305, hu305, hF⟩ := bindE hF
             refine wl_call rfl Try.call53 (C_laws_qLess w285 u131.1 u131.2.1 (w64 ((w64 (u145.1 + 1)) * (w64 (u145.1 + 1)))) 1 _ hu305) rfl ?_
             rintro _ w306 ⟨rfl, hb307⟩
             refine ⟨_, rfl, ?_⟩
             have hB308 := hB286.trans (hb307.mono hB286.size)
             have hS309 := hS287.below hb307
             refine wl_pick_t rfl rfl h304 rfl (wl_assign rfl rfl (WL.nil ?_))
             exact fun a ha => hJ303 (u305) _ hF hB308 (hS309.sel [] rfl) a (ha.sub ⟨rfl, trivial⟩)
            ·replace hF := ifN h304 hF
             refine wl_off rfl rfl rfl h304 (wl_off rfl rfl rfl h304 (wl_off rfl rfl rfl h304 (wl_off rfl rfl rfl h304 (wl_off rfl rfl rfl h304 (wl_off rfl rfl rfl h304 (wl_off rfl rfl rfl h304 (wl_off rfl rfl rfl h304 (wl_pick_f rfl rfl h304 rfl (wl_assign rfl rfl (WL.nil ?_))))))))))
             exact fun a ha => hJ303 (false) _ hF hB286 (hS287.sel [] rfl) a (ha.sub ⟨rfl, trivial⟩)
         refine W.region (wl_move rfl rfl (wl_move rfl rfl ?_))
         obtain ⟨u311, hu311, hF⟩ := bindE hF
         refine wl_call rfl Try.call52 (C_laws_qSum w174 u101.1 v102 (hS176.own_ro (i := 3) rfl) _ hu311) rfl ?_
         rintro _ w312 ⟨rfl, hb313⟩
         refine ⟨_, rfl, ?_⟩
         have hB314 := hB175.trans (hb313.mono hB175.size)
         have hS315 := hS176.below hb313
         refine wl_neq rfl rfl rfl (wl_move rfl rfl ?_)
         rcases bE (y177 != u311) with h317 | h317
         ·replace hF := ifP h317 hF
          refine wl_off rfl rfl rfl h317 (wl_off rfl rfl rfl h317 (wl_off rfl rfl rfl h317 (wl_pick_t rfl rfl h317 rfl (wl_move rfl rfl (wl_off rfl rfl rfl rfl (wl_off rfl rfl rfl rfl (wl_off rfl rfl rfl rfl (wl_off rfl rfl rfl rfl (wl_off rfl rfl rfl rfl (wl_off rfl rfl rfl rfl (wl_off rfl rfl rfl rfl (wl_off rfl rfl rfl rfl (wl_pick_t rfl rfl rfl rfl ?_)))))))))))))
          refine wl_move rfl rfl (wl_off rfl rfl rfl rfl (wl_off rfl rfl rfl rfl (wl_offu rfl rfl rfl (wl_offu rfl rfl rfl (wl_offu rfl rfl rfl (wl_offu rfl rfl rfl (wl_offu rfl rfl rfl (wl_offu rfl rfl rfl (wl_off rfl rfl rfl rfl (wl_pick_t rfl rfl rfl rfl (WL.nil ?_)))))))))))
          exact fun a ha => hJ290 (true) _ hF hB314 (hS315.sel [] rfl) a (ha.sub ⟨rfl, rfl, rfl, rfl, rfl, trivial⟩)
         ·replace hF := ifN h317 hF
          refine wl_on rfl rfl h317 (wl_move rfl rfl (wl_on rfl rfl h317 (wl_move rfl rfl (wl_on rfl rfl h317 (wl_neq rfl rfl rfl (wl_pick_f rfl rfl h317 rfl (wl_move rfl rfl ?_)))))))
          rcases bE (y178 != u117.2.1) with h318 | h318
          ·replace hF := ifP h318 hF
           refine wl_off rfl rfl rfl h318 (wl_off rfl rfl rfl h318 (wl_off rfl rfl rfl h318 (wl_off rfl rfl rfl h318 (wl_off rfl rfl rfl h318 (wl_off rfl rfl rfl h318 (wl_off rfl rfl rfl h318 (wl_off rfl rfl rfl h318 (wl_pick_t rfl rfl h318 rfl (wl_move rfl rfl (wl_off rfl rfl rfl rfl (wl_off rfl rfl rfl rfl (wl_offu rfl rfl rfl (wl_offu rfl rfl rfl ?_)))))))))))))
           refine wl_offu rfl rfl rfl (wl_offu rfl rfl rfl (wl_offu rfl rfl rfl (wl_offu rfl rfl rfl (wl_off rfl rfl rfl rfl (wl_pick_t rfl rfl rfl rfl (WL.nil ?_))))))
           exact fun a ha => hJ290 (true) _ hF hB314 (hS315.sel [] rfl) a (ha.sub ⟨rfl, rfl, rfl, rfl, rfl, trivial⟩)
          ·replace hF := ifN h318 hF
           refine wl_on rfl rfl h318 (wl_move rfl rfl (wl_on rfl rfl h318 (wl_field (o := 0) (off' := 0) ff_53_0 rfl rfl rfl (wl_on rfl rfl h318 (wl_load_blk (i := 2) (vs := [v73]) (v := v73) tf_51 rfl rfl hS315 rfl rfl rfl (wl_on rfl rfl h318 ?_))))))
           obtain ⟨u319, hu319, hF⟩ := bindE hF
           refine wl_indexo (e := ty_63) (i := 0) Try.underlying51 rfl rfl rfl hS315 rfl hu319 ?_
           rintro p320 _ ⟨v322, rfl, hv323⟩ hp321 ho324
           refine wl_on rfl rfl h318 (wl_load_p (vs := [v322]) (v := v322) tf_63 rfl rfl hp321 rfl rfl (wl_on rfl rfl h318 (wl_lenr (e := ty_68) (l := u319) Try.underlying63 rfl rfl hv323 (wl_on rfl rfl h318 (wl_gtr rfl rfl rfl (wl_on rfl rfl h318 (wl_neqb Try.underlying4 rfl rfl rfl (wl_pick_f rfl rfl h318 rfl (wl_move rfl rfl ?_)))))))))
           rcases bE (u124.2.2 != (decide (1 < (List.length u319 : Int)))) with h325 | h325
           ·replace hF := ifP h325 hF
            refine wl_off rfl rfl rfl h325 (wl_off rfl rfl rfl h325 (wl_offu rfl rfl rfl (wl_offu rfl rfl rfl (wl_offu rfl rfl rfl (wl_offu rfl rfl rfl (wl_offu rfl rfl rfl (wl_offu rfl rfl rfl (wl_off rfl rfl rfl h325 (wl_pick_t rfl rfl h325 rfl (WL.nil ?_))))))))))
            exact fun a ha => hJ290 (true) _ hF hB314 (hS315.sel [] rfl) a (ha.sub ⟨rfl, rfl, rfl, rfl, rfl, trivial⟩)
           ·replace hF := ifN h325 hF
            refine wl_on rfl rfl h325 (wl_move rfl rfl (wl_on rfl rfl h325 (wl_move rfl rfl ?_)))
            rcases bE u124.2.2 with h326 | h326
            ·replace hF := ifP h326 hF
             refine wl_on rfl rfl h326 (wl_move rfl rfl (wl_on rfl rfl h326 (wl_move rfl rfl (wl_on rfl rfl h326 (wl_move rfl rfl (wl_on rfl rfl h326 (wl_move rfl rfl (wl_on rfl rfl h326 (wl_mul rfl rfl rfl (wl_on rfl rfl h326 ?_))))))))))
             obtain ⟨u327, hu327, hF⟩ := bindE hF
             refine wl_call rfl Try.call53 (C_laws_qLess w312 u131.1 u131.2.1 (w64 (u145.1 * u145.1)) 1 _ hu327) rfl ?_
             rintro _ w328 ⟨rfl, hb329⟩
             refine ⟨_, rfl, ?_⟩
             have hB330 := hB314.trans (hb329.mono hB314.size)
             have hS331 := hS315.below hb329
             have hv323 := hv323.ro hb329
             refine wl_on rfl rfl h325 (wl_pick_t rfl rfl h326 rfl (wl_pick_f rfl rfl h325 rfl (WL.nil ?_)))
             exact fun a ha => hJ290 (u327) _ hF hB330 (hS331.sel [] rfl) a (ha.sub ⟨rfl, rfl, rfl, rfl, rfl, trivial⟩)
            ·replace hF := ifN h326 hF
             refine wl_off rfl rfl rfl h326 (wl_off rfl rfl rfl h326 (wl_off rfl rfl rfl h326 (wl_off rfl rfl rfl h326 (wl_off rfl rfl rfl h326 (wl_off rfl rfl rfl h326 (wl_on rfl rfl h325 (wl_pick_f rfl rfl h326 rfl (wl_pick_f rfl rfl h325 rfl (WL.nil ?_)))))))))
             exact fun a ha => hJ290 (false) _ hF hB314 (hS315.sel [] rfl) a (ha.sub ⟨rfl, rfl, rfl, rfl, rfl, trivial⟩)
    refine W.seq fun K333 hK333 => W.region (wl_move rfl rfl (WL.nil (fun a ha => hK333 _ _ (W.cond rfl (fun h334 => ?_) (fun h334 => ?_)) a ha)))
    ·replace hF := ifP h334 hF
     refine W.seq fun K335 hK335 => W.seq fun K336 hK336 => W.region (wl_field (o := 0) (off' := 0) ff_53_0 rfl rfl rfl (wl_load_blk (i := 2) (vs := [v8]) (v := v8) tf_51 rfl rfl hS155 rfl rfl rfl (wl_lenr (e := ty_63) (l := u7.1.1) Try.underlying51 rfl rfl (hS155.own_ro (i := 0) rfl) (wl_move rfl rfl (WL.nil (fun a ha => hK336 _ _ (W.block ?_) a ha))))))
     refine W.loopk (fun m a w337 => ∃ (y340 : Int), St 395 [(5, (.pointer (some ⟨b21, 0, none⟩))), (6, (.pointer (some ⟨b26, 0, none⟩))), (9, v50), (13, (.bool u65.1)), (15, (.pointer (some ⟨b82, 0, none⟩))), (17, (.bool u92.2)), (18, v102), (24, (.int .i64 u117.2.1)), (28, (.bool u124.2.2)), (29, (.int .i64 u131.1)), (30, (.int .i64 u131.2.1)), (34, (.int .i64 u145.1)), (224, (.int .i64 (List.length u7.1.1 : Int))), (225, (.int .i64 y340))] a ∧ Below w0.heap.size w0 w337 ∧ Sep w0.heap.size w337 [R.own ty_63 F9 v8 u7.1.1, R.own ty_3 F11 v10 u7.1.2.1, R.blk b21 53 [v8, v10, (.int .i64 u7.1.2.2.1), (.int .i64 u7.1.2.2.2)], R.own ty_63 F13 v12 u7.2.1, R.own ty_3 F15 v14 u7.2.2.1, R.blk b26 53 [v12, v14, (.int .i64 u7.2.2.2.1), (.int .i64 u7.2.2.2.2)], R.own ty_3 F51 v50 u49.1, R.own ty_63 F74 v73 u72.1, R.own ty_3 F76 v75 u72.2.1, R.blk b82 53 [v73, v75, (.int .i64 u72.2.2.1), (.int .i64 u72.2.2.2)], R.own ty_3 F103 v102 u101.1] ∧ F_laws_FnCompared_L1 u7 u49 k165 u65 m y340 = some r) FU ?_ ?_
     ·
      exact fun a ha => ⟨0, ha.sub ⟨rfl, rfl, rfl, rfl, rfl, rfl, rfl, rfl, rfl, rfl, rfl, rfl, rfl, rfl, trivial⟩, hB154, (hS155.sel [0, 1, 2, 3, 4, 5, 6, 7, 8, 9, 10] rfl), hF⟩
     ·
      rintro m343 a w337 ⟨y340, ha, hB338, hS339, hF⟩ KL342 hKL342
      refine W.at ?_ ha
      cases m343 with
      | zero => exact noneE hF
      | succ m343 =>
       obtain ⟨nx341, hnx341⟩ : ∃ k, k = F_laws_FnCompared_L1 u7 u49 k165 u65 m343 := ⟨_, rfl⟩
       rw [F_laws_FnCompared_L1, ← hnx341] at hF
       refine W.seq fun K344 hK344 => W.region (wl_lss rfl rfl rfl (WL.nil (fun a ha => hK344 _ _ (W.seq fun K345 hK345 => (W.cond rfl (fun h346 => ?_) (fun h346 => ?_))) a ha)))
       ·replace hF := ifP h346 hF
        refine W.skip fun a ha => hK345 _ _ (W.seq fun K347 hK347 => (W.block (W.seq fun K348 hK348 => (W.region (wl_move rfl rfl (wl_assign rfl rfl (WL.nil (fun a ha => hK348 _ _ (W.seq fun K349 hK349 => (W.regionH mixed_ [] hB338 hS339 ?_)) a ha)))))))) a ha
        intro w350 hb351 hB352 hS353
        have hSW354 := KeepX.refl w350 []
        refine WH.tk 0 rfl hP hSW354 (pr_move rfl rfl (WH.tk 1 rfl hP hSW354 (pr_move rfl rfl (WH.tk 3 rfl hP hSW354 (pr_field (o := 0) (off' := 0) ff_53_0 rfl rfl rfl (WH.tk 4 rfl hP hSW354 (pr_load_blk (i := 2) (vs := [v8]) (v := v8) tf_51 rfl rfl hS353 rfl rfl rfl (by simp) (WH.tk 5 rfl hP hSW354 (pr_move rfl rfl ?_)))))))))
        obtain ⟨u355, hu355, hF⟩ := bindE hF
        refine WH.tk 6 rfl hP hSW354 (pr_indexo (e := ty_63) (i := 0) Try.underlying51 rfl rfl rfl hS353 rfl hu355 ?_)
        rintro p356 _ ⟨v358, rfl, hv359⟩ hp357 ho360
        refine WH.tk 7 rfl hP hSW354 (pr_load_p (vs := [v358]) (v := v358) tf_63 rfl rfl (hp357.kx0) rfl rfl (WH.tk 8 rfl hP hSW354 (pr_field (o := 0) (off' := 0) ff_53_0 rfl rfl rfl (WH.tk 9 rfl hP hSW354 (pr_load_blk (i := 5) (vs := [v12]) (v := v12) tf_51 rfl rfl hS353 rfl rfl rfl (by simp) (WH.tk 10 rfl hP hSW354 (pr_move rfl rfl ?_)))))))
        obtain ⟨u361, hu361, hF⟩ := bindE hF
        refine WH.tk 11 rfl hP hSW354 (pr_indexo (e := ty_63) (i := 3) Try.underlying51 rfl rfl rfl hS353 rfl hu361 ?_)
        rintro p362 _ ⟨v364, rfl, hv365⟩ hp363 ho366
        refine WH.tk 12 rfl hP hSW354 (pr_load_p (vs := [v364]) (v := v364) tf_63 rfl rfl (hp363.kx0) rfl rfl (WH.on1 2 rfl ?_))
        obtain ⟨u367, hu367, hF⟩ := bindE hF
        refine wl_call rfl Try.call28 (C_laws_qHas w350 u49.1 v50 (hS353.own_ro (i := 6) rfl) y340 _ hu367) rfl ?_
        rintro _ w368 ⟨rfl, hb369⟩
        refine ⟨_, rfl, ?_⟩
        have hB370 := hB352.trans (hb369.mono hB352.size)
        have hS371 := hS353.below hb369
        have hSW373 := hSW354.ext hb369
        refine WL.nil (WH.ret hSW373 (WH.on1 13 rfl ?_))
        obtain ⟨u374, hu374, hF⟩ := bindE hF
        refine wl_call rfl Try.call48 (C_laws_qSpots w368 u355 v358 (hv359.ro (hSW373.below hB352 hB370)) u361 v364 (hv365.ro (hSW373.below hB352 hB370)) _ hu374) rfl ?_
        rintro _ w375 ⟨rfl, hb376⟩
        refine ⟨_, rfl, ?_⟩
        have hB377 := hB370.trans (hb376.mono hB370.size)
        have hS378 := hS371.below hb376
        have hSW380 := hSW373.ext hb376
        refine WL.nil (WH.ret hSW380 (WH.tk 14 rfl hP hSW380 (pr_not rfl rfl (WH.tk 15 rfl hP hSW380 (pr_neqb Try.underlying4 rfl rfl rfl (WH.done (by kernel_rfl) (fun a ha => hK349 _ _ (W.cond rfl (fun h381 => ?_) (fun h381 => ?_)) a ha)))))))
        ·replace hF := ifP h381 hF
         refine W.seq fun K382 hK382 => W.region (wl_assign rfl rfl (WL.nil (fun a ha => hK382 _ _ (W.ret ?_) a ha)))
         have hr := Option.some.inj hF
         subst hr
         exact rets (vs := [(.bool false)]) hQ rfl ⟨rv_tmp rfl, trivial⟩ ⟨rfl, hB377⟩
        ·replace hF := ifN h381 hF
         refine W.skip fun a ha => hK347 _ _ (W.region (wl_add rfl rfl rfl (wl_move rfl rfl (WL.nil ?_)))) a ha
         rw [hnx341] at hF
         exact fun a ha => hKL342 a _ m343 (Nat.lt_succ_self m343) ⟨(w64 (y340 + 1)), ha.sub ⟨rfl, rfl, rfl, rfl, rfl, rfl, rfl, rfl, rfl, rfl, rfl, rfl, rfl, rfl, trivial⟩, hB377, (hS378.sel [0, 1, 2, 3, 4, 5, 6, 7, 8, 9, 10] rfl), hF⟩
       ·replace hF := ifN h346 hF
        refine W.exit fun a ha => hK335 _ _ (W.seq fun K383 hK383 => (W.seq fun K384 hK384 => ?_)) a ha
        obtain ⟨k389, hk389, hF⟩ := jE1 hF
        have hJ390 : ∀ (y388 : Bool) (w385 : World) (_ : k389 y388 = some r) (_ : Below w0.heap.size w0 w385) (_ : Sep w0.heap.size w385 [R.own ty_63 F9 v8 u7.1.1, R.own ty_3 F11 v10 u7.1.2.1, R.blk b21 53 [v8, v10, (.int .i64 u7.1.2.2.1), (.int .i64 u7.1.2.2.2)], R.own ty_63 F13 v12 u7.2.1, R.own ty_3 F15 v14 u7.2.2.1, R.blk b26 53 [v12, v14, (.int .i64 u7.2.2.2.1), (.int .i64 u7.2.2.2.2)], R.own ty_63 F74 v73 u72.1, R.own ty_3 F76 v75 u72.2.1, R.blk b82 53 [v73, v75, (.int .i64 u72.2.2.1), (.int .i64 u72.2.2.2)], R.own ty_3 F103 v102 u101.1]), ∀ a, St 395 [(5, (.pointer (some ⟨b21, 0, none⟩))), (6, (.pointer (some ⟨b26, 0, none⟩))), (13, (.bool u65.1)), (15, (.pointer (some ⟨b82, 0, none⟩))), (17, (.bool u92.2)), (18, v102), (24, (.int .i64 u117.2.1)), (28, (.bool u124.2.2)), (29, (.int .i64 u131.1)), (30, (.int .i64 u131.2.1)), (34, (.int .i64 u145.1)), (250, (.bool y388))] a → K384 a w385 := by
         intro y388 w385 hF hB386 hS387
         subst hk389
         refine fun a ha => hK384 _ _ (W.cond rfl (fun h391 => ?_) (fun h391 => ?_)) a ha
         ·replace hF := ifP h391 hF
          refine W.seq fun K392 hK392 => W.region (wl_assign rfl rfl (WL.nil (fun a ha => hK392 _ _ (W.ret ?_) a ha)))
          have hr := Option.some.inj hF
          subst hr
          exact rets (vs := [(.bool false)]) hQ rfl ⟨rv_tmp rfl, trivial⟩ ⟨rfl, hB386⟩
         ·replace hF := ifN h391 hF
          refine W.skip fun a ha => hK383 _ _ (W.seq fun K393 hK393 => (W.region (wl_load_blk (i := 2) (vs := [v8, v10, (.int .i64 u7.1.2.2.1), (.int .i64 u7.1.2.2.2)]) (v := (.agg #[v8, v10, (.int .i64 u7.1.2.2.1), (.int .i64 u7.1.2.2.2)])) tf_53 rfl rfl hS387 rfl rfl rfl (wl_load_blk (i := 2) (vs := [v8, v10, (.int .i64 u7.1.2.2.1), (.int .i64 u7.1.2.2.2)]) (v := (.agg #[v8, v10, (.int .i64 u7.1.2.2.1), (.int .i64 u7.1.2.2.2)])) tf_53 rfl rfl hS387 rfl rfl rfl ?_)))) a ha
          obtain ⟨u394, hu394, hF⟩ := bindE hF
          refine wl_call rfl Try.call37 (C_impl_SameShows w385 u7.1 v8 (hS387.own_ro (i := 0) rfl) v10 (hS387.own_ro (i := 1) rfl) u7.1 v8 (hS387.own_ro (i := 0) rfl) v10 (hS387.own_ro (i := 1) rfl) _ hu394) rfl ?_
          rintro _ w395 ⟨rfl, hb396⟩
          refine ⟨_, rfl, ?_⟩
          have hB397 := hB386.trans (hb396.mono hB386.size)
          have hS398 := hS387.below hb396
          refine wl_move rfl rfl (wl_extract rfl rfl rfl (wl_extract rfl rfl rfl (wl_assign rfl rfl (wl_assign rfl rfl (WL.nil (fun a ha => hK393 _ _ (W.seq fun K400 hK400 => (W.region (wl_load_blk (i := 5) (vs := [v12, v14, (.int .i64 u7.2.2.2.1), (.int .i64 u7.2.2.2.2)]) (v := (.agg #[v12, v14, (.int .i64 u7.2.2.2.1), (.int .i64 u7.2.2.2.2)])) tf_53 rfl rfl hS398 rfl rfl rfl (wl_load_blk (i := 2) (vs := [v8, v10, (.int .i64 u7.1.2.2.1), (.int .i64 u7.1.2.2.2)]) (v := (.agg #[v8, v10, (.int .i64 u7.1.2.2.1), (.int .i64 u7.1.2.2.2)])) tf_53 rfl rfl hS398 rfl rfl rfl ?_)))) a ha))))))
          obtain ⟨u401, hu401, hF⟩ := bindE hF
          refine wl_call rfl Try.call37 (C_impl_SameShows w395 u7.2 v12 (hS398.own_ro (i := 3) rfl) v14 (hS398.own_ro (i := 4) rfl) u7.1 v8 (hS398.own_ro (i := 0) rfl) v10 (hS398.own_ro (i := 1) rfl) _ hu401) rfl ?_
          rintro _ w402 ⟨rfl, hb403⟩
          refine ⟨_, rfl, ?_⟩
          have hB404 := hB397.trans (hb403.mono hB397.size)
          have hS405 := hS398.below hb403
          refine wl_move rfl rfl (wl_extract rfl rfl rfl (wl_extract rfl rfl rfl (wl_assign rfl rfl (wl_assign rfl rfl (WL.nil (fun a ha => hK400 _ _ (W.seq fun K407 hK407 => ?_) a ha))))))
          obtain ⟨k412, hk412, hF⟩ := jE1 hF
          have hJ413 : ∀ (y411 : Bool) (w408 : World) (_ : k412 y411 = some r) (_ : Below w0.heap.size w0 w408) (_ : Sep w0.heap.size w408 [R.own ty_63 F74 v73 u72.1, R.own ty_3 F76 v75 u72.2.1, R.blk b82 53 [v73, v75, (.int .i64 u72.2.2.1), (.int .i64 u72.2.2.2)], R.own ty_3 F103 v102 u101.1]), ∀ a, St 395 [(15, (.pointer (some ⟨b82, 0, none⟩))), (17, (.bool u92.2)), (18, v102), (24, (.int .i64 u117.2.1)), (28, (.bool u124.2.2)), (29, (.int .i64 u131.1)), (30, (.int .i64 u131.2.1)), (34, (.int .i64 u145.1)), (277, (.bool y411))] a → K407 a w408 := by
           intro y411 w408 hF hB409 hS410
           subst hk412
           refine fun a ha => hK407 _ _ (W.cond rfl (fun h414 => ?_) (fun h414 => ?_)) a ha
           ·replace hF := ifP h414 hF
            refine W.seq fun K415 hK415 => W.region (wl_assign rfl rfl (WL.nil (fun a ha => hK415 _ _ (W.ret ?_) a ha)))
            have hr := Option.some.inj hF
            subst hr
            exact rets (vs := [(.bool false)]) hQ rfl ⟨rv_tmp rfl, trivial⟩ ⟨rfl, hB409⟩
           ·replace hF := ifN h414 hF
            refine W.skip ?_
            exact fun a ha => hJ166 _ hF hB409 (hS410.sel [0, 1, 2, 3] rfl) a (ha.sub ⟨rfl, rfl, rfl, rfl, rfl, rfl, rfl, rfl, trivial⟩)
          refine W.region (wl_move rfl rfl (wl_not rfl rfl (wl_move rfl rfl ?_)))
          rcases bE (!u394.2) with h416 | h416
          ·replace hF := ifP h416 hF
           refine wl_off rfl rfl rfl h416 (wl_off rfl rfl rfl h416 (wl_pick_t rfl rfl h416 rfl (wl_move rfl rfl (wl_off rfl rfl rfl rfl (wl_off rfl rfl rfl rfl (wl_pick_t rfl rfl rfl rfl (wl_move rfl rfl (wl_off rfl rfl rfl rfl (wl_off rfl rfl rfl rfl (wl_off rfl rfl rfl rfl (wl_pick_t rfl rfl rfl rfl (WL.nil ?_))))))))))))
           exact fun a ha => hJ413 (true) _ hF hB404 (hS405.sel [6, 7, 8, 9] rfl) a (ha.sub ⟨rfl, rfl, rfl, rfl, rfl, rfl, rfl, rfl, rfl, trivial⟩)
          ·replace hF := ifN h416 hF
           refine wl_on rfl rfl h416 (wl_move rfl rfl (wl_on rfl rfl h416 (wl_not rfl rfl (wl_pick_f rfl rfl h416 rfl (wl_move rfl rfl ?_)))))
           rcases bE (!u394.1) with h417 | h417
           ·replace hF := ifP h417 hF
            refine wl_off rfl rfl rfl h417 (wl_off rfl rfl rfl h417 (wl_pick_t rfl rfl h417 rfl (wl_move rfl rfl (wl_off rfl rfl rfl rfl (wl_off rfl rfl rfl rfl (wl_off rfl rfl rfl rfl (wl_pick_t rfl rfl rfl rfl (WL.nil ?_))))))))
            exact fun a ha => hJ413 (true) _ hF hB404 (hS405.sel [6, 7, 8, 9] rfl) a (ha.sub ⟨rfl, rfl, rfl, rfl, rfl, rfl, rfl, rfl, rfl, trivial⟩)
           ·replace hF := ifN h417 hF
            refine wl_on rfl rfl h417 (wl_move rfl rfl (wl_on rfl rfl h417 (wl_not rfl rfl (wl_pick_f rfl rfl h417 rfl (wl_move rfl rfl ?_)))))
            rcases bE (!u401.2) with h418 | h418
            ·replace hF := ifP h418 hF
             refine wl_off rfl rfl rfl h418 (wl_off rfl rfl rfl h418 (wl_off rfl rfl rfl h418 (wl_pick_t rfl rfl h418 rfl (WL.nil ?_))))
             exact fun a ha => hJ413 (true) _ hF hB404 (hS405.sel [6, 7, 8, 9] rfl) a (ha.sub ⟨rfl, rfl, rfl, rfl, rfl, rfl, rfl, rfl, rfl, trivial⟩)
            ·replace hF := ifN h418 hF
             refine wl_on rfl rfl h418 (wl_move rfl rfl (wl_on rfl rfl h418 (wl_move rfl rfl (wl_on rfl rfl h418 (wl_neqb Try.underlying4 rfl rfl rfl (wl_pick_f rfl rfl h418 rfl (WL.nil ?_)))))))
             exact fun a ha => hJ413 ((u401.1 != u65.1)) _ hF hB404 (hS405.sel [6, 7, 8, 9] rfl) a (ha.sub ⟨rfl, rfl, rfl, rfl, rfl, rfl, rfl, rfl, rfl, trivial⟩)
        refine W.region (wl_move rfl rfl (wl_move rfl rfl ?_))
        rcases bE u65.1 with h419 | h419
        ·replace hF := ifP h419 hF
         refine wl_on rfl rfl h419 (wl_move rfl rfl (wl_on rfl rfl h419 (wl_lenr (e := ty_3) (l := u49.1) Try.underlying29 rfl rfl (hS339.own_ro (i := 6) rfl) (wl_on rfl rfl h419 (wl_gtr rfl rfl rfl (wl_pick_t rfl rfl h419 rfl (WL.nil ?_)))))))
         exact fun a ha => hJ390 ((decide (0 < (List.length u49.1 : Int)))) _ hF hB338 (hS339.sel [0, 1, 2, 3, 4, 5, 7, 8, 9, 10] rfl) a (ha.sub ⟨rfl, rfl, rfl, rfl, rfl, rfl, rfl, rfl, rfl, rfl, rfl, rfl, trivial⟩)
        ·replace hF := ifN h419 hF
         refine wl_off rfl rfl rfl h419 (wl_off rfl rfl rfl h419 (wl_off rfl rfl rfl h419 (wl_pick_f rfl rfl h419 rfl (WL.nil ?_))))
         exact fun a ha => hJ390 (false) _ hF hB338 (hS339.sel [0, 1, 2, 3, 4, 5, 7, 8, 9, 10] rfl) a (ha.sub ⟨rfl, rfl, rfl, rfl, rfl, rfl, rfl, rfl, rfl, rfl, rfl, rfl, trivial⟩)
    ·replace hF := ifN h334 hF
     refine W.skip ?_
     exact fun a ha => hJ166 _ hF hB154 (hS155.sel [7, 8, 9, 10] rfl) a (ha.sub ⟨rfl, rfl, rfl, rfl, rfl, rfl, rfl, rfl, trivial⟩)
  refine W.region (wl_move rfl rfl (wl_move rfl rfl (wl_neqb Try.underlying4 rfl rfl rfl (wl_move rfl rfl ?_))))
  rcases bE (u40.2 != u49.2) with h420 | h420
  ·replace hF := ifP h420 hF
   refine wl_off rfl rfl rfl h420 (wl_off rfl rfl rfl h420 (wl_off rfl rfl rfl h420 (wl_off rfl rfl rfl h420 (wl_pick_t rfl rfl h420 rfl (wl_move rfl rfl (wl_off rfl rfl rfl rfl (wl_off rfl rfl rfl rfl (wl_off rfl rfl rfl rfl (wl_pick_t rfl rfl rfl rfl (wl_move rfl rfl (wl_off rfl rfl rfl rfl (wl_off rfl rfl rfl rfl (wl_off rfl rfl rfl rfl ?_)))))))))))))
   refine wl_pick_t rfl rfl rfl rfl (wl_move rfl rfl (wl_off rfl rfl rfl rfl (wl_off rfl rfl rfl rfl (wl_off rfl rfl rfl rfl (wl_pick_t rfl rfl rfl rfl (wl_move rfl rfl (wl_off rfl rfl rfl rfl (wl_off rfl rfl rfl rfl (wl_off rfl rfl rfl rfl (wl_off rfl rfl rfl rfl (wl_pick_t rfl rfl rfl rfl (wl_move rfl rfl (wl_off rfl rfl rfl rfl ?_)))))))))))))
   refine wl_off rfl rfl rfl rfl (wl_off rfl rfl rfl rfl (wl_pick_t rfl rfl rfl rfl (wl_move rfl rfl (wl_off rfl rfl rfl rfl (wl_off rfl rfl rfl rfl (wl_off rfl rfl rfl rfl (wl_pick_t rfl rfl rfl rfl (wl_move rfl rfl (wl_off rfl rfl rfl rfl (wl_off rfl rfl rfl rfl (wl_off rfl rfl rfl rfl (wl_pick_t rfl rfl rfl rfl (wl_move rfl rfl ?_)))))))))))))
   refine wl_off rfl rfl rfl rfl (wl_off rfl rfl rfl rfl (wl_off rfl rfl rfl rfl (wl_pick_t rfl rfl rfl rfl (wl_move rfl rfl (wl_off rfl rfl rfl rfl (wl_off rfl rfl rfl rfl (wl_off rfl rfl rfl rfl (wl_pick_t rfl rfl rfl rfl (wl_move rfl rfl (wl_off rfl rfl rfl rfl (wl_off rfl rfl rfl rfl (wl_off rfl rfl rfl rfl (wl_pick_t rfl rfl rfl rfl ?_)))))))))))))
   refine wl_move rfl rfl (wl_off rfl rfl rfl rfl (wl_off rfl rfl rfl rfl (wl_off rfl rfl rfl rfl (wl_pick_t rfl rfl rfl rfl (wl_move rfl rfl (wl_off rfl rfl rfl rfl (wl_off rfl rfl rfl rfl (wl_off rfl rfl rfl rfl (wl_pick_t rfl rfl rfl rfl (wl_move rfl rfl (wl_off rfl rfl rfl rfl (wl_off rfl rfl rfl rfl (wl_offu rfl rfl rfl ?_)))))))))))))
   refine wl_offu rfl rfl rfl (wl_off rfl rfl rfl rfl (wl_pick_t rfl rfl rfl rfl (wl_move rfl rfl (wl_off rfl rfl rfl rfl (wl_off rfl rfl rfl rfl (wl_off rfl rfl rfl rfl (wl_pick_t rfl rfl rfl rfl (wl_move rfl rfl (wl_off rfl rfl rfl rfl (wl_off rfl rfl rfl rfl (wl_off rfl rfl rfl rfl (wl_pick_t rfl rfl rfl rfl (WL.nil ?_)))))))))))))
   exact fun a ha => hJ158 (true) _ hF hB148 (hS149.sel [9, 10, 8, 11, 12, 7, 5, 3, 4, 2, 0] rfl) a (ha.sub ⟨rfl, rfl, rfl, rfl, rfl, rfl, rfl, rfl, rfl, rfl, rfl, rfl, rfl, rfl, trivial⟩)
  ·replace hF := ifN h420 hF
   refine wl_on rfl rfl h420 (wl_move rfl rfl (wl_on rfl rfl h420 (wl_move rfl rfl (wl_on rfl rfl h420 ?_))))
   obtain ⟨u421, hu421, hF⟩ := bindE hF
   refine wl_call rfl Try.call26 (C_laws_qInts w146 u40.1 v41 (hS149.own_ro (i := 6) rfl) u49.1 v50 (hS149.own_ro (i := 5) rfl) _ hu421) rfl ?_
   rintro _ w422 ⟨rfl, hb423⟩
   refine ⟨_, rfl, ?_⟩
   have hB424 := hB148.trans (hb423.mono hB148.size)
   have hS425 := hS149.below hb423
   refine wl_on rfl rfl h420 (wl_not rfl rfl (wl_pick_f rfl rfl h420 rfl (wl_move rfl rfl ?_)))
   rcases bE (!u421) with h427 | h427
   ·replace hF := ifP h427 hF
    refine wl_off rfl rfl rfl h427 (wl_off rfl rfl rfl h427 (wl_off rfl rfl rfl h427 (wl_pick_t rfl rfl h427 rfl (wl_move rfl rfl (wl_off rfl rfl rfl rfl (wl_off rfl rfl rfl rfl (wl_off rfl rfl rfl rfl (wl_pick_t rfl rfl rfl rfl (wl_move rfl rfl (wl_off rfl rfl rfl rfl (wl_off rfl rfl rfl rfl (wl_off rfl rfl rfl rfl (wl_pick_t rfl rfl rfl rfl ?_)))))))))))))
    refine wl_move rfl rfl (wl_off rfl rfl rfl rfl (wl_off rfl rfl rfl rfl (wl_off rfl rfl rfl rfl (wl_off rfl rfl rfl rfl (wl_pick_t rfl rfl rfl rfl (wl_move rfl rfl (wl_off rfl rfl rfl rfl (wl_off rfl rfl rfl rfl (wl_off rfl rfl rfl rfl (wl_pick_t rfl rfl rfl rfl (wl_move rfl rfl (wl_off rfl rfl rfl rfl (wl_off rfl rfl rfl rfl ?_)))))))))))))
    refine wl_off rfl rfl rfl rfl (wl_pick_t rfl rfl rfl rfl (wl_move rfl rfl (wl_off rfl rfl rfl rfl (wl_off rfl rfl rfl rfl (wl_off rfl rfl rfl rfl (wl_pick_t rfl rfl rfl rfl (wl_move rfl rfl (wl_off rfl rfl rfl rfl (wl_off rfl rfl rfl rfl (wl_off rfl rfl rfl rfl (wl_pick_t rfl rfl rfl rfl (wl_move rfl rfl (wl_off rfl rfl rfl rfl ?_)))))))))))))
    refine wl_off rfl rfl rfl rfl (wl_off rfl rfl rfl rfl (wl_pick_t rfl rfl rfl rfl (wl_move rfl rfl (wl_off rfl rfl rfl rfl (wl_off rfl rfl rfl rfl (wl_off rfl rfl rfl rfl (wl_pick_t rfl rfl rfl rfl (wl_move rfl rfl (wl_off rfl rfl rfl rfl (wl_off rfl rfl rfl rfl (wl_off rfl rfl rfl rfl (wl_pick_t rfl rfl rfl rfl (wl_move rfl rfl ?_)))))))))))))
    refine wl_off rfl rfl rfl rfl (wl_off rfl rfl rfl rfl (wl_off rfl rfl rfl rfl (wl_pick_t rfl rfl rfl rfl (wl_move rfl rfl (wl_off rfl rfl rfl rfl (wl_off rfl rfl rfl rfl (wl_offu rfl rfl rfl (wl_offu rfl rfl rfl (wl_off rfl rfl rfl rfl (wl_pick_t rfl rfl rfl rfl (wl_move rfl rfl (wl_off rfl rfl rfl rfl (wl_off rfl rfl rfl rfl ?_)))))))))))))
    refine wl_off rfl rfl rfl rfl (wl_pick_t rfl rfl rfl rfl (wl_move rfl rfl (wl_off rfl rfl rfl rfl (wl_off rfl rfl rfl rfl (wl_off rfl rfl rfl rfl (wl_pick_t rfl rfl rfl rfl (WL.nil ?_)))))))
    exact fun a ha => hJ158 (true) _ hF hB424 (hS425.sel [9, 10, 8, 11, 12, 7, 5, 3, 4, 2, 0] rfl) a (ha.sub ⟨rfl, rfl, rfl, rfl, rfl, rfl, rfl, rfl, rfl, rfl, rfl, rfl, rfl, rfl, trivial⟩)
   ·replace hF := ifN h427 hF
    refine wl_on rfl rfl h427 (wl_move rfl rfl (wl_on rfl rfl h427 (wl_move rfl rfl (wl_on rfl rfl h427 (wl_neqb Try.underlying4 rfl rfl rfl (wl_pick_f rfl rfl h427 rfl (wl_move rfl rfl ?_)))))))
    rcases bE (u58.2 != u65.2) with h428 | h428
    ·replace hF := ifP h428 hF
     refine wl_off rfl rfl rfl h428 (wl_off rfl rfl rfl h428 (wl_off rfl rfl rfl h428 (wl_pick_t rfl rfl h428 rfl (wl_move rfl rfl (wl_off rfl rfl rfl rfl (wl_off rfl rfl rfl rfl (wl_off rfl rfl rfl rfl (wl_pick_t rfl rfl rfl rfl (wl_move rfl rfl (wl_off rfl rfl rfl rfl (wl_off rfl rfl rfl rfl (wl_off rfl rfl rfl rfl (wl_off rfl rfl rfl rfl ?_)))))))))))))
     refine wl_pick_t rfl rfl rfl rfl (wl_move rfl rfl (wl_off rfl rfl rfl rfl (wl_off rfl rfl rfl rfl (wl_off rfl rfl rfl rfl (wl_pick_t rfl rfl rfl rfl (wl_move rfl rfl (wl_off rfl rfl rfl rfl (wl_off rfl rfl rfl rfl (wl_off rfl rfl rfl rfl (wl_pick_t rfl rfl rfl rfl (wl_move rfl rfl (wl_off rfl rfl rfl rfl (wl_off rfl rfl rfl rfl ?_)))))))))))))
     refine wl_off rfl rfl rfl rfl (wl_pick_t rfl rfl rfl rfl (wl_move rfl rfl (wl_off rfl rfl rfl rfl (wl_off rfl rfl rfl rfl (wl_off rfl rfl rfl rfl (wl_pick_t rfl rfl rfl rfl (wl_move rfl rfl (wl_off rfl rfl rfl rfl (wl_off rfl rfl rfl rfl (wl_off rfl rfl rfl rfl (wl_pick_t rfl rfl rfl rfl (wl_move rfl rfl (wl_off rfl rfl rfl rfl ?_)))))))))))))
     refine wl_off rfl rfl rfl rfl (wl_off rfl rfl rfl rfl (wl_pick_t rfl rfl rfl rfl (wl_move rfl rfl (wl_off rfl rfl rfl rfl (wl_off rfl rfl rfl rfl (wl_off rfl rfl rfl rfl (wl_pick_t rfl rfl rfl rfl (wl_move rfl rfl (wl_off rfl rfl rfl rfl (wl_off rfl rfl rfl rfl (wl_off rfl rfl rfl rfl (wl_pick_t rfl rfl rfl rfl (wl_move rfl rfl ?_)))))))))))))
     refine wl_off rfl rfl rfl rfl (wl_off rfl rfl rfl rfl (wl_offu rfl rfl rfl (wl_offu rfl rfl rfl (wl_off rfl rfl rfl rfl (wl_pick_t rfl rfl rfl rfl (wl_move rfl rfl (wl_off rfl rfl rfl rfl (wl_off rfl rfl rfl rfl (wl_off rfl rfl rfl rfl (wl_pick_t rfl rfl rfl rfl (wl_move rfl rfl (wl_off rfl rfl rfl rfl (wl_off rfl rfl rfl rfl ?_)))))))))))))
     refine wl_off rfl rfl rfl rfl (wl_pick_t rfl rfl rfl rfl (WL.nil ?_))
     exact fun a ha => hJ158 (true) _ hF hB424 (hS425.sel [9, 10, 8, 11, 12, 7, 5, 3, 4, 2, 0] rfl) a (ha.sub ⟨rfl, rfl, rfl, rfl, rfl, rfl, rfl, rfl, rfl, rfl, rfl, rfl, rfl, rfl, trivial⟩)
    ·replace hF := ifN h428 hF
     refine wl_on rfl rfl h428 (wl_move rfl rfl (wl_on rfl rfl h428 (wl_move rfl rfl (wl_on rfl rfl h428 (wl_neqb Try.underlying4 rfl rfl rfl (wl_pick_f rfl rfl h428 rfl (wl_move rfl rfl ?_)))))))
     rcases bE (u58.1 != u65.1) with h429 | h429
     ·replace hF := ifP h429 hF
      refine wl_off rfl rfl rfl h429 (wl_off rfl rfl rfl h429 (wl_off rfl rfl rfl h429 (wl_pick_t rfl rfl h429 rfl (wl_move rfl rfl (wl_off rfl rfl rfl rfl (wl_off rfl rfl rfl rfl (wl_off rfl rfl rfl rfl (wl_off rfl rfl rfl rfl (wl_pick_t rfl rfl rfl rfl (wl_move rfl rfl (wl_off rfl rfl rfl rfl (wl_off rfl rfl rfl rfl (wl_off rfl rfl rfl rfl ?_)))))))))))))
      refine wl_pick_t rfl rfl rfl rfl (wl_move rfl rfl (wl_off rfl rfl rfl rfl (wl_off rfl rfl rfl rfl (wl_off rfl rfl rfl rfl (wl_pick_t rfl rfl rfl rfl (wl_move rfl rfl (wl_off rfl rfl rfl rfl (wl_off rfl rfl rfl rfl (wl_off rfl rfl rfl rfl (wl_pick_t rfl rfl rfl rfl (wl_move rfl rfl (wl_off rfl rfl rfl rfl (wl_off rfl rfl rfl rfl ?_)))))))))))))
      refine wl_off rfl rfl rfl rfl (wl_pick_t rfl rfl rfl rfl (wl_move rfl rfl (wl_off rfl rfl rfl rfl (wl_off rfl rfl rfl rfl (wl_off rfl rfl rfl rfl (wl_pick_t rfl rfl rfl rfl (wl_move rfl rfl (wl_off rfl rfl rfl rfl (wl_off rfl rfl rfl rfl (wl_off rfl rfl rfl rfl (wl_pick_t rfl rfl rfl rfl (wl_move rfl rfl (wl_off rfl rfl rfl rfl ?_)))))))))))))
      refine wl_off rfl rfl rfl rfl (wl_off rfl rfl rfl rfl (wl_pick_t rfl rfl rfl rfl (wl_move rfl rfl (wl_off rfl rfl rfl rfl (wl_off rfl rfl rfl rfl (wl_off rfl rfl rfl rfl (wl_pick_t rfl rfl rfl rfl (wl_move rfl rfl (wl_off rfl rfl rfl rfl (wl_off rfl rfl rfl rfl (wl_offu rfl rfl rfl (wl_offu rfl rfl rfl (wl_off rfl rfl rfl rfl ?_)))))))))))))
      refine wl_pick_t rfl rfl rfl rfl (wl_move rfl rfl (wl_off rfl rfl rfl rfl (wl_off rfl rfl rfl rfl (wl_off rfl rfl rfl rfl (wl_pick_t rfl rfl rfl rfl (wl_move rfl rfl (wl_off rfl rfl rfl rfl (wl_off rfl rfl rfl rfl (wl_off rfl rfl rfl rfl (wl_pick_t rfl rfl rfl rfl (WL.nil ?_)))))))))))
      exact fun a ha => hJ158 (true) _ hF hB424 (hS425.sel [9, 10, 8, 11, 12, 7, 5, 3, 4, 2, 0] rfl) a (ha.sub ⟨rfl, rfl, rfl, rfl, rfl, rfl, rfl, rfl, rfl, rfl, rfl, rfl, rfl, rfl, trivial⟩)
     ·replace hF := ifN h429 hF
      refine wl_on rfl rfl h429 (wl_move rfl rfl (wl_on rfl rfl h429 (wl_move rfl rfl (wl_on rfl rfl h429 (wl_neqb Try.underlying4 rfl rfl rfl (wl_pick_f rfl rfl h429 rfl (wl_move rfl rfl ?_)))))))
      rcases bE (u92.2 != u101.2) with h430 | h430
      ·replace hF := ifP h430 hF
       refine wl_off rfl rfl rfl h430 (wl_off rfl rfl rfl h430 (wl_off rfl rfl rfl h430 (wl_off rfl rfl rfl h430 (wl_pick_t rfl rfl h430 rfl (wl_move rfl rfl (wl_off rfl rfl rfl rfl (wl_off rfl rfl rfl rfl (wl_off rfl rfl rfl rfl (wl_pick_t rfl rfl rfl rfl (wl_move rfl rfl (wl_off rfl rfl rfl rfl (wl_off rfl rfl rfl rfl (wl_off rfl rfl rfl rfl ?_)))))))))))))
       refine wl_pick_t rfl rfl rfl rfl (wl_move rfl rfl (wl_off rfl rfl rfl rfl (wl_off rfl rfl rfl rfl (wl_off rfl rfl rfl rfl (wl_pick_t rfl rfl rfl rfl (wl_move rfl rfl (wl_off rfl rfl rfl rfl (wl_off rfl rfl rfl rfl (wl_off rfl rfl rfl rfl (wl_pick_t rfl rfl rfl rfl (wl_move rfl rfl (wl_off rfl rfl rfl rfl (wl_off rfl rfl rfl rfl ?_)))))))))))))
       refine wl_off rfl rfl rfl rfl (wl_pick_t rfl rfl rfl rfl (wl_move rfl rfl (wl_off rfl rfl rfl rfl (wl_off rfl rfl rfl rfl (wl_off rfl rfl rfl rfl (wl_pick_t rfl rfl rfl rfl (wl_move rfl rfl (wl_off rfl rfl rfl rfl (wl_off rfl rfl rfl rfl (wl_off rfl rfl rfl rfl (wl_pick_t rfl rfl rfl rfl (wl_move rfl rfl (wl_off rfl rfl rfl rfl ?_)))))))))))))
       refine wl_off rfl rfl rfl rfl (wl_off rfl rfl rfl rfl (wl_pick_t rfl rfl rfl rfl (wl_move rfl rfl (wl_off rfl rfl rfl rfl (wl_off rfl rfl rfl rfl (wl_offu rfl rfl rfl (wl_offu rfl rfl rfl (wl_off rfl rfl rfl rfl (wl_pick_t rfl rfl rfl rfl (wl_move rfl rfl (wl_off rfl rfl rfl rfl (wl_off rfl rfl rfl rfl (wl_off rfl rfl rfl rfl ?_)))))))))))))
       refine wl_pick_t rfl rfl rfl rfl (wl_move rfl rfl (wl_off rfl rfl rfl rfl (wl_off rfl rfl rfl rfl (wl_off rfl rfl rfl rfl (wl_pick_t rfl rfl rfl rfl (WL.nil ?_))))))
       exact fun a ha => hJ158 (true) _ hF hB424 (hS425.sel [9, 10, 8, 11, 12, 7, 5, 3, 4, 2, 0] rfl) a (ha.sub ⟨rfl, rfl, rfl, rfl, rfl, rfl, rfl, rfl, rfl, rfl, rfl, rfl, rfl, rfl, trivial⟩)
      ·replace hF := ifN h430 hF
       refine wl_on rfl rfl h430 (wl_move rfl rfl (wl_on rfl rfl h430 (wl_move rfl rfl (wl_on rfl rfl h430 ?_))))
       obtain ⟨u431, hu431, hF⟩ := bindE hF
       refine wl_call rfl Try.call26 (C_laws_qInts w422 u92.1 v93 (hS425.own_ro (i := 1) rfl) u101.1 v102 (hS425.own_ro (i := 0) rfl) _ hu431) rfl ?_
       rintro _ w432 ⟨rfl, hb433⟩
       refine ⟨_, rfl, ?_⟩
       have hB434 := hB424.trans (hb433.mono hB424.size)
       have hS435 := hS425.below hb433
       refine wl_on rfl rfl h430 (wl_not rfl rfl (wl_pick_f rfl rfl h430 rfl (wl_move rfl rfl ?_)))
       rcases bE (!u431) with h437 | h437
       ·replace hF := ifP h437 hF
        refine wl_off rfl rfl rfl h437 (wl_off rfl rfl rfl h437 (wl_off rfl rfl rfl h437 (wl_pick_t rfl rfl h437 rfl (wl_move rfl rfl (wl_off rfl rfl rfl rfl (wl_off rfl rfl rfl rfl (wl_off rfl rfl rfl rfl (wl_pick_t rfl rfl rfl rfl (wl_move rfl rfl (wl_off rfl rfl rfl rfl (wl_off rfl rfl rfl rfl (wl_off rfl rfl rfl rfl (wl_pick_t rfl rfl rfl rfl ?_)))))))))))))
        refine wl_move rfl rfl (wl_off rfl rfl rfl rfl (wl_off rfl rfl rfl rfl (wl_off rfl rfl rfl rfl (wl_pick_t rfl rfl rfl rfl (wl_move rfl rfl (wl_off rfl rfl rfl rfl (wl_off rfl rfl rfl rfl (wl_off rfl rfl rfl rfl (wl_pick_t rfl rfl rfl rfl (wl_move rfl rfl (wl_off rfl rfl rfl rfl (wl_off rfl rfl rfl rfl (wl_off rfl rfl rfl rfl ?_)))))))))))))
        refine wl_pick_t rfl rfl rfl rfl (wl_move rfl rfl (wl_off rfl rfl rfl rfl (wl_off rfl rfl rfl rfl (wl_off rfl rfl rfl rfl (wl_pick_t rfl rfl rfl rfl (wl_move rfl rfl (wl_off rfl rfl rfl rfl (wl_off rfl rfl rfl rfl (wl_off rfl rfl rfl rfl (wl_pick_t rfl rfl rfl rfl (wl_move rfl rfl (wl_off rfl rfl rfl rfl (wl_off rfl rfl rfl rfl ?_)))))))))))))
        refine wl_offu rfl rfl rfl (wl_offu rfl rfl rfl (wl_off rfl rfl rfl rfl (wl_pick_t rfl rfl rfl rfl (wl_move rfl rfl (wl_off rfl rfl rfl rfl (wl_off rfl rfl rfl rfl (wl_off rfl rfl rfl rfl (wl_pick_t rfl rfl rfl rfl (wl_move rfl rfl (wl_off rfl rfl rfl rfl (wl_off rfl rfl rfl rfl (wl_off rfl rfl rfl rfl (wl_pick_t rfl rfl rfl rfl ?_)))))))))))))
        refine WL.nil ?_
        exact fun a ha => hJ158 (true) _ hF hB434 (hS435.sel [9, 10, 8, 11, 12, 7, 5, 3, 4, 2, 0] rfl) a (ha.sub ⟨rfl, rfl, rfl, rfl, rfl, rfl, rfl, rfl, rfl, rfl, rfl, rfl, rfl, rfl, trivial⟩)
       ·replace hF := ifN h437 hF
        refine wl_on rfl rfl h437 (wl_move rfl rfl (wl_on rfl rfl h437 (wl_move rfl rfl (wl_on rfl rfl h437 (wl_neqb Try.underlying4 rfl rfl rfl (wl_pick_f rfl rfl h437 rfl (wl_move rfl rfl ?_)))))))
        rcases bE (u110.2.2 != u117.2.2) with h438 | h438
        ·replace hF := ifP h438 hF
         refine wl_off rfl rfl rfl h438 (wl_off rfl rfl rfl h438 (wl_off rfl rfl rfl h438 (wl_pick_t rfl rfl h438 rfl (wl_move rfl rfl (wl_off rfl rfl rfl rfl (wl_off rfl rfl rfl rfl (wl_off rfl rfl rfl rfl (wl_pick_t rfl rfl rfl rfl (wl_move rfl rfl (wl_off rfl rfl rfl rfl (wl_off rfl rfl rfl rfl (wl_off rfl rfl rfl rfl (wl_pick_t rfl rfl rfl rfl ?_)))))))))))))
         refine wl_move rfl rfl (wl_off rfl rfl rfl rfl (wl_off rfl rfl rfl rfl (wl_off rfl rfl rfl rfl (wl_pick_t rfl rfl rfl rfl (wl_move rfl rfl (wl_off rfl rfl rfl rfl (wl_off rfl rfl rfl rfl (wl_off rfl rfl rfl rfl (wl_pick_t rfl rfl rfl rfl (wl_move rfl rfl (wl_off rfl rfl rfl rfl (wl_off rfl rfl rfl rfl (wl_off rfl rfl rfl rfl ?_)))))))))))))
         refine wl_pick_t rfl rfl rfl rfl (wl_move rfl rfl (wl_off rfl rfl rfl rfl (wl_off rfl rfl rfl rfl (wl_off rfl rfl rfl rfl (wl_pick_t rfl rfl rfl rfl (wl_move rfl rfl (wl_off rfl rfl rfl rfl (wl_off rfl rfl rfl rfl (wl_offu rfl rfl rfl (wl_offu rfl rfl rfl (wl_off rfl rfl rfl rfl (wl_pick_t rfl rfl rfl rfl (wl_move rfl rfl ?_)))))))))))))
         refine wl_off rfl rfl rfl rfl (wl_off rfl rfl rfl rfl (wl_off rfl rfl rfl rfl (wl_pick_t rfl rfl rfl rfl (wl_move rfl rfl (wl_off rfl rfl rfl rfl (wl_off rfl rfl rfl rfl (wl_off rfl rfl rfl rfl (wl_pick_t rfl rfl rfl rfl (WL.nil ?_)))))))))
         exact fun a ha => hJ158 (true) _ hF hB434 (hS435.sel [9, 10, 8, 11, 12, 7, 5, 3, 4, 2, 0] rfl) a (ha.sub ⟨rfl, rfl, rfl, rfl, rfl, rfl, rfl, rfl, rfl, rfl, rfl, rfl, rfl, rfl, trivial⟩)
        ·replace hF := ifN h438 hF
         refine wl_on rfl rfl h438 (wl_move rfl rfl (wl_on rfl rfl h438 (wl_move rfl rfl (wl_on rfl rfl h438 (wl_neq rfl rfl rfl (wl_pick_f rfl rfl h438 rfl (wl_move rfl rfl ?_)))))))
         rcases bE (u110.1 != u117.1) with h439 | h439
         ·replace hF := ifP h439 hF
          refine wl_off rfl rfl rfl h439 (wl_off rfl rfl rfl h439 (wl_off rfl rfl rfl h439 (wl_pick_t rfl rfl h439 rfl (wl_move rfl rfl (wl_off rfl rfl rfl rfl (wl_off rfl rfl rfl rfl (wl_off rfl rfl rfl rfl (wl_pick_t rfl rfl rfl rfl (wl_move rfl rfl (wl_off rfl rfl rfl rfl (wl_off rfl rfl rfl rfl (wl_off rfl rfl rfl rfl (wl_pick_t rfl rfl rfl rfl ?_)))))))))))))
          refine wl_move rfl rfl (wl_off rfl rfl rfl rfl (wl_off rfl rfl rfl rfl (wl_off rfl rfl rfl rfl (wl_pick_t rfl rfl rfl rfl (wl_move rfl rfl (wl_off rfl rfl rfl rfl (wl_off rfl rfl rfl rfl (wl_off rfl rfl rfl rfl (wl_pick_t rfl rfl rfl rfl (wl_move rfl rfl (wl_off rfl rfl rfl rfl (wl_off rfl rfl rfl rfl (wl_off rfl rfl rfl rfl ?_)))))))))))))
          refine wl_pick_t rfl rfl rfl rfl (wl_move rfl rfl (wl_off rfl rfl rfl rfl (wl_off rfl rfl rfl rfl (wl_offu rfl rfl rfl (wl_offu rfl rfl rfl (wl_off rfl rfl rfl rfl (wl_pick_t rfl rfl rfl rfl (wl_move rfl rfl (wl_off rfl rfl rfl rfl (wl_off rfl rfl rfl rfl (wl_off rfl rfl rfl rfl (wl_pick_t rfl rfl rfl rfl (wl_move rfl rfl ?_)))))))))))))
          refine wl_off rfl rfl rfl rfl (wl_off rfl rfl rfl rfl (wl_off rfl rfl rfl rfl (wl_pick_t rfl rfl rfl rfl (WL.nil ?_))))
          exact fun a ha => hJ158 (true) _ hF hB434 (hS435.sel [9, 10, 8, 11, 12, 7, 5, 3, 4, 2, 0] rfl) a (ha.sub ⟨rfl, rfl, rfl, rfl, rfl, rfl, rfl, rfl, rfl, rfl, rfl, rfl, rfl, rfl, trivial⟩)
         ·replace hF := ifN h439 hF
          refine wl_on rfl rfl h439 (wl_move rfl rfl (wl_on rfl rfl h439 (wl_move rfl rfl (wl_on rfl rfl h439 (wl_neq rfl rfl rfl (wl_pick_f rfl rfl h439 rfl (wl_move rfl rfl ?_)))))))
          rcases bE (u110.2.1 != u117.2.1) with h440 | h440
          ·replace hF := ifP h440 hF
           refine wl_off rfl rfl rfl h440 (wl_off rfl rfl rfl h440 (wl_off rfl rfl rfl h440 (wl_pick_t rfl rfl h440 rfl (wl_move rfl rfl (wl_off rfl rfl rfl rfl (wl_off rfl rfl rfl rfl (wl_off rfl rfl rfl rfl (wl_pick_t rfl rfl rfl rfl (wl_move rfl rfl (wl_off rfl rfl rfl rfl (wl_off rfl rfl rfl rfl (wl_off rfl rfl rfl rfl (wl_pick_t rfl rfl rfl rfl ?_)))))))))))))
           refine wl_move rfl rfl (wl_off rfl rfl rfl rfl (wl_off rfl rfl rfl rfl (wl_off rfl rfl rfl rfl (wl_pick_t rfl rfl rfl rfl (wl_move rfl rfl (wl_off rfl rfl rfl rfl (wl_off rfl rfl rfl rfl (wl_off rfl rfl rfl rfl (wl_pick_t rfl rfl rfl rfl (wl_move rfl rfl (wl_off rfl rfl rfl rfl (wl_off rfl rfl rfl rfl (wl_offu rfl rfl rfl ?_)))))))))))))
           refine wl_offu rfl rfl rfl (wl_off rfl rfl rfl rfl (wl_pick_t rfl rfl rfl rfl (wl_move rfl rfl (wl_off rfl rfl rfl rfl (wl_off rfl rfl rfl rfl (wl_off rfl rfl rfl rfl (wl_pick_t rfl rfl rfl rfl (wl_move rfl rfl (wl_off rfl rfl rfl rfl (wl_off rfl rfl rfl rfl (wl_off rfl rfl rfl rfl (wl_pick_t rfl rfl rfl rfl (WL.nil ?_)))))))))))))
           exact fun a ha => hJ158 (true) _ hF hB434 (hS435.sel [9, 10, 8, 11, 12, 7, 5, 3, 4, 2, 0] rfl) a (ha.sub ⟨rfl, rfl, rfl, rfl, rfl, rfl, rfl, rfl, rfl, rfl, rfl, rfl, rfl, rfl, trivial⟩)
          ·replace hF := ifN h440 hF
           refine wl_on rfl rfl h440 (wl_move rfl rfl (wl_on rfl rfl h440 (wl_move rfl rfl (wl_on rfl rfl h440 (wl_neqb Try.underlying4 rfl rfl rfl (wl_pick_f rfl rfl h440 rfl (wl_move rfl rfl ?_)))))))
           rcases bE (u124.2.2 != u131.2.2) with h441 | h441
           ·replace hF := ifP h441 hF
            refine wl_off rfl rfl rfl h441 (wl_off rfl rfl rfl h441 (wl_off rfl rfl rfl h441 (wl_pick_t rfl rfl h441 rfl (wl_move rfl rfl (wl_off rfl rfl rfl rfl (wl_off rfl rfl rfl rfl (wl_off rfl rfl rfl rfl (wl_pick_t rfl rfl rfl rfl (wl_move rfl rfl (wl_off rfl rfl rfl rfl (wl_off rfl rfl rfl rfl (wl_off rfl rfl rfl rfl (wl_pick_t rfl rfl rfl rfl ?_)))))))))))))
            refine wl_move rfl rfl (wl_off rfl rfl rfl rfl (wl_off rfl rfl rfl rfl (wl_off rfl rfl rfl rfl (wl_pick_t rfl rfl rfl rfl (wl_move rfl rfl (wl_off rfl rfl rfl rfl (wl_off rfl rfl rfl rfl (wl_offu rfl rfl rfl (wl_offu rfl rfl rfl (wl_off rfl rfl rfl rfl (wl_pick_t rfl rfl rfl rfl (wl_move rfl rfl (wl_off rfl rfl rfl rfl ?_)))))))))))))
            refine wl_off rfl rfl rfl rfl (wl_off rfl rfl rfl rfl (wl_pick_t rfl rfl rfl rfl (wl_move rfl rfl (wl_off rfl rfl rfl rfl (wl_off rfl rfl rfl rfl (wl_off rfl rfl rfl rfl (wl_pick_t rfl rfl rfl rfl (WL.nil ?_))))))))
            exact fun a ha => hJ158 (true) _ hF hB434 (hS435.sel [9, 10, 8, 11, 12, 7, 5, 3, 4, 2, 0] rfl) a (ha.sub ⟨rfl, rfl, rfl, rfl, rfl, rfl, rfl, rfl, rfl, rfl, rfl, rfl, rfl, rfl, trivial⟩)
           ·replace hF := ifN h441 hF
            refine wl_on rfl rfl h441 (wl_move rfl rfl (wl_on rfl rfl h441 (wl_move rfl rfl (wl_on rfl rfl h441 (wl_neq rfl rfl rfl (wl_pick_f rfl rfl h441 rfl (wl_move rfl rfl ?_)))))))
            rcases bE (u124.1 != u131.1) with h442 | h442
            ·replace hF := ifP h442 hF
             refine wl_off rfl rfl rfl h442 (wl_off rfl rfl rfl h442 (wl_off rfl rfl rfl h442 (wl_pick_t rfl rfl h442 rfl (wl_move rfl rfl (wl_off rfl rfl rfl rfl (wl_off rfl rfl rfl rfl (wl_off rfl rfl rfl rfl (wl_pick_t rfl rfl rfl rfl (wl_move rfl rfl (wl_off rfl rfl rfl rfl (wl_off rfl rfl rfl rfl (wl_off rfl rfl rfl rfl (wl_pick_t rfl rfl rfl rfl ?_)))))))))))))
             refine wl_move rfl rfl (wl_off rfl rfl rfl rfl (wl_off rfl rfl rfl rfl (wl_offu rfl rfl rfl (wl_offu rfl rfl rfl (wl_off rfl rfl rfl rfl (wl_pick_t rfl rfl rfl rfl (wl_move rfl rfl (wl_off rfl rfl rfl rfl (wl_off rfl rfl rfl rfl (wl_off rfl rfl rfl rfl (wl_pick_t rfl rfl rfl rfl (wl_move rfl rfl (wl_off rfl rfl rfl rfl ?_)))))))))))))
             refine wl_off rfl rfl rfl rfl (wl_off rfl rfl rfl rfl (wl_pick_t rfl rfl rfl rfl (WL.nil ?_)))
             exact fun a ha => hJ158 (true) _ hF hB434 (hS435.sel [9, 10, 8, 11, 12, 7, 5, 3, 4, 2, 0] rfl) a (ha.sub ⟨rfl, rfl, rfl, rfl, rfl, rfl, rfl, rfl, rfl, rfl, rfl, rfl, rfl, rfl, trivial⟩)
            ·replace hF := ifN h442 hF
             refine wl_on rfl rfl h442 (wl_move rfl rfl (wl_on rfl rfl h442 (wl_move rfl rfl (wl_on rfl rfl h442 (wl_neq rfl rfl rfl (wl_pick_f rfl rfl h442 rfl (wl_move rfl rfl ?_)))))))
             rcases bE (u124.2.1 != u131.2.1) with h443 | h443
             ·replace hF := ifP h443 hF
              refine wl_off rfl rfl rfl h443 (wl_off rfl rfl rfl h443 (wl_off rfl rfl rfl h443 (wl_pick_t rfl rfl h443 rfl (wl_move rfl rfl (wl_off rfl rfl rfl rfl (wl_off rfl rfl rfl rfl (wl_off rfl rfl rfl rfl (wl_pick_t rfl rfl rfl rfl (wl_move rfl rfl (wl_off rfl rfl rfl rfl (wl_off rfl rfl rfl rfl (wl_offu rfl rfl rfl (wl_offu rfl rfl rfl ?_)))))))))))))
              refine wl_off rfl rfl rfl rfl (wl_pick_t rfl rfl rfl rfl (wl_move rfl rfl (wl_off rfl rfl rfl rfl (wl_off rfl rfl rfl rfl (wl_off rfl rfl rfl rfl (wl_pick_t rfl rfl rfl rfl (wl_move rfl rfl (wl_off rfl rfl rfl rfl (wl_off rfl rfl rfl rfl (wl_off rfl rfl rfl rfl (wl_pick_t rfl rfl rfl rfl (WL.nil ?_))))))))))))
              exact fun a ha => hJ158 (true) _ hF hB434 (hS435.sel [9, 10, 8, 11, 12, 7, 5, 3, 4, 2, 0] rfl) a (ha.sub ⟨rfl, rfl, rfl, rfl, rfl, rfl, rfl, rfl, rfl, rfl, rfl, rfl, rfl, rfl, trivial⟩)
             ·replace hF := ifN h443 hF
              refine wl_on rfl rfl h443 (wl_move rfl rfl (wl_on rfl rfl h443 (wl_move rfl rfl (wl_on rfl rfl h443 (wl_neqb Try.underlying4 rfl rfl rfl (wl_pick_f rfl rfl h443 rfl (wl_move rfl rfl ?_)))))))
              rcases bE (u138.2 != u145.2) with h444 | h444
              ·replace hF := ifP h444 hF
               refine wl_off rfl rfl rfl h444 (wl_off rfl rfl rfl h444 (wl_off rfl rfl rfl h444 (wl_pick_t rfl rfl h444 rfl (wl_move rfl rfl (wl_off rfl rfl rfl rfl (wl_off rfl rfl rfl rfl (wl_offu rfl rfl rfl (wl_offu rfl rfl rfl (wl_off rfl rfl rfl rfl (wl_pick_t rfl rfl rfl rfl (wl_move rfl rfl (wl_off rfl rfl rfl rfl (wl_off rfl rfl rfl rfl ?_)))))))))))))
               refine wl_off rfl rfl rfl rfl (wl_pick_t rfl rfl rfl rfl (wl_move rfl rfl (wl_off rfl rfl rfl rfl (wl_off rfl rfl rfl rfl (wl_off rfl rfl rfl rfl (wl_pick_t rfl rfl rfl rfl (WL.nil ?_)))))))
               exact fun a ha => hJ158 (true) _ hF hB434 (hS435.sel [9, 10, 8, 11, 12, 7, 5, 3, 4, 2, 0] rfl) a (ha.sub ⟨rfl, rfl, rfl, rfl, rfl, rfl, rfl, rfl, rfl, rfl, rfl, rfl, rfl, rfl, trivial⟩)
              ·replace hF := ifN h444 hF
               refine wl_on rfl rfl h444 (wl_move rfl rfl (wl_on rfl rfl h444 (wl_move rfl rfl (wl_on rfl rfl h444 (wl_neq rfl rfl rfl (wl_pick_f rfl rfl h444 rfl (wl_move rfl rfl ?_)))))))
               rcases bE (u138.1 != u145.1) with h445 | h445
               ·replace hF := ifP h445 hF
                refine wl_off rfl rfl rfl h445 (wl_off rfl rfl rfl h445 (wl_offu rfl rfl rfl (wl_offu rfl rfl rfl (wl_off rfl rfl rfl h445 (wl_pick_t rfl rfl h445 rfl (wl_move rfl rfl (wl_off rfl rfl rfl rfl (wl_off rfl rfl rfl rfl (wl_off rfl rfl rfl rfl (wl_pick_t rfl rfl rfl rfl (wl_move rfl rfl (wl_off rfl rfl rfl rfl (wl_off rfl rfl rfl rfl ?_)))))))))))))
                refine wl_off rfl rfl rfl rfl (wl_pick_t rfl rfl rfl rfl (WL.nil ?_))
                exact fun a ha => hJ158 (true) _ hF hB434 (hS435.sel [9, 10, 8, 11, 12, 7, 5, 3, 4, 2, 0] rfl) a (ha.sub ⟨rfl, rfl, rfl, rfl, rfl, rfl, rfl, rfl, rfl, rfl, rfl, rfl, rfl, rfl, trivial⟩)
               ·replace hF := ifN h445 hF
                refine wl_on rfl rfl h445 (wl_move rfl rfl (wl_on rfl rfl h445 (wl_move rfl rfl ?_)))
                rcases bE u40.2 with h446 | h446
                ·replace hF := ifP h446 hF
                 refine wl_on rfl rfl h446 (wl_move rfl rfl (wl_on rfl rfl h446 (wl_not rfl rfl (wl_on rfl rfl h445 (wl_pick_t rfl rfl h446 rfl (wl_pick_f rfl rfl h445 rfl (wl_move rfl rfl ?_)))))))
                 rcases bE (!u58.2) with h447 | h447
                 ·replace hF := ifP h447 hF
                  refine wl_off rfl rfl rfl h447 (wl_off rfl rfl rfl h447 (wl_off rfl rfl rfl h447 (wl_pick_t rfl rfl h447 rfl (wl_move rfl rfl (wl_off rfl rfl rfl rfl (wl_off rfl rfl rfl rfl (wl_off rfl rfl rfl rfl (wl_pick_t rfl rfl rfl rfl (WL.nil ?_)))))))))
                  exact fun a ha => hJ158 (true) _ hF hB434 (hS435.sel [9, 10, 8, 11, 12, 7, 5, 3, 4, 2, 0] rfl) a (ha.sub ⟨rfl, rfl, rfl, rfl, rfl, rfl, rfl, rfl, rfl, rfl, rfl, rfl, rfl, rfl, trivial⟩)
                 ·replace hF := ifN h447 hF
                  refine wl_on rfl rfl h447 (wl_move rfl rfl (wl_on rfl rfl h447 (wl_move rfl rfl (wl_on rfl rfl h447 (wl_neqb Try.underlying4 rfl rfl rfl (wl_pick_f rfl rfl h447 rfl (wl_move rfl rfl ?_)))))))
                  rcases bE (u110.2.2 != u92.2) with h448 | h448
                  ·replace hF := ifP h448 hF
                   refine wl_off rfl rfl rfl h448 (wl_off rfl rfl rfl h448 (wl_off rfl rfl rfl h448 (wl_pick_t rfl rfl h448 rfl (WL.nil ?_))))
                   exact fun a ha => hJ158 (true) _ hF hB434 (hS435.sel [9, 10, 8, 11, 12, 7, 5, 3, 4, 2, 0] rfl) a (ha.sub ⟨rfl, rfl, rfl, rfl, rfl, rfl, rfl, rfl, rfl, rfl, rfl, rfl, rfl, rfl, trivial⟩)
                  ·replace hF := ifN h448 hF
                   refine wl_on rfl rfl h448 (wl_move rfl rfl (wl_on rfl rfl h448 (wl_move rfl rfl (wl_on rfl rfl h448 (wl_neqb Try.underlying4 rfl rfl rfl (wl_pick_f rfl rfl h448 rfl (WL.nil ?_)))))))
                   exact fun a ha => hJ158 ((u138.2 != u92.2)) _ hF hB434 (hS435.sel [9, 10, 8, 11, 12, 7, 5, 3, 4, 2, 0] rfl) a (ha.sub ⟨rfl, rfl, rfl, rfl, rfl, rfl, rfl, rfl, rfl, rfl, rfl, rfl, rfl, rfl, trivial⟩)
                ·replace hF := ifN h446 hF
                 refine wl_off rfl rfl rfl h446 (wl_off rfl rfl rfl h446 (wl_on rfl rfl h445 (wl_pick_f rfl rfl h446 rfl (wl_pick_f rfl rfl h445 rfl (wl_move rfl rfl (wl_on rfl rfl rfl (wl_move rfl rfl (wl_on rfl rfl rfl (wl_move rfl rfl (wl_on rfl rfl rfl (wl_neqb Try.underlying4 rfl rfl rfl (wl_pick_f rfl rfl rfl rfl (wl_move rfl rfl ?_)))))))))))))
                 rcases bE (u110.2.2 != u92.2) with h449 | h449
                 ·replace hF := ifP h449 hF
                  refine wl_off rfl rfl rfl h449 (wl_off rfl rfl rfl h449 (wl_off rfl rfl rfl h449 (wl_pick_t rfl rfl h449 rfl (WL.nil ?_))))
                  exact fun a ha => hJ158 (true) _ hF hB434 (hS435.sel [9, 10, 8, 11, 12, 7, 5, 3, 4, 2, 0] rfl) a (ha.sub ⟨rfl, rfl, rfl, rfl, rfl, rfl, rfl, rfl, rfl, rfl, rfl, rfl, rfl, rfl, trivial⟩)
                 ·replace hF := ifN h449 hF
                  refine wl_on rfl rfl h449 (wl_move rfl rfl (wl_on rfl rfl h449 (wl_move rfl rfl (wl_on rfl rfl h449 (wl_neqb Try.underlying4 rfl rfl rfl (wl_pick_f rfl rfl h449 rfl (WL.nil ?_)))))))
                  exact fun a ha => hJ158 ((u138.2 != u92.2)) _ hF hB434 (hS435.sel [9, 10, 8, 11, 12, 7, 5, 3, 4, 2, 0] rfl) a (ha.sub ⟨rfl, rfl, rfl, rfl, rfl, rfl, rfl, rfl, rfl, rfl, rfl, rfl, rfl, rfl, trivial⟩)
end Go.Proofs.Ytmkignciedkidaa
