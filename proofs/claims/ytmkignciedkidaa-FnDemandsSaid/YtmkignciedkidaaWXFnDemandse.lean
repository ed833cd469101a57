/-
  THE WALKS of functions of this seat, by program (gen.py, prune.py).
-/
import Derived.Test.YtmkignciedkidaaWXFnDemandsd
set_option linter.unusedSimpArgs false
set_option linter.unusedVariables false
set_option maxRecDepth 100000
set_option maxHeartbeats 1600000
namespace Go.Proofs.Ytmkignciedkidaa
open Go Go.RowKit
theorem C_laws_FnDemands (w0 : World) (x0 : (List Int)) (v0_0 : Value) (h0_0 : rdS ty_5 (· < w0.heap.size) w0 v0_0 x0) (x1 : (List Int)) (v1_0 : Value) (h1_0 : rdS ty_5 (· < w0.heap.size) w0 v1_0 x1) (r : Bool) (hF : F_laws_FnDemands x0 x1 = some r) :
  Calls Try.prog 8 [v0_0, v1_0].toArray w0 fun e w' => e = .returned (.bool r) ∧ Below w0.heap.size w0 w' := by
 refine calls_mk' Try.func8 rfl Try.ntmps8 rfl rfl fun Q hQ hP => ?_
 have hB : Below w0.heap.size w0 w0 := Below.refl _ _
 have hS : Sep w0.heap.size w0 [] := Sep.nil _ _
 unfold F_laws_FnDemands at hF
 refine W.seq fun K1 hK1 => W.region (wl_assign rfl rfl (WL.nil (fun a ha => hK1 _ _ (W.seq fun K2 hK2 => (W.seq fun K3 hK3 => (W.region (wl_move rfl rfl (wl_lenr (e := ty_5) (l := x0) Try.underlying22 rfl rfl h0_0 (wl_move rfl rfl (wl_lenr (e := ty_5) (l := x1) Try.underlying22 rfl rfl h1_0 (wl_add rfl rfl rfl (wl_gtr rfl rfl rfl ?_))))))))) a ha)))
 refine WL.nil fun a ha => hK3 _ _ (W.cond rfl (fun h4 => ?_) (fun h4 => ?_)) a ha
 ·replace hF := ifP h4 hF
  refine W.seq fun K5 hK5 => W.region (wl_assign rfl rfl (WL.nil (fun a ha => hK5 _ _ (W.ret ?_) a ha)))
  have hr := Option.some.inj hF
  subst hr
  exact rets (vs := [(.bool true)]) hQ rfl ⟨rv_tmp rfl, trivial⟩ ⟨rfl, hB⟩
 ·replace hF := ifN h4 hF
  refine W.skip fun a ha => hK2 _ _ (W.seq fun K6 hK6 => (W.region (wl_move rfl rfl ?_))) a ha
  obtain ⟨u7, hu7, hF⟩ := bindE hF
  refine wl_call rfl Try.call106 (C_spec_DrawLeastCountsOf w0 x0 v0_0 (h0_0.ro hB) _ hu7) rfl ?_
  rintro _ w12 ⟨v8, F9, v10, F11, rfl, hb13, hM16⟩
  refine ⟨_, rfl, ?_⟩
  have hB14 := hB.trans (hb13.mono hB.size)
  have hS15 := hS.join hb13 hM16 hB.size
  refine wl_alloc (cs := [(.slice none 0 0), (.slice none 0 0), (.int .i64 0), (.int .i64 0)]) tf_53 rfl rfl hB14 hS15 ?_
  intro b17 w18 hb19 hB20 hS21
  refine wl_store_blk (i := 0) (vs := [v8, v10, (.int .i64 u7.2.2.1), (.int .i64 u7.2.2.2)]) (cs' := [v8, v10, (.int .i64 u7.2.2.1), (.int .i64 u7.2.2.2)]) tf_53 rfl rfl rfl rfl hB20 hS21 rfl rfl ⟨(hS21.own_ro (i := 1) rfl).one, (hS21.own_ro (i := 2) rfl).one, rfl, rfl, trivial⟩ rfl ?_
  intro w22 hk25 hB23 hS24
  refine WL.nil fun a ha => hK6 _ _ (W.seq fun K26 hK26 => (W.region (wl_load_blk (i := 0) (vs := [v8, v10, (.int .i64 u7.2.2.1), (.int .i64 u7.2.2.2)]) (v := (.agg #[v8, v10, (.int .i64 u7.2.2.1), (.int .i64 u7.2.2.2)])) tf_53 rfl rfl hS24 rfl rfl rfl ?_))) a ha
  obtain ⟨u27, hu27, hF⟩ := bindE hF
  refine wl_call rfl Try.call107 (C_impl_LeastCountsOf w22 u7 v8 (hS24.own_ro (i := 1) rfl) v10 (hS24.own_ro (i := 2) rfl) _ hu27) rfl ?_
  rintro _ w30 ⟨v28, F29, rfl, hb31, hM34⟩
  refine ⟨_, rfl, ?_⟩
  have hB32 := hB23.trans (hb31.mono hB23.size)
  have hS33 := hS24.join hb31 hM34 hB23.size
  refine wl_move rfl rfl (wl_extract rfl rfl rfl (wl_extract rfl rfl rfl (wl_assign rfl rfl (wl_assign rfl rfl (WL.nil (fun a ha => hK26 _ _ (W.seq fun K35 hK35 => (W.region (wl_load_blk (i := 1) (vs := [v8, v10, (.int .i64 u7.2.2.1), (.int .i64 u7.2.2.2)]) (v := (.agg #[v8, v10, (.int .i64 u7.2.2.1), (.int .i64 u7.2.2.2)])) tf_53 rfl rfl hS33 rfl rfl rfl ?_))) a ha))))))
  obtain ⟨u36, hu36, hF⟩ := bindE hF
  refine wl_call rfl Try.call108 (C_spec_LeastCountsOf w30 u7 v8 (hS33.own_ro (i := 2) rfl) v10 (hS33.own_ro (i := 3) rfl) _ hu36) rfl ?_
  rintro _ w39 ⟨v37, F38, rfl, hb40, hM43⟩
  refine ⟨_, rfl, ?_⟩
  have hB41 := hB32.trans (hb40.mono hB32.size)
  have hS42 := hS33.join hb40 hM43 hB32.size
  refine wl_move rfl rfl (wl_extract rfl rfl rfl (wl_extract rfl rfl rfl (wl_assign rfl rfl (wl_assign rfl rfl (WL.nil (fun a ha => hK35 _ _ (W.seq fun K44 hK44 => (W.region (wl_load_blk (i := 2) (vs := [v8, v10, (.int .i64 u7.2.2.1), (.int .i64 u7.2.2.2)]) (v := (.agg #[v8, v10, (.int .i64 u7.2.2.1), (.int .i64 u7.2.2.2)])) tf_53 rfl rfl hS42 rfl rfl rfl ?_))) a ha))))))
  obtain ⟨u45, hu45, hF⟩ := bindE hF
  refine wl_call rfl Try.call109 (C_impl_LeastStepOf w39 u7 v8 (hS42.own_ro (i := 3) rfl) v10 (hS42.own_ro (i := 4) rfl) _ hu45) rfl ?_
  rintro _ w46 ⟨rfl, hb47⟩
  refine ⟨_, rfl, ?_⟩
  have hB48 := hB41.trans (hb47.mono hB41.size)
  have hS49 := hS42.below hb47
  refine wl_move rfl rfl (wl_extract rfl rfl rfl (wl_extract rfl rfl rfl (wl_assign rfl rfl (wl_assign rfl rfl (WL.nil (fun a ha => hK44 _ _ (W.seq fun K51 hK51 => (W.region (wl_load_blk (i := 2) (vs := [v8, v10, (.int .i64 u7.2.2.1), (.int .i64 u7.2.2.2)]) (v := (.agg #[v8, v10, (.int .i64 u7.2.2.1), (.int .i64 u7.2.2.2)])) tf_53 rfl rfl hS49 rfl rfl rfl ?_))) a ha))))))
  obtain ⟨u52, hu52, hF⟩ := bindE hF
  refine wl_call rfl Try.call110 (C_spec_LeastStepOf w46 u7 v8 (hS49.own_ro (i := 3) rfl) v10 (hS49.own_ro (i := 4) rfl) _ hu52) rfl ?_
  rintro _ w53 ⟨rfl, hb54⟩
  refine ⟨_, rfl, ?_⟩
  have hB55 := hB48.trans (hb54.mono hB48.size)
  have hS56 := hS49.below hb54
  refine wl_move rfl rfl (wl_extract rfl rfl rfl (wl_extract rfl rfl rfl (wl_assign rfl rfl (wl_assign rfl rfl (WL.nil (fun a ha => hK51 _ _ (W.seq fun K58 hK58 => (W.region (wl_move rfl rfl ?_))) a ha))))))
  obtain ⟨u59, hu59, hF⟩ := bindE hF
  refine wl_call rfl Try.call111 (C_spec_DrawCompareDemand w53 x1 v1_0 (h1_0.ro hB55) _ hu59) rfl ?_
  rintro _ w68 ⟨v60, F61, v62, F63, v64, F65, v66, F67, rfl, hb69, hM72⟩
  refine ⟨_, rfl, ?_⟩
  have hB70 := hB55.trans (hb69.mono hB55.size)
  have hS71 := hS56.join hb69 hM72 hB55.size
  refine wl_move rfl rfl (wl_extract rfl rfl rfl (wl_extract rfl rfl rfl (wl_alloc (cs := [(.slice none 0 0), (.slice none 0 0), (.int .i64 0), (.int .i64 0)]) tf_53 rfl rfl hB70 hS71 ?_)))
  intro b73 w74 hb75 hB76 hS77
  refine wl_alloc (cs := [(.slice none 0 0), (.slice none 0 0), (.int .i64 0), (.int .i64 0)]) tf_53 rfl rfl hB76 hS77 ?_
  intro b78 w79 hb80 hB81 hS82
  refine wl_store_blk (i := 1) (vs := [v60, v62, (.int .i64 u59.1.2.2.1), (.int .i64 u59.1.2.2.2)]) (cs' := [v60, v62, (.int .i64 u59.1.2.2.1), (.int .i64 u59.1.2.2.2)]) tf_53 rfl rfl rfl rfl hB81 hS82 rfl rfl ⟨(hS82.own_ro (i := 2) rfl).one, (hS82.own_ro (i := 3) rfl).one, rfl, rfl, trivial⟩ rfl ?_
  intro w83 hk86 hB84 hS85
  refine wl_store_blk (i := 0) (vs := [v64, v66, (.int .i64 u59.2.2.2.1), (.int .i64 u59.2.2.2.2)]) (cs' := [v64, v66, (.int .i64 u59.2.2.2.1), (.int .i64 u59.2.2.2.2)]) tf_53 rfl rfl rfl rfl hB84 hS85 rfl rfl ⟨(hS85.own_ro (i := 4) rfl).one, (hS85.own_ro (i := 5) rfl).one, rfl, rfl, trivial⟩ rfl ?_
  intro w87 hk90 hB88 hS89
  refine WL.nil fun a ha => hK58 _ _ (W.seq fun K91 hK91 => (W.region (wl_load_blk (i := 1) (vs := [v60, v62, (.int .i64 u59.1.2.2.1), (.int .i64 u59.1.2.2.2)]) (v := (.agg #[v60, v62, (.int .i64 u59.1.2.2.1), (.int .i64 u59.1.2.2.2)])) tf_53 rfl rfl hS89 rfl rfl rfl (wl_load_blk (i := 0) (vs := [v64, v66, (.int .i64 u59.2.2.2.1), (.int .i64 u59.2.2.2.2)]) (v := (.agg #[v64, v66, (.int .i64 u59.2.2.2.1), (.int .i64 u59.2.2.2.2)])) tf_53 rfl rfl hS89 rfl rfl rfl ?_)))) a ha
  obtain ⟨u92, hu92, hF⟩ := bindE hF
  refine wl_call rfl Try.call112 (C_impl_CompareDemand w87 u59.1 v60 (hS89.own_ro (i := 2) rfl) v62 (hS89.own_ro (i := 3) rfl) u59.2 v64 (hS89.own_ro (i := 4) rfl) v66 (hS89.own_ro (i := 5) rfl) _ hu92) rfl ?_
  rintro _ w93 ⟨rfl, hb94⟩
  refine ⟨_, rfl, ?_⟩
  have hB95 := hB88.trans (hb94.mono hB88.size)
  have hS96 := hS89.below hb94
  refine wl_move rfl rfl (wl_extract rfl rfl rfl (wl_extract rfl rfl rfl (wl_assign rfl rfl (wl_assign rfl rfl (WL.nil (fun a ha => hK91 _ _ (W.seq fun K98 hK98 => (W.region (wl_load_blk (i := 1) (vs := [v60, v62, (.int .i64 u59.1.2.2.1), (.int .i64 u59.1.2.2.2)]) (v := (.agg #[v60, v62, (.int .i64 u59.1.2.2.1), (.int .i64 u59.1.2.2.2)])) tf_53 rfl rfl hS96 rfl rfl rfl (wl_load_blk (i := 0) (vs := [v64, v66, (.int .i64 u59.2.2.2.1), (.int .i64 u59.2.2.2.2)]) (v := (.agg #[v64, v66, (.int .i64 u59.2.2.2.1), (.int .i64 u59.2.2.2.2)])) tf_53 rfl rfl hS96 rfl rfl rfl ?_)))) a ha))))))
  obtain ⟨u99, hu99, hF⟩ := bindE hF
  refine wl_call rfl Try.call113 (C_spec_CompareDemand w93 u59.1 v60 (hS96.own_ro (i := 2) rfl) v62 (hS96.own_ro (i := 3) rfl) u59.2 v64 (hS96.own_ro (i := 4) rfl) v66 (hS96.own_ro (i := 5) rfl) _ hu99) rfl ?_
  rintro _ w100 ⟨rfl, hb101⟩
  refine ⟨_, rfl, ?_⟩
  have hB102 := hB95.trans (hb101.mono hB95.size)
  have hS103 := hS96.below hb101
  refine wl_move rfl rfl (wl_extract rfl rfl rfl (wl_extract rfl rfl rfl (wl_assign rfl rfl (wl_assign rfl rfl (WL.nil (fun a ha => hK98 _ _ (W.seq fun K105 hK105 => (W.region (wl_move rfl rfl ?_))) a ha))))))
  obtain ⟨u106, hu106, hF⟩ := bindE hF
  refine wl_call rfl Try.call114 (C_spec_DrawRankShows w100 x1 v1_0 (h1_0.ro hB102) _ hu106) rfl ?_
  rintro _ w109 ⟨v107, F108, rfl, hb110, hM113⟩
  refine ⟨_, rfl, ?_⟩
  have hB111 := hB102.trans (hb110.mono hB102.size)
  have hS112 := hS103.join hb110 hM113 hB102.size
  refine wl_assign rfl rfl (WL.nil (fun a ha => hK105 _ _ (W.seq fun K114 hK114 => (W.region (wl_move rfl rfl ?_))) a ha))
  obtain ⟨u115, hu115, hF⟩ := bindE hF
  refine wl_call rfl Try.call115 (C_impl_RankShows w109 u106 v107 (hS112.fr_ro (i := 0) rfl) _ hu115) rfl ?_
  rintro _ w118 ⟨v116, F117, rfl, hb119, hM122⟩
  refine ⟨_, rfl, ?_⟩
  have hB120 := hB111.trans (hb119.mono hB111.size)
  have hS121 := hS112.join hb119 hM122 hB111.size
  refine wl_move rfl rfl (wl_extract rfl rfl rfl (wl_extract rfl rfl rfl (wl_assign rfl rfl (wl_assign rfl rfl (WL.nil (fun a ha => hK114 _ _ (W.seq fun K123 hK123 => (W.region (wl_move rfl rfl ?_))) a ha))))))
  obtain ⟨u124, hu124, hF⟩ := bindE hF
  refine wl_call rfl Try.call116 (C_spec_RankShows w118 u106 v107 (hS121.fr_ro (i := 1) rfl) _ hu124) rfl ?_
  rintro _ w127 ⟨v125, F126, rfl, hb128, hM131⟩
  refine ⟨_, rfl, ?_⟩
  have hB129 := hB120.trans (hb128.mono hB120.size)
  have hS130 := hS121.join hb128 hM131 hB120.size
  refine wl_move rfl rfl (wl_extract rfl rfl rfl (wl_extract rfl rfl rfl (wl_assign rfl rfl (wl_assign rfl rfl (WL.nil (fun a ha => hK123 _ _ (W.seq fun K132 hK132 => (W.seq fun K133 hK133 => ?_)) a ha))))))
  obtain ⟨k141, hk141, hF⟩ := jE2 hF
  have hJ142 : ∀ (l137 : (List ((List (List (Int × Int))) × (List Int) × Int × Int))) (y140 : Bool) (v138 : Value) (F139 : List Nat) (w134 : World) (_ : k141 l137 y140 = some r) (_ : Below w0.heap.size w0 w134) (_ : Sep w0.heap.size w134 [R.own ty_63 F9 v8 u7.1, R.own ty_3 F11 v10 u7.2.1, R.blk b17 53 [v8, v10, (.int .i64 u7.2.2.1), (.int .i64 u7.2.2.2)], R.own ty_3 F38 v37 u36.1, R.own ty_63 F61 v60 u59.1.1, R.own ty_3 F63 v62 u59.1.2.1, R.blk b73 53 [v60, v62, (.int .i64 u59.1.2.2.1), (.int .i64 u59.1.2.2.2)], R.own ty_63 F65 v64 u59.2.1, R.own ty_3 F67 v66 u59.2.2.1, R.blk b78 53 [v64, v66, (.int .i64 u59.2.2.2.1), (.int .i64 u59.2.2.2.2)], R.fr ty_53 F139 v138 l137, R.own ty_3 F126 v125 u124.1]), ∀ a, St 395 [(5, (.pointer (some ⟨b17, 0, none⟩))), (7, (.bool u27.2)), (8, v37), (11, (.bool u45.2)), (12, (.int .i64 u52.1)), (14, (.pointer (some ⟨b73, 0, none⟩))), (15, (.pointer (some ⟨b78, 0, none⟩))), (17, (.bool u92.2)), (18, (.int .i64 u99.1)), (20, v138), (22, (.bool u115.2)), (23, v125), (145, (.bool y140))] a → K133 a w134 := by
   intro l137 y140 v138 F139 w134 hF hB135 hS136
   subst hk141
   refine fun a ha => hK133 _ _ (W.cond rfl (fun h143 => ?_) (fun h143 => ?_)) a ha
   ·replace hF := ifP h143 hF
    refine W.seq fun K144 hK144 => W.region (wl_assign rfl rfl (WL.nil (fun a ha => hK144 _ _ (W.ret ?_) a ha)))
    have hr := Option.some.inj hF
    subst hr
    exact rets (vs := [(.bool false)]) hQ rfl ⟨rv_tmp rfl, trivial⟩ ⟨rfl, hB135⟩
   ·replace hF := ifN h143 hF
    refine W.skip fun a ha => hK132 _ _ (W.seq fun K145 hK145 => ?_) a ha
    obtain ⟨k152, hk152, hF⟩ := jE1 hF
    have hJ153 : ∀ (l149 : (List ((List (List (Int × Int))) × (List Int) × Int × Int))) (v150 : Value) (F151 : List Nat) (w146 : World) (_ : k152 l149 = some r) (_ : Below w0.heap.size w0 w146) (_ : Sep w0.heap.size w146 [R.own ty_63 F9 v8 u7.1, R.own ty_3 F11 v10 u7.2.1, R.blk b17 53 [v8, v10, (.int .i64 u7.2.2.1), (.int .i64 u7.2.2.2)], R.own ty_3 F38 v37 u36.1, R.fr ty_53 F151 v150 l149, R.own ty_3 F126 v125 u124.1]), ∀ a, St 395 [(5, (.pointer (some ⟨b17, 0, none⟩))), (7, (.bool u27.2)), (8, v37), (11, (.bool u45.2)), (12, (.int .i64 u52.1)), (20, v150), (22, (.bool u115.2)), (23, v125)] a → K145 a w146 := by
     intro l149 v150 F151 w146 hF hB147 hS148
     subst hk152
     refine fun a ha => hK145 _ _ (W.seq fun K154 hK154 => ?_) a ha
     obtain ⟨k158, hk158, hF⟩ := jE0 hF
     have hJ159 : ∀ (w155 : World) (_ : k158 = some r) (_ : Below w0.heap.size w0 w155) (_ : Sep w0.heap.size w155 [R.own ty_63 F9 v8 u7.1, R.own ty_3 F11 v10 u7.2.1, R.blk b17 53 [v8, v10, (.int .i64 u7.2.2.1), (.int .i64 u7.2.2.2)], R.own ty_3 F38 v37 u36.1]), ∀ a, St 395 [(5, (.pointer (some ⟨b17, 0, none⟩))), (7, (.bool u27.2)), (8, v37), (11, (.bool u45.2)), (12, (.int .i64 u52.1))] a → K154 a w155 := by
      intro w155 hF hB156 hS157
      subst hk158
      refine fun a ha => hK154 _ _ (W.seq fun K160 hK160 => ?_) a ha
      obtain ⟨k164, hk164, hF⟩ := jE0 hF
      have hJ165 : ∀ (w161 : World) (_ : k164 = some r) (_ : Below w0.heap.size w0 w161) (_ : Sep w0.heap.size w161 [R.own ty_63 F9 v8 u7.1, R.own ty_3 F11 v10 u7.2.1, R.blk b17 53 [v8, v10, (.int .i64 u7.2.2.1), (.int .i64 u7.2.2.2)], R.own ty_3 F38 v37 u36.1]), ∀ a, St 395 [(5, (.pointer (some ⟨b17, 0, none⟩))), (7, (.bool u27.2)), (8, v37)] a → K160 a w161 := by
       intro w161 hF hB162 hS163
       subst hk164
       refine fun a ha => hK160 _ _ (W.seq fun K166 hK166 => (W.seq fun K167 hK167 => (W.region (wl_move rfl rfl (wl_not rfl rfl (WL.nil (fun a ha => hK167 _ _ (W.cond rfl (fun h168 => ?_) (fun h168 => ?_)) a ha))))))) a ha
       ·replace hF := ifP h168 hF
        refine W.seq fun K169 hK169 => W.region (wl_assign rfl rfl (WL.nil (fun a ha => hK169 _ _ (W.ret ?_) a ha)))
        have hr := Option.some.inj hF
        subst hr
        exact rets (vs := [(.bool true)]) hQ rfl ⟨rv_tmp rfl, trivial⟩ ⟨rfl, hB162⟩
       ·replace hF := ifN h168 hF
        refine W.skip fun a ha => hK166 _ _ (W.seq fun K170 hK170 => (W.seq fun K171 hK171 => (W.region (wl_move rfl rfl (wl_lenr (e := ty_3) (l := u36.1) Try.underlying29 rfl rfl (hS163.own_ro (i := 3) rfl) (wl_field (o := 1) (off' := 1) ff_53_1 rfl rfl rfl (wl_load_blk (i := 2) (vs := [v10]) (v := v10) tf_29 rfl rfl hS163 rfl rfl rfl (wl_lenr (e := ty_3) (l := u7.2.1) Try.underlying29 rfl rfl (hS163.own_ro (i := 1) rfl) (wl_neq rfl rfl rfl (WL.nil (fun a ha => hK171 _ _ (W.cond rfl (fun h172 => ?_) (fun h172 => ?_)) a ha))))))))))) a ha
        ·replace hF := ifP h172 hF
         refine W.seq fun K173 hK173 => W.region (wl_assign rfl rfl (WL.nil (fun a ha => hK173 _ _ (W.ret ?_) a ha)))
         have hr := Option.some.inj hF
         subst hr
         exact rets (vs := [(.bool false)]) hQ rfl ⟨rv_tmp rfl, trivial⟩ ⟨rfl, hB162⟩
        ·replace hF := ifN h172 hF
         refine W.skip fun a ha => hK170 _ _ (W.seq fun K174 hK174 => (W.seq fun K175 hK175 => (W.region (wl_move rfl rfl (wl_lenr (e := ty_3) (l := u36.1) Try.underlying29 rfl rfl (hS163.own_ro (i := 3) rfl) (wl_move rfl rfl (WL.nil (fun a ha => hK175 _ _ (W.block (W.loopk (fun m a w176 => ∃ (y179 : Int), St 395 [(5, (.pointer (some ⟨b17, 0, none⟩))), (320, v37), (321, (.int .i64 (List.length u36.1 : Int))), (322, (.int .i64 y179))] a ∧ Below w0.heap.size w0 w176 ∧ Sep w0.heap.size w176 [R.own ty_63 F9 v8 u7.1, R.own ty_3 F11 v10 u7.2.1, R.blk b17 53 [v8, v10, (.int .i64 u7.2.2.1), (.int .i64 u7.2.2.2)], R.own ty_3 F38 v37 u36.1] ∧ F_laws_FnDemands_L4 u36 u7 m y179 = some r) FU ?_ ?_)) a ha)))))))) a ha
         ·
          exact fun a ha => ⟨0, ha.sub ⟨rfl, rfl, rfl, rfl, trivial⟩, hB162, (hS163.sel [0, 1, 2, 3] rfl), hF⟩
         ·
          rintro m182 a w176 ⟨y179, ha, hB177, hS178, hF⟩ KL181 hKL181
          refine W.at ?_ ha
          cases m182 with
          | zero => exact noneE hF
          | succ m182 =>
           obtain ⟨nx180, hnx180⟩ : ∃ k, k = F_laws_FnDemands_L4 u36 u7 m182 := ⟨_, rfl⟩
           rw [F_laws_FnDemands_L4, ← hnx180] at hF
           refine W.seq fun K183 hK183 => W.region (wl_lss rfl rfl rfl (WL.nil (fun a ha => hK183 _ _ (W.seq fun K184 hK184 => (W.cond rfl (fun h185 => ?_) (fun h185 => ?_))) a ha)))
           ·replace hF := ifP h185 hF
            refine W.skip fun a ha => hK184 _ _ (W.seq fun K186 hK186 => (W.block (W.seq fun K187 hK187 => (W.region (wl_move rfl rfl ?_))))) a ha
            obtain ⟨u188, hu188, hF⟩ := bindE hF
            refine wl_indexo (e := ty_3) (i := 3) Try.underlying29 rfl rfl rfl hS178 rfl hu188 ?_
            rintro p189 _ rfl hp190 ho191
            refine wl_load_p (vs := [(.int .i64 u188)]) (v := (.int .i64 u188)) tf_3 rfl rfl hp190 rfl rfl (wl_assign rfl rfl (wl_assign rfl rfl (WL.nil (fun a ha => hK187 _ _ (W.seq fun K192 hK192 => (W.region (wl_lit (vs := [(.int .i64 0), (.int .i64 1)]) (l := [0, 1]) fl_3 Try.underlying29 rfl rfl rfl rfl rfl rfl hB177 hS178 ?_))) a ha))))
            intro v193 F194 w195 hb196 hB197 hS198
            refine wl_lenr (e := ty_3) (l := [0, 1]) Try.underlying29 rfl rfl (hS198.own_ro (i := 0) rfl) (wl_move rfl rfl (WL.nil (fun a ha => hK192 _ _ (W.block (W.loopk (fun m a w199 => ∃ (y202 : Int), St 395 [(5, (.pointer (some ⟨b17, 0, none⟩))), (40, (.int .i64 y179)), (41, (.int .i64 u188)), (320, v37), (321, (.int .i64 (List.length u36.1 : Int))), (322, (.int .i64 y179)), (327, v193), (328, (.int .i64 (List.length [0, 1] : Int))), (329, (.int .i64 y202))] a ∧ Below w0.heap.size w0 w199 ∧ Sep w0.heap.size w199 [R.own ty_63 F9 v8 u7.1, R.own ty_3 F11 v10 u7.2.1, R.blk b17 53 [v8, v10, (.int .i64 u7.2.2.1), (.int .i64 u7.2.2.2)], R.own ty_3 F38 v37 u36.1, R.own ty_3 F194 v193 [0, 1]] ∧ F_laws_FnDemands_L5 u188 u7 y179 nx180 m y202 = some r) FU ?_ ?_)) a ha)))
            ·
             exact fun a ha => ⟨0, ha.sub ⟨rfl, rfl, rfl, rfl, rfl, rfl, rfl, rfl, rfl, trivial⟩, hB197, (hS198.sel [1, 2, 3, 4, 0] rfl), hF⟩
            ·
             rintro m205 a w199 ⟨y202, ha, hB200, hS201, hF⟩ KL204 hKL204
             refine W.at ?_ ha
             cases m205 with
             | zero => exact noneE hF
             | succ m205 =>
              obtain ⟨nx203, hnx203⟩ : ∃ k, k = F_laws_FnDemands_L5 u188 u7 y179 nx180 m205 := ⟨_, rfl⟩
              rw [F_laws_FnDemands_L5, ← hnx203] at hF
              refine W.seq fun K206 hK206 => W.region (wl_lss rfl rfl rfl (WL.nil (fun a ha => hK206 _ _ (W.seq fun K207 hK207 => (W.cond rfl (fun h208 => ?_) (fun h208 => ?_))) a ha)))
              ·replace hF := ifP h208 hF
               refine W.skip fun a ha => hK207 _ _ (W.seq fun K209 hK209 => ?_) a ha
               obtain ⟨k213, hk213, hF⟩ := jE0 hF
               have hJ214 : ∀ (w210 : World) (_ : k213 = some r) (_ : Below w0.heap.size w0 w210) (_ : Sep w0.heap.size w210 [R.own ty_63 F9 v8 u7.1, R.own ty_3 F11 v10 u7.2.1, R.blk b17 53 [v8, v10, (.int .i64 u7.2.2.1), (.int .i64 u7.2.2.2)], R.own ty_3 F38 v37 u36.1, R.own ty_3 F194 v193 [0, 1]]), ∀ a, St 395 [(5, (.pointer (some ⟨b17, 0, none⟩))), (40, (.int .i64 y179)), (41, (.int .i64 u188)), (320, v37), (321, (.int .i64 (List.length u36.1 : Int))), (322, (.int .i64 y179)), (327, v193), (328, (.int .i64 (List.length [0, 1] : Int))), (329, (.int .i64 y202))] a → K209 a w210 := by
                intro w210 hF hB211 hS212
                subst hk213
                refine fun a ha => hK209 _ _ (W.region (wl_add rfl rfl rfl (wl_move rfl rfl (WL.nil ?_)))) a ha
                rw [hnx203] at hF
                exact fun a ha => hKL204 a _ m205 (Nat.lt_succ_self m205) ⟨(w64 (y202 + 1)), ha.sub ⟨rfl, rfl, rfl, rfl, rfl, rfl, rfl, rfl, rfl, trivial⟩, hB211, (hS212.sel [0, 1, 2, 3, 4] rfl), hF⟩
               refine W.block (W.seq fun K215 hK215 => (W.region ?_))
               obtain ⟨u216, hu216, hF⟩ := bindE hF
               refine wl_indexo (e := ty_3) (i := 4) Try.underlying29 rfl rfl rfl hS201 rfl hu216 ?_
               rintro p217 _ rfl hp218 ho219
               refine wl_load_p (vs := [(.int .i64 u216)]) (v := (.int .i64 u216)) tf_3 rfl rfl hp218 rfl rfl (wl_assign rfl rfl (WL.nil (fun a ha => hK215 _ _ (W.seq fun K220 hK220 => (W.seq fun K221 hK221 => (W.region (wl_move rfl rfl (wl_move rfl rfl (wl_sub rfl rfl rfl (wl_lss rfl rfl rfl (WL.nil (fun a ha => hK221 _ _ (W.cond rfl (fun h222 => ?_) (fun h222 => ?_)) a ha))))))))) a ha)))
               ·replace hF := ifP h222 hF
                refine W.exit ?_
                exact fun a ha => hJ214 _ hF hB200 (hS201.sel [0, 1, 2, 3, 4] rfl) a (ha.sub ⟨rfl, rfl, rfl, rfl, rfl, rfl, rfl, rfl, rfl, trivial⟩)
               ·replace hF := ifN h222 hF
                refine W.skip fun a ha => hK220 _ _ (W.seq fun K223 hK223 => (W.region (wl_lit (vs := []) (l := []) fl_3 Try.underlying29 rfl rfl rfl rfl rfl rfl hB200 hS201 ?_))) a ha
                intro v224 F225 w226 hb227 hB228 hS229
                refine wl_field (o := 1) (off' := 1) ff_53_1 rfl rfl rfl (wl_load_blk (i := 3) (vs := [v10]) (v := v10) tf_29 rfl rfl hS229 rfl rfl rfl ?_)
                obtain ⟨u230, hu230, hF⟩ := bindE hF
                refine wl_append (i := 0) (S := (· < w226.heap.size)) fl_3 Try.underlying29 rfl rfl rfl hB228 hS229 rfl (hS229.own_ro (i := 2) rfl) hu230 ?_
                intro v231 F232 w233 hk234 hB235 hS236
                refine wl_assign rfl rfl (WL.nil (fun a ha => hK223 _ _ (W.seq fun K237 hK237 => (W.region (wl_move rfl rfl (wl_move rfl rfl (wl_move rfl rfl (wl_move rfl rfl (wl_sub rfl rfl rfl ?_))))))) a ha))
                obtain ⟨u238, hu238, hF⟩ := bindE hF
                refine wl_indexo (e := ty_3) (i := 0) Try.underlying29 rfl rfl rfl hS236 rfl hu238 ?_
                rintro p239 _ rfl hp240 ho241
                refine wl_storeo (i := 0) (o := 0) (vs := [(.int .i64 (w64 (u188 - u216)))]) (u' := (w64 (u188 - u216))) fl_3 tf_3 rfl rfl rfl rfl ho241 hu238 hB235 hS236 rfl rfl ⟨rfl, trivial⟩ rfl ?_
                intro w242 hk245 hB243 hS244
                refine WL.nil fun a ha => hK237 _ _ (W.seq fun K246 hK246 => (W.region (wl_field (o := 0) (off' := 0) ff_53_0 rfl rfl rfl (wl_load_blk (i := 3) (vs := [v8]) (v := v8) tf_51 rfl rfl hS244 rfl rfl rfl (wl_move rfl rfl (wl_field (o := 2) (off' := 2) ff_53_2 rfl rfl rfl (wl_load_blk (i := 3) (vs := [(.int .i64 u7.2.2.1)]) (v := (.int .i64 u7.2.2.1)) tf_3 rfl rfl hS244 rfl rfl rfl (wl_field (o := 3) (off' := 3) ff_53_3 rfl rfl rfl (wl_load_blk (i := 3) (vs := [(.int .i64 u7.2.2.2)]) (v := (.int .i64 u7.2.2.2)) tf_3 rfl rfl hS244 rfl rfl rfl ?_))))))))) a ha
                refine wl_build (zs := [(.slice none 0 0), (.slice none 0 0), (.int .i64 0), (.int .i64 0)]) (out := [v8, v231, (.int .i64 u7.2.2.1), (.int .i64 u7.2.2.2)]) (vs := [v8, v231, (.int .i64 u7.2.2.1), (.int .i64 u7.2.2.2)]) (css := [[v8], [v231], [(.int .i64 u7.2.2.1)], [(.int .i64 u7.2.2.2)]]) tf_53 pl_53 rfl rfl (by simp only [List.map_cons, List.map_nil, cells_one ((hS244.own_ro (i := 1) rfl).one), cells_one ((hS244.own_ro (i := 0) rfl).one)] <;> rfl) rfl rfl (wl_move rfl rfl ?_)
                obtain ⟨u247, hu247, hF⟩ := bindE hF
                refine wl_call rfl Try.call69 (C_impl_WideSteps w242 (u7.1, (seti u230 y179 (w64 (u188 - u216))), u7.2.2.1, u7.2.2.2) v8 (hS244.own_ro (i := 1) rfl) v231 (hS244.own_ro (i := 0) rfl) y179 _ hu247) rfl ?_
                rintro _ w250 ⟨v248, F249, rfl, hb251, hM254⟩
                refine ⟨_, rfl, ?_⟩
                have hB252 := hB243.trans (hb251.mono hB243.size)
                have hS253 := hS244.join hb251 hM254 hB243.size
                refine wl_move rfl rfl (wl_extract rfl rfl rfl (wl_extract rfl rfl rfl (wl_assign rfl rfl (wl_assign rfl rfl (WL.nil (fun a ha => hK246 _ _ (W.seq fun K255 hK255 => (W.region (wl_field (o := 0) (off' := 0) ff_53_0 rfl rfl rfl (wl_load_blk (i := 4) (vs := [v8]) (v := v8) tf_51 rfl rfl hS253 rfl rfl rfl (wl_move rfl rfl (wl_field (o := 2) (off' := 2) ff_53_2 rfl rfl rfl (wl_load_blk (i := 4) (vs := [(.int .i64 u7.2.2.1)]) (v := (.int .i64 u7.2.2.1)) tf_3 rfl rfl hS253 rfl rfl rfl ?_))))))) a ha))))))
                refine wl_field (o := 3) (off' := 3) ff_53_3 rfl rfl rfl (wl_load_blk (i := 4) (vs := [(.int .i64 u7.2.2.2)]) (v := (.int .i64 u7.2.2.2)) tf_3 rfl rfl hS253 rfl rfl rfl (wl_build (zs := [(.slice none 0 0), (.slice none 0 0), (.int .i64 0), (.int .i64 0)]) (out := [v8, v231, (.int .i64 u7.2.2.1), (.int .i64 u7.2.2.2)]) (vs := [v8, v231, (.int .i64 u7.2.2.1), (.int .i64 u7.2.2.2)]) (css := [[v8], [v231], [(.int .i64 u7.2.2.1)], [(.int .i64 u7.2.2.2)]]) tf_53 pl_53 rfl rfl (by simp only [List.map_cons, List.map_nil, cells_one ((hS253.own_ro (i := 2) rfl).one), cells_one ((hS253.own_ro (i := 1) rfl).one)] <;> rfl) rfl rfl (wl_move rfl rfl ?_)))
                obtain ⟨u256, hu256, hF⟩ := bindE hF
                refine wl_call rfl Try.call70 (C_spec_WideSteps w250 (u7.1, (seti u230 y179 (w64 (u188 - u216))), u7.2.2.1, u7.2.2.2) v8 (hS253.own_ro (i := 2) rfl) v231 (hS253.own_ro (i := 1) rfl) y179 _ hu256) rfl ?_
                rintro _ w259 ⟨v257, F258, rfl, hb260, hM263⟩
                refine ⟨_, rfl, ?_⟩
                have hB261 := hB252.trans (hb260.mono hB252.size)
                have hS262 := hS253.join hb260 hM263 hB252.size
                refine wl_move rfl rfl (wl_extract rfl rfl rfl (wl_extract rfl rfl rfl (wl_assign rfl rfl (wl_assign rfl rfl (WL.nil (fun a ha => hK255 _ _ (W.seq fun K264 hK264 => ?_) a ha))))))
                obtain ⟨k269, hk269, hF⟩ := jE1 hF
                have hJ270 : ∀ (y268 : Bool) (w265 : World) (_ : k269 y268 = some r) (_ : Below w0.heap.size w0 w265) (_ : Sep w0.heap.size w265 [R.own ty_63 F9 v8 u7.1, R.own ty_3 F11 v10 u7.2.1, R.blk b17 53 [v8, v10, (.int .i64 u7.2.2.1), (.int .i64 u7.2.2.2)], R.own ty_3 F38 v37 u36.1, R.own ty_3 F194 v193 [0, 1]]), ∀ a, St 395 [(5, (.pointer (some ⟨b17, 0, none⟩))), (40, (.int .i64 y179)), (41, (.int .i64 u188)), (320, v37), (321, (.int .i64 (List.length u36.1 : Int))), (322, (.int .i64 y179)), (327, v193), (328, (.int .i64 (List.length [0, 1] : Int))), (329, (.int .i64 y202)), (392, (.bool y268))] a → K264 a w265 := by
                 intro y268 w265 hF hB266 hS267
                 subst hk269
                 refine fun a ha => hK264 _ _ (W.cond rfl (fun h271 => ?_) (fun h271 => ?_)) a ha
                 ·replace hF := ifP h271 hF
                  refine W.seq fun K272 hK272 => W.region (wl_assign rfl rfl (WL.nil (fun a ha => hK272 _ _ (W.ret ?_) a ha)))
                  have hr := Option.some.inj hF
                  subst hr
                  exact rets (vs := [(.bool false)]) hQ rfl ⟨rv_tmp rfl, trivial⟩ ⟨rfl, hB266⟩
                 ·replace hF := ifN h271 hF
                  refine W.skip ?_
                  exact fun a ha => hJ214 _ hF hB266 (hS267.sel [0, 1, 2, 3, 4] rfl) a (ha.sub ⟨rfl, rfl, rfl, rfl, rfl, rfl, rfl, rfl, rfl, trivial⟩)
                refine W.region (wl_move rfl rfl (wl_not rfl rfl (wl_move rfl rfl ?_)))
                rcases bE (!u247.2) with h273 | h273
                ·replace hF := ifP h273 hF
                 refine wl_off rfl rfl rfl h273 (wl_off rfl rfl rfl h273 (wl_pick_t rfl rfl h273 rfl (wl_move rfl rfl (wl_off rfl rfl rfl rfl (wl_off rfl rfl rfl rfl (wl_off rfl rfl rfl rfl (wl_off rfl rfl rfl rfl (wl_pick_t rfl rfl rfl rfl (wl_move rfl rfl (wl_off rfl rfl rfl rfl (wl_off rfl rfl rfl rfl (wl_off rfl rfl rfl rfl (wl_off rfl rfl rfl rfl ?_)))))))))))))
                 refine wl_off rfl rfl rfl rfl (wl_off rfl rfl rfl rfl (wl_pick_t rfl rfl rfl rfl (WL.nil ?_)))
                 exact fun a ha => hJ270 (true) _ hF hB261 (hS262.sel [3, 4, 5, 6, 7] rfl) a (ha.sub ⟨rfl, rfl, rfl, rfl, rfl, rfl, rfl, rfl, rfl, rfl, trivial⟩)
                ·replace hF := ifN h273 hF
                 refine wl_on rfl rfl h273 (wl_move rfl rfl (wl_on rfl rfl h273 (wl_not rfl rfl (wl_pick_f rfl rfl h273 rfl (wl_move rfl rfl ?_)))))
                 rcases bE (!u256.2) with h274 | h274
                 ·replace hF := ifP h274 hF
                  refine wl_off rfl rfl rfl h274 (wl_off rfl rfl rfl h274 (wl_off rfl rfl rfl h274 (wl_off rfl rfl rfl h274 (wl_pick_t rfl rfl h274 rfl (wl_move rfl rfl (wl_off rfl rfl rfl rfl (wl_off rfl rfl rfl rfl (wl_off rfl rfl rfl rfl (wl_off rfl rfl rfl rfl (wl_off rfl rfl rfl rfl (wl_off rfl rfl rfl rfl (wl_pick_t rfl rfl rfl rfl (WL.nil ?_)))))))))))))
                  exact fun a ha => hJ270 (true) _ hF hB261 (hS262.sel [3, 4, 5, 6, 7] rfl) a (ha.sub ⟨rfl, rfl, rfl, rfl, rfl, rfl, rfl, rfl, rfl, rfl, trivial⟩)
                 ·replace hF := ifN h274 hF
                  refine wl_on rfl rfl h274 (wl_move rfl rfl (wl_on rfl rfl h274 (wl_move rfl rfl (wl_on rfl rfl h274 ?_))))
                  obtain ⟨u275, hu275, hF⟩ := bindE hF
                  refine wl_call rfl Try.call26 (C_laws_qInts w259 u247.1 v248 (hS262.own_ro (i := 1) rfl) u256.1 v257 (hS262.own_ro (i := 0) rfl) _ hu275) rfl ?_
                  rintro _ w276 ⟨rfl, hb277⟩
                  refine ⟨_, rfl, ?_⟩
                  have hB278 := hB261.trans (hb277.mono hB261.size)
                  have hS279 := hS262.below hb277
                  refine wl_on rfl rfl h274 (wl_not rfl rfl (wl_pick_f rfl rfl h274 rfl (wl_move rfl rfl ?_)))
                  rcases bE (!u275) with h281 | h281
                  ·replace hF := ifP h281 hF
                   refine wl_off rfl rfl rfl h281 (wl_off rfl rfl rfl h281 (wl_off rfl rfl rfl h281 (wl_off rfl rfl rfl h281 (wl_off rfl rfl rfl h281 (wl_off rfl rfl rfl h281 (wl_pick_t rfl rfl h281 rfl (WL.nil ?_)))))))
                   exact fun a ha => hJ270 (true) _ hF hB278 (hS279.sel [3, 4, 5, 6, 7] rfl) a (ha.sub ⟨rfl, rfl, rfl, rfl, rfl, rfl, rfl, rfl, rfl, rfl, trivial⟩)
                  ·replace hF := ifN h281 hF
                   refine wl_on rfl rfl h281 (wl_move rfl rfl (wl_on rfl rfl h281 (wl_lenr (e := ty_3) (l := u256.1) Try.underlying29 rfl rfl (hS279.own_ro (i := 0) rfl) (wl_on rfl rfl h281 (wl_eql rfl rfl rfl (wl_on rfl rfl h281 (wl_move rfl rfl (wl_on rfl rfl h281 (wl_eql rfl rfl rfl (wl_on rfl rfl h281 (wl_neqb Try.underlying4 rfl rfl rfl (wl_pick_f rfl rfl h281 rfl (WL.nil ?_)))))))))))))
                   exact fun a ha => hJ270 ((((List.length u256.1 : Int) == 0) != (u216 == 0))) _ hF hB278 (hS279.sel [3, 4, 5, 6, 7] rfl) a (ha.sub ⟨rfl, rfl, rfl, rfl, rfl, rfl, rfl, rfl, rfl, rfl, trivial⟩)
              ·replace hF := ifN h208 hF
               refine W.exit fun a ha => hK186 _ _ (W.region (wl_add rfl rfl rfl (wl_move rfl rfl (WL.nil ?_)))) a ha
               rw [hnx180] at hF
               exact fun a ha => hKL181 a _ m182 (Nat.lt_succ_self m182) ⟨(w64 (y179 + 1)), ha.sub ⟨rfl, rfl, rfl, rfl, trivial⟩, hB200, (hS201.sel [0, 1, 2, 3] rfl), hF⟩
           ·replace hF := ifN h185 hF
            refine W.exit fun a ha => hK174 _ _ (W.seq fun K282 hK282 => (W.region (wl_assign rfl rfl (WL.nil (fun a ha => hK282 _ _ (W.ret ?_) a ha))))) a ha
            have hr := Option.some.inj hF
            subst hr
            exact rets (vs := [(.bool true)]) hQ rfl ⟨rv_tmp rfl, trivial⟩ ⟨rfl, hB177⟩
      refine W.seq fun K283 hK283 => W.region (wl_move rfl rfl (WL.nil (fun a ha => hK283 _ _ (W.cond rfl (fun h284 => ?_) (fun h284 => ?_)) a ha)))
      ·replace hF := ifP h284 hF
       refine W.seq fun K285 hK285 => W.region (wl_lit (vs := [(.int .i64 0), (.int .i64 1)]) (l := [0, 1]) fl_3 Try.underlying29 rfl rfl rfl rfl rfl rfl hB156 hS157 ?_)
       intro v286 F287 w288 hb289 hB290 hS291
       refine wl_lenr (e := ty_3) (l := [0, 1]) Try.underlying29 rfl rfl (hS291.own_ro (i := 0) rfl) (wl_move rfl rfl (WL.nil (fun a ha => hK285 _ _ (W.block (W.loopk (fun m a w292 => ∃ (y295 : Int), St 395 [(5, (.pointer (some ⟨b17, 0, none⟩))), (7, (.bool u27.2)), (8, v37), (12, (.int .i64 u52.1)), (243, v286), (244, (.int .i64 (List.length [0, 1] : Int))), (245, (.int .i64 y295))] a ∧ Below w0.heap.size w0 w292 ∧ Sep w0.heap.size w292 [R.own ty_63 F9 v8 u7.1, R.own ty_3 F11 v10 u7.2.1, R.blk b17 53 [v8, v10, (.int .i64 u7.2.2.1), (.int .i64 u7.2.2.2)], R.own ty_3 F38 v37 u36.1, R.own ty_3 F287 v286 [0, 1]] ∧ F_laws_FnDemands_L2 u52 u7 k164 m y295 = some r) FU ?_ ?_)) a ha)))
       ·
        exact fun a ha => ⟨0, ha.sub ⟨rfl, rfl, rfl, rfl, rfl, rfl, rfl, trivial⟩, hB290, (hS291.sel [1, 2, 3, 4, 0] rfl), hF⟩
       ·
        rintro m298 a w292 ⟨y295, ha, hB293, hS294, hF⟩ KL297 hKL297
        refine W.at ?_ ha
        cases m298 with
        | zero => exact noneE hF
        | succ m298 =>
         obtain ⟨nx296, hnx296⟩ : ∃ k, k = F_laws_FnDemands_L2 u52 u7 k164 m298 := ⟨_, rfl⟩
         rw [F_laws_FnDemands_L2, ← hnx296] at hF
         refine W.seq fun K299 hK299 => W.region (wl_lss rfl rfl rfl (WL.nil (fun a ha => hK299 _ _ (W.seq fun K300 hK300 => (W.cond rfl (fun h301 => ?_) (fun h301 => ?_))) a ha)))
         ·replace hF := ifP h301 hF
          refine W.skip fun a ha => hK300 _ _ (W.seq fun K302 hK302 => ?_) a ha
          obtain ⟨k306, hk306, hF⟩ := jE0 hF
          have hJ307 : ∀ (w303 : World) (_ : k306 = some r) (_ : Below w0.heap.size w0 w303) (_ : Sep w0.heap.size w303 [R.own ty_63 F9 v8 u7.1, R.own ty_3 F11 v10 u7.2.1, R.blk b17 53 [v8, v10, (.int .i64 u7.2.2.1), (.int .i64 u7.2.2.2)], R.own ty_3 F38 v37 u36.1, R.own ty_3 F287 v286 [0, 1]]), ∀ a, St 395 [(5, (.pointer (some ⟨b17, 0, none⟩))), (7, (.bool u27.2)), (8, v37), (12, (.int .i64 u52.1)), (243, v286), (244, (.int .i64 (List.length [0, 1] : Int))), (245, (.int .i64 y295))] a → K302 a w303 := by
           intro w303 hF hB304 hS305
           subst hk306
           refine fun a ha => hK302 _ _ (W.region (wl_add rfl rfl rfl (wl_move rfl rfl (WL.nil ?_)))) a ha
           rw [hnx296] at hF
           exact fun a ha => hKL297 a _ m298 (Nat.lt_succ_self m298) ⟨(w64 (y295 + 1)), ha.sub ⟨rfl, rfl, rfl, rfl, rfl, rfl, rfl, trivial⟩, hB304, (hS305.sel [0, 1, 2, 3, 4] rfl), hF⟩
          refine W.block (W.seq fun K308 hK308 => (W.region ?_))
          obtain ⟨u309, hu309, hF⟩ := bindE hF
          refine wl_indexo (e := ty_3) (i := 4) Try.underlying29 rfl rfl rfl hS294 rfl hu309 ?_
          rintro p310 _ rfl hp311 ho312
          refine wl_load_p (vs := [(.int .i64 u309)]) (v := (.int .i64 u309)) tf_3 rfl rfl hp311 rfl rfl (wl_assign rfl rfl (WL.nil (fun a ha => hK308 _ _ (W.seq fun K313 hK313 => (W.seq fun K314 hK314 => (W.region (wl_move rfl rfl (wl_move rfl rfl (wl_sub rfl rfl rfl (wl_lss rfl rfl rfl (WL.nil (fun a ha => hK314 _ _ (W.cond rfl (fun h315 => ?_) (fun h315 => ?_)) a ha))))))))) a ha)))
          ·replace hF := ifP h315 hF
           refine W.exit ?_
           exact fun a ha => hJ307 _ hF hB293 (hS294.sel [0, 1, 2, 3, 4] rfl) a (ha.sub ⟨rfl, rfl, rfl, rfl, rfl, rfl, rfl, trivial⟩)
          ·replace hF := ifN h315 hF
           refine W.skip fun a ha => hK313 _ _ (W.seq fun K316 hK316 => (W.region (wl_assign rfl rfl (WL.nil (fun a ha => hK316 _ _ (W.seq fun K317 hK317 => (W.seq fun K318 hK318 => (W.region (wl_field (o := 1) (off' := 1) ff_53_1 rfl rfl rfl (wl_load_blk (i := 2) (vs := [v10]) (v := v10) tf_29 rfl rfl hS294 rfl rfl rfl (wl_lenr (e := ty_3) (l := u7.2.1) Try.underlying29 rfl rfl (hS294.own_ro (i := 1) rfl) (wl_move rfl rfl ?_))))))) a ha))))) a ha
           refine WL.nil fun a ha => hK318 _ _ (W.block (W.loopk (fun m a w319 => ∃ (y322 : Int) (y323 : Int), St 395 [(5, (.pointer (some ⟨b17, 0, none⟩))), (7, (.bool u27.2)), (8, v37), (12, (.int .i64 u52.1)), (33, (.int .i64 u309)), (34, (.int .i64 y322)), (243, v286), (244, (.int .i64 (List.length [0, 1] : Int))), (245, (.int .i64 y295)), (255, (.int .i64 (List.length u7.2.1 : Int))), (256, (.int .i64 y323))] a ∧ Below w0.heap.size w0 w319 ∧ Sep w0.heap.size w319 [R.own ty_63 F9 v8 u7.1, R.own ty_3 F11 v10 u7.2.1, R.blk b17 53 [v8, v10, (.int .i64 u7.2.2.1), (.int .i64 u7.2.2.2)], R.own ty_3 F38 v37 u36.1, R.own ty_3 F287 v286 [0, 1]] ∧ F_laws_FnDemands_L3 u7 u52 u309 k306 m y322 y323 = some r) FU ?_ ?_)) a ha
           ·
            exact fun a ha => ⟨0, 0, ha.sub ⟨rfl, rfl, rfl, rfl, rfl, rfl, rfl, rfl, rfl, rfl, rfl, trivial⟩, hB293, (hS294.sel [0, 1, 2, 3, 4] rfl), hF⟩
           ·
            rintro m326 a w319 ⟨y322, y323, ha, hB320, hS321, hF⟩ KL325 hKL325
            refine W.at ?_ ha
            cases m326 with
            | zero => exact noneE hF
            | succ m326 =>
             obtain ⟨nx324, hnx324⟩ : ∃ k, k = F_laws_FnDemands_L3 u7 u52 u309 k306 m326 := ⟨_, rfl⟩
             rw [F_laws_FnDemands_L3, ← hnx324] at hF
             refine W.seq fun K327 hK327 => W.region (wl_lss rfl rfl rfl (WL.nil (fun a ha => hK327 _ _ (W.seq fun K328 hK328 => (W.cond rfl (fun h329 => ?_) (fun h329 => ?_))) a ha)))
             ·replace hF := ifP h329 hF
              refine W.skip fun a ha => hK328 _ _ (W.seq fun K330 hK330 => (W.block (W.seq fun K331 hK331 => (W.region (wl_move rfl rfl (wl_assign rfl rfl (WL.nil (fun a ha => hK331 _ _ (W.seq fun K332 hK332 => (W.region (wl_field (o := 0) (off' := 0) ff_53_0 rfl rfl rfl (wl_load_blk (i := 2) (vs := [v8]) (v := v8) tf_51 rfl rfl hS321 rfl rfl rfl ?_)))) a ha)))))))) a ha
              refine wl_field (o := 1) (off' := 1) ff_53_1 rfl rfl rfl (wl_load_blk (i := 2) (vs := [v10]) (v := v10) tf_29 rfl rfl hS321 rfl rfl rfl (wl_field (o := 2) (off' := 2) ff_53_2 rfl rfl rfl (wl_load_blk (i := 2) (vs := [(.int .i64 u7.2.2.1)]) (v := (.int .i64 u7.2.2.1)) tf_3 rfl rfl hS321 rfl rfl rfl (wl_move rfl rfl (wl_move rfl rfl (wl_sub rfl rfl rfl (wl_build (zs := [(.slice none 0 0), (.slice none 0 0), (.int .i64 0), (.int .i64 0)]) (out := [v8, v10, (.int .i64 u7.2.2.1), (.int .i64 (w64 (u52.1 - u309)))]) (vs := [v8, v10, (.int .i64 u7.2.2.1), (.int .i64 (w64 (u52.1 - u309)))]) (css := [[v8], [v10], [(.int .i64 u7.2.2.1)], [(.int .i64 (w64 (u52.1 - u309)))]]) tf_53 pl_53 rfl rfl (by simp only [List.map_cons, List.map_nil, cells_one ((hS321.own_ro (i := 0) rfl).one), cells_one ((hS321.own_ro (i := 1) rfl).one)] <;> rfl) rfl rfl (wl_move rfl rfl ?_))))))))
              obtain ⟨u333, hu333, hF⟩ := bindE hF
              refine wl_call rfl Try.call69 (C_impl_WideSteps w319 (u7.1, u7.2.1, u7.2.2.1, (w64 (u52.1 - u309))) v8 (hS321.own_ro (i := 0) rfl) v10 (hS321.own_ro (i := 1) rfl) y323 _ hu333) rfl ?_
              rintro _ w336 ⟨v334, F335, rfl, hb337, hM340⟩
              refine ⟨_, rfl, ?_⟩
              have hB338 := hB320.trans (hb337.mono hB320.size)
              have hS339 := hS321.join hb337 hM340 hB320.size
              refine wl_move rfl rfl (wl_extract rfl rfl rfl (wl_extract rfl rfl rfl (wl_assign rfl rfl (wl_assign rfl rfl (WL.nil (fun a ha => hK332 _ _ (W.seq fun K341 hK341 => (W.region (wl_field (o := 0) (off' := 0) ff_53_0 rfl rfl rfl (wl_load_blk (i := 3) (vs := [v8]) (v := v8) tf_51 rfl rfl hS339 rfl rfl rfl (wl_field (o := 1) (off' := 1) ff_53_1 rfl rfl rfl (wl_load_blk (i := 3) (vs := [v10]) (v := v10) tf_29 rfl rfl hS339 rfl rfl rfl (wl_field (o := 2) (off' := 2) ff_53_2 rfl rfl rfl ?_))))))) a ha))))))
              refine wl_load_blk (i := 3) (vs := [(.int .i64 u7.2.2.1)]) (v := (.int .i64 u7.2.2.1)) tf_3 rfl rfl hS339 rfl rfl rfl (wl_move rfl rfl (wl_move rfl rfl (wl_sub rfl rfl rfl (wl_build (zs := [(.slice none 0 0), (.slice none 0 0), (.int .i64 0), (.int .i64 0)]) (out := [v8, v10, (.int .i64 u7.2.2.1), (.int .i64 (w64 (u52.1 - u309)))]) (vs := [v8, v10, (.int .i64 u7.2.2.1), (.int .i64 (w64 (u52.1 - u309)))]) (css := [[v8], [v10], [(.int .i64 u7.2.2.1)], [(.int .i64 (w64 (u52.1 - u309)))]]) tf_53 pl_53 rfl rfl (by simp only [List.map_cons, List.map_nil, cells_one ((hS339.own_ro (i := 1) rfl).one), cells_one ((hS339.own_ro (i := 2) rfl).one)] <;> rfl) rfl rfl (wl_move rfl rfl ?_)))))
              obtain ⟨u342, hu342, hF⟩ := bindE hF
              refine wl_call rfl Try.call70 (C_spec_WideSteps w336 (u7.1, u7.2.1, u7.2.2.1, (w64 (u52.1 - u309))) v8 (hS339.own_ro (i := 1) rfl) v10 (hS339.own_ro (i := 2) rfl) y323 _ hu342) rfl ?_
              rintro _ w345 ⟨v343, F344, rfl, hb346, hM349⟩
              refine ⟨_, rfl, ?_⟩
              have hB347 := hB338.trans (hb346.mono hB338.size)
              have hS348 := hS339.join hb346 hM349 hB338.size
              refine wl_move rfl rfl (wl_extract rfl rfl rfl (wl_extract rfl rfl rfl (wl_assign rfl rfl (wl_assign rfl rfl (WL.nil (fun a ha => hK341 _ _ (W.seq fun K350 hK350 => (W.seq fun K351 hK351 => ?_)) a ha))))))
              obtain ⟨k356, hk356, hF⟩ := jE1 hF
              have hJ357 : ∀ (y355 : Bool) (w352 : World) (_ : k356 y355 = some r) (_ : Below w0.heap.size w0 w352) (_ : Sep w0.heap.size w352 [R.own ty_63 F9 v8 u7.1, R.own ty_3 F11 v10 u7.2.1, R.blk b17 53 [v8, v10, (.int .i64 u7.2.2.1), (.int .i64 u7.2.2.2)], R.own ty_3 F38 v37 u36.1, R.own ty_3 F344 v343 u342.1, R.own ty_3 F287 v286 [0, 1]]), ∀ a, St 395 [(5, (.pointer (some ⟨b17, 0, none⟩))), (7, (.bool u27.2)), (8, v37), (12, (.int .i64 u52.1)), (33, (.int .i64 u309)), (34, (.int .i64 y322)), (38, v343), (243, v286), (244, (.int .i64 (List.length [0, 1] : Int))), (245, (.int .i64 y295)), (255, (.int .i64 (List.length u7.2.1 : Int))), (256, (.int .i64 y323)), (300, (.bool y355))] a → K351 a w352 := by
               intro y355 w352 hF hB353 hS354
               subst hk356
               refine fun a ha => hK351 _ _ (W.cond rfl (fun h358 => ?_) (fun h358 => ?_)) a ha
               ·replace hF := ifP h358 hF
                refine W.seq fun K359 hK359 => W.region (wl_assign rfl rfl (WL.nil (fun a ha => hK359 _ _ (W.ret ?_) a ha)))
                have hr := Option.some.inj hF
                subst hr
                exact rets (vs := [(.bool false)]) hQ rfl ⟨rv_tmp rfl, trivial⟩ ⟨rfl, hB353⟩
               ·replace hF := ifN h358 hF
                refine W.skip fun a ha => hK350 _ _ (W.region (wl_move rfl rfl (wl_move rfl rfl (wl_lenr (e := ty_3) (l := u342.1) Try.underlying29 rfl rfl (hS354.own_ro (i := 4) rfl) (wl_add rfl rfl rfl (wl_assign rfl rfl (WL.nil (fun a ha => hK330 _ _ (W.region (wl_add rfl rfl rfl (wl_move rfl rfl (WL.nil ?_)))) a ha)))))))) a ha
                rw [hnx324] at hF
                exact fun a ha => hKL325 a _ m326 (Nat.lt_succ_self m326) ⟨(w64 (y322 + (List.length u342.1 : Int))), (w64 (y323 + 1)), ha.sub ⟨rfl, rfl, rfl, rfl, rfl, rfl, rfl, rfl, rfl, rfl, rfl, trivial⟩, hB353, (hS354.sel [0, 1, 2, 3, 5] rfl), hF⟩
              refine W.region (wl_move rfl rfl (wl_not rfl rfl (wl_move rfl rfl ?_)))
              rcases bE (!u333.2) with h360 | h360
              ·replace hF := ifP h360 hF
               refine wl_off rfl rfl rfl h360 (wl_off rfl rfl rfl h360 (wl_pick_t rfl rfl h360 rfl (wl_move rfl rfl (wl_off rfl rfl rfl rfl (wl_off rfl rfl rfl rfl (wl_off rfl rfl rfl rfl (wl_off rfl rfl rfl rfl (wl_pick_t rfl rfl rfl rfl (WL.nil ?_)))))))))
               exact fun a ha => hJ357 (true) _ hF hB347 (hS348.sel [2, 3, 4, 5, 0, 6] rfl) a (ha.sub ⟨rfl, rfl, rfl, rfl, rfl, rfl, rfl, rfl, rfl, rfl, rfl, rfl, rfl, trivial⟩)
              ·replace hF := ifN h360 hF
               refine wl_on rfl rfl h360 (wl_move rfl rfl (wl_on rfl rfl h360 (wl_not rfl rfl (wl_pick_f rfl rfl h360 rfl (wl_move rfl rfl ?_)))))
               rcases bE (!u342.2) with h361 | h361
               ·replace hF := ifP h361 hF
                refine wl_off rfl rfl rfl h361 (wl_off rfl rfl rfl h361 (wl_off rfl rfl rfl h361 (wl_off rfl rfl rfl h361 (wl_pick_t rfl rfl h361 rfl (WL.nil ?_)))))
                exact fun a ha => hJ357 (true) _ hF hB347 (hS348.sel [2, 3, 4, 5, 0, 6] rfl) a (ha.sub ⟨rfl, rfl, rfl, rfl, rfl, rfl, rfl, rfl, rfl, rfl, rfl, rfl, rfl, trivial⟩)
               ·replace hF := ifN h361 hF
                refine wl_on rfl rfl h361 (wl_move rfl rfl (wl_on rfl rfl h361 (wl_move rfl rfl (wl_on rfl rfl h361 ?_))))
                obtain ⟨u362, hu362, hF⟩ := bindE hF
                refine wl_call rfl Try.call26 (C_laws_qInts w345 u333.1 v334 (hS348.own_ro (i := 1) rfl) u342.1 v343 (hS348.own_ro (i := 0) rfl) _ hu362) rfl ?_
                rintro _ w363 ⟨rfl, hb364⟩
                refine ⟨_, rfl, ?_⟩
                have hB365 := hB347.trans (hb364.mono hB347.size)
                have hS366 := hS348.below hb364
                refine wl_on rfl rfl h361 (wl_not rfl rfl (wl_pick_f rfl rfl h361 rfl (WL.nil ?_)))
                exact fun a ha => hJ357 ((!u362)) _ hF hB365 (hS366.sel [2, 3, 4, 5, 0, 6] rfl) a (ha.sub ⟨rfl, rfl, rfl, rfl, rfl, rfl, rfl, rfl, rfl, rfl, rfl, rfl, rfl, trivial⟩)
             ·replace hF := ifN h329 hF
              refine W.exit fun a ha => hK317 _ _ (W.seq fun K368 hK368 => (W.region (wl_move rfl rfl (wl_eql rfl rfl rfl (wl_move rfl rfl (wl_eql rfl rfl rfl (wl_neqb Try.underlying4 rfl rfl rfl (WL.nil (fun a ha => hK368 _ _ (W.cond rfl (fun h369 => ?_) (fun h369 => ?_)) a ha))))))))) a ha
              ·replace hF := ifP h369 hF
               refine W.seq fun K370 hK370 => W.region (wl_assign rfl rfl (WL.nil (fun a ha => hK370 _ _ (W.ret ?_) a ha)))
               have hr := Option.some.inj hF
               subst hr
               exact rets (vs := [(.bool false)]) hQ rfl ⟨rv_tmp rfl, trivial⟩ ⟨rfl, hB320⟩
              ·replace hF := ifN h369 hF
               refine W.skip ?_
               exact fun a ha => hJ307 _ hF hB320 (hS321.sel [0, 1, 2, 3, 4] rfl) a (ha.sub ⟨rfl, rfl, rfl, rfl, rfl, rfl, rfl, trivial⟩)
         ·replace hF := ifN h301 hF
          refine W.exit ?_
          exact fun a ha => hJ165 _ hF hB293 (hS294.sel [0, 1, 2, 3] rfl) a (ha.sub ⟨rfl, rfl, rfl, trivial⟩)
      ·replace hF := ifN h284 hF
       refine W.skip ?_
       exact fun a ha => hJ165 _ hF hB156 (hS157.sel [0, 1, 2, 3] rfl) a (ha.sub ⟨rfl, rfl, rfl, trivial⟩)
     refine W.seq fun K371 hK371 => W.region (wl_move rfl rfl (WL.nil (fun a ha => hK371 _ _ (W.cond rfl (fun h372 => ?_) (fun h372 => ?_)) a ha)))
     ·replace hF := ifP h372 hF
      refine W.seq fun K373 hK373 => W.seq fun K374 hK374 => W.region (wl_assign rfl rfl (WL.nil (fun a ha => hK374 _ _ (W.block (W.loopk (fun m a w375 => ∃ (l378 : (List ((List (List (Int × Int))) × (List Int) × Int × Int))) (y381 : Int) (v379 : Value) (F380 : List Nat), St 395 [(5, (.pointer (some ⟨b17, 0, none⟩))), (7, (.bool u27.2)), (8, v37), (11, (.bool u45.2)), (12, (.int .i64 u52.1)), (20, v379), (23, v125), (27, (.int .i64 y381))] a ∧ Below w0.heap.size w0 w375 ∧ Sep w0.heap.size w375 [R.own ty_63 F9 v8 u7.1, R.own ty_3 F11 v10 u7.2.1, R.blk b17 53 [v8, v10, (.int .i64 u7.2.2.1), (.int .i64 u7.2.2.2)], R.own ty_3 F38 v37 u36.1, R.fr ty_53 F380 v379 l378, R.own ty_3 F126 v125 u124.1] ∧ F_laws_FnDemands_L1 u124 k158 m l378 y381 = some r) FU ?_ ?_)) a ha)))
      ·
       exact fun a ha => ⟨l149, 1, v150, F151, ha.sub ⟨rfl, rfl, rfl, rfl, rfl, rfl, rfl, rfl, trivial⟩, hB147, (hS148.sel [0, 1, 2, 3, 4, 5] rfl), hF⟩
      ·
       rintro m384 a w375 ⟨l378, y381, v379, F380, ha, hB376, hS377, hF⟩ KL383 hKL383
       refine W.at ?_ ha
       cases m384 with
       | zero => exact noneE hF
       | succ m384 =>
        obtain ⟨nx382, hnx382⟩ : ∃ k, k = F_laws_FnDemands_L1 u124 k158 m384 := ⟨_, rfl⟩
        rw [F_laws_FnDemands_L1, ← hnx382] at hF
        refine W.seq fun K385 hK385 => W.seq fun K386 hK386 => W.region (wl_move rfl rfl (wl_move rfl rfl (wl_lenr (e := ty_3) (l := u124.1) Try.underlying29 rfl rfl (hS377.own_ro (i := 5) rfl) (wl_lss rfl rfl rfl (WL.nil (fun a ha => hK386 _ _ (W.cond rfl (fun h387 => ?_) (fun h387 => ?_)) a ha))))))
        ·replace hF := ifP h387 hF
         refine W.skip fun a ha => hK385 _ _ (W.seq fun K388 hK388 => (W.block (W.seq fun K389 hK389 => (W.regionH mixed_ [] hB376 hS377 ?_)))) a ha
         intro w390 hb391 hB392 hS393
         have hSW394 := KeepX.refl w390 []
         refine WH.tk 0 rfl hP hSW394 (pr_move rfl rfl (WH.tk 1 rfl hP hSW394 (pr_move rfl rfl (WH.tk 2 rfl hP hSW394 (pr_move rfl rfl (WH.tk 3 rfl hP hSW394 (pr_sub rfl rfl rfl ?_)))))))
         obtain ⟨u395, hu395, hF⟩ := bindE hF
         refine WH.tk 4 rfl hP hSW394 (pr_indexo (e := ty_3) (i := 5) Try.underlying29 rfl rfl rfl hS393 rfl hu395 ?_)
         rintro p396 _ rfl hp397 ho398
         refine WH.tk 5 rfl hP hSW394 (pr_load_p (vs := [(.int .i64 u395)]) (v := (.int .i64 u395)) tf_3 rfl rfl (hp397.kx0) rfl rfl ?_)
         obtain ⟨u399, hu399, hF⟩ := bindE hF
         refine WH.tk 6 rfl hP hSW394 (pr_index (e := ty_53) Try.underlying121 rfl rfl rfl (hS393.fr_ro (i := 4) rfl) hu399 ?_)
         rintro p400 _ ⟨_, _, rfl, ⟨v402, rfl, hv403⟩, ⟨_, _, rfl, ⟨v404, rfl, hv405⟩, ⟨_, _, rfl, rfl, rfl⟩⟩⟩ hp401
         refine WH.tk 7 rfl hP hSW394 (pr_load_p (vs := [v402, v404, (.int .i64 u399.2.2.1), (.int .i64 u399.2.2.2)]) (v := (.agg #[v402, v404, (.int .i64 u399.2.2.1), (.int .i64 u399.2.2.2)])) tf_53 rfl rfl (hp401.kx0) rfl rfl (WH.tk 8 rfl hP hSW394 (pr_move rfl rfl (WH.tk 9 rfl hP hSW394 (pr_move rfl rfl (WH.tk 10 rfl hP hSW394 (pr_move rfl rfl ?_)))))))
         obtain ⟨u406, hu406, hF⟩ := bindE hF
         refine WH.tk 11 rfl hP hSW394 (pr_indexo (e := ty_3) (i := 5) Try.underlying29 rfl rfl rfl hS393 rfl hu406 ?_)
         rintro p407 _ rfl hp408 ho409
         refine WH.tk 12 rfl hP hSW394 (pr_load_p (vs := [(.int .i64 u406)]) (v := (.int .i64 u406)) tf_3 rfl rfl (hp408.kx0) rfl rfl ?_)
         obtain ⟨u410, hu410, hF⟩ := bindE hF
         refine WH.tk 13 rfl hP hSW394 (pr_index (e := ty_53) Try.underlying121 rfl rfl rfl (hS393.fr_ro (i := 4) rfl) hu410 ?_)
         rintro p411 _ ⟨_, _, rfl, ⟨v413, rfl, hv414⟩, ⟨_, _, rfl, ⟨v415, rfl, hv416⟩, ⟨_, _, rfl, rfl, rfl⟩⟩⟩ hp412
         refine WH.tk 14 rfl hP hSW394 (pr_load_p (vs := [v413, v415, (.int .i64 u410.2.2.1), (.int .i64 u410.2.2.2)]) (v := (.agg #[v413, v415, (.int .i64 u410.2.2.1), (.int .i64 u410.2.2.2)])) tf_53 rfl rfl (hp412.kx0) rfl rfl (WH.on1 15 rfl ?_))
         obtain ⟨u417, hu417, hF⟩ := bindE hF
         refine wl_call rfl Try.call112 (C_impl_CompareDemand w390 u399 v402 (hv403.ro (hSW394.below hB392 hB392)) v404 (hv405.ro (hSW394.below hB392 hB392)) u410 v413 (hv414.ro (hSW394.below hB392 hB392)) v415 (hv416.ro (hSW394.below hB392 hB392)) _ hu417) rfl ?_
         rintro _ w418 ⟨rfl, hb419⟩
         refine ⟨_, rfl, ?_⟩
         have hB420 := hB392.trans (hb419.mono hB392.size)
         have hS421 := hS393.below hb419
         have hSW423 := hSW394.ext hb419
         refine WL.nil (WH.ret hSW423 (WH.tk 16 rfl hP hSW423 (pr_move rfl rfl (WH.tk 17 rfl hP hSW423 (pr_extract rfl rfl rfl (WH.tk 18 rfl hP hSW423 (pr_extract rfl rfl rfl (WH.tk 19 rfl hP hSW423 (pr_assign rfl rfl (WH.tk 20 rfl hP hSW423 (pr_assign rfl rfl (WH.done (by kernel_rfl) ?_))))))))))))
         have hv403 := hv403.ro (hSW423.below hB392 hB420)
         have hv405 := hv405.ro (hSW423.below hB392 hB420)
         have hv414 := hv414.ro (hSW423.below hB392 hB420)
         have hv416 := hv416.ro (hSW423.below hB392 hB420)
         refine fun a ha => hK389 _ _ (W.seq fun K424 hK424 => (W.regionH mixed_ [] hB420 hS421 ?_)) a ha
         intro w425 hb426 hB427 hS428
         have hv403 := hv403.ro hb426
         have hv405 := hv405.ro hb426
         have hv414 := hv414.ro hb426
         have hv416 := hv416.ro hb426
         have hSW429 := KeepX.refl w425 []
         refine WH.tk 0 rfl hP hSW429 (pr_move rfl rfl (WH.tk 1 rfl hP hSW429 (pr_move rfl rfl (WH.tk 2 rfl hP hSW429 (pr_move rfl rfl (WH.tk 3 rfl hP hSW429 (pr_sub rfl rfl rfl ?_)))))))
         obtain ⟨u430, hu430, hF⟩ := bindE hF
         refine WH.tk 4 rfl hP hSW429 (pr_indexo (e := ty_3) (i := 5) Try.underlying29 rfl rfl rfl hS428 rfl hu430 ?_)
         rintro p431 _ rfl hp432 ho433
         refine WH.tk 5 rfl hP hSW429 (pr_load_p (vs := [(.int .i64 u430)]) (v := (.int .i64 u430)) tf_3 rfl rfl (hp432.kx0) rfl rfl ?_)
         obtain ⟨u434, hu434, hF⟩ := bindE hF
         refine WH.tk 6 rfl hP hSW429 (pr_index (e := ty_53) Try.underlying121 rfl rfl rfl (hS428.fr_ro (i := 4) rfl) hu434 ?_)
         rintro p435 _ ⟨_, _, rfl, ⟨v437, rfl, hv438⟩, ⟨_, _, rfl, ⟨v439, rfl, hv440⟩, ⟨_, _, rfl, rfl, rfl⟩⟩⟩ hp436
         refine WH.tk 7 rfl hP hSW429 (pr_load_p (vs := [v437, v439, (.int .i64 u434.2.2.1), (.int .i64 u434.2.2.2)]) (v := (.agg #[v437, v439, (.int .i64 u434.2.2.1), (.int .i64 u434.2.2.2)])) tf_53 rfl rfl (hp436.kx0) rfl rfl (WH.tk 8 rfl hP hSW429 (pr_move rfl rfl (WH.tk 9 rfl hP hSW429 (pr_move rfl rfl (WH.tk 10 rfl hP hSW429 (pr_move rfl rfl ?_)))))))
         obtain ⟨u441, hu441, hF⟩ := bindE hF
         refine WH.tk 11 rfl hP hSW429 (pr_indexo (e := ty_3) (i := 5) Try.underlying29 rfl rfl rfl hS428 rfl hu441 ?_)
         rintro p442 _ rfl hp443 ho444
         refine WH.tk 12 rfl hP hSW429 (pr_load_p (vs := [(.int .i64 u441)]) (v := (.int .i64 u441)) tf_3 rfl rfl (hp443.kx0) rfl rfl ?_)
         obtain ⟨u445, hu445, hF⟩ := bindE hF
         refine WH.tk 13 rfl hP hSW429 (pr_index (e := ty_53) Try.underlying121 rfl rfl rfl (hS428.fr_ro (i := 4) rfl) hu445 ?_)
         rintro p446 _ ⟨_, _, rfl, ⟨v448, rfl, hv449⟩, ⟨_, _, rfl, ⟨v450, rfl, hv451⟩, ⟨_, _, rfl, rfl, rfl⟩⟩⟩ hp447
         refine WH.tk 14 rfl hP hSW429 (pr_load_p (vs := [v448, v450, (.int .i64 u445.2.2.1), (.int .i64 u445.2.2.2)]) (v := (.agg #[v448, v450, (.int .i64 u445.2.2.1), (.int .i64 u445.2.2.2)])) tf_53 rfl rfl (hp447.kx0) rfl rfl (WH.on1 15 rfl ?_))
         obtain ⟨u452, hu452, hF⟩ := bindE hF
         refine wl_call rfl Try.call113 (C_spec_CompareDemand w425 u434 v437 (hv438.ro (hSW429.below hB427 hB427)) v439 (hv440.ro (hSW429.below hB427 hB427)) u445 v448 (hv449.ro (hSW429.below hB427 hB427)) v450 (hv451.ro (hSW429.below hB427 hB427)) _ hu452) rfl ?_
         rintro _ w453 ⟨rfl, hb454⟩
         refine ⟨_, rfl, ?_⟩
         have hB455 := hB427.trans (hb454.mono hB427.size)
         have hS456 := hS428.below hb454
         have hSW458 := hSW429.ext hb454
         refine WL.nil (WH.ret hSW458 (WH.tk 16 rfl hP hSW458 (pr_move rfl rfl (WH.tk 17 rfl hP hSW458 (pr_extract rfl rfl rfl (WH.tk 18 rfl hP hSW458 (pr_extract rfl rfl rfl (WH.tk 19 rfl hP hSW458 (pr_assign rfl rfl (WH.tk 20 rfl hP hSW458 (pr_assign rfl rfl (WH.done (by kernel_rfl) ?_))))))))))))
         have hv403 := hv403.ro (hSW458.below hB427 hB455)
         have hv405 := hv405.ro (hSW458.below hB427 hB455)
         have hv414 := hv414.ro (hSW458.below hB427 hB455)
         have hv416 := hv416.ro (hSW458.below hB427 hB455)
         have hv438 := hv438.ro (hSW458.below hB427 hB455)
         have hv440 := hv440.ro (hSW458.below hB427 hB455)
         have hv449 := hv449.ro (hSW458.below hB427 hB455)
         have hv451 := hv451.ro (hSW458.below hB427 hB455)
         refine fun a ha => hK424 _ _ (W.seq fun K459 hK459 => ?_) a ha
         obtain ⟨k467, hk467, hF⟩ := jE2 hF
         have hJ468 : ∀ (l463 : (List ((List (List (Int × Int))) × (List Int) × Int × Int))) (y466 : Bool) (v464 : Value) (F465 : List Nat) (w460 : World) (_ : k467 l463 y466 = some r) (_ : Below w0.heap.size w0 w460) (_ : Sep w0.heap.size w460 [R.own ty_63 F9 v8 u7.1, R.own ty_3 F11 v10 u7.2.1, R.blk b17 53 [v8, v10, (.int .i64 u7.2.2.1), (.int .i64 u7.2.2.2)], R.own ty_3 F38 v37 u36.1, R.fr ty_53 F465 v464 l463, R.own ty_3 F126 v125 u124.1]), ∀ a, St 395 [(5, (.pointer (some ⟨b17, 0, none⟩))), (7, (.bool u27.2)), (8, v37), (11, (.bool u45.2)), (12, (.int .i64 u52.1)), (20, v464), (23, v125), (27, (.int .i64 y381)), (236, (.bool y466))] a → K459 a w460 := by
          intro l463 y466 v464 F465 w460 hF hB461 hS462
          subst hk467
          refine fun a ha => hK459 _ _ (W.cond rfl (fun h469 => ?_) (fun h469 => ?_)) a ha
          ·replace hF := ifP h469 hF
           refine W.seq fun K470 hK470 => W.region (wl_assign rfl rfl (WL.nil (fun a ha => hK470 _ _ (W.ret ?_) a ha)))
           have hr := Option.some.inj hF
           subst hr
           exact rets (vs := [(.bool false)]) hQ rfl ⟨rv_tmp rfl, trivial⟩ ⟨rfl, hB461⟩
          ·replace hF := ifN h469 hF
           refine W.skip fun a ha => hK388 _ _ (W.region (wl_move rfl rfl (wl_add rfl rfl rfl (wl_assign rfl rfl (WL.nil ?_))))) a ha
           rw [hnx382] at hF
           exact fun a ha => hKL383 a _ m384 (Nat.lt_succ_self m384) ⟨l463, (w64 (y381 + 1)), v464, F465, ha.sub ⟨rfl, rfl, rfl, rfl, rfl, rfl, rfl, rfl, trivial⟩, hB461, (hS462.sel [0, 1, 2, 3, 4, 5] rfl), hF⟩
         refine W.regionH mixed_ [] hB455 hS456 ?_
         intro w471 hb472 hB473 hS474
         have hv403 := hv403.ro hb472
         have hv405 := hv405.ro hb472
         have hv414 := hv414.ro hb472
         have hv416 := hv416.ro hb472
         have hv438 := hv438.ro hb472
         have hv440 := hv440.ro hb472
         have hv449 := hv449.ro hb472
         have hv451 := hv451.ro hb472
         have hSW475 := KeepX.refl w471 []
         refine WH.tk 0 rfl hP hSW475 (pr_move rfl rfl (WH.tk 1 rfl hP hSW475 (pr_not rfl rfl (WH.tk 2 rfl hP hSW475 (pr_move rfl rfl ?_)))))
         rcases bE (!u417.2) with h476 | h476
         ·replace hF := ifP h476 hF
          refine WH.off (i := 3) rfl (by kernel_rfl) (by kernel_rfl) (by kernel_rfl) hP rfl rfl h476 rfl hSW475 (WH.off (i := 4) rfl (by kernel_rfl) (by kernel_rfl) (by kernel_rfl) hP rfl rfl h476 rfl hSW475 (WH.tk 5 rfl hP hSW475 (pr_pick_t rfl rfl h476 rfl (WH.tk 6 rfl hP hSW475 (pr_move rfl rfl (WH.off (i := 7) rfl (by kernel_rfl) (by kernel_rfl) (by kernel_rfl) hP rfl rfl rfl rfl hSW475 (WH.off (i := 8) rfl (by kernel_rfl) (by kernel_rfl) (by kernel_rfl) hP rfl rfl rfl rfl hSW475 (WH.off (i := 9) rfl (by kernel_rfl) (by kernel_rfl) (by kernel_rfl) hP rfl rfl rfl rfl hSW475 (WH.tk 10 rfl hP hSW475 (pr_pick_t rfl rfl rfl rfl (WH.tk 11 rfl hP hSW475 (pr_move rfl rfl (WH.off (i := 12) rfl (by kernel_rfl) (by kernel_rfl) (by kernel_rfl) hP rfl rfl rfl rfl hSW475 ?_)))))))))))))
          refine WH.off (i := 13) rfl (by kernel_rfl) (by kernel_rfl) (by kernel_rfl) hP rfl rfl rfl rfl hSW475 (WH.tk 14 rfl hP hSW475 (pr_pick_t rfl rfl rfl rfl (WH.tk 15 rfl hP hSW475 (pr_move rfl rfl (WH.off (i := 16) rfl (by kernel_rfl) (by kernel_rfl) (by kernel_rfl) hP rfl rfl rfl rfl hSW475 (WH.off (i := 17) rfl (by kernel_rfl) (by kernel_rfl) (by kernel_rfl) hP rfl rfl rfl rfl hSW475 (WH.off (i := 18) rfl (by kernel_rfl) (by kernel_rfl) (by kernel_rfl) hP rfl rfl rfl rfl hSW475 (WH.offu (i := 19) rfl (by kernel_rfl) (by kernel_rfl) (by kernel_rfl) hP rfl rfl rfl hSW475 (WH.offu (i := 20) rfl (by kernel_rfl) (by kernel_rfl) (by kernel_rfl) hP rfl rfl rfl hSW475 (WH.offu (i := 21) rfl (by kernel_rfl) (by kernel_rfl) (by kernel_rfl) hP rfl rfl rfl hSW475 (WH.offu (i := 22) rfl (by kernel_rfl) (by kernel_rfl) (by kernel_rfl) hP rfl rfl rfl hSW475 ?_)))))))))))
          refine WH.offu (i := 23) rfl (by kernel_rfl) (by kernel_rfl) (by kernel_rfl) hP rfl rfl rfl hSW475 (WH.offu (i := 24) rfl (by kernel_rfl) (by kernel_rfl) (by kernel_rfl) hP rfl rfl rfl hSW475 (WH.offu (i := 25) rfl (by kernel_rfl) (by kernel_rfl) (by kernel_rfl) hP rfl rfl rfl hSW475 (WH.offu (i := 26) rfl (by kernel_rfl) (by kernel_rfl) (by kernel_rfl) hP rfl rfl rfl hSW475 (WH.offu (i := 27) rfl (by kernel_rfl) (by kernel_rfl) (by kernel_rfl) hP rfl rfl rfl hSW475 (WH.offu (i := 28) rfl (by kernel_rfl) (by kernel_rfl) (by kernel_rfl) hP rfl rfl rfl hSW475 (WH.off (i := 29) rfl (by kernel_rfl) (by kernel_rfl) (by kernel_rfl) hP rfl rfl rfl rfl hSW475 (WH.tk 30 rfl hP hSW475 (pr_pick_t rfl rfl rfl rfl (WH.done (by kernel_rfl) ?_)))))))))
          exact fun a ha => hJ468 (l378) (true) (v379) (F380) _ hF hB473 (hS474.sel [0, 1, 2, 3, 4, 5] rfl) a (ha.sub ⟨rfl, rfl, rfl, rfl, rfl, rfl, rfl, rfl, rfl, trivial⟩)
         ·replace hF := ifN h476 hF
          refine WH.takexg (i := 3) rfl (by kernel_rfl) (by kernel_rfl) (by kernel_rfl) hP rfl rfl h476 hSW475 (pr_move rfl rfl (WH.takexg (i := 4) rfl (by kernel_rfl) (by kernel_rfl) (by kernel_rfl) hP rfl rfl h476 hSW475 (pr_not rfl rfl (WH.tk 5 rfl hP hSW475 (pr_pick_f rfl rfl h476 rfl (WH.tk 6 rfl hP hSW475 (pr_move rfl rfl ?_)))))))
          rcases bE (!u452.2) with h477 | h477
          ·replace hF := ifP h477 hF
           refine WH.off (i := 7) rfl (by kernel_rfl) (by kernel_rfl) (by kernel_rfl) hP rfl rfl h477 rfl hSW475 (WH.off (i := 8) rfl (by kernel_rfl) (by kernel_rfl) (by kernel_rfl) hP rfl rfl h477 rfl hSW475 (WH.off (i := 9) rfl (by kernel_rfl) (by kernel_rfl) (by kernel_rfl) hP rfl rfl h477 rfl hSW475 (WH.tk 10 rfl hP hSW475 (pr_pick_t rfl rfl h477 rfl (WH.tk 11 rfl hP hSW475 (pr_move rfl rfl (WH.off (i := 12) rfl (by kernel_rfl) (by kernel_rfl) (by kernel_rfl) hP rfl rfl rfl rfl hSW475 (WH.off (i := 13) rfl (by kernel_rfl) (by kernel_rfl) (by kernel_rfl) hP rfl rfl rfl rfl hSW475 (WH.tk 14 rfl hP hSW475 (pr_pick_t rfl rfl rfl rfl (WH.tk 15 rfl hP hSW475 (pr_move rfl rfl (WH.off (i := 16) rfl (by kernel_rfl) (by kernel_rfl) (by kernel_rfl) hP rfl rfl rfl rfl hSW475 ?_)))))))))))))
           refine WH.off (i := 17) rfl (by kernel_rfl) (by kernel_rfl) (by kernel_rfl) hP rfl rfl rfl rfl hSW475 (WH.off (i := 18) rfl (by kernel_rfl) (by kernel_rfl) (by kernel_rfl) hP rfl rfl rfl rfl hSW475 (WH.offu (i := 19) rfl (by kernel_rfl) (by kernel_rfl) (by kernel_rfl) hP rfl rfl rfl hSW475 (WH.offu (i := 20) rfl (by kernel_rfl) (by kernel_rfl) (by kernel_rfl) hP rfl rfl rfl hSW475 (WH.offu (i := 21) rfl (by kernel_rfl) (by kernel_rfl) (by kernel_rfl) hP rfl rfl rfl hSW475 (WH.offu (i := 22) rfl (by kernel_rfl) (by kernel_rfl) (by kernel_rfl) hP rfl rfl rfl hSW475 (WH.offu (i := 23) rfl (by kernel_rfl) (by kernel_rfl) (by kernel_rfl) hP rfl rfl rfl hSW475 (WH.offu (i := 24) rfl (by kernel_rfl) (by kernel_rfl) (by kernel_rfl) hP rfl rfl rfl hSW475 (WH.offu (i := 25) rfl (by kernel_rfl) (by kernel_rfl) (by kernel_rfl) hP rfl rfl rfl hSW475 ?_))))))))
           refine WH.offu (i := 26) rfl (by kernel_rfl) (by kernel_rfl) (by kernel_rfl) hP rfl rfl rfl hSW475 (WH.offu (i := 27) rfl (by kernel_rfl) (by kernel_rfl) (by kernel_rfl) hP rfl rfl rfl hSW475 (WH.offu (i := 28) rfl (by kernel_rfl) (by kernel_rfl) (by kernel_rfl) hP rfl rfl rfl hSW475 (WH.off (i := 29) rfl (by kernel_rfl) (by kernel_rfl) (by kernel_rfl) hP rfl rfl rfl rfl hSW475 (WH.tk 30 rfl hP hSW475 (pr_pick_t rfl rfl rfl rfl (WH.done (by kernel_rfl) ?_))))))
           exact fun a ha => hJ468 (l378) (true) (v379) (F380) _ hF hB473 (hS474.sel [0, 1, 2, 3, 4, 5] rfl) a (ha.sub ⟨rfl, rfl, rfl, rfl, rfl, rfl, rfl, rfl, rfl, trivial⟩)
          ·replace hF := ifN h477 hF
           refine WH.takexg (i := 7) rfl (by kernel_rfl) (by kernel_rfl) (by kernel_rfl) hP rfl rfl h477 hSW475 (pr_move rfl rfl (WH.takexg (i := 8) rfl (by kernel_rfl) (by kernel_rfl) (by kernel_rfl) hP rfl rfl h477 hSW475 (pr_move rfl rfl (WH.takexg (i := 9) rfl (by kernel_rfl) (by kernel_rfl) (by kernel_rfl) hP rfl rfl h477 hSW475 (pr_neq rfl rfl rfl (WH.tk 10 rfl hP hSW475 (pr_pick_f rfl rfl h477 rfl (WH.tk 11 rfl hP hSW475 (pr_move rfl rfl ?_)))))))))
           rcases bE (u417.1 != u452.1) with h478 | h478
           ·replace hF := ifP h478 hF
            refine WH.off (i := 12) rfl (by kernel_rfl) (by kernel_rfl) (by kernel_rfl) hP rfl rfl h478 rfl hSW475 (WH.off (i := 13) rfl (by kernel_rfl) (by kernel_rfl) (by kernel_rfl) hP rfl rfl h478 rfl hSW475 (WH.tk 14 rfl hP hSW475 (pr_pick_t rfl rfl h478 rfl (WH.tk 15 rfl hP hSW475 (pr_move rfl rfl (WH.off (i := 16) rfl (by kernel_rfl) (by kernel_rfl) (by kernel_rfl) hP rfl rfl rfl rfl hSW475 (WH.off (i := 17) rfl (by kernel_rfl) (by kernel_rfl) (by kernel_rfl) hP rfl rfl rfl rfl hSW475 (WH.off (i := 18) rfl (by kernel_rfl) (by kernel_rfl) (by kernel_rfl) hP rfl rfl rfl rfl hSW475 (WH.offu (i := 19) rfl (by kernel_rfl) (by kernel_rfl) (by kernel_rfl) hP rfl rfl rfl hSW475 (WH.offu (i := 20) rfl (by kernel_rfl) (by kernel_rfl) (by kernel_rfl) hP rfl rfl rfl hSW475 (WH.offu (i := 21) rfl (by kernel_rfl) (by kernel_rfl) (by kernel_rfl) hP rfl rfl rfl hSW475 ?_)))))))))))
            refine WH.offu (i := 22) rfl (by kernel_rfl) (by kernel_rfl) (by kernel_rfl) hP rfl rfl rfl hSW475 (WH.offu (i := 23) rfl (by kernel_rfl) (by kernel_rfl) (by kernel_rfl) hP rfl rfl rfl hSW475 (WH.offu (i := 24) rfl (by kernel_rfl) (by kernel_rfl) (by kernel_rfl) hP rfl rfl rfl hSW475 (WH.offu (i := 25) rfl (by kernel_rfl) (by kernel_rfl) (by kernel_rfl) hP rfl rfl rfl hSW475 (WH.offu (i := 26) rfl (by kernel_rfl) (by kernel_rfl) (by kernel_rfl) hP rfl rfl rfl hSW475 (WH.offu (i := 27) rfl (by kernel_rfl) (by kernel_rfl) (by kernel_rfl) hP rfl rfl rfl hSW475 (WH.offu (i := 28) rfl (by kernel_rfl) (by kernel_rfl) (by kernel_rfl) hP rfl rfl rfl hSW475 (WH.off (i := 29) rfl (by kernel_rfl) (by kernel_rfl) (by kernel_rfl) hP rfl rfl rfl rfl hSW475 (WH.tk 30 rfl hP hSW475 (pr_pick_t rfl rfl rfl rfl (WH.done (by kernel_rfl) ?_))))))))))
            exact fun a ha => hJ468 (l378) (true) (v379) (F380) _ hF hB473 (hS474.sel [0, 1, 2, 3, 4, 5] rfl) a (ha.sub ⟨rfl, rfl, rfl, rfl, rfl, rfl, rfl, rfl, rfl, trivial⟩)
           ·replace hF := ifN h478 hF
            refine WH.takexg (i := 12) rfl (by kernel_rfl) (by kernel_rfl) (by kernel_rfl) hP rfl rfl h478 hSW475 (pr_move rfl rfl (WH.takexg (i := 13) rfl (by kernel_rfl) (by kernel_rfl) (by kernel_rfl) hP rfl rfl h478 hSW475 (pr_gtr rfl rfl rfl (WH.tk 14 rfl hP hSW475 (pr_pick_f rfl rfl h478 rfl (WH.tk 15 rfl hP hSW475 (pr_move rfl rfl ?_)))))))
            rcases bE (decide (0 < u452.1)) with h479 | h479
            ·replace hF := ifP h479 hF
             refine WH.off (i := 16) rfl (by kernel_rfl) (by kernel_rfl) (by kernel_rfl) hP rfl rfl h479 rfl hSW475 (WH.off (i := 17) rfl (by kernel_rfl) (by kernel_rfl) (by kernel_rfl) hP rfl rfl h479 rfl hSW475 (WH.off (i := 18) rfl (by kernel_rfl) (by kernel_rfl) (by kernel_rfl) hP rfl rfl h479 rfl hSW475 (WH.offu (i := 19) rfl (by kernel_rfl) (by kernel_rfl) (by kernel_rfl) hP rfl rfl rfl hSW475 (WH.offu (i := 20) rfl (by kernel_rfl) (by kernel_rfl) (by kernel_rfl) hP rfl rfl rfl hSW475 (WH.offu (i := 21) rfl (by kernel_rfl) (by kernel_rfl) (by kernel_rfl) hP rfl rfl rfl hSW475 (WH.offu (i := 22) rfl (by kernel_rfl) (by kernel_rfl) (by kernel_rfl) hP rfl rfl rfl hSW475 (WH.offu (i := 23) rfl (by kernel_rfl) (by kernel_rfl) (by kernel_rfl) hP rfl rfl rfl hSW475 (WH.offu (i := 24) rfl (by kernel_rfl) (by kernel_rfl) (by kernel_rfl) hP rfl rfl rfl hSW475 ?_))))))))
             refine WH.offu (i := 25) rfl (by kernel_rfl) (by kernel_rfl) (by kernel_rfl) hP rfl rfl rfl hSW475 (WH.offu (i := 26) rfl (by kernel_rfl) (by kernel_rfl) (by kernel_rfl) hP rfl rfl rfl hSW475 (WH.offu (i := 27) rfl (by kernel_rfl) (by kernel_rfl) (by kernel_rfl) hP rfl rfl rfl hSW475 (WH.offu (i := 28) rfl (by kernel_rfl) (by kernel_rfl) (by kernel_rfl) hP rfl rfl rfl hSW475 (WH.off (i := 29) rfl (by kernel_rfl) (by kernel_rfl) (by kernel_rfl) hP rfl rfl h479 rfl hSW475 (WH.tk 30 rfl hP hSW475 (pr_pick_t rfl rfl h479 rfl (WH.done (by kernel_rfl) ?_)))))))
             exact fun a ha => hJ468 (l378) (true) (v379) (F380) _ hF hB473 (hS474.sel [0, 1, 2, 3, 4, 5] rfl) a (ha.sub ⟨rfl, rfl, rfl, rfl, rfl, rfl, rfl, rfl, rfl, trivial⟩)
            ·replace hF := ifN h479 hF
             refine WH.takexg (i := 16) rfl (by kernel_rfl) (by kernel_rfl) (by kernel_rfl) hP rfl rfl h479 hSW475 (pr_move rfl rfl (WH.takexg (i := 17) rfl (by kernel_rfl) (by kernel_rfl) (by kernel_rfl) hP rfl rfl h479 hSW475 (pr_eql rfl rfl rfl (WH.takexg (i := 18) rfl (by kernel_rfl) (by kernel_rfl) (by kernel_rfl) hP rfl rfl h479 hSW475 (pr_move rfl rfl ?_)))))
             rcases bE (u452.1 == 0) with h480 | h480
             ·replace hF := ifP h480 hF
              refine WH.takexg (i := 19) rfl (by kernel_rfl) (by kernel_rfl) (by kernel_rfl) hP rfl rfl h480 hSW475 (pr_move rfl rfl (WH.takexg (i := 20) rfl (by kernel_rfl) (by kernel_rfl) (by kernel_rfl) hP rfl rfl h480 hSW475 (pr_move rfl rfl (WH.takexg (i := 21) rfl (by kernel_rfl) (by kernel_rfl) (by kernel_rfl) hP rfl rfl h480 hSW475 (pr_sub rfl rfl rfl ?_)))))
              obtain ⟨u481, hu481, hF⟩ := bindE hF
              refine WH.takexg (i := 22) rfl (by kernel_rfl) (by kernel_rfl) (by kernel_rfl) hP rfl rfl h480 hSW475 (pr_indexo (e := ty_3) (i := 5) Try.underlying29 rfl rfl rfl hS474 rfl hu481 ?_)
              rintro p482 _ rfl hp483 ho484
              refine WH.takexg (i := 23) rfl (by kernel_rfl) (by kernel_rfl) (by kernel_rfl) hP rfl rfl h480 hSW475 (pr_load_p (vs := [(.int .i64 u481)]) (v := (.int .i64 u481)) tf_3 rfl rfl (hp483.kx0) rfl rfl (WH.takexg (i := 24) rfl (by kernel_rfl) (by kernel_rfl) (by kernel_rfl) hP rfl rfl h480 hSW475 (pr_move rfl rfl (WH.takexg (i := 25) rfl (by kernel_rfl) (by kernel_rfl) (by kernel_rfl) hP rfl rfl h480 hSW475 (pr_move rfl rfl ?_)))))
              obtain ⟨u485, hu485, hF⟩ := bindE hF
              refine WH.takexg (i := 26) rfl (by kernel_rfl) (by kernel_rfl) (by kernel_rfl) hP rfl rfl h480 hSW475 (pr_indexo (e := ty_3) (i := 5) Try.underlying29 rfl rfl rfl hS474 rfl hu485 ?_)
              rintro p486 _ rfl hp487 ho488
              refine WH.takexg (i := 27) rfl (by kernel_rfl) (by kernel_rfl) (by kernel_rfl) hP rfl rfl h480 hSW475 (pr_load_p (vs := [(.int .i64 u485)]) (v := (.int .i64 u485)) tf_3 rfl rfl (hp487.kx0) rfl rfl (WH.takexg (i := 28) rfl (by kernel_rfl) (by kernel_rfl) (by kernel_rfl) hP rfl rfl h480 hSW475 (pr_gtr rfl rfl rfl (WH.takexg (i := 29) rfl (by kernel_rfl) (by kernel_rfl) (by kernel_rfl) hP rfl rfl h479 hSW475 (pr_pick_t rfl rfl h480 rfl (WH.tk 30 rfl hP hSW475 (pr_pick_f rfl rfl h479 rfl (WH.done (by kernel_rfl) ?_))))))))
              exact fun a ha => hJ468 (l378) ((decide (u485 < u481))) (v379) (F380) _ hF hB473 (hS474.sel [0, 1, 2, 3, 4, 5] rfl) a (ha.sub ⟨rfl, rfl, rfl, rfl, rfl, rfl, rfl, rfl, rfl, trivial⟩)
             ·replace hF := ifN h480 hF
              refine WH.off (i := 19) rfl (by kernel_rfl) (by kernel_rfl) (by kernel_rfl) hP rfl rfl h480 rfl hSW475 (WH.off (i := 20) rfl (by kernel_rfl) (by kernel_rfl) (by kernel_rfl) hP rfl rfl h480 rfl hSW475 (WH.off (i := 21) rfl (by kernel_rfl) (by kernel_rfl) (by kernel_rfl) hP rfl rfl h480 rfl hSW475 (WH.off (i := 22) rfl (by kernel_rfl) (by kernel_rfl) (by kernel_rfl) hP rfl rfl h480 rfl hSW475 (WH.off (i := 23) rfl (by kernel_rfl) (by kernel_rfl) (by kernel_rfl) hP rfl rfl h480 rfl hSW475 (WH.off (i := 24) rfl (by kernel_rfl) (by kernel_rfl) (by kernel_rfl) hP rfl rfl h480 rfl hSW475 (WH.off (i := 25) rfl (by kernel_rfl) (by kernel_rfl) (by kernel_rfl) hP rfl rfl h480 rfl hSW475 (WH.off (i := 26) rfl (by kernel_rfl) (by kernel_rfl) (by kernel_rfl) hP rfl rfl h480 rfl hSW475 (WH.off (i := 27) rfl (by kernel_rfl) (by kernel_rfl) (by kernel_rfl) hP rfl rfl h480 rfl hSW475 ?_))))))))
              refine WH.off (i := 28) rfl (by kernel_rfl) (by kernel_rfl) (by kernel_rfl) hP rfl rfl h480 rfl hSW475 (WH.takexg (i := 29) rfl (by kernel_rfl) (by kernel_rfl) (by kernel_rfl) hP rfl rfl h479 hSW475 (pr_pick_f rfl rfl h480 rfl (WH.tk 30 rfl hP hSW475 (pr_pick_f rfl rfl h479 rfl (WH.done (by kernel_rfl) ?_)))))
              exact fun a ha => hJ468 (l378) (false) (v379) (F380) _ hF hB473 (hS474.sel [0, 1, 2, 3, 4, 5] rfl) a (ha.sub ⟨rfl, rfl, rfl, rfl, rfl, rfl, rfl, rfl, rfl, trivial⟩)
        ·replace hF := ifN h387 hF
         refine W.exit fun a ha => hK373 _ _ (W.seq fun K489 hK489 => (W.region (wl_move rfl rfl (wl_lenr (e := ty_3) (l := u124.1) Try.underlying29 rfl rfl (hS377.own_ro (i := 5) rfl) (wl_move rfl rfl (wl_lenr (e := ty_53) (l := l378) Try.underlying121 rfl rfl (hS377.fr_ro (i := 4) rfl) (wl_neq rfl rfl rfl (WL.nil (fun a ha => hK489 _ _ (W.cond rfl (fun h490 => ?_) (fun h490 => ?_)) a ha))))))))) a ha
         ·replace hF := ifP h490 hF
          refine W.seq fun K491 hK491 => W.region (wl_assign rfl rfl (WL.nil (fun a ha => hK491 _ _ (W.ret ?_) a ha)))
          have hr := Option.some.inj hF
          subst hr
          exact rets (vs := [(.bool false)]) hQ rfl ⟨rv_tmp rfl, trivial⟩ ⟨rfl, hB376⟩
         ·replace hF := ifN h490 hF
          refine W.skip ?_
          exact fun a ha => hJ159 _ hF hB376 (hS377.sel [0, 1, 2, 3] rfl) a (ha.sub ⟨rfl, rfl, rfl, rfl, rfl, trivial⟩)
     ·replace hF := ifN h372 hF
      refine W.skip ?_
      exact fun a ha => hJ159 _ hF hB147 (hS148.sel [0, 1, 2, 3] rfl) a (ha.sub ⟨rfl, rfl, rfl, rfl, rfl, trivial⟩)
    refine W.seq fun K492 hK492 => W.region (wl_move rfl rfl (WL.nil (fun a ha => hK492 _ _ (W.cond rfl (fun h493 => ?_) (fun h493 => ?_)) a ha)))
    ·replace hF := ifP h493 hF
     refine W.seq fun K494 hK494 => W.region (wl_load_blk (i := 9) (vs := [v64, v66, (.int .i64 u59.2.2.2.1), (.int .i64 u59.2.2.2.2)]) (v := (.agg #[v64, v66, (.int .i64 u59.2.2.2.1), (.int .i64 u59.2.2.2.2)])) tf_53 rfl rfl hS136 rfl rfl rfl (wl_load_blk (i := 6) (vs := [v60, v62, (.int .i64 u59.1.2.2.1), (.int .i64 u59.1.2.2.2)]) (v := (.agg #[v60, v62, (.int .i64 u59.1.2.2.1), (.int .i64 u59.1.2.2.2)])) tf_53 rfl rfl hS136 rfl rfl rfl ?_))
     obtain ⟨u495, hu495, hF⟩ := bindE hF
     refine wl_call rfl Try.call112 (C_impl_CompareDemand w134 u59.2 v64 (hS136.own_ro (i := 7) rfl) v66 (hS136.own_ro (i := 8) rfl) u59.1 v60 (hS136.own_ro (i := 4) rfl) v62 (hS136.own_ro (i := 5) rfl) _ hu495) rfl ?_
     rintro _ w496 ⟨rfl, hb497⟩
     refine ⟨_, rfl, ?_⟩
     have hB498 := hB135.trans (hb497.mono hB135.size)
     have hS499 := hS136.below hb497
     refine wl_move rfl rfl (wl_extract rfl rfl rfl (wl_extract rfl rfl rfl (wl_assign rfl rfl (wl_assign rfl rfl (WL.nil (fun a ha => hK494 _ _ (W.seq fun K501 hK501 => ?_) a ha))))))
     obtain ⟨k509, hk509, hF⟩ := jE2 hF
     have hJ510 : ∀ (l505 : (List ((List (List (Int × Int))) × (List Int) × Int × Int))) (y508 : Bool) (v506 : Value) (F507 : List Nat) (w502 : World) (_ : k509 l505 y508 = some r) (_ : Below w0.heap.size w0 w502) (_ : Sep w0.heap.size w502 [R.own ty_63 F9 v8 u7.1, R.own ty_3 F11 v10 u7.2.1, R.blk b17 53 [v8, v10, (.int .i64 u7.2.2.1), (.int .i64 u7.2.2.2)], R.own ty_3 F38 v37 u36.1, R.fr ty_53 F507 v506 l505, R.own ty_3 F126 v125 u124.1]), ∀ a, St 395 [(5, (.pointer (some ⟨b17, 0, none⟩))), (7, (.bool u27.2)), (8, v37), (11, (.bool u45.2)), (12, (.int .i64 u52.1)), (20, v506), (22, (.bool u115.2)), (23, v125), (160, (.bool y508))] a → K501 a w502 := by
      intro l505 y508 v506 F507 w502 hF hB503 hS504
      subst hk509
      refine fun a ha => hK501 _ _ (W.cond rfl (fun h511 => ?_) (fun h511 => ?_)) a ha
      ·replace hF := ifP h511 hF
       refine W.seq fun K512 hK512 => W.region (wl_assign rfl rfl (WL.nil (fun a ha => hK512 _ _ (W.ret ?_) a ha)))
       have hr := Option.some.inj hF
       subst hr
       exact rets (vs := [(.bool false)]) hQ rfl ⟨rv_tmp rfl, trivial⟩ ⟨rfl, hB503⟩
      ·replace hF := ifN h511 hF
       refine W.skip ?_
       exact fun a ha => hJ153 (l505) (v506) (F507) _ hF hB503 (hS504.sel [0, 1, 2, 3, 4, 5] rfl) a (ha.sub ⟨rfl, rfl, rfl, rfl, rfl, rfl, rfl, rfl, trivial⟩)
     refine W.region (wl_move rfl rfl (wl_not rfl rfl (wl_move rfl rfl ?_)))
     rcases bE (!u495.2) with h513 | h513
     ·replace hF := ifP h513 hF
      refine wl_off rfl rfl rfl h513 (wl_off rfl rfl rfl h513 (wl_off rfl rfl rfl h513 (wl_off rfl rfl rfl h513 (wl_pick_t rfl rfl h513 rfl (WL.nil ?_)))))
      exact fun a ha => hJ510 (l137) (true) (v138) (F139) _ hF hB498 (hS499.sel [0, 1, 2, 3, 10, 11] rfl) a (ha.sub ⟨rfl, rfl, rfl, rfl, rfl, rfl, rfl, rfl, rfl, trivial⟩)
     ·replace hF := ifN h513 hF
      refine wl_on rfl rfl h513 (wl_move rfl rfl (wl_on rfl rfl h513 (wl_move rfl rfl (wl_on rfl rfl h513 (wl_neg rfl rfl (wl_on rfl rfl h513 (wl_neq rfl rfl rfl (wl_pick_f rfl rfl h513 rfl (WL.nil ?_)))))))))
      exact fun a ha => hJ510 (l137) ((u495.1 != (w64 (0 - u99.1)))) (v138) (F139) _ hF hB498 (hS499.sel [0, 1, 2, 3, 10, 11] rfl) a (ha.sub ⟨rfl, rfl, rfl, rfl, rfl, rfl, rfl, rfl, rfl, trivial⟩)
    ·replace hF := ifN h493 hF
     refine W.skip ?_
     exact fun a ha => hJ153 (l137) (v138) (F139) _ hF hB135 (hS136.sel [0, 1, 2, 3, 10, 11] rfl) a (ha.sub ⟨rfl, rfl, rfl, rfl, rfl, rfl, rfl, rfl, trivial⟩)
  refine W.region (wl_move rfl rfl (wl_move rfl rfl (wl_neqb Try.underlying4 rfl rfl rfl (wl_move rfl rfl ?_))))
  rcases bE (u27.2 != u36.2) with h514 | h514
  ·replace hF := ifP h514 hF
   refine wl_off rfl rfl rfl h514 (wl_off rfl rfl rfl h514 (wl_off rfl rfl rfl h514 (wl_off rfl rfl rfl h514 (wl_pick_t rfl rfl h514 rfl (wl_move rfl rfl (wl_off rfl rfl rfl rfl (wl_off rfl rfl rfl rfl (wl_off rfl rfl rfl rfl (wl_pick_t rfl rfl rfl rfl (wl_move rfl rfl (wl_off rfl rfl rfl rfl (wl_off rfl rfl rfl rfl (wl_off rfl rfl rfl rfl ?_)))))))))))))
   refine wl_pick_t rfl rfl rfl rfl (wl_move rfl rfl (wl_off rfl rfl rfl rfl (wl_off rfl rfl rfl rfl (wl_off rfl rfl rfl rfl (wl_pick_t rfl rfl rfl rfl (wl_move rfl rfl (wl_off rfl rfl rfl rfl (wl_off rfl rfl rfl rfl (wl_off rfl rfl rfl rfl (wl_pick_t rfl rfl rfl rfl (wl_move rfl rfl (wl_off rfl rfl rfl rfl (wl_off rfl rfl rfl rfl ?_)))))))))))))
   refine wl_off rfl rfl rfl rfl (wl_pick_t rfl rfl rfl rfl (wl_move rfl rfl (wl_off rfl rfl rfl rfl (wl_off rfl rfl rfl rfl (wl_off rfl rfl rfl rfl (wl_off rfl rfl rfl rfl (wl_pick_t rfl rfl rfl rfl (WL.nil ?_))))))))
   exact fun a ha => hJ142 (u106) (true) (v107) (F108) _ hF hB129 (hS130.sel [12, 13, 11, 9, 5, 6, 4, 7, 8, 3, 2, 0] rfl) a (ha.sub ⟨rfl, rfl, rfl, rfl, rfl, rfl, rfl, rfl, rfl, rfl, rfl, rfl, rfl, trivial⟩)
  ·replace hF := ifN h514 hF
   refine wl_on rfl rfl h514 (wl_move rfl rfl (wl_on rfl rfl h514 (wl_move rfl rfl (wl_on rfl rfl h514 ?_))))
   obtain ⟨u515, hu515, hF⟩ := bindE hF
   refine wl_call rfl Try.call26 (C_laws_qInts w127 u27.1 v28 (hS130.own_ro (i := 10) rfl) u36.1 v37 (hS130.own_ro (i := 9) rfl) _ hu515) rfl ?_
   rintro _ w516 ⟨rfl, hb517⟩
   refine ⟨_, rfl, ?_⟩
   have hB518 := hB129.trans (hb517.mono hB129.size)
   have hS519 := hS130.below hb517
   refine wl_on rfl rfl h514 (wl_not rfl rfl (wl_pick_f rfl rfl h514 rfl (wl_move rfl rfl ?_)))
   rcases bE (!u515) with h521 | h521
   ·replace hF := ifP h521 hF
    refine wl_off rfl rfl rfl h521 (wl_off rfl rfl rfl h521 (wl_off rfl rfl rfl h521 (wl_pick_t rfl rfl h521 rfl (wl_move rfl rfl (wl_off rfl rfl rfl rfl (wl_off rfl rfl rfl rfl (wl_off rfl rfl rfl rfl (wl_pick_t rfl rfl rfl rfl (wl_move rfl rfl (wl_off rfl rfl rfl rfl (wl_off rfl rfl rfl rfl (wl_off rfl rfl rfl rfl (wl_pick_t rfl rfl rfl rfl ?_)))))))))))))
    refine wl_move rfl rfl (wl_off rfl rfl rfl rfl (wl_off rfl rfl rfl rfl (wl_off rfl rfl rfl rfl (wl_pick_t rfl rfl rfl rfl (wl_move rfl rfl (wl_off rfl rfl rfl rfl (wl_off rfl rfl rfl rfl (wl_off rfl rfl rfl rfl (wl_pick_t rfl rfl rfl rfl (wl_move rfl rfl (wl_off rfl rfl rfl rfl (wl_off rfl rfl rfl rfl (wl_off rfl rfl rfl rfl ?_)))))))))))))
    refine wl_off rfl rfl rfl rfl (wl_pick_t rfl rfl rfl rfl (WL.nil ?_))
    exact fun a ha => hJ142 (u106) (true) (v107) (F108) _ hF hB518 (hS519.sel [12, 13, 11, 9, 5, 6, 4, 7, 8, 3, 2, 0] rfl) a (ha.sub ⟨rfl, rfl, rfl, rfl, rfl, rfl, rfl, rfl, rfl, rfl, rfl, rfl, rfl, trivial⟩)
   ·replace hF := ifN h521 hF
    refine wl_on rfl rfl h521 (wl_move rfl rfl (wl_on rfl rfl h521 (wl_move rfl rfl (wl_on rfl rfl h521 (wl_neqb Try.underlying4 rfl rfl rfl (wl_pick_f rfl rfl h521 rfl (wl_move rfl rfl ?_)))))))
    rcases bE (u45.2 != u52.2) with h522 | h522
    ·replace hF := ifP h522 hF
     refine wl_off rfl rfl rfl h522 (wl_off rfl rfl rfl h522 (wl_off rfl rfl rfl h522 (wl_pick_t rfl rfl h522 rfl (wl_move rfl rfl (wl_off rfl rfl rfl rfl (wl_off rfl rfl rfl rfl (wl_off rfl rfl rfl rfl (wl_pick_t rfl rfl rfl rfl (wl_move rfl rfl (wl_off rfl rfl rfl rfl (wl_off rfl rfl rfl rfl (wl_off rfl rfl rfl rfl (wl_pick_t rfl rfl rfl rfl ?_)))))))))))))
     refine wl_move rfl rfl (wl_off rfl rfl rfl rfl (wl_off rfl rfl rfl rfl (wl_off rfl rfl rfl rfl (wl_pick_t rfl rfl rfl rfl (wl_move rfl rfl (wl_off rfl rfl rfl rfl (wl_off rfl rfl rfl rfl (wl_off rfl rfl rfl rfl (wl_off rfl rfl rfl rfl (wl_pick_t rfl rfl rfl rfl (WL.nil ?_)))))))))))
     exact fun a ha => hJ142 (u106) (true) (v107) (F108) _ hF hB518 (hS519.sel [12, 13, 11, 9, 5, 6, 4, 7, 8, 3, 2, 0] rfl) a (ha.sub ⟨rfl, rfl, rfl, rfl, rfl, rfl, rfl, rfl, rfl, rfl, rfl, rfl, rfl, trivial⟩)
    ·replace hF := ifN h522 hF
     refine wl_on rfl rfl h522 (wl_move rfl rfl (wl_on rfl rfl h522 (wl_move rfl rfl (wl_on rfl rfl h522 (wl_neq rfl rfl rfl (wl_pick_f rfl rfl h522 rfl (wl_move rfl rfl ?_)))))))
     rcases bE (u45.1 != u52.1) with h523 | h523
     ·replace hF := ifP h523 hF
      refine wl_off rfl rfl rfl h523 (wl_off rfl rfl rfl h523 (wl_off rfl rfl rfl h523 (wl_pick_t rfl rfl h523 rfl (wl_move rfl rfl (wl_off rfl rfl rfl rfl (wl_off rfl rfl rfl rfl (wl_off rfl rfl rfl rfl (wl_pick_t rfl rfl rfl rfl (wl_move rfl rfl (wl_off rfl rfl rfl rfl (wl_off rfl rfl rfl rfl (wl_off rfl rfl rfl rfl (wl_pick_t rfl rfl rfl rfl ?_)))))))))))))
      refine wl_move rfl rfl (wl_off rfl rfl rfl rfl (wl_off rfl rfl rfl rfl (wl_off rfl rfl rfl rfl (wl_off rfl rfl rfl rfl (wl_pick_t rfl rfl rfl rfl (WL.nil ?_))))))
      exact fun a ha => hJ142 (u106) (true) (v107) (F108) _ hF hB518 (hS519.sel [12, 13, 11, 9, 5, 6, 4, 7, 8, 3, 2, 0] rfl) a (ha.sub ⟨rfl, rfl, rfl, rfl, rfl, rfl, rfl, rfl, rfl, rfl, rfl, rfl, rfl, trivial⟩)
     ·replace hF := ifN h523 hF
      refine wl_on rfl rfl h523 (wl_move rfl rfl (wl_on rfl rfl h523 (wl_move rfl rfl (wl_on rfl rfl h523 (wl_neqb Try.underlying4 rfl rfl rfl (wl_pick_f rfl rfl h523 rfl (wl_move rfl rfl ?_)))))))
      rcases bE (u92.2 != u99.2) with h524 | h524
      ·replace hF := ifP h524 hF
       refine wl_off rfl rfl rfl h524 (wl_off rfl rfl rfl h524 (wl_off rfl rfl rfl h524 (wl_pick_t rfl rfl h524 rfl (wl_move rfl rfl (wl_off rfl rfl rfl rfl (wl_off rfl rfl rfl rfl (wl_off rfl rfl rfl rfl (wl_pick_t rfl rfl rfl rfl (wl_move rfl rfl (wl_off rfl rfl rfl rfl (wl_off rfl rfl rfl rfl (wl_off rfl rfl rfl rfl (wl_off rfl rfl rfl rfl ?_)))))))))))))
       refine wl_pick_t rfl rfl rfl rfl (WL.nil ?_)
       exact fun a ha => hJ142 (u106) (true) (v107) (F108) _ hF hB518 (hS519.sel [12, 13, 11, 9, 5, 6, 4, 7, 8, 3, 2, 0] rfl) a (ha.sub ⟨rfl, rfl, rfl, rfl, rfl, rfl, rfl, rfl, rfl, rfl, rfl, rfl, rfl, trivial⟩)
      ·replace hF := ifN h524 hF
       refine wl_on rfl rfl h524 (wl_move rfl rfl (wl_on rfl rfl h524 (wl_move rfl rfl (wl_on rfl rfl h524 (wl_neq rfl rfl rfl (wl_pick_f rfl rfl h524 rfl (wl_move rfl rfl ?_)))))))
       rcases bE (u92.1 != u99.1) with h525 | h525
       ·replace hF := ifP h525 hF
        refine wl_off rfl rfl rfl h525 (wl_off rfl rfl rfl h525 (wl_off rfl rfl rfl h525 (wl_pick_t rfl rfl h525 rfl (wl_move rfl rfl (wl_off rfl rfl rfl rfl (wl_off rfl rfl rfl rfl (wl_off rfl rfl rfl rfl (wl_off rfl rfl rfl rfl (wl_pick_t rfl rfl rfl rfl (WL.nil ?_))))))))))
        exact fun a ha => hJ142 (u106) (true) (v107) (F108) _ hF hB518 (hS519.sel [12, 13, 11, 9, 5, 6, 4, 7, 8, 3, 2, 0] rfl) a (ha.sub ⟨rfl, rfl, rfl, rfl, rfl, rfl, rfl, rfl, rfl, rfl, rfl, rfl, rfl, trivial⟩)
       ·replace hF := ifN h525 hF
        refine wl_on rfl rfl h525 (wl_move rfl rfl (wl_on rfl rfl h525 (wl_move rfl rfl (wl_on rfl rfl h525 (wl_neqb Try.underlying4 rfl rfl rfl (wl_pick_f rfl rfl h525 rfl (wl_move rfl rfl ?_)))))))
        rcases bE (u115.2 != u124.2) with h526 | h526
        ·replace hF := ifP h526 hF
         refine wl_off rfl rfl rfl h526 (wl_off rfl rfl rfl h526 (wl_off rfl rfl rfl h526 (wl_off rfl rfl rfl h526 (wl_pick_t rfl rfl h526 rfl (WL.nil ?_)))))
         exact fun a ha => hJ142 (u106) (true) (v107) (F108) _ hF hB518 (hS519.sel [12, 13, 11, 9, 5, 6, 4, 7, 8, 3, 2, 0] rfl) a (ha.sub ⟨rfl, rfl, rfl, rfl, rfl, rfl, rfl, rfl, rfl, rfl, rfl, rfl, rfl, trivial⟩)
        ·replace hF := ifN h526 hF
         refine wl_on rfl rfl h526 (wl_move rfl rfl (wl_on rfl rfl h526 (wl_move rfl rfl (wl_on rfl rfl h526 ?_))))
         obtain ⟨u527, hu527, hF⟩ := bindE hF
         refine wl_call rfl Try.call26 (C_laws_qInts w516 u115.1 v116 (hS519.own_ro (i := 1) rfl) u124.1 v125 (hS519.own_ro (i := 0) rfl) _ hu527) rfl ?_
         rintro _ w528 ⟨rfl, hb529⟩
         refine ⟨_, rfl, ?_⟩
         have hB530 := hB518.trans (hb529.mono hB518.size)
         have hS531 := hS519.below hb529
         refine wl_on rfl rfl h526 (wl_not rfl rfl (wl_pick_f rfl rfl h526 rfl (WL.nil ?_)))
         exact fun a ha => hJ142 (u106) ((!u527)) (v107) (F108) _ hF hB530 (hS531.sel [12, 13, 11, 9, 5, 6, 4, 7, 8, 3, 2, 0] rfl) a (ha.sub ⟨rfl, rfl, rfl, rfl, rfl, rfl, rfl, rfl, rfl, rfl, rfl, rfl, rfl, trivial⟩)
end Go.Proofs.Ytmkignciedkidaa
