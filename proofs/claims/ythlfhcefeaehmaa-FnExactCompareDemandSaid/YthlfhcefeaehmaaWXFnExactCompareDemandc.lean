/-
  THE WALKS of functions of this seat, by program (gen.py, prune.py).
-/
import Derived.Test.YthlfhcefeaehmaaWXFnExactCompareDemandb
set_option linter.unusedSimpArgs false
set_option linter.unusedVariables false
set_option maxRecDepth 100000
namespace Go.Proofs.Ythlfhcefeaehmaa
open Go Go.RowKit
theorem C_laws_FnExactCompareDemand (w0 : World) (x0 : ((List (List (Int × Int))) × (List Int) × Int × Int)) (v0_0 : Value) (h0_0 : rdS ty_119 (· < w0.heap.size) w0 v0_0 x0.1) (v0_1 : Value) (h0_1 : rdS ty_3 (· < w0.heap.size) w0 v0_1 x0.2.1) (x1 : ((List (List (Int × Int))) × (List Int) × Int × Int)) (v1_0 : Value) (h1_0 : rdS ty_119 (· < w0.heap.size) w0 v1_0 x1.1) (v1_1 : Value) (h1_1 : rdS ty_3 (· < w0.heap.size) w0 v1_1 x1.2.1) (r : Bool) (hF : F_laws_FnExactCompareDemand x0 x1 = some r) :
    Calls Try.prog 11 [(.agg #[v0_0, v0_1, (.int .i64 x0.2.2.1), (.int .i64 x0.2.2.2)]), (.agg #[v1_0, v1_1, (.int .i64 x1.2.2.1), (.int .i64 x1.2.2.2)])].toArray w0 fun e w' => e = .returned (.bool r) ∧ Below w0.heap.size w0 w' := by
  refine calls_mk' Try.func11 rfl Try.ntmps11 rfl rfl fun Q hQ hP => ?_
  have hB : Below w0.heap.size w0 w0 := Below.refl _ _
  have hS : Sep w0.heap.size w0 [] := Sep.nil _ _
  unfold F_laws_FnExactCompareDemand at hF
  refine W.seq fun K1 hK1 => ?_
  refine W.region ?_
  refine wl_box (cs := [v0_0, v0_1, (.int .i64 x0.2.2.1), (.int .i64 x0.2.2.2)]) rfl rfl rfl hB hS ?_
  intro b2 w3 hb4 hB5 hS6
  refine wl_box (cs := [v1_0, v1_1, (.int .i64 x1.2.2.1), (.int .i64 x1.2.2.2)]) rfl rfl rfl hB5 hS6 ?_
  intro b7 w8 hb9 hB10 hS11
  refine wl_assign rfl rfl ?_
  refine WL.nil ?_
  refine fun a ha => hK1 _ _ ?_ a ha
  refine W.seq fun K12 hK12 => ?_
  refine W.region ?_
  refine wl_assign rfl rfl ?_
  refine WL.nil ?_
  refine fun a ha => hK12 _ _ ?_ a ha
  refine W.seq fun K13 hK13 => ?_
  refine W.region ?_
  refine wl_load_blk (i := 1) (vs := [v0_0, v0_1, (.int .i64 x0.2.2.1), (.int .i64 x0.2.2.2)]) (v := (.agg #[v0_0, v0_1, (.int .i64 x0.2.2.1), (.int .i64 x0.2.2.2)])) tf_25 rfl rfl hS11 rfl rfl rfl ?_
  refine wl_move rfl rfl ?_
  obtain ⟨u14, hu14, hF⟩ := bindE hF
  refine wl_call rfl Try.call15 (C_laws_szShow w8 x0 v0_0 (h0_0.ro hB10) v0_1 (h0_1.ro hB10) 1048576 _ hu14) rfl ?_
  rintro _ w15 ⟨rfl, hb16⟩
  refine ⟨_, rfl, ?_⟩
  have hB17 := hB10.trans (hb16.mono hB10.size)
  have hS18 := hS11.below hb16
  refine wl_assign rfl rfl ?_
  refine WL.nil ?_
  refine fun a ha => hK13 _ _ ?_ a ha
  refine W.seq fun K20 hK20 => ?_
  refine W.seq fun K21 hK21 => ?_
  refine W.region ?_
  refine wl_move rfl rfl ?_
  refine wl_lss rfl rfl rfl ?_
  refine WL.nil ?_
  refine fun a ha => hK21 _ _ ?_ a ha
  refine W.cond rfl (fun h22 => ?_) (fun h22 => ?_)
  · replace hF := ifP h22 hF
    refine W.seq fun K23 hK23 => ?_
    refine W.region ?_
    refine wl_assign rfl rfl ?_
    refine WL.nil ?_
    refine fun a ha => hK23 _ _ ?_ a ha
    refine W.ret ?_
    have hr := Option.some.inj hF
    subst hr
    exact rets (vs := [(.bool true)]) hQ rfl ⟨rv_tmp rfl, trivial⟩ ⟨rfl, hB17⟩
  · replace hF := ifN h22 hF
    refine W.skip ?_
    refine fun a ha => hK20 _ _ ?_ a ha
    refine W.seq fun K24 hK24 => ?_
    refine W.region ?_
    refine wl_load_blk (i := 0) (vs := [v1_0, v1_1, (.int .i64 x1.2.2.1), (.int .i64 x1.2.2.2)]) (v := (.agg #[v1_0, v1_1, (.int .i64 x1.2.2.1), (.int .i64 x1.2.2.2)])) tf_25 rfl rfl hS18 rfl rfl rfl ?_
    refine wl_move rfl rfl ?_
    obtain ⟨u25, hu25, hF⟩ := bindE hF
    refine wl_call rfl Try.call15 (C_laws_szShow w15 x1 v1_0 (h1_0.ro hB17) v1_1 (h1_1.ro hB17) u14 _ hu25) rfl ?_
    rintro _ w26 ⟨rfl, hb27⟩
    refine ⟨_, rfl, ?_⟩
    have hB28 := hB17.trans (hb27.mono hB17.size)
    have hS29 := hS18.below hb27
    refine wl_assign rfl rfl ?_
    refine WL.nil ?_
    refine fun a ha => hK24 _ _ ?_ a ha
    refine W.seq fun K31 hK31 => ?_
    refine W.seq fun K32 hK32 => ?_
    refine W.region ?_
    refine wl_move rfl rfl ?_
    refine wl_lss rfl rfl rfl ?_
    refine WL.nil ?_
    refine fun a ha => hK32 _ _ ?_ a ha
    refine W.cond rfl (fun h33 => ?_) (fun h33 => ?_)
    · replace hF := ifP h33 hF
      refine W.seq fun K34 hK34 => ?_
      refine W.region ?_
      refine wl_assign rfl rfl ?_
      refine WL.nil ?_
      refine fun a ha => hK34 _ _ ?_ a ha
      refine W.ret ?_
      have hr := Option.some.inj hF
      subst hr
      exact rets (vs := [(.bool true)]) hQ rfl ⟨rv_tmp rfl, trivial⟩ ⟨rfl, hB28⟩
    · replace hF := ifN h33 hF
      refine W.skip ?_
      refine fun a ha => hK31 _ _ ?_ a ha
      refine W.seq fun K35 hK35 => ?_
      refine W.regionH mixed_ [] hB28 hS29 ?_
      intro w36 hb37 hB38 hS39
      have hSW40 := KeepX.refl w36 []
      refine WH.takex (i := 0) rfl (by kernel_rfl) (by kernel_rfl) (by kernel_rfl) hP hSW40 ?_
      refine pr_load_blk (i := 1) (vs := [v0_0, v0_1, (.int .i64 x0.2.2.1), (.int .i64 x0.2.2.2)]) (v := (.agg #[v0_0, v0_1, (.int .i64 x0.2.2.1), (.int .i64 x0.2.2.2)])) tf_25 rfl rfl hS39 rfl rfl rfl (by simp) ?_
      refine WH.takex (i := 2) rfl (by kernel_rfl) (by kernel_rfl) (by kernel_rfl) hP hSW40 ?_
      refine pr_load_blk (i := 0) (vs := [v1_0, v1_1, (.int .i64 x1.2.2.1), (.int .i64 x1.2.2.2)]) (v := (.agg #[v1_0, v1_1, (.int .i64 x1.2.2.1), (.int .i64 x1.2.2.2)])) tf_25 rfl rfl hS39 rfl rfl rfl (by simp) ?_
      refine WH.one (i := 1) (by kernel_rfl) rfl ?_
      obtain ⟨u41, hu41, hF⟩ := bindE hF
      refine wl_call rfl Try.call17 (C_laws_toShow w36 x0 v0_0 (h0_0.ro hB38) v0_1 (h0_1.ro hB38) _ hu41) rfl ?_
      rintro _ w46 ⟨v42, F43, v44, F45, rfl, hb47, hM50⟩
      refine ⟨_, rfl, ?_⟩
      have hB48 := hB38.trans (hb47.mono hB38.size)
      have hS49 := hS39.join hb47 hM50 hB38.size
      have hSW51 := hSW40.ext hb47
      refine WL.nil (WH.ret hSW51 ?_)
      refine WH.one (i := 3) (by kernel_rfl) rfl ?_
      obtain ⟨u52, hu52, hF⟩ := bindE hF
      refine wl_call rfl Try.call17 (C_laws_toShow w46 x1 v1_0 (h1_0.ro hB48) v1_1 (h1_1.ro hB48) _ hu52) rfl ?_
      rintro _ w57 ⟨v53, F54, v55, F56, rfl, hb58, hM61⟩
      refine ⟨_, rfl, ?_⟩
      have hB59 := hB48.trans (hb58.mono hB48.size)
      have hS60 := hS49.join hb58 hM61 hB48.size
      have hSW62 := hSW51.ext hb58
      refine WL.nil (WH.ret hSW62 ?_)
      refine WH.one (i := 4) (by kernel_rfl) rfl ?_
      obtain ⟨u63, hu63, hF⟩ := bindE hF
      refine wl_call rfl Try.call47 (C_spec_CompareDemand w57 u41 v42 (hS60.own_ro (i := 2) rfl) v44 (hS60.own_ro (i := 3) rfl) u52 v53 (hS60.own_ro (i := 0) rfl) v55 (hS60.own_ro (i := 1) rfl) _ hu63) rfl ?_
      rintro _ w65 ⟨rfl, hb66⟩
      refine ⟨_, rfl, ?_⟩
      have hB67 := hB59.trans (hb66.mono hB59.size)
      have hS68 := hS60.below hb66
      have hSW70 := hSW62.ext hb66
      refine WL.nil (WH.ret hSW70 ?_)
      refine WH.takex (i := 5) rfl (by kernel_rfl) (by kernel_rfl) (by kernel_rfl) hP hSW70 ?_
      refine pr_move rfl rfl ?_
      refine WH.takex (i := 6) rfl (by kernel_rfl) (by kernel_rfl) (by kernel_rfl) hP hSW70 ?_
      refine pr_extract rfl rfl rfl ?_
      refine WH.takex (i := 7) rfl (by kernel_rfl) (by kernel_rfl) (by kernel_rfl) hP hSW70 ?_
      refine pr_extract rfl rfl rfl ?_
      refine WH.takex (i := 8) rfl (by kernel_rfl) (by kernel_rfl) (by kernel_rfl) hP hSW70 ?_
      refine pr_assign rfl rfl ?_
      refine WH.takex (i := 9) rfl (by kernel_rfl) (by kernel_rfl) (by kernel_rfl) hP hSW70 ?_
      refine pr_assign rfl rfl ?_
      refine WH.done (by kernel_rfl) ?_
      refine fun a ha => hK35 _ _ ?_ a ha
      refine W.seq fun K71 hK71 => ?_
      refine W.region ?_
      refine wl_load_blk (i := 5) (vs := [v0_0, v0_1, (.int .i64 x0.2.2.1), (.int .i64 x0.2.2.2)]) (v := (.agg #[v0_0, v0_1, (.int .i64 x0.2.2.1), (.int .i64 x0.2.2.2)])) tf_25 rfl rfl hS68 rfl rfl rfl ?_
      obtain ⟨u72, hu72, hF⟩ := bindE hF
      refine wl_call rfl Try.call17 (C_laws_toShow w65 x0 v0_0 (h0_0.ro hB67) v0_1 (h0_1.ro hB67) _ hu72) rfl ?_
      rintro _ w77 ⟨v73, F74, v75, F76, rfl, hb78, hM81⟩
      refine ⟨_, rfl, ?_⟩
      have hB79 := hB67.trans (hb78.mono hB67.size)
      have hS80 := hS68.join hb78 hM81 hB67.size
      refine wl_alloc (cs := [(.slice none 0 0), (.slice none 0 0), (.int .i64 0), (.int .i64 0)]) tf_31 rfl rfl hB79 hS80 ?_
      intro b82 w83 hb84 hB85 hS86
      refine wl_store_blk (i := 0) (vs := [v73, v75, (.int .i64 u72.2.2.1), (.int .i64 u72.2.2.2)]) (cs' := [v73, v75, (.int .i64 u72.2.2.1), (.int .i64 u72.2.2.2)]) tf_31 rfl rfl rfl rfl hB85 hS86 rfl rfl ⟨(hS86.own_ro (i := 1) rfl).one, (hS86.own_ro (i := 2) rfl).one, rfl, rfl, trivial⟩ rfl ?_
      intro w87 hk90 hB88 hS89
      refine WL.nil ?_
      refine fun a ha => hK71 _ _ ?_ a ha
      refine W.seq fun K91 hK91 => ?_
      refine W.region ?_
      refine wl_load_blk (i := 7) (vs := [v1_0, v1_1, (.int .i64 x1.2.2.1), (.int .i64 x1.2.2.2)]) (v := (.agg #[v1_0, v1_1, (.int .i64 x1.2.2.1), (.int .i64 x1.2.2.2)])) tf_25 rfl rfl hS89 rfl rfl rfl ?_
      obtain ⟨u92, hu92, hF⟩ := bindE hF
      refine wl_call rfl Try.call17 (C_laws_toShow w87 x1 v1_0 (h1_0.ro hB88) v1_1 (h1_1.ro hB88) _ hu92) rfl ?_
      rintro _ w97 ⟨v93, F94, v95, F96, rfl, hb98, hM101⟩
      refine ⟨_, rfl, ?_⟩
      have hB99 := hB88.trans (hb98.mono hB88.size)
      have hS100 := hS89.join hb98 hM101 hB88.size
      refine wl_alloc (cs := [(.slice none 0 0), (.slice none 0 0), (.int .i64 0), (.int .i64 0)]) tf_31 rfl rfl hB99 hS100 ?_
      intro b102 w103 hb104 hB105 hS106
      refine wl_store_blk (i := 0) (vs := [v93, v95, (.int .i64 u92.2.2.1), (.int .i64 u92.2.2.2)]) (cs' := [v93, v95, (.int .i64 u92.2.2.1), (.int .i64 u92.2.2.2)]) tf_31 rfl rfl rfl rfl hB105 hS106 rfl rfl ⟨(hS106.own_ro (i := 1) rfl).one, (hS106.own_ro (i := 2) rfl).one, rfl, rfl, trivial⟩ rfl ?_
      intro w107 hk110 hB108 hS109
      refine WL.nil ?_
      refine fun a ha => hK91 _ _ ?_ a ha
      refine W.seq fun K111 hK111 => ?_
      refine W.region ?_
      refine wl_load_blk (i := 3) (vs := [v73, v75, (.int .i64 u72.2.2.1), (.int .i64 u72.2.2.2)]) (v := (.agg #[v73, v75, (.int .i64 u72.2.2.1), (.int .i64 u72.2.2.2)])) tf_31 rfl rfl hS109 rfl rfl rfl ?_
      refine wl_load_blk (i := 0) (vs := [v93, v95, (.int .i64 u92.2.2.1), (.int .i64 u92.2.2.2)]) (v := (.agg #[v93, v95, (.int .i64 u92.2.2.1), (.int .i64 u92.2.2.2)])) tf_31 rfl rfl hS109 rfl rfl rfl ?_
      obtain ⟨u112, hu112, hF⟩ := bindE hF
      refine wl_call rfl Try.call48 (C_impl_CompareDemand w107 u72 v73 (hS109.own_ro (i := 4) rfl) v75 (hS109.own_ro (i := 5) rfl) u92 v93 (hS109.own_ro (i := 1) rfl) v95 (hS109.own_ro (i := 2) rfl) _ hu112) rfl ?_
      rintro _ w113 ⟨rfl, hb114⟩
      refine ⟨_, rfl, ?_⟩
      have hB115 := hB108.trans (hb114.mono hB108.size)
      have hS116 := hS109.below hb114
      refine wl_move rfl rfl ?_
      refine wl_extract rfl rfl rfl ?_
      refine wl_extract rfl rfl rfl ?_
      refine wl_assign rfl rfl ?_
      refine wl_assign rfl rfl ?_
      refine WL.nil ?_
      refine fun a ha => hK111 _ _ ?_ a ha
      refine W.seq fun K118 hK118 => ?_
      refine W.seq fun K119 hK119 => ?_
      obtain ⟨k124, hk124, hF⟩ := jE1 hF
      have hJ125 : ∀ (y123 : Bool) (w120 : World) (_ : k124 y123 = some r) (_ : Below w0.heap.size w0 w120) (_ : Sep w0.heap.size w120 [R.blk b2 25 [v0_0, v0_1, (.int .i64 x0.2.2.1), (.int .i64 x0.2.2.2)], R.blk b7 25 [v1_0, v1_1, (.int .i64 x1.2.2.1), (.int .i64 x1.2.2.2)], R.own ty_70 F74 v73 u72.1, R.own ty_3 F76 v75 u72.2.1, R.blk b82 31 [v73, v75, (.int .i64 u72.2.2.1), (.int .i64 u72.2.2.2)], R.own ty_70 F94 v93 u92.1, R.own ty_3 F96 v95 u92.2.1, R.blk b102 31 [v93, v95, (.int .i64 u92.2.2.1), (.int .i64 u92.2.2.2)]]), ∀ a, St 58 [(2, (.pointer (some ⟨b2, 0, none⟩))), (3, (.pointer (some ⟨b7, 0, none⟩))), (8, (.pointer (some ⟨b82, 0, none⟩))), (9, (.pointer (some ⟨b102, 0, none⟩))), (47, (.bool y123))] a → K119 a w120 := by
        intro y123 w120 hF hB121 hS122
        subst hk124
        refine fun a ha => hK119 _ _ ?_ a ha
        refine W.cond rfl (fun h126 => ?_) (fun h126 => ?_)
        · replace hF := ifP h126 hF
          refine W.seq fun K127 hK127 => ?_
          refine W.region ?_
          refine wl_assign rfl rfl ?_
          refine WL.nil ?_
          refine fun a ha => hK127 _ _ ?_ a ha
          refine W.ret ?_
          have hr := Option.some.inj hF
          subst hr
          exact rets (vs := [(.bool false)]) hQ rfl ⟨rv_tmp rfl, trivial⟩ ⟨rfl, hB121⟩
        · replace hF := ifN h126 hF
          refine W.skip ?_
          refine fun a ha => hK118 _ _ ?_ a ha
          refine W.seq fun K128 hK128 => ?_
          refine W.seq fun K129 hK129 => ?_
          refine W.regionH mixed_ [] hB121 hS122 ?_
          intro w130 hb131 hB132 hS133
          have hSW134 := KeepX.refl w130 []
          refine WH.takex (i := 0) rfl (by kernel_rfl) (by kernel_rfl) (by kernel_rfl) hP hSW134 ?_
          refine pr_load_blk (i := 4) (vs := [v73, v75, (.int .i64 u72.2.2.1), (.int .i64 u72.2.2.2)]) (v := (.agg #[v73, v75, (.int .i64 u72.2.2.1), (.int .i64 u72.2.2.2)])) tf_31 rfl rfl hS133 rfl rfl rfl (by simp) ?_
          refine WH.takex (i := 1) rfl (by kernel_rfl) (by kernel_rfl) (by kernel_rfl) hP hSW134 ?_
          refine pr_load_blk (i := 0) (vs := [v0_0, v0_1, (.int .i64 x0.2.2.1), (.int .i64 x0.2.2.2)]) (v := (.agg #[v0_0, v0_1, (.int .i64 x0.2.2.1), (.int .i64 x0.2.2.2)])) tf_25 rfl rfl hS133 rfl rfl rfl (by simp) ?_
          refine WH.one (i := 2) (by kernel_rfl) rfl ?_
          obtain ⟨u135, hu135, hF⟩ := bindE hF
          refine wl_call rfl Try.call17 (C_laws_toShow w130 x0 v0_0 (h0_0.ro hB132) v0_1 (h0_1.ro hB132) _ hu135) rfl ?_
          rintro _ w140 ⟨v136, F137, v138, F139, rfl, hb141, hM144⟩
          refine ⟨_, rfl, ?_⟩
          have hB142 := hB132.trans (hb141.mono hB132.size)
          have hS143 := hS133.join hb141 hM144 hB132.size
          have hSW145 := hSW134.ext hb141
          refine WL.nil (WH.ret hSW145 ?_)
          refine WH.one (i := 3) (by kernel_rfl) rfl ?_
          obtain ⟨u146, hu146, hF⟩ := bindE hF
          refine wl_call rfl Try.call19 (C_laws_eqShow w140 u72 v73 (hS143.own_ro (i := 4) rfl) v75 (hS143.own_ro (i := 5) rfl) u135 v136 (hS143.own_ro (i := 0) rfl) v138 (hS143.own_ro (i := 1) rfl) _ hu146) rfl ?_
          rintro _ w147 ⟨rfl, hb148⟩
          refine ⟨_, rfl, ?_⟩
          have hB149 := hB142.trans (hb148.mono hB142.size)
          have hS150 := hS143.below hb148
          have hSW152 := hSW145.ext hb148
          refine WL.nil (WH.ret hSW152 ?_)
          refine WH.takex (i := 4) rfl (by kernel_rfl) (by kernel_rfl) (by kernel_rfl) hP hSW152 ?_
          refine pr_not rfl rfl ?_
          refine WH.done (by kernel_rfl) ?_
          refine fun a ha => hK129 _ _ ?_ a ha
          refine W.cond rfl (fun h153 => ?_) (fun h153 => ?_)
          · replace hF := ifP h153 hF
            refine W.seq fun K154 hK154 => ?_
            refine W.region ?_
            refine wl_assign rfl rfl ?_
            refine WL.nil ?_
            refine fun a ha => hK154 _ _ ?_ a ha
            refine W.ret ?_
            have hr := Option.some.inj hF
            subst hr
            exact rets (vs := [(.bool false)]) hQ rfl ⟨rv_tmp rfl, trivial⟩ ⟨rfl, hB149⟩
          · replace hF := ifN h153 hF
            refine W.skip ?_
            refine fun a ha => hK128 _ _ ?_ a ha
            refine W.seq fun K155 hK155 => ?_
            refine W.seq fun K156 hK156 => ?_
            refine W.regionH mixed_ [] hB149 hS150 ?_
            intro w157 hb158 hB159 hS160
            have hSW161 := KeepX.refl w157 []
            refine WH.takex (i := 0) rfl (by kernel_rfl) (by kernel_rfl) (by kernel_rfl) hP hSW161 ?_
            refine pr_load_blk (i := 9) (vs := [v93, v95, (.int .i64 u92.2.2.1), (.int .i64 u92.2.2.2)]) (v := (.agg #[v93, v95, (.int .i64 u92.2.2.1), (.int .i64 u92.2.2.2)])) tf_31 rfl rfl hS160 rfl rfl rfl (by simp) ?_
            refine WH.takex (i := 1) rfl (by kernel_rfl) (by kernel_rfl) (by kernel_rfl) hP hSW161 ?_
            refine pr_load_blk (i := 3) (vs := [v1_0, v1_1, (.int .i64 x1.2.2.1), (.int .i64 x1.2.2.2)]) (v := (.agg #[v1_0, v1_1, (.int .i64 x1.2.2.1), (.int .i64 x1.2.2.2)])) tf_25 rfl rfl hS160 rfl rfl rfl (by simp) ?_
            refine WH.one (i := 2) (by kernel_rfl) rfl ?_
            obtain ⟨u162, hu162, hF⟩ := bindE hF
            refine wl_call rfl Try.call17 (C_laws_toShow w157 x1 v1_0 (h1_0.ro hB159) v1_1 (h1_1.ro hB159) _ hu162) rfl ?_
            rintro _ w167 ⟨v163, F164, v165, F166, rfl, hb168, hM171⟩
            refine ⟨_, rfl, ?_⟩
            have hB169 := hB159.trans (hb168.mono hB159.size)
            have hS170 := hS160.join hb168 hM171 hB159.size
            have hSW172 := hSW161.ext hb168
            refine WL.nil (WH.ret hSW172 ?_)
            refine WH.one (i := 3) (by kernel_rfl) rfl ?_
            obtain ⟨u173, hu173, hF⟩ := bindE hF
            refine wl_call rfl Try.call19 (C_laws_eqShow w167 u92 v93 (hS170.own_ro (i := 9) rfl) v95 (hS170.own_ro (i := 10) rfl) u162 v163 (hS170.own_ro (i := 0) rfl) v165 (hS170.own_ro (i := 1) rfl) _ hu173) rfl ?_
            rintro _ w174 ⟨rfl, hb175⟩
            refine ⟨_, rfl, ?_⟩
            have hB176 := hB169.trans (hb175.mono hB169.size)
            have hS177 := hS170.below hb175
            have hSW179 := hSW172.ext hb175
            refine WL.nil (WH.ret hSW179 ?_)
            refine WH.takex (i := 4) rfl (by kernel_rfl) (by kernel_rfl) (by kernel_rfl) hP hSW179 ?_
            refine pr_not rfl rfl ?_
            refine WH.done (by kernel_rfl) ?_
            refine fun a ha => hK156 _ _ ?_ a ha
            refine W.cond rfl (fun h180 => ?_) (fun h180 => ?_)
            · replace hF := ifP h180 hF
              refine W.seq fun K181 hK181 => ?_
              refine W.region ?_
              refine wl_assign rfl rfl ?_
              refine WL.nil ?_
              refine fun a ha => hK181 _ _ ?_ a ha
              refine W.ret ?_
              have hr := Option.some.inj hF
              subst hr
              exact rets (vs := [(.bool false)]) hQ rfl ⟨rv_tmp rfl, trivial⟩ ⟨rfl, hB176⟩
            · replace hF := ifN h180 hF
              refine W.skip ?_
              refine fun a ha => hK155 _ _ ?_ a ha
              refine W.seq fun K182 hK182 => ?_
              refine W.region ?_
              refine wl_assign rfl rfl ?_
              refine WL.nil ?_
              refine fun a ha => hK182 _ _ ?_ a ha
              refine W.ret ?_
              have hr := Option.some.inj hF
              subst hr
              exact rets (vs := [(.bool true)]) hQ rfl ⟨rv_tmp rfl, trivial⟩ ⟨rfl, hB176⟩
      refine W.region ?_
      refine wl_move rfl rfl ?_
      refine wl_move rfl rfl ?_
      refine wl_neq rfl rfl rfl ?_
      refine wl_move rfl rfl ?_
      rcases bE (u112.1 != u63.1) with h183 | h183
      · replace hF := ifP h183 hF
        refine wl_off rfl rfl rfl h183 ?_
        refine wl_off rfl rfl rfl h183 ?_
        refine wl_off rfl rfl rfl h183 ?_
        refine wl_pick_t rfl rfl h183 rfl ?_
        refine WL.nil ?_
        exact fun a ha => hJ125 (true) _ hF hB115 (hS116.sel [11, 10, 4, 5, 3, 1, 2, 0] rfl) a (ha.sub ⟨rfl, rfl, rfl, rfl, rfl, trivial⟩)
      · replace hF := ifN h183 hF
        refine wl_on rfl rfl h183 ?_
        refine wl_move rfl rfl ?_
        refine wl_on rfl rfl h183 ?_
        refine wl_move rfl rfl ?_
        refine wl_on rfl rfl h183 ?_
        refine wl_neqb Try.underlying4 rfl rfl rfl ?_
        refine wl_pick_f rfl rfl h183 rfl ?_
        refine WL.nil ?_
        exact fun a ha => hJ125 ((u112.2 != u63.2)) _ hF hB115 (hS116.sel [11, 10, 4, 5, 3, 1, 2, 0] rfl) a (ha.sub ⟨rfl, rfl, rfl, rfl, rfl, trivial⟩)
end Go.Proofs.Ythlfhcefeaehmaa
