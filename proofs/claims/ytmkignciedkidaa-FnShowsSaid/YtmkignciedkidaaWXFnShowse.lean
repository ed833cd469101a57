/-
  THE WALKS of functions of this seat, by program (gen.py, prune.py).
-/
import Derived.Test.YtmkignciedkidaaWXFnShowsd
set_option linter.unusedSimpArgs false
set_option linter.unusedVariables false
set_option maxRecDepth 100000
set_option maxHeartbeats 1600000
namespace Go.Proofs.Ytmkignciedkidaa
open Go Go.RowKit
theorem C_laws_FnShows (w0 : World) (x0 : (List Int)) (v0_0 : Value) (h0_0 : rdS ty_5 (· < w0.heap.size) w0 v0_0 x0) (x1 : (List Int)) (v1_0 : Value) (h1_0 : rdS ty_5 (· < w0.heap.size) w0 v1_0 x1) (r : Bool) (hF : F_laws_FnShows x0 x1 = some r) :
  Calls Try.prog 6 [v0_0, v1_0].toArray w0 fun e w' => e = .returned (.bool r) ∧ Below w0.heap.size w0 w' := by
 refine calls_mk' Try.func6 rfl Try.ntmps6 rfl rfl fun Q hQ hP => ?_
 have hB : Below w0.heap.size w0 w0 := Below.refl _ _
 have hS : Sep w0.heap.size w0 [] := Sep.nil _ _
 unfold F_laws_FnShows at hF
 refine W.seq fun K1 hK1 => W.region (wl_assign rfl rfl (WL.nil (fun a ha => hK1 _ _ (W.seq fun K2 hK2 => (W.seq fun K3 hK3 => (W.region (wl_move rfl rfl (wl_move rfl rfl ?_))))) a ha)))
 obtain ⟨u4, hu4, hF⟩ := bindE hF
 refine wl_call rfl Try.call54 (C_laws_big w0 x0 v0_0 (h0_0.ro hB) x1 v1_0 (h1_0.ro hB) _ hu4) rfl ?_
 rintro _ w5 ⟨rfl, hb6⟩
 refine ⟨_, rfl, ?_⟩
 have hB7 := hB.trans (hb6.mono hB.size)
 have hS8 := hS.below hb6
 refine WL.nil fun a ha => hK3 _ _ (W.cond rfl (fun h10 => ?_) (fun h10 => ?_)) a ha
 ·replace hF := ifP h10 hF
  refine W.seq fun K11 hK11 => W.region (wl_assign rfl rfl (WL.nil (fun a ha => hK11 _ _ (W.ret ?_) a ha)))
  have hr := Option.some.inj hF
  subst hr
  exact rets (vs := [(.bool true)]) hQ rfl ⟨rv_tmp rfl, trivial⟩ ⟨rfl, hB7⟩
 ·replace hF := ifN h10 hF
  refine W.skip fun a ha => hK2 _ _ (W.seq fun K12 hK12 => (W.region (wl_move rfl rfl ?_))) a ha
  obtain ⟨u13, hu13, hF⟩ := bindE hF
  refine wl_call rfl Try.call73 (C_spec_DrawPublishSheets w5 x0 v0_0 (h0_0.ro hB7) _ hu13) rfl ?_
  rintro _ w18 ⟨v14, F15, v16, F17, rfl, hb19, hM22⟩
  refine ⟨_, rfl, ?_⟩
  have hB20 := hB7.trans (hb19.mono hB7.size)
  have hS21 := hS8.join hb19 hM22 hB7.size
  refine wl_alloc (cs := [(.slice none 0 0), (.slice none 0 0), (.int .i64 0), (.int .i64 0)]) tf_53 rfl rfl hB20 hS21 ?_
  intro b23 w24 hb25 hB26 hS27
  refine wl_store_blk (i := 0) (vs := [v14, v16, (.int .i64 u13.2.2.1), (.int .i64 u13.2.2.2)]) (cs' := [v14, v16, (.int .i64 u13.2.2.1), (.int .i64 u13.2.2.2)]) tf_53 rfl rfl rfl rfl hB26 hS27 rfl rfl ⟨(hS27.own_ro (i := 1) rfl).one, (hS27.own_ro (i := 2) rfl).one, rfl, rfl, trivial⟩ rfl ?_
  intro w28 hk31 hB29 hS30
  refine WL.nil fun a ha => hK12 _ _ (W.seq fun K32 hK32 => (W.region (wl_load_blk (i := 0) (vs := [v14, v16, (.int .i64 u13.2.2.1), (.int .i64 u13.2.2.2)]) (v := (.agg #[v14, v16, (.int .i64 u13.2.2.1), (.int .i64 u13.2.2.2)])) tf_53 rfl rfl hS30 rfl rfl rfl ?_))) a ha
  obtain ⟨u33, hu33, hF⟩ := bindE hF
  refine wl_call rfl Try.call74 (C_impl_PublishSheets w28 u13 v14 (hS30.own_ro (i := 1) rfl) v16 (hS30.own_ro (i := 2) rfl) _ hu33) rfl ?_
  rintro _ w36 ⟨v34, F35, rfl, hb37, hM40⟩
  refine ⟨_, rfl, ?_⟩
  have hB38 := hB29.trans (hb37.mono hB29.size)
  have hS39 := hS30.join hb37 hM40 hB29.size
  refine wl_move rfl rfl (wl_extract rfl rfl rfl (wl_extract rfl rfl rfl (wl_assign rfl rfl (wl_assign rfl rfl (WL.nil (fun a ha => hK32 _ _ (W.seq fun K41 hK41 => (W.region (wl_load_blk (i := 1) (vs := [v14, v16, (.int .i64 u13.2.2.1), (.int .i64 u13.2.2.2)]) (v := (.agg #[v14, v16, (.int .i64 u13.2.2.1), (.int .i64 u13.2.2.2)])) tf_53 rfl rfl hS39 rfl rfl rfl ?_))) a ha))))))
  obtain ⟨u42, hu42, hF⟩ := bindE hF
  refine wl_call rfl Try.call75 (C_spec_PublishSheets w36 u13 v14 (hS39.own_ro (i := 2) rfl) v16 (hS39.own_ro (i := 3) rfl) _ hu42) rfl ?_
  rintro _ w45 ⟨v43, F44, rfl, hb46, hM49⟩
  refine ⟨_, rfl, ?_⟩
  have hB47 := hB38.trans (hb46.mono hB38.size)
  have hS48 := hS39.join hb46 hM49 hB38.size
  refine wl_move rfl rfl (wl_extract rfl rfl rfl (wl_extract rfl rfl rfl (wl_assign rfl rfl (wl_assign rfl rfl (WL.nil (fun a ha => hK41 _ _ (W.seq fun K50 hK50 => (W.region (wl_load_blk (i := 2) (vs := [v14, v16, (.int .i64 u13.2.2.1), (.int .i64 u13.2.2.2)]) (v := (.agg #[v14, v16, (.int .i64 u13.2.2.1), (.int .i64 u13.2.2.2)])) tf_53 rfl rfl hS48 rfl rfl rfl ?_))) a ha))))))
  obtain ⟨u51, hu51, hF⟩ := bindE hF
  refine wl_call rfl Try.call76 (C_impl_UnsafeParts w45 u13 v14 (hS48.own_ro (i := 3) rfl) v16 (hS48.own_ro (i := 4) rfl) _ hu51) rfl ?_
  rintro _ w54 ⟨v52, F53, rfl, hb55, hM58⟩
  refine ⟨_, rfl, ?_⟩
  have hB56 := hB47.trans (hb55.mono hB47.size)
  have hS57 := hS48.join hb55 hM58 hB47.size
  refine wl_move rfl rfl (wl_extract rfl rfl rfl (wl_extract rfl rfl rfl (wl_assign rfl rfl (wl_assign rfl rfl (WL.nil (fun a ha => hK50 _ _ (W.seq fun K59 hK59 => (W.region (wl_load_blk (i := 3) (vs := [v14, v16, (.int .i64 u13.2.2.1), (.int .i64 u13.2.2.2)]) (v := (.agg #[v14, v16, (.int .i64 u13.2.2.1), (.int .i64 u13.2.2.2)])) tf_53 rfl rfl hS57 rfl rfl rfl ?_))) a ha))))))
  obtain ⟨u60, hu60, hF⟩ := bindE hF
  refine wl_call rfl Try.call77 (C_spec_UnsafeParts w54 u13 v14 (hS57.own_ro (i := 4) rfl) v16 (hS57.own_ro (i := 5) rfl) _ hu60) rfl ?_
  rintro _ w63 ⟨v61, F62, rfl, hb64, hM67⟩
  refine ⟨_, rfl, ?_⟩
  have hB65 := hB56.trans (hb64.mono hB56.size)
  have hS66 := hS57.join hb64 hM67 hB56.size
  refine wl_move rfl rfl (wl_extract rfl rfl rfl (wl_extract rfl rfl rfl (wl_assign rfl rfl (wl_assign rfl rfl (WL.nil (fun a ha => hK59 _ _ (W.seq fun K68 hK68 => (W.region (wl_load_blk (i := 4) (vs := [v14, v16, (.int .i64 u13.2.2.1), (.int .i64 u13.2.2.2)]) (v := (.agg #[v14, v16, (.int .i64 u13.2.2.1), (.int .i64 u13.2.2.2)])) tf_53 rfl rfl hS66 rfl rfl rfl ?_))) a ha))))))
  obtain ⟨u69, hu69, hF⟩ := bindE hF
  refine wl_call rfl Try.call78 (C_impl_CanPublish w63 u13 v14 (hS66.own_ro (i := 5) rfl) v16 (hS66.own_ro (i := 6) rfl) _ hu69) rfl ?_
  rintro _ w70 ⟨rfl, hb71⟩
  refine ⟨_, rfl, ?_⟩
  have hB72 := hB65.trans (hb71.mono hB65.size)
  have hS73 := hS66.below hb71
  refine wl_move rfl rfl (wl_extract rfl rfl rfl (wl_extract rfl rfl rfl (wl_assign rfl rfl (wl_assign rfl rfl (WL.nil (fun a ha => hK68 _ _ (W.seq fun K75 hK75 => (W.region (wl_load_blk (i := 4) (vs := [v14, v16, (.int .i64 u13.2.2.1), (.int .i64 u13.2.2.2)]) (v := (.agg #[v14, v16, (.int .i64 u13.2.2.1), (.int .i64 u13.2.2.2)])) tf_53 rfl rfl hS73 rfl rfl rfl ?_))) a ha))))))
  obtain ⟨u76, hu76, hF⟩ := bindE hF
  refine wl_call rfl Try.call79 (C_spec_CanPublish w70 u13 v14 (hS73.own_ro (i := 5) rfl) v16 (hS73.own_ro (i := 6) rfl) _ hu76) rfl ?_
  rintro _ w77 ⟨rfl, hb78⟩
  refine ⟨_, rfl, ?_⟩
  have hB79 := hB72.trans (hb78.mono hB72.size)
  have hS80 := hS73.below hb78
  refine wl_move rfl rfl (wl_extract rfl rfl rfl (wl_extract rfl rfl rfl (wl_assign rfl rfl (wl_assign rfl rfl (WL.nil (fun a ha => hK75 _ _ (W.seq fun K82 hK82 => (W.region (wl_load_blk (i := 4) (vs := [v14, v16, (.int .i64 u13.2.2.1), (.int .i64 u13.2.2.2)]) (v := (.agg #[v14, v16, (.int .i64 u13.2.2.1), (.int .i64 u13.2.2.2)])) tf_53 rfl rfl hS80 rfl rfl rfl ?_))) a ha))))))
  obtain ⟨u83, hu83, hF⟩ := bindE hF
  refine wl_call rfl Try.call63 (C_impl_TotalCounts w77 u13 v14 (hS80.own_ro (i := 5) rfl) v16 (hS80.own_ro (i := 6) rfl) _ hu83) rfl ?_
  rintro _ w84 ⟨rfl, hb85⟩
  refine ⟨_, rfl, ?_⟩
  have hB86 := hB79.trans (hb85.mono hB79.size)
  have hS87 := hS80.below hb85
  refine wl_move rfl rfl (wl_extract rfl rfl rfl (wl_extract rfl rfl rfl (wl_assign rfl rfl (wl_assign rfl rfl (WL.nil (fun a ha => hK82 _ _ (W.seq fun K89 hK89 => (W.region (wl_load_blk (i := 4) (vs := [v14, v16, (.int .i64 u13.2.2.1), (.int .i64 u13.2.2.2)]) (v := (.agg #[v14, v16, (.int .i64 u13.2.2.1), (.int .i64 u13.2.2.2)])) tf_53 rfl rfl hS87 rfl rfl rfl ?_))) a ha))))))
  obtain ⟨u90, hu90, hF⟩ := bindE hF
  refine wl_call rfl Try.call80 (C_spec_TotalCounts w84 u13 v14 (hS87.own_ro (i := 5) rfl) v16 (hS87.own_ro (i := 6) rfl) _ hu90) rfl ?_
  rintro _ w91 ⟨rfl, hb92⟩
  refine ⟨_, rfl, ?_⟩
  have hB93 := hB86.trans (hb92.mono hB86.size)
  have hS94 := hS87.below hb92
  refine wl_move rfl rfl (wl_extract rfl rfl rfl (wl_extract rfl rfl rfl (wl_assign rfl rfl (wl_assign rfl rfl (WL.nil (fun a ha => hK89 _ _ (W.seq fun K96 hK96 => (W.region (wl_load_blk (i := 4) (vs := [v14, v16, (.int .i64 u13.2.2.1), (.int .i64 u13.2.2.2)]) (v := (.agg #[v14, v16, (.int .i64 u13.2.2.1), (.int .i64 u13.2.2.2)])) tf_53 rfl rfl hS94 rfl rfl rfl ?_))) a ha))))))
  obtain ⟨u97, hu97, hF⟩ := bindE hF
  refine wl_call rfl Try.call81 (C_impl_ReverseShow w91 u13 v14 (hS94.own_ro (i := 5) rfl) v16 (hS94.own_ro (i := 6) rfl) _ hu97) rfl ?_
  rintro _ w102 ⟨v98, F99, v100, F101, rfl, hb103, hM106⟩
  refine ⟨_, rfl, ?_⟩
  have hB104 := hB93.trans (hb103.mono hB93.size)
  have hS105 := hS94.join hb103 hM106 hB93.size
  refine wl_move rfl rfl (wl_extract rfl rfl rfl (wl_extract rfl rfl rfl (wl_alloc (cs := [(.slice none 0 0), (.slice none 0 0), (.int .i64 0), (.int .i64 0)]) tf_53 rfl rfl hB104 hS105 ?_)))
  intro b107 w108 hb109 hB110 hS111
  refine wl_store_blk (i := 0) (vs := [v98, v100, (.int .i64 u97.1.2.2.1), (.int .i64 u97.1.2.2.2)]) (cs' := [v98, v100, (.int .i64 u97.1.2.2.1), (.int .i64 u97.1.2.2.2)]) tf_53 rfl rfl rfl rfl hB110 hS111 rfl rfl ⟨(hS111.own_ro (i := 1) rfl).one, (hS111.own_ro (i := 2) rfl).one, rfl, rfl, trivial⟩ rfl ?_
  intro w112 hk115 hB113 hS114
  refine wl_assign rfl rfl (WL.nil (fun a ha => hK96 _ _ (W.seq fun K116 hK116 => (W.region (wl_load_blk (i := 7) (vs := [v14, v16, (.int .i64 u13.2.2.1), (.int .i64 u13.2.2.2)]) (v := (.agg #[v14, v16, (.int .i64 u13.2.2.1), (.int .i64 u13.2.2.2)])) tf_53 rfl rfl hS114 rfl rfl rfl ?_))) a ha))
  obtain ⟨u117, hu117, hF⟩ := bindE hF
  refine wl_call rfl Try.call82 (C_spec_ReverseShow w112 u13 v14 (hS114.own_ro (i := 8) rfl) v16 (hS114.own_ro (i := 9) rfl) _ hu117) rfl ?_
  rintro _ w122 ⟨v118, F119, v120, F121, rfl, hb123, hM126⟩
  refine ⟨_, rfl, ?_⟩
  have hB124 := hB113.trans (hb123.mono hB113.size)
  have hS125 := hS114.join hb123 hM126 hB113.size
  refine wl_move rfl rfl (wl_extract rfl rfl rfl (wl_extract rfl rfl rfl (wl_alloc (cs := [(.slice none 0 0), (.slice none 0 0), (.int .i64 0), (.int .i64 0)]) tf_53 rfl rfl hB124 hS125 ?_)))
  intro b127 w128 hb129 hB130 hS131
  refine wl_store_blk (i := 0) (vs := [v118, v120, (.int .i64 u117.1.2.2.1), (.int .i64 u117.1.2.2.2)]) (cs' := [v118, v120, (.int .i64 u117.1.2.2.1), (.int .i64 u117.1.2.2.2)]) tf_53 rfl rfl rfl rfl hB130 hS131 rfl rfl ⟨(hS131.own_ro (i := 1) rfl).one, (hS131.own_ro (i := 2) rfl).one, rfl, rfl, trivial⟩ rfl ?_
  intro w132 hk135 hB133 hS134
  refine wl_assign rfl rfl (WL.nil (fun a ha => hK116 _ _ (W.seq fun K136 hK136 => (W.seq fun K137 hK137 => ?_)) a ha))
  obtain ⟨k142, hk142, hF⟩ := jE1 hF
  have hJ143 : ∀ (y141 : Bool) (w138 : World) (_ : k142 y141 = some r) (_ : Below w0.heap.size w0 w138) (_ : Sep w0.heap.size w138 [R.own ty_63 F15 v14 u13.1, R.own ty_3 F17 v16 u13.2.1, R.blk b23 53 [v14, v16, (.int .i64 u13.2.2.1), (.int .i64 u13.2.2.2)], R.own ty_114 F35 v34 u33.1, R.own ty_3 F62 v61 u60.1, R.own ty_63 F99 v98 u97.1.1, R.own ty_3 F101 v100 u97.1.2.1, R.blk b107 53 [v98, v100, (.int .i64 u97.1.2.2.1), (.int .i64 u97.1.2.2.2)]]), ∀ a, St 389 [(1, v1_0), (5, (.pointer (some ⟨b23, 0, none⟩))), (6, v34), (7, (.bool u33.2)), (11, (.bool u51.2)), (12, v61), (16, (.bool u76.1)), (20, (.int .i64 u90.1)), (22, (.pointer (some ⟨b107, 0, none⟩))), (191, (.bool y141))] a → K137 a w138 := by
   intro y141 w138 hF hB139 hS140
   subst hk142
   refine fun a ha => hK137 _ _ (W.cond rfl (fun h144 => ?_) (fun h144 => ?_)) a ha
   ·replace hF := ifP h144 hF
    refine W.seq fun K145 hK145 => W.region (wl_assign rfl rfl (WL.nil (fun a ha => hK145 _ _ (W.ret ?_) a ha)))
    have hr := Option.some.inj hF
    subst hr
    exact rets (vs := [(.bool false)]) hQ rfl ⟨rv_tmp rfl, trivial⟩ ⟨rfl, hB139⟩
   ·replace hF := ifN h144 hF
    refine W.skip fun a ha => hK136 _ _ (W.seq fun K146 hK146 => ?_) a ha
    obtain ⟨k150, hk150, hF⟩ := jE0 hF
    have hJ151 : ∀ (w147 : World) (_ : k150 = some r) (_ : Below w0.heap.size w0 w147) (_ : Sep w0.heap.size w147 [R.own ty_63 F15 v14 u13.1, R.own ty_3 F17 v16 u13.2.1, R.blk b23 53 [v14, v16, (.int .i64 u13.2.2.1), (.int .i64 u13.2.2.2)], R.own ty_3 F62 v61 u60.1, R.own ty_63 F99 v98 u97.1.1, R.own ty_3 F101 v100 u97.1.2.1, R.blk b107 53 [v98, v100, (.int .i64 u97.1.2.2.1), (.int .i64 u97.1.2.2.2)]]), ∀ a, St 389 [(1, v1_0), (5, (.pointer (some ⟨b23, 0, none⟩))), (11, (.bool u51.2)), (12, v61), (16, (.bool u76.1)), (20, (.int .i64 u90.1)), (22, (.pointer (some ⟨b107, 0, none⟩)))] a → K146 a w147 := by
     intro w147 hF hB148 hS149
     subst hk150
     refine fun a ha => hK146 _ _ (W.seq fun K152 hK152 => ?_) a ha
     obtain ⟨k156, hk156, hF⟩ := jE0 hF
     have hJ157 : ∀ (w153 : World) (_ : k156 = some r) (_ : Below w0.heap.size w0 w153) (_ : Sep w0.heap.size w153 []), ∀ a, St 389 [(1, v1_0)] a → K152 a w153 := by
      intro w153 hF hB154 hS155
      subst hk156
      refine fun a ha => hK152 _ _ (W.seq fun K158 hK158 => (W.region (wl_move rfl rfl ?_))) a ha
      obtain ⟨u159, hu159, hF⟩ := bindE hF
      refine wl_call rfl Try.call87 (C_spec_DrawShowMoves w153 x1 v1_0 (h1_0.ro hB154) _ hu159) rfl ?_
      rintro _ w164 ⟨v160, F161, v162, F163, rfl, hb165, hM168⟩
      refine ⟨_, rfl, ?_⟩
      have hB166 := hB154.trans (hb165.mono hB154.size)
      have hS167 := hS155.join hb165 hM168 hB154.size
      refine wl_move rfl rfl (wl_extract rfl rfl rfl (wl_extract rfl rfl rfl (wl_alloc (cs := [(.slice none 0 0), (.slice none 0 0), (.int .i64 0), (.int .i64 0)]) tf_53 rfl rfl hB166 hS167 ?_)))
      intro b169 w170 hb171 hB172 hS173
      refine wl_store_blk (i := 0) (vs := [v160, v162, (.int .i64 u159.1.2.2.1), (.int .i64 u159.1.2.2.2)]) (cs' := [v160, v162, (.int .i64 u159.1.2.2.1), (.int .i64 u159.1.2.2.2)]) tf_53 rfl rfl rfl rfl hB172 hS173 rfl rfl ⟨(hS173.own_ro (i := 1) rfl).one, (hS173.own_ro (i := 2) rfl).one, rfl, rfl, trivial⟩ rfl ?_
      intro w174 hk177 hB175 hS176
      refine wl_assign rfl rfl (WL.nil (fun a ha => hK158 _ _ (W.seq fun K178 hK178 => (W.region (wl_load_blk (i := 0) (vs := [v160, v162, (.int .i64 u159.1.2.2.1), (.int .i64 u159.1.2.2.2)]) (v := (.agg #[v160, v162, (.int .i64 u159.1.2.2.1), (.int .i64 u159.1.2.2.2)])) tf_53 rfl rfl hS176 rfl rfl rfl (wl_move rfl rfl ?_)))) a ha))
      obtain ⟨u179, hu179, hF⟩ := bindE hF
      refine wl_call rfl Try.call49 (C_impl_ShowMoves w174 u159.1 v160 (hS176.own_ro (i := 1) rfl) v162 (hS176.own_ro (i := 2) rfl) u159.2 _ hu179) rfl ?_
      rintro _ w182 ⟨v180, F181, rfl, hb183, hM186⟩
      refine ⟨_, rfl, ?_⟩
      have hB184 := hB175.trans (hb183.mono hB175.size)
      have hS185 := hS176.join hb183 hM186 hB175.size
      refine wl_move rfl rfl (wl_extract rfl rfl rfl (wl_extract rfl rfl rfl (wl_assign rfl rfl (wl_assign rfl rfl (WL.nil (fun a ha => hK178 _ _ (W.seq fun K187 hK187 => (W.region (wl_load_blk (i := 1) (vs := [v160, v162, (.int .i64 u159.1.2.2.1), (.int .i64 u159.1.2.2.2)]) (v := (.agg #[v160, v162, (.int .i64 u159.1.2.2.1), (.int .i64 u159.1.2.2.2)])) tf_53 rfl rfl hS185 rfl rfl rfl (wl_move rfl rfl ?_)))) a ha))))))
      obtain ⟨u188, hu188, hF⟩ := bindE hF
      refine wl_call rfl Try.call88 (C_spec_ShowMoves w182 u159.1 v160 (hS185.own_ro (i := 2) rfl) v162 (hS185.own_ro (i := 3) rfl) u159.2 _ hu188) rfl ?_
      rintro _ w191 ⟨v189, F190, rfl, hb192, hM195⟩
      refine ⟨_, rfl, ?_⟩
      have hB193 := hB184.trans (hb192.mono hB184.size)
      have hS194 := hS185.join hb192 hM195 hB184.size
      refine wl_move rfl rfl (wl_extract rfl rfl rfl (wl_extract rfl rfl rfl (wl_assign rfl rfl (wl_assign rfl rfl (WL.nil (fun a ha => hK187 _ _ (W.seq fun K196 hK196 => (W.seq fun K197 hK197 => ?_)) a ha))))))
      obtain ⟨k202, hk202, hF⟩ := jE1 hF
      have hJ203 : ∀ (y201 : Bool) (w198 : World) (_ : k202 y201 = some r) (_ : Below w0.heap.size w0 w198) (_ : Sep w0.heap.size w198 [R.own ty_63 F161 v160 u159.1.1, R.own ty_3 F163 v162 u159.1.2.1, R.blk b169 53 [v160, v162, (.int .i64 u159.1.2.2.1), (.int .i64 u159.1.2.2.2)], R.own ty_70 F190 v189 u188.1]), ∀ a, St 389 [(42, (.pointer (some ⟨b169, 0, none⟩))), (43, (.int .i64 u159.2)), (45, (.bool u179.2)), (46, v189), (344, (.bool y201))] a → K197 a w198 := by
       intro y201 w198 hF hB199 hS200
       subst hk202
       refine fun a ha => hK197 _ _ (W.cond rfl (fun h204 => ?_) (fun h204 => ?_)) a ha
       ·replace hF := ifP h204 hF
        refine W.seq fun K205 hK205 => W.region (wl_assign rfl rfl (WL.nil (fun a ha => hK205 _ _ (W.ret ?_) a ha)))
        have hr := Option.some.inj hF
        subst hr
        exact rets (vs := [(.bool false)]) hQ rfl ⟨rv_tmp rfl, trivial⟩ ⟨rfl, hB199⟩
       ·replace hF := ifN h204 hF
        refine W.skip fun a ha => hK196 _ _ (W.seq fun K206 hK206 => ?_) a ha
        obtain ⟨k210, hk210, hF⟩ := jE0 hF
        have hJ211 : ∀ (w207 : World) (_ : k210 = some r) (_ : Below w0.heap.size w0 w207) (_ : Sep w0.heap.size w207 []), ∀ a, St 389 [] a → K206 a w207 := by
         intro w207 hF hB208 hS209
         subst hk210
         refine fun a ha => hK206 _ _ (W.seq fun K212 hK212 => (W.region (wl_assign rfl rfl (WL.nil (fun a ha => hK212 _ _ (W.ret ?_) a ha))))) a ha
         have hr := Option.some.inj hF
         subst hr
         exact rets (vs := [(.bool true)]) hQ rfl ⟨rv_tmp rfl, trivial⟩ ⟨rfl, hB208⟩
        refine W.seq fun K213 hK213 => W.region (wl_move rfl rfl (WL.nil (fun a ha => hK213 _ _ (W.cond rfl (fun h214 => ?_) (fun h214 => ?_)) a ha)))
        ·replace hF := ifP h214 hF
         refine W.seq fun K215 hK215 => W.region (wl_move rfl rfl (wl_lenr (e := ty_70) (l := u188.1) Try.underlying64 rfl rfl (hS200.own_ro (i := 3) rfl) (wl_move rfl rfl (WL.nil (fun a ha => hK215 _ _ (W.block (W.loopk (fun m a w216 => ∃ (y219 : Int), St 389 [(42, (.pointer (some ⟨b169, 0, none⟩))), (43, (.int .i64 u159.2)), (346, v189), (347, (.int .i64 (List.length u188.1 : Int))), (348, (.int .i64 y219))] a ∧ Below w0.heap.size w0 w216 ∧ Sep w0.heap.size w216 [R.own ty_63 F161 v160 u159.1.1, R.own ty_3 F163 v162 u159.1.2.1, R.blk b169 53 [v160, v162, (.int .i64 u159.1.2.2.1), (.int .i64 u159.1.2.2.2)], R.own ty_70 F190 v189 u188.1] ∧ F_laws_FnShows_L2 u188 u159 k210 m y219 = some r) FU ?_ ?_)) a ha)))))
         ·
          exact fun a ha => ⟨0, ha.sub ⟨rfl, rfl, rfl, rfl, rfl, trivial⟩, hB199, (hS200.sel [0, 1, 2, 3] rfl), hF⟩
         ·
          rintro m222 a w216 ⟨y219, ha, hB217, hS218, hF⟩ KL221 hKL221
          refine W.at ?_ ha
          cases m222 with
          | zero => exact noneE hF
          | succ m222 =>
           obtain ⟨nx220, hnx220⟩ : ∃ k, k = F_laws_FnShows_L2 u188 u159 k210 m222 := ⟨_, rfl⟩
           rw [F_laws_FnShows_L2, ← hnx220] at hF
           refine W.seq fun K223 hK223 => W.region (wl_lss rfl rfl rfl (WL.nil (fun a ha => hK223 _ _ (W.seq fun K224 hK224 => (W.cond rfl (fun h225 => ?_) (fun h225 => ?_))) a ha)))
           ·replace hF := ifP h225 hF
            refine W.skip fun a ha => hK224 _ _ (W.seq fun K226 hK226 => (W.block (W.seq fun K227 hK227 => (W.region (wl_move rfl rfl ?_))))) a ha
            obtain ⟨u228, hu228, hF⟩ := bindE hF
            refine wl_indexo (e := ty_70) (i := 3) Try.underlying64 rfl rfl rfl hS218 rfl hu228 ?_
            rintro p229 _ rfl hp230 ho231
            refine wl_load_p (vs := [(.int .i64 u228.1.1), (.int .i64 u228.1.2), (.int .i64 u228.2.1.1), (.int .i64 u228.2.1.2), (.int .i64 u228.2.2)]) (v := (.agg #[(.int .i64 u228.1.1), (.int .i64 u228.1.2), (.int .i64 u228.2.1.1), (.int .i64 u228.2.1.2), (.int .i64 u228.2.2)])) tf_70 rfl rfl hp230 rfl rfl (wl_alloc (cs := [(.int .i64 0), (.int .i64 0), (.int .i64 0), (.int .i64 0), (.int .i64 0)]) tf_70 rfl rfl hB217 hS218 ?_)
            intro b232 w233 hb234 hB235 hS236
            refine wl_assign rfl rfl (wl_store_blk (i := 0) (vs := [(.int .i64 u228.1.1), (.int .i64 u228.1.2), (.int .i64 u228.2.1.1), (.int .i64 u228.2.1.2), (.int .i64 u228.2.2)]) (cs' := [(.int .i64 u228.1.1), (.int .i64 u228.1.2), (.int .i64 u228.2.1.1), (.int .i64 u228.2.1.2), (.int .i64 u228.2.2)]) tf_70 rfl rfl rfl rfl hB235 hS236 rfl rfl ⟨rfl, rfl, rfl, rfl, rfl, trivial⟩ rfl ?_)
            intro w237 hk240 hB238 hS239
            refine WL.nil fun a ha => hK227 _ _ (W.seq fun K241 hK241 => ?_) a ha
            obtain ⟨k246, hk246, hF⟩ := jE1 hF
            have hJ247 : ∀ (y245 : Bool) (w242 : World) (_ : k246 y245 = some r) (_ : Below w0.heap.size w0 w242) (_ : Sep w0.heap.size w242 [R.own ty_63 F161 v160 u159.1.1, R.own ty_3 F163 v162 u159.1.2.1, R.blk b169 53 [v160, v162, (.int .i64 u159.1.2.2.1), (.int .i64 u159.1.2.2.2)], R.own ty_70 F190 v189 u188.1]), ∀ a, St 389 [(42, (.pointer (some ⟨b169, 0, none⟩))), (43, (.int .i64 u159.2)), (346, v189), (347, (.int .i64 (List.length u188.1 : Int))), (348, (.int .i64 y219)), (387, (.bool y245))] a → K241 a w242 := by
             intro y245 w242 hF hB243 hS244
             subst hk246
             refine fun a ha => hK241 _ _ (W.cond rfl (fun h248 => ?_) (fun h248 => ?_)) a ha
             ·replace hF := ifP h248 hF
              refine W.seq fun K249 hK249 => W.region (wl_assign rfl rfl (WL.nil (fun a ha => hK249 _ _ (W.ret ?_) a ha)))
              have hr := Option.some.inj hF
              subst hr
              exact rets (vs := [(.bool false)]) hQ rfl ⟨rv_tmp rfl, trivial⟩ ⟨rfl, hB243⟩
             ·replace hF := ifN h248 hF
              refine W.skip fun a ha => hK226 _ _ (W.region (wl_add rfl rfl rfl (wl_move rfl rfl (WL.nil ?_)))) a ha
              rw [hnx220] at hF
              exact fun a ha => hKL221 a _ m222 (Nat.lt_succ_self m222) ⟨(w64 (y219 + 1)), ha.sub ⟨rfl, rfl, rfl, rfl, rfl, trivial⟩, hB243, (hS244.sel [0, 1, 2, 3] rfl), hF⟩
            refine W.regionH mixed_ [] hB238 hS239 ?_
            intro w250 hb251 hB252 hS253
            have hSW254 := KeepX.refl w250 []
            refine WH.tk 0 rfl hP hSW254 (pr_field (o := 0) (off' := 0) ff_70_0 rfl rfl rfl (WH.tk 1 rfl hP hSW254 (pr_load_blk (i := 0) (vs := [(.int .i64 u228.1.1), (.int .i64 u228.1.2)]) (v := (.agg #[(.int .i64 u228.1.1), (.int .i64 u228.1.2)])) tf_68 rfl rfl hS253 rfl rfl rfl (by simp) (WH.tk 2 rfl hP hSW254 (pr_field (o := 0) (off' := 0) ff_53_0 rfl rfl rfl (WH.tk 3 rfl hP hSW254 (pr_load_blk (i := 3) (vs := [v160]) (v := v160) tf_51 rfl rfl hS253 rfl rfl rfl (by simp) (WH.tk 4 rfl hP hSW254 (pr_move rfl rfl ?_)))))))))
            obtain ⟨u255, hu255, hF⟩ := bindE hF
            refine WH.tk 5 rfl hP hSW254 (pr_indexo (e := ty_63) (i := 1) Try.underlying51 rfl rfl rfl hS253 rfl hu255 ?_)
            rintro p256 _ ⟨v258, rfl, hv259⟩ hp257 ho260
            refine WH.tk 6 rfl hP hSW254 (pr_load_p (vs := [v258]) (v := v258) tf_63 rfl rfl (hp257.kx0) rfl rfl (WH.tk 7 rfl hP hSW254 (pr_move rfl rfl ?_)))
            obtain ⟨u261, hu261, hF⟩ := bindE hF
            refine WH.tk 8 rfl hP hSW254 (pr_index (e := ty_68) Try.underlying63 rfl rfl rfl hv259 hu261 ?_)
            rintro p262 _ rfl hp263
            refine WH.tk 9 rfl hP hSW254 (pr_load_p (vs := [(.int .i64 u261.1), (.int .i64 u261.2)]) (v := (.agg #[(.int .i64 u261.1), (.int .i64 u261.2)])) tf_68 rfl rfl (hp263.kx0) rfl rfl (WH.tk 10 rfl hP hSW254 (pr_nes Try.eqGuardType68 (eq_68 u228.1 u261) rfl rfl rfl (WH.tk 11 rfl hP hSW254 (pr_move rfl rfl ?_)))))
            rcases bE (!(eqv_Spot u228.1 u261)) with h264 | h264
            ·replace hF := ifP h264 hF
             refine WH.off (i := 12) rfl (by kernel_rfl) (by kernel_rfl) (by kernel_rfl) hP rfl rfl h264 rfl hSW254 (WH.off (i := 13) rfl (by kernel_rfl) (by kernel_rfl) (by kernel_rfl) hP rfl rfl h264 rfl hSW254 (WH.off (i := 14) rfl (by kernel_rfl) (by kernel_rfl) (by kernel_rfl) hP rfl rfl h264 rfl hSW254 (WH.off (i := 15) rfl (by kernel_rfl) (by kernel_rfl) (by kernel_rfl) hP rfl rfl h264 rfl hSW254 (WH.off (i := 16) rfl (by kernel_rfl) (by kernel_rfl) (by kernel_rfl) hP rfl rfl h264 rfl hSW254 (WH.off (i := 17) rfl (by kernel_rfl) (by kernel_rfl) (by kernel_rfl) hP rfl rfl h264 rfl hSW254 (WH.off (i := 18) rfl (by kernel_rfl) (by kernel_rfl) (by kernel_rfl) hP rfl rfl h264 rfl hSW254 (WH.off (i := 19) rfl (by kernel_rfl) (by kernel_rfl) (by kernel_rfl) hP rfl rfl h264 rfl hSW254 (WH.off (i := 20) rfl (by kernel_rfl) (by kernel_rfl) (by kernel_rfl) hP rfl rfl h264 rfl hSW254 ?_))))))))
             refine WH.off (i := 21) rfl (by kernel_rfl) (by kernel_rfl) (by kernel_rfl) hP rfl rfl h264 rfl hSW254 (WH.off (i := 22) rfl (by kernel_rfl) (by kernel_rfl) (by kernel_rfl) hP rfl rfl h264 rfl hSW254 (WH.off (i := 23) rfl (by kernel_rfl) (by kernel_rfl) (by kernel_rfl) hP rfl rfl h264 rfl hSW254 (WH.tk 24 rfl hP hSW254 (pr_pick_t rfl rfl h264 rfl (WH.tk 25 rfl hP hSW254 (pr_move rfl rfl (WH.off (i := 26) rfl (by kernel_rfl) (by kernel_rfl) (by kernel_rfl) hP rfl rfl rfl rfl hSW254 (WH.off (i := 27) rfl (by kernel_rfl) (by kernel_rfl) (by kernel_rfl) hP rfl rfl rfl rfl hSW254 (WH.off (i := 28) rfl (by kernel_rfl) (by kernel_rfl) (by kernel_rfl) hP rfl rfl rfl rfl hSW254 (WH.off (i := 29) rfl (by kernel_rfl) (by kernel_rfl) (by kernel_rfl) hP rfl rfl rfl rfl hSW254 (WH.off (i := 30) rfl (by kernel_rfl) (by kernel_rfl) (by kernel_rfl) hP rfl rfl rfl rfl hSW254 ?_)))))))))))
             refine WH.off (i := 31) rfl (by kernel_rfl) (by kernel_rfl) (by kernel_rfl) hP rfl rfl rfl rfl hSW254 (WH.off (i := 32) rfl (by kernel_rfl) (by kernel_rfl) (by kernel_rfl) hP rfl rfl rfl rfl hSW254 (WH.off (i := 33) rfl (by kernel_rfl) (by kernel_rfl) (by kernel_rfl) hP rfl rfl rfl rfl hSW254 (WH.tk 34 rfl hP hSW254 (pr_pick_t rfl rfl rfl rfl (WH.done (by kernel_rfl) ?_)))))
             exact fun a ha => hJ247 (true) _ hF hB252 (hS253.sel [1, 2, 3, 4] rfl) a (ha.sub ⟨rfl, rfl, rfl, rfl, rfl, rfl, trivial⟩)
            ·replace hF := ifN h264 hF
             refine WH.takexg (i := 12) rfl (by kernel_rfl) (by kernel_rfl) (by kernel_rfl) hP rfl rfl h264 hSW254 (pr_field (o := 2) (off' := 2) ff_70_1 rfl rfl rfl (WH.takexg (i := 13) rfl (by kernel_rfl) (by kernel_rfl) (by kernel_rfl) hP rfl rfl h264 hSW254 (pr_load_blk (i := 0) (vs := [(.int .i64 u228.2.1.1), (.int .i64 u228.2.1.2)]) (v := (.agg #[(.int .i64 u228.2.1.1), (.int .i64 u228.2.1.2)])) tf_68 rfl rfl hS253 rfl rfl rfl (by simp) (WH.takexg (i := 14) rfl (by kernel_rfl) (by kernel_rfl) (by kernel_rfl) hP rfl rfl h264 hSW254 (pr_field (o := 0) (off' := 0) ff_53_0 rfl rfl rfl (WH.takexg (i := 15) rfl (by kernel_rfl) (by kernel_rfl) (by kernel_rfl) hP rfl rfl h264 hSW254 (pr_load_blk (i := 3) (vs := [v160]) (v := v160) tf_51 rfl rfl hS253 rfl rfl rfl (by simp) (WH.takexg (i := 16) rfl (by kernel_rfl) (by kernel_rfl) (by kernel_rfl) hP rfl rfl h264 hSW254 (pr_move rfl rfl ?_)))))))))
             refine WH.takexg (i := 17) rfl (by kernel_rfl) (by kernel_rfl) (by kernel_rfl) hP rfl rfl h264 hSW254 (pr_add rfl rfl rfl ?_)
             obtain ⟨u265, hu265, hF⟩ := bindE hF
             refine WH.takexg (i := 18) rfl (by kernel_rfl) (by kernel_rfl) (by kernel_rfl) hP rfl rfl h264 hSW254 (pr_indexo (e := ty_63) (i := 1) Try.underlying51 rfl rfl rfl hS253 rfl hu265 ?_)
             rintro p266 _ ⟨v268, rfl, hv269⟩ hp267 ho270
             refine WH.takexg (i := 19) rfl (by kernel_rfl) (by kernel_rfl) (by kernel_rfl) hP rfl rfl h264 hSW254 (pr_load_p (vs := [v268]) (v := v268) tf_63 rfl rfl (hp267.kx0) rfl rfl (WH.takexg (i := 20) rfl (by kernel_rfl) (by kernel_rfl) (by kernel_rfl) hP rfl rfl h264 hSW254 (pr_move rfl rfl ?_)))
             obtain ⟨u271, hu271, hF⟩ := bindE hF
             refine WH.takexg (i := 21) rfl (by kernel_rfl) (by kernel_rfl) (by kernel_rfl) hP rfl rfl h264 hSW254 (pr_index (e := ty_68) Try.underlying63 rfl rfl rfl hv269 hu271 ?_)
             rintro p272 _ rfl hp273
             refine WH.takexg (i := 22) rfl (by kernel_rfl) (by kernel_rfl) (by kernel_rfl) hP rfl rfl h264 hSW254 (pr_load_p (vs := [(.int .i64 u271.1), (.int .i64 u271.2)]) (v := (.agg #[(.int .i64 u271.1), (.int .i64 u271.2)])) tf_68 rfl rfl (hp273.kx0) rfl rfl (WH.takexg (i := 23) rfl (by kernel_rfl) (by kernel_rfl) (by kernel_rfl) hP rfl rfl h264 hSW254 (pr_nes Try.eqGuardType68 (eq_68 u228.2.1 u271) rfl rfl rfl (WH.tk 24 rfl hP hSW254 (pr_pick_f rfl rfl h264 rfl (WH.tk 25 rfl hP hSW254 (pr_move rfl rfl ?_)))))))
             rcases bE (!(eqv_Spot u228.2.1 u271)) with h274 | h274
             ·replace hF := ifP h274 hF
              refine WH.off (i := 26) rfl (by kernel_rfl) (by kernel_rfl) (by kernel_rfl) hP rfl rfl h274 rfl hSW254 (WH.off (i := 27) rfl (by kernel_rfl) (by kernel_rfl) (by kernel_rfl) hP rfl rfl h274 rfl hSW254 (WH.off (i := 28) rfl (by kernel_rfl) (by kernel_rfl) (by kernel_rfl) hP rfl rfl h274 rfl hSW254 (WH.off (i := 29) rfl (by kernel_rfl) (by kernel_rfl) (by kernel_rfl) hP rfl rfl h274 rfl hSW254 (WH.off (i := 30) rfl (by kernel_rfl) (by kernel_rfl) (by kernel_rfl) hP rfl rfl h274 rfl hSW254 (WH.off (i := 31) rfl (by kernel_rfl) (by kernel_rfl) (by kernel_rfl) hP rfl rfl h274 rfl hSW254 (WH.off (i := 32) rfl (by kernel_rfl) (by kernel_rfl) (by kernel_rfl) hP rfl rfl h274 rfl hSW254 (WH.off (i := 33) rfl (by kernel_rfl) (by kernel_rfl) (by kernel_rfl) hP rfl rfl h274 rfl hSW254 (WH.tk 34 rfl hP hSW254 (pr_pick_t rfl rfl h274 rfl (WH.done (by kernel_rfl) ?_))))))))))
              exact fun a ha => hJ247 (true) _ hF hB252 (hS253.sel [1, 2, 3, 4] rfl) a (ha.sub ⟨rfl, rfl, rfl, rfl, rfl, rfl, trivial⟩)
             ·replace hF := ifN h274 hF
              refine WH.takexg (i := 26) rfl (by kernel_rfl) (by kernel_rfl) (by kernel_rfl) hP rfl rfl h274 hSW254 (pr_field (o := 4) (off' := 4) ff_70_2 rfl rfl rfl (WH.takexg (i := 27) rfl (by kernel_rfl) (by kernel_rfl) (by kernel_rfl) hP rfl rfl h274 hSW254 (pr_load_blk (i := 0) (vs := [(.int .i64 u228.2.2)]) (v := (.int .i64 u228.2.2)) tf_3 rfl rfl hS253 rfl rfl rfl (by simp) (WH.takexg (i := 28) rfl (by kernel_rfl) (by kernel_rfl) (by kernel_rfl) hP rfl rfl h274 hSW254 (pr_field (o := 1) (off' := 1) ff_53_1 rfl rfl rfl (WH.takexg (i := 29) rfl (by kernel_rfl) (by kernel_rfl) (by kernel_rfl) hP rfl rfl h274 hSW254 (pr_load_blk (i := 3) (vs := [v162]) (v := v162) tf_29 rfl rfl hS253 rfl rfl rfl (by simp) (WH.takexg (i := 30) rfl (by kernel_rfl) (by kernel_rfl) (by kernel_rfl) hP rfl rfl h274 hSW254 (pr_move rfl rfl ?_)))))))))
              obtain ⟨u275, hu275, hF⟩ := bindE hF
              refine WH.takexg (i := 31) rfl (by kernel_rfl) (by kernel_rfl) (by kernel_rfl) hP rfl rfl h274 hSW254 (pr_indexo (e := ty_3) (i := 2) Try.underlying29 rfl rfl rfl hS253 rfl hu275 ?_)
              rintro p276 _ rfl hp277 ho278
              refine WH.takexg (i := 32) rfl (by kernel_rfl) (by kernel_rfl) (by kernel_rfl) hP rfl rfl h274 hSW254 (pr_load_p (vs := [(.int .i64 u275)]) (v := (.int .i64 u275)) tf_3 rfl rfl (hp277.kx0) rfl rfl (WH.takexg (i := 33) rfl (by kernel_rfl) (by kernel_rfl) (by kernel_rfl) hP rfl rfl h274 hSW254 (pr_neq rfl rfl rfl (WH.tk 34 rfl hP hSW254 (pr_pick_f rfl rfl h274 rfl (WH.done (by kernel_rfl) ?_))))))
              exact fun a ha => hJ247 ((u228.2.2 != u275)) _ hF hB252 (hS253.sel [1, 2, 3, 4] rfl) a (ha.sub ⟨rfl, rfl, rfl, rfl, rfl, rfl, trivial⟩)
           ·replace hF := ifN h225 hF
            refine W.exit ?_
            exact fun a ha => hJ211 _ hF hB217 (hS218.sel [] rfl) a (ha.sub trivial)
        ·replace hF := ifN h214 hF
         refine W.skip ?_
         exact fun a ha => hJ211 _ hF hB199 (hS200.sel [] rfl) a (ha.sub trivial)
      refine W.region (wl_move rfl rfl (wl_move rfl rfl (wl_neqb Try.underlying4 rfl rfl rfl (wl_move rfl rfl ?_))))
      rcases bE (u179.2 != u188.2) with h279 | h279
      ·replace hF := ifP h279 hF
       refine wl_off rfl rfl rfl h279 (wl_off rfl rfl rfl h279 (wl_off rfl rfl rfl h279 (wl_off rfl rfl rfl h279 (wl_pick_t rfl rfl h279 rfl (WL.nil ?_)))))
       exact fun a ha => hJ203 (true) _ hF hB193 (hS194.sel [3, 4, 2, 0] rfl) a (ha.sub ⟨rfl, rfl, rfl, rfl, rfl, trivial⟩)
      ·replace hF := ifN h279 hF
       refine wl_on rfl rfl h279 (wl_move rfl rfl (wl_on rfl rfl h279 (wl_move rfl rfl (wl_on rfl rfl h279 ?_))))
       obtain ⟨u280, hu280, hF⟩ := bindE hF
       refine wl_call rfl Try.call89 (C_laws_pSameMoves w191 u179.1 v180 (hS194.own_ro (i := 1) rfl) u188.1 v189 (hS194.own_ro (i := 0) rfl) _ hu280) rfl ?_
       rintro _ w281 ⟨rfl, hb282⟩
       refine ⟨_, rfl, ?_⟩
       have hB283 := hB193.trans (hb282.mono hB193.size)
       have hS284 := hS194.below hb282
       refine wl_on rfl rfl h279 (wl_not rfl rfl (wl_pick_f rfl rfl h279 rfl (WL.nil ?_)))
       exact fun a ha => hJ203 ((!u280)) _ hF hB283 (hS284.sel [3, 4, 2, 0] rfl) a (ha.sub ⟨rfl, rfl, rfl, rfl, rfl, trivial⟩)
     refine W.seq fun K286 hK286 => W.region (wl_move rfl rfl (WL.nil (fun a ha => hK286 _ _ (W.cond rfl (fun h287 => ?_) (fun h287 => ?_)) a ha)))
     ·replace hF := ifP h287 hF
      refine W.seq fun K288 hK288 => W.seq fun K289 hK289 => W.region (wl_field (o := 1) (off' := 1) ff_53_1 rfl rfl rfl (wl_load_blk (i := 2) (vs := [v16]) (v := v16) tf_29 rfl rfl hS149 rfl rfl rfl (wl_lenr (e := ty_3) (l := u13.2.1) Try.underlying29 rfl rfl (hS149.own_ro (i := 1) rfl) (wl_move rfl rfl (WL.nil (fun a ha => hK289 _ _ (W.block ?_) a ha))))))
      refine W.loopk (fun m a w290 => ∃ (y293 : Int), St 389 [(1, v1_0), (5, (.pointer (some ⟨b23, 0, none⟩))), (12, v61), (16, (.bool u76.1)), (20, (.int .i64 u90.1)), (22, (.pointer (some ⟨b107, 0, none⟩))), (218, (.int .i64 (List.length u13.2.1 : Int))), (219, (.int .i64 y293))] a ∧ Below w0.heap.size w0 w290 ∧ Sep w0.heap.size w290 [R.own ty_63 F15 v14 u13.1, R.own ty_3 F17 v16 u13.2.1, R.blk b23 53 [v14, v16, (.int .i64 u13.2.2.1), (.int .i64 u13.2.2.2)], R.own ty_3 F62 v61 u60.1, R.own ty_63 F99 v98 u97.1.1, R.own ty_3 F101 v100 u97.1.2.1, R.blk b107 53 [v98, v100, (.int .i64 u97.1.2.2.1), (.int .i64 u97.1.2.2.2)]] ∧ F_laws_FnShows_L1 u13 u60 u97 k156 u76 u90 m y293 = some r) FU ?_ ?_
      ·
       exact fun a ha => ⟨0, ha.sub ⟨rfl, rfl, rfl, rfl, rfl, rfl, rfl, rfl, trivial⟩, hB148, (hS149.sel [0, 1, 2, 3, 4, 5, 6] rfl), hF⟩
      ·
       rintro m296 a w290 ⟨y293, ha, hB291, hS292, hF⟩ KL295 hKL295
       refine W.at ?_ ha
       cases m296 with
       | zero => exact noneE hF
       | succ m296 =>
        obtain ⟨nx294, hnx294⟩ : ∃ k, k = F_laws_FnShows_L1 u13 u60 u97 k156 u76 u90 m296 := ⟨_, rfl⟩
        rw [F_laws_FnShows_L1, ← hnx294] at hF
        refine W.seq fun K297 hK297 => W.region (wl_lss rfl rfl rfl (WL.nil (fun a ha => hK297 _ _ (W.seq fun K298 hK298 => (W.cond rfl (fun h299 => ?_) (fun h299 => ?_))) a ha)))
        ·replace hF := ifP h299 hF
         refine W.skip fun a ha => hK298 _ _ (W.seq fun K300 hK300 => (W.block (W.seq fun K301 hK301 => (W.region (wl_move rfl rfl (wl_assign rfl rfl (WL.nil (fun a ha => hK301 _ _ (W.seq fun K302 hK302 => (W.region (wl_load_blk (i := 2) (vs := [v14, v16, (.int .i64 u13.2.2.1), (.int .i64 u13.2.2.2)]) (v := (.agg #[v14, v16, (.int .i64 u13.2.2.1), (.int .i64 u13.2.2.2)])) tf_53 rfl rfl hS292 rfl rfl rfl (wl_move rfl rfl ?_)))) a ha)))))))) a ha
         obtain ⟨u303, hu303, hF⟩ := bindE hF
         refine wl_call rfl Try.call51 (C_impl_ClosePairs w290 u13 v14 (hS292.own_ro (i := 0) rfl) v16 (hS292.own_ro (i := 1) rfl) y293 _ hu303) rfl ?_
         rintro _ w306 ⟨v304, F305, rfl, hb307, hM310⟩
         refine ⟨_, rfl, ?_⟩
         have hB308 := hB291.trans (hb307.mono hB291.size)
         have hS309 := hS292.join hb307 hM310 hB291.size
         refine wl_move rfl rfl (wl_extract rfl rfl rfl (wl_extract rfl rfl rfl (wl_assign rfl rfl (wl_assign rfl rfl (WL.nil (fun a ha => hK302 _ _ (W.seq fun K311 hK311 => (W.region (wl_load_blk (i := 3) (vs := [v14, v16, (.int .i64 u13.2.2.1), (.int .i64 u13.2.2.2)]) (v := (.agg #[v14, v16, (.int .i64 u13.2.2.1), (.int .i64 u13.2.2.2)])) tf_53 rfl rfl hS309 rfl rfl rfl (wl_move rfl rfl ?_)))) a ha))))))
         obtain ⟨u312, hu312, hF⟩ := bindE hF
         refine wl_call rfl Try.call67 (C_spec_ClosePairs w306 u13 v14 (hS309.own_ro (i := 1) rfl) v16 (hS309.own_ro (i := 2) rfl) y293 _ hu312) rfl ?_
         rintro _ w315 ⟨v313, F314, rfl, hb316, hM319⟩
         refine ⟨_, rfl, ?_⟩
         have hB317 := hB308.trans (hb316.mono hB308.size)
         have hS318 := hS309.join hb316 hM319 hB308.size
         refine wl_move rfl rfl (wl_extract rfl rfl rfl (wl_extract rfl rfl rfl (wl_assign rfl rfl (wl_assign rfl rfl (WL.nil (fun a ha => hK311 _ _ (W.seq fun K320 hK320 => (W.region (wl_load_blk (i := 4) (vs := [v14, v16, (.int .i64 u13.2.2.1), (.int .i64 u13.2.2.2)]) (v := (.agg #[v14, v16, (.int .i64 u13.2.2.1), (.int .i64 u13.2.2.2)])) tf_53 rfl rfl hS318 rfl rfl rfl (wl_move rfl rfl ?_)))) a ha))))))
         obtain ⟨u321, hu321, hF⟩ := bindE hF
         refine wl_call rfl Try.call69 (C_impl_WideSteps w315 u13 v14 (hS318.own_ro (i := 2) rfl) v16 (hS318.own_ro (i := 3) rfl) y293 _ hu321) rfl ?_
         rintro _ w324 ⟨v322, F323, rfl, hb325, hM328⟩
         refine ⟨_, rfl, ?_⟩
         have hB326 := hB317.trans (hb325.mono hB317.size)
         have hS327 := hS318.join hb325 hM328 hB317.size
         refine wl_move rfl rfl (wl_extract rfl rfl rfl (wl_extract rfl rfl rfl (wl_assign rfl rfl (wl_assign rfl rfl (WL.nil (fun a ha => hK320 _ _ (W.seq fun K329 hK329 => (W.region (wl_load_blk (i := 5) (vs := [v14, v16, (.int .i64 u13.2.2.1), (.int .i64 u13.2.2.2)]) (v := (.agg #[v14, v16, (.int .i64 u13.2.2.1), (.int .i64 u13.2.2.2)])) tf_53 rfl rfl hS327 rfl rfl rfl (wl_move rfl rfl ?_)))) a ha))))))
         obtain ⟨u330, hu330, hF⟩ := bindE hF
         refine wl_call rfl Try.call70 (C_spec_WideSteps w324 u13 v14 (hS327.own_ro (i := 3) rfl) v16 (hS327.own_ro (i := 4) rfl) y293 _ hu330) rfl ?_
         rintro _ w333 ⟨v331, F332, rfl, hb334, hM337⟩
         refine ⟨_, rfl, ?_⟩
         have hB335 := hB326.trans (hb334.mono hB326.size)
         have hS336 := hS327.join hb334 hM337 hB326.size
         refine wl_move rfl rfl (wl_extract rfl rfl rfl (wl_extract rfl rfl rfl (wl_assign rfl rfl (wl_assign rfl rfl (WL.nil (fun a ha => hK329 _ _ (W.seq fun K338 hK338 => ?_) a ha))))))
         obtain ⟨k343, hk343, hF⟩ := jE1 hF
         have hJ344 : ∀ (y342 : Bool) (w339 : World) (_ : k343 y342 = some r) (_ : Below w0.heap.size w0 w339) (_ : Sep w0.heap.size w339 [R.own ty_63 F15 v14 u13.1, R.own ty_3 F17 v16 u13.2.1, R.blk b23 53 [v14, v16, (.int .i64 u13.2.2.1), (.int .i64 u13.2.2.2)], R.own ty_3 F62 v61 u60.1, R.own ty_63 F99 v98 u97.1.1, R.own ty_3 F101 v100 u97.1.2.1, R.blk b107 53 [v98, v100, (.int .i64 u97.1.2.2.1), (.int .i64 u97.1.2.2.2)]]), ∀ a, St 389 [(1, v1_0), (5, (.pointer (some ⟨b23, 0, none⟩))), (12, v61), (16, (.bool u76.1)), (20, (.int .i64 u90.1)), (22, (.pointer (some ⟨b107, 0, none⟩))), (218, (.int .i64 (List.length u13.2.1 : Int))), (219, (.int .i64 y293)), (283, (.bool y342))] a → K338 a w339 := by
          intro y342 w339 hF hB340 hS341
          subst hk343
          refine fun a ha => hK338 _ _ (W.cond rfl (fun h345 => ?_) (fun h345 => ?_)) a ha
          ·replace hF := ifP h345 hF
           refine W.seq fun K346 hK346 => W.region (wl_assign rfl rfl (WL.nil (fun a ha => hK346 _ _ (W.ret ?_) a ha)))
           have hr := Option.some.inj hF
           subst hr
           exact rets (vs := [(.bool false)]) hQ rfl ⟨rv_tmp rfl, trivial⟩ ⟨rfl, hB340⟩
          ·replace hF := ifN h345 hF
           refine W.skip fun a ha => hK300 _ _ (W.region (wl_add rfl rfl rfl (wl_move rfl rfl (WL.nil ?_)))) a ha
           rw [hnx294] at hF
           exact fun a ha => hKL295 a _ m296 (Nat.lt_succ_self m296) ⟨(w64 (y293 + 1)), ha.sub ⟨rfl, rfl, rfl, rfl, rfl, rfl, rfl, rfl, trivial⟩, hB340, (hS341.sel [0, 1, 2, 3, 4, 5, 6] rfl), hF⟩
         refine W.region (wl_move rfl rfl (wl_not rfl rfl (wl_move rfl rfl ?_)))
         rcases bE (!u303.2) with h347 | h347
         ·replace hF := ifP h347 hF
          refine wl_off rfl rfl rfl h347 (wl_off rfl rfl rfl h347 (wl_pick_t rfl rfl h347 rfl (wl_move rfl rfl (wl_off rfl rfl rfl rfl (wl_off rfl rfl rfl rfl (wl_off rfl rfl rfl rfl (wl_off rfl rfl rfl rfl (wl_pick_t rfl rfl rfl rfl (wl_move rfl rfl (wl_off rfl rfl rfl rfl (wl_off rfl rfl rfl rfl (wl_pick_t rfl rfl rfl rfl (wl_move rfl rfl ?_)))))))))))))
          refine wl_off rfl rfl rfl rfl (wl_off rfl rfl rfl rfl (wl_pick_t rfl rfl rfl rfl (wl_move rfl rfl (wl_off rfl rfl rfl rfl (wl_off rfl rfl rfl rfl (wl_off rfl rfl rfl rfl (wl_off rfl rfl rfl rfl (wl_pick_t rfl rfl rfl rfl (wl_move rfl rfl (wl_off rfl rfl rfl rfl (wl_off rfl rfl rfl rfl (wl_off rfl rfl rfl rfl (wl_off rfl rfl rfl rfl ?_)))))))))))))
          refine wl_off rfl rfl rfl rfl (wl_off rfl rfl rfl rfl (wl_off rfl rfl rfl rfl (wl_off rfl rfl rfl rfl (wl_off rfl rfl rfl rfl (wl_off rfl rfl rfl rfl (wl_pick_t rfl rfl rfl rfl (WL.nil ?_)))))))
          exact fun a ha => hJ344 (true) _ hF hB335 (hS336.sel [4, 5, 6, 7, 8, 9, 10] rfl) a (ha.sub ⟨rfl, rfl, rfl, rfl, rfl, rfl, rfl, rfl, rfl, trivial⟩)
         ·replace hF := ifN h347 hF
          refine wl_on rfl rfl h347 (wl_move rfl rfl (wl_on rfl rfl h347 (wl_not rfl rfl (wl_pick_f rfl rfl h347 rfl (wl_move rfl rfl ?_)))))
          rcases bE (!u312.2) with h348 | h348
          ·replace hF := ifP h348 hF
           refine wl_off rfl rfl rfl h348 (wl_off rfl rfl rfl h348 (wl_off rfl rfl rfl h348 (wl_off rfl rfl rfl h348 (wl_pick_t rfl rfl h348 rfl (wl_move rfl rfl (wl_off rfl rfl rfl rfl (wl_off rfl rfl rfl rfl (wl_pick_t rfl rfl rfl rfl (wl_move rfl rfl (wl_off rfl rfl rfl rfl (wl_off rfl rfl rfl rfl (wl_pick_t rfl rfl rfl rfl (wl_move rfl rfl ?_)))))))))))))
           refine wl_off rfl rfl rfl rfl (wl_off rfl rfl rfl rfl (wl_off rfl rfl rfl rfl (wl_off rfl rfl rfl rfl (wl_pick_t rfl rfl rfl rfl (wl_move rfl rfl (wl_off rfl rfl rfl rfl (wl_off rfl rfl rfl rfl (wl_off rfl rfl rfl rfl (wl_off rfl rfl rfl rfl (wl_off rfl rfl rfl rfl (wl_off rfl rfl rfl rfl (wl_off rfl rfl rfl rfl (wl_off rfl rfl rfl rfl ?_)))))))))))))
           refine wl_off rfl rfl rfl rfl (wl_off rfl rfl rfl rfl (wl_pick_t rfl rfl rfl rfl (WL.nil ?_)))
           exact fun a ha => hJ344 (true) _ hF hB335 (hS336.sel [4, 5, 6, 7, 8, 9, 10] rfl) a (ha.sub ⟨rfl, rfl, rfl, rfl, rfl, rfl, rfl, rfl, rfl, trivial⟩)
          ·replace hF := ifN h348 hF
           refine wl_on rfl rfl h348 (wl_move rfl rfl (wl_on rfl rfl h348 (wl_move rfl rfl (wl_on rfl rfl h348 ?_))))
           obtain ⟨u349, hu349, hF⟩ := bindE hF
           refine wl_call rfl Try.call68 (C_laws_sameLists w333 u303.1 v304 (hS336.own_ro (i := 3) rfl) u312.1 v313 (hS336.own_ro (i := 2) rfl) _ hu349) rfl ?_
           rintro _ w350 ⟨rfl, hb351⟩
           refine ⟨_, rfl, ?_⟩
           have hB352 := hB335.trans (hb351.mono hB335.size)
           have hS353 := hS336.below hb351
           refine wl_on rfl rfl h348 (wl_not rfl rfl (wl_pick_f rfl rfl h348 rfl (wl_move rfl rfl ?_)))
           rcases bE (!u349) with h355 | h355
           ·replace hF := ifP h355 hF
            refine wl_off rfl rfl rfl h355 (wl_off rfl rfl rfl h355 (wl_pick_t rfl rfl h355 rfl (wl_move rfl rfl (wl_off rfl rfl rfl rfl (wl_off rfl rfl rfl rfl (wl_pick_t rfl rfl rfl rfl (wl_move rfl rfl (wl_off rfl rfl rfl rfl (wl_off rfl rfl rfl rfl (wl_off rfl rfl rfl rfl (wl_off rfl rfl rfl rfl (wl_pick_t rfl rfl rfl rfl (wl_move rfl rfl ?_)))))))))))))
            refine wl_off rfl rfl rfl rfl (wl_off rfl rfl rfl rfl (wl_off rfl rfl rfl rfl (wl_off rfl rfl rfl rfl (wl_off rfl rfl rfl rfl (wl_off rfl rfl rfl rfl (wl_off rfl rfl rfl rfl (wl_off rfl rfl rfl rfl (wl_off rfl rfl rfl rfl (wl_off rfl rfl rfl rfl (wl_pick_t rfl rfl rfl rfl (WL.nil ?_)))))))))))
            exact fun a ha => hJ344 (true) _ hF hB352 (hS353.sel [4, 5, 6, 7, 8, 9, 10] rfl) a (ha.sub ⟨rfl, rfl, rfl, rfl, rfl, rfl, rfl, rfl, rfl, trivial⟩)
           ·replace hF := ifN h355 hF
            refine wl_on rfl rfl h355 (wl_move rfl rfl (wl_on rfl rfl h355 (wl_not rfl rfl (wl_pick_f rfl rfl h355 rfl (wl_move rfl rfl ?_)))))
            rcases bE (!u321.2) with h356 | h356
            ·replace hF := ifP h356 hF
             refine wl_off rfl rfl rfl h356 (wl_off rfl rfl rfl h356 (wl_pick_t rfl rfl h356 rfl (wl_move rfl rfl (wl_off rfl rfl rfl rfl (wl_off rfl rfl rfl rfl (wl_off rfl rfl rfl rfl (wl_off rfl rfl rfl rfl (wl_pick_t rfl rfl rfl rfl (wl_move rfl rfl (wl_off rfl rfl rfl rfl (wl_off rfl rfl rfl rfl (wl_off rfl rfl rfl rfl (wl_off rfl rfl rfl rfl ?_)))))))))))))
             refine wl_off rfl rfl rfl rfl (wl_off rfl rfl rfl rfl (wl_off rfl rfl rfl rfl (wl_off rfl rfl rfl rfl (wl_off rfl rfl rfl rfl (wl_off rfl rfl rfl rfl (wl_pick_t rfl rfl rfl rfl (WL.nil ?_)))))))
             exact fun a ha => hJ344 (true) _ hF hB352 (hS353.sel [4, 5, 6, 7, 8, 9, 10] rfl) a (ha.sub ⟨rfl, rfl, rfl, rfl, rfl, rfl, rfl, rfl, rfl, trivial⟩)
            ·replace hF := ifN h356 hF
             refine wl_on rfl rfl h356 (wl_move rfl rfl (wl_on rfl rfl h356 (wl_not rfl rfl (wl_pick_f rfl rfl h356 rfl (wl_move rfl rfl ?_)))))
             rcases bE (!u330.2) with h357 | h357
             ·replace hF := ifP h357 hF
              refine wl_off rfl rfl rfl h357 (wl_off rfl rfl rfl h357 (wl_off rfl rfl rfl h357 (wl_off rfl rfl rfl h357 (wl_pick_t rfl rfl h357 rfl (wl_move rfl rfl (wl_off rfl rfl rfl rfl (wl_off rfl rfl rfl rfl (wl_off rfl rfl rfl rfl (wl_off rfl rfl rfl rfl (wl_off rfl rfl rfl rfl (wl_off rfl rfl rfl rfl (wl_off rfl rfl rfl rfl (wl_off rfl rfl rfl rfl ?_)))))))))))))
              refine wl_off rfl rfl rfl rfl (wl_off rfl rfl rfl rfl (wl_pick_t rfl rfl rfl rfl (WL.nil ?_)))
              exact fun a ha => hJ344 (true) _ hF hB352 (hS353.sel [4, 5, 6, 7, 8, 9, 10] rfl) a (ha.sub ⟨rfl, rfl, rfl, rfl, rfl, rfl, rfl, rfl, rfl, trivial⟩)
             ·replace hF := ifN h357 hF
              refine wl_on rfl rfl h357 (wl_move rfl rfl (wl_on rfl rfl h357 (wl_move rfl rfl (wl_on rfl rfl h357 ?_))))
              obtain ⟨u358, hu358, hF⟩ := bindE hF
              refine wl_call rfl Try.call71 (C_laws_sameInts w350 u321.1 v322 (hS353.own_ro (i := 1) rfl) u330.1 v331 (hS353.own_ro (i := 0) rfl) _ hu358) rfl ?_
              rintro _ w359 ⟨rfl, hb360⟩
              refine ⟨_, rfl, ?_⟩
              have hB361 := hB352.trans (hb360.mono hB352.size)
              have hS362 := hS353.below hb360
              refine wl_on rfl rfl h357 (wl_not rfl rfl (wl_pick_f rfl rfl h357 rfl (wl_move rfl rfl ?_)))
              rcases bE (!u358) with h364 | h364
              ·replace hF := ifP h364 hF
               refine wl_off rfl rfl rfl h364 (wl_off rfl rfl rfl h364 (wl_off rfl rfl rfl h364 (wl_off rfl rfl rfl h364 (wl_off rfl rfl rfl h364 (wl_off rfl rfl rfl h364 (wl_off rfl rfl rfl h364 (wl_off rfl rfl rfl h364 (wl_off rfl rfl rfl h364 (wl_off rfl rfl rfl h364 (wl_pick_t rfl rfl h364 rfl (WL.nil ?_)))))))))))
               exact fun a ha => hJ344 (true) _ hF hB361 (hS362.sel [4, 5, 6, 7, 8, 9, 10] rfl) a (ha.sub ⟨rfl, rfl, rfl, rfl, rfl, rfl, rfl, rfl, rfl, trivial⟩)
              ·replace hF := ifN h364 hF
               refine wl_on rfl rfl h364 (wl_move rfl rfl (wl_on rfl rfl h364 (wl_move rfl rfl (wl_on rfl rfl h364 ?_))))
               obtain ⟨u365, hu365, hF⟩ := bindE hF
               refine wl_call rfl Try.call72 (C_laws_pIn w359 u60.1 v61 (hS362.own_ro (i := 7) rfl) y293 _ hu365) rfl ?_
               rintro _ w366 ⟨rfl, hb367⟩
               refine ⟨_, rfl, ?_⟩
               have hB368 := hB361.trans (hb367.mono hB361.size)
               have hS369 := hS362.below hb367
               refine wl_on rfl rfl h364 (wl_move rfl rfl (wl_on rfl rfl h364 (wl_lenr (e := ty_29) (l := u312.1) Try.underlying72 rfl rfl (hS369.own_ro (i := 2) rfl) (wl_on rfl rfl h364 (wl_move rfl rfl (wl_on rfl rfl h364 (wl_lenr (e := ty_3) (l := u330.1) Try.underlying29 rfl rfl (hS369.own_ro (i := 0) rfl) (wl_on rfl rfl h364 (wl_add rfl rfl rfl (wl_on rfl rfl h364 (wl_gtr rfl rfl rfl (wl_on rfl rfl h364 (wl_neqb Try.underlying4 rfl rfl rfl ?_)))))))))))))
               refine wl_pick_f rfl rfl h364 rfl (WL.nil ?_)
               exact fun a ha => hJ344 ((u365 != (decide (0 < (w64 ((List.length u312.1 : Int) + (List.length u330.1 : Int))))))) _ hF hB368 (hS369.sel [4, 5, 6, 7, 8, 9, 10] rfl) a (ha.sub ⟨rfl, rfl, rfl, rfl, rfl, rfl, rfl, rfl, rfl, trivial⟩)
        ·replace hF := ifN h299 hF
         refine W.exit fun a ha => hK288 _ _ (W.seq fun K371 hK371 => (W.region (wl_load_blk (i := 6) (vs := [v98, v100, (.int .i64 u97.1.2.2.1), (.int .i64 u97.1.2.2.2)]) (v := (.agg #[v98, v100, (.int .i64 u97.1.2.2.1), (.int .i64 u97.1.2.2.2)])) tf_53 rfl rfl hS292 rfl rfl rfl ?_))) a ha
         obtain ⟨u372, hu372, hF⟩ := bindE hF
         refine wl_call rfl Try.call78 (C_impl_CanPublish w290 u97.1 v98 (hS292.own_ro (i := 4) rfl) v100 (hS292.own_ro (i := 5) rfl) _ hu372) rfl ?_
         rintro _ w373 ⟨rfl, hb374⟩
         refine ⟨_, rfl, ?_⟩
         have hB375 := hB291.trans (hb374.mono hB291.size)
         have hS376 := hS292.below hb374
         refine wl_move rfl rfl (wl_extract rfl rfl rfl (wl_extract rfl rfl rfl (wl_assign rfl rfl (wl_assign rfl rfl (WL.nil (fun a ha => hK371 _ _ (W.seq fun K378 hK378 => (W.region (wl_load_blk (i := 6) (vs := [v98, v100, (.int .i64 u97.1.2.2.1), (.int .i64 u97.1.2.2.2)]) (v := (.agg #[v98, v100, (.int .i64 u97.1.2.2.1), (.int .i64 u97.1.2.2.2)])) tf_53 rfl rfl hS376 rfl rfl rfl ?_))) a ha))))))
         obtain ⟨u379, hu379, hF⟩ := bindE hF
         refine wl_call rfl Try.call81 (C_impl_ReverseShow w373 u97.1 v98 (hS376.own_ro (i := 4) rfl) v100 (hS376.own_ro (i := 5) rfl) _ hu379) rfl ?_
         rintro _ w384 ⟨v380, F381, v382, F383, rfl, hb385, hM388⟩
         refine ⟨_, rfl, ?_⟩
         have hB386 := hB375.trans (hb385.mono hB375.size)
         have hS387 := hS376.join hb385 hM388 hB375.size
         refine wl_move rfl rfl (wl_extract rfl rfl rfl (wl_extract rfl rfl rfl (wl_alloc (cs := [(.slice none 0 0), (.slice none 0 0), (.int .i64 0), (.int .i64 0)]) tf_53 rfl rfl hB386 hS387 ?_)))
         intro b389 w390 hb391 hB392 hS393
         refine wl_store_blk (i := 0) (vs := [v380, v382, (.int .i64 u379.1.2.2.1), (.int .i64 u379.1.2.2.2)]) (cs' := [v380, v382, (.int .i64 u379.1.2.2.1), (.int .i64 u379.1.2.2.2)]) tf_53 rfl rfl rfl rfl hB392 hS393 rfl rfl ⟨(hS393.own_ro (i := 1) rfl).one, (hS393.own_ro (i := 2) rfl).one, rfl, rfl, trivial⟩ rfl ?_
         intro w394 hk397 hB395 hS396
         refine wl_assign rfl rfl (WL.nil (fun a ha => hK378 _ _ (W.seq fun K398 hK398 => ?_) a ha))
         obtain ⟨k403, hk403, hF⟩ := jE1 hF
         have hJ404 : ∀ (y402 : Bool) (w399 : World) (_ : k403 y402 = some r) (_ : Below w0.heap.size w0 w399) (_ : Sep w0.heap.size w399 []), ∀ a, St 389 [(1, v1_0), (318, (.bool y402))] a → K398 a w399 := by
          intro y402 w399 hF hB400 hS401
          subst hk403
          refine fun a ha => hK398 _ _ (W.cond rfl (fun h405 => ?_) (fun h405 => ?_)) a ha
          ·replace hF := ifP h405 hF
           refine W.seq fun K406 hK406 => W.region (wl_assign rfl rfl (WL.nil (fun a ha => hK406 _ _ (W.ret ?_) a ha)))
           have hr := Option.some.inj hF
           subst hr
           exact rets (vs := [(.bool false)]) hQ rfl ⟨rv_tmp rfl, trivial⟩ ⟨rfl, hB400⟩
          ·replace hF := ifN h405 hF
           refine W.skip ?_
           exact fun a ha => hJ157 _ hF hB400 (hS401.sel [] rfl) a (ha.sub ⟨rfl, trivial⟩)
         refine W.region (wl_move rfl rfl (wl_not rfl rfl (wl_move rfl rfl ?_)))
         rcases bE (!u372.2) with h407 | h407
         ·replace hF := ifP h407 hF
          refine wl_off rfl rfl rfl h407 (wl_off rfl rfl rfl h407 (wl_off rfl rfl rfl h407 (wl_pick_t rfl rfl h407 rfl (wl_move rfl rfl (wl_off rfl rfl rfl rfl (wl_off rfl rfl rfl rfl (wl_pick_t rfl rfl rfl rfl (wl_move rfl rfl (wl_off rfl rfl rfl rfl (wl_off rfl rfl rfl rfl (wl_off rfl rfl rfl rfl (wl_off rfl rfl rfl rfl (wl_pick_t rfl rfl rfl rfl ?_)))))))))))))
          refine wl_move rfl rfl (wl_off rfl rfl rfl rfl (wl_off rfl rfl rfl rfl (wl_off rfl rfl rfl rfl (wl_off rfl rfl rfl rfl (wl_off rfl rfl rfl rfl (wl_pick_t rfl rfl rfl rfl (WL.nil ?_)))))))
          exact fun a ha => hJ404 (true) _ hF hB395 (hS396.sel [] rfl) a (ha.sub ⟨rfl, rfl, trivial⟩)
         ·replace hF := ifN h407 hF
          refine wl_on rfl rfl h407 (wl_move rfl rfl (wl_on rfl rfl h407 (wl_move rfl rfl (wl_on rfl rfl h407 (wl_neqb Try.underlying4 rfl rfl rfl (wl_pick_f rfl rfl h407 rfl (wl_move rfl rfl ?_)))))))
          rcases bE (u372.1 != u76.1) with h408 | h408
          ·replace hF := ifP h408 hF
           refine wl_off rfl rfl rfl h408 (wl_off rfl rfl rfl h408 (wl_pick_t rfl rfl h408 rfl (wl_move rfl rfl (wl_off rfl rfl rfl rfl (wl_off rfl rfl rfl rfl (wl_off rfl rfl rfl rfl (wl_off rfl rfl rfl rfl (wl_pick_t rfl rfl rfl rfl (wl_move rfl rfl (wl_off rfl rfl rfl rfl (wl_off rfl rfl rfl rfl (wl_off rfl rfl rfl rfl (wl_off rfl rfl rfl rfl ?_)))))))))))))
           refine wl_off rfl rfl rfl rfl (wl_pick_t rfl rfl rfl rfl (WL.nil ?_))
           exact fun a ha => hJ404 (true) _ hF hB395 (hS396.sel [] rfl) a (ha.sub ⟨rfl, rfl, trivial⟩)
          ·replace hF := ifN h408 hF
           refine wl_on rfl rfl h408 (wl_move rfl rfl (wl_on rfl rfl h408 (wl_not rfl rfl (wl_pick_f rfl rfl h408 rfl (wl_move rfl rfl ?_)))))
           rcases bE (!u379.2) with h409 | h409
           ·replace hF := ifP h409 hF
            refine wl_off rfl rfl rfl h409 (wl_off rfl rfl rfl h409 (wl_off rfl rfl rfl h409 (wl_off rfl rfl rfl h409 (wl_pick_t rfl rfl h409 rfl (wl_move rfl rfl (wl_off rfl rfl rfl rfl (wl_off rfl rfl rfl rfl (wl_off rfl rfl rfl rfl (wl_off rfl rfl rfl rfl (wl_off rfl rfl rfl rfl (wl_pick_t rfl rfl rfl rfl (WL.nil ?_))))))))))))
            exact fun a ha => hJ404 (true) _ hF hB395 (hS396.sel [] rfl) a (ha.sub ⟨rfl, rfl, trivial⟩)
           ·replace hF := ifN h409 hF
            refine wl_on rfl rfl h409 (wl_load_blk (i := 0) (vs := [v380, v382, (.int .i64 u379.1.2.2.1), (.int .i64 u379.1.2.2.2)]) (v := (.agg #[v380, v382, (.int .i64 u379.1.2.2.1), (.int .i64 u379.1.2.2.2)])) tf_53 rfl rfl hS396 rfl rfl rfl (wl_on rfl rfl h409 (wl_load_blk (i := 5) (vs := [v14, v16, (.int .i64 u13.2.2.1), (.int .i64 u13.2.2.2)]) (v := (.agg #[v14, v16, (.int .i64 u13.2.2.1), (.int .i64 u13.2.2.2)])) tf_53 rfl rfl hS396 rfl rfl rfl (wl_on rfl rfl h409 ?_))))
            obtain ⟨u410, hu410, hF⟩ := bindE hF
            refine wl_call rfl Try.call58 (C_laws_pSameShow w394 u379.1 v380 (hS396.own_ro (i := 1) rfl) v382 (hS396.own_ro (i := 2) rfl) u13 v14 (hS396.own_ro (i := 3) rfl) v16 (hS396.own_ro (i := 4) rfl) _ hu410) rfl ?_
            rintro _ w411 ⟨rfl, hb412⟩
            refine ⟨_, rfl, ?_⟩
            have hB413 := hB395.trans (hb412.mono hB395.size)
            have hS414 := hS396.below hb412
            refine wl_on rfl rfl h409 (wl_not rfl rfl (wl_pick_f rfl rfl h409 rfl (wl_move rfl rfl ?_)))
            rcases bE (!u410) with h416 | h416
            ·replace hF := ifP h416 hF
             refine wl_off rfl rfl rfl h416 (wl_off rfl rfl rfl h416 (wl_off rfl rfl rfl h416 (wl_off rfl rfl rfl h416 (wl_off rfl rfl rfl h416 (wl_pick_t rfl rfl h416 rfl (WL.nil ?_))))))
             exact fun a ha => hJ404 (true) _ hF hB413 (hS414.sel [] rfl) a (ha.sub ⟨rfl, rfl, trivial⟩)
            ·replace hF := ifN h416 hF
             refine wl_on rfl rfl h416 (wl_field (o := 1) (off' := 1) ff_53_1 rfl rfl rfl (wl_on rfl rfl h416 (wl_load_blk (i := 5) (vs := [v16]) (v := v16) tf_29 rfl rfl hS414 rfl rfl rfl (wl_on rfl rfl h416 ?_))))
             obtain ⟨u417, hu417, hF⟩ := bindE hF
             refine wl_call rfl Try.call86 (C_laws_pSum w411 u13.2.1 v16 (hS414.own_ro (i := 4) rfl) _ hu417) rfl ?_
             rintro _ w418 ⟨rfl, hb419⟩
             refine ⟨_, rfl, ?_⟩
             have hB420 := hB413.trans (hb419.mono hB413.size)
             have hS421 := hS414.below hb419
             refine wl_on rfl rfl h416 (wl_move rfl rfl (wl_on rfl rfl h416 (wl_neq rfl rfl rfl (wl_pick_f rfl rfl h416 rfl (WL.nil ?_)))))
             exact fun a ha => hJ404 ((u417 != u90.1)) _ hF hB420 (hS421.sel [] rfl) a (ha.sub ⟨rfl, rfl, trivial⟩)
     ·replace hF := ifN h287 hF
      refine W.skip ?_
      exact fun a ha => hJ157 _ hF hB148 (hS149.sel [] rfl) a (ha.sub ⟨rfl, trivial⟩)
    refine W.seq fun K423 hK423 => W.region (wl_move rfl rfl (WL.nil (fun a ha => hK423 _ _ (W.cond rfl (fun h424 => ?_) (fun h424 => ?_)) a ha)))
    ·replace hF := ifP h424 hF
     refine W.seq fun K425 hK425 => W.region (wl_move rfl rfl ?_)
     obtain ⟨u426, hu426, hF⟩ := bindE hF
     refine wl_call rfl Try.call84 (C_impl_ChartsOf w138 u33.1 v34 (hS140.own_ro (i := 3) rfl) _ hu426) rfl ?_
     rintro _ w431 ⟨v427, F428, v429, F430, rfl, hb432, hM435⟩
     refine ⟨_, rfl, ?_⟩
     have hB433 := hB139.trans (hb432.mono hB139.size)
     have hS434 := hS140.join hb432 hM435 hB139.size
     refine wl_move rfl rfl (wl_extract rfl rfl rfl (wl_extract rfl rfl rfl (wl_extract rfl rfl rfl (wl_assign rfl rfl (wl_assign rfl rfl (wl_assign rfl rfl (WL.nil (fun a ha => hK425 _ _ (W.seq fun K436 hK436 => ?_) a ha))))))))
     obtain ⟨k441, hk441, hF⟩ := jE1 hF
     have hJ442 : ∀ (y440 : Bool) (w437 : World) (_ : k441 y440 = some r) (_ : Below w0.heap.size w0 w437) (_ : Sep w0.heap.size w437 [R.own ty_63 F15 v14 u13.1, R.own ty_3 F17 v16 u13.2.1, R.blk b23 53 [v14, v16, (.int .i64 u13.2.2.1), (.int .i64 u13.2.2.2)], R.own ty_3 F62 v61 u60.1, R.own ty_63 F99 v98 u97.1.1, R.own ty_3 F101 v100 u97.1.2.1, R.blk b107 53 [v98, v100, (.int .i64 u97.1.2.2.1), (.int .i64 u97.1.2.2.2)]]), ∀ a, St 389 [(1, v1_0), (5, (.pointer (some ⟨b23, 0, none⟩))), (11, (.bool u51.2)), (12, v61), (16, (.bool u76.1)), (20, (.int .i64 u90.1)), (22, (.pointer (some ⟨b107, 0, none⟩))), (214, (.bool y440))] a → K436 a w437 := by
      intro y440 w437 hF hB438 hS439
      subst hk441
      refine fun a ha => hK436 _ _ (W.cond rfl (fun h443 => ?_) (fun h443 => ?_)) a ha
      ·replace hF := ifP h443 hF
       refine W.seq fun K444 hK444 => W.region (wl_assign rfl rfl (WL.nil (fun a ha => hK444 _ _ (W.ret ?_) a ha)))
       have hr := Option.some.inj hF
       subst hr
       exact rets (vs := [(.bool false)]) hQ rfl ⟨rv_tmp rfl, trivial⟩ ⟨rfl, hB438⟩
      ·replace hF := ifN h443 hF
       refine W.skip ?_
       exact fun a ha => hJ151 _ hF hB438 (hS439.sel [0, 1, 2, 3, 4, 5, 6] rfl) a (ha.sub ⟨rfl, rfl, rfl, rfl, rfl, rfl, rfl, trivial⟩)
     refine W.region (wl_move rfl rfl (wl_not rfl rfl (wl_move rfl rfl ?_)))
     rcases bE (!u426.2.2) with h445 | h445
     ·replace hF := ifP h445 hF
      refine wl_off rfl rfl rfl h445 (wl_off rfl rfl rfl h445 (wl_off rfl rfl rfl h445 (wl_off rfl rfl rfl h445 (wl_off rfl rfl rfl h445 (wl_pick_t rfl rfl h445 rfl (wl_move rfl rfl (wl_off rfl rfl rfl rfl (wl_off rfl rfl rfl rfl (wl_off rfl rfl rfl rfl (wl_off rfl rfl rfl rfl (wl_off rfl rfl rfl rfl (wl_pick_t rfl rfl rfl rfl (WL.nil ?_)))))))))))))
      exact fun a ha => hJ442 (true) _ hF hB433 (hS434.sel [2, 3, 4, 6, 7, 8, 9] rfl) a (ha.sub ⟨rfl, rfl, rfl, rfl, rfl, rfl, rfl, rfl, trivial⟩)
     ·replace hF := ifN h445 hF
      refine wl_on rfl rfl h445 (wl_move rfl rfl (wl_on rfl rfl h445 (wl_field (o := 0) (off' := 0) ff_53_0 rfl rfl rfl (wl_on rfl rfl h445 (wl_load_blk (i := 4) (vs := [v14]) (v := v14) tf_51 rfl rfl hS434 rfl rfl rfl (wl_on rfl rfl h445 ?_))))))
      obtain ⟨u446, hu446, hF⟩ := bindE hF
      refine wl_call rfl Try.call85 (C_laws_pSameCharts w431 u426.1 v427 (hS434.own_ro (i := 0) rfl) u13.1 v14 (hS434.own_ro (i := 2) rfl) _ hu446) rfl ?_
      rintro _ w447 ⟨rfl, hb448⟩
      refine ⟨_, rfl, ?_⟩
      have hB449 := hB433.trans (hb448.mono hB433.size)
      have hS450 := hS434.below hb448
      refine wl_on rfl rfl h445 (wl_not rfl rfl (wl_pick_f rfl rfl h445 rfl (wl_move rfl rfl ?_)))
      rcases bE (!u446) with h452 | h452
      ·replace hF := ifP h452 hF
       refine wl_off rfl rfl rfl h452 (wl_off rfl rfl rfl h452 (wl_off rfl rfl rfl h452 (wl_off rfl rfl rfl h452 (wl_off rfl rfl rfl h452 (wl_pick_t rfl rfl h452 rfl (WL.nil ?_))))))
       exact fun a ha => hJ442 (true) _ hF hB449 (hS450.sel [2, 3, 4, 6, 7, 8, 9] rfl) a (ha.sub ⟨rfl, rfl, rfl, rfl, rfl, rfl, rfl, rfl, trivial⟩)
      ·replace hF := ifN h452 hF
       refine wl_on rfl rfl h452 (wl_move rfl rfl (wl_on rfl rfl h452 (wl_field (o := 1) (off' := 1) ff_53_1 rfl rfl rfl (wl_on rfl rfl h452 (wl_load_blk (i := 4) (vs := [v16]) (v := v16) tf_29 rfl rfl hS450 rfl rfl rfl (wl_on rfl rfl h452 ?_))))))
       obtain ⟨u453, hu453, hF⟩ := bindE hF
       refine wl_call rfl Try.call71 (C_laws_sameInts w447 u426.2.1 v429 (hS450.own_ro (i := 1) rfl) u13.2.1 v16 (hS450.own_ro (i := 3) rfl) _ hu453) rfl ?_
       rintro _ w454 ⟨rfl, hb455⟩
       refine ⟨_, rfl, ?_⟩
       have hB456 := hB449.trans (hb455.mono hB449.size)
       have hS457 := hS450.below hb455
       refine wl_on rfl rfl h452 (wl_not rfl rfl (wl_pick_f rfl rfl h452 rfl (WL.nil ?_)))
       exact fun a ha => hJ442 ((!u453)) _ hF hB456 (hS457.sel [2, 3, 4, 6, 7, 8, 9] rfl) a (ha.sub ⟨rfl, rfl, rfl, rfl, rfl, rfl, rfl, rfl, trivial⟩)
    ·replace hF := ifN h424 hF
     refine W.skip ?_
     exact fun a ha => hJ151 _ hF hB139 (hS140.sel [0, 1, 2, 4, 5, 6, 7] rfl) a (ha.sub ⟨rfl, rfl, rfl, rfl, rfl, rfl, rfl, trivial⟩)
  refine W.region (wl_move rfl rfl (wl_move rfl rfl (wl_neqb Try.underlying4 rfl rfl rfl (wl_move rfl rfl ?_))))
  rcases bE (u33.2 != u42.2) with h459 | h459
  ·replace hF := ifP h459 hF
   refine wl_off rfl rfl rfl h459 (wl_off rfl rfl rfl h459 (wl_off rfl rfl rfl h459 (wl_off rfl rfl rfl h459 (wl_pick_t rfl rfl h459 rfl (wl_move rfl rfl (wl_off rfl rfl rfl rfl (wl_off rfl rfl rfl rfl (wl_off rfl rfl rfl rfl (wl_pick_t rfl rfl rfl rfl (wl_move rfl rfl (wl_off rfl rfl rfl rfl (wl_off rfl rfl rfl rfl (wl_off rfl rfl rfl rfl ?_)))))))))))))
   refine wl_off rfl rfl rfl rfl (wl_pick_t rfl rfl rfl rfl (wl_move rfl rfl (wl_off rfl rfl rfl rfl (wl_off rfl rfl rfl rfl (wl_off rfl rfl rfl rfl (wl_pick_t rfl rfl rfl rfl (wl_move rfl rfl (wl_off rfl rfl rfl rfl (wl_off rfl rfl rfl rfl (wl_off rfl rfl rfl rfl (wl_pick_t rfl rfl rfl rfl (wl_move rfl rfl (wl_off rfl rfl rfl rfl ?_)))))))))))))
   refine wl_off rfl rfl rfl rfl (wl_off rfl rfl rfl rfl (wl_pick_t rfl rfl rfl rfl (wl_move rfl rfl (wl_off rfl rfl rfl rfl (wl_off rfl rfl rfl rfl (wl_off rfl rfl rfl rfl (wl_pick_t rfl rfl rfl rfl (wl_move rfl rfl (wl_off rfl rfl rfl rfl (wl_off rfl rfl rfl rfl (wl_off rfl rfl rfl rfl (wl_pick_t rfl rfl rfl rfl (wl_move rfl rfl ?_)))))))))))))
   refine wl_off rfl rfl rfl rfl (wl_off rfl rfl rfl rfl (wl_off rfl rfl rfl rfl (wl_off rfl rfl rfl rfl (wl_pick_t rfl rfl rfl rfl (wl_move rfl rfl (wl_off rfl rfl rfl rfl (wl_off rfl rfl rfl rfl (wl_off rfl rfl rfl rfl (wl_pick_t rfl rfl rfl rfl (wl_move rfl rfl (wl_off rfl rfl rfl rfl (wl_off rfl rfl rfl rfl (wl_off rfl rfl rfl rfl ?_)))))))))))))
   refine wl_pick_t rfl rfl rfl rfl (wl_move rfl rfl (wl_off rfl rfl rfl rfl (wl_off rfl rfl rfl rfl (wl_off rfl rfl rfl rfl (wl_pick_t rfl rfl rfl rfl (wl_move rfl rfl (wl_off rfl rfl rfl rfl (wl_off rfl rfl rfl rfl (wl_off rfl rfl rfl rfl (wl_off rfl rfl rfl rfl (wl_pick_t rfl rfl rfl rfl (wl_move rfl rfl (wl_off rfl rfl rfl rfl ?_)))))))))))))
   refine wl_off rfl rfl rfl rfl (wl_off rfl rfl rfl rfl (wl_offu rfl rfl rfl (wl_offu rfl rfl rfl (wl_offu rfl rfl rfl (wl_off rfl rfl rfl rfl (wl_off rfl rfl rfl rfl (wl_pick_t rfl rfl rfl rfl (wl_move rfl rfl (wl_off rfl rfl rfl rfl (wl_off rfl rfl rfl rfl (wl_off rfl rfl rfl rfl (wl_pick_t rfl rfl rfl rfl (WL.nil ?_)))))))))))))
   exact fun a ha => hJ143 (true) _ hF hB133 (hS134.sel [11, 12, 10, 9, 6, 4, 5, 3] rfl) a (ha.sub ⟨rfl, rfl, rfl, rfl, rfl, rfl, rfl, rfl, rfl, rfl, trivial⟩)
  ·replace hF := ifN h459 hF
   refine wl_on rfl rfl h459 (wl_move rfl rfl (wl_on rfl rfl h459 (wl_move rfl rfl (wl_on rfl rfl h459 ?_))))
   obtain ⟨u460, hu460, hF⟩ := bindE hF
   refine wl_call rfl Try.call83 (C_laws_pSameSheets w132 u33.1 v34 (hS134.own_ro (i := 9) rfl) u42.1 v43 (hS134.own_ro (i := 8) rfl) _ hu460) rfl ?_
   rintro _ w461 ⟨rfl, hb462⟩
   refine ⟨_, rfl, ?_⟩
   have hB463 := hB133.trans (hb462.mono hB133.size)
   have hS464 := hS134.below hb462
   refine wl_on rfl rfl h459 (wl_not rfl rfl (wl_pick_f rfl rfl h459 rfl (wl_move rfl rfl ?_)))
   rcases bE (!u460) with h466 | h466
   ·replace hF := ifP h466 hF
    refine wl_off rfl rfl rfl h466 (wl_off rfl rfl rfl h466 (wl_off rfl rfl rfl h466 (wl_pick_t rfl rfl h466 rfl (wl_move rfl rfl (wl_off rfl rfl rfl rfl (wl_off rfl rfl rfl rfl (wl_off rfl rfl rfl rfl (wl_off rfl rfl rfl rfl (wl_pick_t rfl rfl rfl rfl (wl_move rfl rfl (wl_off rfl rfl rfl rfl (wl_off rfl rfl rfl rfl (wl_off rfl rfl rfl rfl ?_)))))))))))))
    refine wl_pick_t rfl rfl rfl rfl (wl_move rfl rfl (wl_off rfl rfl rfl rfl (wl_off rfl rfl rfl rfl (wl_off rfl rfl rfl rfl (wl_pick_t rfl rfl rfl rfl (wl_move rfl rfl (wl_off rfl rfl rfl rfl (wl_off rfl rfl rfl rfl (wl_off rfl rfl rfl rfl (wl_pick_t rfl rfl rfl rfl (wl_move rfl rfl (wl_off rfl rfl rfl rfl (wl_off rfl rfl rfl rfl ?_)))))))))))))
    refine wl_off rfl rfl rfl rfl (wl_pick_t rfl rfl rfl rfl (wl_move rfl rfl (wl_off rfl rfl rfl rfl (wl_off rfl rfl rfl rfl (wl_off rfl rfl rfl rfl (wl_pick_t rfl rfl rfl rfl (wl_move rfl rfl (wl_off rfl rfl rfl rfl (wl_off rfl rfl rfl rfl (wl_off rfl rfl rfl rfl (wl_off rfl rfl rfl rfl (wl_pick_t rfl rfl rfl rfl (wl_move rfl rfl ?_)))))))))))))
    refine wl_off rfl rfl rfl rfl (wl_off rfl rfl rfl rfl (wl_off rfl rfl rfl rfl (wl_pick_t rfl rfl rfl rfl (wl_move rfl rfl (wl_off rfl rfl rfl rfl (wl_off rfl rfl rfl rfl (wl_off rfl rfl rfl rfl (wl_pick_t rfl rfl rfl rfl (wl_move rfl rfl (wl_off rfl rfl rfl rfl (wl_off rfl rfl rfl rfl (wl_off rfl rfl rfl rfl (wl_pick_t rfl rfl rfl rfl ?_)))))))))))))
    refine wl_move rfl rfl (wl_off rfl rfl rfl rfl (wl_off rfl rfl rfl rfl (wl_off rfl rfl rfl rfl (wl_off rfl rfl rfl rfl (wl_pick_t rfl rfl rfl rfl (wl_move rfl rfl (wl_off rfl rfl rfl rfl (wl_off rfl rfl rfl rfl (wl_off rfl rfl rfl rfl (wl_offu rfl rfl rfl (wl_offu rfl rfl rfl (wl_offu rfl rfl rfl (wl_off rfl rfl rfl rfl ?_)))))))))))))
    refine wl_off rfl rfl rfl rfl (wl_pick_t rfl rfl rfl rfl (wl_move rfl rfl (wl_off rfl rfl rfl rfl (wl_off rfl rfl rfl rfl (wl_off rfl rfl rfl rfl (wl_pick_t rfl rfl rfl rfl (WL.nil ?_)))))))
    exact fun a ha => hJ143 (true) _ hF hB463 (hS464.sel [11, 12, 10, 9, 6, 4, 5, 3] rfl) a (ha.sub ⟨rfl, rfl, rfl, rfl, rfl, rfl, rfl, rfl, rfl, rfl, trivial⟩)
   ·replace hF := ifN h466 hF
    refine wl_on rfl rfl h466 (wl_move rfl rfl (wl_on rfl rfl h466 (wl_move rfl rfl (wl_on rfl rfl h466 (wl_neqb Try.underlying4 rfl rfl rfl (wl_pick_f rfl rfl h466 rfl (wl_move rfl rfl ?_)))))))
    rcases bE (u51.2 != u60.2) with h467 | h467
    ·replace hF := ifP h467 hF
     refine wl_off rfl rfl rfl h467 (wl_off rfl rfl rfl h467 (wl_off rfl rfl rfl h467 (wl_off rfl rfl rfl h467 (wl_pick_t rfl rfl h467 rfl (wl_move rfl rfl (wl_off rfl rfl rfl rfl (wl_off rfl rfl rfl rfl (wl_off rfl rfl rfl rfl (wl_pick_t rfl rfl rfl rfl (wl_move rfl rfl (wl_off rfl rfl rfl rfl (wl_off rfl rfl rfl rfl (wl_off rfl rfl rfl rfl ?_)))))))))))))
     refine wl_pick_t rfl rfl rfl rfl (wl_move rfl rfl (wl_off rfl rfl rfl rfl (wl_off rfl rfl rfl rfl (wl_off rfl rfl rfl rfl (wl_pick_t rfl rfl rfl rfl (wl_move rfl rfl (wl_off rfl rfl rfl rfl (wl_off rfl rfl rfl rfl (wl_off rfl rfl rfl rfl (wl_pick_t rfl rfl rfl rfl (wl_move rfl rfl (wl_off rfl rfl rfl rfl (wl_off rfl rfl rfl rfl ?_)))))))))))))
     refine wl_off rfl rfl rfl rfl (wl_pick_t rfl rfl rfl rfl (wl_move rfl rfl (wl_off rfl rfl rfl rfl (wl_off rfl rfl rfl rfl (wl_off rfl rfl rfl rfl (wl_off rfl rfl rfl rfl (wl_pick_t rfl rfl rfl rfl (wl_move rfl rfl (wl_off rfl rfl rfl rfl (wl_off rfl rfl rfl rfl (wl_off rfl rfl rfl rfl (wl_pick_t rfl rfl rfl rfl (wl_move rfl rfl ?_)))))))))))))
     refine wl_off rfl rfl rfl rfl (wl_off rfl rfl rfl rfl (wl_off rfl rfl rfl rfl (wl_pick_t rfl rfl rfl rfl (wl_move rfl rfl (wl_off rfl rfl rfl rfl (wl_off rfl rfl rfl rfl (wl_off rfl rfl rfl rfl (wl_pick_t rfl rfl rfl rfl (wl_move rfl rfl (wl_off rfl rfl rfl rfl (wl_off rfl rfl rfl rfl (wl_off rfl rfl rfl rfl (wl_off rfl rfl rfl rfl ?_)))))))))))))
     refine wl_pick_t rfl rfl rfl rfl (wl_move rfl rfl (wl_off rfl rfl rfl rfl (wl_off rfl rfl rfl rfl (wl_off rfl rfl rfl rfl (wl_offu rfl rfl rfl (wl_offu rfl rfl rfl (wl_offu rfl rfl rfl (wl_off rfl rfl rfl rfl (wl_off rfl rfl rfl rfl (wl_pick_t rfl rfl rfl rfl (wl_move rfl rfl (wl_off rfl rfl rfl rfl (wl_off rfl rfl rfl rfl ?_)))))))))))))
     refine wl_off rfl rfl rfl rfl (wl_pick_t rfl rfl rfl rfl (WL.nil ?_))
     exact fun a ha => hJ143 (true) _ hF hB463 (hS464.sel [11, 12, 10, 9, 6, 4, 5, 3] rfl) a (ha.sub ⟨rfl, rfl, rfl, rfl, rfl, rfl, rfl, rfl, rfl, rfl, trivial⟩)
    ·replace hF := ifN h467 hF
     refine wl_on rfl rfl h467 (wl_move rfl rfl (wl_on rfl rfl h467 (wl_move rfl rfl (wl_on rfl rfl h467 ?_))))
     obtain ⟨u468, hu468, hF⟩ := bindE hF
     refine wl_call rfl Try.call71 (C_laws_sameInts w461 u51.1 v52 (hS464.own_ro (i := 7) rfl) u60.1 v61 (hS464.own_ro (i := 6) rfl) _ hu468) rfl ?_
     rintro _ w469 ⟨rfl, hb470⟩
     refine ⟨_, rfl, ?_⟩
     have hB471 := hB463.trans (hb470.mono hB463.size)
     have hS472 := hS464.below hb470
     refine wl_on rfl rfl h467 (wl_not rfl rfl (wl_pick_f rfl rfl h467 rfl (wl_move rfl rfl ?_)))
     rcases bE (!u468) with h474 | h474
     ·replace hF := ifP h474 hF
      refine wl_off rfl rfl rfl h474 (wl_off rfl rfl rfl h474 (wl_off rfl rfl rfl h474 (wl_pick_t rfl rfl h474 rfl (wl_move rfl rfl (wl_off rfl rfl rfl rfl (wl_off rfl rfl rfl rfl (wl_off rfl rfl rfl rfl (wl_pick_t rfl rfl rfl rfl (wl_move rfl rfl (wl_off rfl rfl rfl rfl (wl_off rfl rfl rfl rfl (wl_off rfl rfl rfl rfl (wl_pick_t rfl rfl rfl rfl ?_)))))))))))))
      refine wl_move rfl rfl (wl_off rfl rfl rfl rfl (wl_off rfl rfl rfl rfl (wl_off rfl rfl rfl rfl (wl_pick_t rfl rfl rfl rfl (wl_move rfl rfl (wl_off rfl rfl rfl rfl (wl_off rfl rfl rfl rfl (wl_off rfl rfl rfl rfl (wl_pick_t rfl rfl rfl rfl (wl_move rfl rfl (wl_off rfl rfl rfl rfl (wl_off rfl rfl rfl rfl (wl_off rfl rfl rfl rfl ?_)))))))))))))
      refine wl_off rfl rfl rfl rfl (wl_pick_t rfl rfl rfl rfl (wl_move rfl rfl (wl_off rfl rfl rfl rfl (wl_off rfl rfl rfl rfl (wl_off rfl rfl rfl rfl (wl_pick_t rfl rfl rfl rfl (wl_move rfl rfl (wl_off rfl rfl rfl rfl (wl_off rfl rfl rfl rfl (wl_off rfl rfl rfl rfl (wl_pick_t rfl rfl rfl rfl (wl_move rfl rfl (wl_off rfl rfl rfl rfl ?_)))))))))))))
      refine wl_off rfl rfl rfl rfl (wl_off rfl rfl rfl rfl (wl_pick_t rfl rfl rfl rfl (wl_move rfl rfl (wl_off rfl rfl rfl rfl (wl_off rfl rfl rfl rfl (wl_off rfl rfl rfl rfl (wl_off rfl rfl rfl rfl (wl_pick_t rfl rfl rfl rfl (wl_move rfl rfl (wl_off rfl rfl rfl rfl (wl_off rfl rfl rfl rfl (wl_off rfl rfl rfl rfl (wl_offu rfl rfl rfl ?_)))))))))))))
      refine wl_offu rfl rfl rfl (wl_offu rfl rfl rfl (wl_off rfl rfl rfl rfl (wl_off rfl rfl rfl rfl (wl_pick_t rfl rfl rfl rfl (wl_move rfl rfl (wl_off rfl rfl rfl rfl (wl_off rfl rfl rfl rfl (wl_off rfl rfl rfl rfl (wl_pick_t rfl rfl rfl rfl (WL.nil ?_))))))))))
      exact fun a ha => hJ143 (true) _ hF hB471 (hS472.sel [11, 12, 10, 9, 6, 4, 5, 3] rfl) a (ha.sub ⟨rfl, rfl, rfl, rfl, rfl, rfl, rfl, rfl, rfl, rfl, trivial⟩)
     ·replace hF := ifN h474 hF
      refine wl_on rfl rfl h474 (wl_move rfl rfl (wl_on rfl rfl h474 (wl_move rfl rfl (wl_on rfl rfl h474 (wl_neqb Try.underlying4 rfl rfl rfl (wl_pick_f rfl rfl h474 rfl (wl_move rfl rfl ?_)))))))
      rcases bE (u69.2 != u76.2) with h475 | h475
      ·replace hF := ifP h475 hF
       refine wl_off rfl rfl rfl h475 (wl_off rfl rfl rfl h475 (wl_off rfl rfl rfl h475 (wl_pick_t rfl rfl h475 rfl (wl_move rfl rfl (wl_off rfl rfl rfl rfl (wl_off rfl rfl rfl rfl (wl_off rfl rfl rfl rfl (wl_pick_t rfl rfl rfl rfl (wl_move rfl rfl (wl_off rfl rfl rfl rfl (wl_off rfl rfl rfl rfl (wl_off rfl rfl rfl rfl (wl_pick_t rfl rfl rfl rfl ?_)))))))))))))
       refine wl_move rfl rfl (wl_off rfl rfl rfl rfl (wl_off rfl rfl rfl rfl (wl_off rfl rfl rfl rfl (wl_pick_t rfl rfl rfl rfl (wl_move rfl rfl (wl_off rfl rfl rfl rfl (wl_off rfl rfl rfl rfl (wl_off rfl rfl rfl rfl (wl_off rfl rfl rfl rfl (wl_pick_t rfl rfl rfl rfl (wl_move rfl rfl (wl_off rfl rfl rfl rfl (wl_off rfl rfl rfl rfl ?_)))))))))))))
       refine wl_off rfl rfl rfl rfl (wl_pick_t rfl rfl rfl rfl (wl_move rfl rfl (wl_off rfl rfl rfl rfl (wl_off rfl rfl rfl rfl (wl_off rfl rfl rfl rfl (wl_pick_t rfl rfl rfl rfl (wl_move rfl rfl (wl_off rfl rfl rfl rfl (wl_off rfl rfl rfl rfl (wl_off rfl rfl rfl rfl (wl_pick_t rfl rfl rfl rfl (wl_move rfl rfl (wl_off rfl rfl rfl rfl ?_)))))))))))))
       refine wl_off rfl rfl rfl rfl (wl_off rfl rfl rfl rfl (wl_off rfl rfl rfl rfl (wl_pick_t rfl rfl rfl rfl (wl_move rfl rfl (wl_off rfl rfl rfl rfl (wl_off rfl rfl rfl rfl (wl_off rfl rfl rfl rfl (wl_offu rfl rfl rfl (wl_offu rfl rfl rfl (wl_offu rfl rfl rfl (wl_off rfl rfl rfl rfl (wl_off rfl rfl rfl rfl (wl_pick_t rfl rfl rfl rfl ?_)))))))))))))
       refine wl_move rfl rfl (wl_off rfl rfl rfl rfl (wl_off rfl rfl rfl rfl (wl_off rfl rfl rfl rfl (wl_pick_t rfl rfl rfl rfl (WL.nil ?_)))))
       exact fun a ha => hJ143 (true) _ hF hB471 (hS472.sel [11, 12, 10, 9, 6, 4, 5, 3] rfl) a (ha.sub ⟨rfl, rfl, rfl, rfl, rfl, rfl, rfl, rfl, rfl, rfl, trivial⟩)
      ·replace hF := ifN h475 hF
       refine wl_on rfl rfl h475 (wl_move rfl rfl (wl_on rfl rfl h475 (wl_move rfl rfl (wl_on rfl rfl h475 (wl_neqb Try.underlying4 rfl rfl rfl (wl_pick_f rfl rfl h475 rfl (wl_move rfl rfl ?_)))))))
       rcases bE (u69.1 != u76.1) with h476 | h476
       ·replace hF := ifP h476 hF
        refine wl_off rfl rfl rfl h476 (wl_off rfl rfl rfl h476 (wl_off rfl rfl rfl h476 (wl_pick_t rfl rfl h476 rfl (wl_move rfl rfl (wl_off rfl rfl rfl rfl (wl_off rfl rfl rfl rfl (wl_off rfl rfl rfl rfl (wl_pick_t rfl rfl rfl rfl (wl_move rfl rfl (wl_off rfl rfl rfl rfl (wl_off rfl rfl rfl rfl (wl_off rfl rfl rfl rfl (wl_pick_t rfl rfl rfl rfl ?_)))))))))))))
        refine wl_move rfl rfl (wl_off rfl rfl rfl rfl (wl_off rfl rfl rfl rfl (wl_off rfl rfl rfl rfl (wl_off rfl rfl rfl rfl (wl_pick_t rfl rfl rfl rfl (wl_move rfl rfl (wl_off rfl rfl rfl rfl (wl_off rfl rfl rfl rfl (wl_off rfl rfl rfl rfl (wl_pick_t rfl rfl rfl rfl (wl_move rfl rfl (wl_off rfl rfl rfl rfl (wl_off rfl rfl rfl rfl ?_)))))))))))))
        refine wl_off rfl rfl rfl rfl (wl_pick_t rfl rfl rfl rfl (wl_move rfl rfl (wl_off rfl rfl rfl rfl (wl_off rfl rfl rfl rfl (wl_off rfl rfl rfl rfl (wl_pick_t rfl rfl rfl rfl (wl_move rfl rfl (wl_off rfl rfl rfl rfl (wl_off rfl rfl rfl rfl (wl_off rfl rfl rfl rfl (wl_off rfl rfl rfl rfl (wl_pick_t rfl rfl rfl rfl (wl_move rfl rfl ?_)))))))))))))
        refine wl_off rfl rfl rfl rfl (wl_off rfl rfl rfl rfl (wl_off rfl rfl rfl rfl (wl_offu rfl rfl rfl (wl_offu rfl rfl rfl (wl_offu rfl rfl rfl (wl_off rfl rfl rfl rfl (wl_off rfl rfl rfl rfl (wl_pick_t rfl rfl rfl rfl (wl_move rfl rfl (wl_off rfl rfl rfl rfl (wl_off rfl rfl rfl rfl (wl_off rfl rfl rfl rfl (wl_pick_t rfl rfl rfl rfl ?_)))))))))))))
        refine WL.nil ?_
        exact fun a ha => hJ143 (true) _ hF hB471 (hS472.sel [11, 12, 10, 9, 6, 4, 5, 3] rfl) a (ha.sub ⟨rfl, rfl, rfl, rfl, rfl, rfl, rfl, rfl, rfl, rfl, trivial⟩)
       ·replace hF := ifN h476 hF
        refine wl_on rfl rfl h476 (wl_move rfl rfl (wl_on rfl rfl h476 (wl_move rfl rfl (wl_on rfl rfl h476 (wl_neqb Try.underlying4 rfl rfl rfl (wl_pick_f rfl rfl h476 rfl (wl_move rfl rfl ?_)))))))
        rcases bE (u83.2 != u90.2) with h477 | h477
        ·replace hF := ifP h477 hF
         refine wl_off rfl rfl rfl h477 (wl_off rfl rfl rfl h477 (wl_off rfl rfl rfl h477 (wl_pick_t rfl rfl h477 rfl (wl_move rfl rfl (wl_off rfl rfl rfl rfl (wl_off rfl rfl rfl rfl (wl_off rfl rfl rfl rfl (wl_pick_t rfl rfl rfl rfl (wl_move rfl rfl (wl_off rfl rfl rfl rfl (wl_off rfl rfl rfl rfl (wl_off rfl rfl rfl rfl (wl_off rfl rfl rfl rfl ?_)))))))))))))
         refine wl_pick_t rfl rfl rfl rfl (wl_move rfl rfl (wl_off rfl rfl rfl rfl (wl_off rfl rfl rfl rfl (wl_off rfl rfl rfl rfl (wl_pick_t rfl rfl rfl rfl (wl_move rfl rfl (wl_off rfl rfl rfl rfl (wl_off rfl rfl rfl rfl (wl_off rfl rfl rfl rfl (wl_pick_t rfl rfl rfl rfl (wl_move rfl rfl (wl_off rfl rfl rfl rfl (wl_off rfl rfl rfl rfl ?_)))))))))))))
         refine wl_off rfl rfl rfl rfl (wl_pick_t rfl rfl rfl rfl (wl_move rfl rfl (wl_off rfl rfl rfl rfl (wl_off rfl rfl rfl rfl (wl_off rfl rfl rfl rfl (wl_off rfl rfl rfl rfl (wl_pick_t rfl rfl rfl rfl (wl_move rfl rfl (wl_off rfl rfl rfl rfl (wl_off rfl rfl rfl rfl (wl_off rfl rfl rfl rfl (wl_offu rfl rfl rfl (wl_offu rfl rfl rfl ?_)))))))))))))
         refine wl_offu rfl rfl rfl (wl_off rfl rfl rfl rfl (wl_off rfl rfl rfl rfl (wl_pick_t rfl rfl rfl rfl (wl_move rfl rfl (wl_off rfl rfl rfl rfl (wl_off rfl rfl rfl rfl (wl_off rfl rfl rfl rfl (wl_pick_t rfl rfl rfl rfl (WL.nil ?_)))))))))
         exact fun a ha => hJ143 (true) _ hF hB471 (hS472.sel [11, 12, 10, 9, 6, 4, 5, 3] rfl) a (ha.sub ⟨rfl, rfl, rfl, rfl, rfl, rfl, rfl, rfl, rfl, rfl, trivial⟩)
        ·replace hF := ifN h477 hF
         refine wl_on rfl rfl h477 (wl_move rfl rfl (wl_on rfl rfl h477 (wl_move rfl rfl (wl_on rfl rfl h477 (wl_neq rfl rfl rfl (wl_pick_f rfl rfl h477 rfl (wl_move rfl rfl ?_)))))))
         rcases bE (u83.1 != u90.1) with h478 | h478
         ·replace hF := ifP h478 hF
          refine wl_off rfl rfl rfl h478 (wl_off rfl rfl rfl h478 (wl_off rfl rfl rfl h478 (wl_pick_t rfl rfl h478 rfl (wl_move rfl rfl (wl_off rfl rfl rfl rfl (wl_off rfl rfl rfl rfl (wl_off rfl rfl rfl rfl (wl_off rfl rfl rfl rfl (wl_pick_t rfl rfl rfl rfl (wl_move rfl rfl (wl_off rfl rfl rfl rfl (wl_off rfl rfl rfl rfl (wl_off rfl rfl rfl rfl ?_)))))))))))))
          refine wl_pick_t rfl rfl rfl rfl (wl_move rfl rfl (wl_off rfl rfl rfl rfl (wl_off rfl rfl rfl rfl (wl_off rfl rfl rfl rfl (wl_pick_t rfl rfl rfl rfl (wl_move rfl rfl (wl_off rfl rfl rfl rfl (wl_off rfl rfl rfl rfl (wl_off rfl rfl rfl rfl (wl_pick_t rfl rfl rfl rfl (wl_move rfl rfl (wl_off rfl rfl rfl rfl (wl_off rfl rfl rfl rfl ?_)))))))))))))
          refine wl_off rfl rfl rfl rfl (wl_off rfl rfl rfl rfl (wl_pick_t rfl rfl rfl rfl (wl_move rfl rfl (wl_off rfl rfl rfl rfl (wl_off rfl rfl rfl rfl (wl_off rfl rfl rfl rfl (wl_offu rfl rfl rfl (wl_offu rfl rfl rfl (wl_offu rfl rfl rfl (wl_off rfl rfl rfl rfl (wl_off rfl rfl rfl rfl (wl_pick_t rfl rfl rfl rfl (wl_move rfl rfl ?_)))))))))))))
          refine wl_off rfl rfl rfl rfl (wl_off rfl rfl rfl rfl (wl_off rfl rfl rfl rfl (wl_pick_t rfl rfl rfl rfl (WL.nil ?_))))
          exact fun a ha => hJ143 (true) _ hF hB471 (hS472.sel [11, 12, 10, 9, 6, 4, 5, 3] rfl) a (ha.sub ⟨rfl, rfl, rfl, rfl, rfl, rfl, rfl, rfl, rfl, rfl, trivial⟩)
         ·replace hF := ifN h478 hF
          refine wl_on rfl rfl h478 (wl_move rfl rfl (wl_on rfl rfl h478 (wl_move rfl rfl (wl_on rfl rfl h478 (wl_neqb Try.underlying4 rfl rfl rfl (wl_pick_f rfl rfl h478 rfl (wl_move rfl rfl ?_)))))))
          rcases bE (u97.2 != u117.2) with h479 | h479
          ·replace hF := ifP h479 hF
           refine wl_off rfl rfl rfl h479 (wl_off rfl rfl rfl h479 (wl_off rfl rfl rfl h479 (wl_off rfl rfl rfl h479 (wl_pick_t rfl rfl h479 rfl (wl_move rfl rfl (wl_off rfl rfl rfl rfl (wl_off rfl rfl rfl rfl (wl_off rfl rfl rfl rfl (wl_pick_t rfl rfl rfl rfl (wl_move rfl rfl (wl_off rfl rfl rfl rfl (wl_off rfl rfl rfl rfl (wl_off rfl rfl rfl rfl ?_)))))))))))))
           refine wl_pick_t rfl rfl rfl rfl (wl_move rfl rfl (wl_off rfl rfl rfl rfl (wl_off rfl rfl rfl rfl (wl_off rfl rfl rfl rfl (wl_pick_t rfl rfl rfl rfl (wl_move rfl rfl (wl_off rfl rfl rfl rfl (wl_off rfl rfl rfl rfl (wl_off rfl rfl rfl rfl (wl_off rfl rfl rfl rfl (wl_pick_t rfl rfl rfl rfl (wl_move rfl rfl (wl_off rfl rfl rfl rfl ?_)))))))))))))
           refine wl_off rfl rfl rfl rfl (wl_off rfl rfl rfl rfl (wl_offu rfl rfl rfl (wl_offu rfl rfl rfl (wl_offu rfl rfl rfl (wl_off rfl rfl rfl rfl (wl_off rfl rfl rfl rfl (wl_pick_t rfl rfl rfl rfl (wl_move rfl rfl (wl_off rfl rfl rfl rfl (wl_off rfl rfl rfl rfl (wl_off rfl rfl rfl rfl (wl_pick_t rfl rfl rfl rfl (WL.nil ?_)))))))))))))
           exact fun a ha => hJ143 (true) _ hF hB471 (hS472.sel [11, 12, 10, 9, 6, 4, 5, 3] rfl) a (ha.sub ⟨rfl, rfl, rfl, rfl, rfl, rfl, rfl, rfl, rfl, rfl, trivial⟩)
          ·replace hF := ifN h479 hF
           refine wl_on rfl rfl h479 (wl_load_blk (i := 3) (vs := [v98, v100, (.int .i64 u97.1.2.2.1), (.int .i64 u97.1.2.2.2)]) (v := (.agg #[v98, v100, (.int .i64 u97.1.2.2.1), (.int .i64 u97.1.2.2.2)])) tf_53 rfl rfl hS472 rfl rfl rfl (wl_on rfl rfl h479 (wl_load_blk (i := 0) (vs := [v118, v120, (.int .i64 u117.1.2.2.1), (.int .i64 u117.1.2.2.2)]) (v := (.agg #[v118, v120, (.int .i64 u117.1.2.2.1), (.int .i64 u117.1.2.2.2)])) tf_53 rfl rfl hS472 rfl rfl rfl (wl_on rfl rfl h479 ?_))))
           obtain ⟨u480, hu480, hF⟩ := bindE hF
           refine wl_call rfl Try.call58 (C_laws_pSameShow w469 u97.1 v98 (hS472.own_ro (i := 4) rfl) v100 (hS472.own_ro (i := 5) rfl) u117.1 v118 (hS472.own_ro (i := 1) rfl) v120 (hS472.own_ro (i := 2) rfl) _ hu480) rfl ?_
           rintro _ w481 ⟨rfl, hb482⟩
           refine ⟨_, rfl, ?_⟩
           have hB483 := hB471.trans (hb482.mono hB471.size)
           have hS484 := hS472.below hb482
           refine wl_on rfl rfl h479 (wl_not rfl rfl (wl_pick_f rfl rfl h479 rfl (wl_move rfl rfl ?_)))
           rcases bE (!u480) with h486 | h486
           ·replace hF := ifP h486 hF
            refine wl_off rfl rfl rfl h486 (wl_off rfl rfl rfl h486 (wl_off rfl rfl rfl h486 (wl_pick_t rfl rfl h486 rfl (wl_move rfl rfl (wl_off rfl rfl rfl rfl (wl_off rfl rfl rfl rfl (wl_off rfl rfl rfl rfl (wl_pick_t rfl rfl rfl rfl (wl_move rfl rfl (wl_off rfl rfl rfl rfl (wl_off rfl rfl rfl rfl (wl_off rfl rfl rfl rfl (wl_pick_t rfl rfl rfl rfl ?_)))))))))))))
            refine wl_move rfl rfl (wl_off rfl rfl rfl rfl (wl_off rfl rfl rfl rfl (wl_off rfl rfl rfl rfl (wl_off rfl rfl rfl rfl (wl_pick_t rfl rfl rfl rfl (wl_move rfl rfl (wl_off rfl rfl rfl rfl (wl_off rfl rfl rfl rfl (wl_off rfl rfl rfl rfl (wl_offu rfl rfl rfl (wl_offu rfl rfl rfl (wl_offu rfl rfl rfl (wl_off rfl rfl rfl rfl ?_)))))))))))))
            refine wl_off rfl rfl rfl rfl (wl_pick_t rfl rfl rfl rfl (wl_move rfl rfl (wl_off rfl rfl rfl rfl (wl_off rfl rfl rfl rfl (wl_off rfl rfl rfl rfl (wl_pick_t rfl rfl rfl rfl (WL.nil ?_)))))))
            exact fun a ha => hJ143 (true) _ hF hB483 (hS484.sel [11, 12, 10, 9, 6, 4, 5, 3] rfl) a (ha.sub ⟨rfl, rfl, rfl, rfl, rfl, rfl, rfl, rfl, rfl, rfl, trivial⟩)
           ·replace hF := ifN h486 hF
            refine wl_on rfl rfl h486 (wl_move rfl rfl (wl_on rfl rfl h486 (wl_move rfl rfl (wl_on rfl rfl h486 (wl_neqb Try.underlying4 rfl rfl rfl (wl_pick_f rfl rfl h486 rfl (wl_move rfl rfl ?_)))))))
            rcases bE (u69.2 != u51.2) with h487 | h487
            ·replace hF := ifP h487 hF
             refine wl_off rfl rfl rfl h487 (wl_off rfl rfl rfl h487 (wl_off rfl rfl rfl h487 (wl_pick_t rfl rfl h487 rfl (wl_move rfl rfl (wl_off rfl rfl rfl rfl (wl_off rfl rfl rfl rfl (wl_off rfl rfl rfl rfl (wl_pick_t rfl rfl rfl rfl (wl_move rfl rfl (wl_off rfl rfl rfl rfl (wl_off rfl rfl rfl rfl (wl_off rfl rfl rfl rfl (wl_off rfl rfl rfl rfl ?_)))))))))))))
             refine wl_pick_t rfl rfl rfl rfl (wl_move rfl rfl (wl_off rfl rfl rfl rfl (wl_off rfl rfl rfl rfl (wl_off rfl rfl rfl rfl (wl_offu rfl rfl rfl (wl_offu rfl rfl rfl (wl_offu rfl rfl rfl (wl_off rfl rfl rfl rfl (wl_off rfl rfl rfl rfl (wl_pick_t rfl rfl rfl rfl (wl_move rfl rfl (wl_off rfl rfl rfl rfl (wl_off rfl rfl rfl rfl ?_)))))))))))))
             refine wl_off rfl rfl rfl rfl (wl_pick_t rfl rfl rfl rfl (WL.nil ?_))
             exact fun a ha => hJ143 (true) _ hF hB483 (hS484.sel [11, 12, 10, 9, 6, 4, 5, 3] rfl) a (ha.sub ⟨rfl, rfl, rfl, rfl, rfl, rfl, rfl, rfl, rfl, rfl, trivial⟩)
            ·replace hF := ifN h487 hF
             refine wl_on rfl rfl h487 (wl_move rfl rfl (wl_on rfl rfl h487 (wl_move rfl rfl (wl_on rfl rfl h487 (wl_neqb Try.underlying4 rfl rfl rfl (wl_pick_f rfl rfl h487 rfl (wl_move rfl rfl ?_)))))))
             rcases bE (u83.2 != u51.2) with h488 | h488
             ·replace hF := ifP h488 hF
              refine wl_off rfl rfl rfl h488 (wl_off rfl rfl rfl h488 (wl_off rfl rfl rfl h488 (wl_pick_t rfl rfl h488 rfl (wl_move rfl rfl (wl_off rfl rfl rfl rfl (wl_off rfl rfl rfl rfl (wl_off rfl rfl rfl rfl (wl_off rfl rfl rfl rfl (wl_pick_t rfl rfl rfl rfl (wl_move rfl rfl (wl_off rfl rfl rfl rfl (wl_off rfl rfl rfl rfl (wl_off rfl rfl rfl rfl ?_)))))))))))))
              refine wl_offu rfl rfl rfl (wl_offu rfl rfl rfl (wl_offu rfl rfl rfl (wl_off rfl rfl rfl rfl (wl_off rfl rfl rfl rfl (wl_pick_t rfl rfl rfl rfl (wl_move rfl rfl (wl_off rfl rfl rfl rfl (wl_off rfl rfl rfl rfl (wl_off rfl rfl rfl rfl (wl_pick_t rfl rfl rfl rfl (WL.nil ?_)))))))))))
              exact fun a ha => hJ143 (true) _ hF hB483 (hS484.sel [11, 12, 10, 9, 6, 4, 5, 3] rfl) a (ha.sub ⟨rfl, rfl, rfl, rfl, rfl, rfl, rfl, rfl, rfl, rfl, trivial⟩)
             ·replace hF := ifN h488 hF
              refine wl_on rfl rfl h488 (wl_move rfl rfl (wl_on rfl rfl h488 (wl_move rfl rfl (wl_on rfl rfl h488 (wl_neqb Try.underlying4 rfl rfl rfl (wl_pick_f rfl rfl h488 rfl (wl_move rfl rfl ?_)))))))
              rcases bE (u97.2 != u51.2) with h489 | h489
              ·replace hF := ifP h489 hF
               refine wl_off rfl rfl rfl h489 (wl_off rfl rfl rfl h489 (wl_off rfl rfl rfl h489 (wl_off rfl rfl rfl h489 (wl_pick_t rfl rfl h489 rfl (wl_move rfl rfl (wl_off rfl rfl rfl rfl (wl_off rfl rfl rfl rfl (wl_off rfl rfl rfl rfl (wl_offu rfl rfl rfl (wl_offu rfl rfl rfl (wl_offu rfl rfl rfl (wl_off rfl rfl rfl rfl (wl_off rfl rfl rfl rfl ?_)))))))))))))
               refine wl_pick_t rfl rfl rfl rfl (wl_move rfl rfl (wl_off rfl rfl rfl rfl (wl_off rfl rfl rfl rfl (wl_off rfl rfl rfl rfl (wl_pick_t rfl rfl rfl rfl (WL.nil ?_))))))
               exact fun a ha => hJ143 (true) _ hF hB483 (hS484.sel [11, 12, 10, 9, 6, 4, 5, 3] rfl) a (ha.sub ⟨rfl, rfl, rfl, rfl, rfl, rfl, rfl, rfl, rfl, rfl, trivial⟩)
              ·replace hF := ifN h489 hF
               refine wl_on rfl rfl h489 (wl_load_blk (i := 10) (vs := [v14, v16, (.int .i64 u13.2.2.1), (.int .i64 u13.2.2.2)]) (v := (.agg #[v14, v16, (.int .i64 u13.2.2.1), (.int .i64 u13.2.2.2)])) tf_53 rfl rfl hS484 rfl rfl rfl (wl_on rfl rfl h489 ?_))
               obtain ⟨u490, hu490, hF⟩ := bindE hF
               refine wl_call rfl Try.call60 (C_impl_IsShow w481 u13 v14 (hS484.own_ro (i := 11) rfl) v16 (hS484.own_ro (i := 12) rfl) _ hu490) rfl ?_
               rintro _ w491 ⟨rfl, hb492⟩
               refine ⟨_, rfl, ?_⟩
               have hB493 := hB483.trans (hb492.mono hB483.size)
               have hS494 := hS484.below hb492
               refine wl_on rfl rfl h489 (wl_move rfl rfl (wl_on rfl rfl h489 (wl_neqb Try.underlying4 rfl rfl rfl (wl_pick_f rfl rfl h489 rfl (wl_move rfl rfl ?_)))))
               rcases bE (u490 != u51.2) with h496 | h496
               ·replace hF := ifP h496 hF
                refine wl_off rfl rfl rfl h496 (wl_off rfl rfl rfl h496 (wl_off rfl rfl rfl h496 (wl_offu rfl rfl rfl (wl_offu rfl rfl rfl (wl_offu rfl rfl rfl (wl_off rfl rfl rfl h496 (wl_off rfl rfl rfl h496 (wl_pick_t rfl rfl h496 rfl (wl_move rfl rfl (wl_off rfl rfl rfl rfl (wl_off rfl rfl rfl rfl (wl_off rfl rfl rfl rfl (wl_pick_t rfl rfl rfl rfl ?_)))))))))))))
                refine WL.nil ?_
                exact fun a ha => hJ143 (true) _ hF hB493 (hS494.sel [11, 12, 10, 9, 6, 4, 5, 3] rfl) a (ha.sub ⟨rfl, rfl, rfl, rfl, rfl, rfl, rfl, rfl, rfl, rfl, trivial⟩)
               ·replace hF := ifN h496 hF
                refine wl_on rfl rfl h496 (wl_move rfl rfl (wl_on rfl rfl h496 (wl_move rfl rfl (wl_on rfl rfl h496 (wl_move rfl rfl ?_)))))
                rcases bE u51.2 with h497 | h497
                ·replace hF := ifP h497 hF
                 refine wl_on rfl rfl h497 (wl_move rfl rfl (wl_on rfl rfl h497 (wl_lenr (e := ty_3) (l := u60.1) Try.underlying29 rfl rfl (hS494.own_ro (i := 6) rfl) (wl_on rfl rfl h497 (wl_eql rfl rfl rfl (wl_on rfl rfl h496 (wl_pick_t rfl rfl h497 rfl (wl_on rfl rfl h496 (wl_neqb Try.underlying4 rfl rfl rfl (wl_pick_f rfl rfl h496 rfl (wl_move rfl rfl ?_)))))))))))
                 rcases bE (u33.2 != ((List.length u60.1 : Int) == 0)) with h498 | h498
                 ·replace hF := ifP h498 hF
                  refine wl_off rfl rfl rfl h498 (wl_off rfl rfl rfl h498 (wl_off rfl rfl rfl h498 (wl_pick_t rfl rfl h498 rfl (WL.nil ?_))))
                  exact fun a ha => hJ143 (true) _ hF hB493 (hS494.sel [11, 12, 10, 9, 6, 4, 5, 3] rfl) a (ha.sub ⟨rfl, rfl, rfl, rfl, rfl, rfl, rfl, rfl, rfl, rfl, trivial⟩)
                 ·replace hF := ifN h498 hF
                  refine wl_on rfl rfl h498 (wl_move rfl rfl (wl_on rfl rfl h498 (wl_move rfl rfl (wl_on rfl rfl h498 (wl_neqb Try.underlying4 rfl rfl rfl (wl_pick_f rfl rfl h498 rfl (WL.nil ?_)))))))
                  exact fun a ha => hJ143 ((u76.1 != u33.2)) _ hF hB493 (hS494.sel [11, 12, 10, 9, 6, 4, 5, 3] rfl) a (ha.sub ⟨rfl, rfl, rfl, rfl, rfl, rfl, rfl, rfl, rfl, rfl, trivial⟩)
                ·replace hF := ifN h497 hF
                 refine wl_off rfl rfl rfl h497 (wl_off rfl rfl rfl h497 (wl_off rfl rfl rfl h497 (wl_on rfl rfl h496 (wl_pick_f rfl rfl h497 rfl (wl_on rfl rfl h496 (wl_neqb Try.underlying4 rfl rfl rfl (wl_pick_f rfl rfl h496 rfl (wl_move rfl rfl ?_))))))))
                 rcases bE (u33.2 != false) with h499 | h499
                 ·replace hF := ifP h499 hF
                  refine wl_off rfl rfl rfl h499 (wl_off rfl rfl rfl h499 (wl_off rfl rfl rfl h499 (wl_pick_t rfl rfl h499 rfl (WL.nil ?_))))
                  exact fun a ha => hJ143 (true) _ hF hB493 (hS494.sel [11, 12, 10, 9, 6, 4, 5, 3] rfl) a (ha.sub ⟨rfl, rfl, rfl, rfl, rfl, rfl, rfl, rfl, rfl, rfl, trivial⟩)
                 ·replace hF := ifN h499 hF
                  refine wl_on rfl rfl h499 (wl_move rfl rfl (wl_on rfl rfl h499 (wl_move rfl rfl (wl_on rfl rfl h499 (wl_neqb Try.underlying4 rfl rfl rfl (wl_pick_f rfl rfl h499 rfl (WL.nil ?_)))))))
                  exact fun a ha => hJ143 ((u76.1 != u33.2)) _ hF hB493 (hS494.sel [11, 12, 10, 9, 6, 4, 5, 3] rfl) a (ha.sub ⟨rfl, rfl, rfl, rfl, rfl, rfl, rfl, rfl, rfl, rfl, trivial⟩)
end Go.Proofs.Ytmkignciedkidaa
