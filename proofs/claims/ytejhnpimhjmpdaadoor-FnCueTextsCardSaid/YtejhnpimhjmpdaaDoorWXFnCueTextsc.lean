/-
  THE WALKS of functions of this seat, by program (gen.py, prune.py).
-/
import Derived.Test.YtejhnpimhjmpdaaDoorWXFnCueTextsb
set_option linter.unusedSimpArgs false
set_option linter.unusedVariables false
set_option maxRecDepth 100000
set_option maxHeartbeats 1600000
namespace Go.Proofs.YtejhnpimhjmpdaaDoor
open Go Go.RowKit
theorem C_laws_FnCueTexts (w0 : World) (hT : Tab w0) (x0 : (List Int)) (v0_0 : Value) (h0_0 : rdS ty_5 (· < w0.heap.size) w0 v0_0 x0) (x1 : (List Int)) (v1_0 : Value) (h1_0 : rdS ty_5 (· < w0.heap.size) w0 v1_0 x1) (r : Bool) (hF : F_laws_FnCueTexts x0 x1 = some r) :
  Calls Tryd.prog 4 [v0_0, v1_0].toArray w0 fun e w' => e = .returned (.bool r) ∧ Below w0.heap.size w0 w' := by
 refine calls_mk' Tryd.func4 rfl Tryd.ntmps4 rfl rfl fun Q hQ hP => ?_
 have hB : Below w0.heap.size w0 w0 := Below.refl _ _
 have hS : Sep w0.heap.size w0 [] := Sep.nil _ _
 unfold F_laws_FnCueTexts at hF
 refine W.seq fun K1 hK1 => W.region (wl_assign rfl rfl (WL.nil (fun a ha => hK1 _ _ (W.seq fun K2 hK2 => (W.seq fun K3 hK3 => (W.region (wl_move rfl rfl (wl_lenr (e := ty_5) (l := x0) Tryd.underlying35 rfl rfl h0_0 (wl_move rfl rfl (wl_lenr (e := ty_5) (l := x1) Tryd.underlying35 rfl rfl h1_0 (wl_add rfl rfl rfl (wl_gtr rfl rfl rfl ?_))))))))) a ha)))
 refine WL.nil fun a ha => hK3 _ _ (W.cond rfl (fun h4 => ?_) (fun h4 => ?_)) a ha
 ·replace hF := ifP h4 hF
  refine W.seq fun K5 hK5 => W.region (wl_assign rfl rfl (WL.nil (fun a ha => hK5 _ _ (W.ret ?_) a ha)))
  have hr := Option.some.inj hF
  subst hr
  exact rets (vs := [(.bool true)]) hQ rfl ⟨rv_tmp rfl, trivial⟩ ⟨rfl, hB⟩
 ·replace hF := ifN h4 hF
  refine W.skip fun a ha => hK2 _ _ (W.seq fun K6 hK6 => (W.region (wl_move rfl rfl ?_))) a ha
  obtain ⟨u7, hu7, hF⟩ := bindE hF
  refine wl_call rfl Tryd.call13 (C_spec_DrawTimetableText w0 x0 v0_0 (h0_0.ro hB) _ hu7) rfl ?_
  rintro _ w12 ⟨v8, F9, v10, F11, rfl, hb13, hM16⟩
  refine ⟨_, rfl, ?_⟩
  have hB14 := hB.trans (hb13.mono hB.size)
  have hS15 := hS.join hb13 hM16 hB.size
  refine wl_move rfl rfl (wl_extract rfl rfl rfl (wl_extract rfl rfl rfl (wl_assign rfl rfl (wl_assign rfl rfl (WL.nil (fun a ha => hK6 _ _ (W.seq fun K17 hK17 => (W.region (wl_move rfl rfl (wl_move rfl rfl ?_)))) a ha))))))
  obtain ⟨u18, hu18, hF⟩ := bindE hF
  refine wl_call rfl Tryd.call10 (C_impl_TimetableText w12 (hT.st hB14) u7.1 v8 (hS15.own_ro (i := 0) rfl) u7.2 v10 (hS15.own_ro (i := 1) rfl) _ hu18) rfl ?_
  rintro _ w19 ⟨rfl, hb20⟩
  refine ⟨_, rfl, ?_⟩
  have hB21 := hB14.trans (hb20.mono hB14.size)
  have hS22 := hS15.below hb20
  refine wl_move rfl rfl (wl_extract rfl rfl rfl (wl_extract rfl rfl rfl (wl_assign rfl rfl (wl_assign rfl rfl (WL.nil (fun a ha => hK17 _ _ (W.seq fun K24 hK24 => (W.region (wl_move rfl rfl (wl_move rfl rfl ?_)))) a ha))))))
  obtain ⟨u25, hu25, hF⟩ := bindE hF
  refine wl_call rfl Tryd.call7 (C_spec_TimetableText w19 u7.1 v8 (hS22.own_ro (i := 0) rfl) u7.2 v10 (hS22.own_ro (i := 1) rfl) _ hu25) rfl ?_
  rintro _ w26 ⟨rfl, hb27⟩
  refine ⟨_, rfl, ?_⟩
  have hB28 := hB21.trans (hb27.mono hB21.size)
  have hS29 := hS22.below hb27
  refine wl_move rfl rfl (wl_extract rfl rfl rfl (wl_extract rfl rfl rfl (wl_assign rfl rfl (wl_assign rfl rfl (WL.nil (fun a ha => hK24 _ _ (W.seq fun K31 hK31 => (W.region (wl_move rfl rfl ?_))) a ha))))))
  obtain ⟨u32, hu32, hF⟩ := bindE hF
  refine wl_call rfl Tryd.call14 (C_spec_DrawAddCue w26 x1 v1_0 (h1_0.ro hB28) _ hu32) rfl ?_
  rintro _ w37 ⟨v33, F34, v35, F36, rfl, hb38, hM41⟩
  refine ⟨_, rfl, ?_⟩
  have hB39 := hB28.trans (hb38.mono hB28.size)
  have hS40 := hS29.join hb38 hM41 hB28.size
  refine wl_move rfl rfl (wl_extract rfl rfl rfl (wl_extract rfl rfl rfl (wl_extract rfl rfl rfl (wl_alloc (cs := [(.int .i64 0), (.string (mkS []))]) tf_39 rfl rfl hB39 hS40 ?_))))
  intro b42 w43 hb44 hB45 hS46
  refine wl_assign rfl rfl (wl_assign rfl rfl (wl_store_blk (i := 0) (vs := [(.int .i64 u32.2.2.1), (.string (mkS u32.2.2.2))]) (cs' := [(.int .i64 u32.2.2.1), (.string (mkS u32.2.2.2))]) tf_39 rfl rfl rfl rfl hB45 hS46 rfl rfl ⟨rfl, rfl, trivial⟩ rfl ?_))
  intro w47 hk50 hB48 hS49
  refine WL.nil fun a ha => hK31 _ _ (W.seq fun K51 hK51 => (W.region (wl_move rfl rfl (wl_move rfl rfl (wl_load_blk (i := 0) (vs := [(.int .i64 u32.2.2.1), (.string (mkS u32.2.2.2))]) (v := (.agg #[(.int .i64 u32.2.2.1), (.string (mkS u32.2.2.2))])) tf_39 rfl rfl hS49 rfl rfl rfl ?_))))) a ha
  obtain ⟨u52, hu52, hF⟩ := bindE hF
  refine wl_call rfl Tryd.call15 (C_impl_AddCue w47 u32.1 v33 (hS49.own_ro (i := 1) rfl) u32.2.1 v35 (hS49.own_ro (i := 2) rfl) u32.2.2 _ hu52) rfl ?_
  rintro _ w55 ⟨v53, F54, rfl, hb56, hM59⟩
  refine ⟨_, rfl, ?_⟩
  have hB57 := hB48.trans (hb56.mono hB48.size)
  have hS58 := hS49.join hb56 hM59 hB48.size
  refine wl_move rfl rfl (wl_extract rfl rfl rfl (wl_extract rfl rfl rfl (wl_assign rfl rfl (wl_assign rfl rfl (WL.nil (fun a ha => hK51 _ _ (W.seq fun K60 hK60 => (W.region (wl_move rfl rfl (wl_move rfl rfl (wl_load_blk (i := 1) (vs := [(.int .i64 u32.2.2.1), (.string (mkS u32.2.2.2))]) (v := (.agg #[(.int .i64 u32.2.2.1), (.string (mkS u32.2.2.2))])) tf_39 rfl rfl hS58 rfl rfl rfl ?_))))) a ha))))))
  obtain ⟨u61, hu61, hF⟩ := bindE hF
  refine wl_call rfl Tryd.call16 (C_spec_AddCue w55 u32.1 v33 (hS58.own_ro (i := 2) rfl) u32.2.1 v35 (hS58.own_ro (i := 3) rfl) u32.2.2 _ hu61) rfl ?_
  rintro _ w65 ⟨v62, F63, rfl, hb66, hM69⟩
  refine ⟨_, rfl, ?_⟩
  have hB67 := hB57.trans (hb66.mono hB57.size)
  have hS68 := hS58.join hb66 hM69 hB57.size
  refine wl_move rfl rfl (wl_extract rfl rfl rfl (wl_extract rfl rfl rfl (wl_assign rfl rfl (wl_assign rfl rfl (WL.nil (fun a ha => hK60 _ _ (W.seq fun K70 hK70 => (W.region (wl_move rfl rfl ?_))) a ha))))))
  obtain ⟨u71, hu71, hF⟩ := bindE hF
  refine wl_call rfl Tryd.call17 (C_spec_DrawCuesAfterRepeat w65 x1 v1_0 (h1_0.ro hB67) _ hu71) rfl ?_
  rintro _ w76 ⟨v72, F73, v74, F75, rfl, hb77, hM80⟩
  refine ⟨_, rfl, ?_⟩
  have hB78 := hB67.trans (hb77.mono hB67.size)
  have hS79 := hS68.join hb77 hM80 hB67.size
  refine wl_move rfl rfl (wl_extract rfl rfl rfl (wl_extract rfl rfl rfl (wl_extract rfl rfl rfl (wl_extract rfl rfl rfl (wl_extract rfl rfl rfl (wl_assign rfl rfl (wl_assign rfl rfl (wl_assign rfl rfl (wl_assign rfl rfl (wl_assign rfl rfl (WL.nil (fun a ha => hK70 _ _ (W.seq fun K81 hK81 => ?_) a ha))))))))))))
  refine W.region (wl_move rfl rfl (wl_move rfl rfl (wl_move rfl rfl (wl_move rfl rfl (wl_move rfl rfl ?_)))))
  obtain ⟨u82, hu82, hF⟩ := bindE hF
  refine wl_call rfl Tryd.call18 (C_impl_CuesAfterRepeat w76 u71.1 v72 (hS79.own_ro (i := 0) rfl) u71.2.1 v74 (hS79.own_ro (i := 1) rfl) u71.2.2.1 u71.2.2.2.1 u71.2.2.2.2 _ hu82) rfl ?_
  rintro _ w85 ⟨v83, F84, rfl, hb86, hM89⟩
  refine ⟨_, rfl, ?_⟩
  have hB87 := hB78.trans (hb86.mono hB78.size)
  have hS88 := hS79.join hb86 hM89 hB78.size
  refine wl_move rfl rfl (wl_extract rfl rfl rfl (wl_extract rfl rfl rfl (wl_assign rfl rfl (wl_assign rfl rfl (WL.nil (fun a ha => hK81 _ _ (W.seq fun K90 hK90 => (W.region (wl_move rfl rfl (wl_move rfl rfl (wl_move rfl rfl (wl_move rfl rfl (wl_move rfl rfl ?_))))))) a ha))))))
  obtain ⟨u91, hu91, hF⟩ := bindE hF
  refine wl_call rfl Tryd.call19 (C_spec_CuesAfterRepeat w85 u71.1 v72 (hS88.own_ro (i := 1) rfl) u71.2.1 v74 (hS88.own_ro (i := 2) rfl) u71.2.2.1 u71.2.2.2.1 u71.2.2.2.2 _ hu91) rfl ?_
  rintro _ w94 ⟨v92, F93, rfl, hb95, hM98⟩
  refine ⟨_, rfl, ?_⟩
  have hB96 := hB87.trans (hb95.mono hB87.size)
  have hS97 := hS88.join hb95 hM98 hB87.size
  refine wl_move rfl rfl (wl_extract rfl rfl rfl (wl_extract rfl rfl rfl (wl_assign rfl rfl (wl_assign rfl rfl (WL.nil (fun a ha => hK90 _ _ (W.seq fun K99 hK99 => (W.region (wl_move rfl rfl ?_))) a ha))))))
  obtain ⟨u100, hu100, hF⟩ := bindE hF
  refine wl_call rfl Tryd.call20 (C_spec_DrawTimeText w94 x1 v1_0 (h1_0.ro hB96) _ hu100) rfl ?_
  rintro _ w101 ⟨rfl, hb102⟩
  refine ⟨_, rfl, ?_⟩
  have hB103 := hB96.trans (hb102.mono hB96.size)
  have hS104 := hS97.below hb102
  refine wl_assign rfl rfl (WL.nil (fun a ha => hK99 _ _ (W.seq fun K106 hK106 => (W.region (wl_move rfl rfl ?_))) a ha))
  obtain ⟨u107, hu107, hF⟩ := bindE hF
  refine wl_call rfl Tryd.call21 (C_impl_TimeText w101 (hT.st hB103) u100 _ hu107) rfl ?_
  rintro _ w108 ⟨rfl, hb109⟩
  refine ⟨_, rfl, ?_⟩
  have hB110 := hB103.trans (hb109.mono hB103.size)
  have hS111 := hS104.below hb109
  refine wl_move rfl rfl (wl_extract rfl rfl rfl (wl_extract rfl rfl rfl (wl_assign rfl rfl (wl_assign rfl rfl (WL.nil (fun a ha => hK106 _ _ (W.seq fun K113 hK113 => (W.region (wl_move rfl rfl ?_))) a ha))))))
  obtain ⟨u114, hu114, hF⟩ := bindE hF
  refine wl_call rfl Tryd.call22 (C_spec_TimeText w108 u100 _ hu114) rfl ?_
  rintro _ w115 ⟨rfl, hb116⟩
  refine ⟨_, rfl, ?_⟩
  have hB117 := hB110.trans (hb116.mono hB110.size)
  have hS118 := hS111.below hb116
  refine wl_move rfl rfl (wl_extract rfl rfl rfl (wl_extract rfl rfl rfl (wl_assign rfl rfl (wl_assign rfl rfl (WL.nil (fun a ha => hK113 _ _ (W.seq fun K120 hK120 => (W.region (wl_move rfl rfl ?_))) a ha))))))
  obtain ⟨u121, hu121, hF⟩ := bindE hF
  refine wl_call rfl Tryd.call23 (C_spec_DrawAreCues w115 x1 v1_0 (h1_0.ro hB117) _ hu121) rfl ?_
  rintro _ w126 ⟨v122, F123, v124, F125, rfl, hb127, hM130⟩
  refine ⟨_, rfl, ?_⟩
  have hB128 := hB117.trans (hb127.mono hB117.size)
  have hS129 := hS118.join hb127 hM130 hB117.size
  refine wl_move rfl rfl (wl_extract rfl rfl rfl (wl_extract rfl rfl rfl (wl_assign rfl rfl (wl_assign rfl rfl (WL.nil (fun a ha => hK120 _ _ (W.seq fun K131 hK131 => (W.region (wl_move rfl rfl (wl_move rfl rfl ?_)))) a ha))))))
  obtain ⟨u132, hu132, hF⟩ := bindE hF
  refine wl_call rfl Tryd.call24 (C_impl_AreCues w126 u121.1 v122 (hS129.own_ro (i := 0) rfl) u121.2 v124 (hS129.own_ro (i := 1) rfl) _ hu132) rfl ?_
  rintro _ w133 ⟨rfl, hb134⟩
  refine ⟨_, rfl, ?_⟩
  have hB135 := hB128.trans (hb134.mono hB128.size)
  have hS136 := hS129.below hb134
  refine wl_move rfl rfl (wl_extract rfl rfl rfl (wl_extract rfl rfl rfl (wl_assign rfl rfl (wl_assign rfl rfl (WL.nil (fun a ha => hK131 _ _ (W.seq fun K138 hK138 => (W.region (wl_move rfl rfl (wl_move rfl rfl ?_)))) a ha))))))
  obtain ⟨u139, hu139, hF⟩ := bindE hF
  refine wl_call rfl Tryd.call25 (C_spec_AreCues w133 u121.1 v122 (hS136.own_ro (i := 0) rfl) u121.2 v124 (hS136.own_ro (i := 1) rfl) _ hu139) rfl ?_
  rintro _ w140 ⟨rfl, hb141⟩
  refine ⟨_, rfl, ?_⟩
  have hB142 := hB135.trans (hb141.mono hB135.size)
  have hS143 := hS136.below hb141
  refine wl_move rfl rfl (wl_extract rfl rfl rfl (wl_extract rfl rfl rfl (wl_assign rfl rfl (wl_assign rfl rfl (WL.nil (fun a ha => hK138 _ _ (W.seq fun K145 hK145 => (W.seq fun K146 hK146 => ?_)) a ha))))))
  obtain ⟨k151, hk151, hF⟩ := jE1 hF
  have hJ152 : ∀ (y150 : Bool) (w147 : World) (_ : k151 y150 = some r) (_ : Below w0.heap.size w0 w147) (_ : Sep w0.heap.size w147 [R.own ty_39 F11 v10 u7.2, R.own ty_63 F34 v33 u32.1, R.own ty_39 F36 v35 u32.2.1, R.blk b42 39 [(.int .i64 u32.2.2.1), (.string (mkS u32.2.2.2))], R.own ty_39 F54 v53 u52.1, R.own ty_39 F63 v62 u61.1, R.own ty_63 F73 v72 u71.1, R.own ty_39 F75 v74 u71.2.1, R.own ty_39 F84 v83 u82.1, R.own ty_39 F93 v92 u91.1]), ∀ a, St 360 [(6, v10), (8, (.bool u18.2)), (9, (.string (mkS u25.1))), (11, v33), (12, v35), (13, (.pointer (some ⟨b42, 0, none⟩))), (14, v53), (15, (.bool u52.2)), (16, v62), (18, v72), (19, v74), (20, (.int .i64 u71.2.2.1)), (21, (.int .i64 u71.2.2.2.1)), (22, (.int .i64 u71.2.2.2.2)), (23, v83), (24, (.bool u82.2)), (25, v92), (29, (.bool u107.2)), (30, (.string (mkS u114.1))), (201, (.bool y150))] a → K146 a w147 := by
   intro y150 w147 hF hB148 hS149
   subst hk151
   refine fun a ha => hK146 _ _ (W.cond rfl (fun h153 => ?_) (fun h153 => ?_)) a ha
   ·replace hF := ifP h153 hF
    refine W.seq fun K154 hK154 => W.region (wl_assign rfl rfl (WL.nil (fun a ha => hK154 _ _ (W.ret ?_) a ha)))
    have hr := Option.some.inj hF
    subst hr
    exact rets (vs := [(.bool false)]) hQ rfl ⟨rv_tmp rfl, trivial⟩ ⟨rfl, hB148⟩
   ·replace hF := ifN h153 hF
    refine W.skip fun a ha => hK145 _ _ (W.seq fun K155 hK155 => (W.seq fun K156 hK156 => ?_)) a ha
    obtain ⟨k161, hk161, hF⟩ := jE1 hF
    have hJ162 : ∀ (y160 : Bool) (w157 : World) (_ : k161 y160 = some r) (_ : Below w0.heap.size w0 w157) (_ : Sep w0.heap.size w157 [R.own ty_39 F11 v10 u7.2, R.own ty_63 F34 v33 u32.1, R.own ty_39 F36 v35 u32.2.1, R.blk b42 39 [(.int .i64 u32.2.2.1), (.string (mkS u32.2.2.2))], R.own ty_39 F54 v53 u52.1, R.own ty_39 F63 v62 u61.1, R.own ty_63 F73 v72 u71.1, R.own ty_39 F75 v74 u71.2.1, R.own ty_39 F84 v83 u82.1, R.own ty_39 F93 v92 u91.1]), ∀ a, St 360 [(6, v10), (8, (.bool u18.2)), (9, (.string (mkS u25.1))), (11, v33), (12, v35), (13, (.pointer (some ⟨b42, 0, none⟩))), (14, v53), (15, (.bool u52.2)), (16, v62), (18, v72), (19, v74), (20, (.int .i64 u71.2.2.1)), (21, (.int .i64 u71.2.2.2.1)), (22, (.int .i64 u71.2.2.2.2)), (23, v83), (24, (.bool u82.2)), (25, v92), (207, (.bool y160))] a → K156 a w157 := by
     intro y160 w157 hF hB158 hS159
     subst hk161
     refine fun a ha => hK156 _ _ (W.cond rfl (fun h163 => ?_) (fun h163 => ?_)) a ha
     ·replace hF := ifP h163 hF
      refine W.seq fun K164 hK164 => W.region (wl_assign rfl rfl (WL.nil (fun a ha => hK164 _ _ (W.ret ?_) a ha)))
      have hr := Option.some.inj hF
      subst hr
      exact rets (vs := [(.bool false)]) hQ rfl ⟨rv_tmp rfl, trivial⟩ ⟨rfl, hB158⟩
     ·replace hF := ifN h163 hF
      refine W.skip fun a ha => hK155 _ _ (W.seq fun K165 hK165 => ?_) a ha
      obtain ⟨k169, hk169, hF⟩ := jE0 hF
      have hJ170 : ∀ (w166 : World) (_ : k169 = some r) (_ : Below w0.heap.size w0 w166) (_ : Sep w0.heap.size w166 [R.own ty_39 F11 v10 u7.2, R.own ty_63 F73 v72 u71.1, R.own ty_39 F75 v74 u71.2.1, R.own ty_39 F84 v83 u82.1, R.own ty_39 F93 v92 u91.1]), ∀ a, St 360 [(6, v10), (8, (.bool u18.2)), (9, (.string (mkS u25.1))), (18, v72), (19, v74), (20, (.int .i64 u71.2.2.1)), (21, (.int .i64 u71.2.2.2.1)), (22, (.int .i64 u71.2.2.2.2)), (23, v83), (24, (.bool u82.2)), (25, v92)] a → K165 a w166 := by
       intro w166 hF hB167 hS168
       subst hk169
       refine fun a ha => hK165 _ _ (W.seq fun K171 hK171 => ?_) a ha
       obtain ⟨k175, hk175, hF⟩ := jE0 hF
       have hJ176 : ∀ (w172 : World) (_ : k175 = some r) (_ : Below w0.heap.size w0 w172) (_ : Sep w0.heap.size w172 [R.own ty_39 F11 v10 u7.2]), ∀ a, St 360 [(6, v10), (8, (.bool u18.2)), (9, (.string (mkS u25.1)))] a → K171 a w172 := by
        intro w172 hF hB173 hS174
        subst hk175
        refine fun a ha => hK171 _ _ (W.seq fun K177 hK177 => (W.seq fun K178 hK178 => (W.region (wl_move rfl rfl (wl_not rfl rfl (WL.nil (fun a ha => hK178 _ _ (W.cond rfl (fun h179 => ?_) (fun h179 => ?_)) a ha))))))) a ha
        ·replace hF := ifP h179 hF
         refine W.seq fun K180 hK180 => W.region (wl_assign rfl rfl (WL.nil (fun a ha => hK180 _ _ (W.ret ?_) a ha)))
         have hr := Option.some.inj hF
         subst hr
         exact rets (vs := [(.bool true)]) hQ rfl ⟨rv_tmp rfl, trivial⟩ ⟨rfl, hB173⟩
        ·replace hF := ifN h179 hF
         refine W.skip fun a ha => hK177 _ _ (W.seq fun K181 hK181 => (W.region (wl_assign rfl rfl (WL.nil (fun a ha => hK181 _ _ (W.seq fun K182 hK182 => (W.seq fun K183 hK183 => (W.region (wl_assign rfl rfl (WL.nil (fun a ha => hK183 _ _ (W.block ?_) a ha)))))) a ha))))) a ha
         refine W.loopk (fun m a w184 => ∃ (y187 : Int) (y188 : Int), St 360 [(6, v10), (9, (.string (mkS u25.1))), (52, (.int .i64 y187)), (53, (.int .i64 y188))] a ∧ Below w0.heap.size w0 w184 ∧ Sep w0.heap.size w184 [R.own ty_39 F11 v10 u7.2] ∧ F_laws_FnCueTexts_L2 u25 u7 m y187 y188 = some r) FU ?_ ?_
         ·
          exact fun a ha => ⟨0, 0, ha.sub ⟨rfl, rfl, rfl, rfl, trivial⟩, hB173, (hS174.sel [0] rfl), hF⟩
         ·
          rintro m191 a w184 ⟨y187, y188, ha, hB185, hS186, hF⟩ KL190 hKL190
          refine W.at ?_ ha
          cases m191 with
          | zero => exact noneE hF
          | succ m191 =>
           obtain ⟨nx189, hnx189⟩ : ∃ k, k = F_laws_FnCueTexts_L2 u25 u7 m191 := ⟨_, rfl⟩
           rw [F_laws_FnCueTexts_L2, ← hnx189] at hF
           refine W.seq fun K192 hK192 => W.seq fun K193 hK193 => W.region (wl_move rfl rfl (wl_move rfl rfl (wl_strlen Tryd.underlying9 rfl rfl (wl_lss rfl rfl rfl (WL.nil (fun a ha => hK193 _ _ (W.cond rfl (fun h194 => ?_) (fun h194 => ?_)) a ha))))))
           ·replace hF := ifP h194 hF
            refine W.skip fun a ha => hK192 _ _ (W.seq fun K195 hK195 => ?_) a ha
            obtain ⟨k200, hk200, hF⟩ := jE1 hF
            have hJ201 : ∀ (y199 : Int) (w196 : World) (_ : k200 y199 = some r) (_ : Below w0.heap.size w0 w196) (_ : Sep w0.heap.size w196 [R.own ty_39 F11 v10 u7.2]), ∀ a, St 360 [(6, v10), (9, (.string (mkS u25.1))), (52, (.int .i64 y199)), (53, (.int .i64 y188))] a → K195 a w196 := by
             intro y199 w196 hF hB197 hS198
             subst hk200
             refine fun a ha => hK195 _ _ (W.region (wl_move rfl rfl (wl_add rfl rfl rfl (wl_assign rfl rfl (WL.nil ?_))))) a ha
             rw [hnx189] at hF
             exact fun a ha => hKL190 a _ m191 (Nat.lt_succ_self m191) ⟨y199, (w64 (y188 + 1)), ha.sub ⟨rfl, rfl, rfl, rfl, trivial⟩, hB197, (hS198.sel [0] rfl), hF⟩
            refine W.block (W.seq fun K202 hK202 => (W.region (wl_move rfl rfl (wl_move rfl rfl ?_))))
            obtain ⟨u203, hu203, hF⟩ := bindE hF
            refine wl_strindex Tryd.underlying9 rfl rfl rfl hu203 (wl_eql rfl rfl rfl (WL.nil (fun a ha => hK202 _ _ (W.cond rfl (fun h204 => ?_) (fun h204 => ?_)) a ha)))
            ·replace hF := ifP h204 hF
             refine W.region (wl_move rfl rfl (wl_add rfl rfl rfl (wl_assign rfl rfl (WL.nil ?_))))
             exact fun a ha => hJ201 ((w64 (y187 + 1))) _ hF hB185 (hS186.sel [0] rfl) a (ha.sub ⟨rfl, rfl, rfl, rfl, trivial⟩)
            ·replace hF := ifN h204 hF
             refine W.skip ?_
             exact fun a ha => hJ201 (y187) _ hF hB185 (hS186.sel [0] rfl) a (ha.sub ⟨rfl, rfl, rfl, rfl, trivial⟩)
           ·replace hF := ifN h194 hF
            refine W.exit fun a ha => hK182 _ _ (W.seq fun K205 hK205 => (W.region (wl_move rfl rfl (wl_move rfl rfl (wl_lenr (e := ty_39) (l := u7.2) Tryd.underlying30 rfl rfl (hS186.own_ro (i := 0) rfl) (wl_eql rfl rfl rfl (wl_assign rfl rfl (WL.nil (fun a ha => hK205 _ _ (W.ret ?_) a ha))))))))) a ha
            have hr := Option.some.inj hF
            subst hr
            exact rets (vs := [(.bool (y187 == (List.length u7.2 : Int)))]) hQ rfl ⟨rv_tmp rfl, trivial⟩ ⟨rfl, hB185⟩
       refine W.seq fun K206 hK206 => W.region (wl_move rfl rfl (WL.nil (fun a ha => hK206 _ _ (W.cond rfl (fun h207 => ?_) (fun h207 => ?_)) a ha)))
       ·replace hF := ifP h207 hF
        refine W.seq fun K208 hK208 => W.region (wl_move rfl rfl (wl_move rfl rfl (wl_move rfl rfl (wl_move rfl rfl ?_))))
        obtain ⟨u209, hu209, hF⟩ := bindE hF
        refine wl_call rfl Tryd.call29 (C_impl_RepeatMeasures w166 u71.1 v72 (hS168.own_ro (i := 1) rfl) u71.2.2.1 u71.2.2.2.1 u71.2.2.2.2 _ hu209) rfl ?_
        rintro _ w212 ⟨v210, F211, rfl, hb213, hM216⟩
        refine ⟨_, rfl, ?_⟩
        have hB214 := hB167.trans (hb213.mono hB167.size)
        have hS215 := hS168.join hb213 hM216 hB167.size
        refine wl_move rfl rfl (wl_extract rfl rfl rfl (wl_extract rfl rfl rfl (wl_assign rfl rfl (wl_assign rfl rfl (WL.nil (fun a ha => hK208 _ _ (W.seq fun K217 hK217 => (W.region (wl_move rfl rfl (wl_move rfl rfl (wl_move rfl rfl (wl_move rfl rfl ?_)))))) a ha))))))
        obtain ⟨u218, hu218, hF⟩ := bindE hF
        refine wl_call rfl Tryd.call30 (C_spec_RepeatMeasures w212 u71.1 v72 (hS215.own_ro (i := 2) rfl) u71.2.2.1 u71.2.2.2.1 u71.2.2.2.2 _ hu218) rfl ?_
        rintro _ w221 ⟨v219, F220, rfl, hb222, hM225⟩
        refine ⟨_, rfl, ?_⟩
        have hB223 := hB214.trans (hb222.mono hB214.size)
        have hS224 := hS215.join hb222 hM225 hB214.size
        refine wl_move rfl rfl (wl_extract rfl rfl rfl (wl_extract rfl rfl rfl (wl_assign rfl rfl (wl_assign rfl rfl (WL.nil (fun a ha => hK217 _ _ (W.seq fun K226 hK226 => (W.region (wl_move rfl rfl (wl_move rfl rfl ?_)))) a ha))))))
        obtain ⟨u227, hu227, hF⟩ := bindE hF
        refine wl_call rfl Tryd.call24 (C_impl_AreCues w221 u209.1 v210 (hS224.own_ro (i := 1) rfl) u82.1 v83 (hS224.own_ro (i := 5) rfl) _ hu227) rfl ?_
        rintro _ w228 ⟨rfl, hb229⟩
        refine ⟨_, rfl, ?_⟩
        have hB230 := hB223.trans (hb229.mono hB223.size)
        have hS231 := hS224.below hb229
        refine wl_move rfl rfl (wl_extract rfl rfl rfl (wl_extract rfl rfl rfl (wl_assign rfl rfl (wl_assign rfl rfl (WL.nil (fun a ha => hK226 _ _ (W.seq fun K233 hK233 => (W.seq fun K234 hK234 => ?_)) a ha))))))
        obtain ⟨k239, hk239, hF⟩ := jE1 hF
        have hJ240 : ∀ (y238 : Bool) (w235 : World) (_ : k239 y238 = some r) (_ : Below w0.heap.size w0 w235) (_ : Sep w0.heap.size w235 [R.own ty_39 F11 v10 u7.2, R.own ty_39 F75 v74 u71.2.1, R.own ty_39 F93 v92 u91.1]), ∀ a, St 360 [(6, v10), (8, (.bool u18.2)), (9, (.string (mkS u25.1))), (19, v74), (25, v92), (315, (.bool y238))] a → K234 a w235 := by
         intro y238 w235 hF hB236 hS237
         subst hk239
         refine fun a ha => hK234 _ _ (W.cond rfl (fun h241 => ?_) (fun h241 => ?_)) a ha
         ·replace hF := ifP h241 hF
          refine W.seq fun K242 hK242 => W.region (wl_assign rfl rfl (WL.nil (fun a ha => hK242 _ _ (W.ret ?_) a ha)))
          have hr := Option.some.inj hF
          subst hr
          exact rets (vs := [(.bool false)]) hQ rfl ⟨rv_tmp rfl, trivial⟩ ⟨rfl, hB236⟩
         ·replace hF := ifN h241 hF
          refine W.skip fun a ha => hK233 _ _ (W.seq fun K243 hK243 => (W.region (wl_move rfl rfl (wl_lenr (e := ty_39) (l := u91.1) Tryd.underlying30 rfl rfl (hS237.own_ro (i := 2) rfl) (wl_move rfl rfl (WL.nil (fun a ha => hK243 _ _ (W.block (W.loopk (fun m a w244 => ∃ (y247 : Int), St 360 [(6, v10), (8, (.bool u18.2)), (9, (.string (mkS u25.1))), (19, v74), (316, v92), (317, (.int .i64 (List.length u91.1 : Int))), (318, (.int .i64 y247))] a ∧ Below w0.heap.size w0 w244 ∧ Sep w0.heap.size w244 [R.own ty_39 F11 v10 u7.2, R.own ty_39 F75 v74 u71.2.1, R.own ty_39 F93 v92 u91.1] ∧ F_laws_FnCueTexts_L1 u91 u71 k175 m y247 = some r) FU ?_ ?_)) a ha))))))) a ha
          ·
           exact fun a ha => ⟨0, ha.sub ⟨rfl, rfl, rfl, rfl, rfl, rfl, rfl, trivial⟩, hB236, (hS237.sel [0, 1, 2] rfl), hF⟩
          ·
           rintro m250 a w244 ⟨y247, ha, hB245, hS246, hF⟩ KL249 hKL249
           refine W.at ?_ ha
           cases m250 with
           | zero => exact noneE hF
           | succ m250 =>
            obtain ⟨nx248, hnx248⟩ : ∃ k, k = F_laws_FnCueTexts_L1 u91 u71 k175 m250 := ⟨_, rfl⟩
            rw [F_laws_FnCueTexts_L1, ← hnx248] at hF
            refine W.seq fun K251 hK251 => W.region (wl_lss rfl rfl rfl (WL.nil (fun a ha => hK251 _ _ (W.seq fun K252 hK252 => (W.cond rfl (fun h253 => ?_) (fun h253 => ?_))) a ha)))
            ·replace hF := ifP h253 hF
             refine W.skip fun a ha => hK252 _ _ (W.seq fun K254 hK254 => (W.block (W.seq fun K255 hK255 => (W.region (wl_move rfl rfl ?_))))) a ha
             obtain ⟨u256, hu256, hF⟩ := bindE hF
             refine wl_indexo (e := ty_39) (i := 2) Tryd.underlying30 rfl rfl rfl hS246 rfl hu256 ?_
             rintro p257 _ rfl hp258 ho259
             refine wl_load_p (vs := [(.int .i64 u256.1), (.string (mkS u256.2))]) (v := (.agg #[(.int .i64 u256.1), (.string (mkS u256.2))])) tf_39 rfl rfl hp258 rfl rfl (wl_alloc (cs := [(.int .i64 0), (.string (mkS []))]) tf_39 rfl rfl hB245 hS246 ?_)
             intro b260 w261 hb262 hB263 hS264
             refine wl_assign rfl rfl (wl_store_blk (i := 0) (vs := [(.int .i64 u256.1), (.string (mkS u256.2))]) (cs' := [(.int .i64 u256.1), (.string (mkS u256.2))]) tf_39 rfl rfl rfl rfl hB263 hS264 rfl rfl ⟨rfl, rfl, trivial⟩ rfl ?_)
             intro w265 hk268 hB266 hS267
             refine WL.nil fun a ha => hK255 _ _ (W.seq fun K269 hK269 => ?_) a ha
             obtain ⟨k274, hk274, hF⟩ := jE1 hF
             have hJ275 : ∀ (y273 : Bool) (w270 : World) (_ : k274 y273 = some r) (_ : Below w0.heap.size w0 w270) (_ : Sep w0.heap.size w270 [R.own ty_39 F11 v10 u7.2, R.own ty_39 F75 v74 u71.2.1, R.own ty_39 F93 v92 u91.1]), ∀ a, St 360 [(6, v10), (8, (.bool u18.2)), (9, (.string (mkS u25.1))), (19, v74), (316, v92), (317, (.int .i64 (List.length u91.1 : Int))), (318, (.int .i64 y247)), (340, (.bool y273))] a → K269 a w270 := by
              intro y273 w270 hF hB271 hS272
              subst hk274
              refine fun a ha => hK269 _ _ (W.cond rfl (fun h276 => ?_) (fun h276 => ?_)) a ha
              ·replace hF := ifP h276 hF
               refine W.seq fun K277 hK277 => W.region (wl_assign rfl rfl (WL.nil (fun a ha => hK277 _ _ (W.ret ?_) a ha)))
               have hr := Option.some.inj hF
               subst hr
               exact rets (vs := [(.bool false)]) hQ rfl ⟨rv_tmp rfl, trivial⟩ ⟨rfl, hB271⟩
              ·replace hF := ifN h276 hF
               refine W.skip fun a ha => hK254 _ _ (W.region (wl_add rfl rfl rfl (wl_move rfl rfl (WL.nil ?_)))) a ha
               rw [hnx248] at hF
               exact fun a ha => hKL249 a _ m250 (Nat.lt_succ_self m250) ⟨(w64 (y247 + 1)), ha.sub ⟨rfl, rfl, rfl, rfl, rfl, rfl, rfl, trivial⟩, hB271, (hS272.sel [0, 1, 2] rfl), hF⟩
             refine W.regionH mixed_ [] hB266 hS267 ?_
             intro w278 hb279 hB280 hS281
             have hSW282 := KeepX.refl w278 []
             refine WH.tk 0 rfl hP hSW282 (pr_field (o := 1) (off' := 1) ff_39_1 rfl rfl rfl (WH.tk 1 rfl hP hSW282 (pr_load_blk (i := 0) (vs := [(.string (mkS u256.2))]) (v := (.string (mkS u256.2))) tf_9 rfl rfl hS281 rfl rfl rfl (by simp) (WH.tk 2 rfl hP hSW282 (pr_move rfl rfl (WH.tk 3 rfl hP hSW282 (pr_move rfl rfl ?_)))))))
             obtain ⟨u283, hu283, hF⟩ := bindE hF
             refine WH.tk 4 rfl hP hSW282 (pr_indexo (e := ty_39) (i := 2) Tryd.underlying30 rfl rfl rfl hS281 rfl hu283 ?_)
             rintro p284 _ rfl hp285 ho286
             refine WH.tk 5 rfl hP hSW282 (pr_fieldp (o := 1) ff_39_1 rfl rfl (WH.tk 6 rfl hP hSW282 (pr_load_p (vs := [(.string (mkS u283.2))]) (v := (.string (mkS u283.2))) tf_9 rfl rfl (EAt.addk (hp285.kx0) 1) rfl rfl (WH.tk 7 rfl hP hSW282 (pr_strneq rfl rfl rfl (WH.tk 8 rfl hP hSW282 (pr_move rfl rfl ?_)))))))
             rcases bE (u256.2 != u283.2) with h287 | h287
             ·replace hF := ifP h287 hF
              refine WH.off (i := 9) rfl (by kernel_rfl) (by kernel_rfl) (by kernel_rfl) hP rfl rfl h287 rfl hSW282 (WH.off (i := 10) rfl (by kernel_rfl) (by kernel_rfl) (by kernel_rfl) hP rfl rfl h287 rfl hSW282 (WH.off (i := 11) rfl (by kernel_rfl) (by kernel_rfl) (by kernel_rfl) hP rfl rfl h287 rfl hSW282 (WH.off (i := 12) rfl (by kernel_rfl) (by kernel_rfl) (by kernel_rfl) hP rfl rfl h287 rfl hSW282 (WH.off (i := 13) rfl (by kernel_rfl) (by kernel_rfl) (by kernel_rfl) hP rfl rfl h287 rfl hSW282 (WH.off (i := 14) rfl (by kernel_rfl) (by kernel_rfl) (by kernel_rfl) hP rfl rfl h287 rfl hSW282 (WH.off (i := 15) rfl (by kernel_rfl) (by kernel_rfl) (by kernel_rfl) hP rfl rfl h287 rfl hSW282 (WH.off (i := 16) rfl (by kernel_rfl) (by kernel_rfl) (by kernel_rfl) hP rfl rfl h287 rfl hSW282 (WH.tk 17 rfl hP hSW282 (pr_pick_t rfl rfl h287 rfl (WH.done (by kernel_rfl) ?_))))))))))
              exact fun a ha => hJ275 (true) _ hF hB280 (hS281.sel [1, 2, 3] rfl) a (ha.sub ⟨rfl, rfl, rfl, rfl, rfl, rfl, rfl, rfl, trivial⟩)
             ·replace hF := ifN h287 hF
              refine WH.takexg (i := 9) rfl (by kernel_rfl) (by kernel_rfl) (by kernel_rfl) hP rfl rfl h287 hSW282 (pr_field (o := 0) (off' := 0) ff_39_0 rfl rfl rfl (WH.takexg (i := 10) rfl (by kernel_rfl) (by kernel_rfl) (by kernel_rfl) hP rfl rfl h287 hSW282 (pr_load_blk (i := 0) (vs := [(.int .i64 u256.1)]) (v := (.int .i64 u256.1)) tf_3 rfl rfl hS281 rfl rfl rfl (by simp) (WH.takexg (i := 11) rfl (by kernel_rfl) (by kernel_rfl) (by kernel_rfl) hP rfl rfl h287 hSW282 (pr_move rfl rfl (WH.takexg (i := 12) rfl (by kernel_rfl) (by kernel_rfl) (by kernel_rfl) hP rfl rfl h287 hSW282 (pr_move rfl rfl ?_)))))))
              obtain ⟨u288, hu288, hF⟩ := bindE hF
              refine WH.takexg (i := 13) rfl (by kernel_rfl) (by kernel_rfl) (by kernel_rfl) hP rfl rfl h287 hSW282 (pr_indexo (e := ty_39) (i := 2) Tryd.underlying30 rfl rfl rfl hS281 rfl hu288 ?_)
              rintro p289 _ rfl hp290 ho291
              refine WH.takexg (i := 14) rfl (by kernel_rfl) (by kernel_rfl) (by kernel_rfl) hP rfl rfl h287 hSW282 (pr_fieldp (o := 0) ff_39_0 rfl rfl (WH.takexg (i := 15) rfl (by kernel_rfl) (by kernel_rfl) (by kernel_rfl) hP rfl rfl h287 hSW282 (pr_load_p (vs := [(.int .i64 u288.1)]) (v := (.int .i64 u288.1)) tf_3 rfl rfl (EAt.addk (hp290.kx0) 0) rfl rfl (WH.takexg (i := 16) rfl (by kernel_rfl) (by kernel_rfl) (by kernel_rfl) hP rfl rfl h287 hSW282 (pr_lss rfl rfl rfl (WH.tk 17 rfl hP hSW282 (pr_pick_f rfl rfl h287 rfl (WH.done (by kernel_rfl) ?_))))))))
              exact fun a ha => hJ275 ((decide (u256.1 < u288.1))) _ hF hB280 (hS281.sel [1, 2, 3] rfl) a (ha.sub ⟨rfl, rfl, rfl, rfl, rfl, rfl, rfl, rfl, trivial⟩)
            ·replace hF := ifN h253 hF
             refine W.exit ?_
             exact fun a ha => hJ176 _ hF hB245 (hS246.sel [0] rfl) a (ha.sub ⟨rfl, rfl, rfl, trivial⟩)
        refine W.region (wl_move rfl rfl (wl_not rfl rfl (wl_move rfl rfl ?_)))
        rcases bE (!u209.2) with h292 | h292
        ·replace hF := ifP h292 hF
         refine wl_off rfl rfl rfl h292 (wl_off rfl rfl rfl h292 (wl_pick_t rfl rfl h292 rfl (wl_move rfl rfl (wl_off rfl rfl rfl rfl (wl_off rfl rfl rfl rfl (wl_off rfl rfl rfl rfl (wl_off rfl rfl rfl rfl (wl_pick_t rfl rfl rfl rfl (wl_move rfl rfl (wl_off rfl rfl rfl rfl (wl_off rfl rfl rfl rfl (wl_pick_t rfl rfl rfl rfl (wl_move rfl rfl ?_)))))))))))))
         refine wl_off rfl rfl rfl rfl (wl_off rfl rfl rfl rfl (wl_pick_t rfl rfl rfl rfl (wl_move rfl rfl (wl_off rfl rfl rfl rfl (wl_off rfl rfl rfl rfl (wl_off rfl rfl rfl rfl (wl_off rfl rfl rfl rfl (wl_off rfl rfl rfl rfl (wl_pick_t rfl rfl rfl rfl (WL.nil ?_))))))))))
         exact fun a ha => hJ240 (true) _ hF hB230 (hS231.sel [2, 4, 6] rfl) a (ha.sub ⟨rfl, rfl, rfl, rfl, rfl, rfl, trivial⟩)
        ·replace hF := ifN h292 hF
         refine wl_on rfl rfl h292 (wl_move rfl rfl (wl_on rfl rfl h292 (wl_not rfl rfl (wl_pick_f rfl rfl h292 rfl (wl_move rfl rfl ?_)))))
         rcases bE (!u218.2) with h293 | h293
         ·replace hF := ifP h293 hF
          refine wl_off rfl rfl rfl h293 (wl_off rfl rfl rfl h293 (wl_off rfl rfl rfl h293 (wl_off rfl rfl rfl h293 (wl_pick_t rfl rfl h293 rfl (wl_move rfl rfl (wl_off rfl rfl rfl rfl (wl_off rfl rfl rfl rfl (wl_pick_t rfl rfl rfl rfl (wl_move rfl rfl (wl_off rfl rfl rfl rfl (wl_off rfl rfl rfl rfl (wl_pick_t rfl rfl rfl rfl (wl_move rfl rfl ?_)))))))))))))
          refine wl_off rfl rfl rfl rfl (wl_off rfl rfl rfl rfl (wl_off rfl rfl rfl rfl (wl_off rfl rfl rfl rfl (wl_off rfl rfl rfl rfl (wl_pick_t rfl rfl rfl rfl (WL.nil ?_))))))
          exact fun a ha => hJ240 (true) _ hF hB230 (hS231.sel [2, 4, 6] rfl) a (ha.sub ⟨rfl, rfl, rfl, rfl, rfl, rfl, trivial⟩)
         ·replace hF := ifN h293 hF
          refine wl_on rfl rfl h293 (wl_move rfl rfl (wl_on rfl rfl h293 (wl_move rfl rfl (wl_on rfl rfl h293 ?_))))
          obtain ⟨u294, hu294, hF⟩ := bindE hF
          refine wl_call rfl Tryd.call31 (C_laws_qMusic w228 u209.1 v210 (hS231.own_ro (i := 1) rfl) u218.1 v219 (hS231.own_ro (i := 0) rfl) _ hu294) rfl ?_
          rintro _ w295 ⟨rfl, hb296⟩
          refine ⟨_, rfl, ?_⟩
          have hB297 := hB230.trans (hb296.mono hB230.size)
          have hS298 := hS231.below hb296
          refine wl_on rfl rfl h293 (wl_not rfl rfl (wl_pick_f rfl rfl h293 rfl (wl_move rfl rfl ?_)))
          rcases bE (!u294) with h300 | h300
          ·replace hF := ifP h300 hF
           refine wl_off rfl rfl rfl h300 (wl_off rfl rfl rfl h300 (wl_pick_t rfl rfl h300 rfl (wl_move rfl rfl (wl_off rfl rfl rfl rfl (wl_off rfl rfl rfl rfl (wl_pick_t rfl rfl rfl rfl (wl_move rfl rfl (wl_off rfl rfl rfl rfl (wl_off rfl rfl rfl rfl (wl_off rfl rfl rfl rfl (wl_off rfl rfl rfl rfl (wl_off rfl rfl rfl rfl (wl_pick_t rfl rfl rfl rfl ?_)))))))))))))
           refine WL.nil ?_
           exact fun a ha => hJ240 (true) _ hF hB297 (hS298.sel [2, 4, 6] rfl) a (ha.sub ⟨rfl, rfl, rfl, rfl, rfl, rfl, trivial⟩)
          ·replace hF := ifN h300 hF
           refine wl_on rfl rfl h300 (wl_move rfl rfl (wl_on rfl rfl h300 (wl_not rfl rfl (wl_pick_f rfl rfl h300 rfl (wl_move rfl rfl ?_)))))
           rcases bE (!u227.2) with h301 | h301
           ·replace hF := ifP h301 hF
            refine wl_off rfl rfl rfl h301 (wl_off rfl rfl rfl h301 (wl_pick_t rfl rfl h301 rfl (wl_move rfl rfl (wl_off rfl rfl rfl rfl (wl_off rfl rfl rfl rfl (wl_off rfl rfl rfl rfl (wl_off rfl rfl rfl rfl (wl_off rfl rfl rfl rfl (wl_pick_t rfl rfl rfl rfl (WL.nil ?_))))))))))
            exact fun a ha => hJ240 (true) _ hF hB297 (hS298.sel [2, 4, 6] rfl) a (ha.sub ⟨rfl, rfl, rfl, rfl, rfl, rfl, trivial⟩)
           ·replace hF := ifN h301 hF
            refine wl_on rfl rfl h301 (wl_move rfl rfl (wl_on rfl rfl h301 (wl_not rfl rfl (wl_pick_f rfl rfl h301 rfl (wl_move rfl rfl ?_)))))
            rcases bE (!u227.1) with h302 | h302
            ·replace hF := ifP h302 hF
             refine wl_off rfl rfl rfl h302 (wl_off rfl rfl rfl h302 (wl_off rfl rfl rfl h302 (wl_off rfl rfl rfl h302 (wl_off rfl rfl rfl h302 (wl_pick_t rfl rfl h302 rfl (WL.nil ?_))))))
             exact fun a ha => hJ240 (true) _ hF hB297 (hS298.sel [2, 4, 6] rfl) a (ha.sub ⟨rfl, rfl, rfl, rfl, rfl, rfl, trivial⟩)
            ·replace hF := ifN h302 hF
             refine wl_on rfl rfl h302 (wl_move rfl rfl (wl_on rfl rfl h302 (wl_lenr (e := ty_39) (l := u91.1) Tryd.underlying30 rfl rfl (hS298.own_ro (i := 6) rfl) (wl_on rfl rfl h302 (wl_move rfl rfl (wl_on rfl rfl h302 (wl_lenr (e := ty_39) (l := u71.2.1) Tryd.underlying30 rfl rfl (hS298.own_ro (i := 4) rfl) (wl_on rfl rfl h302 (wl_neq rfl rfl rfl (wl_pick_f rfl rfl h302 rfl (WL.nil ?_)))))))))))
             exact fun a ha => hJ240 (((List.length u91.1 : Int) != (List.length u71.2.1 : Int))) _ hF hB297 (hS298.sel [2, 4, 6] rfl) a (ha.sub ⟨rfl, rfl, rfl, rfl, rfl, rfl, trivial⟩)
       ·replace hF := ifN h207 hF
        refine W.skip ?_
        exact fun a ha => hJ176 _ hF hB167 (hS168.sel [0] rfl) a (ha.sub ⟨rfl, rfl, rfl, trivial⟩)
      refine W.seq fun K303 hK303 => W.region (wl_move rfl rfl (WL.nil (fun a ha => hK303 _ _ (W.cond rfl (fun h304 => ?_) (fun h304 => ?_)) a ha)))
      ·replace hF := ifP h304 hF
       refine W.seq fun K305 hK305 => W.region (wl_move rfl rfl (wl_move rfl rfl ?_))
       obtain ⟨u306, hu306, hF⟩ := bindE hF
       refine wl_call rfl Tryd.call24 (C_impl_AreCues w157 u32.1 v33 (hS159.own_ro (i := 1) rfl) u52.1 v53 (hS159.own_ro (i := 4) rfl) _ hu306) rfl ?_
       rintro _ w307 ⟨rfl, hb308⟩
       refine ⟨_, rfl, ?_⟩
       have hB309 := hB158.trans (hb308.mono hB158.size)
       have hS310 := hS159.below hb308
       refine wl_move rfl rfl (wl_extract rfl rfl rfl (wl_extract rfl rfl rfl (wl_assign rfl rfl (wl_assign rfl rfl (WL.nil (fun a ha => hK305 _ _ (W.seq fun K312 hK312 => (W.region (wl_move rfl rfl (wl_move rfl rfl (wl_field (o := 0) (off' := 0) ff_39_0 rfl rfl rfl (wl_load_blk (i := 3) (vs := [(.int .i64 u32.2.2.1)]) (v := (.int .i64 u32.2.2.1)) tf_3 rfl rfl hS310 rfl rfl rfl ?_)))))) a ha))))))
       obtain ⟨u313, hu313, hF⟩ := bindE hF
       refine wl_call rfl Tryd.call27 (C_impl_NextCue w307 u32.1 v33 (hS310.own_ro (i := 1) rfl) u52.1 v53 (hS310.own_ro (i := 4) rfl) u32.2.2.1 _ hu313) rfl ?_
       rintro _ w314 ⟨rfl, hb315⟩
       refine ⟨_, rfl, ?_⟩
       have hB316 := hB309.trans (hb315.mono hB309.size)
       have hS317 := hS310.below hb315
       refine wl_move rfl rfl (wl_extract rfl rfl rfl (wl_extract rfl rfl rfl (wl_assign rfl rfl (wl_assign rfl rfl (WL.nil (fun a ha => hK312 _ _ (W.seq fun K319 hK319 => (W.region (wl_move rfl rfl (wl_move rfl rfl (wl_field (o := 0) (off' := 0) ff_39_0 rfl rfl rfl (wl_load_blk (i := 3) (vs := [(.int .i64 u32.2.2.1)]) (v := (.int .i64 u32.2.2.1)) tf_3 rfl rfl hS317 rfl rfl rfl ?_)))))) a ha))))))
       obtain ⟨u320, hu320, hF⟩ := bindE hF
       refine wl_call rfl Tryd.call28 (C_spec_NextCue w314 u32.1 v33 (hS317.own_ro (i := 1) rfl) u61.1 v62 (hS317.own_ro (i := 5) rfl) u32.2.2.1 _ hu320) rfl ?_
       rintro _ w321 ⟨rfl, hb322⟩
       refine ⟨_, rfl, ?_⟩
       have hB323 := hB316.trans (hb322.mono hB316.size)
       have hS324 := hS317.below hb322
       refine wl_move rfl rfl (wl_extract rfl rfl rfl (wl_extract rfl rfl rfl (wl_assign rfl rfl (wl_assign rfl rfl (WL.nil (fun a ha => hK319 _ _ (W.seq fun K326 hK326 => ?_) a ha))))))
       obtain ⟨k331, hk331, hF⟩ := jE1 hF
       have hJ332 : ∀ (y330 : Bool) (w327 : World) (_ : k331 y330 = some r) (_ : Below w0.heap.size w0 w327) (_ : Sep w0.heap.size w327 [R.own ty_39 F11 v10 u7.2, R.own ty_63 F73 v72 u71.1, R.own ty_39 F75 v74 u71.2.1, R.own ty_39 F84 v83 u82.1, R.own ty_39 F93 v92 u91.1]), ∀ a, St 360 [(6, v10), (8, (.bool u18.2)), (9, (.string (mkS u25.1))), (18, v72), (19, v74), (20, (.int .i64 u71.2.2.1)), (21, (.int .i64 u71.2.2.2.1)), (22, (.int .i64 u71.2.2.2.2)), (23, v83), (24, (.bool u82.2)), (25, v92), (265, (.bool y330))] a → K326 a w327 := by
        intro y330 w327 hF hB328 hS329
        subst hk331
        refine fun a ha => hK326 _ _ (W.cond rfl (fun h333 => ?_) (fun h333 => ?_)) a ha
        ·replace hF := ifP h333 hF
         refine W.seq fun K334 hK334 => W.region (wl_assign rfl rfl (WL.nil (fun a ha => hK334 _ _ (W.ret ?_) a ha)))
         have hr := Option.some.inj hF
         subst hr
         exact rets (vs := [(.bool false)]) hQ rfl ⟨rv_tmp rfl, trivial⟩ ⟨rfl, hB328⟩
        ·replace hF := ifN h333 hF
         refine W.skip ?_
         exact fun a ha => hJ170 _ hF hB328 (hS329.sel [0, 1, 2, 3, 4] rfl) a (ha.sub ⟨rfl, rfl, rfl, rfl, rfl, rfl, rfl, rfl, rfl, rfl, rfl, trivial⟩)
       refine W.regionH mixed_ [] hB323 hS324 ?_
       intro w335 hb336 hB337 hS338
       have hSW339 := KeepX.refl w335 []
       refine WH.tk 0 rfl hP hSW339 (pr_move rfl rfl (WH.tk 1 rfl hP hSW339 (pr_not rfl rfl (WH.tk 2 rfl hP hSW339 (pr_move rfl rfl ?_)))))
       rcases bE (!u306.2) with h340 | h340
       ·replace hF := ifP h340 hF
        refine WH.off (i := 3) rfl (by kernel_rfl) (by kernel_rfl) (by kernel_rfl) hP rfl rfl h340 rfl hSW339 (WH.off (i := 4) rfl (by kernel_rfl) (by kernel_rfl) (by kernel_rfl) hP rfl rfl h340 rfl hSW339 (WH.tk 5 rfl hP hSW339 (pr_pick_t rfl rfl h340 rfl (WH.tk 6 rfl hP hSW339 (pr_move rfl rfl (WH.off (i := 7) rfl (by kernel_rfl) (by kernel_rfl) (by kernel_rfl) hP rfl rfl rfl rfl hSW339 (WH.off (i := 8) rfl (by kernel_rfl) (by kernel_rfl) (by kernel_rfl) hP rfl rfl rfl rfl hSW339 (WH.tk 9 rfl hP hSW339 (pr_pick_t rfl rfl rfl rfl (WH.tk 10 rfl hP hSW339 (pr_move rfl rfl (WH.off (i := 11) rfl (by kernel_rfl) (by kernel_rfl) (by kernel_rfl) hP rfl rfl rfl rfl hSW339 (WH.off (i := 12) rfl (by kernel_rfl) (by kernel_rfl) (by kernel_rfl) hP rfl rfl rfl rfl hSW339 ?_)))))))))))))
        refine WH.tk 13 rfl hP hSW339 (pr_pick_t rfl rfl rfl rfl (WH.tk 14 rfl hP hSW339 (pr_move rfl rfl (WH.off (i := 15) rfl (by kernel_rfl) (by kernel_rfl) (by kernel_rfl) hP rfl rfl rfl rfl hSW339 (WH.off (i := 16) rfl (by kernel_rfl) (by kernel_rfl) (by kernel_rfl) hP rfl rfl rfl rfl hSW339 (WH.off (i := 17) rfl (by kernel_rfl) (by kernel_rfl) (by kernel_rfl) hP rfl rfl rfl rfl hSW339 (WH.tk 18 rfl hP hSW339 (pr_pick_t rfl rfl rfl rfl (WH.tk 19 rfl hP hSW339 (pr_move rfl rfl (WH.off (i := 20) rfl (by kernel_rfl) (by kernel_rfl) (by kernel_rfl) hP rfl rfl rfl rfl hSW339 (WH.off (i := 21) rfl (by kernel_rfl) (by kernel_rfl) (by kernel_rfl) hP rfl rfl rfl rfl hSW339 (WH.off (i := 22) rfl (by kernel_rfl) (by kernel_rfl) (by kernel_rfl) hP rfl rfl rfl rfl hSW339 ?_)))))))))))))
        refine WH.off (i := 23) rfl (by kernel_rfl) (by kernel_rfl) (by kernel_rfl) hP rfl rfl rfl rfl hSW339 (WH.off (i := 24) rfl (by kernel_rfl) (by kernel_rfl) (by kernel_rfl) hP rfl rfl rfl rfl hSW339 (WH.off (i := 25) rfl (by kernel_rfl) (by kernel_rfl) (by kernel_rfl) hP rfl rfl rfl rfl hSW339 (WH.tk 26 rfl hP hSW339 (pr_pick_t rfl rfl rfl rfl (WH.tk 27 rfl hP hSW339 (pr_move rfl rfl (WH.off (i := 28) rfl (by kernel_rfl) (by kernel_rfl) (by kernel_rfl) hP rfl rfl rfl rfl hSW339 (WH.off (i := 29) rfl (by kernel_rfl) (by kernel_rfl) (by kernel_rfl) hP rfl rfl rfl rfl hSW339 (WH.off (i := 30) rfl (by kernel_rfl) (by kernel_rfl) (by kernel_rfl) hP rfl rfl rfl rfl hSW339 (WH.off (i := 31) rfl (by kernel_rfl) (by kernel_rfl) (by kernel_rfl) hP rfl rfl rfl rfl hSW339 (WH.off (i := 32) rfl (by kernel_rfl) (by kernel_rfl) (by kernel_rfl) hP rfl rfl rfl rfl hSW339 ?_)))))))))))
        refine WH.off (i := 33) rfl (by kernel_rfl) (by kernel_rfl) (by kernel_rfl) hP rfl rfl rfl rfl hSW339 (WH.tk 34 rfl hP hSW339 (pr_pick_t rfl rfl rfl rfl (WH.done (by kernel_rfl) ?_)))
        exact fun a ha => hJ332 (true) _ hF hB337 (hS338.sel [0, 6, 7, 8, 9] rfl) a (ha.sub ⟨rfl, rfl, rfl, rfl, rfl, rfl, rfl, rfl, rfl, rfl, rfl, rfl, trivial⟩)
       ·replace hF := ifN h340 hF
        refine WH.takexg (i := 3) rfl (by kernel_rfl) (by kernel_rfl) (by kernel_rfl) hP rfl rfl h340 hSW339 (pr_move rfl rfl (WH.takexg (i := 4) rfl (by kernel_rfl) (by kernel_rfl) (by kernel_rfl) hP rfl rfl h340 hSW339 (pr_not rfl rfl (WH.tk 5 rfl hP hSW339 (pr_pick_f rfl rfl h340 rfl (WH.tk 6 rfl hP hSW339 (pr_move rfl rfl ?_)))))))
        rcases bE (!u306.1) with h341 | h341
        ·replace hF := ifP h341 hF
         refine WH.off (i := 7) rfl (by kernel_rfl) (by kernel_rfl) (by kernel_rfl) hP rfl rfl h341 rfl hSW339 (WH.off (i := 8) rfl (by kernel_rfl) (by kernel_rfl) (by kernel_rfl) hP rfl rfl h341 rfl hSW339 (WH.tk 9 rfl hP hSW339 (pr_pick_t rfl rfl h341 rfl (WH.tk 10 rfl hP hSW339 (pr_move rfl rfl (WH.off (i := 11) rfl (by kernel_rfl) (by kernel_rfl) (by kernel_rfl) hP rfl rfl rfl rfl hSW339 (WH.off (i := 12) rfl (by kernel_rfl) (by kernel_rfl) (by kernel_rfl) hP rfl rfl rfl rfl hSW339 (WH.tk 13 rfl hP hSW339 (pr_pick_t rfl rfl rfl rfl (WH.tk 14 rfl hP hSW339 (pr_move rfl rfl (WH.off (i := 15) rfl (by kernel_rfl) (by kernel_rfl) (by kernel_rfl) hP rfl rfl rfl rfl hSW339 (WH.off (i := 16) rfl (by kernel_rfl) (by kernel_rfl) (by kernel_rfl) hP rfl rfl rfl rfl hSW339 ?_)))))))))))))
         refine WH.off (i := 17) rfl (by kernel_rfl) (by kernel_rfl) (by kernel_rfl) hP rfl rfl rfl rfl hSW339 (WH.tk 18 rfl hP hSW339 (pr_pick_t rfl rfl rfl rfl (WH.tk 19 rfl hP hSW339 (pr_move rfl rfl (WH.off (i := 20) rfl (by kernel_rfl) (by kernel_rfl) (by kernel_rfl) hP rfl rfl rfl rfl hSW339 (WH.off (i := 21) rfl (by kernel_rfl) (by kernel_rfl) (by kernel_rfl) hP rfl rfl rfl rfl hSW339 (WH.off (i := 22) rfl (by kernel_rfl) (by kernel_rfl) (by kernel_rfl) hP rfl rfl rfl rfl hSW339 (WH.off (i := 23) rfl (by kernel_rfl) (by kernel_rfl) (by kernel_rfl) hP rfl rfl rfl rfl hSW339 (WH.off (i := 24) rfl (by kernel_rfl) (by kernel_rfl) (by kernel_rfl) hP rfl rfl rfl rfl hSW339 (WH.off (i := 25) rfl (by kernel_rfl) (by kernel_rfl) (by kernel_rfl) hP rfl rfl rfl rfl hSW339 (WH.tk 26 rfl hP hSW339 (pr_pick_t rfl rfl rfl rfl (WH.tk 27 rfl hP hSW339 ?_)))))))))))))
         refine pr_move rfl rfl (WH.off (i := 28) rfl (by kernel_rfl) (by kernel_rfl) (by kernel_rfl) hP rfl rfl rfl rfl hSW339 (WH.off (i := 29) rfl (by kernel_rfl) (by kernel_rfl) (by kernel_rfl) hP rfl rfl rfl rfl hSW339 (WH.off (i := 30) rfl (by kernel_rfl) (by kernel_rfl) (by kernel_rfl) hP rfl rfl rfl rfl hSW339 (WH.off (i := 31) rfl (by kernel_rfl) (by kernel_rfl) (by kernel_rfl) hP rfl rfl rfl rfl hSW339 (WH.off (i := 32) rfl (by kernel_rfl) (by kernel_rfl) (by kernel_rfl) hP rfl rfl rfl rfl hSW339 (WH.off (i := 33) rfl (by kernel_rfl) (by kernel_rfl) (by kernel_rfl) hP rfl rfl rfl rfl hSW339 (WH.tk 34 rfl hP hSW339 (pr_pick_t rfl rfl rfl rfl (WH.done (by kernel_rfl) ?_)))))))))
         exact fun a ha => hJ332 (true) _ hF hB337 (hS338.sel [0, 6, 7, 8, 9] rfl) a (ha.sub ⟨rfl, rfl, rfl, rfl, rfl, rfl, rfl, rfl, rfl, rfl, rfl, rfl, trivial⟩)
        ·replace hF := ifN h341 hF
         refine WH.takexg (i := 7) rfl (by kernel_rfl) (by kernel_rfl) (by kernel_rfl) hP rfl rfl h341 hSW339 (pr_move rfl rfl (WH.takexg (i := 8) rfl (by kernel_rfl) (by kernel_rfl) (by kernel_rfl) hP rfl rfl h341 hSW339 (pr_not rfl rfl (WH.tk 9 rfl hP hSW339 (pr_pick_f rfl rfl h341 rfl (WH.tk 10 rfl hP hSW339 (pr_move rfl rfl ?_)))))))
         rcases bE (!u313.2) with h342 | h342
         ·replace hF := ifP h342 hF
          refine WH.off (i := 11) rfl (by kernel_rfl) (by kernel_rfl) (by kernel_rfl) hP rfl rfl h342 rfl hSW339 (WH.off (i := 12) rfl (by kernel_rfl) (by kernel_rfl) (by kernel_rfl) hP rfl rfl h342 rfl hSW339 (WH.tk 13 rfl hP hSW339 (pr_pick_t rfl rfl h342 rfl (WH.tk 14 rfl hP hSW339 (pr_move rfl rfl (WH.off (i := 15) rfl (by kernel_rfl) (by kernel_rfl) (by kernel_rfl) hP rfl rfl rfl rfl hSW339 (WH.off (i := 16) rfl (by kernel_rfl) (by kernel_rfl) (by kernel_rfl) hP rfl rfl rfl rfl hSW339 (WH.off (i := 17) rfl (by kernel_rfl) (by kernel_rfl) (by kernel_rfl) hP rfl rfl rfl rfl hSW339 (WH.tk 18 rfl hP hSW339 (pr_pick_t rfl rfl rfl rfl (WH.tk 19 rfl hP hSW339 (pr_move rfl rfl (WH.off (i := 20) rfl (by kernel_rfl) (by kernel_rfl) (by kernel_rfl) hP rfl rfl rfl rfl hSW339 ?_)))))))))))))
          refine WH.off (i := 21) rfl (by kernel_rfl) (by kernel_rfl) (by kernel_rfl) hP rfl rfl rfl rfl hSW339 (WH.off (i := 22) rfl (by kernel_rfl) (by kernel_rfl) (by kernel_rfl) hP rfl rfl rfl rfl hSW339 (WH.off (i := 23) rfl (by kernel_rfl) (by kernel_rfl) (by kernel_rfl) hP rfl rfl rfl rfl hSW339 (WH.off (i := 24) rfl (by kernel_rfl) (by kernel_rfl) (by kernel_rfl) hP rfl rfl rfl rfl hSW339 (WH.off (i := 25) rfl (by kernel_rfl) (by kernel_rfl) (by kernel_rfl) hP rfl rfl rfl rfl hSW339 (WH.tk 26 rfl hP hSW339 (pr_pick_t rfl rfl rfl rfl (WH.tk 27 rfl hP hSW339 (pr_move rfl rfl (WH.off (i := 28) rfl (by kernel_rfl) (by kernel_rfl) (by kernel_rfl) hP rfl rfl rfl rfl hSW339 (WH.off (i := 29) rfl (by kernel_rfl) (by kernel_rfl) (by kernel_rfl) hP rfl rfl rfl rfl hSW339 (WH.off (i := 30) rfl (by kernel_rfl) (by kernel_rfl) (by kernel_rfl) hP rfl rfl rfl rfl hSW339 ?_)))))))))))
          refine WH.off (i := 31) rfl (by kernel_rfl) (by kernel_rfl) (by kernel_rfl) hP rfl rfl rfl rfl hSW339 (WH.off (i := 32) rfl (by kernel_rfl) (by kernel_rfl) (by kernel_rfl) hP rfl rfl rfl rfl hSW339 (WH.off (i := 33) rfl (by kernel_rfl) (by kernel_rfl) (by kernel_rfl) hP rfl rfl rfl rfl hSW339 (WH.tk 34 rfl hP hSW339 (pr_pick_t rfl rfl rfl rfl (WH.done (by kernel_rfl) ?_)))))
          exact fun a ha => hJ332 (true) _ hF hB337 (hS338.sel [0, 6, 7, 8, 9] rfl) a (ha.sub ⟨rfl, rfl, rfl, rfl, rfl, rfl, rfl, rfl, rfl, rfl, rfl, rfl, trivial⟩)
         ·replace hF := ifN h342 hF
          refine WH.takexg (i := 11) rfl (by kernel_rfl) (by kernel_rfl) (by kernel_rfl) hP rfl rfl h342 hSW339 (pr_move rfl rfl (WH.takexg (i := 12) rfl (by kernel_rfl) (by kernel_rfl) (by kernel_rfl) hP rfl rfl h342 hSW339 (pr_not rfl rfl (WH.tk 13 rfl hP hSW339 (pr_pick_f rfl rfl h342 rfl (WH.tk 14 rfl hP hSW339 (pr_move rfl rfl ?_)))))))
          rcases bE (!u320.2) with h343 | h343
          ·replace hF := ifP h343 hF
           refine WH.off (i := 15) rfl (by kernel_rfl) (by kernel_rfl) (by kernel_rfl) hP rfl rfl h343 rfl hSW339 (WH.off (i := 16) rfl (by kernel_rfl) (by kernel_rfl) (by kernel_rfl) hP rfl rfl h343 rfl hSW339 (WH.off (i := 17) rfl (by kernel_rfl) (by kernel_rfl) (by kernel_rfl) hP rfl rfl h343 rfl hSW339 (WH.tk 18 rfl hP hSW339 (pr_pick_t rfl rfl h343 rfl (WH.tk 19 rfl hP hSW339 (pr_move rfl rfl (WH.off (i := 20) rfl (by kernel_rfl) (by kernel_rfl) (by kernel_rfl) hP rfl rfl rfl rfl hSW339 (WH.off (i := 21) rfl (by kernel_rfl) (by kernel_rfl) (by kernel_rfl) hP rfl rfl rfl rfl hSW339 (WH.off (i := 22) rfl (by kernel_rfl) (by kernel_rfl) (by kernel_rfl) hP rfl rfl rfl rfl hSW339 (WH.off (i := 23) rfl (by kernel_rfl) (by kernel_rfl) (by kernel_rfl) hP rfl rfl rfl rfl hSW339 (WH.off (i := 24) rfl (by kernel_rfl) (by kernel_rfl) (by kernel_rfl) hP rfl rfl rfl rfl hSW339 ?_)))))))))))
           refine WH.off (i := 25) rfl (by kernel_rfl) (by kernel_rfl) (by kernel_rfl) hP rfl rfl rfl rfl hSW339 (WH.tk 26 rfl hP hSW339 (pr_pick_t rfl rfl rfl rfl (WH.tk 27 rfl hP hSW339 (pr_move rfl rfl (WH.off (i := 28) rfl (by kernel_rfl) (by kernel_rfl) (by kernel_rfl) hP rfl rfl rfl rfl hSW339 (WH.off (i := 29) rfl (by kernel_rfl) (by kernel_rfl) (by kernel_rfl) hP rfl rfl rfl rfl hSW339 (WH.off (i := 30) rfl (by kernel_rfl) (by kernel_rfl) (by kernel_rfl) hP rfl rfl rfl rfl hSW339 (WH.off (i := 31) rfl (by kernel_rfl) (by kernel_rfl) (by kernel_rfl) hP rfl rfl rfl rfl hSW339 (WH.off (i := 32) rfl (by kernel_rfl) (by kernel_rfl) (by kernel_rfl) hP rfl rfl rfl rfl hSW339 (WH.off (i := 33) rfl (by kernel_rfl) (by kernel_rfl) (by kernel_rfl) hP rfl rfl rfl rfl hSW339 (WH.tk 34 rfl hP hSW339 (pr_pick_t rfl rfl rfl rfl (WH.done (by kernel_rfl) ?_)))))))))))))
           exact fun a ha => hJ332 (true) _ hF hB337 (hS338.sel [0, 6, 7, 8, 9] rfl) a (ha.sub ⟨rfl, rfl, rfl, rfl, rfl, rfl, rfl, rfl, rfl, rfl, rfl, rfl, trivial⟩)
          ·replace hF := ifN h343 hF
           refine WH.takexg (i := 15) rfl (by kernel_rfl) (by kernel_rfl) (by kernel_rfl) hP rfl rfl h343 hSW339 (pr_move rfl rfl (WH.takexg (i := 16) rfl (by kernel_rfl) (by kernel_rfl) (by kernel_rfl) hP rfl rfl h343 hSW339 (pr_move rfl rfl (WH.takexg (i := 17) rfl (by kernel_rfl) (by kernel_rfl) (by kernel_rfl) hP rfl rfl h343 hSW339 (pr_neq rfl rfl rfl (WH.tk 18 rfl hP hSW339 (pr_pick_f rfl rfl h343 rfl (WH.tk 19 rfl hP hSW339 (pr_move rfl rfl ?_)))))))))
           rcases bE (u313.1 != u320.1) with h344 | h344
           ·replace hF := ifP h344 hF
            refine WH.off (i := 20) rfl (by kernel_rfl) (by kernel_rfl) (by kernel_rfl) hP rfl rfl h344 rfl hSW339 (WH.off (i := 21) rfl (by kernel_rfl) (by kernel_rfl) (by kernel_rfl) hP rfl rfl h344 rfl hSW339 (WH.off (i := 22) rfl (by kernel_rfl) (by kernel_rfl) (by kernel_rfl) hP rfl rfl h344 rfl hSW339 (WH.off (i := 23) rfl (by kernel_rfl) (by kernel_rfl) (by kernel_rfl) hP rfl rfl h344 rfl hSW339 (WH.off (i := 24) rfl (by kernel_rfl) (by kernel_rfl) (by kernel_rfl) hP rfl rfl h344 rfl hSW339 (WH.off (i := 25) rfl (by kernel_rfl) (by kernel_rfl) (by kernel_rfl) hP rfl rfl h344 rfl hSW339 (WH.tk 26 rfl hP hSW339 (pr_pick_t rfl rfl h344 rfl (WH.tk 27 rfl hP hSW339 (pr_move rfl rfl (WH.off (i := 28) rfl (by kernel_rfl) (by kernel_rfl) (by kernel_rfl) hP rfl rfl rfl rfl hSW339 (WH.off (i := 29) rfl (by kernel_rfl) (by kernel_rfl) (by kernel_rfl) hP rfl rfl rfl rfl hSW339 ?_)))))))))))
            refine WH.off (i := 30) rfl (by kernel_rfl) (by kernel_rfl) (by kernel_rfl) hP rfl rfl rfl rfl hSW339 (WH.off (i := 31) rfl (by kernel_rfl) (by kernel_rfl) (by kernel_rfl) hP rfl rfl rfl rfl hSW339 (WH.off (i := 32) rfl (by kernel_rfl) (by kernel_rfl) (by kernel_rfl) hP rfl rfl rfl rfl hSW339 (WH.off (i := 33) rfl (by kernel_rfl) (by kernel_rfl) (by kernel_rfl) hP rfl rfl rfl rfl hSW339 (WH.tk 34 rfl hP hSW339 (pr_pick_t rfl rfl rfl rfl (WH.done (by kernel_rfl) ?_))))))
            exact fun a ha => hJ332 (true) _ hF hB337 (hS338.sel [0, 6, 7, 8, 9] rfl) a (ha.sub ⟨rfl, rfl, rfl, rfl, rfl, rfl, rfl, rfl, rfl, rfl, rfl, rfl, trivial⟩)
           ·replace hF := ifN h344 hF
            refine WH.takexg (i := 20) rfl (by kernel_rfl) (by kernel_rfl) (by kernel_rfl) hP rfl rfl h344 hSW339 (pr_move rfl rfl (WH.takexg (i := 21) rfl (by kernel_rfl) (by kernel_rfl) (by kernel_rfl) hP rfl rfl h344 hSW339 (pr_move rfl rfl ?_)))
            obtain ⟨u345, hu345, hF⟩ := bindE hF
            refine WH.takexg (i := 22) rfl (by kernel_rfl) (by kernel_rfl) (by kernel_rfl) hP rfl rfl h344 hSW339 (pr_indexo (e := ty_39) (i := 5) Tryd.underlying30 rfl rfl rfl hS338 rfl hu345 ?_)
            rintro p346 _ rfl hp347 ho348
            refine WH.takexg (i := 23) rfl (by kernel_rfl) (by kernel_rfl) (by kernel_rfl) hP rfl rfl h344 hSW339 (pr_load_p (vs := [(.int .i64 u345.1), (.string (mkS u345.2))]) (v := (.agg #[(.int .i64 u345.1), (.string (mkS u345.2))])) tf_39 rfl rfl (hp347.kx0) rfl rfl (WH.takexg (i := 24) rfl (by kernel_rfl) (by kernel_rfl) (by kernel_rfl) hP rfl rfl h344 hSW339 (pr_load_blk (i := 3) (vs := [(.int .i64 u32.2.2.1), (.string (mkS u32.2.2.2))]) (v := (.agg #[(.int .i64 u32.2.2.1), (.string (mkS u32.2.2.2))])) tf_39 rfl rfl hS338 rfl rfl rfl (by simp) (WH.takexg (i := 25) rfl (by kernel_rfl) (by kernel_rfl) (by kernel_rfl) hP rfl rfl h344 hSW339 (pr_nes Tryd.eqGuardType39 (eq_39 u345 u32.2.2) rfl rfl rfl (WH.tk 26 rfl hP hSW339 (pr_pick_f rfl rfl h344 rfl (WH.tk 27 rfl hP hSW339 (pr_move rfl rfl ?_)))))))))
            rcases bE (!(eqv_Cue u345 u32.2.2)) with h349 | h349
            ·replace hF := ifP h349 hF
             refine WH.off (i := 28) rfl (by kernel_rfl) (by kernel_rfl) (by kernel_rfl) hP rfl rfl h349 rfl hSW339 (WH.off (i := 29) rfl (by kernel_rfl) (by kernel_rfl) (by kernel_rfl) hP rfl rfl h349 rfl hSW339 (WH.off (i := 30) rfl (by kernel_rfl) (by kernel_rfl) (by kernel_rfl) hP rfl rfl h349 rfl hSW339 (WH.off (i := 31) rfl (by kernel_rfl) (by kernel_rfl) (by kernel_rfl) hP rfl rfl h349 rfl hSW339 (WH.off (i := 32) rfl (by kernel_rfl) (by kernel_rfl) (by kernel_rfl) hP rfl rfl h349 rfl hSW339 (WH.off (i := 33) rfl (by kernel_rfl) (by kernel_rfl) (by kernel_rfl) hP rfl rfl h349 rfl hSW339 (WH.tk 34 rfl hP hSW339 (pr_pick_t rfl rfl h349 rfl (WH.done (by kernel_rfl) ?_))))))))
             exact fun a ha => hJ332 (true) _ hF hB337 (hS338.sel [0, 6, 7, 8, 9] rfl) a (ha.sub ⟨rfl, rfl, rfl, rfl, rfl, rfl, rfl, rfl, rfl, rfl, rfl, rfl, trivial⟩)
            ·replace hF := ifN h349 hF
             refine WH.takexg (i := 28) rfl (by kernel_rfl) (by kernel_rfl) (by kernel_rfl) hP rfl rfl h349 hSW339 (pr_move rfl rfl (WH.takexg (i := 29) rfl (by kernel_rfl) (by kernel_rfl) (by kernel_rfl) hP rfl rfl h349 hSW339 (pr_lenr (e := ty_39) (l := u61.1) Tryd.underlying30 rfl rfl (hS338.own_ro (i := 5) rfl) (WH.takexg (i := 30) rfl (by kernel_rfl) (by kernel_rfl) (by kernel_rfl) hP rfl rfl h349 hSW339 (pr_move rfl rfl (WH.takexg (i := 31) rfl (by kernel_rfl) (by kernel_rfl) (by kernel_rfl) hP rfl rfl h349 hSW339 (pr_lenr (e := ty_39) (l := u32.2.1) Tryd.underlying30 rfl rfl (hS338.own_ro (i := 2) rfl) (WH.takexg (i := 32) rfl (by kernel_rfl) (by kernel_rfl) (by kernel_rfl) hP rfl rfl h349 hSW339 (pr_add rfl rfl rfl (WH.takexg (i := 33) rfl (by kernel_rfl) (by kernel_rfl) (by kernel_rfl) hP rfl rfl h349 hSW339 (pr_neq rfl rfl rfl (WH.tk 34 rfl hP hSW339 (pr_pick_f rfl rfl h349 rfl ?_)))))))))))))
             refine WH.done (by kernel_rfl) ?_
             exact fun a ha => hJ332 (((List.length u61.1 : Int) != (w64 ((List.length u32.2.1 : Int) + 1)))) _ hF hB337 (hS338.sel [0, 6, 7, 8, 9] rfl) a (ha.sub ⟨rfl, rfl, rfl, rfl, rfl, rfl, rfl, rfl, rfl, rfl, rfl, rfl, trivial⟩)
      ·replace hF := ifN h304 hF
       refine W.skip ?_
       exact fun a ha => hJ170 _ hF hB158 (hS159.sel [0, 6, 7, 8, 9] rfl) a (ha.sub ⟨rfl, rfl, rfl, rfl, rfl, rfl, rfl, rfl, rfl, rfl, rfl, trivial⟩)
    refine W.region (wl_move rfl rfl (wl_move rfl rfl ?_))
    rcases bE u107.2 with h350 | h350
    ·replace hF := ifP h350 hF
     refine wl_on rfl rfl h350 (wl_move rfl rfl (wl_on rfl rfl h350 (wl_strlen Tryd.underlying9 rfl rfl (wl_on rfl rfl h350 (wl_lss rfl rfl rfl (wl_pick_t rfl rfl h350 rfl (WL.nil ?_)))))))
     exact fun a ha => hJ162 ((decide ((List.length u114.1 : Int) < 8))) _ hF hB148 (hS149.sel [0, 1, 2, 3, 4, 5, 6, 7, 8, 9] rfl) a (ha.sub ⟨rfl, rfl, rfl, rfl, rfl, rfl, rfl, rfl, rfl, rfl, rfl, rfl, rfl, rfl, rfl, rfl, rfl, rfl, trivial⟩)
    ·replace hF := ifN h350 hF
     refine wl_off rfl rfl rfl h350 (wl_off rfl rfl rfl h350 (wl_off rfl rfl rfl h350 (wl_pick_f rfl rfl h350 rfl (WL.nil ?_))))
     exact fun a ha => hJ162 (false) _ hF hB148 (hS149.sel [0, 1, 2, 3, 4, 5, 6, 7, 8, 9] rfl) a (ha.sub ⟨rfl, rfl, rfl, rfl, rfl, rfl, rfl, rfl, rfl, rfl, rfl, rfl, rfl, rfl, rfl, rfl, rfl, rfl, trivial⟩)
  refine W.region (wl_move rfl rfl (wl_move rfl rfl (wl_neqb Tryd.underlying4 rfl rfl rfl (wl_move rfl rfl ?_))))
  rcases bE (u18.2 != u25.2) with h351 | h351
  ·replace hF := ifP h351 hF
   refine wl_off rfl rfl rfl h351 (wl_off rfl rfl rfl h351 (wl_off rfl rfl rfl h351 (wl_pick_t rfl rfl h351 rfl (wl_move rfl rfl (wl_off rfl rfl rfl rfl (wl_off rfl rfl rfl rfl (wl_off rfl rfl rfl rfl (wl_pick_t rfl rfl rfl rfl (wl_move rfl rfl (wl_off rfl rfl rfl rfl (wl_off rfl rfl rfl rfl (wl_off rfl rfl rfl rfl (wl_off rfl rfl rfl rfl ?_)))))))))))))
   refine wl_pick_t rfl rfl rfl rfl (wl_move rfl rfl (wl_off rfl rfl rfl rfl (wl_off rfl rfl rfl rfl (wl_off rfl rfl rfl rfl (wl_pick_t rfl rfl rfl rfl (wl_move rfl rfl (wl_off rfl rfl rfl rfl (wl_off rfl rfl rfl rfl (wl_off rfl rfl rfl rfl (wl_off rfl rfl rfl rfl (wl_pick_t rfl rfl rfl rfl (wl_move rfl rfl (wl_off rfl rfl rfl rfl ?_)))))))))))))
   refine wl_off rfl rfl rfl rfl (wl_off rfl rfl rfl rfl (wl_pick_t rfl rfl rfl rfl (wl_move rfl rfl (wl_off rfl rfl rfl rfl (wl_off rfl rfl rfl rfl (wl_off rfl rfl rfl rfl (wl_pick_t rfl rfl rfl rfl (wl_move rfl rfl (wl_off rfl rfl rfl rfl (wl_off rfl rfl rfl rfl (wl_off rfl rfl rfl rfl (wl_pick_t rfl rfl rfl rfl (wl_move rfl rfl ?_)))))))))))))
   refine wl_off rfl rfl rfl rfl (wl_off rfl rfl rfl rfl (wl_off rfl rfl rfl rfl (wl_pick_t rfl rfl rfl rfl (WL.nil ?_))))
   exact fun a ha => hJ152 (true) _ hF hB142 (hS143.sel [12, 9, 10, 8, 7, 6, 4, 5, 3, 2] rfl) a (ha.sub ⟨rfl, rfl, rfl, rfl, rfl, rfl, rfl, rfl, rfl, rfl, rfl, rfl, rfl, rfl, rfl, rfl, rfl, rfl, rfl, rfl, trivial⟩)
  ·replace hF := ifN h351 hF
   refine wl_on rfl rfl h351 (wl_move rfl rfl (wl_on rfl rfl h351 (wl_move rfl rfl (wl_on rfl rfl h351 (wl_strneq rfl rfl rfl (wl_pick_f rfl rfl h351 rfl (wl_move rfl rfl ?_)))))))
   rcases bE (u18.1 != u25.1) with h352 | h352
   ·replace hF := ifP h352 hF
    refine wl_off rfl rfl rfl h352 (wl_off rfl rfl rfl h352 (wl_off rfl rfl rfl h352 (wl_pick_t rfl rfl h352 rfl (wl_move rfl rfl (wl_off rfl rfl rfl rfl (wl_off rfl rfl rfl rfl (wl_off rfl rfl rfl rfl (wl_off rfl rfl rfl rfl (wl_pick_t rfl rfl rfl rfl (wl_move rfl rfl (wl_off rfl rfl rfl rfl (wl_off rfl rfl rfl rfl (wl_off rfl rfl rfl rfl ?_)))))))))))))
    refine wl_pick_t rfl rfl rfl rfl (wl_move rfl rfl (wl_off rfl rfl rfl rfl (wl_off rfl rfl rfl rfl (wl_off rfl rfl rfl rfl (wl_off rfl rfl rfl rfl (wl_pick_t rfl rfl rfl rfl (wl_move rfl rfl (wl_off rfl rfl rfl rfl (wl_off rfl rfl rfl rfl (wl_off rfl rfl rfl rfl (wl_pick_t rfl rfl rfl rfl (wl_move rfl rfl (wl_off rfl rfl rfl rfl ?_)))))))))))))
    refine wl_off rfl rfl rfl rfl (wl_off rfl rfl rfl rfl (wl_pick_t rfl rfl rfl rfl (wl_move rfl rfl (wl_off rfl rfl rfl rfl (wl_off rfl rfl rfl rfl (wl_off rfl rfl rfl rfl (wl_pick_t rfl rfl rfl rfl (wl_move rfl rfl (wl_off rfl rfl rfl rfl (wl_off rfl rfl rfl rfl (wl_off rfl rfl rfl rfl (wl_pick_t rfl rfl rfl rfl (WL.nil ?_)))))))))))))
    exact fun a ha => hJ152 (true) _ hF hB142 (hS143.sel [12, 9, 10, 8, 7, 6, 4, 5, 3, 2] rfl) a (ha.sub ⟨rfl, rfl, rfl, rfl, rfl, rfl, rfl, rfl, rfl, rfl, rfl, rfl, rfl, rfl, rfl, rfl, rfl, rfl, rfl, rfl, trivial⟩)
   ·replace hF := ifN h352 hF
    refine wl_on rfl rfl h352 (wl_move rfl rfl (wl_on rfl rfl h352 (wl_move rfl rfl (wl_on rfl rfl h352 (wl_neqb Tryd.underlying4 rfl rfl rfl (wl_pick_f rfl rfl h352 rfl (wl_move rfl rfl ?_)))))))
    rcases bE (u52.2 != u61.2) with h353 | h353
    ·replace hF := ifP h353 hF
     refine wl_off rfl rfl rfl h353 (wl_off rfl rfl rfl h353 (wl_off rfl rfl rfl h353 (wl_off rfl rfl rfl h353 (wl_pick_t rfl rfl h353 rfl (wl_move rfl rfl (wl_off rfl rfl rfl rfl (wl_off rfl rfl rfl rfl (wl_off rfl rfl rfl rfl (wl_pick_t rfl rfl rfl rfl (wl_move rfl rfl (wl_off rfl rfl rfl rfl (wl_off rfl rfl rfl rfl (wl_off rfl rfl rfl rfl ?_)))))))))))))
     refine wl_off rfl rfl rfl rfl (wl_pick_t rfl rfl rfl rfl (wl_move rfl rfl (wl_off rfl rfl rfl rfl (wl_off rfl rfl rfl rfl (wl_off rfl rfl rfl rfl (wl_pick_t rfl rfl rfl rfl (wl_move rfl rfl (wl_off rfl rfl rfl rfl (wl_off rfl rfl rfl rfl (wl_off rfl rfl rfl rfl (wl_pick_t rfl rfl rfl rfl (wl_move rfl rfl (wl_off rfl rfl rfl rfl ?_)))))))))))))
     refine wl_off rfl rfl rfl rfl (wl_off rfl rfl rfl rfl (wl_pick_t rfl rfl rfl rfl (wl_move rfl rfl (wl_off rfl rfl rfl rfl (wl_off rfl rfl rfl rfl (wl_off rfl rfl rfl rfl (wl_pick_t rfl rfl rfl rfl (WL.nil ?_))))))))
     exact fun a ha => hJ152 (true) _ hF hB142 (hS143.sel [12, 9, 10, 8, 7, 6, 4, 5, 3, 2] rfl) a (ha.sub ⟨rfl, rfl, rfl, rfl, rfl, rfl, rfl, rfl, rfl, rfl, rfl, rfl, rfl, rfl, rfl, rfl, rfl, rfl, rfl, rfl, trivial⟩)
    ·replace hF := ifN h353 hF
     refine wl_on rfl rfl h353 (wl_move rfl rfl (wl_on rfl rfl h353 (wl_move rfl rfl (wl_on rfl rfl h353 ?_))))
     obtain ⟨u354, hu354, hF⟩ := bindE hF
     refine wl_call rfl Tryd.call26 (C_laws_qCues w140 u52.1 v53 (hS143.own_ro (i := 7) rfl) u61.1 v62 (hS143.own_ro (i := 6) rfl) _ hu354) rfl ?_
     rintro _ w355 ⟨rfl, hb356⟩
     refine ⟨_, rfl, ?_⟩
     have hB357 := hB142.trans (hb356.mono hB142.size)
     have hS358 := hS143.below hb356
     refine wl_on rfl rfl h353 (wl_not rfl rfl (wl_pick_f rfl rfl h353 rfl (wl_move rfl rfl ?_)))
     rcases bE (!u354) with h360 | h360
     ·replace hF := ifP h360 hF
      refine wl_off rfl rfl rfl h360 (wl_off rfl rfl rfl h360 (wl_off rfl rfl rfl h360 (wl_pick_t rfl rfl h360 rfl (wl_move rfl rfl (wl_off rfl rfl rfl rfl (wl_off rfl rfl rfl rfl (wl_off rfl rfl rfl rfl (wl_off rfl rfl rfl rfl (wl_pick_t rfl rfl rfl rfl (wl_move rfl rfl (wl_off rfl rfl rfl rfl (wl_off rfl rfl rfl rfl (wl_off rfl rfl rfl rfl ?_)))))))))))))
      refine wl_pick_t rfl rfl rfl rfl (wl_move rfl rfl (wl_off rfl rfl rfl rfl (wl_off rfl rfl rfl rfl (wl_off rfl rfl rfl rfl (wl_pick_t rfl rfl rfl rfl (wl_move rfl rfl (wl_off rfl rfl rfl rfl (wl_off rfl rfl rfl rfl (wl_off rfl rfl rfl rfl (wl_pick_t rfl rfl rfl rfl (wl_move rfl rfl (wl_off rfl rfl rfl rfl (wl_off rfl rfl rfl rfl ?_)))))))))))))
      refine wl_off rfl rfl rfl rfl (wl_pick_t rfl rfl rfl rfl (WL.nil ?_))
      exact fun a ha => hJ152 (true) _ hF hB357 (hS358.sel [12, 9, 10, 8, 7, 6, 4, 5, 3, 2] rfl) a (ha.sub ⟨rfl, rfl, rfl, rfl, rfl, rfl, rfl, rfl, rfl, rfl, rfl, rfl, rfl, rfl, rfl, rfl, rfl, rfl, rfl, rfl, trivial⟩)
     ·replace hF := ifN h360 hF
      refine wl_on rfl rfl h360 (wl_move rfl rfl (wl_on rfl rfl h360 (wl_move rfl rfl (wl_on rfl rfl h360 (wl_neqb Tryd.underlying4 rfl rfl rfl (wl_pick_f rfl rfl h360 rfl (wl_move rfl rfl ?_)))))))
      rcases bE (u82.2 != u91.2) with h361 | h361
      ·replace hF := ifP h361 hF
       refine wl_off rfl rfl rfl h361 (wl_off rfl rfl rfl h361 (wl_off rfl rfl rfl h361 (wl_off rfl rfl rfl h361 (wl_pick_t rfl rfl h361 rfl (wl_move rfl rfl (wl_off rfl rfl rfl rfl (wl_off rfl rfl rfl rfl (wl_off rfl rfl rfl rfl (wl_pick_t rfl rfl rfl rfl (wl_move rfl rfl (wl_off rfl rfl rfl rfl (wl_off rfl rfl rfl rfl (wl_off rfl rfl rfl rfl ?_)))))))))))))
       refine wl_pick_t rfl rfl rfl rfl (wl_move rfl rfl (wl_off rfl rfl rfl rfl (wl_off rfl rfl rfl rfl (wl_off rfl rfl rfl rfl (wl_pick_t rfl rfl rfl rfl (wl_move rfl rfl (wl_off rfl rfl rfl rfl (wl_off rfl rfl rfl rfl (wl_off rfl rfl rfl rfl (wl_pick_t rfl rfl rfl rfl (WL.nil ?_)))))))))))
       exact fun a ha => hJ152 (true) _ hF hB357 (hS358.sel [12, 9, 10, 8, 7, 6, 4, 5, 3, 2] rfl) a (ha.sub ⟨rfl, rfl, rfl, rfl, rfl, rfl, rfl, rfl, rfl, rfl, rfl, rfl, rfl, rfl, rfl, rfl, rfl, rfl, rfl, rfl, trivial⟩)
      ·replace hF := ifN h361 hF
       refine wl_on rfl rfl h361 (wl_move rfl rfl (wl_on rfl rfl h361 (wl_move rfl rfl (wl_on rfl rfl h361 ?_))))
       obtain ⟨u362, hu362, hF⟩ := bindE hF
       refine wl_call rfl Tryd.call26 (C_laws_qCues w355 u82.1 v83 (hS358.own_ro (i := 3) rfl) u91.1 v92 (hS358.own_ro (i := 2) rfl) _ hu362) rfl ?_
       rintro _ w363 ⟨rfl, hb364⟩
       refine ⟨_, rfl, ?_⟩
       have hB365 := hB357.trans (hb364.mono hB357.size)
       have hS366 := hS358.below hb364
       refine wl_on rfl rfl h361 (wl_not rfl rfl (wl_pick_f rfl rfl h361 rfl (wl_move rfl rfl ?_)))
       rcases bE (!u362) with h368 | h368
       ·replace hF := ifP h368 hF
        refine wl_off rfl rfl rfl h368 (wl_off rfl rfl rfl h368 (wl_off rfl rfl rfl h368 (wl_pick_t rfl rfl h368 rfl (wl_move rfl rfl (wl_off rfl rfl rfl rfl (wl_off rfl rfl rfl rfl (wl_off rfl rfl rfl rfl (wl_pick_t rfl rfl rfl rfl (wl_move rfl rfl (wl_off rfl rfl rfl rfl (wl_off rfl rfl rfl rfl (wl_off rfl rfl rfl rfl (wl_pick_t rfl rfl rfl rfl ?_)))))))))))))
        refine wl_move rfl rfl (wl_off rfl rfl rfl rfl (wl_off rfl rfl rfl rfl (wl_off rfl rfl rfl rfl (wl_pick_t rfl rfl rfl rfl (WL.nil ?_)))))
        exact fun a ha => hJ152 (true) _ hF hB365 (hS366.sel [12, 9, 10, 8, 7, 6, 4, 5, 3, 2] rfl) a (ha.sub ⟨rfl, rfl, rfl, rfl, rfl, rfl, rfl, rfl, rfl, rfl, rfl, rfl, rfl, rfl, rfl, rfl, rfl, rfl, rfl, rfl, trivial⟩)
       ·replace hF := ifN h368 hF
        refine wl_on rfl rfl h368 (wl_move rfl rfl (wl_on rfl rfl h368 (wl_move rfl rfl (wl_on rfl rfl h368 (wl_neqb Tryd.underlying4 rfl rfl rfl (wl_pick_f rfl rfl h368 rfl (wl_move rfl rfl ?_)))))))
        rcases bE (u107.2 != u114.2) with h369 | h369
        ·replace hF := ifP h369 hF
         refine wl_off rfl rfl rfl h369 (wl_off rfl rfl rfl h369 (wl_off rfl rfl rfl h369 (wl_pick_t rfl rfl h369 rfl (wl_move rfl rfl (wl_off rfl rfl rfl rfl (wl_off rfl rfl rfl rfl (wl_off rfl rfl rfl rfl (wl_pick_t rfl rfl rfl rfl (wl_move rfl rfl (wl_off rfl rfl rfl rfl (wl_off rfl rfl rfl rfl (wl_off rfl rfl rfl rfl (wl_pick_t rfl rfl rfl rfl ?_)))))))))))))
         refine WL.nil ?_
         exact fun a ha => hJ152 (true) _ hF hB365 (hS366.sel [12, 9, 10, 8, 7, 6, 4, 5, 3, 2] rfl) a (ha.sub ⟨rfl, rfl, rfl, rfl, rfl, rfl, rfl, rfl, rfl, rfl, rfl, rfl, rfl, rfl, rfl, rfl, rfl, rfl, rfl, rfl, trivial⟩)
        ·replace hF := ifN h369 hF
         refine wl_on rfl rfl h369 (wl_move rfl rfl (wl_on rfl rfl h369 (wl_move rfl rfl (wl_on rfl rfl h369 (wl_strneq rfl rfl rfl (wl_pick_f rfl rfl h369 rfl (wl_move rfl rfl ?_)))))))
         rcases bE (u107.1 != u114.1) with h370 | h370
         ·replace hF := ifP h370 hF
          refine wl_off rfl rfl rfl h370 (wl_off rfl rfl rfl h370 (wl_off rfl rfl rfl h370 (wl_pick_t rfl rfl h370 rfl (wl_move rfl rfl (wl_off rfl rfl rfl rfl (wl_off rfl rfl rfl rfl (wl_off rfl rfl rfl rfl (wl_pick_t rfl rfl rfl rfl (WL.nil ?_)))))))))
          exact fun a ha => hJ152 (true) _ hF hB365 (hS366.sel [12, 9, 10, 8, 7, 6, 4, 5, 3, 2] rfl) a (ha.sub ⟨rfl, rfl, rfl, rfl, rfl, rfl, rfl, rfl, rfl, rfl, rfl, rfl, rfl, rfl, rfl, rfl, rfl, rfl, rfl, rfl, trivial⟩)
         ·replace hF := ifN h370 hF
          refine wl_on rfl rfl h370 (wl_move rfl rfl (wl_on rfl rfl h370 (wl_move rfl rfl (wl_on rfl rfl h370 (wl_neqb Tryd.underlying4 rfl rfl rfl (wl_pick_f rfl rfl h370 rfl (wl_move rfl rfl ?_)))))))
          rcases bE (u132.2 != u139.2) with h371 | h371
          ·replace hF := ifP h371 hF
           refine wl_off rfl rfl rfl h371 (wl_off rfl rfl rfl h371 (wl_off rfl rfl rfl h371 (wl_pick_t rfl rfl h371 rfl (WL.nil ?_))))
           exact fun a ha => hJ152 (true) _ hF hB365 (hS366.sel [12, 9, 10, 8, 7, 6, 4, 5, 3, 2] rfl) a (ha.sub ⟨rfl, rfl, rfl, rfl, rfl, rfl, rfl, rfl, rfl, rfl, rfl, rfl, rfl, rfl, rfl, rfl, rfl, rfl, rfl, rfl, trivial⟩)
          ·replace hF := ifN h371 hF
           refine wl_on rfl rfl h371 (wl_move rfl rfl (wl_on rfl rfl h371 (wl_move rfl rfl (wl_on rfl rfl h371 (wl_neqb Tryd.underlying4 rfl rfl rfl (wl_pick_f rfl rfl h371 rfl (WL.nil ?_)))))))
           exact fun a ha => hJ152 ((u132.1 != u139.1)) _ hF hB365 (hS366.sel [12, 9, 10, 8, 7, 6, 4, 5, 3, 2] rfl) a (ha.sub ⟨rfl, rfl, rfl, rfl, rfl, rfl, rfl, rfl, rfl, rfl, rfl, rfl, rfl, rfl, rfl, rfl, rfl, rfl, rfl, rfl, trivial⟩)
end Go.Proofs.YtejhnpimhjmpdaaDoor
