/-
  THE WALKS of functions of this seat, by program (gen.py, prune.py).
-/
import Derived.Test.YtmkignciedkidaaGreatWXFnMarchese
set_option linter.unusedSimpArgs false
set_option linter.unusedVariables false
set_option maxRecDepth 100000
set_option maxHeartbeats 1600000
namespace Go.Proofs.YtmkignciedkidaaGreat
open Go Go.RowKit
theorem C_laws_FnMarches (w0 : World) (x0 : (List Int)) (v0_0 : Value) (h0_0 : rdS ty_5 (· < w0.heap.size) w0 v0_0 x0) (x1 : (List Int)) (v1_0 : Value) (h1_0 : rdS ty_5 (· < w0.heap.size) w0 v1_0 x1) (r : Bool) (hF : F_laws_FnMarches x0 x1 = some r) :
  Calls Tryz.prog 3 [v0_0, v1_0].toArray w0 fun e w' => e = .returned (.bool r) ∧ Below w0.heap.size w0 w' := by
 refine calls_mk' Tryz.func3 rfl Tryz.ntmps3 rfl rfl fun Q hQ hP => ?_
 have hB : Below w0.heap.size w0 w0 := Below.refl _ _
 have hS : Sep w0.heap.size w0 [] := Sep.nil _ _
 unfold F_laws_FnMarches at hF
 refine W.seq fun K1 hK1 => W.region (wl_assign rfl rfl (WL.nil (fun a ha => hK1 _ _ (W.seq fun K2 hK2 => (W.seq fun K3 hK3 => (W.region (wl_move rfl rfl (wl_move rfl rfl ?_))))) a ha)))
 obtain ⟨u4, hu4, hF⟩ := bindE hF
 refine wl_call rfl Tryz.call4 (C_laws_big w0 x0 v0_0 (h0_0.ro hB) x1 v1_0 (h1_0.ro hB) _ hu4) rfl ?_
 rintro _ w5 ⟨rfl, hb6⟩
 refine ⟨_, rfl, ?_⟩
 have hB7 := hB.trans (hb6.mono hB.size)
 have hS8 := hS.below hb6
 refine WL.nil fun a ha => hK3 _ _ (W.cond rfl (fun h10 => ?_) (fun h10 => ?_)) a ha
 ·replace hF := ifP h10 hF
  refine W.seq fun K11 hK11 => W.region (wl_assign rfl rfl (WL.nil (fun a ha => hK11 _ _ (W.ret ?_) a ha)))
  have hr := Option.some.inj hF
  subst hr
  exact rets (vs := [(.bool true)]) hQ rfl ⟨rv_tmp rfl, trivial⟩ ⟨rfl, hB7⟩
 ·replace hF := ifN h10 hF
  refine W.skip fun a ha => hK2 _ _ (W.seq fun K12 hK12 => (W.region (wl_move rfl rfl ?_))) a ha
  obtain ⟨u13, hu13, hF⟩ := bindE hF
  refine wl_call rfl Tryz.call5 (C_spec_DrawRunBeats w5 x0 v0_0 (h0_0.ro hB7) _ hu13) rfl ?_
  rintro _ w24 ⟨v14, F15, v16, F17, v18, F19, v20, F21, v22, F23, rfl, hb25, hM28⟩
  refine ⟨_, rfl, ?_⟩
  have hB26 := hB7.trans (hb25.mono hB7.size)
  have hS27 := hS8.join hb25 hM28 hB7.size
  refine wl_move rfl rfl (wl_extract rfl rfl rfl (wl_extract rfl rfl rfl (wl_alloc (cs := [(.slice none 0 0), (.slice none 0 0), (.int .i64 0), (.int .i64 0), (.int .i64 0), (.slice none 0 0), (.slice none 0 0)]) tf_29 rfl rfl hB26 hS27 ?_)))
  intro b29 w30 hb31 hB32 hS33
  refine wl_store_blk (i := 0) (vs := [v14, v16, (.int .i64 u13.1.1.2.2.1), (.int .i64 u13.1.1.2.2.2), (.int .i64 u13.1.2.1), v18, v20]) (cs' := [v14, v16, (.int .i64 u13.1.1.2.2.1), (.int .i64 u13.1.1.2.2.2), (.int .i64 u13.1.2.1), v18, v20]) tf_29 rfl rfl rfl rfl hB32 hS33 rfl rfl ⟨(hS33.own_ro (i := 1) rfl).one, (hS33.own_ro (i := 2) rfl).one, rfl, rfl, rfl, (hS33.own_ro (i := 3) rfl).one, (hS33.own_ro (i := 4) rfl).one, trivial⟩ rfl ?_
  intro w34 hk37 hB35 hS36
  refine wl_assign rfl rfl (WL.nil (fun a ha => hK12 _ _ (W.seq fun K38 hK38 => (W.region (wl_load_blk (i := 0) (vs := [v14, v16, (.int .i64 u13.1.1.2.2.1), (.int .i64 u13.1.1.2.2.2), (.int .i64 u13.1.2.1), v18, v20]) (v := (.agg #[v14, v16, (.int .i64 u13.1.1.2.2.1), (.int .i64 u13.1.1.2.2.2), (.int .i64 u13.1.2.1), v18, v20])) tf_29 rfl rfl hS36 rfl rfl rfl (wl_move rfl rfl ?_)))) a ha))
  obtain ⟨u39, hu39, hF⟩ := bindE hF
  refine wl_call rfl Tryz.call6 (C_impl_RunBeats w34 u13.1 v14 (hS36.own_ro (i := 1) rfl) v16 (hS36.own_ro (i := 2) rfl) v18 (hS36.own_ro (i := 3) rfl) v20 (hS36.own_ro (i := 4) rfl) u13.2 v22 (hS36.own_ro (i := 5) rfl) _ hu39) rfl ?_
  rintro _ w48 ⟨v40, F41, v42, F43, v44, F45, v46, F47, rfl, hb49, hM52⟩
  refine ⟨_, rfl, ?_⟩
  have hB50 := hB35.trans (hb49.mono hB35.size)
  have hS51 := hS36.join hb49 hM52 hB35.size
  refine wl_move rfl rfl (wl_extract rfl rfl rfl (wl_extract rfl rfl rfl (wl_extract rfl rfl rfl (wl_alloc (cs := [(.slice none 0 0), (.slice none 0 0), (.int .i64 0), (.int .i64 0), (.int .i64 0), (.slice none 0 0), (.slice none 0 0)]) tf_29 rfl rfl hB50 hS51 ?_))))
  intro b53 w54 hb55 hB56 hS57
  refine wl_store_blk (i := 0) (vs := [v40, v42, (.int .i64 u39.1.1.2.2.1), (.int .i64 u39.1.1.2.2.2), (.int .i64 u39.1.2.1), v44, v46]) (cs' := [v40, v42, (.int .i64 u39.1.1.2.2.1), (.int .i64 u39.1.1.2.2.2), (.int .i64 u39.1.2.1), v44, v46]) tf_29 rfl rfl rfl rfl hB56 hS57 rfl rfl ⟨(hS57.own_ro (i := 1) rfl).one, (hS57.own_ro (i := 2) rfl).one, rfl, rfl, rfl, (hS57.own_ro (i := 3) rfl).one, (hS57.own_ro (i := 4) rfl).one, trivial⟩ rfl ?_
  intro w58 hk61 hB59 hS60
  refine wl_assign rfl rfl (wl_assign rfl rfl (WL.nil (fun a ha => hK38 _ _ (W.seq fun K62 hK62 => (W.region (wl_load_blk (i := 5) (vs := [v14, v16, (.int .i64 u13.1.1.2.2.1), (.int .i64 u13.1.1.2.2.2), (.int .i64 u13.1.2.1), v18, v20]) (v := (.agg #[v14, v16, (.int .i64 u13.1.1.2.2.1), (.int .i64 u13.1.1.2.2.2), (.int .i64 u13.1.2.1), v18, v20])) tf_29 rfl rfl hS60 rfl rfl rfl (wl_move rfl rfl ?_)))) a ha)))
  obtain ⟨u63, hu63, hF⟩ := bindE hF
  refine wl_call rfl Tryz.call7 (C_spec_RunBeats w58 u13.1 v14 (hS60.own_ro (i := 6) rfl) v16 (hS60.own_ro (i := 7) rfl) v18 (hS60.own_ro (i := 8) rfl) v20 (hS60.own_ro (i := 9) rfl) u13.2 v22 (hS60.own_ro (i := 10) rfl) _ hu63) rfl ?_
  rintro _ w72 ⟨v64, F65, v66, F67, v68, F69, v70, F71, rfl, hb73, hM76⟩
  refine ⟨_, rfl, ?_⟩
  have hB74 := hB59.trans (hb73.mono hB59.size)
  have hS75 := hS60.join hb73 hM76 hB59.size
  refine wl_move rfl rfl (wl_extract rfl rfl rfl (wl_extract rfl rfl rfl (wl_extract rfl rfl rfl (wl_alloc (cs := [(.slice none 0 0), (.slice none 0 0), (.int .i64 0), (.int .i64 0), (.int .i64 0), (.slice none 0 0), (.slice none 0 0)]) tf_29 rfl rfl hB74 hS75 ?_))))
  intro b77 w78 hb79 hB80 hS81
  refine wl_store_blk (i := 0) (vs := [v64, v66, (.int .i64 u63.1.1.2.2.1), (.int .i64 u63.1.1.2.2.2), (.int .i64 u63.1.2.1), v68, v70]) (cs' := [v64, v66, (.int .i64 u63.1.1.2.2.1), (.int .i64 u63.1.1.2.2.2), (.int .i64 u63.1.2.1), v68, v70]) tf_29 rfl rfl rfl rfl hB80 hS81 rfl rfl ⟨(hS81.own_ro (i := 1) rfl).one, (hS81.own_ro (i := 2) rfl).one, rfl, rfl, rfl, (hS81.own_ro (i := 3) rfl).one, (hS81.own_ro (i := 4) rfl).one, trivial⟩ rfl ?_
  intro w82 hk85 hB83 hS84
  refine wl_assign rfl rfl (wl_assign rfl rfl (WL.nil (fun a ha => hK62 _ _ (W.seq fun K86 hK86 => (W.seq fun K87 hK87 => ?_)) a ha)))
  obtain ⟨k92, hk92, hF⟩ := jE1 hF
  have hJ93 : ∀ (y91 : Bool) (w88 : World) (_ : k92 y91 = some r) (_ : Below w0.heap.size w0 w88) (_ : Sep w0.heap.size w88 [R.own ty_66 F15 v14 u13.1.1.1, R.own ty_3 F17 v16 u13.1.1.2.1, R.own ty_3 F19 v18 u13.1.2.2.1, R.own ty_3 F21 v20 u13.1.2.2.2, R.blk b29 29 [v14, v16, (.int .i64 u13.1.1.2.2.1), (.int .i64 u13.1.1.2.2.2), (.int .i64 u13.1.2.1), v18, v20], R.own ty_59 F23 v22 u13.2, R.own ty_66 F41 v40 u39.1.1.1, R.own ty_3 F43 v42 u39.1.1.2.1, R.own ty_3 F45 v44 u39.1.2.2.1, R.own ty_3 F47 v46 u39.1.2.2.2, R.blk b53 29 [v40, v42, (.int .i64 u39.1.1.2.2.1), (.int .i64 u39.1.1.2.2.2), (.int .i64 u39.1.2.1), v44, v46], R.own ty_66 F65 v64 u63.1.1.1, R.own ty_3 F67 v66 u63.1.1.2.1, R.own ty_3 F69 v68 u63.1.2.2.1, R.own ty_3 F71 v70 u63.1.2.2.2, R.blk b77 29 [v64, v66, (.int .i64 u63.1.1.2.2.1), (.int .i64 u63.1.1.2.2.2), (.int .i64 u63.1.2.1), v68, v70]]), ∀ a, St 346 [(1, v1_0), (5, (.pointer (some ⟨b29, 0, none⟩))), (6, v22), (7, (.pointer (some ⟨b53, 0, none⟩))), (9, (.bool u39.2.2)), (10, (.pointer (some ⟨b77, 0, none⟩))), (11, (.int .i64 u63.2.1)), (86, (.bool y91))] a → K87 a w88 := by
   intro y91 w88 hF hB89 hS90
   subst hk92
   refine fun a ha => hK87 _ _ (W.cond rfl (fun h94 => ?_) (fun h94 => ?_)) a ha
   ·replace hF := ifP h94 hF
    refine W.seq fun K95 hK95 => W.region (wl_assign rfl rfl (WL.nil (fun a ha => hK95 _ _ (W.ret ?_) a ha)))
    have hr := Option.some.inj hF
    subst hr
    exact rets (vs := [(.bool false)]) hQ rfl ⟨rv_tmp rfl, trivial⟩ ⟨rfl, hB89⟩
   ·replace hF := ifN h94 hF
    refine W.skip fun a ha => hK86 _ _ (W.seq fun K96 hK96 => ?_) a ha
    obtain ⟨k100, hk100, hF⟩ := jE0 hF
    have hJ101 : ∀ (w97 : World) (_ : k100 = some r) (_ : Below w0.heap.size w0 w97) (_ : Sep w0.heap.size w97 []), ∀ a, St 346 [(1, v1_0)] a → K96 a w97 := by
     intro w97 hF hB98 hS99
     subst hk100
     refine fun a ha => hK96 _ _ (W.seq fun K102 hK102 => (W.region (wl_move rfl rfl ?_))) a ha
     obtain ⟨u103, hu103, hF⟩ := bindE hF
     refine wl_call rfl Tryz.call10 (C_spec_DrawBeatOnce w97 x1 v1_0 (h1_0.ro hB98) _ hu103) rfl ?_
     rintro _ w112 ⟨v104, F105, v106, F107, v108, F109, v110, F111, rfl, hb113, hM116⟩
     refine ⟨_, rfl, ?_⟩
     have hB114 := hB98.trans (hb113.mono hB98.size)
     have hS115 := hS99.join hb113 hM116 hB98.size
     refine wl_alloc (cs := [(.slice none 0 0), (.slice none 0 0), (.int .i64 0), (.int .i64 0), (.int .i64 0), (.slice none 0 0), (.slice none 0 0)]) tf_29 rfl rfl hB114 hS115 ?_
     intro b117 w118 hb119 hB120 hS121
     refine wl_store_blk (i := 0) (vs := [v104, v106, (.int .i64 u103.1.2.2.1), (.int .i64 u103.1.2.2.2), (.int .i64 u103.2.1), v108, v110]) (cs' := [v104, v106, (.int .i64 u103.1.2.2.1), (.int .i64 u103.1.2.2.2), (.int .i64 u103.2.1), v108, v110]) tf_29 rfl rfl rfl rfl hB120 hS121 rfl rfl ⟨(hS121.own_ro (i := 1) rfl).one, (hS121.own_ro (i := 2) rfl).one, rfl, rfl, rfl, (hS121.own_ro (i := 3) rfl).one, (hS121.own_ro (i := 4) rfl).one, trivial⟩ rfl ?_
     intro w122 hk125 hB123 hS124
     refine WL.nil fun a ha => hK102 _ _ (W.seq fun K126 hK126 => (W.region (wl_load_blk (i := 0) (vs := [v104, v106, (.int .i64 u103.1.2.2.1), (.int .i64 u103.1.2.2.2), (.int .i64 u103.2.1), v108, v110]) (v := (.agg #[v104, v106, (.int .i64 u103.1.2.2.1), (.int .i64 u103.1.2.2.2), (.int .i64 u103.2.1), v108, v110])) tf_29 rfl rfl hS124 rfl rfl rfl ?_))) a ha
     obtain ⟨u127, hu127, hF⟩ := bindE hF
     refine wl_call rfl Tryz.call11 (C_impl_BeatOnce w122 u103 v104 (hS124.own_ro (i := 1) rfl) v106 (hS124.own_ro (i := 2) rfl) v108 (hS124.own_ro (i := 3) rfl) v110 (hS124.own_ro (i := 4) rfl) _ hu127) rfl ?_
     rintro _ w136 ⟨v128, F129, v130, F131, v132, F133, v134, F135, rfl, hb137, hM140⟩
     refine ⟨_, rfl, ?_⟩
     have hB138 := hB123.trans (hb137.mono hB123.size)
     have hS139 := hS124.join hb137 hM140 hB123.size
     refine wl_move rfl rfl (wl_extract rfl rfl rfl (wl_extract rfl rfl rfl (wl_alloc (cs := [(.slice none 0 0), (.slice none 0 0), (.int .i64 0), (.int .i64 0), (.int .i64 0), (.slice none 0 0), (.slice none 0 0)]) tf_29 rfl rfl hB138 hS139 ?_)))
     intro b141 w142 hb143 hB144 hS145
     refine wl_store_blk (i := 0) (vs := [v128, v130, (.int .i64 u127.1.1.2.2.1), (.int .i64 u127.1.1.2.2.2), (.int .i64 u127.1.2.1), v132, v134]) (cs' := [v128, v130, (.int .i64 u127.1.1.2.2.1), (.int .i64 u127.1.1.2.2.2), (.int .i64 u127.1.2.1), v132, v134]) tf_29 rfl rfl rfl rfl hB144 hS145 rfl rfl ⟨(hS145.own_ro (i := 1) rfl).one, (hS145.own_ro (i := 2) rfl).one, rfl, rfl, rfl, (hS145.own_ro (i := 3) rfl).one, (hS145.own_ro (i := 4) rfl).one, trivial⟩ rfl ?_
     intro w146 hk149 hB147 hS148
     refine wl_assign rfl rfl (WL.nil (fun a ha => hK126 _ _ (W.seq fun K150 hK150 => (W.region (wl_load_blk (i := 5) (vs := [v104, v106, (.int .i64 u103.1.2.2.1), (.int .i64 u103.1.2.2.2), (.int .i64 u103.2.1), v108, v110]) (v := (.agg #[v104, v106, (.int .i64 u103.1.2.2.1), (.int .i64 u103.1.2.2.2), (.int .i64 u103.2.1), v108, v110])) tf_29 rfl rfl hS148 rfl rfl rfl ?_))) a ha))
     obtain ⟨u151, hu151, hF⟩ := bindE hF
     refine wl_call rfl Tryz.call12 (C_spec_BeatOnce w146 u103 v104 (hS148.own_ro (i := 6) rfl) v106 (hS148.own_ro (i := 7) rfl) v108 (hS148.own_ro (i := 8) rfl) v110 (hS148.own_ro (i := 9) rfl) _ hu151) rfl ?_
     rintro _ w160 ⟨v152, F153, v154, F155, v156, F157, v158, F159, rfl, hb161, hM164⟩
     refine ⟨_, rfl, ?_⟩
     have hB162 := hB147.trans (hb161.mono hB147.size)
     have hS163 := hS148.join hb161 hM164 hB147.size
     refine wl_move rfl rfl (wl_extract rfl rfl rfl (wl_extract rfl rfl rfl (wl_alloc (cs := [(.slice none 0 0), (.slice none 0 0), (.int .i64 0), (.int .i64 0), (.int .i64 0), (.slice none 0 0), (.slice none 0 0)]) tf_29 rfl rfl hB162 hS163 ?_)))
     intro b165 w166 hb167 hB168 hS169
     refine wl_store_blk (i := 0) (vs := [v152, v154, (.int .i64 u151.1.1.2.2.1), (.int .i64 u151.1.1.2.2.2), (.int .i64 u151.1.2.1), v156, v158]) (cs' := [v152, v154, (.int .i64 u151.1.1.2.2.1), (.int .i64 u151.1.1.2.2.2), (.int .i64 u151.1.2.1), v156, v158]) tf_29 rfl rfl rfl rfl hB168 hS169 rfl rfl ⟨(hS169.own_ro (i := 1) rfl).one, (hS169.own_ro (i := 2) rfl).one, rfl, rfl, rfl, (hS169.own_ro (i := 3) rfl).one, (hS169.own_ro (i := 4) rfl).one, trivial⟩ rfl ?_
     intro w170 hk173 hB171 hS172
     refine wl_assign rfl rfl (WL.nil (fun a ha => hK150 _ _ (W.seq fun K174 hK174 => (W.seq fun K175 hK175 => ?_)) a ha))
     obtain ⟨k180, hk180, hF⟩ := jE1 hF
     have hJ181 : ∀ (y179 : Bool) (w176 : World) (_ : k180 y179 = some r) (_ : Below w0.heap.size w0 w176) (_ : Sep w0.heap.size w176 [R.own ty_66 F105 v104 u103.1.1, R.own ty_3 F107 v106 u103.1.2.1, R.own ty_3 F109 v108 u103.2.2.1, R.own ty_3 F111 v110 u103.2.2.2, R.blk b117 29 [v104, v106, (.int .i64 u103.1.2.2.1), (.int .i64 u103.1.2.2.2), (.int .i64 u103.2.1), v108, v110], R.own ty_66 F129 v128 u127.1.1.1, R.own ty_3 F131 v130 u127.1.1.2.1, R.own ty_3 F133 v132 u127.1.2.2.1, R.own ty_3 F135 v134 u127.1.2.2.2, R.blk b141 29 [v128, v130, (.int .i64 u127.1.1.2.2.1), (.int .i64 u127.1.1.2.2.2), (.int .i64 u127.1.2.1), v132, v134], R.own ty_66 F153 v152 u151.1.1.1, R.own ty_3 F155 v154 u151.1.1.2.1, R.own ty_3 F157 v156 u151.1.2.2.1, R.own ty_3 F159 v158 u151.1.2.2.2, R.blk b165 29 [v152, v154, (.int .i64 u151.1.1.2.2.1), (.int .i64 u151.1.1.2.2.2), (.int .i64 u151.1.2.1), v156, v158]]), ∀ a, St 346 [(1, v1_0), (19, (.pointer (some ⟨b117, 0, none⟩))), (20, (.pointer (some ⟨b141, 0, none⟩))), (21, (.bool u127.2)), (22, (.pointer (some ⟨b165, 0, none⟩))), (167, (.bool y179))] a → K175 a w176 := by
      intro y179 w176 hF hB177 hS178
      subst hk180
      refine fun a ha => hK175 _ _ (W.cond rfl (fun h182 => ?_) (fun h182 => ?_)) a ha
      ·replace hF := ifP h182 hF
       refine W.seq fun K183 hK183 => W.region (wl_assign rfl rfl (WL.nil (fun a ha => hK183 _ _ (W.ret ?_) a ha)))
       have hr := Option.some.inj hF
       subst hr
       exact rets (vs := [(.bool false)]) hQ rfl ⟨rv_tmp rfl, trivial⟩ ⟨rfl, hB177⟩
      ·replace hF := ifN h182 hF
       refine W.skip fun a ha => hK174 _ _ (W.seq fun K184 hK184 => ?_) a ha
       obtain ⟨k188, hk188, hF⟩ := jE0 hF
       have hJ189 : ∀ (w185 : World) (_ : k188 = some r) (_ : Below w0.heap.size w0 w185) (_ : Sep w0.heap.size w185 []), ∀ a, St 346 [(1, v1_0)] a → K184 a w185 := by
        intro w185 hF hB186 hS187
        subst hk188
        refine fun a ha => hK184 _ _ (W.seq fun K190 hK190 => (W.region (wl_move rfl rfl ?_))) a ha
        obtain ⟨u191, hu191, hF⟩ := bindE hF
        refine wl_call rfl Tryz.call16 (C_spec_DrawHaltPerformer w185 x1 v1_0 (h1_0.ro hB186) _ hu191) rfl ?_
        rintro _ w200 ⟨v192, F193, v194, F195, v196, F197, v198, F199, rfl, hb201, hM204⟩
        refine ⟨_, rfl, ?_⟩
        have hB202 := hB186.trans (hb201.mono hB186.size)
        have hS203 := hS187.join hb201 hM204 hB186.size
        refine wl_move rfl rfl (wl_extract rfl rfl rfl (wl_extract rfl rfl rfl (wl_alloc (cs := [(.slice none 0 0), (.slice none 0 0), (.int .i64 0), (.int .i64 0), (.int .i64 0), (.slice none 0 0), (.slice none 0 0)]) tf_29 rfl rfl hB202 hS203 ?_)))
        intro b205 w206 hb207 hB208 hS209
        refine wl_store_blk (i := 0) (vs := [v192, v194, (.int .i64 u191.1.1.2.2.1), (.int .i64 u191.1.1.2.2.2), (.int .i64 u191.1.2.1), v196, v198]) (cs' := [v192, v194, (.int .i64 u191.1.1.2.2.1), (.int .i64 u191.1.1.2.2.2), (.int .i64 u191.1.2.1), v196, v198]) tf_29 rfl rfl rfl rfl hB208 hS209 rfl rfl ⟨(hS209.own_ro (i := 1) rfl).one, (hS209.own_ro (i := 2) rfl).one, rfl, rfl, rfl, (hS209.own_ro (i := 3) rfl).one, (hS209.own_ro (i := 4) rfl).one, trivial⟩ rfl ?_
        intro w210 hk213 hB211 hS212
        refine wl_assign rfl rfl (WL.nil (fun a ha => hK190 _ _ (W.seq fun K214 hK214 => (W.region (wl_load_blk (i := 0) (vs := [v192, v194, (.int .i64 u191.1.1.2.2.1), (.int .i64 u191.1.1.2.2.2), (.int .i64 u191.1.2.1), v196, v198]) (v := (.agg #[v192, v194, (.int .i64 u191.1.1.2.2.1), (.int .i64 u191.1.1.2.2.2), (.int .i64 u191.1.2.1), v196, v198])) tf_29 rfl rfl hS212 rfl rfl rfl (wl_move rfl rfl ?_)))) a ha))
        obtain ⟨u215, hu215, hF⟩ := bindE hF
        refine wl_call rfl Tryz.call17 (C_impl_HaltPerformer w210 u191.1 v192 (hS212.own_ro (i := 1) rfl) v194 (hS212.own_ro (i := 2) rfl) v196 (hS212.own_ro (i := 3) rfl) v198 (hS212.own_ro (i := 4) rfl) u191.2 _ hu215) rfl ?_
        rintro _ w224 ⟨v216, F217, v218, F219, v220, F221, v222, F223, rfl, hb225, hM228⟩
        refine ⟨_, rfl, ?_⟩
        have hB226 := hB211.trans (hb225.mono hB211.size)
        have hS227 := hS212.join hb225 hM228 hB211.size
        refine wl_move rfl rfl (wl_extract rfl rfl rfl (wl_extract rfl rfl rfl (wl_alloc (cs := [(.slice none 0 0), (.slice none 0 0), (.int .i64 0), (.int .i64 0), (.int .i64 0), (.slice none 0 0), (.slice none 0 0)]) tf_29 rfl rfl hB226 hS227 ?_)))
        intro b229 w230 hb231 hB232 hS233
        refine wl_store_blk (i := 0) (vs := [v216, v218, (.int .i64 u215.1.1.2.2.1), (.int .i64 u215.1.1.2.2.2), (.int .i64 u215.1.2.1), v220, v222]) (cs' := [v216, v218, (.int .i64 u215.1.1.2.2.1), (.int .i64 u215.1.1.2.2.2), (.int .i64 u215.1.2.1), v220, v222]) tf_29 rfl rfl rfl rfl hB232 hS233 rfl rfl ⟨(hS233.own_ro (i := 1) rfl).one, (hS233.own_ro (i := 2) rfl).one, rfl, rfl, rfl, (hS233.own_ro (i := 3) rfl).one, (hS233.own_ro (i := 4) rfl).one, trivial⟩ rfl ?_
        intro w234 hk237 hB235 hS236
        refine wl_assign rfl rfl (WL.nil (fun a ha => hK214 _ _ (W.seq fun K238 hK238 => (W.region (wl_load_blk (i := 5) (vs := [v192, v194, (.int .i64 u191.1.1.2.2.1), (.int .i64 u191.1.1.2.2.2), (.int .i64 u191.1.2.1), v196, v198]) (v := (.agg #[v192, v194, (.int .i64 u191.1.1.2.2.1), (.int .i64 u191.1.1.2.2.2), (.int .i64 u191.1.2.1), v196, v198])) tf_29 rfl rfl hS236 rfl rfl rfl (wl_move rfl rfl ?_)))) a ha))
        obtain ⟨u239, hu239, hF⟩ := bindE hF
        refine wl_call rfl Tryz.call18 (C_spec_HaltPerformer w234 u191.1 v192 (hS236.own_ro (i := 6) rfl) v194 (hS236.own_ro (i := 7) rfl) v196 (hS236.own_ro (i := 8) rfl) v198 (hS236.own_ro (i := 9) rfl) u191.2 _ hu239) rfl ?_
        rintro _ w248 ⟨v240, F241, v242, F243, v244, F245, v246, F247, rfl, hb249, hM252⟩
        refine ⟨_, rfl, ?_⟩
        have hB250 := hB235.trans (hb249.mono hB235.size)
        have hS251 := hS236.join hb249 hM252 hB235.size
        refine wl_move rfl rfl (wl_extract rfl rfl rfl (wl_extract rfl rfl rfl (wl_alloc (cs := [(.slice none 0 0), (.slice none 0 0), (.int .i64 0), (.int .i64 0), (.int .i64 0), (.slice none 0 0), (.slice none 0 0)]) tf_29 rfl rfl hB250 hS251 ?_)))
        intro b253 w254 hb255 hB256 hS257
        refine wl_store_blk (i := 0) (vs := [v240, v242, (.int .i64 u239.1.1.2.2.1), (.int .i64 u239.1.1.2.2.2), (.int .i64 u239.1.2.1), v244, v246]) (cs' := [v240, v242, (.int .i64 u239.1.1.2.2.1), (.int .i64 u239.1.1.2.2.2), (.int .i64 u239.1.2.1), v244, v246]) tf_29 rfl rfl rfl rfl hB256 hS257 rfl rfl ⟨(hS257.own_ro (i := 1) rfl).one, (hS257.own_ro (i := 2) rfl).one, rfl, rfl, rfl, (hS257.own_ro (i := 3) rfl).one, (hS257.own_ro (i := 4) rfl).one, trivial⟩ rfl ?_
        intro w258 hk261 hB259 hS260
        refine wl_assign rfl rfl (WL.nil (fun a ha => hK238 _ _ (W.seq fun K262 hK262 => (W.seq fun K263 hK263 => ?_)) a ha))
        obtain ⟨k268, hk268, hF⟩ := jE1 hF
        have hJ269 : ∀ (y267 : Bool) (w264 : World) (_ : k268 y267 = some r) (_ : Below w0.heap.size w0 w264) (_ : Sep w0.heap.size w264 [R.own ty_66 F193 v192 u191.1.1.1, R.own ty_3 F195 v194 u191.1.1.2.1, R.own ty_3 F197 v196 u191.1.2.2.1, R.own ty_3 F199 v198 u191.1.2.2.2, R.blk b205 29 [v192, v194, (.int .i64 u191.1.1.2.2.1), (.int .i64 u191.1.1.2.2.2), (.int .i64 u191.1.2.1), v196, v198], R.own ty_66 F217 v216 u215.1.1.1, R.own ty_3 F219 v218 u215.1.1.2.1, R.own ty_3 F221 v220 u215.1.2.2.1, R.own ty_3 F223 v222 u215.1.2.2.2, R.blk b229 29 [v216, v218, (.int .i64 u215.1.1.2.2.1), (.int .i64 u215.1.1.2.2.2), (.int .i64 u215.1.2.1), v220, v222], R.own ty_66 F241 v240 u239.1.1.1, R.own ty_3 F243 v242 u239.1.1.2.1, R.own ty_3 F245 v244 u239.1.2.2.1, R.own ty_3 F247 v246 u239.1.2.2.2, R.blk b253 29 [v240, v242, (.int .i64 u239.1.1.2.2.1), (.int .i64 u239.1.1.2.2.2), (.int .i64 u239.1.2.1), v244, v246]]), ∀ a, St 346 [(1, v1_0), (32, (.pointer (some ⟨b205, 0, none⟩))), (33, (.int .i64 u191.2)), (34, (.pointer (some ⟨b229, 0, none⟩))), (35, (.bool u215.2)), (36, (.pointer (some ⟨b253, 0, none⟩))), (276, (.bool y267))] a → K263 a w264 := by
         intro y267 w264 hF hB265 hS266
         subst hk268
         refine fun a ha => hK263 _ _ (W.cond rfl (fun h270 => ?_) (fun h270 => ?_)) a ha
         ·replace hF := ifP h270 hF
          refine W.seq fun K271 hK271 => W.region (wl_assign rfl rfl (WL.nil (fun a ha => hK271 _ _ (W.ret ?_) a ha)))
          have hr := Option.some.inj hF
          subst hr
          exact rets (vs := [(.bool false)]) hQ rfl ⟨rv_tmp rfl, trivial⟩ ⟨rfl, hB265⟩
         ·replace hF := ifN h270 hF
          refine W.skip fun a ha => hK262 _ _ (W.seq fun K272 hK272 => ?_) a ha
          obtain ⟨k276, hk276, hF⟩ := jE0 hF
          have hJ277 : ∀ (w273 : World) (_ : k276 = some r) (_ : Below w0.heap.size w0 w273) (_ : Sep w0.heap.size w273 []), ∀ a, St 346 [(1, v1_0)] a → K272 a w273 := by
           intro w273 hF hB274 hS275
           subst hk276
           refine fun a ha => hK272 _ _ (W.seq fun K278 hK278 => (W.region (wl_move rfl rfl ?_))) a ha
           obtain ⟨u279, hu279, hF⟩ := bindE hF
           refine wl_call rfl Tryz.call20 (C_spec_DrawGoOn w273 x1 v1_0 (h1_0.ro hB274) _ hu279) rfl ?_
           rintro _ w288 ⟨v280, F281, v282, F283, v284, F285, v286, F287, rfl, hb289, hM292⟩
           refine ⟨_, rfl, ?_⟩
           have hB290 := hB274.trans (hb289.mono hB274.size)
           have hS291 := hS275.join hb289 hM292 hB274.size
           refine wl_move rfl rfl (wl_extract rfl rfl rfl (wl_extract rfl rfl rfl (wl_alloc (cs := [(.slice none 0 0), (.slice none 0 0), (.int .i64 0), (.int .i64 0), (.int .i64 0), (.slice none 0 0), (.slice none 0 0)]) tf_29 rfl rfl hB290 hS291 ?_)))
           intro b293 w294 hb295 hB296 hS297
           refine wl_store_blk (i := 0) (vs := [v280, v282, (.int .i64 u279.1.1.2.2.1), (.int .i64 u279.1.1.2.2.2), (.int .i64 u279.1.2.1), v284, v286]) (cs' := [v280, v282, (.int .i64 u279.1.1.2.2.1), (.int .i64 u279.1.1.2.2.2), (.int .i64 u279.1.2.1), v284, v286]) tf_29 rfl rfl rfl rfl hB296 hS297 rfl rfl ⟨(hS297.own_ro (i := 1) rfl).one, (hS297.own_ro (i := 2) rfl).one, rfl, rfl, rfl, (hS297.own_ro (i := 3) rfl).one, (hS297.own_ro (i := 4) rfl).one, trivial⟩ rfl ?_
           intro w298 hk301 hB299 hS300
           refine wl_assign rfl rfl (WL.nil (fun a ha => hK278 _ _ (W.seq fun K302 hK302 => (W.region (wl_load_blk (i := 0) (vs := [v280, v282, (.int .i64 u279.1.1.2.2.1), (.int .i64 u279.1.1.2.2.2), (.int .i64 u279.1.2.1), v284, v286]) (v := (.agg #[v280, v282, (.int .i64 u279.1.1.2.2.1), (.int .i64 u279.1.1.2.2.2), (.int .i64 u279.1.2.1), v284, v286])) tf_29 rfl rfl hS300 rfl rfl rfl (wl_move rfl rfl ?_)))) a ha))
           obtain ⟨u303, hu303, hF⟩ := bindE hF
           refine wl_call rfl Tryz.call19 (C_impl_GoOn w298 u279.1 v280 (hS300.own_ro (i := 1) rfl) v282 (hS300.own_ro (i := 2) rfl) v284 (hS300.own_ro (i := 3) rfl) v286 (hS300.own_ro (i := 4) rfl) u279.2 _ hu303) rfl ?_
           rintro _ w312 ⟨v304, F305, v306, F307, v308, F309, v310, F311, rfl, hb313, hM316⟩
           refine ⟨_, rfl, ?_⟩
           have hB314 := hB299.trans (hb313.mono hB299.size)
           have hS315 := hS300.join hb313 hM316 hB299.size
           refine wl_move rfl rfl (wl_extract rfl rfl rfl (wl_extract rfl rfl rfl (wl_alloc (cs := [(.slice none 0 0), (.slice none 0 0), (.int .i64 0), (.int .i64 0), (.int .i64 0), (.slice none 0 0), (.slice none 0 0)]) tf_29 rfl rfl hB314 hS315 ?_)))
           intro b317 w318 hb319 hB320 hS321
           refine wl_store_blk (i := 0) (vs := [v304, v306, (.int .i64 u303.1.1.2.2.1), (.int .i64 u303.1.1.2.2.2), (.int .i64 u303.1.2.1), v308, v310]) (cs' := [v304, v306, (.int .i64 u303.1.1.2.2.1), (.int .i64 u303.1.1.2.2.2), (.int .i64 u303.1.2.1), v308, v310]) tf_29 rfl rfl rfl rfl hB320 hS321 rfl rfl ⟨(hS321.own_ro (i := 1) rfl).one, (hS321.own_ro (i := 2) rfl).one, rfl, rfl, rfl, (hS321.own_ro (i := 3) rfl).one, (hS321.own_ro (i := 4) rfl).one, trivial⟩ rfl ?_
           intro w322 hk325 hB323 hS324
           refine wl_assign rfl rfl (WL.nil (fun a ha => hK302 _ _ (W.seq fun K326 hK326 => (W.region (wl_load_blk (i := 5) (vs := [v280, v282, (.int .i64 u279.1.1.2.2.1), (.int .i64 u279.1.1.2.2.2), (.int .i64 u279.1.2.1), v284, v286]) (v := (.agg #[v280, v282, (.int .i64 u279.1.1.2.2.1), (.int .i64 u279.1.1.2.2.2), (.int .i64 u279.1.2.1), v284, v286])) tf_29 rfl rfl hS324 rfl rfl rfl (wl_move rfl rfl ?_)))) a ha))
           obtain ⟨u327, hu327, hF⟩ := bindE hF
           refine wl_call rfl Tryz.call21 (C_spec_GoOn w322 u279.1 v280 (hS324.own_ro (i := 6) rfl) v282 (hS324.own_ro (i := 7) rfl) v284 (hS324.own_ro (i := 8) rfl) v286 (hS324.own_ro (i := 9) rfl) u279.2 _ hu327) rfl ?_
           rintro _ w336 ⟨v328, F329, v330, F331, v332, F333, v334, F335, rfl, hb337, hM340⟩
           refine ⟨_, rfl, ?_⟩
           have hB338 := hB323.trans (hb337.mono hB323.size)
           have hS339 := hS324.join hb337 hM340 hB323.size
           refine wl_move rfl rfl (wl_extract rfl rfl rfl (wl_extract rfl rfl rfl (wl_alloc (cs := [(.slice none 0 0), (.slice none 0 0), (.int .i64 0), (.int .i64 0), (.int .i64 0), (.slice none 0 0), (.slice none 0 0)]) tf_29 rfl rfl hB338 hS339 ?_)))
           intro b341 w342 hb343 hB344 hS345
           refine wl_store_blk (i := 0) (vs := [v328, v330, (.int .i64 u327.1.1.2.2.1), (.int .i64 u327.1.1.2.2.2), (.int .i64 u327.1.2.1), v332, v334]) (cs' := [v328, v330, (.int .i64 u327.1.1.2.2.1), (.int .i64 u327.1.1.2.2.2), (.int .i64 u327.1.2.1), v332, v334]) tf_29 rfl rfl rfl rfl hB344 hS345 rfl rfl ⟨(hS345.own_ro (i := 1) rfl).one, (hS345.own_ro (i := 2) rfl).one, rfl, rfl, rfl, (hS345.own_ro (i := 3) rfl).one, (hS345.own_ro (i := 4) rfl).one, trivial⟩ rfl ?_
           intro w346 hk349 hB347 hS348
           refine wl_assign rfl rfl (WL.nil (fun a ha => hK326 _ _ (W.seq fun K350 hK350 => (W.region (wl_move rfl rfl ?_))) a ha))
           obtain ⟨u351, hu351, hF⟩ := bindE hF
           refine wl_call rfl Tryz.call22 (C_spec_DrawNewMarch w346 x1 v1_0 (h1_0.ro hB347) _ hu351) rfl ?_
           rintro _ w356 ⟨v352, F353, v354, F355, rfl, hb357, hM360⟩
           refine ⟨_, rfl, ?_⟩
           have hB358 := hB347.trans (hb357.mono hB347.size)
           have hS359 := hS348.join hb357 hM360 hB347.size
           refine wl_alloc (cs := [(.slice none 0 0), (.slice none 0 0), (.int .i64 0), (.int .i64 0)]) tf_27 rfl rfl hB358 hS359 ?_
           intro b361 w362 hb363 hB364 hS365
           refine wl_store_blk (i := 0) (vs := [v352, v354, (.int .i64 u351.2.2.1), (.int .i64 u351.2.2.2)]) (cs' := [v352, v354, (.int .i64 u351.2.2.1), (.int .i64 u351.2.2.2)]) tf_27 rfl rfl rfl rfl hB364 hS365 rfl rfl ⟨(hS365.own_ro (i := 1) rfl).one, (hS365.own_ro (i := 2) rfl).one, rfl, rfl, trivial⟩ rfl ?_
           intro w366 hk369 hB367 hS368
           refine WL.nil fun a ha => hK350 _ _ (W.seq fun K370 hK370 => (W.region (wl_load_blk (i := 0) (vs := [v352, v354, (.int .i64 u351.2.2.1), (.int .i64 u351.2.2.2)]) (v := (.agg #[v352, v354, (.int .i64 u351.2.2.1), (.int .i64 u351.2.2.2)])) tf_27 rfl rfl hS368 rfl rfl rfl ?_))) a ha
           obtain ⟨u371, hu371, hF⟩ := bindE hF
           refine wl_call rfl Tryz.call23 (C_impl_NewMarch w366 u351 v352 (hS368.own_ro (i := 1) rfl) v354 (hS368.own_ro (i := 2) rfl) _ hu371) rfl ?_
           rintro _ w380 ⟨v372, F373, v374, F375, v376, F377, v378, F379, rfl, hb381, hM384⟩
           refine ⟨_, rfl, ?_⟩
           have hB382 := hB367.trans (hb381.mono hB367.size)
           have hS383 := hS368.join hb381 hM384 hB367.size
           refine wl_move rfl rfl (wl_extract rfl rfl rfl (wl_extract rfl rfl rfl (wl_alloc (cs := [(.slice none 0 0), (.slice none 0 0), (.int .i64 0), (.int .i64 0), (.int .i64 0), (.slice none 0 0), (.slice none 0 0)]) tf_29 rfl rfl hB382 hS383 ?_)))
           intro b385 w386 hb387 hB388 hS389
           refine wl_store_blk (i := 0) (vs := [v372, v374, (.int .i64 u371.1.1.2.2.1), (.int .i64 u371.1.1.2.2.2), (.int .i64 u371.1.2.1), v376, v378]) (cs' := [v372, v374, (.int .i64 u371.1.1.2.2.1), (.int .i64 u371.1.1.2.2.2), (.int .i64 u371.1.2.1), v376, v378]) tf_29 rfl rfl rfl rfl hB388 hS389 rfl rfl ⟨(hS389.own_ro (i := 1) rfl).one, (hS389.own_ro (i := 2) rfl).one, rfl, rfl, rfl, (hS389.own_ro (i := 3) rfl).one, (hS389.own_ro (i := 4) rfl).one, trivial⟩ rfl ?_
           intro w390 hk393 hB391 hS392
           refine wl_assign rfl rfl (WL.nil (fun a ha => hK370 _ _ (W.seq fun K394 hK394 => (W.region (wl_load_blk (i := 5) (vs := [v352, v354, (.int .i64 u351.2.2.1), (.int .i64 u351.2.2.2)]) (v := (.agg #[v352, v354, (.int .i64 u351.2.2.1), (.int .i64 u351.2.2.2)])) tf_27 rfl rfl hS392 rfl rfl rfl ?_))) a ha))
           obtain ⟨u395, hu395, hF⟩ := bindE hF
           refine wl_call rfl Tryz.call24 (C_spec_NewMarch w390 u351 v352 (hS392.own_ro (i := 6) rfl) v354 (hS392.own_ro (i := 7) rfl) _ hu395) rfl ?_
           rintro _ w404 ⟨v396, F397, v398, F399, v400, F401, v402, F403, rfl, hb405, hM408⟩
           refine ⟨_, rfl, ?_⟩
           have hB406 := hB391.trans (hb405.mono hB391.size)
           have hS407 := hS392.join hb405 hM408 hB391.size
           refine wl_move rfl rfl (wl_extract rfl rfl rfl (wl_extract rfl rfl rfl (wl_alloc (cs := [(.slice none 0 0), (.slice none 0 0), (.int .i64 0), (.int .i64 0), (.int .i64 0), (.slice none 0 0), (.slice none 0 0)]) tf_29 rfl rfl hB406 hS407 ?_)))
           intro b409 w410 hb411 hB412 hS413
           refine wl_store_blk (i := 0) (vs := [v396, v398, (.int .i64 u395.1.1.2.2.1), (.int .i64 u395.1.1.2.2.2), (.int .i64 u395.1.2.1), v400, v402]) (cs' := [v396, v398, (.int .i64 u395.1.1.2.2.1), (.int .i64 u395.1.1.2.2.2), (.int .i64 u395.1.2.1), v400, v402]) tf_29 rfl rfl rfl rfl hB412 hS413 rfl rfl ⟨(hS413.own_ro (i := 1) rfl).one, (hS413.own_ro (i := 2) rfl).one, rfl, rfl, rfl, (hS413.own_ro (i := 3) rfl).one, (hS413.own_ro (i := 4) rfl).one, trivial⟩ rfl ?_
           intro w414 hk417 hB415 hS416
           refine wl_assign rfl rfl (WL.nil (fun a ha => hK394 _ _ (W.seq fun K418 hK418 => ?_) a ha))
           obtain ⟨k423, hk423, hF⟩ := jE1 hF
           have hJ424 : ∀ (y422 : Bool) (w419 : World) (_ : k423 y422 = some r) (_ : Below w0.heap.size w0 w419) (_ : Sep w0.heap.size w419 []), ∀ a, St 346 [(4, (.bool y422))] a → K418 a w419 := by
            intro y422 w419 hF hB420 hS421
            subst hk423
            refine fun a ha => hK418 _ _ (W.ret ?_) a ha
            have hr := Option.some.inj hF
            subst hr
            exact rets (vs := [(.bool y422)]) hQ rfl ⟨rv_tmp rfl, trivial⟩ ⟨rfl, hB420⟩
           refine W.region (wl_move rfl rfl (wl_move rfl rfl (wl_eqlb Tryz.underlying4 rfl rfl rfl (wl_move rfl rfl ?_))))
           rcases bE (u303.2 == u327.2) with h425 | h425
           ·replace hF := ifP h425 hF
            refine wl_on rfl rfl h425 (wl_load_blk (i := 18) (vs := [v304, v306, (.int .i64 u303.1.1.2.2.1), (.int .i64 u303.1.1.2.2.2), (.int .i64 u303.1.2.1), v308, v310]) (v := (.agg #[v304, v306, (.int .i64 u303.1.1.2.2.1), (.int .i64 u303.1.1.2.2.2), (.int .i64 u303.1.2.1), v308, v310])) tf_29 rfl rfl hS416 rfl rfl rfl (wl_on rfl rfl h425 (wl_load_blk (i := 13) (vs := [v328, v330, (.int .i64 u327.1.1.2.2.1), (.int .i64 u327.1.1.2.2.2), (.int .i64 u327.1.2.1), v332, v334]) (v := (.agg #[v328, v330, (.int .i64 u327.1.1.2.2.1), (.int .i64 u327.1.1.2.2.2), (.int .i64 u327.1.2.1), v332, v334])) tf_29 rfl rfl hS416 rfl rfl rfl (wl_on rfl rfl h425 ?_))))
            obtain ⟨u426, hu426, hF⟩ := bindE hF
            refine wl_call rfl Tryz.call8 (C_laws_pSameMarch w414 u303.1 v304 (hS416.own_ro (i := 19) rfl) v306 (hS416.own_ro (i := 20) rfl) v308 (hS416.own_ro (i := 21) rfl) v310 (hS416.own_ro (i := 22) rfl) u327.1 v328 (hS416.own_ro (i := 14) rfl) v330 (hS416.own_ro (i := 15) rfl) v332 (hS416.own_ro (i := 16) rfl) v334 (hS416.own_ro (i := 17) rfl) _ hu426) rfl ?_
            rintro _ w427 ⟨rfl, hb428⟩
            refine ⟨_, rfl, ?_⟩
            have hB429 := hB415.trans (hb428.mono hB415.size)
            have hS430 := hS416.below hb428
            refine wl_pick_t rfl rfl h425 rfl (wl_move rfl rfl ?_)
            rcases bE u426 with h432 | h432
            ·replace hF := ifP h432 hF
             refine wl_on rfl rfl h432 (wl_move rfl rfl (wl_on rfl rfl h432 (wl_move rfl rfl (wl_on rfl rfl h432 (wl_eqlb Tryz.underlying4 rfl rfl rfl (wl_pick_t rfl rfl h432 rfl (wl_move rfl rfl ?_)))))))
             rcases bE (u371.2 == u395.2) with h433 | h433
             ·replace hF := ifP h433 hF
              refine wl_on rfl rfl h433 (wl_load_blk (i := 5) (vs := [v372, v374, (.int .i64 u371.1.1.2.2.1), (.int .i64 u371.1.1.2.2.2), (.int .i64 u371.1.2.1), v376, v378]) (v := (.agg #[v372, v374, (.int .i64 u371.1.1.2.2.1), (.int .i64 u371.1.1.2.2.2), (.int .i64 u371.1.2.1), v376, v378])) tf_29 rfl rfl hS430 rfl rfl rfl (wl_on rfl rfl h433 (wl_load_blk (i := 0) (vs := [v396, v398, (.int .i64 u395.1.1.2.2.1), (.int .i64 u395.1.1.2.2.2), (.int .i64 u395.1.2.1), v400, v402]) (v := (.agg #[v396, v398, (.int .i64 u395.1.1.2.2.1), (.int .i64 u395.1.1.2.2.2), (.int .i64 u395.1.2.1), v400, v402])) tf_29 rfl rfl hS430 rfl rfl rfl (wl_on rfl rfl h433 ?_))))
              obtain ⟨u434, hu434, hF⟩ := bindE hF
              refine wl_call rfl Tryz.call8 (C_laws_pSameMarch w427 u371.1 v372 (hS430.own_ro (i := 6) rfl) v374 (hS430.own_ro (i := 7) rfl) v376 (hS430.own_ro (i := 8) rfl) v378 (hS430.own_ro (i := 9) rfl) u395.1 v396 (hS430.own_ro (i := 1) rfl) v398 (hS430.own_ro (i := 2) rfl) v400 (hS430.own_ro (i := 3) rfl) v402 (hS430.own_ro (i := 4) rfl) _ hu434) rfl ?_
              rintro _ w435 ⟨rfl, hb436⟩
              refine ⟨_, rfl, ?_⟩
              have hB437 := hB429.trans (hb436.mono hB429.size)
              have hS438 := hS430.below hb436
              refine wl_pick_t rfl rfl h433 rfl (wl_assign rfl rfl (WL.nil ?_))
              exact fun a ha => hJ424 (u434) _ hF hB437 (hS438.sel [] rfl) a (ha.sub ⟨rfl, trivial⟩)
             ·replace hF := ifN h433 hF
              refine wl_off rfl rfl rfl h433 (wl_off rfl rfl rfl h433 (wl_off rfl rfl rfl h433 (wl_pick_f rfl rfl h433 rfl (wl_assign rfl rfl (WL.nil ?_)))))
              exact fun a ha => hJ424 (false) _ hF hB429 (hS430.sel [] rfl) a (ha.sub ⟨rfl, trivial⟩)
            ·replace hF := ifN h432 hF
             refine wl_off rfl rfl rfl h432 (wl_off rfl rfl rfl h432 (wl_off rfl rfl rfl h432 (wl_pick_f rfl rfl h432 rfl (wl_move rfl rfl (wl_off rfl rfl rfl rfl (wl_off rfl rfl rfl rfl (wl_off rfl rfl rfl rfl (wl_pick_f rfl rfl rfl rfl (wl_assign rfl rfl (WL.nil ?_))))))))))
             exact fun a ha => hJ424 (false) _ hF hB429 (hS430.sel [] rfl) a (ha.sub ⟨rfl, trivial⟩)
           ·replace hF := ifN h425 hF
            refine wl_off rfl rfl rfl h425 (wl_off rfl rfl rfl h425 (wl_off rfl rfl rfl h425 (wl_pick_f rfl rfl h425 rfl (wl_move rfl rfl (wl_off rfl rfl rfl rfl (wl_off rfl rfl rfl rfl (wl_off rfl rfl rfl rfl (wl_pick_f rfl rfl rfl rfl (wl_move rfl rfl (wl_off rfl rfl rfl rfl (wl_off rfl rfl rfl rfl (wl_off rfl rfl rfl rfl (wl_pick_f rfl rfl rfl rfl ?_)))))))))))))
            refine wl_assign rfl rfl (WL.nil ?_)
            exact fun a ha => hJ424 (false) _ hF hB415 (hS416.sel [] rfl) a (ha.sub ⟨rfl, trivial⟩)
          refine W.seq fun K440 hK440 => W.region (wl_move rfl rfl (WL.nil (fun a ha => hK440 _ _ (W.cond rfl (fun h441 => ?_) (fun h441 => ?_)) a ha)))
          ·replace hF := ifP h441 hF
           refine W.seq fun K442 hK442 => W.region (wl_load_blk (i := 9) (vs := [v216, v218, (.int .i64 u215.1.1.2.2.1), (.int .i64 u215.1.1.2.2.2), (.int .i64 u215.1.2.1), v220, v222]) (v := (.agg #[v216, v218, (.int .i64 u215.1.1.2.2.1), (.int .i64 u215.1.1.2.2.2), (.int .i64 u215.1.2.1), v220, v222])) tf_29 rfl rfl hS266 rfl rfl rfl (wl_move rfl rfl ?_))
           obtain ⟨u443, hu443, hF⟩ := bindE hF
           refine wl_call rfl Tryz.call19 (C_impl_GoOn w264 u215.1 v216 (hS266.own_ro (i := 5) rfl) v218 (hS266.own_ro (i := 6) rfl) v220 (hS266.own_ro (i := 7) rfl) v222 (hS266.own_ro (i := 8) rfl) u191.2 _ hu443) rfl ?_
           rintro _ w452 ⟨v444, F445, v446, F447, v448, F449, v450, F451, rfl, hb453, hM456⟩
           refine ⟨_, rfl, ?_⟩
           have hB454 := hB265.trans (hb453.mono hB265.size)
           have hS455 := hS266.join hb453 hM456 hB265.size
           refine wl_move rfl rfl (wl_extract rfl rfl rfl (wl_extract rfl rfl rfl (wl_alloc (cs := [(.slice none 0 0), (.slice none 0 0), (.int .i64 0), (.int .i64 0), (.int .i64 0), (.slice none 0 0), (.slice none 0 0)]) tf_29 rfl rfl hB454 hS455 ?_)))
           intro b457 w458 hb459 hB460 hS461
           refine wl_store_blk (i := 0) (vs := [v444, v446, (.int .i64 u443.1.1.2.2.1), (.int .i64 u443.1.1.2.2.2), (.int .i64 u443.1.2.1), v448, v450]) (cs' := [v444, v446, (.int .i64 u443.1.1.2.2.1), (.int .i64 u443.1.1.2.2.2), (.int .i64 u443.1.2.1), v448, v450]) tf_29 rfl rfl rfl rfl hB460 hS461 rfl rfl ⟨(hS461.own_ro (i := 1) rfl).one, (hS461.own_ro (i := 2) rfl).one, rfl, rfl, rfl, (hS461.own_ro (i := 3) rfl).one, (hS461.own_ro (i := 4) rfl).one, trivial⟩ rfl ?_
           intro w462 hk465 hB463 hS464
           refine wl_assign rfl rfl (WL.nil (fun a ha => hK442 _ _ (W.seq fun K466 hK466 => ?_) a ha))
           obtain ⟨k471, hk471, hF⟩ := jE1 hF
           have hJ472 : ∀ (y470 : Bool) (w467 : World) (_ : k471 y470 = some r) (_ : Below w0.heap.size w0 w467) (_ : Sep w0.heap.size w467 []), ∀ a, St 346 [(1, v1_0), (298, (.bool y470))] a → K466 a w467 := by
            intro y470 w467 hF hB468 hS469
            subst hk471
            refine fun a ha => hK466 _ _ (W.cond rfl (fun h473 => ?_) (fun h473 => ?_)) a ha
            ·replace hF := ifP h473 hF
             refine W.seq fun K474 hK474 => W.region (wl_assign rfl rfl (WL.nil (fun a ha => hK474 _ _ (W.ret ?_) a ha)))
             have hr := Option.some.inj hF
             subst hr
             exact rets (vs := [(.bool false)]) hQ rfl ⟨rv_tmp rfl, trivial⟩ ⟨rfl, hB468⟩
            ·replace hF := ifN h473 hF
             refine W.skip ?_
             exact fun a ha => hJ277 _ hF hB468 (hS469.sel [] rfl) a (ha.sub ⟨rfl, trivial⟩)
           refine W.region (wl_move rfl rfl (wl_not rfl rfl (wl_move rfl rfl ?_)))
           rcases bE (!u443.2) with h475 | h475
           ·replace hF := ifP h475 hF
            refine wl_off rfl rfl rfl h475 (wl_off rfl rfl rfl h475 (wl_off rfl rfl rfl h475 (wl_off rfl rfl rfl h475 (wl_pick_t rfl rfl h475 rfl (wl_move rfl rfl (wl_off rfl rfl rfl rfl (wl_off rfl rfl rfl rfl (wl_off rfl rfl rfl rfl (wl_off rfl rfl rfl rfl (wl_off rfl rfl rfl rfl (wl_pick_t rfl rfl rfl rfl (WL.nil ?_))))))))))))
            exact fun a ha => hJ472 (true) _ hF hB463 (hS464.sel [] rfl) a (ha.sub ⟨rfl, rfl, trivial⟩)
           ·replace hF := ifN h475 hF
            refine wl_on rfl rfl h475 (wl_load_blk (i := 0) (vs := [v444, v446, (.int .i64 u443.1.1.2.2.1), (.int .i64 u443.1.1.2.2.2), (.int .i64 u443.1.2.1), v448, v450]) (v := (.agg #[v444, v446, (.int .i64 u443.1.1.2.2.1), (.int .i64 u443.1.1.2.2.2), (.int .i64 u443.1.2.1), v448, v450])) tf_29 rfl rfl hS464 rfl rfl rfl (wl_on rfl rfl h475 (wl_load_blk (i := 9) (vs := [v192, v194, (.int .i64 u191.1.1.2.2.1), (.int .i64 u191.1.1.2.2.2), (.int .i64 u191.1.2.1), v196, v198]) (v := (.agg #[v192, v194, (.int .i64 u191.1.1.2.2.1), (.int .i64 u191.1.1.2.2.2), (.int .i64 u191.1.2.1), v196, v198])) tf_29 rfl rfl hS464 rfl rfl rfl (wl_on rfl rfl h475 ?_))))
            obtain ⟨u476, hu476, hF⟩ := bindE hF
            refine wl_call rfl Tryz.call8 (C_laws_pSameMarch w462 u443.1 v444 (hS464.own_ro (i := 1) rfl) v446 (hS464.own_ro (i := 2) rfl) v448 (hS464.own_ro (i := 3) rfl) v450 (hS464.own_ro (i := 4) rfl) u191.1 v192 (hS464.own_ro (i := 5) rfl) v194 (hS464.own_ro (i := 6) rfl) v196 (hS464.own_ro (i := 7) rfl) v198 (hS464.own_ro (i := 8) rfl) _ hu476) rfl ?_
            rintro _ w477 ⟨rfl, hb478⟩
            refine ⟨_, rfl, ?_⟩
            have hB479 := hB463.trans (hb478.mono hB463.size)
            have hS480 := hS464.below hb478
            refine wl_on rfl rfl h475 (wl_not rfl rfl (wl_pick_f rfl rfl h475 rfl (wl_move rfl rfl ?_)))
            rcases bE (!u476) with h482 | h482
            ·replace hF := ifP h482 hF
             refine wl_off rfl rfl rfl h482 (wl_off rfl rfl rfl h482 (wl_off rfl rfl rfl h482 (wl_off rfl rfl rfl h482 (wl_off rfl rfl rfl h482 (wl_pick_t rfl rfl h482 rfl (WL.nil ?_))))))
             exact fun a ha => hJ472 (true) _ hF hB479 (hS480.sel [] rfl) a (ha.sub ⟨rfl, rfl, trivial⟩)
            ·replace hF := ifN h482 hF
             refine wl_on rfl rfl h482 (wl_field (o := 5) (off' := 5) ff_29_2 rfl rfl rfl (wl_on rfl rfl h482 (wl_load_blk (i := 19) (vs := [v244]) (v := v244) tf_25 rfl rfl hS480 rfl rfl rfl (wl_on rfl rfl h482 (wl_move rfl rfl (wl_on rfl rfl h482 ?_))))))
             obtain ⟨u483, hu483, hF⟩ := bindE hF
             refine wl_call rfl Tryz.call13 (C_laws_pIn w477 u239.1.2.2.1 v244 (hS480.own_ro (i := 17) rfl) u191.2 _ hu483) rfl ?_
             rintro _ w484 ⟨rfl, hb485⟩
             refine ⟨_, rfl, ?_⟩
             have hB486 := hB479.trans (hb485.mono hB479.size)
             have hS487 := hS480.below hb485
             refine wl_on rfl rfl h482 (wl_not rfl rfl (wl_pick_f rfl rfl h482 rfl (WL.nil ?_)))
             exact fun a ha => hJ472 ((!u483)) _ hF hB486 (hS487.sel [] rfl) a (ha.sub ⟨rfl, rfl, trivial⟩)
          ·replace hF := ifN h441 hF
           refine W.skip ?_
           exact fun a ha => hJ277 _ hF hB265 (hS266.sel [] rfl) a (ha.sub ⟨rfl, trivial⟩)
        refine W.region (wl_move rfl rfl (wl_move rfl rfl (wl_neqb Tryz.underlying4 rfl rfl rfl (wl_move rfl rfl ?_))))
        rcases bE (u215.2 != u239.2) with h489 | h489
        ·replace hF := ifP h489 hF
         refine wl_off rfl rfl rfl h489 (wl_off rfl rfl rfl h489 (wl_off rfl rfl rfl h489 (wl_off rfl rfl rfl h489 (wl_pick_t rfl rfl h489 rfl (WL.nil ?_)))))
         exact fun a ha => hJ269 (true) _ hF hB259 (hS260.sel [11, 12, 13, 14, 10, 6, 7, 8, 9, 5, 1, 2, 3, 4, 0] rfl) a (ha.sub ⟨rfl, rfl, rfl, rfl, rfl, rfl, rfl, trivial⟩)
        ·replace hF := ifN h489 hF
         refine wl_on rfl rfl h489 (wl_load_blk (i := 5) (vs := [v216, v218, (.int .i64 u215.1.1.2.2.1), (.int .i64 u215.1.1.2.2.2), (.int .i64 u215.1.2.1), v220, v222]) (v := (.agg #[v216, v218, (.int .i64 u215.1.1.2.2.1), (.int .i64 u215.1.1.2.2.2), (.int .i64 u215.1.2.1), v220, v222])) tf_29 rfl rfl hS260 rfl rfl rfl (wl_on rfl rfl h489 (wl_load_blk (i := 0) (vs := [v240, v242, (.int .i64 u239.1.1.2.2.1), (.int .i64 u239.1.1.2.2.2), (.int .i64 u239.1.2.1), v244, v246]) (v := (.agg #[v240, v242, (.int .i64 u239.1.1.2.2.1), (.int .i64 u239.1.1.2.2.2), (.int .i64 u239.1.2.1), v244, v246])) tf_29 rfl rfl hS260 rfl rfl rfl (wl_on rfl rfl h489 ?_))))
         obtain ⟨u490, hu490, hF⟩ := bindE hF
         refine wl_call rfl Tryz.call8 (C_laws_pSameMarch w258 u215.1 v216 (hS260.own_ro (i := 6) rfl) v218 (hS260.own_ro (i := 7) rfl) v220 (hS260.own_ro (i := 8) rfl) v222 (hS260.own_ro (i := 9) rfl) u239.1 v240 (hS260.own_ro (i := 1) rfl) v242 (hS260.own_ro (i := 2) rfl) v244 (hS260.own_ro (i := 3) rfl) v246 (hS260.own_ro (i := 4) rfl) _ hu490) rfl ?_
         rintro _ w491 ⟨rfl, hb492⟩
         refine ⟨_, rfl, ?_⟩
         have hB493 := hB259.trans (hb492.mono hB259.size)
         have hS494 := hS260.below hb492
         refine wl_on rfl rfl h489 (wl_not rfl rfl (wl_pick_f rfl rfl h489 rfl (WL.nil ?_)))
         exact fun a ha => hJ269 ((!u490)) _ hF hB493 (hS494.sel [11, 12, 13, 14, 10, 6, 7, 8, 9, 5, 1, 2, 3, 4, 0] rfl) a (ha.sub ⟨rfl, rfl, rfl, rfl, rfl, rfl, rfl, trivial⟩)
       refine W.seq fun K496 hK496 => W.region (wl_move rfl rfl (WL.nil (fun a ha => hK496 _ _ (W.cond rfl (fun h497 => ?_) (fun h497 => ?_)) a ha)))
       ·replace hF := ifP h497 hF
        refine W.seq fun K498 hK498 => W.seq fun K499 hK499 => W.region (wl_field (o := 6) (off' := 6) ff_29_3 rfl rfl rfl (wl_load_blk (i := 4) (vs := [v110]) (v := v110) tf_25 rfl rfl hS178 rfl rfl rfl (wl_lenr (e := ty_3) (l := u103.2.2.2) Tryz.underlying25 rfl rfl (hS178.own_ro (i := 3) rfl) (wl_move rfl rfl (WL.nil (fun a ha => hK499 _ _ (W.block ?_) a ha))))))
        refine W.loopk (fun m a w500 => ∃ (y503 : Int), St 346 [(1, v1_0), (19, (.pointer (some ⟨b117, 0, none⟩))), (20, (.pointer (some ⟨b141, 0, none⟩))), (22, (.pointer (some ⟨b165, 0, none⟩))), (171, (.int .i64 (List.length u103.2.2.2 : Int))), (172, (.int .i64 y503))] a ∧ Below w0.heap.size w0 w500 ∧ Sep w0.heap.size w500 [R.own ty_66 F105 v104 u103.1.1, R.own ty_3 F107 v106 u103.1.2.1, R.own ty_3 F109 v108 u103.2.2.1, R.own ty_3 F111 v110 u103.2.2.2, R.blk b117 29 [v104, v106, (.int .i64 u103.1.2.2.1), (.int .i64 u103.1.2.2.2), (.int .i64 u103.2.1), v108, v110], R.own ty_66 F129 v128 u127.1.1.1, R.own ty_3 F131 v130 u127.1.1.2.1, R.own ty_3 F133 v132 u127.1.2.2.1, R.own ty_3 F135 v134 u127.1.2.2.2, R.blk b141 29 [v128, v130, (.int .i64 u127.1.1.2.2.1), (.int .i64 u127.1.1.2.2.2), (.int .i64 u127.1.2.1), v132, v134], R.own ty_66 F153 v152 u151.1.1.1, R.own ty_3 F155 v154 u151.1.1.2.1, R.own ty_3 F157 v156 u151.1.2.2.1, R.own ty_3 F159 v158 u151.1.2.2.2, R.blk b165 29 [v152, v154, (.int .i64 u151.1.1.2.2.1), (.int .i64 u151.1.1.2.2.2), (.int .i64 u151.1.2.1), v156, v158]] ∧ F_laws_FnMarches_L1 u103 u127 u151 k188 m y503 = some r) FU ?_ ?_
        ·
         exact fun a ha => ⟨0, ha.sub ⟨rfl, rfl, rfl, rfl, rfl, rfl, trivial⟩, hB177, (hS178.sel [0, 1, 2, 3, 4, 5, 6, 7, 8, 9, 10, 11, 12, 13, 14] rfl), hF⟩
        ·
         rintro m506 a w500 ⟨y503, ha, hB501, hS502, hF⟩ KL505 hKL505
         refine W.at ?_ ha
         cases m506 with
         | zero => exact noneE hF
         | succ m506 =>
          obtain ⟨nx504, hnx504⟩ : ∃ k, k = F_laws_FnMarches_L1 u103 u127 u151 k188 m506 := ⟨_, rfl⟩
          rw [F_laws_FnMarches_L1, ← hnx504] at hF
          refine W.seq fun K507 hK507 => W.region (wl_lss rfl rfl rfl (WL.nil (fun a ha => hK507 _ _ (W.seq fun K508 hK508 => (W.cond rfl (fun h509 => ?_) (fun h509 => ?_))) a ha)))
          ·replace hF := ifP h509 hF
           refine W.skip fun a ha => hK508 _ _ (W.seq fun K510 hK510 => (W.block (W.seq fun K511 hK511 => (W.region (wl_move rfl rfl (wl_assign rfl rfl (WL.nil (fun a ha => hK511 _ _ (W.seq fun K512 hK512 => (W.region (wl_field (o := 6) (off' := 6) ff_29_3 rfl rfl rfl (wl_load_blk (i := 4) (vs := [v110]) (v := v110) tf_25 rfl rfl hS502 rfl rfl rfl ?_)))) a ha)))))))) a ha
           refine wl_move rfl rfl ?_
           obtain ⟨u513, hu513, hF⟩ := bindE hF
           refine wl_indexo (e := ty_3) (i := 3) Tryz.underlying25 rfl rfl rfl hS502 rfl hu513 ?_
           rintro p514 _ rfl hp515 ho516
           refine wl_load_p (vs := [(.int .i64 u513)]) (v := (.int .i64 u513)) tf_3 rfl rfl hp515 rfl rfl (wl_assign rfl rfl (WL.nil (fun a ha => hK512 _ _ (W.seq fun K517 hK517 => ?_) a ha)))
           obtain ⟨k522, hk522, hF⟩ := jE1 hF
           have hJ523 : ∀ (y521 : Int) (w518 : World) (_ : k522 y521 = some r) (_ : Below w0.heap.size w0 w518) (_ : Sep w0.heap.size w518 [R.own ty_66 F105 v104 u103.1.1, R.own ty_3 F107 v106 u103.1.2.1, R.own ty_3 F109 v108 u103.2.2.1, R.own ty_3 F111 v110 u103.2.2.2, R.blk b117 29 [v104, v106, (.int .i64 u103.1.2.2.1), (.int .i64 u103.1.2.2.2), (.int .i64 u103.2.1), v108, v110], R.own ty_66 F129 v128 u127.1.1.1, R.own ty_3 F131 v130 u127.1.1.2.1, R.own ty_3 F133 v132 u127.1.2.2.1, R.own ty_3 F135 v134 u127.1.2.2.2, R.blk b141 29 [v128, v130, (.int .i64 u127.1.1.2.2.1), (.int .i64 u127.1.1.2.2.2), (.int .i64 u127.1.2.1), v132, v134], R.own ty_66 F153 v152 u151.1.1.1, R.own ty_3 F155 v154 u151.1.1.2.1, R.own ty_3 F157 v156 u151.1.2.2.1, R.own ty_3 F159 v158 u151.1.2.2.2, R.blk b165 29 [v152, v154, (.int .i64 u151.1.1.2.2.1), (.int .i64 u151.1.1.2.2.2), (.int .i64 u151.1.2.1), v156, v158]]), ∀ a, St 346 [(1, v1_0), (19, (.pointer (some ⟨b117, 0, none⟩))), (20, (.pointer (some ⟨b141, 0, none⟩))), (22, (.pointer (some ⟨b165, 0, none⟩))), (24, (.int .i64 y503)), (25, (.int .i64 y521)), (171, (.int .i64 (List.length u103.2.2.2 : Int))), (172, (.int .i64 y503))] a → K517 a w518 := by
            intro y521 w518 hF hB519 hS520
            subst hk522
            refine fun a ha => hK517 _ _ (W.seq fun K524 hK524 => (W.region (wl_load_blk (i := 4) (vs := [v104, v106, (.int .i64 u103.1.2.2.1), (.int .i64 u103.1.2.2.2), (.int .i64 u103.2.1), v108, v110]) (v := (.agg #[v104, v106, (.int .i64 u103.1.2.2.1), (.int .i64 u103.1.2.2.2), (.int .i64 u103.2.1), v108, v110])) tf_29 rfl rfl hS520 rfl rfl rfl (wl_move rfl rfl ?_)))) a ha
            obtain ⟨u525, hu525, hF⟩ := bindE hF
            refine wl_call rfl Tryz.call14 (C_impl_WhereNow w518 u103 v104 (hS520.own_ro (i := 0) rfl) v106 (hS520.own_ro (i := 1) rfl) v108 (hS520.own_ro (i := 2) rfl) v110 (hS520.own_ro (i := 3) rfl) y503 _ hu525) rfl ?_
            rintro _ w526 ⟨rfl, hb527⟩
            refine ⟨_, rfl, ?_⟩
            have hB528 := hB519.trans (hb527.mono hB519.size)
            have hS529 := hS520.below hb527
            refine wl_move rfl rfl (wl_extract rfl rfl rfl (wl_extract rfl rfl rfl (wl_alloc (cs := [(.int .i64 0), (.int .i64 0)]) tf_42 rfl rfl hB528 hS529 ?_)))
            intro b531 w532 hb533 hB534 hS535
            refine wl_store_blk (i := 0) (vs := [(.int .i64 u525.1.1), (.int .i64 u525.1.2)]) (cs' := [(.int .i64 u525.1.1), (.int .i64 u525.1.2)]) tf_42 rfl rfl rfl rfl hB534 hS535 rfl rfl ⟨rfl, rfl, trivial⟩ rfl ?_
            intro w536 hk539 hB537 hS538
            refine wl_assign rfl rfl (WL.nil (fun a ha => hK524 _ _ (W.seq fun K540 hK540 => (W.region (wl_load_blk (i := 10) (vs := [v128, v130, (.int .i64 u127.1.1.2.2.1), (.int .i64 u127.1.1.2.2.2), (.int .i64 u127.1.2.1), v132, v134]) (v := (.agg #[v128, v130, (.int .i64 u127.1.1.2.2.1), (.int .i64 u127.1.1.2.2.2), (.int .i64 u127.1.2.1), v132, v134])) tf_29 rfl rfl hS538 rfl rfl rfl (wl_move rfl rfl ?_)))) a ha))
            obtain ⟨u541, hu541, hF⟩ := bindE hF
            refine wl_call rfl Tryz.call14 (C_impl_WhereNow w536 u127.1 v128 (hS538.own_ro (i := 6) rfl) v130 (hS538.own_ro (i := 7) rfl) v132 (hS538.own_ro (i := 8) rfl) v134 (hS538.own_ro (i := 9) rfl) y503 _ hu541) rfl ?_
            rintro _ w542 ⟨rfl, hb543⟩
            refine ⟨_, rfl, ?_⟩
            have hB544 := hB537.trans (hb543.mono hB537.size)
            have hS545 := hS538.below hb543
            refine wl_move rfl rfl (wl_extract rfl rfl rfl (wl_extract rfl rfl rfl (wl_alloc (cs := [(.int .i64 0), (.int .i64 0)]) tf_42 rfl rfl hB544 hS545 ?_)))
            intro b547 w548 hb549 hB550 hS551
            refine wl_store_blk (i := 0) (vs := [(.int .i64 u541.1.1), (.int .i64 u541.1.2)]) (cs' := [(.int .i64 u541.1.1), (.int .i64 u541.1.2)]) tf_42 rfl rfl rfl rfl hB550 hS551 rfl rfl ⟨rfl, rfl, trivial⟩ rfl ?_
            intro w552 hk555 hB553 hS554
            refine wl_assign rfl rfl (WL.nil (fun a ha => hK540 _ _ (W.seq fun K556 hK556 => (W.region (wl_load_blk (i := 16) (vs := [v152, v154, (.int .i64 u151.1.1.2.2.1), (.int .i64 u151.1.1.2.2.2), (.int .i64 u151.1.2.1), v156, v158]) (v := (.agg #[v152, v154, (.int .i64 u151.1.1.2.2.1), (.int .i64 u151.1.1.2.2.2), (.int .i64 u151.1.2.1), v156, v158])) tf_29 rfl rfl hS554 rfl rfl rfl (wl_move rfl rfl ?_)))) a ha))
            obtain ⟨u557, hu557, hF⟩ := bindE hF
            refine wl_call rfl Tryz.call15 (C_spec_WhereNow w552 u151.1 v152 (hS554.own_ro (i := 12) rfl) v154 (hS554.own_ro (i := 13) rfl) v156 (hS554.own_ro (i := 14) rfl) v158 (hS554.own_ro (i := 15) rfl) y503 _ hu557) rfl ?_
            rintro _ w558 ⟨rfl, hb559⟩
            refine ⟨_, rfl, ?_⟩
            have hB560 := hB553.trans (hb559.mono hB553.size)
            have hS561 := hS554.below hb559
            refine wl_move rfl rfl (wl_extract rfl rfl rfl (wl_extract rfl rfl rfl (wl_alloc (cs := [(.int .i64 0), (.int .i64 0)]) tf_42 rfl rfl hB560 hS561 ?_)))
            intro b563 w564 hb565 hB566 hS567
            refine wl_store_blk (i := 0) (vs := [(.int .i64 u557.1.1), (.int .i64 u557.1.2)]) (cs' := [(.int .i64 u557.1.1), (.int .i64 u557.1.2)]) tf_42 rfl rfl rfl rfl hB566 hS567 rfl rfl ⟨rfl, rfl, trivial⟩ rfl ?_
            intro w568 hk571 hB569 hS570
            refine wl_assign rfl rfl (WL.nil (fun a ha => hK556 _ _ (W.seq fun K572 hK572 => ?_) a ha))
            obtain ⟨k577, hk577, hF⟩ := jE1 hF
            have hJ578 : ∀ (y576 : Bool) (w573 : World) (_ : k577 y576 = some r) (_ : Below w0.heap.size w0 w573) (_ : Sep w0.heap.size w573 [R.own ty_66 F105 v104 u103.1.1, R.own ty_3 F107 v106 u103.1.2.1, R.own ty_3 F109 v108 u103.2.2.1, R.own ty_3 F111 v110 u103.2.2.2, R.blk b117 29 [v104, v106, (.int .i64 u103.1.2.2.1), (.int .i64 u103.1.2.2.2), (.int .i64 u103.2.1), v108, v110], R.own ty_66 F129 v128 u127.1.1.1, R.own ty_3 F131 v130 u127.1.1.2.1, R.own ty_3 F133 v132 u127.1.2.2.1, R.own ty_3 F135 v134 u127.1.2.2.2, R.blk b141 29 [v128, v130, (.int .i64 u127.1.1.2.2.1), (.int .i64 u127.1.1.2.2.2), (.int .i64 u127.1.2.1), v132, v134], R.own ty_66 F153 v152 u151.1.1.1, R.own ty_3 F155 v154 u151.1.1.2.1, R.own ty_3 F157 v156 u151.1.2.2.1, R.own ty_3 F159 v158 u151.1.2.2.2, R.blk b165 29 [v152, v154, (.int .i64 u151.1.1.2.2.1), (.int .i64 u151.1.1.2.2.2), (.int .i64 u151.1.2.1), v156, v158]]), ∀ a, St 346 [(1, v1_0), (19, (.pointer (some ⟨b117, 0, none⟩))), (20, (.pointer (some ⟨b141, 0, none⟩))), (22, (.pointer (some ⟨b165, 0, none⟩))), (171, (.int .i64 (List.length u103.2.2.2 : Int))), (172, (.int .i64 y503)), (238, (.bool y576))] a → K572 a w573 := by
             intro y576 w573 hF hB574 hS575
             subst hk577
             refine fun a ha => hK572 _ _ (W.cond rfl (fun h579 => ?_) (fun h579 => ?_)) a ha
             ·replace hF := ifP h579 hF
              refine W.seq fun K580 hK580 => W.region (wl_assign rfl rfl (WL.nil (fun a ha => hK580 _ _ (W.ret ?_) a ha)))
              have hr := Option.some.inj hF
              subst hr
              exact rets (vs := [(.bool false)]) hQ rfl ⟨rv_tmp rfl, trivial⟩ ⟨rfl, hB574⟩
             ·replace hF := ifN h579 hF
              refine W.skip fun a ha => hK510 _ _ (W.region (wl_add rfl rfl rfl (wl_move rfl rfl (WL.nil ?_)))) a ha
              rw [hnx504] at hF
              exact fun a ha => hKL505 a _ m506 (Nat.lt_succ_self m506) ⟨(w64 (y503 + 1)), ha.sub ⟨rfl, rfl, rfl, rfl, rfl, rfl, trivial⟩, hB574, (hS575.sel [0, 1, 2, 3, 4, 5, 6, 7, 8, 9, 10, 11, 12, 13, 14] rfl), hF⟩
            refine W.region (wl_field (o := 6) (off' := 6) ff_29_3 rfl rfl rfl (wl_load_blk (i := 17) (vs := [v158]) (v := v158) tf_25 rfl rfl hS570 rfl rfl rfl (wl_move rfl rfl ?_)))
            obtain ⟨u581, hu581, hF⟩ := bindE hF
            refine wl_indexo (e := ty_3) (i := 16) Tryz.underlying25 rfl rfl rfl hS570 rfl hu581 ?_
            rintro p582 _ rfl hp583 ho584
            refine wl_load_p (vs := [(.int .i64 u581)]) (v := (.int .i64 u581)) tf_3 rfl rfl hp583 rfl rfl (wl_move rfl rfl (wl_neq rfl rfl rfl (wl_move rfl rfl ?_)))
            rcases bE (u581 != y521) with h585 | h585
            ·replace hF := ifP h585 hF
             refine wl_off rfl rfl rfl h585 (wl_off rfl rfl rfl h585 (wl_pick_t rfl rfl h585 rfl (wl_move rfl rfl (wl_off rfl rfl rfl rfl (wl_off rfl rfl rfl rfl (wl_pick_t rfl rfl rfl rfl (wl_move rfl rfl (wl_off rfl rfl rfl rfl (wl_off rfl rfl rfl rfl (wl_pick_t rfl rfl rfl rfl (wl_move rfl rfl (wl_off rfl rfl rfl rfl (wl_off rfl rfl rfl rfl ?_)))))))))))))
             refine wl_off rfl rfl rfl rfl (wl_pick_t rfl rfl rfl rfl (wl_move rfl rfl (wl_off rfl rfl rfl rfl (wl_off rfl rfl rfl rfl (wl_off rfl rfl rfl rfl (wl_off rfl rfl rfl rfl (wl_off rfl rfl rfl rfl (wl_offu rfl rfl rfl (wl_offu rfl rfl rfl (wl_offu rfl rfl rfl (wl_off rfl rfl rfl rfl (wl_pick_t rfl rfl rfl rfl (WL.nil ?_)))))))))))))
             exact fun a ha => hJ578 (true) _ hF hB569 (hS570.sel [3, 4, 5, 6, 7, 8, 9, 10, 11, 12, 13, 14, 15, 16, 17] rfl) a (ha.sub ⟨rfl, rfl, rfl, rfl, rfl, rfl, rfl, trivial⟩)
            ·replace hF := ifN h585 hF
             refine wl_on rfl rfl h585 (wl_move rfl rfl (wl_on rfl rfl h585 (wl_not rfl rfl (wl_pick_f rfl rfl h585 rfl (wl_move rfl rfl ?_)))))
             rcases bE (!u525.2) with h586 | h586
             ·replace hF := ifP h586 hF
              refine wl_off rfl rfl rfl h586 (wl_off rfl rfl rfl h586 (wl_pick_t rfl rfl h586 rfl (wl_move rfl rfl (wl_off rfl rfl rfl rfl (wl_off rfl rfl rfl rfl (wl_pick_t rfl rfl rfl rfl (wl_move rfl rfl (wl_off rfl rfl rfl rfl (wl_off rfl rfl rfl rfl (wl_off rfl rfl rfl rfl (wl_pick_t rfl rfl rfl rfl (wl_move rfl rfl (wl_off rfl rfl rfl rfl ?_)))))))))))))
              refine wl_off rfl rfl rfl rfl (wl_off rfl rfl rfl rfl (wl_off rfl rfl rfl rfl (wl_off rfl rfl rfl rfl (wl_offu rfl rfl rfl (wl_offu rfl rfl rfl (wl_offu rfl rfl rfl (wl_off rfl rfl rfl rfl (wl_pick_t rfl rfl rfl rfl (WL.nil ?_)))))))))
              exact fun a ha => hJ578 (true) _ hF hB569 (hS570.sel [3, 4, 5, 6, 7, 8, 9, 10, 11, 12, 13, 14, 15, 16, 17] rfl) a (ha.sub ⟨rfl, rfl, rfl, rfl, rfl, rfl, rfl, trivial⟩)
             ·replace hF := ifN h586 hF
              refine wl_on rfl rfl h586 (wl_move rfl rfl (wl_on rfl rfl h586 (wl_not rfl rfl (wl_pick_f rfl rfl h586 rfl (wl_move rfl rfl ?_)))))
              rcases bE (!u541.2) with h587 | h587
              ·replace hF := ifP h587 hF
               refine wl_off rfl rfl rfl h587 (wl_off rfl rfl rfl h587 (wl_pick_t rfl rfl h587 rfl (wl_move rfl rfl (wl_off rfl rfl rfl rfl (wl_off rfl rfl rfl rfl (wl_off rfl rfl rfl rfl (wl_pick_t rfl rfl rfl rfl (wl_move rfl rfl (wl_off rfl rfl rfl rfl (wl_off rfl rfl rfl rfl (wl_off rfl rfl rfl rfl (wl_off rfl rfl rfl rfl (wl_off rfl rfl rfl rfl ?_)))))))))))))
               refine wl_offu rfl rfl rfl (wl_offu rfl rfl rfl (wl_offu rfl rfl rfl (wl_off rfl rfl rfl rfl (wl_pick_t rfl rfl rfl rfl (WL.nil ?_)))))
               exact fun a ha => hJ578 (true) _ hF hB569 (hS570.sel [3, 4, 5, 6, 7, 8, 9, 10, 11, 12, 13, 14, 15, 16, 17] rfl) a (ha.sub ⟨rfl, rfl, rfl, rfl, rfl, rfl, rfl, trivial⟩)
              ·replace hF := ifN h587 hF
               refine wl_on rfl rfl h587 (wl_move rfl rfl (wl_on rfl rfl h587 (wl_not rfl rfl (wl_pick_f rfl rfl h587 rfl (wl_move rfl rfl ?_)))))
               rcases bE (!u557.2) with h588 | h588
               ·replace hF := ifP h588 hF
                refine wl_off rfl rfl rfl h588 (wl_off rfl rfl rfl h588 (wl_off rfl rfl rfl h588 (wl_pick_t rfl rfl h588 rfl (wl_move rfl rfl (wl_off rfl rfl rfl rfl (wl_off rfl rfl rfl rfl (wl_off rfl rfl rfl rfl (wl_off rfl rfl rfl rfl (wl_off rfl rfl rfl rfl (wl_offu rfl rfl rfl (wl_offu rfl rfl rfl (wl_offu rfl rfl rfl (wl_off rfl rfl rfl rfl ?_)))))))))))))
                refine wl_pick_t rfl rfl rfl rfl (WL.nil ?_)
                exact fun a ha => hJ578 (true) _ hF hB569 (hS570.sel [3, 4, 5, 6, 7, 8, 9, 10, 11, 12, 13, 14, 15, 16, 17] rfl) a (ha.sub ⟨rfl, rfl, rfl, rfl, rfl, rfl, rfl, trivial⟩)
               ·replace hF := ifN h588 hF
                refine wl_on rfl rfl h588 (wl_load_blk (i := 1) (vs := [(.int .i64 u541.1.1), (.int .i64 u541.1.2)]) (v := (.agg #[(.int .i64 u541.1.1), (.int .i64 u541.1.2)])) tf_42 rfl rfl hS570 rfl rfl rfl (wl_on rfl rfl h588 (wl_load_blk (i := 0) (vs := [(.int .i64 u557.1.1), (.int .i64 u557.1.2)]) (v := (.agg #[(.int .i64 u557.1.1), (.int .i64 u557.1.2)])) tf_42 rfl rfl hS570 rfl rfl rfl (wl_on rfl rfl h588 (wl_nes Tryz.eqGuardType42 (eq_42 u541.1 u557.1) rfl rfl rfl (wl_pick_f rfl rfl h588 rfl (wl_move rfl rfl ?_)))))))
                rcases bE (!(eqv_Spot u541.1 u557.1)) with h589 | h589
                ·replace hF := ifP h589 hF
                 refine wl_off rfl rfl rfl h589 (wl_off rfl rfl rfl h589 (wl_off rfl rfl rfl h589 (wl_off rfl rfl rfl h589 (wl_off rfl rfl rfl h589 (wl_offu rfl rfl rfl (wl_offu rfl rfl rfl (wl_offu rfl rfl rfl (wl_off rfl rfl rfl h589 (wl_pick_t rfl rfl h589 rfl (WL.nil ?_))))))))))
                 exact fun a ha => hJ578 (true) _ hF hB569 (hS570.sel [3, 4, 5, 6, 7, 8, 9, 10, 11, 12, 13, 14, 15, 16, 17] rfl) a (ha.sub ⟨rfl, rfl, rfl, rfl, rfl, rfl, rfl, trivial⟩)
                ·replace hF := ifN h589 hF
                 refine wl_on rfl rfl h589 (wl_field (o := 5) (off' := 5) ff_29_2 rfl rfl rfl (wl_on rfl rfl h589 (wl_load_blk (i := 7) (vs := [v108]) (v := v108) tf_25 rfl rfl hS570 rfl rfl rfl (wl_on rfl rfl h589 (wl_move rfl rfl (wl_on rfl rfl h589 ?_))))))
                 obtain ⟨u590, hu590, hF⟩ := bindE hF
                 refine wl_call rfl Tryz.call13 (C_laws_pIn w568 u103.2.2.1 v108 (hS570.own_ro (i := 5) rfl) y503 _ hu590) rfl ?_
                 rintro _ w591 ⟨rfl, hb592⟩
                 refine ⟨_, rfl, ?_⟩
                 have hB593 := hB569.trans (hb592.mono hB569.size)
                 have hS594 := hS570.below hb592
                 refine wl_on rfl rfl h589 (wl_move rfl rfl ?_)
                 rcases bE u590 with h596 | h596
                 ·replace hF := ifP h596 hF
                  refine wl_on rfl rfl h596 (wl_load_blk (i := 1) (vs := [(.int .i64 u541.1.1), (.int .i64 u541.1.2)]) (v := (.agg #[(.int .i64 u541.1.1), (.int .i64 u541.1.2)])) tf_42 rfl rfl hS594 rfl rfl rfl (wl_on rfl rfl h596 (wl_load_blk (i := 2) (vs := [(.int .i64 u525.1.1), (.int .i64 u525.1.2)]) (v := (.agg #[(.int .i64 u525.1.1), (.int .i64 u525.1.2)])) tf_42 rfl rfl hS594 rfl rfl rfl (wl_on rfl rfl h596 (wl_nes Tryz.eqGuardType42 (eq_42 u541.1 u525.1) rfl rfl rfl (wl_on rfl rfl h589 (wl_pick_t rfl rfl h596 rfl (wl_pick_f rfl rfl h589 rfl (WL.nil ?_)))))))))
                  exact fun a ha => hJ578 ((!(eqv_Spot u541.1 u525.1))) _ hF hB593 (hS594.sel [3, 4, 5, 6, 7, 8, 9, 10, 11, 12, 13, 14, 15, 16, 17] rfl) a (ha.sub ⟨rfl, rfl, rfl, rfl, rfl, rfl, rfl, trivial⟩)
                 ·replace hF := ifN h596 hF
                  refine wl_off rfl rfl rfl h596 (wl_off rfl rfl rfl h596 (wl_off rfl rfl rfl h596 (wl_on rfl rfl h589 (wl_pick_f rfl rfl h596 rfl (wl_pick_f rfl rfl h589 rfl (WL.nil ?_))))))
                  exact fun a ha => hJ578 (false) _ hF hB593 (hS594.sel [3, 4, 5, 6, 7, 8, 9, 10, 11, 12, 13, 14, 15, 16, 17] rfl) a (ha.sub ⟨rfl, rfl, rfl, rfl, rfl, rfl, rfl, trivial⟩)
           refine W.seq fun K597 hK597 => W.region (wl_field (o := 5) (off' := 5) ff_29_2 rfl rfl rfl (wl_load_blk (i := 4) (vs := [v108]) (v := v108) tf_25 rfl rfl hS502 rfl rfl rfl (wl_move rfl rfl ?_)))
           obtain ⟨u598, hu598, hF⟩ := bindE hF
           refine wl_call rfl Tryz.call13 (C_laws_pIn w500 u103.2.2.1 v108 (hS502.own_ro (i := 2) rfl) y503 _ hu598) rfl ?_
           rintro _ w599 ⟨rfl, hb600⟩
           refine ⟨_, rfl, ?_⟩
           have hB601 := hB501.trans (hb600.mono hB501.size)
           have hS602 := hS502.below hb600
           refine WL.nil fun a ha => hK597 _ _ (W.cond rfl (fun h604 => ?_) (fun h604 => ?_)) a ha
           ·replace hF := ifP h604 hF
            refine W.region (wl_move rfl rfl (wl_add rfl rfl rfl (wl_assign rfl rfl (WL.nil ?_))))
            exact fun a ha => hJ523 ((w64 (u513 + 1))) _ hF hB601 (hS602.sel [0, 1, 2, 3, 4, 5, 6, 7, 8, 9, 10, 11, 12, 13, 14] rfl) a (ha.sub ⟨rfl, rfl, rfl, rfl, rfl, rfl, rfl, rfl, trivial⟩)
           ·replace hF := ifN h604 hF
            refine W.skip ?_
            exact fun a ha => hJ523 (u513) _ hF hB601 (hS602.sel [0, 1, 2, 3, 4, 5, 6, 7, 8, 9, 10, 11, 12, 13, 14] rfl) a (ha.sub ⟨rfl, rfl, rfl, rfl, rfl, rfl, rfl, rfl, trivial⟩)
          ·replace hF := ifN h509 hF
           refine W.exit fun a ha => hK498 _ _ (W.seq fun K605 hK605 => ?_) a ha
           obtain ⟨k610, hk610, hF⟩ := jE1 hF
           have hJ611 : ∀ (y609 : Bool) (w606 : World) (_ : k610 y609 = some r) (_ : Below w0.heap.size w0 w606) (_ : Sep w0.heap.size w606 []), ∀ a, St 346 [(1, v1_0), (250, (.bool y609))] a → K605 a w606 := by
            intro y609 w606 hF hB607 hS608
            subst hk610
            refine fun a ha => hK605 _ _ (W.cond rfl (fun h612 => ?_) (fun h612 => ?_)) a ha
            ·replace hF := ifP h612 hF
             refine W.seq fun K613 hK613 => W.region (wl_assign rfl rfl (WL.nil (fun a ha => hK613 _ _ (W.ret ?_) a ha)))
             have hr := Option.some.inj hF
             subst hr
             exact rets (vs := [(.bool false)]) hQ rfl ⟨rv_tmp rfl, trivial⟩ ⟨rfl, hB607⟩
            ·replace hF := ifN h612 hF
             refine W.skip ?_
             exact fun a ha => hJ189 _ hF hB607 (hS608.sel [] rfl) a (ha.sub ⟨rfl, trivial⟩)
           refine W.region (wl_field (o := 4) (off' := 4) ff_29_1 rfl rfl rfl (wl_load_blk (i := 14) (vs := [(.int .i64 u151.1.2.1)]) (v := (.int .i64 u151.1.2.1)) tf_3 rfl rfl hS502 rfl rfl rfl (wl_field (o := 4) (off' := 4) ff_29_1 rfl rfl rfl (wl_load_blk (i := 4) (vs := [(.int .i64 u103.2.1)]) (v := (.int .i64 u103.2.1)) tf_3 rfl rfl hS502 rfl rfl rfl (wl_add rfl rfl rfl (wl_neq rfl rfl rfl (wl_move rfl rfl ?_)))))))
           rcases bE (u151.1.2.1 != (w64 (u103.2.1 + 1))) with h614 | h614
           ·replace hF := ifP h614 hF
            refine wl_off rfl rfl rfl h614 (wl_off rfl rfl rfl h614 (wl_off rfl rfl rfl h614 (wl_pick_t rfl rfl h614 rfl (WL.nil ?_))))
            exact fun a ha => hJ611 (true) _ hF hB501 (hS502.sel [] rfl) a (ha.sub ⟨rfl, rfl, trivial⟩)
           ·replace hF := ifN h614 hF
            refine wl_on rfl rfl h614 (wl_load_blk (i := 9) (vs := [v128, v130, (.int .i64 u127.1.1.2.2.1), (.int .i64 u127.1.1.2.2.2), (.int .i64 u127.1.2.1), v132, v134]) (v := (.agg #[v128, v130, (.int .i64 u127.1.1.2.2.1), (.int .i64 u127.1.1.2.2.2), (.int .i64 u127.1.2.1), v132, v134])) tf_29 rfl rfl hS502 rfl rfl rfl (wl_on rfl rfl h614 ?_))
            obtain ⟨u615, hu615, hF⟩ := bindE hF
            refine wl_call rfl Tryz.call9 (C_impl_IsMarch w500 u127.1 v128 (hS502.own_ro (i := 5) rfl) v130 (hS502.own_ro (i := 6) rfl) v132 (hS502.own_ro (i := 7) rfl) v134 (hS502.own_ro (i := 8) rfl) _ hu615) rfl ?_
            rintro _ w616 ⟨rfl, hb617⟩
            refine ⟨_, rfl, ?_⟩
            have hB618 := hB501.trans (hb617.mono hB501.size)
            have hS619 := hS502.below hb617
            refine wl_on rfl rfl h614 (wl_not rfl rfl (wl_pick_f rfl rfl h614 rfl (WL.nil ?_)))
            exact fun a ha => hJ611 ((!u615)) _ hF hB618 (hS619.sel [] rfl) a (ha.sub ⟨rfl, rfl, trivial⟩)
       ·replace hF := ifN h497 hF
        refine W.skip ?_
        exact fun a ha => hJ189 _ hF hB177 (hS178.sel [] rfl) a (ha.sub ⟨rfl, trivial⟩)
     refine W.region (wl_move rfl rfl (wl_move rfl rfl (wl_neqb Tryz.underlying4 rfl rfl rfl (wl_move rfl rfl ?_))))
     rcases bE (u127.2 != u151.2) with h621 | h621
     ·replace hF := ifP h621 hF
      refine wl_off rfl rfl rfl h621 (wl_off rfl rfl rfl h621 (wl_off rfl rfl rfl h621 (wl_off rfl rfl rfl h621 (wl_pick_t rfl rfl h621 rfl (WL.nil ?_)))))
      exact fun a ha => hJ181 (true) _ hF hB171 (hS172.sel [11, 12, 13, 14, 10, 6, 7, 8, 9, 5, 1, 2, 3, 4, 0] rfl) a (ha.sub ⟨rfl, rfl, rfl, rfl, rfl, rfl, trivial⟩)
     ·replace hF := ifN h621 hF
      refine wl_on rfl rfl h621 (wl_load_blk (i := 5) (vs := [v128, v130, (.int .i64 u127.1.1.2.2.1), (.int .i64 u127.1.1.2.2.2), (.int .i64 u127.1.2.1), v132, v134]) (v := (.agg #[v128, v130, (.int .i64 u127.1.1.2.2.1), (.int .i64 u127.1.1.2.2.2), (.int .i64 u127.1.2.1), v132, v134])) tf_29 rfl rfl hS172 rfl rfl rfl (wl_on rfl rfl h621 (wl_load_blk (i := 0) (vs := [v152, v154, (.int .i64 u151.1.1.2.2.1), (.int .i64 u151.1.1.2.2.2), (.int .i64 u151.1.2.1), v156, v158]) (v := (.agg #[v152, v154, (.int .i64 u151.1.1.2.2.1), (.int .i64 u151.1.1.2.2.2), (.int .i64 u151.1.2.1), v156, v158])) tf_29 rfl rfl hS172 rfl rfl rfl (wl_on rfl rfl h621 ?_))))
      obtain ⟨u622, hu622, hF⟩ := bindE hF
      refine wl_call rfl Tryz.call8 (C_laws_pSameMarch w170 u127.1 v128 (hS172.own_ro (i := 6) rfl) v130 (hS172.own_ro (i := 7) rfl) v132 (hS172.own_ro (i := 8) rfl) v134 (hS172.own_ro (i := 9) rfl) u151.1 v152 (hS172.own_ro (i := 1) rfl) v154 (hS172.own_ro (i := 2) rfl) v156 (hS172.own_ro (i := 3) rfl) v158 (hS172.own_ro (i := 4) rfl) _ hu622) rfl ?_
      rintro _ w623 ⟨rfl, hb624⟩
      refine ⟨_, rfl, ?_⟩
      have hB625 := hB171.trans (hb624.mono hB171.size)
      have hS626 := hS172.below hb624
      refine wl_on rfl rfl h621 (wl_not rfl rfl (wl_pick_f rfl rfl h621 rfl (WL.nil ?_)))
      exact fun a ha => hJ181 ((!u622)) _ hF hB625 (hS626.sel [11, 12, 13, 14, 10, 6, 7, 8, 9, 5, 1, 2, 3, 4, 0] rfl) a (ha.sub ⟨rfl, rfl, rfl, rfl, rfl, rfl, trivial⟩)
    refine W.seq fun K628 hK628 => W.region (wl_move rfl rfl (WL.nil (fun a ha => hK628 _ _ (W.cond rfl (fun h629 => ?_) (fun h629 => ?_)) a ha)))
    ·replace hF := ifP h629 hF
     refine W.seq fun K630 hK630 => ?_
     obtain ⟨k652, hk652, hF⟩ := jE9 hF
     have hJ653 : ∀ (l635 : (List (List (Int × Int)))) (l638 : (List Int)) (y641 : Int) (y642 : Int) (y643 : Int) (l644 : (List Int)) (l647 : (List Int)) (y650 : Int) (y651 : Bool) (v636 : Value) (F637 : List Nat) (v639 : Value) (F640 : List Nat) (v645 : Value) (F646 : List Nat) (v648 : Value) (F649 : List Nat) (b634 : Nat) (w631 : World) (_ : k652 l635 l638 y641 y642 y643 l644 l647 y650 y651 = some r) (_ : Below w0.heap.size w0 w631) (_ : Sep w0.heap.size w631 [R.own ty_66 F15 v14 u13.1.1.1, R.own ty_3 F17 v16 u13.1.1.2.1, R.own ty_3 F19 v18 u13.1.2.2.1, R.own ty_3 F21 v20 u13.1.2.2.2, R.blk b29 29 [v14, v16, (.int .i64 u13.1.1.2.2.1), (.int .i64 u13.1.1.2.2.2), (.int .i64 u13.1.2.1), v18, v20], R.own ty_59 F23 v22 u13.2, R.own ty_66 F41 v40 u39.1.1.1, R.own ty_3 F43 v42 u39.1.1.2.1, R.own ty_3 F45 v44 u39.1.2.2.1, R.own ty_3 F47 v46 u39.1.2.2.2, R.blk b53 29 [v40, v42, (.int .i64 u39.1.1.2.2.1), (.int .i64 u39.1.1.2.2.2), (.int .i64 u39.1.2.1), v44, v46], R.own ty_66 F65 v64 u63.1.1.1, R.own ty_3 F67 v66 u63.1.1.2.1, R.own ty_3 F69 v68 u63.1.2.2.1, R.own ty_3 F71 v70 u63.1.2.2.2, R.blk b77 29 [v64, v66, (.int .i64 u63.1.1.2.2.1), (.int .i64 u63.1.1.2.2.2), (.int .i64 u63.1.2.1), v68, v70], R.own ty_66 F637 v636 l635, R.own ty_3 F640 v639 l638, R.own ty_3 F646 v645 l644, R.own ty_3 F649 v648 l647, R.blk b634 29 [v636, v639, (.int .i64 y641), (.int .i64 y642), (.int .i64 y643), v645, v648]]), ∀ a, St 346 [(1, v1_0), (5, (.pointer (some ⟨b29, 0, none⟩))), (6, v22), (7, (.pointer (some ⟨b53, 0, none⟩))), (10, (.pointer (some ⟨b77, 0, none⟩))), (11, (.int .i64 u63.2.1)), (13, (.pointer (some ⟨b634, 0, none⟩))), (14, (.int .i64 y650)), (15, (.bool y651))] a → K630 a w631 := by
      intro l635 l638 y641 y642 y643 l644 l647 y650 y651 v636 F637 v639 F640 v645 F646 v648 F649 b634 w631 hF hB632 hS633
      subst hk652
      refine fun a ha => hK630 _ _ (W.seq fun K654 hK654 => ?_) a ha
      obtain ⟨k676, hk676, hF⟩ := jE9 hF
      have hJ677 : ∀ (l659 : (List (List (Int × Int)))) (l662 : (List Int)) (y665 : Int) (y666 : Int) (y667 : Int) (l668 : (List Int)) (l671 : (List Int)) (y674 : Int) (y675 : Bool) (v660 : Value) (F661 : List Nat) (v663 : Value) (F664 : List Nat) (v669 : Value) (F670 : List Nat) (v672 : Value) (F673 : List Nat) (b658 : Nat) (w655 : World) (_ : k676 l659 l662 y665 y666 y667 l668 l671 y674 y675 = some r) (_ : Below w0.heap.size w0 w655) (_ : Sep w0.heap.size w655 [R.own ty_66 F15 v14 u13.1.1.1, R.own ty_3 F17 v16 u13.1.1.2.1, R.own ty_3 F19 v18 u13.1.2.2.1, R.own ty_3 F21 v20 u13.1.2.2.2, R.blk b29 29 [v14, v16, (.int .i64 u13.1.1.2.2.1), (.int .i64 u13.1.1.2.2.2), (.int .i64 u13.1.2.1), v18, v20], R.own ty_66 F41 v40 u39.1.1.1, R.own ty_3 F43 v42 u39.1.1.2.1, R.own ty_3 F45 v44 u39.1.2.2.1, R.own ty_3 F47 v46 u39.1.2.2.2, R.blk b53 29 [v40, v42, (.int .i64 u39.1.1.2.2.1), (.int .i64 u39.1.1.2.2.2), (.int .i64 u39.1.2.1), v44, v46], R.own ty_66 F65 v64 u63.1.1.1, R.own ty_3 F67 v66 u63.1.1.2.1, R.own ty_3 F69 v68 u63.1.2.2.1, R.own ty_3 F71 v70 u63.1.2.2.2, R.blk b77 29 [v64, v66, (.int .i64 u63.1.1.2.2.1), (.int .i64 u63.1.1.2.2.2), (.int .i64 u63.1.2.1), v68, v70], R.own ty_66 F661 v660 l659, R.own ty_3 F664 v663 l662, R.own ty_3 F670 v669 l668, R.own ty_3 F673 v672 l671, R.blk b658 29 [v660, v663, (.int .i64 y665), (.int .i64 y666), (.int .i64 y667), v669, v672]]), ∀ a, St 346 [(1, v1_0), (5, (.pointer (some ⟨b29, 0, none⟩))), (7, (.pointer (some ⟨b53, 0, none⟩))), (10, (.pointer (some ⟨b77, 0, none⟩))), (11, (.int .i64 u63.2.1)), (14, (.int .i64 y650)), (15, (.bool y651)), (16, (.pointer (some ⟨b658, 0, none⟩))), (17, (.int .i64 y674)), (18, (.bool y675))] a → K654 a w655 := by
       intro l659 l662 y665 y666 y667 l668 l671 y674 y675 v660 F661 v663 F664 v669 F670 v672 F673 b658 w655 hF hB656 hS657
       subst hk676
       refine fun a ha => hK654 _ _ (W.seq fun K678 hK678 => ?_) a ha
       obtain ⟨k683, hk683, hF⟩ := jE1 hF
       have hJ684 : ∀ (y682 : Bool) (w679 : World) (_ : k683 y682 = some r) (_ : Below w0.heap.size w0 w679) (_ : Sep w0.heap.size w679 []), ∀ a, St 346 [(1, v1_0), (146, (.bool y682))] a → K678 a w679 := by
        intro y682 w679 hF hB680 hS681
        subst hk683
        refine fun a ha => hK678 _ _ (W.cond rfl (fun h685 => ?_) (fun h685 => ?_)) a ha
        ·replace hF := ifP h685 hF
         refine W.seq fun K686 hK686 => W.region (wl_assign rfl rfl (WL.nil (fun a ha => hK686 _ _ (W.ret ?_) a ha)))
         have hr := Option.some.inj hF
         subst hr
         exact rets (vs := [(.bool false)]) hQ rfl ⟨rv_tmp rfl, trivial⟩ ⟨rfl, hB680⟩
        ·replace hF := ifN h685 hF
         refine W.skip ?_
         exact fun a ha => hJ101 _ hF hB680 (hS681.sel [] rfl) a (ha.sub ⟨rfl, trivial⟩)
       refine W.region (wl_load_blk (i := 9) (vs := [v40, v42, (.int .i64 u39.1.1.2.2.1), (.int .i64 u39.1.1.2.2.2), (.int .i64 u39.1.2.1), v44, v46]) (v := (.agg #[v40, v42, (.int .i64 u39.1.1.2.2.1), (.int .i64 u39.1.1.2.2.2), (.int .i64 u39.1.2.1), v44, v46])) tf_29 rfl rfl hS657 rfl rfl rfl ?_)
       obtain ⟨u687, hu687, hF⟩ := bindE hF
       refine wl_call rfl Tryz.call9 (C_impl_IsMarch w655 u39.1 v40 (hS657.own_ro (i := 5) rfl) v42 (hS657.own_ro (i := 6) rfl) v44 (hS657.own_ro (i := 7) rfl) v46 (hS657.own_ro (i := 8) rfl) _ hu687) rfl ?_
       rintro _ w688 ⟨rfl, hb689⟩
       refine ⟨_, rfl, ?_⟩
       have hB690 := hB656.trans (hb689.mono hB656.size)
       have hS691 := hS657.below hb689
       refine wl_not rfl rfl (wl_move rfl rfl ?_)
       rcases bE (!u687) with h693 | h693
       ·replace hF := ifP h693 hF
        refine wl_off rfl rfl rfl h693 (wl_off rfl rfl rfl h693 (wl_pick_t rfl rfl h693 rfl (wl_move rfl rfl (wl_off rfl rfl rfl rfl (wl_off rfl rfl rfl rfl (wl_off rfl rfl rfl rfl (wl_off rfl rfl rfl rfl (wl_pick_t rfl rfl rfl rfl (wl_move rfl rfl (wl_off rfl rfl rfl rfl (wl_off rfl rfl rfl rfl (wl_pick_t rfl rfl rfl rfl (wl_move rfl rfl ?_)))))))))))))
        refine wl_off rfl rfl rfl rfl (wl_off rfl rfl rfl rfl (wl_off rfl rfl rfl rfl (wl_off rfl rfl rfl rfl (wl_off rfl rfl rfl rfl (wl_off rfl rfl rfl rfl (wl_pick_t rfl rfl rfl rfl (wl_move rfl rfl (wl_off rfl rfl rfl rfl (wl_off rfl rfl rfl rfl (wl_off rfl rfl rfl rfl (wl_off rfl rfl rfl rfl (wl_pick_t rfl rfl rfl rfl (wl_move rfl rfl ?_)))))))))))))
        refine wl_off rfl rfl rfl rfl (wl_off rfl rfl rfl rfl (wl_off rfl rfl rfl rfl (wl_off rfl rfl rfl rfl (wl_off rfl rfl rfl rfl (wl_pick_t rfl rfl rfl rfl (WL.nil ?_))))))
        exact fun a ha => hJ684 (true) _ hF hB690 (hS691.sel [] rfl) a (ha.sub ⟨rfl, rfl, trivial⟩)
       ·replace hF := ifN h693 hF
        refine wl_on rfl rfl h693 (wl_move rfl rfl (wl_on rfl rfl h693 (wl_not rfl rfl (wl_pick_f rfl rfl h693 rfl (wl_move rfl rfl ?_)))))
        rcases bE (!y651) with h694 | h694
        ·replace hF := ifP h694 hF
         refine wl_off rfl rfl rfl h694 (wl_off rfl rfl rfl h694 (wl_off rfl rfl rfl h694 (wl_off rfl rfl rfl h694 (wl_pick_t rfl rfl h694 rfl (wl_move rfl rfl (wl_off rfl rfl rfl rfl (wl_off rfl rfl rfl rfl (wl_pick_t rfl rfl rfl rfl (wl_move rfl rfl (wl_off rfl rfl rfl rfl (wl_off rfl rfl rfl rfl (wl_off rfl rfl rfl rfl (wl_off rfl rfl rfl rfl ?_)))))))))))))
         refine wl_off rfl rfl rfl rfl (wl_off rfl rfl rfl rfl (wl_pick_t rfl rfl rfl rfl (wl_move rfl rfl (wl_off rfl rfl rfl rfl (wl_off rfl rfl rfl rfl (wl_off rfl rfl rfl rfl (wl_off rfl rfl rfl rfl (wl_pick_t rfl rfl rfl rfl (wl_move rfl rfl (wl_off rfl rfl rfl rfl (wl_off rfl rfl rfl rfl (wl_off rfl rfl rfl rfl (wl_off rfl rfl rfl rfl ?_)))))))))))))
         refine wl_off rfl rfl rfl rfl (wl_pick_t rfl rfl rfl rfl (WL.nil ?_))
         exact fun a ha => hJ684 (true) _ hF hB690 (hS691.sel [] rfl) a (ha.sub ⟨rfl, rfl, trivial⟩)
        ·replace hF := ifN h694 hF
         refine wl_on rfl rfl h694 (wl_move rfl rfl (wl_on rfl rfl h694 (wl_move rfl rfl (wl_on rfl rfl h694 (wl_quo rfl rfl rfl (by decide) (wl_on rfl rfl h694 (wl_neq rfl rfl rfl (wl_pick_f rfl rfl h694 rfl (wl_move rfl rfl ?_)))))))))
         rcases bE (y650 != (w64 (Int.tdiv u63.2.1 2))) with h695 | h695
         ·replace hF := ifP h695 hF
          refine wl_off rfl rfl rfl h695 (wl_off rfl rfl rfl h695 (wl_pick_t rfl rfl h695 rfl (wl_move rfl rfl (wl_off rfl rfl rfl rfl (wl_off rfl rfl rfl rfl (wl_off rfl rfl rfl rfl (wl_off rfl rfl rfl rfl (wl_off rfl rfl rfl rfl (wl_off rfl rfl rfl rfl (wl_pick_t rfl rfl rfl rfl (wl_move rfl rfl (wl_off rfl rfl rfl rfl (wl_off rfl rfl rfl rfl ?_)))))))))))))
          refine wl_off rfl rfl rfl rfl (wl_off rfl rfl rfl rfl (wl_pick_t rfl rfl rfl rfl (wl_move rfl rfl (wl_off rfl rfl rfl rfl (wl_off rfl rfl rfl rfl (wl_off rfl rfl rfl rfl (wl_off rfl rfl rfl rfl (wl_off rfl rfl rfl rfl (wl_pick_t rfl rfl rfl rfl (WL.nil ?_))))))))))
          exact fun a ha => hJ684 (true) _ hF hB690 (hS691.sel [] rfl) a (ha.sub ⟨rfl, rfl, trivial⟩)
         ·replace hF := ifN h695 hF
          refine wl_on rfl rfl h695 (wl_move rfl rfl (wl_on rfl rfl h695 (wl_not rfl rfl (wl_pick_f rfl rfl h695 rfl (wl_move rfl rfl ?_)))))
          rcases bE (!y675) with h696 | h696
          ·replace hF := ifP h696 hF
           refine wl_off rfl rfl rfl h696 (wl_off rfl rfl rfl h696 (wl_off rfl rfl rfl h696 (wl_off rfl rfl rfl h696 (wl_off rfl rfl rfl h696 (wl_off rfl rfl rfl h696 (wl_pick_t rfl rfl h696 rfl (wl_move rfl rfl (wl_off rfl rfl rfl rfl (wl_off rfl rfl rfl rfl (wl_off rfl rfl rfl rfl (wl_off rfl rfl rfl rfl (wl_pick_t rfl rfl rfl rfl (wl_move rfl rfl ?_)))))))))))))
           refine wl_off rfl rfl rfl rfl (wl_off rfl rfl rfl rfl (wl_off rfl rfl rfl rfl (wl_off rfl rfl rfl rfl (wl_off rfl rfl rfl rfl (wl_pick_t rfl rfl rfl rfl (WL.nil ?_))))))
           exact fun a ha => hJ684 (true) _ hF hB690 (hS691.sel [] rfl) a (ha.sub ⟨rfl, rfl, trivial⟩)
          ·replace hF := ifN h696 hF
           refine wl_on rfl rfl h696 (wl_move rfl rfl (wl_on rfl rfl h696 (wl_move rfl rfl (wl_on rfl rfl h696 (wl_move rfl rfl (wl_on rfl rfl h696 (wl_quo rfl rfl rfl (by decide) (wl_on rfl rfl h696 (wl_sub rfl rfl rfl (wl_on rfl rfl h696 (wl_neq rfl rfl rfl (wl_pick_f rfl rfl h696 rfl (wl_move rfl rfl ?_)))))))))))))
           rcases bE (y674 != (w64 (u63.2.1 - (w64 (Int.tdiv u63.2.1 2))))) with h697 | h697
           ·replace hF := ifP h697 hF
            refine wl_off rfl rfl rfl h697 (wl_off rfl rfl rfl h697 (wl_off rfl rfl rfl h697 (wl_off rfl rfl rfl h697 (wl_pick_t rfl rfl h697 rfl (wl_move rfl rfl (wl_off rfl rfl rfl rfl (wl_off rfl rfl rfl rfl (wl_off rfl rfl rfl rfl (wl_off rfl rfl rfl rfl (wl_off rfl rfl rfl rfl (wl_pick_t rfl rfl rfl rfl (WL.nil ?_))))))))))))
            exact fun a ha => hJ684 (true) _ hF hB690 (hS691.sel [] rfl) a (ha.sub ⟨rfl, rfl, trivial⟩)
           ·replace hF := ifN h697 hF
            refine wl_on rfl rfl h697 (wl_load_blk (i := 19) (vs := [v660, v663, (.int .i64 y665), (.int .i64 y666), (.int .i64 y667), v669, v672]) (v := (.agg #[v660, v663, (.int .i64 y665), (.int .i64 y666), (.int .i64 y667), v669, v672])) tf_29 rfl rfl hS691 rfl rfl rfl (wl_on rfl rfl h697 (wl_load_blk (i := 14) (vs := [v64, v66, (.int .i64 u63.1.1.2.2.1), (.int .i64 u63.1.1.2.2.2), (.int .i64 u63.1.2.1), v68, v70]) (v := (.agg #[v64, v66, (.int .i64 u63.1.1.2.2.1), (.int .i64 u63.1.1.2.2.2), (.int .i64 u63.1.2.1), v68, v70])) tf_29 rfl rfl hS691 rfl rfl rfl (wl_on rfl rfl h697 ?_))))
            obtain ⟨u698, hu698, hF⟩ := bindE hF
            refine wl_call rfl Tryz.call8 (C_laws_pSameMarch w688 ((l659, l662, y665, y666), y667, l668, l671) v660 (hS691.own_ro (i := 15) rfl) v663 (hS691.own_ro (i := 16) rfl) v669 (hS691.own_ro (i := 17) rfl) v672 (hS691.own_ro (i := 18) rfl) u63.1 v64 (hS691.own_ro (i := 10) rfl) v66 (hS691.own_ro (i := 11) rfl) v68 (hS691.own_ro (i := 12) rfl) v70 (hS691.own_ro (i := 13) rfl) _ hu698) rfl ?_
            rintro _ w699 ⟨rfl, hb700⟩
            refine ⟨_, rfl, ?_⟩
            have hB701 := hB690.trans (hb700.mono hB690.size)
            have hS702 := hS691.below hb700
            refine wl_on rfl rfl h697 (wl_not rfl rfl (wl_pick_f rfl rfl h697 rfl (wl_move rfl rfl ?_)))
            rcases bE (!u698) with h704 | h704
            ·replace hF := ifP h704 hF
             refine wl_off rfl rfl rfl h704 (wl_off rfl rfl rfl h704 (wl_off rfl rfl rfl h704 (wl_off rfl rfl rfl h704 (wl_off rfl rfl rfl h704 (wl_pick_t rfl rfl h704 rfl (WL.nil ?_))))))
             exact fun a ha => hJ684 (true) _ hF hB701 (hS702.sel [] rfl) a (ha.sub ⟨rfl, rfl, trivial⟩)
            ·replace hF := ifN h704 hF
             refine wl_on rfl rfl h704 (wl_field (o := 4) (off' := 4) ff_29_1 rfl rfl rfl (wl_on rfl rfl h704 (wl_load_blk (i := 14) (vs := [(.int .i64 u63.1.2.1)]) (v := (.int .i64 u63.1.2.1)) tf_3 rfl rfl hS702 rfl rfl rfl (wl_on rfl rfl h704 (wl_field (o := 4) (off' := 4) ff_29_1 rfl rfl rfl (wl_on rfl rfl h704 (wl_load_blk (i := 4) (vs := [(.int .i64 u13.1.2.1)]) (v := (.int .i64 u13.1.2.1)) tf_3 rfl rfl hS702 rfl rfl rfl (wl_on rfl rfl h704 (wl_lss rfl rfl rfl (wl_pick_f rfl rfl h704 rfl (WL.nil ?_)))))))))))
             exact fun a ha => hJ684 ((decide (u63.1.2.1 < u13.1.2.1))) _ hF hB701 (hS702.sel [] rfl) a (ha.sub ⟨rfl, rfl, trivial⟩)
      refine W.regionH mixed_ [] hB632 hS633 ?_
      intro w705 hb706 hB707 hS708
      have hSW709 := KeepX.refl w705 []
      refine WH.tk 0 rfl hP hSW709 (pr_load_blk (i := 20) (vs := [v636, v639, (.int .i64 y641), (.int .i64 y642), (.int .i64 y643), v645, v648]) (v := (.agg #[v636, v639, (.int .i64 y641), (.int .i64 y642), (.int .i64 y643), v645, v648])) tf_29 rfl rfl hS708 rfl rfl rfl (by simp) (WH.tk 1 rfl hP hSW709 (pr_move rfl rfl (WH.tk 2 rfl hP hSW709 (pr_move rfl rfl (WH.tk 3 rfl hP hSW709 (pr_quo rfl rfl rfl (by decide) (WH.tk 4 rfl hP hSW709 (pr_move rfl rfl ?_)))))))))
      obtain ⟨u710, hu710, hF⟩ := bindE hF
      refine WH.tk 5 rfl hP hSW709 (pr_sliceof (e := ty_59) Tryz.underlying30 rfl rfl (hS708.ok (i := 5) rfl : ownS ty_59 _ _ _ _).rd hu710 (.inr ⟨_, _, rfl, rfl⟩) (.inr ⟨_, _, rfl, rfl⟩) ?_)
      intro v711 hv714 hs713
      have hv712 := hv714.mono fun b hb => ((hS708.get (i := 5) rfl).2.1 b hb).2
      refine WH.many (is := [6, 11]) (by kernel_rfl) rfl (List.forall_mem_cons.2 ⟨⟨_, rfl, ?_⟩, List.forall_mem_cons.2 ⟨⟨_, rfl, ?_⟩, fun _ h => by cases h⟩⟩)
      ·
       obtain ⟨u715, hu715, hF⟩ := bindE hF
       refine wl_call rfl Tryz.call6 (C_impl_RunBeats w705 ((l635, l638, y641, y642), y643, l644, l647) v636 (hS708.own_ro (i := 16) rfl) v639 (hS708.own_ro (i := 17) rfl) v645 (hS708.own_ro (i := 18) rfl) v648 (hS708.own_ro (i := 19) rfl) u710 v711 (hv712.ro (hSW709.below hB707 hB707)) _ hu715) rfl ?_
       rintro _ w724 ⟨v716, F717, v718, F719, v720, F721, v722, F723, rfl, hb725, hM728⟩
       refine ⟨_, rfl, ?_⟩
       have hB726 := hB707.trans (hb725.mono hB707.size)
       have hS727 := hS708.join hb725 hM728 hB707.size
       have hSW733 := hSW709.ext hb725
       refine WL.nil (WH.ret hSW733 (WH.tk 7 rfl hP hSW733 (pr_move rfl rfl (WH.tk 8 rfl hP hSW733 (pr_extract rfl rfl rfl (WH.tk 9 rfl hP hSW733 (pr_extract rfl rfl rfl (WH.tk 10 rfl hP hSW733 (pr_extract rfl rfl rfl (WH.on1 11 rfl (wl_alloc (cs := [(.slice none 0 0), (.slice none 0 0), (.int .i64 0), (.int .i64 0), (.int .i64 0), (.slice none 0 0), (.slice none 0 0)]) tf_29 rfl rfl (Below.self w724) (Sep.nil _ _) ?_)))))))))))
       intro b734 w735 hb736 hB739 hM740
       have hB737 := hB726.trans (hb736.mono hB726.size)
       have hS738 := hS727.join hb736 hM740 hB726.size
       have hn741 : ∀ b ∈ [b734], w705.heap.size ≤ b := fun b hb => Nat.le_trans hSW733.size ((hM740.1 _ (List.mem_cons_self ..)).2.1 b hb).1
       have hSW742 := hSW733.ext hb736
       refine WL.nil (WH.ret hSW742 (WH.on1 12 rfl (wl_store_blk (i := 0) (vs := [v716, v718, (.int .i64 u715.1.1.2.2.1), (.int .i64 u715.1.1.2.2.2), (.int .i64 u715.1.2.1), v720, v722]) (cs' := [v716, v718, (.int .i64 u715.1.1.2.2.1), (.int .i64 u715.1.1.2.2.2), (.int .i64 u715.1.2.1), v720, v722]) tf_29 rfl rfl rfl rfl hB737 hS738 rfl rfl ⟨(hS738.own_ro (i := 1) rfl).one, (hS738.own_ro (i := 2) rfl).one, rfl, rfl, rfl, (hS738.own_ro (i := 3) rfl).one, (hS738.own_ro (i := 4) rfl).one, trivial⟩ rfl ?_)))
       intro w743 hk746 hB744 hS745
       have hSW747 := hSW742.wr' hk746.1 hk746.2.1 (fun b hlt hb => absurd hlt (Nat.not_lt.2 (hn741 b hb)))
       refine WL.nil (WH.ret hSW747 (WH.tk 13 rfl hP hSW747 (pr_assign rfl rfl (WH.tk 14 rfl hP hSW747 (pr_assign rfl rfl (WH.done (by kernel_rfl) ?_))))))
       exact fun a ha => hJ677 (u715.1.1.1) (u715.1.1.2.1) (u715.1.1.2.2.1) (u715.1.1.2.2.2) (u715.1.2.1) (u715.1.2.2.1) (u715.1.2.2.2) (u715.2.1) (u715.2.2) (v716) (F717) (v718) (F719) (v720) (F721) (v722) (F723) (b734) _ hF hB744 (hS745.sel [5, 6, 7, 8, 9, 11, 12, 13, 14, 15, 16, 17, 18, 19, 20, 1, 2, 3, 4, 0] rfl) a (ha.sub ⟨rfl, rfl, rfl, rfl, rfl, rfl, rfl, rfl, rfl, rfl, trivial⟩)
      ·
       refine wl_alloc (cs := [(.slice none 0 0), (.slice none 0 0), (.int .i64 0), (.int .i64 0), (.int .i64 0), (.slice none 0 0), (.slice none 0 0)]) tf_29 rfl rfl (Below.self w705) (Sep.nil _ _) ?_
       intro b749 w750 hb751 hB754 hM755
       have hB752 := hB707.trans (hb751.mono hB707.size)
       have hS753 := hS708.join hb751 hM755 hB707.size
       have hn756 : ∀ b ∈ [b749], w705.heap.size ≤ b := fun b hb => Nat.le_trans hSW709.size ((hM755.1 _ (List.mem_cons_self ..)).2.1 b hb).1
       have hSW757 := hSW709.ext hb751
       refine WL.nil (WH.ret hSW757 (WH.on1 6 rfl ?_))
       obtain ⟨u758, hu758, hF⟩ := bindE hF
       refine wl_call rfl Tryz.call6 (C_impl_RunBeats w750 ((l635, l638, y641, y642), y643, l644, l647) v636 (hS753.own_ro (i := 17) rfl) v639 (hS753.own_ro (i := 18) rfl) v645 (hS753.own_ro (i := 19) rfl) v648 (hS753.own_ro (i := 20) rfl) u710 v711 (hv712.ro (hSW757.below hB707 hB752)) _ hu758) rfl ?_
       rintro _ w767 ⟨v759, F760, v761, F762, v763, F764, v765, F766, rfl, hb768, hM771⟩
       refine ⟨_, rfl, ?_⟩
       have hB769 := hB752.trans (hb768.mono hB752.size)
       have hS770 := hS753.join hb768 hM771 hB752.size
       have hSW776 := hSW757.ext hb768
       refine WL.nil (WH.ret hSW776 (WH.tk 7 rfl hP hSW776 (pr_move rfl rfl (WH.tk 8 rfl hP hSW776 (pr_extract rfl rfl rfl (WH.tk 9 rfl hP hSW776 (pr_extract rfl rfl rfl (WH.tk 10 rfl hP hSW776 (pr_extract rfl rfl rfl (WH.on1 12 rfl (wl_store_blk (i := 4) (vs := [v759, v761, (.int .i64 u758.1.1.2.2.1), (.int .i64 u758.1.1.2.2.2), (.int .i64 u758.1.2.1), v763, v765]) (cs' := [v759, v761, (.int .i64 u758.1.1.2.2.1), (.int .i64 u758.1.1.2.2.2), (.int .i64 u758.1.2.1), v763, v765]) tf_29 rfl rfl rfl rfl hB769 hS770 rfl rfl ⟨(hS770.own_ro (i := 0) rfl).one, (hS770.own_ro (i := 1) rfl).one, rfl, rfl, rfl, (hS770.own_ro (i := 2) rfl).one, (hS770.own_ro (i := 3) rfl).one, trivial⟩ rfl ?_)))))))))))
       intro w777 hk780 hB778 hS779
       have hSW781 := hSW776.wr' hk780.1 hk780.2.1 (fun b hlt hb => absurd hlt (Nat.not_lt.2 (hn756 b hb)))
       refine WL.nil (WH.ret hSW781 (WH.tk 13 rfl hP hSW781 (pr_assign rfl rfl (WH.tk 14 rfl hP hSW781 (pr_assign rfl rfl (WH.done (by kernel_rfl) ?_))))))
       exact fun a ha => hJ677 (u758.1.1.1) (u758.1.1.2.1) (u758.1.1.2.2.1) (u758.1.1.2.2.2) (u758.1.2.1) (u758.1.2.2.1) (u758.1.2.2.2) (u758.2.1) (u758.2.2) (v759) (F760) (v761) (F762) (v763) (F764) (v765) (F766) (b749) _ hF hB778 (hS779.sel [5, 6, 7, 8, 9, 11, 12, 13, 14, 15, 16, 17, 18, 19, 20, 0, 1, 2, 3, 4] rfl) a (ha.sub ⟨rfl, rfl, rfl, rfl, rfl, rfl, rfl, rfl, rfl, rfl, trivial⟩)
     refine W.regionH mixed_ [] hB89 hS90 ?_
     intro w783 hb784 hB785 hS786
     have hSW787 := KeepX.refl w783 []
     refine WH.tk 0 rfl hP hSW787 (pr_load_blk (i := 4) (vs := [v14, v16, (.int .i64 u13.1.1.2.2.1), (.int .i64 u13.1.1.2.2.2), (.int .i64 u13.1.2.1), v18, v20]) (v := (.agg #[v14, v16, (.int .i64 u13.1.1.2.2.1), (.int .i64 u13.1.1.2.2.2), (.int .i64 u13.1.2.1), v18, v20])) tf_29 rfl rfl hS786 rfl rfl rfl (by simp) (WH.tk 1 rfl hP hSW787 (pr_move rfl rfl (WH.tk 2 rfl hP hSW787 (pr_move rfl rfl (WH.tk 3 rfl hP hSW787 (pr_quo rfl rfl rfl (by decide) ?_)))))))
     obtain ⟨u788, hu788, hF⟩ := bindE hF
     refine WH.tk 4 rfl hP hSW787 (pr_sliceof (e := ty_59) Tryz.underlying30 rfl rfl (hS786.ok (i := 5) rfl : ownS ty_59 _ _ _ _).rd hu788 (.inl ⟨rfl, rfl⟩) (.inr ⟨_, _, rfl, rfl⟩) ?_)
     intro v789 hv792 hs791
     have hv790 := hv792.mono fun b hb => ((hS786.get (i := 5) rfl).2.1 b hb).2
     refine WH.many (is := [5, 10]) (by kernel_rfl) rfl (List.forall_mem_cons.2 ⟨⟨_, rfl, ?_⟩, List.forall_mem_cons.2 ⟨⟨_, rfl, ?_⟩, fun _ h => by cases h⟩⟩)
     ·
      obtain ⟨u793, hu793, hF⟩ := bindE hF
      refine wl_call rfl Tryz.call6 (C_impl_RunBeats w783 u13.1 v14 (hS786.own_ro (i := 0) rfl) v16 (hS786.own_ro (i := 1) rfl) v18 (hS786.own_ro (i := 2) rfl) v20 (hS786.own_ro (i := 3) rfl) u788 v789 (hv790.ro (hSW787.below hB785 hB785)) _ hu793) rfl ?_
      rintro _ w802 ⟨v794, F795, v796, F797, v798, F799, v800, F801, rfl, hb803, hM806⟩
      refine ⟨_, rfl, ?_⟩
      have hB804 := hB785.trans (hb803.mono hB785.size)
      have hS805 := hS786.join hb803 hM806 hB785.size
      have hSW811 := hSW787.ext hb803
      refine WL.nil (WH.ret hSW811 (WH.tk 6 rfl hP hSW811 (pr_move rfl rfl (WH.tk 7 rfl hP hSW811 (pr_extract rfl rfl rfl (WH.tk 8 rfl hP hSW811 (pr_extract rfl rfl rfl (WH.tk 9 rfl hP hSW811 (pr_extract rfl rfl rfl (WH.on1 10 rfl (wl_alloc (cs := [(.slice none 0 0), (.slice none 0 0), (.int .i64 0), (.int .i64 0), (.int .i64 0), (.slice none 0 0), (.slice none 0 0)]) tf_29 rfl rfl (Below.self w802) (Sep.nil _ _) ?_)))))))))))
      intro b812 w813 hb814 hB817 hM818
      have hB815 := hB804.trans (hb814.mono hB804.size)
      have hS816 := hS805.join hb814 hM818 hB804.size
      have hn819 : ∀ b ∈ [b812], w783.heap.size ≤ b := fun b hb => Nat.le_trans hSW811.size ((hM818.1 _ (List.mem_cons_self ..)).2.1 b hb).1
      have hSW820 := hSW811.ext hb814
      refine WL.nil (WH.ret hSW820 (WH.on1 11 rfl (wl_store_blk (i := 0) (vs := [v794, v796, (.int .i64 u793.1.1.2.2.1), (.int .i64 u793.1.1.2.2.2), (.int .i64 u793.1.2.1), v798, v800]) (cs' := [v794, v796, (.int .i64 u793.1.1.2.2.1), (.int .i64 u793.1.1.2.2.2), (.int .i64 u793.1.2.1), v798, v800]) tf_29 rfl rfl rfl rfl hB815 hS816 rfl rfl ⟨(hS816.own_ro (i := 1) rfl).one, (hS816.own_ro (i := 2) rfl).one, rfl, rfl, rfl, (hS816.own_ro (i := 3) rfl).one, (hS816.own_ro (i := 4) rfl).one, trivial⟩ rfl ?_)))
      intro w821 hk824 hB822 hS823
      have hSW825 := hSW820.wr' hk824.1 hk824.2.1 (fun b hlt hb => absurd hlt (Nat.not_lt.2 (hn819 b hb)))
      refine WL.nil (WH.ret hSW825 (WH.tk 12 rfl hP hSW825 (pr_assign rfl rfl (WH.tk 13 rfl hP hSW825 (pr_assign rfl rfl (WH.done (by kernel_rfl) ?_))))))
      exact fun a ha => hJ653 (u793.1.1.1) (u793.1.1.2.1) (u793.1.1.2.2.1) (u793.1.1.2.2.2) (u793.1.2.1) (u793.1.2.2.1) (u793.1.2.2.2) (u793.2.1) (u793.2.2) (v794) (F795) (v796) (F797) (v798) (F799) (v800) (F801) (b812) _ hF hB822 (hS823.sel [5, 6, 7, 8, 9, 10, 11, 12, 13, 14, 15, 16, 17, 18, 19, 20, 1, 2, 3, 4, 0] rfl) a (ha.sub ⟨rfl, rfl, rfl, rfl, rfl, rfl, rfl, rfl, rfl, trivial⟩)
     ·
      refine wl_alloc (cs := [(.slice none 0 0), (.slice none 0 0), (.int .i64 0), (.int .i64 0), (.int .i64 0), (.slice none 0 0), (.slice none 0 0)]) tf_29 rfl rfl (Below.self w783) (Sep.nil _ _) ?_
      intro b827 w828 hb829 hB832 hM833
      have hB830 := hB785.trans (hb829.mono hB785.size)
      have hS831 := hS786.join hb829 hM833 hB785.size
      have hn834 : ∀ b ∈ [b827], w783.heap.size ≤ b := fun b hb => Nat.le_trans hSW787.size ((hM833.1 _ (List.mem_cons_self ..)).2.1 b hb).1
      have hSW835 := hSW787.ext hb829
      refine WL.nil (WH.ret hSW835 (WH.on1 5 rfl ?_))
      obtain ⟨u836, hu836, hF⟩ := bindE hF
      refine wl_call rfl Tryz.call6 (C_impl_RunBeats w828 u13.1 v14 (hS831.own_ro (i := 1) rfl) v16 (hS831.own_ro (i := 2) rfl) v18 (hS831.own_ro (i := 3) rfl) v20 (hS831.own_ro (i := 4) rfl) u788 v789 (hv790.ro (hSW835.below hB785 hB830)) _ hu836) rfl ?_
      rintro _ w845 ⟨v837, F838, v839, F840, v841, F842, v843, F844, rfl, hb846, hM849⟩
      refine ⟨_, rfl, ?_⟩
      have hB847 := hB830.trans (hb846.mono hB830.size)
      have hS848 := hS831.join hb846 hM849 hB830.size
      have hSW854 := hSW835.ext hb846
      refine WL.nil (WH.ret hSW854 (WH.tk 6 rfl hP hSW854 (pr_move rfl rfl (WH.tk 7 rfl hP hSW854 (pr_extract rfl rfl rfl (WH.tk 8 rfl hP hSW854 (pr_extract rfl rfl rfl (WH.tk 9 rfl hP hSW854 (pr_extract rfl rfl rfl (WH.on1 11 rfl (wl_store_blk (i := 4) (vs := [v837, v839, (.int .i64 u836.1.1.2.2.1), (.int .i64 u836.1.1.2.2.2), (.int .i64 u836.1.2.1), v841, v843]) (cs' := [v837, v839, (.int .i64 u836.1.1.2.2.1), (.int .i64 u836.1.1.2.2.2), (.int .i64 u836.1.2.1), v841, v843]) tf_29 rfl rfl rfl rfl hB847 hS848 rfl rfl ⟨(hS848.own_ro (i := 0) rfl).one, (hS848.own_ro (i := 1) rfl).one, rfl, rfl, rfl, (hS848.own_ro (i := 2) rfl).one, (hS848.own_ro (i := 3) rfl).one, trivial⟩ rfl ?_)))))))))))
      intro w855 hk858 hB856 hS857
      have hSW859 := hSW854.wr' hk858.1 hk858.2.1 (fun b hlt hb => absurd hlt (Nat.not_lt.2 (hn834 b hb)))
      refine WL.nil (WH.ret hSW859 (WH.tk 12 rfl hP hSW859 (pr_assign rfl rfl (WH.tk 13 rfl hP hSW859 (pr_assign rfl rfl (WH.done (by kernel_rfl) ?_))))))
      exact fun a ha => hJ653 (u836.1.1.1) (u836.1.1.2.1) (u836.1.1.2.2.1) (u836.1.1.2.2.2) (u836.1.2.1) (u836.1.2.2.1) (u836.1.2.2.2) (u836.2.1) (u836.2.2) (v837) (F838) (v839) (F840) (v841) (F842) (v843) (F844) (b827) _ hF hB856 (hS857.sel [5, 6, 7, 8, 9, 10, 11, 12, 13, 14, 15, 16, 17, 18, 19, 20, 0, 1, 2, 3, 4] rfl) a (ha.sub ⟨rfl, rfl, rfl, rfl, rfl, rfl, rfl, rfl, rfl, trivial⟩)
    ·replace hF := ifN h629 hF
     refine W.skip ?_
     exact fun a ha => hJ101 _ hF hB89 (hS90.sel [] rfl) a (ha.sub ⟨rfl, trivial⟩)
  refine W.region (wl_move rfl rfl (wl_move rfl rfl (wl_neqb Tryz.underlying4 rfl rfl rfl (wl_move rfl rfl ?_))))
  rcases bE (u39.2.2 != u63.2.2) with h861 | h861
  ·replace hF := ifP h861 hF
   refine wl_off rfl rfl rfl h861 (wl_off rfl rfl rfl h861 (wl_off rfl rfl rfl h861 (wl_off rfl rfl rfl h861 (wl_pick_t rfl rfl h861 rfl (wl_move rfl rfl (wl_off rfl rfl rfl rfl (wl_off rfl rfl rfl rfl (wl_off rfl rfl rfl rfl (wl_pick_t rfl rfl rfl rfl (WL.nil ?_))))))))))
   exact fun a ha => hJ93 (true) _ hF hB83 (hS84.sel [11, 12, 13, 14, 10, 15, 6, 7, 8, 9, 5, 1, 2, 3, 4, 0] rfl) a (ha.sub ⟨rfl, rfl, rfl, rfl, rfl, rfl, rfl, rfl, trivial⟩)
  ·replace hF := ifN h861 hF
   refine wl_on rfl rfl h861 (wl_load_blk (i := 5) (vs := [v40, v42, (.int .i64 u39.1.1.2.2.1), (.int .i64 u39.1.1.2.2.2), (.int .i64 u39.1.2.1), v44, v46]) (v := (.agg #[v40, v42, (.int .i64 u39.1.1.2.2.1), (.int .i64 u39.1.1.2.2.2), (.int .i64 u39.1.2.1), v44, v46])) tf_29 rfl rfl hS84 rfl rfl rfl (wl_on rfl rfl h861 (wl_load_blk (i := 0) (vs := [v64, v66, (.int .i64 u63.1.1.2.2.1), (.int .i64 u63.1.1.2.2.2), (.int .i64 u63.1.2.1), v68, v70]) (v := (.agg #[v64, v66, (.int .i64 u63.1.1.2.2.1), (.int .i64 u63.1.1.2.2.2), (.int .i64 u63.1.2.1), v68, v70])) tf_29 rfl rfl hS84 rfl rfl rfl (wl_on rfl rfl h861 ?_))))
   obtain ⟨u862, hu862, hF⟩ := bindE hF
   refine wl_call rfl Tryz.call8 (C_laws_pSameMarch w82 u39.1 v40 (hS84.own_ro (i := 6) rfl) v42 (hS84.own_ro (i := 7) rfl) v44 (hS84.own_ro (i := 8) rfl) v46 (hS84.own_ro (i := 9) rfl) u63.1 v64 (hS84.own_ro (i := 1) rfl) v66 (hS84.own_ro (i := 2) rfl) v68 (hS84.own_ro (i := 3) rfl) v70 (hS84.own_ro (i := 4) rfl) _ hu862) rfl ?_
   rintro _ w863 ⟨rfl, hb864⟩
   refine ⟨_, rfl, ?_⟩
   have hB865 := hB83.trans (hb864.mono hB83.size)
   have hS866 := hS84.below hb864
   refine wl_on rfl rfl h861 (wl_not rfl rfl (wl_pick_f rfl rfl h861 rfl (wl_move rfl rfl ?_)))
   rcases bE (!u862) with h868 | h868
   ·replace hF := ifP h868 hF
    refine wl_off rfl rfl rfl h868 (wl_off rfl rfl rfl h868 (wl_off rfl rfl rfl h868 (wl_pick_t rfl rfl h868 rfl (WL.nil ?_))))
    exact fun a ha => hJ93 (true) _ hF hB865 (hS866.sel [11, 12, 13, 14, 10, 15, 6, 7, 8, 9, 5, 1, 2, 3, 4, 0] rfl) a (ha.sub ⟨rfl, rfl, rfl, rfl, rfl, rfl, rfl, rfl, trivial⟩)
   ·replace hF := ifN h868 hF
    refine wl_on rfl rfl h868 (wl_move rfl rfl (wl_on rfl rfl h868 (wl_move rfl rfl (wl_on rfl rfl h868 (wl_neq rfl rfl rfl (wl_pick_f rfl rfl h868 rfl (WL.nil ?_)))))))
    exact fun a ha => hJ93 ((u39.2.1 != u63.2.1)) _ hF hB865 (hS866.sel [11, 12, 13, 14, 10, 15, 6, 7, 8, 9, 5, 1, 2, 3, 4, 0] rfl) a (ha.sub ⟨rfl, rfl, rfl, rfl, rfl, rfl, rfl, rfl, trivial⟩)
end Go.Proofs.YtmkignciedkidaaGreat
