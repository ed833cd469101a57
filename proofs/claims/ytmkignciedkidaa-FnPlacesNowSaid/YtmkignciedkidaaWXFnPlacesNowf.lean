/-
  THE WALKS of functions of this seat, by program (gen.py, prune.py).
-/
import Derived.Test.YtmkignciedkidaaWXFnPlacesNowe
set_option linter.unusedSimpArgs false
set_option linter.unusedVariables false
set_option maxRecDepth 100000
set_option maxHeartbeats 1600000
namespace Go.Proofs.Ytmkignciedkidaa
open Go Go.RowKit
theorem C_laws_FnPlacesNow (w0 : World) (x0 : (List Int)) (v0_0 : Value) (h0_0 : rdS ty_5 (· < w0.heap.size) w0 v0_0 x0) (x1 : (List Int)) (v1_0 : Value) (h1_0 : rdS ty_5 (· < w0.heap.size) w0 v1_0 x1) (r : Bool) (hF : F_laws_FnPlacesNow x0 x1 = some r) :
  Calls Try.prog 7 [v0_0, v1_0].toArray w0 fun e w' => e = .returned (.bool r) ∧ Below w0.heap.size w0 w' := by
 refine calls_mk' Try.func7 rfl Try.ntmps7 rfl rfl fun Q hQ hP => ?_
 have hB : Below w0.heap.size w0 w0 := Below.refl _ _
 have hS : Sep w0.heap.size w0 [] := Sep.nil _ _
 unfold F_laws_FnPlacesNow at hF
 refine W.seq fun K1 hK1 => W.region (wl_assign rfl rfl (WL.nil (fun a ha => hK1 _ _ (W.seq fun K2 hK2 => (W.seq fun K3 hK3 => (W.region (wl_move rfl rfl (wl_move rfl rfl ?_))))) a ha)))
 obtain ⟨u4, hu4, hF⟩ := bindE hF
 refine wl_call rfl Try.call54 (C_laws_big w0 x0 v0_0 (h0_0.ro hB) x1 v1_0 (h1_0.ro hB) _ hu4) rfl ?_
 rintro _ w5 ⟨rfl, hb6⟩
 refine ⟨_, rfl, ?_⟩
 have hB7 := hB.trans (hb6.mono hB.size)
 have hS8 := hS.below hb6
 refine WL.nil fun a ha => hK3 _ _ (W.cond rfl (fun h10 => ?_) (fun h10 => ?_)) a ha
 ·replace hF := ifP h10 hF
  refine W.seq fun K11 hK11 => W.region (wl_assign rfl rfl (WL.nil (fun a ha => hK11 _ _ (W.ret ?_) a ha)))
  have hr := Option.some.inj hF
  subst hr
  exact rets (vs := [(.bool true)]) hQ rfl ⟨rv_tmp rfl, trivial⟩ ⟨rfl, hB7⟩
 ·replace hF := ifN h10 hF
  refine W.skip fun a ha => hK2 _ _ (W.seq fun K12 hK12 => (W.region (wl_move rfl rfl ?_))) a ha
  obtain ⟨u13, hu13, hF⟩ := bindE hF
  refine wl_call rfl Try.call90 (C_spec_DrawPlacesNow w5 x0 v0_0 (h0_0.ro hB7) _ hu13) rfl ?_
  rintro _ w22 ⟨v14, F15, v16, F17, v18, F19, v20, F21, rfl, hb23, hM26⟩
  refine ⟨_, rfl, ?_⟩
  have hB24 := hB7.trans (hb23.mono hB7.size)
  have hS25 := hS8.join hb23 hM26 hB7.size
  refine wl_alloc (cs := [(.slice none 0 0), (.slice none 0 0), (.int .i64 0), (.int .i64 0), (.int .i64 0), (.slice none 0 0), (.slice none 0 0)]) tf_102 rfl rfl hB24 hS25 ?_
  intro b27 w28 hb29 hB30 hS31
  refine wl_store_blk (i := 0) (vs := [v14, v16, (.int .i64 u13.1.2.2.1), (.int .i64 u13.1.2.2.2), (.int .i64 u13.2.1), v18, v20]) (cs' := [v14, v16, (.int .i64 u13.1.2.2.1), (.int .i64 u13.1.2.2.2), (.int .i64 u13.2.1), v18, v20]) tf_102 rfl rfl rfl rfl hB30 hS31 rfl rfl ⟨(hS31.own_ro (i := 1) rfl).one, (hS31.own_ro (i := 2) rfl).one, rfl, rfl, rfl, (hS31.own_ro (i := 3) rfl).one, (hS31.own_ro (i := 4) rfl).one, trivial⟩ rfl ?_
  intro w32 hk35 hB33 hS34
  refine WL.nil fun a ha => hK12 _ _ (W.seq fun K36 hK36 => (W.region (wl_load_blk (i := 0) (vs := [v14, v16, (.int .i64 u13.1.2.2.1), (.int .i64 u13.1.2.2.2), (.int .i64 u13.2.1), v18, v20]) (v := (.agg #[v14, v16, (.int .i64 u13.1.2.2.1), (.int .i64 u13.1.2.2.2), (.int .i64 u13.2.1), v18, v20])) tf_102 rfl rfl hS34 rfl rfl rfl ?_))) a ha
  obtain ⟨u37, hu37, hF⟩ := bindE hF
  refine wl_call rfl Try.call91 (C_impl_PlacesNow w32 u13 v14 (hS34.own_ro (i := 1) rfl) v16 (hS34.own_ro (i := 2) rfl) v18 (hS34.own_ro (i := 3) rfl) v20 (hS34.own_ro (i := 4) rfl) _ hu37) rfl ?_
  rintro _ w40 ⟨v38, F39, rfl, hb41, hM44⟩
  refine ⟨_, rfl, ?_⟩
  have hB42 := hB33.trans (hb41.mono hB33.size)
  have hS43 := hS34.join hb41 hM44 hB33.size
  refine wl_move rfl rfl (wl_extract rfl rfl rfl (wl_extract rfl rfl rfl (wl_assign rfl rfl (wl_assign rfl rfl (WL.nil (fun a ha => hK36 _ _ (W.seq fun K45 hK45 => (W.region (wl_load_blk (i := 1) (vs := [v14, v16, (.int .i64 u13.1.2.2.1), (.int .i64 u13.1.2.2.2), (.int .i64 u13.2.1), v18, v20]) (v := (.agg #[v14, v16, (.int .i64 u13.1.2.2.1), (.int .i64 u13.1.2.2.2), (.int .i64 u13.2.1), v18, v20])) tf_102 rfl rfl hS43 rfl rfl rfl ?_))) a ha))))))
  obtain ⟨u46, hu46, hF⟩ := bindE hF
  refine wl_call rfl Try.call92 (C_spec_PlacesNow w40 u13 v14 (hS43.own_ro (i := 2) rfl) v16 (hS43.own_ro (i := 3) rfl) v18 (hS43.own_ro (i := 4) rfl) v20 (hS43.own_ro (i := 5) rfl) _ hu46) rfl ?_
  rintro _ w49 ⟨v47, F48, rfl, hb50, hM53⟩
  refine ⟨_, rfl, ?_⟩
  have hB51 := hB42.trans (hb50.mono hB42.size)
  have hS52 := hS43.join hb50 hM53 hB42.size
  refine wl_move rfl rfl (wl_extract rfl rfl rfl (wl_extract rfl rfl rfl (wl_assign rfl rfl (wl_assign rfl rfl (WL.nil (fun a ha => hK45 _ _ (W.seq fun K54 hK54 => (W.region (wl_load_blk (i := 2) (vs := [v14, v16, (.int .i64 u13.1.2.2.1), (.int .i64 u13.1.2.2.2), (.int .i64 u13.2.1), v18, v20]) (v := (.agg #[v14, v16, (.int .i64 u13.1.2.2.1), (.int .i64 u13.1.2.2.2), (.int .i64 u13.2.1), v18, v20])) tf_102 rfl rfl hS52 rfl rfl rfl ?_))) a ha))))))
  obtain ⟨u55, hu55, hF⟩ := bindE hF
  refine wl_call rfl Try.call93 (C_impl_TooCloseNow w49 u13 v14 (hS52.own_ro (i := 3) rfl) v16 (hS52.own_ro (i := 4) rfl) v18 (hS52.own_ro (i := 5) rfl) v20 (hS52.own_ro (i := 6) rfl) _ hu55) rfl ?_
  rintro _ w58 ⟨v56, F57, rfl, hb59, hM62⟩
  refine ⟨_, rfl, ?_⟩
  have hB60 := hB51.trans (hb59.mono hB51.size)
  have hS61 := hS52.join hb59 hM62 hB51.size
  refine wl_move rfl rfl (wl_extract rfl rfl rfl (wl_extract rfl rfl rfl (wl_assign rfl rfl (wl_assign rfl rfl (WL.nil (fun a ha => hK54 _ _ (W.seq fun K63 hK63 => (W.region (wl_load_blk (i := 3) (vs := [v14, v16, (.int .i64 u13.1.2.2.1), (.int .i64 u13.1.2.2.2), (.int .i64 u13.2.1), v18, v20]) (v := (.agg #[v14, v16, (.int .i64 u13.1.2.2.1), (.int .i64 u13.1.2.2.2), (.int .i64 u13.2.1), v18, v20])) tf_102 rfl rfl hS61 rfl rfl rfl ?_))) a ha))))))
  obtain ⟨u64, hu64, hF⟩ := bindE hF
  refine wl_call rfl Try.call94 (C_spec_TooCloseNow w58 u13 v14 (hS61.own_ro (i := 4) rfl) v16 (hS61.own_ro (i := 5) rfl) v18 (hS61.own_ro (i := 6) rfl) v20 (hS61.own_ro (i := 7) rfl) _ hu64) rfl ?_
  rintro _ w67 ⟨v65, F66, rfl, hb68, hM71⟩
  refine ⟨_, rfl, ?_⟩
  have hB69 := hB60.trans (hb68.mono hB60.size)
  have hS70 := hS61.join hb68 hM71 hB60.size
  refine wl_move rfl rfl (wl_extract rfl rfl rfl (wl_extract rfl rfl rfl (wl_assign rfl rfl (wl_assign rfl rfl (WL.nil (fun a ha => hK63 _ _ (W.seq fun K72 hK72 => (W.region (wl_load_blk (i := 4) (vs := [v14, v16, (.int .i64 u13.1.2.2.1), (.int .i64 u13.1.2.2.2), (.int .i64 u13.2.1), v18, v20]) (v := (.agg #[v14, v16, (.int .i64 u13.1.2.2.1), (.int .i64 u13.1.2.2.2), (.int .i64 u13.2.1), v18, v20])) tf_102 rfl rfl hS70 rfl rfl rfl ?_))) a ha))))))
  obtain ⟨u73, hu73, hF⟩ := bindE hF
  refine wl_call rfl Try.call95 (C_impl_StillGoing w67 u13 v14 (hS70.own_ro (i := 5) rfl) v16 (hS70.own_ro (i := 6) rfl) v18 (hS70.own_ro (i := 7) rfl) v20 (hS70.own_ro (i := 8) rfl) _ hu73) rfl ?_
  rintro _ w76 ⟨v74, F75, rfl, hb77, hM80⟩
  refine ⟨_, rfl, ?_⟩
  have hB78 := hB69.trans (hb77.mono hB69.size)
  have hS79 := hS70.join hb77 hM80 hB69.size
  refine wl_move rfl rfl (wl_extract rfl rfl rfl (wl_extract rfl rfl rfl (wl_assign rfl rfl (wl_assign rfl rfl (WL.nil (fun a ha => hK72 _ _ (W.seq fun K81 hK81 => (W.region (wl_load_blk (i := 5) (vs := [v14, v16, (.int .i64 u13.1.2.2.1), (.int .i64 u13.1.2.2.2), (.int .i64 u13.2.1), v18, v20]) (v := (.agg #[v14, v16, (.int .i64 u13.1.2.2.1), (.int .i64 u13.1.2.2.2), (.int .i64 u13.2.1), v18, v20])) tf_102 rfl rfl hS79 rfl rfl rfl ?_))) a ha))))))
  obtain ⟨u82, hu82, hF⟩ := bindE hF
  refine wl_call rfl Try.call96 (C_spec_StillGoing w76 u13 v14 (hS79.own_ro (i := 6) rfl) v16 (hS79.own_ro (i := 7) rfl) v18 (hS79.own_ro (i := 8) rfl) v20 (hS79.own_ro (i := 9) rfl) _ hu82) rfl ?_
  rintro _ w85 ⟨v83, F84, rfl, hb86, hM89⟩
  refine ⟨_, rfl, ?_⟩
  have hB87 := hB78.trans (hb86.mono hB78.size)
  have hS88 := hS79.join hb86 hM89 hB78.size
  refine wl_move rfl rfl (wl_extract rfl rfl rfl (wl_extract rfl rfl rfl (wl_assign rfl rfl (wl_assign rfl rfl (WL.nil (fun a ha => hK81 _ _ (W.seq fun K90 hK90 => (W.region (wl_load_blk (i := 6) (vs := [v14, v16, (.int .i64 u13.1.2.2.1), (.int .i64 u13.1.2.2.2), (.int .i64 u13.2.1), v18, v20]) (v := (.agg #[v14, v16, (.int .i64 u13.1.2.2.1), (.int .i64 u13.1.2.2.2), (.int .i64 u13.2.1), v18, v20])) tf_102 rfl rfl hS88 rfl rfl rfl ?_))) a ha))))))
  obtain ⟨u91, hu91, hF⟩ := bindE hF
  refine wl_call rfl Try.call97 (C_impl_MostBehind w85 u13 v14 (hS88.own_ro (i := 7) rfl) v16 (hS88.own_ro (i := 8) rfl) v18 (hS88.own_ro (i := 9) rfl) v20 (hS88.own_ro (i := 10) rfl) _ hu91) rfl ?_
  rintro _ w92 ⟨rfl, hb93⟩
  refine ⟨_, rfl, ?_⟩
  have hB94 := hB87.trans (hb93.mono hB87.size)
  have hS95 := hS88.below hb93
  refine wl_move rfl rfl (wl_extract rfl rfl rfl (wl_extract rfl rfl rfl (wl_assign rfl rfl (wl_assign rfl rfl (WL.nil (fun a ha => hK90 _ _ (W.seq fun K97 hK97 => (W.region (wl_load_blk (i := 6) (vs := [v14, v16, (.int .i64 u13.1.2.2.1), (.int .i64 u13.1.2.2.2), (.int .i64 u13.2.1), v18, v20]) (v := (.agg #[v14, v16, (.int .i64 u13.1.2.2.1), (.int .i64 u13.1.2.2.2), (.int .i64 u13.2.1), v18, v20])) tf_102 rfl rfl hS95 rfl rfl rfl ?_))) a ha))))))
  obtain ⟨u98, hu98, hF⟩ := bindE hF
  refine wl_call rfl Try.call98 (C_spec_MostBehind w92 u13 v14 (hS95.own_ro (i := 7) rfl) v16 (hS95.own_ro (i := 8) rfl) v18 (hS95.own_ro (i := 9) rfl) v20 (hS95.own_ro (i := 10) rfl) _ hu98) rfl ?_
  rintro _ w99 ⟨rfl, hb100⟩
  refine ⟨_, rfl, ?_⟩
  have hB101 := hB94.trans (hb100.mono hB94.size)
  have hS102 := hS95.below hb100
  refine wl_move rfl rfl (wl_extract rfl rfl rfl (wl_extract rfl rfl rfl (wl_assign rfl rfl (wl_assign rfl rfl (WL.nil (fun a ha => hK97 _ _ (W.seq fun K104 hK104 => (W.seq fun K105 hK105 => ?_)) a ha))))))
  obtain ⟨k110, hk110, hF⟩ := jE1 hF
  have hJ111 : ∀ (y109 : Bool) (w106 : World) (_ : k110 y109 = some r) (_ : Below w0.heap.size w0 w106) (_ : Sep w0.heap.size w106 [R.own ty_63 F15 v14 u13.1.1, R.own ty_3 F17 v16 u13.1.2.1, R.own ty_3 F19 v18 u13.2.2.1, R.own ty_3 F21 v20 u13.2.2.2, R.blk b27 102 [v14, v16, (.int .i64 u13.1.2.2.1), (.int .i64 u13.1.2.2.2), (.int .i64 u13.2.1), v18, v20], R.own ty_68 F48 v47 u46.1, R.own ty_29 F66 v65 u64.1, R.own ty_3 F84 v83 u82.1]), ∀ a, St 350 [(1, v1_0), (5, (.pointer (some ⟨b27, 0, none⟩))), (7, (.bool u37.2)), (8, v47), (12, v65), (16, v83), (20, (.int .i64 u98.1)), (151, (.bool y109))] a → K105 a w106 := by
   intro y109 w106 hF hB107 hS108
   subst hk110
   refine fun a ha => hK105 _ _ (W.cond rfl (fun h112 => ?_) (fun h112 => ?_)) a ha
   ·replace hF := ifP h112 hF
    refine W.seq fun K113 hK113 => W.region (wl_assign rfl rfl (WL.nil (fun a ha => hK113 _ _ (W.ret ?_) a ha)))
    have hr := Option.some.inj hF
    subst hr
    exact rets (vs := [(.bool false)]) hQ rfl ⟨rv_tmp rfl, trivial⟩ ⟨rfl, hB107⟩
   ·replace hF := ifN h112 hF
    refine W.skip fun a ha => hK104 _ _ (W.seq fun K114 hK114 => ?_) a ha
    obtain ⟨k118, hk118, hF⟩ := jE0 hF
    have hJ119 : ∀ (w115 : World) (_ : k118 = some r) (_ : Below w0.heap.size w0 w115) (_ : Sep w0.heap.size w115 []), ∀ a, St 350 [(1, v1_0)] a → K114 a w115 := by
     intro w115 hF hB116 hS117
     subst hk118
     refine fun a ha => hK114 _ _ (W.seq fun K120 hK120 => (W.region (wl_move rfl rfl ?_))) a ha
     obtain ⟨u121, hu121, hF⟩ := bindE hF
     refine wl_call rfl Try.call104 (C_spec_DrawWhereNow w115 x1 v1_0 (h1_0.ro hB116) _ hu121) rfl ?_
     rintro _ w130 ⟨v122, F123, v124, F125, v126, F127, v128, F129, rfl, hb131, hM134⟩
     refine ⟨_, rfl, ?_⟩
     have hB132 := hB116.trans (hb131.mono hB116.size)
     have hS133 := hS117.join hb131 hM134 hB116.size
     refine wl_move rfl rfl (wl_extract rfl rfl rfl (wl_extract rfl rfl rfl (wl_alloc (cs := [(.slice none 0 0), (.slice none 0 0), (.int .i64 0), (.int .i64 0), (.int .i64 0), (.slice none 0 0), (.slice none 0 0)]) tf_102 rfl rfl hB132 hS133 ?_)))
     intro b135 w136 hb137 hB138 hS139
     refine wl_store_blk (i := 0) (vs := [v122, v124, (.int .i64 u121.1.1.2.2.1), (.int .i64 u121.1.1.2.2.2), (.int .i64 u121.1.2.1), v126, v128]) (cs' := [v122, v124, (.int .i64 u121.1.1.2.2.1), (.int .i64 u121.1.1.2.2.2), (.int .i64 u121.1.2.1), v126, v128]) tf_102 rfl rfl rfl rfl hB138 hS139 rfl rfl ⟨(hS139.own_ro (i := 1) rfl).one, (hS139.own_ro (i := 2) rfl).one, rfl, rfl, rfl, (hS139.own_ro (i := 3) rfl).one, (hS139.own_ro (i := 4) rfl).one, trivial⟩ rfl ?_
     intro w140 hk143 hB141 hS142
     refine wl_assign rfl rfl (WL.nil (fun a ha => hK120 _ _ (W.seq fun K144 hK144 => (W.region (wl_load_blk (i := 0) (vs := [v122, v124, (.int .i64 u121.1.1.2.2.1), (.int .i64 u121.1.1.2.2.2), (.int .i64 u121.1.2.1), v126, v128]) (v := (.agg #[v122, v124, (.int .i64 u121.1.1.2.2.1), (.int .i64 u121.1.1.2.2.2), (.int .i64 u121.1.2.1), v126, v128])) tf_102 rfl rfl hS142 rfl rfl rfl (wl_move rfl rfl ?_)))) a ha))
     obtain ⟨u145, hu145, hF⟩ := bindE hF
     refine wl_call rfl Try.call101 (C_impl_WhereNow w140 u121.1 v122 (hS142.own_ro (i := 1) rfl) v124 (hS142.own_ro (i := 2) rfl) v126 (hS142.own_ro (i := 3) rfl) v128 (hS142.own_ro (i := 4) rfl) u121.2 _ hu145) rfl ?_
     rintro _ w146 ⟨rfl, hb147⟩
     refine ⟨_, rfl, ?_⟩
     have hB148 := hB141.trans (hb147.mono hB141.size)
     have hS149 := hS142.below hb147
     refine wl_move rfl rfl (wl_extract rfl rfl rfl (wl_extract rfl rfl rfl (wl_alloc (cs := [(.int .i64 0), (.int .i64 0)]) tf_68 rfl rfl hB148 hS149 ?_)))
     intro b151 w152 hb153 hB154 hS155
     refine wl_store_blk (i := 0) (vs := [(.int .i64 u145.1.1), (.int .i64 u145.1.2)]) (cs' := [(.int .i64 u145.1.1), (.int .i64 u145.1.2)]) tf_68 rfl rfl rfl rfl hB154 hS155 rfl rfl ⟨rfl, rfl, trivial⟩ rfl ?_
     intro w156 hk159 hB157 hS158
     refine wl_assign rfl rfl (WL.nil (fun a ha => hK144 _ _ (W.seq fun K160 hK160 => (W.region (wl_load_blk (i := 1) (vs := [v122, v124, (.int .i64 u121.1.1.2.2.1), (.int .i64 u121.1.1.2.2.2), (.int .i64 u121.1.2.1), v126, v128]) (v := (.agg #[v122, v124, (.int .i64 u121.1.1.2.2.1), (.int .i64 u121.1.1.2.2.2), (.int .i64 u121.1.2.1), v126, v128])) tf_102 rfl rfl hS158 rfl rfl rfl (wl_move rfl rfl ?_)))) a ha))
     obtain ⟨u161, hu161, hF⟩ := bindE hF
     refine wl_call rfl Try.call105 (C_spec_WhereNow w156 u121.1 v122 (hS158.own_ro (i := 2) rfl) v124 (hS158.own_ro (i := 3) rfl) v126 (hS158.own_ro (i := 4) rfl) v128 (hS158.own_ro (i := 5) rfl) u121.2 _ hu161) rfl ?_
     rintro _ w162 ⟨rfl, hb163⟩
     refine ⟨_, rfl, ?_⟩
     have hB164 := hB157.trans (hb163.mono hB157.size)
     have hS165 := hS158.below hb163
     refine wl_move rfl rfl (wl_extract rfl rfl rfl (wl_extract rfl rfl rfl (wl_alloc (cs := [(.int .i64 0), (.int .i64 0)]) tf_68 rfl rfl hB164 hS165 ?_)))
     intro b167 w168 hb169 hB170 hS171
     refine wl_store_blk (i := 0) (vs := [(.int .i64 u161.1.1), (.int .i64 u161.1.2)]) (cs' := [(.int .i64 u161.1.1), (.int .i64 u161.1.2)]) tf_68 rfl rfl rfl rfl hB170 hS171 rfl rfl ⟨rfl, rfl, trivial⟩ rfl ?_
     intro w172 hk175 hB173 hS174
     refine wl_assign rfl rfl (WL.nil (fun a ha => hK160 _ _ (W.seq fun K176 hK176 => ?_) a ha))
     obtain ⟨k181, hk181, hF⟩ := jE1 hF
     have hJ182 : ∀ (y180 : Bool) (w177 : World) (_ : k181 y180 = some r) (_ : Below w0.heap.size w0 w177) (_ : Sep w0.heap.size w177 []), ∀ a, St 350 [(4, (.bool y180))] a → K176 a w177 := by
      intro y180 w177 hF hB178 hS179
      subst hk181
      refine fun a ha => hK176 _ _ (W.ret ?_) a ha
      have hr := Option.some.inj hF
      subst hr
      exact rets (vs := [(.bool y180)]) hQ rfl ⟨rv_tmp rfl, trivial⟩ ⟨rfl, hB178⟩
     refine W.region (wl_move rfl rfl (wl_move rfl rfl (wl_eqlb Try.underlying4 rfl rfl rfl (wl_move rfl rfl ?_))))
     rcases bE (u145.2 == u161.2) with h183 | h183
     ·replace hF := ifP h183 hF
      refine wl_on rfl rfl h183 (wl_load_blk (i := 1) (vs := [(.int .i64 u145.1.1), (.int .i64 u145.1.2)]) (v := (.agg #[(.int .i64 u145.1.1), (.int .i64 u145.1.2)])) tf_68 rfl rfl hS174 rfl rfl rfl (wl_on rfl rfl h183 (wl_load_blk (i := 0) (vs := [(.int .i64 u161.1.1), (.int .i64 u161.1.2)]) (v := (.agg #[(.int .i64 u161.1.1), (.int .i64 u161.1.2)])) tf_68 rfl rfl hS174 rfl rfl rfl (wl_on rfl rfl h183 (wl_eqs Try.eqGuardType68 (eq_68 u145.1 u161.1) rfl rfl rfl (wl_pick_t rfl rfl h183 rfl (wl_assign rfl rfl (WL.nil ?_))))))))
      exact fun a ha => hJ182 ((eqv_Spot u145.1 u161.1)) _ hF hB173 (hS174.sel [] rfl) a (ha.sub ⟨rfl, trivial⟩)
     ·replace hF := ifN h183 hF
      refine wl_off rfl rfl rfl h183 (wl_off rfl rfl rfl h183 (wl_off rfl rfl rfl h183 (wl_pick_f rfl rfl h183 rfl (wl_assign rfl rfl (WL.nil ?_)))))
      exact fun a ha => hJ182 (false) _ hF hB173 (hS174.sel [] rfl) a (ha.sub ⟨rfl, trivial⟩)
    refine W.seq fun K184 hK184 => W.region (wl_move rfl rfl (WL.nil (fun a ha => hK184 _ _ (W.cond rfl (fun h185 => ?_) (fun h185 => ?_)) a ha)))
    ·replace hF := ifP h185 hF
     refine W.seq fun K186 hK186 => W.region (wl_field (o := 0) (off' := 0) ff_102_0 rfl rfl rfl (wl_load_blk (i := 4) (vs := [v14, v16, (.int .i64 u13.1.2.2.1), (.int .i64 u13.1.2.2.2)]) (v := (.agg #[v14, v16, (.int .i64 u13.1.2.2.1), (.int .i64 u13.1.2.2.2)])) tf_53 rfl rfl hS108 rfl rfl rfl ?_))
     obtain ⟨u187, hu187, hF⟩ := bindE hF
     refine wl_call rfl Try.call63 (C_impl_TotalCounts w106 u13.1 v14 (hS108.own_ro (i := 0) rfl) v16 (hS108.own_ro (i := 1) rfl) _ hu187) rfl ?_
     rintro _ w188 ⟨rfl, hb189⟩
     refine ⟨_, rfl, ?_⟩
     have hB190 := hB107.trans (hb189.mono hB107.size)
     have hS191 := hS108.below hb189
     refine wl_move rfl rfl (wl_extract rfl rfl rfl (wl_extract rfl rfl rfl (wl_assign rfl rfl (wl_assign rfl rfl (WL.nil (fun a ha => hK186 _ _ (W.seq fun K193 hK193 => (W.region (wl_field (o := 0) (off' := 0) ff_102_0 rfl rfl rfl (wl_load_blk (i := 4) (vs := [v14, v16, (.int .i64 u13.1.2.2.1), (.int .i64 u13.1.2.2.2)]) (v := (.agg #[v14, v16, (.int .i64 u13.1.2.2.1), (.int .i64 u13.1.2.2.2)])) tf_53 rfl rfl hS191 rfl rfl rfl ?_)))) a ha))))))
     obtain ⟨u194, hu194, hF⟩ := bindE hF
     refine wl_call rfl Try.call80 (C_spec_TotalCounts w188 u13.1 v14 (hS191.own_ro (i := 0) rfl) v16 (hS191.own_ro (i := 1) rfl) _ hu194) rfl ?_
     rintro _ w195 ⟨rfl, hb196⟩
     refine ⟨_, rfl, ?_⟩
     have hB197 := hB190.trans (hb196.mono hB190.size)
     have hS198 := hS191.below hb196
     refine wl_move rfl rfl (wl_extract rfl rfl rfl (wl_extract rfl rfl rfl (wl_assign rfl rfl (wl_assign rfl rfl (WL.nil (fun a ha => hK193 _ _ (W.seq fun K200 hK200 => (W.seq fun K201 hK201 => ?_)) a ha))))))
     obtain ⟨k206, hk206, hF⟩ := jE1 hF
     have hJ207 : ∀ (y205 : Bool) (w202 : World) (_ : k206 y205 = some r) (_ : Below w0.heap.size w0 w202) (_ : Sep w0.heap.size w202 [R.own ty_63 F15 v14 u13.1.1, R.own ty_3 F17 v16 u13.1.2.1, R.own ty_3 F19 v18 u13.2.2.1, R.own ty_3 F21 v20 u13.2.2.2, R.blk b27 102 [v14, v16, (.int .i64 u13.1.2.2.1), (.int .i64 u13.1.2.2.2), (.int .i64 u13.2.1), v18, v20], R.own ty_68 F48 v47 u46.1, R.own ty_29 F66 v65 u64.1, R.own ty_3 F84 v83 u82.1]), ∀ a, St 350 [(1, v1_0), (5, (.pointer (some ⟨b27, 0, none⟩))), (8, v47), (12, v65), (16, v83), (20, (.int .i64 u98.1)), (24, (.int .i64 u194.1)), (183, (.bool y205))] a → K201 a w202 := by
      intro y205 w202 hF hB203 hS204
      subst hk206
      refine fun a ha => hK201 _ _ (W.cond rfl (fun h208 => ?_) (fun h208 => ?_)) a ha
      ·replace hF := ifP h208 hF
       refine W.seq fun K209 hK209 => W.region (wl_assign rfl rfl (WL.nil (fun a ha => hK209 _ _ (W.ret ?_) a ha)))
       have hr := Option.some.inj hF
       subst hr
       exact rets (vs := [(.bool false)]) hQ rfl ⟨rv_tmp rfl, trivial⟩ ⟨rfl, hB203⟩
      ·replace hF := ifN h208 hF
       refine W.skip fun a ha => hK200 _ _ (W.seq fun K210 hK210 => (W.seq fun K211 hK211 => (W.region (wl_move rfl rfl (wl_lenr (e := ty_68) (l := u46.1) Try.underlying63 rfl rfl (hS204.own_ro (i := 5) rfl) (wl_move rfl rfl (WL.nil (fun a ha => hK211 _ _ (W.block ?_) a ha)))))))) a ha
       refine W.loopk (fun m a w212 => ∃ (y215 : Int), St 350 [(1, v1_0), (5, (.pointer (some ⟨b27, 0, none⟩))), (8, v47), (12, v65), (16, v83), (20, (.int .i64 u98.1)), (24, (.int .i64 u194.1)), (184, v47), (185, (.int .i64 (List.length u46.1 : Int))), (186, (.int .i64 y215))] a ∧ Below w0.heap.size w0 w212 ∧ Sep w0.heap.size w212 [R.own ty_63 F15 v14 u13.1.1, R.own ty_3 F17 v16 u13.1.2.1, R.own ty_3 F19 v18 u13.2.2.1, R.own ty_3 F21 v20 u13.2.2.2, R.blk b27 102 [v14, v16, (.int .i64 u13.1.2.2.1), (.int .i64 u13.1.2.2.2), (.int .i64 u13.2.1), v18, v20], R.own ty_68 F48 v47 u46.1, R.own ty_29 F66 v65 u64.1, R.own ty_3 F84 v83 u82.1] ∧ F_laws_FnPlacesNow_L1 u46 u13 u194 u82 u98 u64 k118 m y215 = some r) FU ?_ ?_
       ·
        exact fun a ha => ⟨0, ha.sub ⟨rfl, rfl, rfl, rfl, rfl, rfl, rfl, rfl, rfl, rfl, trivial⟩, hB203, (hS204.sel [0, 1, 2, 3, 4, 5, 6, 7] rfl), hF⟩
       ·
        rintro m218 a w212 ⟨y215, ha, hB213, hS214, hF⟩ KL217 hKL217
        refine W.at ?_ ha
        cases m218 with
        | zero => exact noneE hF
        | succ m218 =>
         obtain ⟨nx216, hnx216⟩ : ∃ k, k = F_laws_FnPlacesNow_L1 u46 u13 u194 u82 u98 u64 k118 m218 := ⟨_, rfl⟩
         rw [F_laws_FnPlacesNow_L1, ← hnx216] at hF
         refine W.seq fun K219 hK219 => W.region (wl_lss rfl rfl rfl (WL.nil (fun a ha => hK219 _ _ (W.seq fun K220 hK220 => (W.cond rfl (fun h221 => ?_) (fun h221 => ?_))) a ha)))
         ·replace hF := ifP h221 hF
          refine W.skip fun a ha => hK220 _ _ (W.seq fun K222 hK222 => (W.block (W.seq fun K223 hK223 => (W.region (wl_move rfl rfl ?_))))) a ha
          obtain ⟨u224, hu224, hF⟩ := bindE hF
          refine wl_indexo (e := ty_68) (i := 5) Try.underlying63 rfl rfl rfl hS214 rfl hu224 ?_
          rintro p225 _ rfl hp226 ho227
          refine wl_load_p (vs := [(.int .i64 u224.1), (.int .i64 u224.2)]) (v := (.agg #[(.int .i64 u224.1), (.int .i64 u224.2)])) tf_68 rfl rfl hp226 rfl rfl (wl_alloc (cs := [(.int .i64 0), (.int .i64 0)]) tf_68 rfl rfl hB213 hS214 ?_)
          intro b228 w229 hb230 hB231 hS232
          refine wl_assign rfl rfl (wl_store_blk (i := 0) (vs := [(.int .i64 u224.1), (.int .i64 u224.2)]) (cs' := [(.int .i64 u224.1), (.int .i64 u224.2)]) tf_68 rfl rfl rfl rfl hB231 hS232 rfl rfl ⟨rfl, rfl, trivial⟩ rfl ?_)
          intro w233 hk236 hB234 hS235
          refine WL.nil fun a ha => hK223 _ _ (W.seq fun K237 hK237 => (W.region (wl_load_blk (i := 5) (vs := [v14, v16, (.int .i64 u13.1.2.2.1), (.int .i64 u13.1.2.2.2), (.int .i64 u13.2.1), v18, v20]) (v := (.agg #[v14, v16, (.int .i64 u13.1.2.2.1), (.int .i64 u13.1.2.2.2), (.int .i64 u13.2.1), v18, v20])) tf_102 rfl rfl hS235 rfl rfl rfl (wl_move rfl rfl ?_)))) a ha
          obtain ⟨u238, hu238, hF⟩ := bindE hF
          refine wl_call rfl Try.call101 (C_impl_WhereNow w233 u13 v14 (hS235.own_ro (i := 1) rfl) v16 (hS235.own_ro (i := 2) rfl) v18 (hS235.own_ro (i := 3) rfl) v20 (hS235.own_ro (i := 4) rfl) y215 _ hu238) rfl ?_
          rintro _ w239 ⟨rfl, hb240⟩
          refine ⟨_, rfl, ?_⟩
          have hB241 := hB234.trans (hb240.mono hB234.size)
          have hS242 := hS235.below hb240
          refine wl_move rfl rfl (wl_extract rfl rfl rfl (wl_extract rfl rfl rfl (wl_alloc (cs := [(.int .i64 0), (.int .i64 0)]) tf_68 rfl rfl hB241 hS242 ?_)))
          intro b244 w245 hb246 hB247 hS248
          refine wl_store_blk (i := 0) (vs := [(.int .i64 u238.1.1), (.int .i64 u238.1.2)]) (cs' := [(.int .i64 u238.1.1), (.int .i64 u238.1.2)]) tf_68 rfl rfl rfl rfl hB247 hS248 rfl rfl ⟨rfl, rfl, trivial⟩ rfl ?_
          intro w249 hk252 hB250 hS251
          refine wl_assign rfl rfl (WL.nil (fun a ha => hK237 _ _ (W.seq fun K253 hK253 => (W.region (wl_field (o := 0) (off' := 0) ff_102_0 rfl rfl rfl (wl_field (o := 0) (off' := 0) ff_53_0 rfl rfl rfl (wl_load_blk (i := 6) (vs := [v14]) (v := v14) tf_51 rfl rfl hS251 rfl rfl rfl (wl_field (o := 0) (off' := 0) ff_102_0 rfl rfl rfl (wl_field (o := 1) (off' := 1) ff_53_1 rfl rfl rfl (wl_load_blk (i := 6) (vs := [v16]) (v := v16) tf_29 rfl rfl hS251 rfl rfl rfl (wl_move rfl rfl ?_))))))))) a ha))
          obtain ⟨u254, hu254, hF⟩ := bindE hF
          refine wl_call rfl Try.call102 (C_impl_SheetOf w249 u13.1.1 v14 (hS251.own_ro (i := 2) rfl) u13.1.2.1 v16 (hS251.own_ro (i := 3) rfl) y215 _ hu254) rfl ?_
          rintro _ w257 ⟨v255, F256, rfl, hb258, hM261⟩
          refine ⟨_, rfl, ?_⟩
          have hB259 := hB250.trans (hb258.mono hB250.size)
          have hS260 := hS251.join hb258 hM261 hB250.size
          refine wl_move rfl rfl (wl_extract rfl rfl rfl (wl_extract rfl rfl rfl (wl_alloc (cs := [(.int .i64 0), (.int .i64 0), (.int .i64 0), (.slice none 0 0)]) tf_114 rfl rfl hB259 hS260 ?_)))
          intro b262 w263 hb264 hB265 hS266
          refine wl_store_blk (i := 0) (vs := [(.int .i64 u254.1.1), (.int .i64 u254.1.2.1.1), (.int .i64 u254.1.2.1.2), v255]) (cs' := [(.int .i64 u254.1.1), (.int .i64 u254.1.2.1.1), (.int .i64 u254.1.2.1.2), v255]) tf_114 rfl rfl rfl rfl hB265 hS266 rfl rfl ⟨rfl, rfl, rfl, (hS266.own_ro (i := 1) rfl).one, trivial⟩ rfl ?_
          intro w267 hk270 hB268 hS269
          refine wl_assign rfl rfl (WL.nil (fun a ha => hK253 _ _ (W.seq fun K271 hK271 => (W.regionH mixed_ [] hB268 hS269 ?_)) a ha))
          intro w272 hb273 hB274 hS275
          have hSW276 := KeepX.refl w272 []
          refine WH.takex (i := 0) rfl (by kernel_rfl) (by kernel_rfl) (by kernel_rfl) hP hSW276 (pr_field (o := 4) (off' := 4) ff_102_1 rfl rfl rfl (WH.takex (i := 1) rfl (by kernel_rfl) (by kernel_rfl) (by kernel_rfl) hP hSW276 (pr_load_blk (i := 8) (vs := [(.int .i64 u13.2.1)]) (v := (.int .i64 u13.2.1)) tf_3 rfl rfl hS275 rfl rfl rfl (by simp) (WH.takex (i := 2) rfl (by kernel_rfl) (by kernel_rfl) (by kernel_rfl) hP hSW276 (pr_field (o := 6) (off' := 6) ff_102_3 rfl rfl rfl (WH.takex (i := 3) rfl (by kernel_rfl) (by kernel_rfl) (by kernel_rfl) hP hSW276 (pr_load_blk (i := 8) (vs := [v20]) (v := v20) tf_29 rfl rfl hS275 rfl rfl rfl (by simp) (WH.takex (i := 4) rfl (by kernel_rfl) (by kernel_rfl) (by kernel_rfl) hP hSW276 (pr_move rfl rfl ?_)))))))))
          obtain ⟨u277, hu277, hF⟩ := bindE hF
          refine WH.takex (i := 5) rfl (by kernel_rfl) (by kernel_rfl) (by kernel_rfl) hP hSW276 (pr_indexo (e := ty_3) (i := 7) Try.underlying29 rfl rfl rfl hS275 rfl hu277 ?_)
          rintro p278 _ rfl hp279 ho280
          refine WH.takex (i := 6) rfl (by kernel_rfl) (by kernel_rfl) (by kernel_rfl) hP hSW276 (pr_load_p (vs := [(.int .i64 u277)]) (v := (.int .i64 u277)) tf_3 rfl rfl (hp279.kx0) rfl rfl (WH.takex (i := 7) rfl (by kernel_rfl) (by kernel_rfl) (by kernel_rfl) hP hSW276 (pr_sub rfl rfl rfl (WH.takex (i := 8) rfl (by kernel_rfl) (by kernel_rfl) (by kernel_rfl) hP hSW276 (pr_assign rfl rfl (WH.done (by kernel_rfl) (fun a ha => hK271 _ _ (W.seq fun K281 hK281 => ?_) a ha)))))))
          obtain ⟨k286, hk286, hF⟩ := jE1 hF
          have hJ287 : ∀ (y285 : Int) (w282 : World) (_ : k286 y285 = some r) (_ : Below w0.heap.size w0 w282) (_ : Sep w0.heap.size w282 [R.own ty_63 F15 v14 u13.1.1, R.own ty_3 F17 v16 u13.1.2.1, R.own ty_3 F19 v18 u13.2.2.1, R.own ty_3 F21 v20 u13.2.2.2, R.blk b27 102 [v14, v16, (.int .i64 u13.1.2.2.1), (.int .i64 u13.1.2.2.2), (.int .i64 u13.2.1), v18, v20], R.own ty_68 F48 v47 u46.1, R.own ty_29 F66 v65 u64.1, R.own ty_3 F84 v83 u82.1, R.blk b228 68 [(.int .i64 u224.1), (.int .i64 u224.2)], R.blk b244 68 [(.int .i64 u238.1.1), (.int .i64 u238.1.2)], R.own ty_169 F256 v255 u254.1.2.2, R.blk b262 114 [(.int .i64 u254.1.1), (.int .i64 u254.1.2.1.1), (.int .i64 u254.1.2.1.2), v255]]), ∀ a, St 350 [(1, v1_0), (5, (.pointer (some ⟨b27, 0, none⟩))), (8, v47), (12, v65), (16, v83), (20, (.int .i64 u98.1)), (24, (.int .i64 u194.1)), (26, (.int .i64 y215)), (27, (.pointer (some ⟨b228, 0, none⟩))), (28, (.pointer (some ⟨b244, 0, none⟩))), (29, (.bool u238.2)), (30, (.pointer (some ⟨b262, 0, none⟩))), (31, (.bool u254.2)), (32, (.int .i64 y285)), (184, v47), (185, (.int .i64 (List.length u46.1 : Int))), (186, (.int .i64 y215))] a → K281 a w282 := by
           intro y285 w282 hF hB283 hS284
           subst hk286
           refine fun a ha => hK281 _ _ (W.seq fun K288 hK288 => (W.region (wl_load_blk (i := 11) (vs := [(.int .i64 u254.1.1), (.int .i64 u254.1.2.1.1), (.int .i64 u254.1.2.1.2), v255]) (v := (.agg #[(.int .i64 u254.1.1), (.int .i64 u254.1.2.1.1), (.int .i64 u254.1.2.1.2), v255])) tf_114 rfl rfl hS284 rfl rfl rfl (wl_move rfl rfl ?_)))) a ha
           obtain ⟨u289, hu289, hF⟩ := bindE hF
           refine wl_call rfl Try.call103 (C_impl_SpotAfter w282 u254.1 v255 (hS284.own_ro (i := 10) rfl) y285 _ hu289) rfl ?_
           rintro _ w290 ⟨rfl, hb291⟩
           refine ⟨_, rfl, ?_⟩
           have hB292 := hB283.trans (hb291.mono hB283.size)
           have hS293 := hS284.below hb291
           refine wl_move rfl rfl (wl_extract rfl rfl rfl (wl_extract rfl rfl rfl (wl_alloc (cs := [(.int .i64 0), (.int .i64 0)]) tf_68 rfl rfl hB292 hS293 ?_)))
           intro b295 w296 hb297 hB298 hS299
           refine wl_store_blk (i := 0) (vs := [(.int .i64 u289.1.1), (.int .i64 u289.1.2)]) (cs' := [(.int .i64 u289.1.1), (.int .i64 u289.1.2)]) tf_68 rfl rfl rfl rfl hB298 hS299 rfl rfl ⟨rfl, rfl, trivial⟩ rfl ?_
           intro w300 hk303 hB301 hS302
           refine wl_assign rfl rfl (WL.nil (fun a ha => hK288 _ _ (W.seq fun K304 hK304 => (W.seq fun K305 hK305 => ?_)) a ha))
           obtain ⟨k310, hk310, hF⟩ := jE1 hF
           have hJ311 : ∀ (y309 : Bool) (w306 : World) (_ : k310 y309 = some r) (_ : Below w0.heap.size w0 w306) (_ : Sep w0.heap.size w306 [R.own ty_63 F15 v14 u13.1.1, R.own ty_3 F17 v16 u13.1.2.1, R.own ty_3 F19 v18 u13.2.2.1, R.own ty_3 F21 v20 u13.2.2.2, R.blk b27 102 [v14, v16, (.int .i64 u13.1.2.2.1), (.int .i64 u13.1.2.2.2), (.int .i64 u13.2.1), v18, v20], R.own ty_68 F48 v47 u46.1, R.own ty_29 F66 v65 u64.1, R.own ty_3 F84 v83 u82.1, R.blk b228 68 [(.int .i64 u224.1), (.int .i64 u224.2)]]), ∀ a, St 350 [(1, v1_0), (5, (.pointer (some ⟨b27, 0, none⟩))), (8, v47), (12, v65), (16, v83), (20, (.int .i64 u98.1)), (24, (.int .i64 u194.1)), (26, (.int .i64 y215)), (27, (.pointer (some ⟨b228, 0, none⟩))), (32, (.int .i64 y285)), (184, v47), (185, (.int .i64 (List.length u46.1 : Int))), (186, (.int .i64 y215)), (267, (.bool y309))] a → K305 a w306 := by
            intro y309 w306 hF hB307 hS308
            subst hk310
            refine fun a ha => hK305 _ _ (W.cond rfl (fun h312 => ?_) (fun h312 => ?_)) a ha
            ·replace hF := ifP h312 hF
             refine W.seq fun K313 hK313 => W.region (wl_assign rfl rfl (WL.nil (fun a ha => hK313 _ _ (W.ret ?_) a ha)))
             have hr := Option.some.inj hF
             subst hr
             exact rets (vs := [(.bool false)]) hQ rfl ⟨rv_tmp rfl, trivial⟩ ⟨rfl, hB307⟩
            ·replace hF := ifN h312 hF
             refine W.skip fun a ha => hK304 _ _ (W.seq fun K314 hK314 => ?_) a ha
             obtain ⟨k319, hk319, hF⟩ := jE1 hF
             have hJ320 : ∀ (y318 : Bool) (w315 : World) (_ : k319 y318 = some r) (_ : Below w0.heap.size w0 w315) (_ : Sep w0.heap.size w315 [R.own ty_63 F15 v14 u13.1.1, R.own ty_3 F17 v16 u13.1.2.1, R.own ty_3 F19 v18 u13.2.2.1, R.own ty_3 F21 v20 u13.2.2.2, R.blk b27 102 [v14, v16, (.int .i64 u13.1.2.2.1), (.int .i64 u13.1.2.2.2), (.int .i64 u13.2.1), v18, v20], R.own ty_68 F48 v47 u46.1, R.own ty_29 F66 v65 u64.1, R.own ty_3 F84 v83 u82.1]), ∀ a, St 350 [(1, v1_0), (5, (.pointer (some ⟨b27, 0, none⟩))), (8, v47), (12, v65), (16, v83), (20, (.int .i64 u98.1)), (24, (.int .i64 u194.1)), (184, v47), (185, (.int .i64 (List.length u46.1 : Int))), (186, (.int .i64 y215)), (287, (.bool y318))] a → K314 a w315 := by
              intro y318 w315 hF hB316 hS317
              subst hk319
              refine fun a ha => hK314 _ _ (W.cond rfl (fun h321 => ?_) (fun h321 => ?_)) a ha
              ·replace hF := ifP h321 hF
               refine W.seq fun K322 hK322 => W.region (wl_assign rfl rfl (WL.nil (fun a ha => hK322 _ _ (W.ret ?_) a ha)))
               have hr := Option.some.inj hF
               subst hr
               exact rets (vs := [(.bool false)]) hQ rfl ⟨rv_tmp rfl, trivial⟩ ⟨rfl, hB316⟩
              ·replace hF := ifN h321 hF
               refine W.skip fun a ha => hK222 _ _ (W.region (wl_add rfl rfl rfl (wl_move rfl rfl (WL.nil ?_)))) a ha
               rw [hnx216] at hF
               exact fun a ha => hKL217 a _ m218 (Nat.lt_succ_self m218) ⟨(w64 (y215 + 1)), ha.sub ⟨rfl, rfl, rfl, rfl, rfl, rfl, rfl, rfl, rfl, rfl, trivial⟩, hB316, (hS317.sel [0, 1, 2, 3, 4, 5, 6, 7] rfl), hF⟩
             refine W.regionH mixed_ [] hB307 hS308 ?_
             intro w323 hb324 hB325 hS326
             have hSW327 := KeepX.refl w323 []
             refine WH.takex (i := 0) rfl (by kernel_rfl) (by kernel_rfl) (by kernel_rfl) hP hSW327 (pr_move rfl rfl (WH.takex (i := 1) rfl (by kernel_rfl) (by kernel_rfl) (by kernel_rfl) hP hSW327 (pr_move rfl rfl (WH.takex (i := 2) rfl (by kernel_rfl) (by kernel_rfl) (by kernel_rfl) hP hSW327 (pr_eql rfl rfl rfl (WH.takex (i := 3) rfl (by kernel_rfl) (by kernel_rfl) (by kernel_rfl) hP hSW327 (pr_move rfl rfl ?_)))))))
             rcases bE (y285 == u194.1) with h328 | h328
             ·replace hF := ifP h328 hF
              refine WH.takexg (i := 4) rfl (by kernel_rfl) (by kernel_rfl) (by kernel_rfl) hP rfl rfl h328 hSW327 (pr_load_blk (i := 8) (vs := [(.int .i64 u224.1), (.int .i64 u224.2)]) (v := (.agg #[(.int .i64 u224.1), (.int .i64 u224.2)])) tf_68 rfl rfl hS326 rfl rfl rfl (by simp) (WH.takexg (i := 5) rfl (by kernel_rfl) (by kernel_rfl) (by kernel_rfl) hP rfl rfl h328 hSW327 (pr_field (o := 0) (off' := 0) ff_102_0 rfl rfl rfl (WH.takexg (i := 6) rfl (by kernel_rfl) (by kernel_rfl) (by kernel_rfl) hP rfl rfl h328 hSW327 (pr_field (o := 0) (off' := 0) ff_53_0 rfl rfl rfl (WH.takexg (i := 7) rfl (by kernel_rfl) (by kernel_rfl) (by kernel_rfl) hP rfl rfl h328 hSW327 (pr_load_blk (i := 4) (vs := [v14]) (v := v14) tf_51 rfl rfl hS326 rfl rfl rfl (by simp) (WH.takexg (i := 8) rfl (by kernel_rfl) (by kernel_rfl) (by kernel_rfl) hP rfl rfl h328 hSW327 (pr_field (o := 0) (off' := 0) ff_102_0 rfl rfl rfl ?_)))))))))
              refine WH.takexg (i := 9) rfl (by kernel_rfl) (by kernel_rfl) (by kernel_rfl) hP rfl rfl h328 hSW327 (pr_field (o := 0) (off' := 0) ff_53_0 rfl rfl rfl (WH.takexg (i := 10) rfl (by kernel_rfl) (by kernel_rfl) (by kernel_rfl) hP rfl rfl h328 hSW327 (pr_load_blk (i := 4) (vs := [v14]) (v := v14) tf_51 rfl rfl hS326 rfl rfl rfl (by simp) (WH.takexg (i := 11) rfl (by kernel_rfl) (by kernel_rfl) (by kernel_rfl) hP rfl rfl h328 hSW327 (pr_lenr (e := ty_63) (l := u13.1.1) Try.underlying51 rfl rfl (hS326.own_ro (i := 0) rfl) (WH.takexg (i := 12) rfl (by kernel_rfl) (by kernel_rfl) (by kernel_rfl) hP rfl rfl h328 hSW327 (pr_sub rfl rfl rfl ?_)))))))
              obtain ⟨u329, hu329, hF⟩ := bindE hF
              refine WH.takexg (i := 13) rfl (by kernel_rfl) (by kernel_rfl) (by kernel_rfl) hP rfl rfl h328 hSW327 (pr_indexo (e := ty_63) (i := 0) Try.underlying51 rfl rfl rfl hS326 rfl hu329 ?_)
              rintro p330 _ ⟨v332, rfl, hv333⟩ hp331 ho334
              refine WH.takexg (i := 14) rfl (by kernel_rfl) (by kernel_rfl) (by kernel_rfl) hP rfl rfl h328 hSW327 (pr_load_p (vs := [v332]) (v := v332) tf_63 rfl rfl (hp331.kx0) rfl rfl (WH.takexg (i := 15) rfl (by kernel_rfl) (by kernel_rfl) (by kernel_rfl) hP rfl rfl h328 hSW327 (pr_move rfl rfl ?_)))
              obtain ⟨u335, hu335, hF⟩ := bindE hF
              refine WH.takexg (i := 16) rfl (by kernel_rfl) (by kernel_rfl) (by kernel_rfl) hP rfl rfl h328 hSW327 (pr_index (e := ty_68) Try.underlying63 rfl rfl rfl hv333 hu335 ?_)
              rintro p336 _ rfl hp337
              refine WH.takexg (i := 17) rfl (by kernel_rfl) (by kernel_rfl) (by kernel_rfl) hP rfl rfl h328 hSW327 (pr_load_p (vs := [(.int .i64 u335.1), (.int .i64 u335.2)]) (v := (.agg #[(.int .i64 u335.1), (.int .i64 u335.2)])) tf_68 rfl rfl (hp337.kx0) rfl rfl (WH.takexg (i := 18) rfl (by kernel_rfl) (by kernel_rfl) (by kernel_rfl) hP rfl rfl h328 hSW327 (pr_nes Try.eqGuardType68 (eq_68 u224 u335) rfl rfl rfl (WH.takex (i := 19) rfl (by kernel_rfl) (by kernel_rfl) (by kernel_rfl) hP hSW327 (pr_pick_t rfl rfl h328 rfl (WH.done (by kernel_rfl) ?_))))))
              exact fun a ha => hJ320 ((!(eqv_Spot u224 u335))) _ hF hB325 (hS326.sel [0, 1, 2, 3, 4, 5, 6, 7] rfl) a (ha.sub ⟨rfl, rfl, rfl, rfl, rfl, rfl, rfl, rfl, rfl, rfl, rfl, trivial⟩)
             ·replace hF := ifN h328 hF
              refine WH.off (i := 4) rfl (by kernel_rfl) (by kernel_rfl) (by kernel_rfl) hP rfl rfl h328 rfl hSW327 (WH.off (i := 5) rfl (by kernel_rfl) (by kernel_rfl) (by kernel_rfl) hP rfl rfl h328 rfl hSW327 (WH.off (i := 6) rfl (by kernel_rfl) (by kernel_rfl) (by kernel_rfl) hP rfl rfl h328 rfl hSW327 (WH.off (i := 7) rfl (by kernel_rfl) (by kernel_rfl) (by kernel_rfl) hP rfl rfl h328 rfl hSW327 (WH.off (i := 8) rfl (by kernel_rfl) (by kernel_rfl) (by kernel_rfl) hP rfl rfl h328 rfl hSW327 (WH.off (i := 9) rfl (by kernel_rfl) (by kernel_rfl) (by kernel_rfl) hP rfl rfl h328 rfl hSW327 (WH.off (i := 10) rfl (by kernel_rfl) (by kernel_rfl) (by kernel_rfl) hP rfl rfl h328 rfl hSW327 (WH.off (i := 11) rfl (by kernel_rfl) (by kernel_rfl) (by kernel_rfl) hP rfl rfl h328 rfl hSW327 (WH.off (i := 12) rfl (by kernel_rfl) (by kernel_rfl) (by kernel_rfl) hP rfl rfl h328 rfl hSW327 ?_))))))))
              refine WH.off (i := 13) rfl (by kernel_rfl) (by kernel_rfl) (by kernel_rfl) hP rfl rfl h328 rfl hSW327 (WH.off (i := 14) rfl (by kernel_rfl) (by kernel_rfl) (by kernel_rfl) hP rfl rfl h328 rfl hSW327 (WH.off (i := 15) rfl (by kernel_rfl) (by kernel_rfl) (by kernel_rfl) hP rfl rfl h328 rfl hSW327 (WH.off (i := 16) rfl (by kernel_rfl) (by kernel_rfl) (by kernel_rfl) hP rfl rfl h328 rfl hSW327 (WH.off (i := 17) rfl (by kernel_rfl) (by kernel_rfl) (by kernel_rfl) hP rfl rfl h328 rfl hSW327 (WH.off (i := 18) rfl (by kernel_rfl) (by kernel_rfl) (by kernel_rfl) hP rfl rfl h328 rfl hSW327 (WH.takex (i := 19) rfl (by kernel_rfl) (by kernel_rfl) (by kernel_rfl) hP hSW327 (pr_pick_f rfl rfl h328 rfl (WH.done (by kernel_rfl) ?_))))))))
              exact fun a ha => hJ320 (false) _ hF hB325 (hS326.sel [0, 1, 2, 3, 4, 5, 6, 7] rfl) a (ha.sub ⟨rfl, rfl, rfl, rfl, rfl, rfl, rfl, rfl, rfl, rfl, rfl, trivial⟩)
           refine W.regionH mixed_ [] hB301 hS302 ?_
           intro w338 hb339 hB340 hS341
           have hSW342 := KeepX.refl w338 []
           refine WH.takex (i := 0) rfl (by kernel_rfl) (by kernel_rfl) (by kernel_rfl) hP hSW342 (pr_move rfl rfl (WH.takex (i := 1) rfl (by kernel_rfl) (by kernel_rfl) (by kernel_rfl) hP hSW342 (pr_not rfl rfl (WH.takex (i := 2) rfl (by kernel_rfl) (by kernel_rfl) (by kernel_rfl) hP hSW342 (pr_move rfl rfl ?_)))))
           rcases bE (!u238.2) with h343 | h343
           ·replace hF := ifP h343 hF
            refine WH.off (i := 3) rfl (by kernel_rfl) (by kernel_rfl) (by kernel_rfl) hP rfl rfl h343 rfl hSW342 (WH.off (i := 4) rfl (by kernel_rfl) (by kernel_rfl) (by kernel_rfl) hP rfl rfl h343 rfl hSW342 (WH.off (i := 5) rfl (by kernel_rfl) (by kernel_rfl) (by kernel_rfl) hP rfl rfl h343 rfl hSW342 (WH.takex (i := 6) rfl (by kernel_rfl) (by kernel_rfl) (by kernel_rfl) hP hSW342 (pr_pick_t rfl rfl h343 rfl (WH.takex (i := 7) rfl (by kernel_rfl) (by kernel_rfl) (by kernel_rfl) hP hSW342 (pr_move rfl rfl (WH.off (i := 8) rfl (by kernel_rfl) (by kernel_rfl) (by kernel_rfl) hP rfl rfl rfl rfl hSW342 (WH.off (i := 9) rfl (by kernel_rfl) (by kernel_rfl) (by kernel_rfl) hP rfl rfl rfl rfl hSW342 (WH.takex (i := 10) rfl (by kernel_rfl) (by kernel_rfl) (by kernel_rfl) hP hSW342 (pr_pick_t rfl rfl rfl rfl (WH.takex (i := 11) rfl (by kernel_rfl) (by kernel_rfl) (by kernel_rfl) hP hSW342 ?_)))))))))))
            refine pr_move rfl rfl (WH.off (i := 12) rfl (by kernel_rfl) (by kernel_rfl) (by kernel_rfl) hP rfl rfl rfl rfl hSW342 (WH.off (i := 13) rfl (by kernel_rfl) (by kernel_rfl) (by kernel_rfl) hP rfl rfl rfl rfl hSW342 (WH.takex (i := 14) rfl (by kernel_rfl) (by kernel_rfl) (by kernel_rfl) hP hSW342 (pr_pick_t rfl rfl rfl rfl (WH.takex (i := 15) rfl (by kernel_rfl) (by kernel_rfl) (by kernel_rfl) hP hSW342 (pr_move rfl rfl (WH.off (i := 16) rfl (by kernel_rfl) (by kernel_rfl) (by kernel_rfl) hP rfl rfl rfl rfl hSW342 (WH.off (i := 17) rfl (by kernel_rfl) (by kernel_rfl) (by kernel_rfl) hP rfl rfl rfl rfl hSW342 (WH.off (i := 18) rfl (by kernel_rfl) (by kernel_rfl) (by kernel_rfl) hP rfl rfl rfl rfl hSW342 (WH.takex (i := 19) rfl (by kernel_rfl) (by kernel_rfl) (by kernel_rfl) hP hSW342 (pr_pick_t rfl rfl rfl rfl ?_)))))))))))
            refine WH.takex (i := 20) rfl (by kernel_rfl) (by kernel_rfl) (by kernel_rfl) hP hSW342 (pr_move rfl rfl (WH.off (i := 21) rfl (by kernel_rfl) (by kernel_rfl) (by kernel_rfl) hP rfl rfl rfl rfl hSW342 (WH.off (i := 22) rfl (by kernel_rfl) (by kernel_rfl) (by kernel_rfl) hP rfl rfl rfl rfl hSW342 (WH.off (i := 23) rfl (by kernel_rfl) (by kernel_rfl) (by kernel_rfl) hP rfl rfl rfl rfl hSW342 (WH.off (i := 24) rfl (by kernel_rfl) (by kernel_rfl) (by kernel_rfl) hP rfl rfl rfl rfl hSW342 (WH.off (i := 25) rfl (by kernel_rfl) (by kernel_rfl) (by kernel_rfl) hP rfl rfl rfl rfl hSW342 (WH.off (i := 26) rfl (by kernel_rfl) (by kernel_rfl) (by kernel_rfl) hP rfl rfl rfl rfl hSW342 (WH.off (i := 27) rfl (by kernel_rfl) (by kernel_rfl) (by kernel_rfl) hP rfl rfl rfl rfl hSW342 (WH.takex (i := 28) rfl (by kernel_rfl) (by kernel_rfl) (by kernel_rfl) hP hSW342 (pr_pick_t rfl rfl rfl rfl ?_))))))))))
            refine WH.takex (i := 29) rfl (by kernel_rfl) (by kernel_rfl) (by kernel_rfl) hP hSW342 (pr_move rfl rfl (WH.off (i := 30) rfl (by kernel_rfl) (by kernel_rfl) (by kernel_rfl) hP rfl rfl rfl rfl hSW342 (WH.off (i := 31) rfl (by kernel_rfl) (by kernel_rfl) (by kernel_rfl) hP rfl rfl rfl rfl hSW342 (WH.off (i := 32) rfl (by kernel_rfl) (by kernel_rfl) (by kernel_rfl) hP rfl rfl rfl rfl hSW342 (WH.off (i := 33) rfl (by kernel_rfl) (by kernel_rfl) (by kernel_rfl) hP rfl rfl rfl rfl hSW342 (WH.off (i := 34) rfl (by kernel_rfl) (by kernel_rfl) (by kernel_rfl) hP rfl rfl rfl rfl hSW342 (WH.off (i := 35) rfl (by kernel_rfl) (by kernel_rfl) (by kernel_rfl) hP rfl rfl rfl rfl hSW342 (WH.off (i := 36) rfl (by kernel_rfl) (by kernel_rfl) (by kernel_rfl) hP rfl rfl rfl rfl hSW342 (WH.off (i := 37) rfl (by kernel_rfl) (by kernel_rfl) (by kernel_rfl) hP rfl rfl rfl rfl hSW342 ?_)))))))))
            refine WH.off (i := 38) rfl (by kernel_rfl) (by kernel_rfl) (by kernel_rfl) hP rfl rfl rfl rfl hSW342 (WH.off (i := 39) rfl (by kernel_rfl) (by kernel_rfl) (by kernel_rfl) hP rfl rfl rfl rfl hSW342 (WH.off (i := 40) rfl (by kernel_rfl) (by kernel_rfl) (by kernel_rfl) hP rfl rfl rfl rfl hSW342 (WH.takex (i := 41) rfl (by kernel_rfl) (by kernel_rfl) (by kernel_rfl) hP hSW342 (pr_pick_t rfl rfl rfl rfl (WH.done (by kernel_rfl) ?_)))))
            exact fun a ha => hJ311 (true) _ hF hB340 (hS341.sel [1, 2, 3, 4, 5, 6, 7, 8, 9] rfl) a (ha.sub ⟨rfl, rfl, rfl, rfl, rfl, rfl, rfl, rfl, rfl, rfl, rfl, rfl, rfl, rfl, trivial⟩)
           ·replace hF := ifN h343 hF
            refine WH.takexg (i := 3) rfl (by kernel_rfl) (by kernel_rfl) (by kernel_rfl) hP rfl rfl h343 hSW342 (pr_load_blk (i := 10) (vs := [(.int .i64 u238.1.1), (.int .i64 u238.1.2)]) (v := (.agg #[(.int .i64 u238.1.1), (.int .i64 u238.1.2)])) tf_68 rfl rfl hS341 rfl rfl rfl (by simp) (WH.takexg (i := 4) rfl (by kernel_rfl) (by kernel_rfl) (by kernel_rfl) hP rfl rfl h343 hSW342 (pr_load_blk (i := 9) (vs := [(.int .i64 u224.1), (.int .i64 u224.2)]) (v := (.agg #[(.int .i64 u224.1), (.int .i64 u224.2)])) tf_68 rfl rfl hS341 rfl rfl rfl (by simp) (WH.takexg (i := 5) rfl (by kernel_rfl) (by kernel_rfl) (by kernel_rfl) hP rfl rfl h343 hSW342 (pr_nes Try.eqGuardType68 (eq_68 u238.1 u224) rfl rfl rfl (WH.takex (i := 6) rfl (by kernel_rfl) (by kernel_rfl) (by kernel_rfl) hP hSW342 (pr_pick_f rfl rfl h343 rfl (WH.takex (i := 7) rfl (by kernel_rfl) (by kernel_rfl) (by kernel_rfl) hP hSW342 ?_))))))))
            refine pr_move rfl rfl ?_
            rcases bE (!(eqv_Spot u238.1 u224)) with h344 | h344
            ·replace hF := ifP h344 hF
             refine WH.off (i := 8) rfl (by kernel_rfl) (by kernel_rfl) (by kernel_rfl) hP rfl rfl h344 rfl hSW342 (WH.off (i := 9) rfl (by kernel_rfl) (by kernel_rfl) (by kernel_rfl) hP rfl rfl h344 rfl hSW342 (WH.takex (i := 10) rfl (by kernel_rfl) (by kernel_rfl) (by kernel_rfl) hP hSW342 (pr_pick_t rfl rfl h344 rfl (WH.takex (i := 11) rfl (by kernel_rfl) (by kernel_rfl) (by kernel_rfl) hP hSW342 (pr_move rfl rfl (WH.off (i := 12) rfl (by kernel_rfl) (by kernel_rfl) (by kernel_rfl) hP rfl rfl rfl rfl hSW342 (WH.off (i := 13) rfl (by kernel_rfl) (by kernel_rfl) (by kernel_rfl) hP rfl rfl rfl rfl hSW342 (WH.takex (i := 14) rfl (by kernel_rfl) (by kernel_rfl) (by kernel_rfl) hP hSW342 (pr_pick_t rfl rfl rfl rfl (WH.takex (i := 15) rfl (by kernel_rfl) (by kernel_rfl) (by kernel_rfl) hP hSW342 (pr_move rfl rfl ?_)))))))))))
             refine WH.off (i := 16) rfl (by kernel_rfl) (by kernel_rfl) (by kernel_rfl) hP rfl rfl rfl rfl hSW342 (WH.off (i := 17) rfl (by kernel_rfl) (by kernel_rfl) (by kernel_rfl) hP rfl rfl rfl rfl hSW342 (WH.off (i := 18) rfl (by kernel_rfl) (by kernel_rfl) (by kernel_rfl) hP rfl rfl rfl rfl hSW342 (WH.takex (i := 19) rfl (by kernel_rfl) (by kernel_rfl) (by kernel_rfl) hP hSW342 (pr_pick_t rfl rfl rfl rfl (WH.takex (i := 20) rfl (by kernel_rfl) (by kernel_rfl) (by kernel_rfl) hP hSW342 (pr_move rfl rfl (WH.off (i := 21) rfl (by kernel_rfl) (by kernel_rfl) (by kernel_rfl) hP rfl rfl rfl rfl hSW342 (WH.off (i := 22) rfl (by kernel_rfl) (by kernel_rfl) (by kernel_rfl) hP rfl rfl rfl rfl hSW342 (WH.off (i := 23) rfl (by kernel_rfl) (by kernel_rfl) (by kernel_rfl) hP rfl rfl rfl rfl hSW342 (WH.off (i := 24) rfl (by kernel_rfl) (by kernel_rfl) (by kernel_rfl) hP rfl rfl rfl rfl hSW342 ?_))))))))))
             refine WH.off (i := 25) rfl (by kernel_rfl) (by kernel_rfl) (by kernel_rfl) hP rfl rfl rfl rfl hSW342 (WH.off (i := 26) rfl (by kernel_rfl) (by kernel_rfl) (by kernel_rfl) hP rfl rfl rfl rfl hSW342 (WH.off (i := 27) rfl (by kernel_rfl) (by kernel_rfl) (by kernel_rfl) hP rfl rfl rfl rfl hSW342 (WH.takex (i := 28) rfl (by kernel_rfl) (by kernel_rfl) (by kernel_rfl) hP hSW342 (pr_pick_t rfl rfl rfl rfl (WH.takex (i := 29) rfl (by kernel_rfl) (by kernel_rfl) (by kernel_rfl) hP hSW342 (pr_move rfl rfl (WH.off (i := 30) rfl (by kernel_rfl) (by kernel_rfl) (by kernel_rfl) hP rfl rfl rfl rfl hSW342 (WH.off (i := 31) rfl (by kernel_rfl) (by kernel_rfl) (by kernel_rfl) hP rfl rfl rfl rfl hSW342 (WH.off (i := 32) rfl (by kernel_rfl) (by kernel_rfl) (by kernel_rfl) hP rfl rfl rfl rfl hSW342 (WH.off (i := 33) rfl (by kernel_rfl) (by kernel_rfl) (by kernel_rfl) hP rfl rfl rfl rfl hSW342 ?_))))))))))
             refine WH.off (i := 34) rfl (by kernel_rfl) (by kernel_rfl) (by kernel_rfl) hP rfl rfl rfl rfl hSW342 (WH.off (i := 35) rfl (by kernel_rfl) (by kernel_rfl) (by kernel_rfl) hP rfl rfl rfl rfl hSW342 (WH.off (i := 36) rfl (by kernel_rfl) (by kernel_rfl) (by kernel_rfl) hP rfl rfl rfl rfl hSW342 (WH.off (i := 37) rfl (by kernel_rfl) (by kernel_rfl) (by kernel_rfl) hP rfl rfl rfl rfl hSW342 (WH.off (i := 38) rfl (by kernel_rfl) (by kernel_rfl) (by kernel_rfl) hP rfl rfl rfl rfl hSW342 (WH.off (i := 39) rfl (by kernel_rfl) (by kernel_rfl) (by kernel_rfl) hP rfl rfl rfl rfl hSW342 (WH.off (i := 40) rfl (by kernel_rfl) (by kernel_rfl) (by kernel_rfl) hP rfl rfl rfl rfl hSW342 (WH.takex (i := 41) rfl (by kernel_rfl) (by kernel_rfl) (by kernel_rfl) hP hSW342 (pr_pick_t rfl rfl rfl rfl (WH.done (by kernel_rfl) ?_)))))))))
             exact fun a ha => hJ311 (true) _ hF hB340 (hS341.sel [1, 2, 3, 4, 5, 6, 7, 8, 9] rfl) a (ha.sub ⟨rfl, rfl, rfl, rfl, rfl, rfl, rfl, rfl, rfl, rfl, rfl, rfl, rfl, rfl, trivial⟩)
            ·replace hF := ifN h344 hF
             refine WH.takexg (i := 8) rfl (by kernel_rfl) (by kernel_rfl) (by kernel_rfl) hP rfl rfl h344 hSW342 (pr_move rfl rfl (WH.takexg (i := 9) rfl (by kernel_rfl) (by kernel_rfl) (by kernel_rfl) hP rfl rfl h344 hSW342 (pr_not rfl rfl (WH.takex (i := 10) rfl (by kernel_rfl) (by kernel_rfl) (by kernel_rfl) hP hSW342 (pr_pick_f rfl rfl h344 rfl (WH.takex (i := 11) rfl (by kernel_rfl) (by kernel_rfl) (by kernel_rfl) hP hSW342 (pr_move rfl rfl ?_)))))))
             rcases bE (!u254.2) with h345 | h345
             ·replace hF := ifP h345 hF
              refine WH.off (i := 12) rfl (by kernel_rfl) (by kernel_rfl) (by kernel_rfl) hP rfl rfl h345 rfl hSW342 (WH.off (i := 13) rfl (by kernel_rfl) (by kernel_rfl) (by kernel_rfl) hP rfl rfl h345 rfl hSW342 (WH.takex (i := 14) rfl (by kernel_rfl) (by kernel_rfl) (by kernel_rfl) hP hSW342 (pr_pick_t rfl rfl h345 rfl (WH.takex (i := 15) rfl (by kernel_rfl) (by kernel_rfl) (by kernel_rfl) hP hSW342 (pr_move rfl rfl (WH.off (i := 16) rfl (by kernel_rfl) (by kernel_rfl) (by kernel_rfl) hP rfl rfl rfl rfl hSW342 (WH.off (i := 17) rfl (by kernel_rfl) (by kernel_rfl) (by kernel_rfl) hP rfl rfl rfl rfl hSW342 (WH.off (i := 18) rfl (by kernel_rfl) (by kernel_rfl) (by kernel_rfl) hP rfl rfl rfl rfl hSW342 (WH.takex (i := 19) rfl (by kernel_rfl) (by kernel_rfl) (by kernel_rfl) hP hSW342 (pr_pick_t rfl rfl rfl rfl (WH.takex (i := 20) rfl (by kernel_rfl) (by kernel_rfl) (by kernel_rfl) hP hSW342 ?_)))))))))))
              refine pr_move rfl rfl (WH.off (i := 21) rfl (by kernel_rfl) (by kernel_rfl) (by kernel_rfl) hP rfl rfl rfl rfl hSW342 (WH.off (i := 22) rfl (by kernel_rfl) (by kernel_rfl) (by kernel_rfl) hP rfl rfl rfl rfl hSW342 (WH.off (i := 23) rfl (by kernel_rfl) (by kernel_rfl) (by kernel_rfl) hP rfl rfl rfl rfl hSW342 (WH.off (i := 24) rfl (by kernel_rfl) (by kernel_rfl) (by kernel_rfl) hP rfl rfl rfl rfl hSW342 (WH.off (i := 25) rfl (by kernel_rfl) (by kernel_rfl) (by kernel_rfl) hP rfl rfl rfl rfl hSW342 (WH.off (i := 26) rfl (by kernel_rfl) (by kernel_rfl) (by kernel_rfl) hP rfl rfl rfl rfl hSW342 (WH.off (i := 27) rfl (by kernel_rfl) (by kernel_rfl) (by kernel_rfl) hP rfl rfl rfl rfl hSW342 (WH.takex (i := 28) rfl (by kernel_rfl) (by kernel_rfl) (by kernel_rfl) hP hSW342 (pr_pick_t rfl rfl rfl rfl (WH.takex (i := 29) rfl (by kernel_rfl) (by kernel_rfl) (by kernel_rfl) hP hSW342 ?_))))))))))
              refine pr_move rfl rfl (WH.off (i := 30) rfl (by kernel_rfl) (by kernel_rfl) (by kernel_rfl) hP rfl rfl rfl rfl hSW342 (WH.off (i := 31) rfl (by kernel_rfl) (by kernel_rfl) (by kernel_rfl) hP rfl rfl rfl rfl hSW342 (WH.off (i := 32) rfl (by kernel_rfl) (by kernel_rfl) (by kernel_rfl) hP rfl rfl rfl rfl hSW342 (WH.off (i := 33) rfl (by kernel_rfl) (by kernel_rfl) (by kernel_rfl) hP rfl rfl rfl rfl hSW342 (WH.off (i := 34) rfl (by kernel_rfl) (by kernel_rfl) (by kernel_rfl) hP rfl rfl rfl rfl hSW342 (WH.off (i := 35) rfl (by kernel_rfl) (by kernel_rfl) (by kernel_rfl) hP rfl rfl rfl rfl hSW342 (WH.off (i := 36) rfl (by kernel_rfl) (by kernel_rfl) (by kernel_rfl) hP rfl rfl rfl rfl hSW342 (WH.off (i := 37) rfl (by kernel_rfl) (by kernel_rfl) (by kernel_rfl) hP rfl rfl rfl rfl hSW342 (WH.off (i := 38) rfl (by kernel_rfl) (by kernel_rfl) (by kernel_rfl) hP rfl rfl rfl rfl hSW342 ?_)))))))))
              refine WH.off (i := 39) rfl (by kernel_rfl) (by kernel_rfl) (by kernel_rfl) hP rfl rfl rfl rfl hSW342 (WH.off (i := 40) rfl (by kernel_rfl) (by kernel_rfl) (by kernel_rfl) hP rfl rfl rfl rfl hSW342 (WH.takex (i := 41) rfl (by kernel_rfl) (by kernel_rfl) (by kernel_rfl) hP hSW342 (pr_pick_t rfl rfl rfl rfl (WH.done (by kernel_rfl) ?_))))
              exact fun a ha => hJ311 (true) _ hF hB340 (hS341.sel [1, 2, 3, 4, 5, 6, 7, 8, 9] rfl) a (ha.sub ⟨rfl, rfl, rfl, rfl, rfl, rfl, rfl, rfl, rfl, rfl, rfl, rfl, rfl, rfl, trivial⟩)
             ·replace hF := ifN h345 hF
              refine WH.takexg (i := 12) rfl (by kernel_rfl) (by kernel_rfl) (by kernel_rfl) hP rfl rfl h345 hSW342 (pr_move rfl rfl (WH.takexg (i := 13) rfl (by kernel_rfl) (by kernel_rfl) (by kernel_rfl) hP rfl rfl h345 hSW342 (pr_not rfl rfl (WH.takex (i := 14) rfl (by kernel_rfl) (by kernel_rfl) (by kernel_rfl) hP hSW342 (pr_pick_f rfl rfl h345 rfl (WH.takex (i := 15) rfl (by kernel_rfl) (by kernel_rfl) (by kernel_rfl) hP hSW342 (pr_move rfl rfl ?_)))))))
              rcases bE (!u289.2) with h346 | h346
              ·replace hF := ifP h346 hF
               refine WH.off (i := 16) rfl (by kernel_rfl) (by kernel_rfl) (by kernel_rfl) hP rfl rfl h346 rfl hSW342 (WH.off (i := 17) rfl (by kernel_rfl) (by kernel_rfl) (by kernel_rfl) hP rfl rfl h346 rfl hSW342 (WH.off (i := 18) rfl (by kernel_rfl) (by kernel_rfl) (by kernel_rfl) hP rfl rfl h346 rfl hSW342 (WH.takex (i := 19) rfl (by kernel_rfl) (by kernel_rfl) (by kernel_rfl) hP hSW342 (pr_pick_t rfl rfl h346 rfl (WH.takex (i := 20) rfl (by kernel_rfl) (by kernel_rfl) (by kernel_rfl) hP hSW342 (pr_move rfl rfl (WH.off (i := 21) rfl (by kernel_rfl) (by kernel_rfl) (by kernel_rfl) hP rfl rfl rfl rfl hSW342 (WH.off (i := 22) rfl (by kernel_rfl) (by kernel_rfl) (by kernel_rfl) hP rfl rfl rfl rfl hSW342 (WH.off (i := 23) rfl (by kernel_rfl) (by kernel_rfl) (by kernel_rfl) hP rfl rfl rfl rfl hSW342 (WH.off (i := 24) rfl (by kernel_rfl) (by kernel_rfl) (by kernel_rfl) hP rfl rfl rfl rfl hSW342 ?_))))))))))
               refine WH.off (i := 25) rfl (by kernel_rfl) (by kernel_rfl) (by kernel_rfl) hP rfl rfl rfl rfl hSW342 (WH.off (i := 26) rfl (by kernel_rfl) (by kernel_rfl) (by kernel_rfl) hP rfl rfl rfl rfl hSW342 (WH.off (i := 27) rfl (by kernel_rfl) (by kernel_rfl) (by kernel_rfl) hP rfl rfl rfl rfl hSW342 (WH.takex (i := 28) rfl (by kernel_rfl) (by kernel_rfl) (by kernel_rfl) hP hSW342 (pr_pick_t rfl rfl rfl rfl (WH.takex (i := 29) rfl (by kernel_rfl) (by kernel_rfl) (by kernel_rfl) hP hSW342 (pr_move rfl rfl (WH.off (i := 30) rfl (by kernel_rfl) (by kernel_rfl) (by kernel_rfl) hP rfl rfl rfl rfl hSW342 (WH.off (i := 31) rfl (by kernel_rfl) (by kernel_rfl) (by kernel_rfl) hP rfl rfl rfl rfl hSW342 (WH.off (i := 32) rfl (by kernel_rfl) (by kernel_rfl) (by kernel_rfl) hP rfl rfl rfl rfl hSW342 (WH.off (i := 33) rfl (by kernel_rfl) (by kernel_rfl) (by kernel_rfl) hP rfl rfl rfl rfl hSW342 ?_))))))))))
               refine WH.off (i := 34) rfl (by kernel_rfl) (by kernel_rfl) (by kernel_rfl) hP rfl rfl rfl rfl hSW342 (WH.off (i := 35) rfl (by kernel_rfl) (by kernel_rfl) (by kernel_rfl) hP rfl rfl rfl rfl hSW342 (WH.off (i := 36) rfl (by kernel_rfl) (by kernel_rfl) (by kernel_rfl) hP rfl rfl rfl rfl hSW342 (WH.off (i := 37) rfl (by kernel_rfl) (by kernel_rfl) (by kernel_rfl) hP rfl rfl rfl rfl hSW342 (WH.off (i := 38) rfl (by kernel_rfl) (by kernel_rfl) (by kernel_rfl) hP rfl rfl rfl rfl hSW342 (WH.off (i := 39) rfl (by kernel_rfl) (by kernel_rfl) (by kernel_rfl) hP rfl rfl rfl rfl hSW342 (WH.off (i := 40) rfl (by kernel_rfl) (by kernel_rfl) (by kernel_rfl) hP rfl rfl rfl rfl hSW342 (WH.takex (i := 41) rfl (by kernel_rfl) (by kernel_rfl) (by kernel_rfl) hP hSW342 (pr_pick_t rfl rfl rfl rfl (WH.done (by kernel_rfl) ?_)))))))))
               exact fun a ha => hJ311 (true) _ hF hB340 (hS341.sel [1, 2, 3, 4, 5, 6, 7, 8, 9] rfl) a (ha.sub ⟨rfl, rfl, rfl, rfl, rfl, rfl, rfl, rfl, rfl, rfl, rfl, rfl, rfl, rfl, trivial⟩)
              ·replace hF := ifN h346 hF
               refine WH.takexg (i := 16) rfl (by kernel_rfl) (by kernel_rfl) (by kernel_rfl) hP rfl rfl h346 hSW342 (pr_load_blk (i := 0) (vs := [(.int .i64 u289.1.1), (.int .i64 u289.1.2)]) (v := (.agg #[(.int .i64 u289.1.1), (.int .i64 u289.1.2)])) tf_68 rfl rfl hS341 rfl rfl rfl (by simp) (WH.takexg (i := 17) rfl (by kernel_rfl) (by kernel_rfl) (by kernel_rfl) hP rfl rfl h346 hSW342 (pr_load_blk (i := 9) (vs := [(.int .i64 u224.1), (.int .i64 u224.2)]) (v := (.agg #[(.int .i64 u224.1), (.int .i64 u224.2)])) tf_68 rfl rfl hS341 rfl rfl rfl (by simp) (WH.takexg (i := 18) rfl (by kernel_rfl) (by kernel_rfl) (by kernel_rfl) hP rfl rfl h346 hSW342 (pr_nes Try.eqGuardType68 (eq_68 u289.1 u224) rfl rfl rfl (WH.takex (i := 19) rfl (by kernel_rfl) (by kernel_rfl) (by kernel_rfl) hP hSW342 (pr_pick_f rfl rfl h346 rfl (WH.takex (i := 20) rfl (by kernel_rfl) (by kernel_rfl) (by kernel_rfl) hP hSW342 ?_))))))))
               refine pr_move rfl rfl ?_
               rcases bE (!(eqv_Spot u289.1 u224)) with h347 | h347
               ·replace hF := ifP h347 hF
                refine WH.off (i := 21) rfl (by kernel_rfl) (by kernel_rfl) (by kernel_rfl) hP rfl rfl h347 rfl hSW342 (WH.off (i := 22) rfl (by kernel_rfl) (by kernel_rfl) (by kernel_rfl) hP rfl rfl h347 rfl hSW342 (WH.off (i := 23) rfl (by kernel_rfl) (by kernel_rfl) (by kernel_rfl) hP rfl rfl h347 rfl hSW342 (WH.off (i := 24) rfl (by kernel_rfl) (by kernel_rfl) (by kernel_rfl) hP rfl rfl h347 rfl hSW342 (WH.off (i := 25) rfl (by kernel_rfl) (by kernel_rfl) (by kernel_rfl) hP rfl rfl h347 rfl hSW342 (WH.off (i := 26) rfl (by kernel_rfl) (by kernel_rfl) (by kernel_rfl) hP rfl rfl h347 rfl hSW342 (WH.off (i := 27) rfl (by kernel_rfl) (by kernel_rfl) (by kernel_rfl) hP rfl rfl h347 rfl hSW342 (WH.takex (i := 28) rfl (by kernel_rfl) (by kernel_rfl) (by kernel_rfl) hP hSW342 (pr_pick_t rfl rfl h347 rfl (WH.takex (i := 29) rfl (by kernel_rfl) (by kernel_rfl) (by kernel_rfl) hP hSW342 (pr_move rfl rfl ?_))))))))))
                refine WH.off (i := 30) rfl (by kernel_rfl) (by kernel_rfl) (by kernel_rfl) hP rfl rfl rfl rfl hSW342 (WH.off (i := 31) rfl (by kernel_rfl) (by kernel_rfl) (by kernel_rfl) hP rfl rfl rfl rfl hSW342 (WH.off (i := 32) rfl (by kernel_rfl) (by kernel_rfl) (by kernel_rfl) hP rfl rfl rfl rfl hSW342 (WH.off (i := 33) rfl (by kernel_rfl) (by kernel_rfl) (by kernel_rfl) hP rfl rfl rfl rfl hSW342 (WH.off (i := 34) rfl (by kernel_rfl) (by kernel_rfl) (by kernel_rfl) hP rfl rfl rfl rfl hSW342 (WH.off (i := 35) rfl (by kernel_rfl) (by kernel_rfl) (by kernel_rfl) hP rfl rfl rfl rfl hSW342 (WH.off (i := 36) rfl (by kernel_rfl) (by kernel_rfl) (by kernel_rfl) hP rfl rfl rfl rfl hSW342 (WH.off (i := 37) rfl (by kernel_rfl) (by kernel_rfl) (by kernel_rfl) hP rfl rfl rfl rfl hSW342 (WH.off (i := 38) rfl (by kernel_rfl) (by kernel_rfl) (by kernel_rfl) hP rfl rfl rfl rfl hSW342 ?_))))))))
                refine WH.off (i := 39) rfl (by kernel_rfl) (by kernel_rfl) (by kernel_rfl) hP rfl rfl rfl rfl hSW342 (WH.off (i := 40) rfl (by kernel_rfl) (by kernel_rfl) (by kernel_rfl) hP rfl rfl rfl rfl hSW342 (WH.takex (i := 41) rfl (by kernel_rfl) (by kernel_rfl) (by kernel_rfl) hP hSW342 (pr_pick_t rfl rfl rfl rfl (WH.done (by kernel_rfl) ?_))))
                exact fun a ha => hJ311 (true) _ hF hB340 (hS341.sel [1, 2, 3, 4, 5, 6, 7, 8, 9] rfl) a (ha.sub ⟨rfl, rfl, rfl, rfl, rfl, rfl, rfl, rfl, rfl, rfl, rfl, rfl, rfl, rfl, trivial⟩)
               ·replace hF := ifN h347 hF
                refine WH.takexg (i := 21) rfl (by kernel_rfl) (by kernel_rfl) (by kernel_rfl) hP rfl rfl h347 hSW342 (pr_move rfl rfl (WH.takexg (i := 22) rfl (by kernel_rfl) (by kernel_rfl) (by kernel_rfl) hP rfl rfl h347 hSW342 (pr_move rfl rfl (WH.takexg (i := 24) rfl (by kernel_rfl) (by kernel_rfl) (by kernel_rfl) hP rfl rfl h347 hSW342 (pr_move rfl rfl (WH.takexg (i := 25) rfl (by kernel_rfl) (by kernel_rfl) (by kernel_rfl) hP rfl rfl h347 hSW342 (pr_move rfl rfl (WH.takexg (i := 26) rfl (by kernel_rfl) (by kernel_rfl) (by kernel_rfl) hP rfl rfl h347 hSW342 (pr_lss rfl rfl rfl (WH.one (i := 23) (by kernel_rfl) rfl (wl_on rfl rfl h347 ?_)))))))))))
                obtain ⟨u348, hu348, hF⟩ := bindE hF
                refine wl_call rfl Try.call72 (C_laws_pIn w338 u82.1 v83 (hS341.own_ro (i := 8) rfl) y215 _ hu348) rfl ?_
                rintro _ w349 ⟨rfl, hb350⟩
                refine ⟨_, rfl, ?_⟩
                have hB351 := hB340.trans (hb350.mono hB340.size)
                have hS352 := hS341.below hb350
                have hSW354 := hSW342.ext hb350
                refine WL.nil (WH.ret hSW354 (WH.takexg (i := 27) rfl (by kernel_rfl) (by kernel_rfl) (by kernel_rfl) hP rfl rfl h347 hSW354 (pr_neqb Try.underlying4 rfl rfl rfl (WH.takex (i := 28) rfl (by kernel_rfl) (by kernel_rfl) (by kernel_rfl) hP hSW354 (pr_pick_f rfl rfl h347 rfl (WH.takex (i := 29) rfl (by kernel_rfl) (by kernel_rfl) (by kernel_rfl) hP hSW354 (pr_move rfl rfl ?_)))))))
                rcases bE (u348 != (decide (y285 < u194.1))) with h355 | h355
                ·replace hF := ifP h355 hF
                 refine WH.off (i := 30) rfl (by kernel_rfl) (by kernel_rfl) (by kernel_rfl) hP rfl rfl h355 rfl hSW354 (WH.off (i := 31) rfl (by kernel_rfl) (by kernel_rfl) (by kernel_rfl) hP rfl rfl h355 rfl hSW354 (WH.off (i := 32) rfl (by kernel_rfl) (by kernel_rfl) (by kernel_rfl) hP rfl rfl h355 rfl hSW354 (WH.off (i := 33) rfl (by kernel_rfl) (by kernel_rfl) (by kernel_rfl) hP rfl rfl h355 rfl hSW354 (WH.off (i := 34) rfl (by kernel_rfl) (by kernel_rfl) (by kernel_rfl) hP rfl rfl h355 rfl hSW354 (WH.off (i := 35) rfl (by kernel_rfl) (by kernel_rfl) (by kernel_rfl) hP rfl rfl h355 rfl hSW354 (WH.off (i := 36) rfl (by kernel_rfl) (by kernel_rfl) (by kernel_rfl) hP rfl rfl h355 rfl hSW354 (WH.off (i := 37) rfl (by kernel_rfl) (by kernel_rfl) (by kernel_rfl) hP rfl rfl h355 rfl hSW354 (WH.off (i := 38) rfl (by kernel_rfl) (by kernel_rfl) (by kernel_rfl) hP rfl rfl h355 rfl hSW354 ?_))))))))
                 refine WH.off (i := 39) rfl (by kernel_rfl) (by kernel_rfl) (by kernel_rfl) hP rfl rfl h355 rfl hSW354 (WH.off (i := 40) rfl (by kernel_rfl) (by kernel_rfl) (by kernel_rfl) hP rfl rfl h355 rfl hSW354 (WH.takex (i := 41) rfl (by kernel_rfl) (by kernel_rfl) (by kernel_rfl) hP hSW354 (pr_pick_t rfl rfl h355 rfl (WH.done (by kernel_rfl) ?_))))
                 exact fun a ha => hJ311 (true) _ hF hB351 (hS352.sel [1, 2, 3, 4, 5, 6, 7, 8, 9] rfl) a (ha.sub ⟨rfl, rfl, rfl, rfl, rfl, rfl, rfl, rfl, rfl, rfl, rfl, rfl, rfl, rfl, trivial⟩)
                ·replace hF := ifN h355 hF
                 refine WH.takexg (i := 30) rfl (by kernel_rfl) (by kernel_rfl) (by kernel_rfl) hP rfl rfl h355 hSW354 (pr_field (o := 6) (off' := 6) ff_102_3 rfl rfl rfl (WH.takexg (i := 31) rfl (by kernel_rfl) (by kernel_rfl) (by kernel_rfl) hP rfl rfl h355 hSW354 (pr_load_blk (i := 5) (vs := [v20]) (v := v20) tf_29 rfl rfl hS341 rfl rfl rfl (by simp) (WH.takexg (i := 32) rfl (by kernel_rfl) (by kernel_rfl) (by kernel_rfl) hP rfl rfl h355 hSW354 (pr_move rfl rfl (WH.takexg (i := 35) rfl (by kernel_rfl) (by kernel_rfl) (by kernel_rfl) hP rfl rfl h355 hSW354 (pr_field (o := 6) (off' := 6) ff_102_3 rfl rfl rfl (WH.takexg (i := 36) rfl (by kernel_rfl) (by kernel_rfl) (by kernel_rfl) hP rfl rfl h355 hSW354 (pr_load_blk (i := 5) (vs := [v20]) (v := v20) tf_29 rfl rfl hS341 rfl rfl rfl (by simp) (WH.takexg (i := 37) rfl (by kernel_rfl) (by kernel_rfl) (by kernel_rfl) hP rfl rfl h355 hSW354 ?_))))))))))
                 refine pr_move rfl rfl (WH.many (is := [33, 38]) (by kernel_rfl) rfl (List.forall_mem_cons.2 ⟨⟨_, rfl, ?_⟩, List.forall_mem_cons.2 ⟨⟨_, rfl, ?_⟩, fun _ h => by cases h⟩⟩))
                 ·
                  refine wl_on rfl rfl h355 ?_
                  obtain ⟨u356, hu356, hF⟩ := bindE hF
                  refine wl_indexo (e := ty_3) (i := 4) Try.underlying29 rfl rfl rfl hS352 rfl hu356 ?_
                  rintro p357 _ rfl hp358 ho359
                  refine WL.nil (WH.ret hSW354 (WH.many (is := [34, 38]) (by kernel_rfl) rfl (List.forall_mem_cons.2 ⟨⟨_, rfl, ?_⟩, List.forall_mem_cons.2 ⟨⟨_, rfl, ?_⟩, fun _ h => by cases h⟩⟩)))
                  ·
                   refine wl_on rfl rfl h355 (wl_load_p (vs := [(.int .i64 u356)]) (v := (.int .i64 u356)) tf_3 rfl rfl hp358 rfl rfl (WL.nil (WH.ret hSW354 (WH.one (i := 38) (by kernel_rfl) rfl (wl_on rfl rfl h355 ?_)))))
                   obtain ⟨u360, hu360, hF⟩ := bindE hF
                   refine wl_indexo (e := ty_3) (i := 4) Try.underlying29 rfl rfl rfl hS352 rfl hu360 ?_
                   rintro p361 _ rfl hp362 ho363
                   refine WL.nil (WH.ret hSW354 (WH.one (i := 39) (by kernel_rfl) rfl (wl_on rfl rfl h355 (wl_load_p (vs := [(.int .i64 u360)]) (v := (.int .i64 u360)) tf_3 rfl rfl hp362 rfl rfl (WL.nil (WH.ret hSW354 (WH.takexg (i := 40) rfl (by kernel_rfl) (by kernel_rfl) (by kernel_rfl) hP rfl rfl h355 hSW354 (pr_gtr rfl rfl rfl (WH.takex (i := 41) rfl (by kernel_rfl) (by kernel_rfl) (by kernel_rfl) hP hSW354 (pr_pick_f rfl rfl h355 rfl (WH.done (by kernel_rfl) ?_)))))))))))
                   exact fun a ha => hJ311 ((decide (u360 < u356))) _ hF hB351 (hS352.sel [1, 2, 3, 4, 5, 6, 7, 8, 9] rfl) a (ha.sub ⟨rfl, rfl, rfl, rfl, rfl, rfl, rfl, rfl, rfl, rfl, rfl, rfl, rfl, rfl, trivial⟩)
                  ·
                   refine wl_on rfl rfl h355 ?_
                   obtain ⟨u364, hu364, hF⟩ := bindE hF
                   refine wl_indexo (e := ty_3) (i := 4) Try.underlying29 rfl rfl rfl hS352 rfl hu364 ?_
                   rintro p365 _ rfl hp366 ho367
                   refine WL.nil (WH.ret hSW354 (WH.many (is := [34, 39]) (by kernel_rfl) rfl (List.forall_mem_cons.2 ⟨⟨_, rfl, ?_⟩, List.forall_mem_cons.2 ⟨⟨_, rfl, ?_⟩, fun _ h => by cases h⟩⟩)))
                   ·
                    refine wl_on rfl rfl h355 (wl_load_p (vs := [(.int .i64 u356)]) (v := (.int .i64 u356)) tf_3 rfl rfl hp358 rfl rfl (WL.nil (WH.ret hSW354 (WH.one (i := 39) (by kernel_rfl) rfl (wl_on rfl rfl h355 (wl_load_p (vs := [(.int .i64 u364)]) (v := (.int .i64 u364)) tf_3 rfl rfl hp366 rfl rfl (WL.nil (WH.ret hSW354 (WH.takexg (i := 40) rfl (by kernel_rfl) (by kernel_rfl) (by kernel_rfl) hP rfl rfl h355 hSW354 (pr_gtr rfl rfl rfl (WH.takex (i := 41) rfl (by kernel_rfl) (by kernel_rfl) (by kernel_rfl) hP hSW354 (pr_pick_f rfl rfl h355 rfl (WH.done (by kernel_rfl) ?_)))))))))))))
                    exact fun a ha => hJ311 ((decide (u364 < u356))) _ hF hB351 (hS352.sel [1, 2, 3, 4, 5, 6, 7, 8, 9] rfl) a (ha.sub ⟨rfl, rfl, rfl, rfl, rfl, rfl, rfl, rfl, rfl, rfl, rfl, rfl, rfl, rfl, trivial⟩)
                   ·
                    refine wl_on rfl rfl h355 (wl_load_p (vs := [(.int .i64 u364)]) (v := (.int .i64 u364)) tf_3 rfl rfl hp366 rfl rfl (WL.nil (WH.ret hSW354 (WH.one (i := 34) (by kernel_rfl) rfl (wl_on rfl rfl h355 (wl_load_p (vs := [(.int .i64 u356)]) (v := (.int .i64 u356)) tf_3 rfl rfl hp358 rfl rfl (WL.nil (WH.ret hSW354 (WH.takexg (i := 40) rfl (by kernel_rfl) (by kernel_rfl) (by kernel_rfl) hP rfl rfl h355 hSW354 (pr_gtr rfl rfl rfl (WH.takex (i := 41) rfl (by kernel_rfl) (by kernel_rfl) (by kernel_rfl) hP hSW354 (pr_pick_f rfl rfl h355 rfl (WH.done (by kernel_rfl) ?_)))))))))))))
                    exact fun a ha => hJ311 ((decide (u364 < u356))) _ hF hB351 (hS352.sel [1, 2, 3, 4, 5, 6, 7, 8, 9] rfl) a (ha.sub ⟨rfl, rfl, rfl, rfl, rfl, rfl, rfl, rfl, rfl, rfl, rfl, rfl, rfl, rfl, trivial⟩)
                 ·
                  refine wl_on rfl rfl h355 ?_
                  obtain ⟨u368, hu368, hF⟩ := bindE hF
                  obtain ⟨u369, hu369, hF⟩ := bindE hF
                  refine wl_indexo (e := ty_3) (i := 4) Try.underlying29 rfl rfl rfl hS352 rfl hu369 ?_
                  rintro p370 _ rfl hp371 ho372
                  refine WL.nil (WH.ret hSW354 (WH.many (is := [33, 39]) (by kernel_rfl) rfl (List.forall_mem_cons.2 ⟨⟨_, rfl, ?_⟩, List.forall_mem_cons.2 ⟨⟨_, rfl, ?_⟩, fun _ h => by cases h⟩⟩)))
                  ·
                   refine wl_on rfl rfl h355 (wl_indexo (e := ty_3) (i := 4) Try.underlying29 rfl rfl rfl hS352 rfl hu368 ?_)
                   rintro p373 _ rfl hp374 ho375
                   refine WL.nil (WH.ret hSW354 (WH.many (is := [34, 39]) (by kernel_rfl) rfl (List.forall_mem_cons.2 ⟨⟨_, rfl, ?_⟩, List.forall_mem_cons.2 ⟨⟨_, rfl, ?_⟩, fun _ h => by cases h⟩⟩)))
                   ·
                    refine wl_on rfl rfl h355 (wl_load_p (vs := [(.int .i64 u368)]) (v := (.int .i64 u368)) tf_3 rfl rfl hp374 rfl rfl (WL.nil (WH.ret hSW354 (WH.one (i := 39) (by kernel_rfl) rfl (wl_on rfl rfl h355 (wl_load_p (vs := [(.int .i64 u369)]) (v := (.int .i64 u369)) tf_3 rfl rfl hp371 rfl rfl (WL.nil (WH.ret hSW354 (WH.takexg (i := 40) rfl (by kernel_rfl) (by kernel_rfl) (by kernel_rfl) hP rfl rfl h355 hSW354 (pr_gtr rfl rfl rfl (WH.takex (i := 41) rfl (by kernel_rfl) (by kernel_rfl) (by kernel_rfl) hP hSW354 (pr_pick_f rfl rfl h355 rfl (WH.done (by kernel_rfl) ?_)))))))))))))
                    exact fun a ha => hJ311 ((decide (u369 < u368))) _ hF hB351 (hS352.sel [1, 2, 3, 4, 5, 6, 7, 8, 9] rfl) a (ha.sub ⟨rfl, rfl, rfl, rfl, rfl, rfl, rfl, rfl, rfl, rfl, rfl, rfl, rfl, rfl, trivial⟩)
                   ·
                    refine wl_on rfl rfl h355 (wl_load_p (vs := [(.int .i64 u369)]) (v := (.int .i64 u369)) tf_3 rfl rfl hp371 rfl rfl (WL.nil (WH.ret hSW354 (WH.one (i := 34) (by kernel_rfl) rfl (wl_on rfl rfl h355 (wl_load_p (vs := [(.int .i64 u368)]) (v := (.int .i64 u368)) tf_3 rfl rfl hp374 rfl rfl (WL.nil (WH.ret hSW354 (WH.takexg (i := 40) rfl (by kernel_rfl) (by kernel_rfl) (by kernel_rfl) hP rfl rfl h355 hSW354 (pr_gtr rfl rfl rfl (WH.takex (i := 41) rfl (by kernel_rfl) (by kernel_rfl) (by kernel_rfl) hP hSW354 (pr_pick_f rfl rfl h355 rfl (WH.done (by kernel_rfl) ?_)))))))))))))
                    exact fun a ha => hJ311 ((decide (u369 < u368))) _ hF hB351 (hS352.sel [1, 2, 3, 4, 5, 6, 7, 8, 9] rfl) a (ha.sub ⟨rfl, rfl, rfl, rfl, rfl, rfl, rfl, rfl, rfl, rfl, rfl, rfl, rfl, rfl, trivial⟩)
                  ·
                   refine wl_on rfl rfl h355 (wl_load_p (vs := [(.int .i64 u369)]) (v := (.int .i64 u369)) tf_3 rfl rfl hp371 rfl rfl (WL.nil (WH.ret hSW354 (WH.one (i := 33) (by kernel_rfl) rfl (wl_on rfl rfl h355 (wl_indexo (e := ty_3) (i := 4) Try.underlying29 rfl rfl rfl hS352 rfl hu368 ?_))))))
                   rintro p376 _ rfl hp377 ho378
                   refine WL.nil (WH.ret hSW354 (WH.one (i := 34) (by kernel_rfl) rfl (wl_on rfl rfl h355 (wl_load_p (vs := [(.int .i64 u368)]) (v := (.int .i64 u368)) tf_3 rfl rfl hp377 rfl rfl (WL.nil (WH.ret hSW354 (WH.takexg (i := 40) rfl (by kernel_rfl) (by kernel_rfl) (by kernel_rfl) hP rfl rfl h355 hSW354 (pr_gtr rfl rfl rfl (WH.takex (i := 41) rfl (by kernel_rfl) (by kernel_rfl) (by kernel_rfl) hP hSW354 (pr_pick_f rfl rfl h355 rfl (WH.done (by kernel_rfl) ?_)))))))))))
                   exact fun a ha => hJ311 ((decide (u369 < u368))) _ hF hB351 (hS352.sel [1, 2, 3, 4, 5, 6, 7, 8, 9] rfl) a (ha.sub ⟨rfl, rfl, rfl, rfl, rfl, rfl, rfl, rfl, rfl, rfl, rfl, rfl, rfl, rfl, trivial⟩)
          refine W.seq fun K379 hK379 => W.region (wl_move rfl rfl (wl_move rfl rfl (wl_gtr rfl rfl rfl (WL.nil (fun a ha => hK379 _ _ (W.cond rfl (fun h380 => ?_) (fun h380 => ?_)) a ha)))))
          ·replace hF := ifP h380 hF
           refine W.region (wl_move rfl rfl (wl_assign rfl rfl (WL.nil ?_)))
           exact fun a ha => hJ287 (u194.1) _ hF hB274 (hS275.sel [4, 5, 6, 7, 8, 9, 10, 11, 3, 2, 1, 0] rfl) a (ha.sub ⟨rfl, rfl, rfl, rfl, rfl, rfl, rfl, rfl, rfl, rfl, rfl, rfl, rfl, rfl, rfl, rfl, rfl, trivial⟩)
          ·replace hF := ifN h380 hF
           refine W.skip ?_
           exact fun a ha => hJ287 ((w64 (u13.2.1 - u277))) _ hF hB274 (hS275.sel [4, 5, 6, 7, 8, 9, 10, 11, 3, 2, 1, 0] rfl) a (ha.sub ⟨rfl, rfl, rfl, rfl, rfl, rfl, rfl, rfl, rfl, rfl, rfl, rfl, rfl, rfl, rfl, rfl, rfl, trivial⟩)
         ·replace hF := ifN h221 hF
          refine W.exit fun a ha => hK210 _ _ (W.seq fun K381 hK381 => (W.region (wl_move rfl rfl (wl_lenr (e := ty_29) (l := u64.1) Try.underlying72 rfl rfl (hS214.own_ro (i := 6) rfl) (wl_move rfl rfl (WL.nil (fun a ha => hK381 _ _ (W.block (W.loopk (fun m a w382 => ∃ (y385 : Int), St 350 [(1, v1_0), (5, (.pointer (some ⟨b27, 0, none⟩))), (8, v47), (289, v65), (290, (.int .i64 (List.length u64.1 : Int))), (291, (.int .i64 y385))] a ∧ Below w0.heap.size w0 w382 ∧ Sep w0.heap.size w382 [R.own ty_63 F15 v14 u13.1.1, R.own ty_3 F17 v16 u13.1.2.1, R.own ty_3 F19 v18 u13.2.2.1, R.own ty_3 F21 v20 u13.2.2.2, R.blk b27 102 [v14, v16, (.int .i64 u13.1.2.2.1), (.int .i64 u13.1.2.2.2), (.int .i64 u13.2.1), v18, v20], R.own ty_68 F48 v47 u46.1, R.own ty_29 F66 v65 u64.1] ∧ F_laws_FnPlacesNow_L2 u64 u46 u13 k118 m y385 = some r) FU ?_ ?_)) a ha))))))) a ha
          ·
           exact fun a ha => ⟨0, ha.sub ⟨rfl, rfl, rfl, rfl, rfl, rfl, trivial⟩, hB213, (hS214.sel [0, 1, 2, 3, 4, 5, 6] rfl), hF⟩
          ·
           rintro m388 a w382 ⟨y385, ha, hB383, hS384, hF⟩ KL387 hKL387
           refine W.at ?_ ha
           cases m388 with
           | zero => exact noneE hF
           | succ m388 =>
            obtain ⟨nx386, hnx386⟩ : ∃ k, k = F_laws_FnPlacesNow_L2 u64 u46 u13 k118 m388 := ⟨_, rfl⟩
            rw [F_laws_FnPlacesNow_L2, ← hnx386] at hF
            refine W.seq fun K389 hK389 => W.region (wl_lss rfl rfl rfl (WL.nil (fun a ha => hK389 _ _ (W.seq fun K390 hK390 => (W.cond rfl (fun h391 => ?_) (fun h391 => ?_))) a ha)))
            ·replace hF := ifP h391 hF
             refine W.skip fun a ha => hK390 _ _ (W.seq fun K392 hK392 => (W.block (W.seq fun K393 hK393 => (W.region ?_)))) a ha
             obtain ⟨u394, hu394, hF⟩ := bindE hF
             refine wl_indexo (e := ty_29) (i := 6) Try.underlying72 rfl rfl rfl hS384 rfl hu394 ?_
             rintro p395 _ ⟨v397, rfl, hv398⟩ hp396 ho399
             refine wl_load_p (vs := [v397]) (v := v397) tf_29 rfl rfl hp396 rfl rfl (wl_assign rfl rfl (WL.nil (fun a ha => hK393 _ _ (W.seq fun K400 hK400 => (W.regionH mixed_ [] hB383 hS384 ?_)) a ha)))
             intro w401 hb402 hB403 hS404
             have hv398 := hv398.ro hb402
             have hSW405 := KeepX.refl w401 []
             refine WH.takex (i := 0) rfl (by kernel_rfl) (by kernel_rfl) (by kernel_rfl) hP hSW405 (pr_move rfl rfl (WH.takex (i := 1) rfl (by kernel_rfl) (by kernel_rfl) (by kernel_rfl) hP hSW405 (pr_move rfl rfl ?_)))
             obtain ⟨u406, hu406, hF⟩ := bindE hF
             refine WH.takex (i := 2) rfl (by kernel_rfl) (by kernel_rfl) (by kernel_rfl) hP hSW405 (pr_index (e := ty_3) Try.underlying29 rfl rfl rfl hv398 hu406 ?_)
             rintro p407 _ rfl hp408
             refine WH.takex (i := 3) rfl (by kernel_rfl) (by kernel_rfl) (by kernel_rfl) hP hSW405 (pr_load_p (vs := [(.int .i64 u406)]) (v := (.int .i64 u406)) tf_3 rfl rfl (hp408.kx0) rfl rfl ?_)
             obtain ⟨u409, hu409, hF⟩ := bindE hF
             refine WH.takex (i := 4) rfl (by kernel_rfl) (by kernel_rfl) (by kernel_rfl) hP hSW405 (pr_indexo (e := ty_68) (i := 5) Try.underlying63 rfl rfl rfl hS404 rfl hu409 ?_)
             rintro p410 _ rfl hp411 ho412
             refine WH.takex (i := 5) rfl (by kernel_rfl) (by kernel_rfl) (by kernel_rfl) hP hSW405 (pr_load_p (vs := [(.int .i64 u409.1), (.int .i64 u409.2)]) (v := (.agg #[(.int .i64 u409.1), (.int .i64 u409.2)])) tf_68 rfl rfl (hp411.kx0) rfl rfl (WH.takex (i := 6) rfl (by kernel_rfl) (by kernel_rfl) (by kernel_rfl) hP hSW405 (pr_move rfl rfl (WH.takex (i := 7) rfl (by kernel_rfl) (by kernel_rfl) (by kernel_rfl) hP hSW405 (pr_move rfl rfl ?_)))))
             obtain ⟨u413, hu413, hF⟩ := bindE hF
             refine WH.takex (i := 8) rfl (by kernel_rfl) (by kernel_rfl) (by kernel_rfl) hP hSW405 (pr_index (e := ty_3) Try.underlying29 rfl rfl rfl hv398 hu413 ?_)
             rintro p414 _ rfl hp415
             refine WH.takex (i := 9) rfl (by kernel_rfl) (by kernel_rfl) (by kernel_rfl) hP hSW405 (pr_load_p (vs := [(.int .i64 u413)]) (v := (.int .i64 u413)) tf_3 rfl rfl (hp415.kx0) rfl rfl ?_)
             obtain ⟨u416, hu416, hF⟩ := bindE hF
             refine WH.takex (i := 10) rfl (by kernel_rfl) (by kernel_rfl) (by kernel_rfl) hP hSW405 (pr_indexo (e := ty_68) (i := 5) Try.underlying63 rfl rfl rfl hS404 rfl hu416 ?_)
             rintro p417 _ rfl hp418 ho419
             refine WH.takex (i := 11) rfl (by kernel_rfl) (by kernel_rfl) (by kernel_rfl) hP hSW405 (pr_load_p (vs := [(.int .i64 u416.1), (.int .i64 u416.2)]) (v := (.agg #[(.int .i64 u416.1), (.int .i64 u416.2)])) tf_68 rfl rfl (hp418.kx0) rfl rfl (WH.one (i := 12) (by kernel_rfl) rfl ?_))
             obtain ⟨u420, hu420, hF⟩ := bindE hF
             refine wl_call rfl Try.call50 (C_impl_SquareOf w401 u409 u416 _ hu420) rfl ?_
             rintro _ w421 ⟨rfl, hb422⟩
             refine ⟨_, rfl, ?_⟩
             have hB423 := hB403.trans (hb422.mono hB403.size)
             have hS424 := hS404.below hb422
             have hSW426 := hSW405.ext hb422
             refine WL.nil (WH.ret hSW426 (WH.takex (i := 13) rfl (by kernel_rfl) (by kernel_rfl) (by kernel_rfl) hP hSW426 (pr_move rfl rfl (WH.takex (i := 14) rfl (by kernel_rfl) (by kernel_rfl) (by kernel_rfl) hP hSW426 (pr_extract rfl rfl rfl (WH.takex (i := 15) rfl (by kernel_rfl) (by kernel_rfl) (by kernel_rfl) hP hSW426 (pr_extract rfl rfl rfl (WH.takex (i := 16) rfl (by kernel_rfl) (by kernel_rfl) (by kernel_rfl) hP hSW426 (pr_assign rfl rfl (WH.takex (i := 17) rfl (by kernel_rfl) (by kernel_rfl) (by kernel_rfl) hP hSW426 (pr_assign rfl rfl (WH.done (by kernel_rfl) (fun a ha => hK400 _ _ (W.seq fun K427 hK427 => ?_) a ha)))))))))))))
             obtain ⟨k432, hk432, hF⟩ := jE1 hF
             have hJ433 : ∀ (y431 : Bool) (w428 : World) (_ : k432 y431 = some r) (_ : Below w0.heap.size w0 w428) (_ : Sep w0.heap.size w428 [R.own ty_63 F15 v14 u13.1.1, R.own ty_3 F17 v16 u13.1.2.1, R.own ty_3 F19 v18 u13.2.2.1, R.own ty_3 F21 v20 u13.2.2.2, R.blk b27 102 [v14, v16, (.int .i64 u13.1.2.2.1), (.int .i64 u13.1.2.2.2), (.int .i64 u13.2.1), v18, v20], R.own ty_68 F48 v47 u46.1, R.own ty_29 F66 v65 u64.1]), ∀ a, St 350 [(1, v1_0), (5, (.pointer (some ⟨b27, 0, none⟩))), (8, v47), (289, v65), (290, (.int .i64 (List.length u64.1 : Int))), (291, (.int .i64 y385)), (323, (.bool y431))] a → K427 a w428 := by
              intro y431 w428 hF hB429 hS430
              subst hk432
              refine fun a ha => hK427 _ _ (W.cond rfl (fun h434 => ?_) (fun h434 => ?_)) a ha
              ·replace hF := ifP h434 hF
               refine W.seq fun K435 hK435 => W.region (wl_assign rfl rfl (WL.nil (fun a ha => hK435 _ _ (W.ret ?_) a ha)))
               have hr := Option.some.inj hF
               subst hr
               exact rets (vs := [(.bool false)]) hQ rfl ⟨rv_tmp rfl, trivial⟩ ⟨rfl, hB429⟩
              ·replace hF := ifN h434 hF
               refine W.skip fun a ha => hK392 _ _ (W.region (wl_add rfl rfl rfl (wl_move rfl rfl (WL.nil ?_)))) a ha
               rw [hnx386] at hF
               exact fun a ha => hKL387 a _ m388 (Nat.lt_succ_self m388) ⟨(w64 (y385 + 1)), ha.sub ⟨rfl, rfl, rfl, rfl, rfl, rfl, trivial⟩, hB429, (hS430.sel [0, 1, 2, 3, 4, 5, 6] rfl), hF⟩
             refine W.region (wl_move rfl rfl (wl_not rfl rfl (wl_move rfl rfl ?_)))
             rcases bE (!u420.2) with h436 | h436
             ·replace hF := ifP h436 hF
              refine wl_off rfl rfl rfl h436 (wl_off rfl rfl rfl h436 (wl_off rfl rfl rfl h436 (wl_off rfl rfl rfl h436 (wl_off rfl rfl rfl h436 (wl_off rfl rfl rfl h436 (wl_off rfl rfl rfl h436 (wl_off rfl rfl rfl h436 (wl_off rfl rfl rfl h436 (wl_pick_t rfl rfl h436 rfl (WL.nil ?_))))))))))
              exact fun a ha => hJ433 (true) _ hF hB423 (hS424.sel [0, 1, 2, 3, 4, 5, 6] rfl) a (ha.sub ⟨rfl, rfl, rfl, rfl, rfl, rfl, rfl, trivial⟩)
             ·replace hF := ifN h436 hF
              refine wl_on rfl rfl h436 (wl_move rfl rfl (wl_on rfl rfl h436 (wl_field (o := 0) (off' := 0) ff_102_0 rfl rfl rfl (wl_on rfl rfl h436 (wl_field (o := 2) (off' := 2) ff_53_2 rfl rfl rfl (wl_on rfl rfl h436 (wl_load_blk (i := 4) (vs := [(.int .i64 u13.1.2.2.1)]) (v := (.int .i64 u13.1.2.2.1)) tf_3 rfl rfl hS424 rfl rfl rfl (wl_on rfl rfl h436 (wl_field (o := 0) (off' := 0) ff_102_0 rfl rfl rfl (wl_on rfl rfl h436 (wl_field (o := 2) (off' := 2) ff_53_2 rfl rfl rfl (wl_on rfl rfl h436 (wl_load_blk (i := 4) (vs := [(.int .i64 u13.1.2.2.1)]) (v := (.int .i64 u13.1.2.2.1)) tf_3 rfl rfl hS424 rfl rfl rfl ?_)))))))))))))
              refine wl_on rfl rfl h436 (wl_mul rfl rfl rfl (wl_on rfl rfl h436 (wl_geq rfl rfl rfl (wl_pick_f rfl rfl h436 rfl (WL.nil ?_)))))
              exact fun a ha => hJ433 ((decide ((w64 (u13.1.2.2.1 * u13.1.2.2.1)) ≤ u420.1))) _ hF hB423 (hS424.sel [0, 1, 2, 3, 4, 5, 6] rfl) a (ha.sub ⟨rfl, rfl, rfl, rfl, rfl, rfl, rfl, trivial⟩)
            ·replace hF := ifN h391 hF
             refine W.exit ?_
             exact fun a ha => hJ119 _ hF hB383 (hS384.sel [] rfl) a (ha.sub ⟨rfl, trivial⟩)
     refine W.region (wl_move rfl rfl (wl_not rfl rfl (wl_move rfl rfl ?_)))
     rcases bE (!u187.2) with h437 | h437
     ·replace hF := ifP h437 hF
      refine wl_off rfl rfl rfl h437 (wl_off rfl rfl rfl h437 (wl_pick_t rfl rfl h437 rfl (wl_move rfl rfl (wl_off rfl rfl rfl rfl (wl_off rfl rfl rfl rfl (wl_off rfl rfl rfl rfl (wl_pick_t rfl rfl rfl rfl (wl_move rfl rfl (wl_off rfl rfl rfl rfl (wl_off rfl rfl rfl rfl (wl_off rfl rfl rfl rfl (wl_off rfl rfl rfl rfl (wl_off rfl rfl rfl rfl ?_)))))))))))))
      refine wl_off rfl rfl rfl rfl (wl_pick_t rfl rfl rfl rfl (WL.nil ?_))
      exact fun a ha => hJ207 (true) _ hF hB197 (hS198.sel [0, 1, 2, 3, 4, 5, 6, 7] rfl) a (ha.sub ⟨rfl, rfl, rfl, rfl, rfl, rfl, rfl, rfl, trivial⟩)
     ·replace hF := ifN h437 hF
      refine wl_on rfl rfl h437 (wl_move rfl rfl (wl_on rfl rfl h437 (wl_not rfl rfl (wl_pick_f rfl rfl h437 rfl (wl_move rfl rfl ?_)))))
      rcases bE (!u194.2) with h438 | h438
      ·replace hF := ifP h438 hF
       refine wl_off rfl rfl rfl h438 (wl_off rfl rfl rfl h438 (wl_off rfl rfl rfl h438 (wl_pick_t rfl rfl h438 rfl (wl_move rfl rfl (wl_off rfl rfl rfl rfl (wl_off rfl rfl rfl rfl (wl_off rfl rfl rfl rfl (wl_off rfl rfl rfl rfl (wl_off rfl rfl rfl rfl (wl_off rfl rfl rfl rfl (wl_pick_t rfl rfl rfl rfl (WL.nil ?_))))))))))))
       exact fun a ha => hJ207 (true) _ hF hB197 (hS198.sel [0, 1, 2, 3, 4, 5, 6, 7] rfl) a (ha.sub ⟨rfl, rfl, rfl, rfl, rfl, rfl, rfl, rfl, trivial⟩)
      ·replace hF := ifN h438 hF
       refine wl_on rfl rfl h438 (wl_move rfl rfl (wl_on rfl rfl h438 (wl_move rfl rfl (wl_on rfl rfl h438 (wl_neq rfl rfl rfl (wl_pick_f rfl rfl h438 rfl (wl_move rfl rfl ?_)))))))
       rcases bE (u187.1 != u194.1) with h439 | h439
       ·replace hF := ifP h439 hF
        refine wl_off rfl rfl rfl h439 (wl_off rfl rfl rfl h439 (wl_off rfl rfl rfl h439 (wl_off rfl rfl rfl h439 (wl_off rfl rfl rfl h439 (wl_off rfl rfl rfl h439 (wl_pick_t rfl rfl h439 rfl (WL.nil ?_)))))))
        exact fun a ha => hJ207 (true) _ hF hB197 (hS198.sel [0, 1, 2, 3, 4, 5, 6, 7] rfl) a (ha.sub ⟨rfl, rfl, rfl, rfl, rfl, rfl, rfl, rfl, trivial⟩)
       ·replace hF := ifN h439 hF
        refine wl_on rfl rfl h439 (wl_move rfl rfl (wl_on rfl rfl h439 (wl_lenr (e := ty_68) (l := u46.1) Try.underlying63 rfl rfl (hS198.own_ro (i := 5) rfl) (wl_on rfl rfl h439 (wl_field (o := 6) (off' := 6) ff_102_3 rfl rfl rfl (wl_on rfl rfl h439 (wl_load_blk (i := 4) (vs := [v20]) (v := v20) tf_29 rfl rfl hS198 rfl rfl rfl (wl_on rfl rfl h439 (wl_lenr (e := ty_3) (l := u13.2.2.2) Try.underlying29 rfl rfl (hS198.own_ro (i := 3) rfl) (wl_on rfl rfl h439 (wl_neq rfl rfl rfl (wl_pick_f rfl rfl h439 rfl (WL.nil ?_)))))))))))))
        exact fun a ha => hJ207 (((List.length u46.1 : Int) != (List.length u13.2.2.2 : Int))) _ hF hB197 (hS198.sel [0, 1, 2, 3, 4, 5, 6, 7] rfl) a (ha.sub ⟨rfl, rfl, rfl, rfl, rfl, rfl, rfl, rfl, trivial⟩)
    ·replace hF := ifN h185 hF
     refine W.skip ?_
     exact fun a ha => hJ119 _ hF hB107 (hS108.sel [] rfl) a (ha.sub ⟨rfl, trivial⟩)
  refine W.region (wl_move rfl rfl (wl_move rfl rfl (wl_neqb Try.underlying4 rfl rfl rfl (wl_move rfl rfl ?_))))
  rcases bE (u37.2 != u46.2) with h440 | h440
  ·replace hF := ifP h440 hF
   refine wl_off rfl rfl rfl h440 (wl_off rfl rfl rfl h440 (wl_off rfl rfl rfl h440 (wl_off rfl rfl rfl h440 (wl_pick_t rfl rfl h440 rfl (wl_move rfl rfl (wl_off rfl rfl rfl rfl (wl_off rfl rfl rfl rfl (wl_off rfl rfl rfl rfl (wl_pick_t rfl rfl rfl rfl (wl_move rfl rfl (wl_off rfl rfl rfl rfl (wl_off rfl rfl rfl rfl (wl_off rfl rfl rfl rfl ?_)))))))))))))
   refine wl_off rfl rfl rfl rfl (wl_pick_t rfl rfl rfl rfl (wl_move rfl rfl (wl_off rfl rfl rfl rfl (wl_off rfl rfl rfl rfl (wl_off rfl rfl rfl rfl (wl_pick_t rfl rfl rfl rfl (wl_move rfl rfl (wl_off rfl rfl rfl rfl (wl_off rfl rfl rfl rfl (wl_off rfl rfl rfl rfl (wl_off rfl rfl rfl rfl (wl_pick_t rfl rfl rfl rfl (wl_move rfl rfl ?_)))))))))))))
   refine wl_off rfl rfl rfl rfl (wl_off rfl rfl rfl rfl (wl_off rfl rfl rfl rfl (wl_pick_t rfl rfl rfl rfl (wl_move rfl rfl (wl_off rfl rfl rfl rfl (wl_off rfl rfl rfl rfl (wl_off rfl rfl rfl rfl (wl_pick_t rfl rfl rfl rfl (wl_move rfl rfl (wl_off rfl rfl rfl rfl (wl_off rfl rfl rfl rfl (wl_off rfl rfl rfl rfl (wl_pick_t rfl rfl rfl rfl ?_)))))))))))))
   refine wl_move rfl rfl (wl_off rfl rfl rfl rfl (wl_off rfl rfl rfl rfl (wl_off rfl rfl rfl rfl (wl_pick_t rfl rfl rfl rfl (wl_move rfl rfl (wl_off rfl rfl rfl rfl (wl_off rfl rfl rfl rfl (wl_off rfl rfl rfl rfl (wl_pick_t rfl rfl rfl rfl (wl_move rfl rfl (wl_off rfl rfl rfl rfl (wl_off rfl rfl rfl rfl (wl_off rfl rfl rfl rfl ?_)))))))))))))
   refine wl_off rfl rfl rfl rfl (wl_pick_t rfl rfl rfl rfl (WL.nil ?_))
   exact fun a ha => hJ111 (true) _ hF hB101 (hS102.sel [7, 8, 9, 10, 6, 4, 2, 0] rfl) a (ha.sub ⟨rfl, rfl, rfl, rfl, rfl, rfl, rfl, rfl, trivial⟩)
  ·replace hF := ifN h440 hF
   refine wl_on rfl rfl h440 (wl_move rfl rfl (wl_on rfl rfl h440 (wl_move rfl rfl (wl_on rfl rfl h440 ?_))))
   obtain ⟨u441, hu441, hF⟩ := bindE hF
   refine wl_call rfl Try.call99 (C_laws_pSameSpots w99 u37.1 v38 (hS102.own_ro (i := 5) rfl) u46.1 v47 (hS102.own_ro (i := 4) rfl) _ hu441) rfl ?_
   rintro _ w442 ⟨rfl, hb443⟩
   refine ⟨_, rfl, ?_⟩
   have hB444 := hB101.trans (hb443.mono hB101.size)
   have hS445 := hS102.below hb443
   refine wl_on rfl rfl h440 (wl_not rfl rfl (wl_pick_f rfl rfl h440 rfl (wl_move rfl rfl ?_)))
   rcases bE (!u441) with h447 | h447
   ·replace hF := ifP h447 hF
    refine wl_off rfl rfl rfl h447 (wl_off rfl rfl rfl h447 (wl_off rfl rfl rfl h447 (wl_pick_t rfl rfl h447 rfl (wl_move rfl rfl (wl_off rfl rfl rfl rfl (wl_off rfl rfl rfl rfl (wl_off rfl rfl rfl rfl (wl_off rfl rfl rfl rfl (wl_pick_t rfl rfl rfl rfl (wl_move rfl rfl (wl_off rfl rfl rfl rfl (wl_off rfl rfl rfl rfl (wl_off rfl rfl rfl rfl ?_)))))))))))))
    refine wl_pick_t rfl rfl rfl rfl (wl_move rfl rfl (wl_off rfl rfl rfl rfl (wl_off rfl rfl rfl rfl (wl_off rfl rfl rfl rfl (wl_off rfl rfl rfl rfl (wl_pick_t rfl rfl rfl rfl (wl_move rfl rfl (wl_off rfl rfl rfl rfl (wl_off rfl rfl rfl rfl (wl_off rfl rfl rfl rfl (wl_pick_t rfl rfl rfl rfl (wl_move rfl rfl (wl_off rfl rfl rfl rfl ?_)))))))))))))
    refine wl_off rfl rfl rfl rfl (wl_off rfl rfl rfl rfl (wl_pick_t rfl rfl rfl rfl (wl_move rfl rfl (wl_off rfl rfl rfl rfl (wl_off rfl rfl rfl rfl (wl_off rfl rfl rfl rfl (wl_pick_t rfl rfl rfl rfl (wl_move rfl rfl (wl_off rfl rfl rfl rfl (wl_off rfl rfl rfl rfl (wl_off rfl rfl rfl rfl (wl_pick_t rfl rfl rfl rfl (wl_move rfl rfl ?_)))))))))))))
    refine wl_off rfl rfl rfl rfl (wl_off rfl rfl rfl rfl (wl_off rfl rfl rfl rfl (wl_pick_t rfl rfl rfl rfl (wl_move rfl rfl (wl_off rfl rfl rfl rfl (wl_off rfl rfl rfl rfl (wl_off rfl rfl rfl rfl (wl_off rfl rfl rfl rfl (wl_pick_t rfl rfl rfl rfl (WL.nil ?_))))))))))
    exact fun a ha => hJ111 (true) _ hF hB444 (hS445.sel [7, 8, 9, 10, 6, 4, 2, 0] rfl) a (ha.sub ⟨rfl, rfl, rfl, rfl, rfl, rfl, rfl, rfl, trivial⟩)
   ·replace hF := ifN h447 hF
    refine wl_on rfl rfl h447 (wl_move rfl rfl (wl_on rfl rfl h447 (wl_move rfl rfl (wl_on rfl rfl h447 (wl_neqb Try.underlying4 rfl rfl rfl (wl_pick_f rfl rfl h447 rfl (wl_move rfl rfl ?_)))))))
    rcases bE (u55.2 != u64.2) with h448 | h448
    ·replace hF := ifP h448 hF
     refine wl_off rfl rfl rfl h448 (wl_off rfl rfl rfl h448 (wl_off rfl rfl rfl h448 (wl_off rfl rfl rfl h448 (wl_pick_t rfl rfl h448 rfl (wl_move rfl rfl (wl_off rfl rfl rfl rfl (wl_off rfl rfl rfl rfl (wl_off rfl rfl rfl rfl (wl_pick_t rfl rfl rfl rfl (wl_move rfl rfl (wl_off rfl rfl rfl rfl (wl_off rfl rfl rfl rfl (wl_off rfl rfl rfl rfl ?_)))))))))))))
     refine wl_off rfl rfl rfl rfl (wl_pick_t rfl rfl rfl rfl (wl_move rfl rfl (wl_off rfl rfl rfl rfl (wl_off rfl rfl rfl rfl (wl_off rfl rfl rfl rfl (wl_pick_t rfl rfl rfl rfl (wl_move rfl rfl (wl_off rfl rfl rfl rfl (wl_off rfl rfl rfl rfl (wl_off rfl rfl rfl rfl (wl_pick_t rfl rfl rfl rfl (wl_move rfl rfl (wl_off rfl rfl rfl rfl ?_)))))))))))))
     refine wl_off rfl rfl rfl rfl (wl_off rfl rfl rfl rfl (wl_pick_t rfl rfl rfl rfl (wl_move rfl rfl (wl_off rfl rfl rfl rfl (wl_off rfl rfl rfl rfl (wl_off rfl rfl rfl rfl (wl_pick_t rfl rfl rfl rfl (wl_move rfl rfl (wl_off rfl rfl rfl rfl (wl_off rfl rfl rfl rfl (wl_off rfl rfl rfl rfl (wl_pick_t rfl rfl rfl rfl (wl_move rfl rfl ?_)))))))))))))
     refine wl_off rfl rfl rfl rfl (wl_off rfl rfl rfl rfl (wl_off rfl rfl rfl rfl (wl_off rfl rfl rfl rfl (wl_pick_t rfl rfl rfl rfl (WL.nil ?_)))))
     exact fun a ha => hJ111 (true) _ hF hB444 (hS445.sel [7, 8, 9, 10, 6, 4, 2, 0] rfl) a (ha.sub ⟨rfl, rfl, rfl, rfl, rfl, rfl, rfl, rfl, trivial⟩)
    ·replace hF := ifN h448 hF
     refine wl_on rfl rfl h448 (wl_move rfl rfl (wl_on rfl rfl h448 (wl_move rfl rfl (wl_on rfl rfl h448 ?_))))
     obtain ⟨u449, hu449, hF⟩ := bindE hF
     refine wl_call rfl Try.call68 (C_laws_sameLists w442 u55.1 v56 (hS445.own_ro (i := 3) rfl) u64.1 v65 (hS445.own_ro (i := 2) rfl) _ hu449) rfl ?_
     rintro _ w450 ⟨rfl, hb451⟩
     refine ⟨_, rfl, ?_⟩
     have hB452 := hB444.trans (hb451.mono hB444.size)
     have hS453 := hS445.below hb451
     refine wl_on rfl rfl h448 (wl_not rfl rfl (wl_pick_f rfl rfl h448 rfl (wl_move rfl rfl ?_)))
     rcases bE (!u449) with h455 | h455
     ·replace hF := ifP h455 hF
      refine wl_off rfl rfl rfl h455 (wl_off rfl rfl rfl h455 (wl_off rfl rfl rfl h455 (wl_pick_t rfl rfl h455 rfl (wl_move rfl rfl (wl_off rfl rfl rfl rfl (wl_off rfl rfl rfl rfl (wl_off rfl rfl rfl rfl (wl_off rfl rfl rfl rfl (wl_pick_t rfl rfl rfl rfl (wl_move rfl rfl (wl_off rfl rfl rfl rfl (wl_off rfl rfl rfl rfl (wl_off rfl rfl rfl rfl ?_)))))))))))))
      refine wl_pick_t rfl rfl rfl rfl (wl_move rfl rfl (wl_off rfl rfl rfl rfl (wl_off rfl rfl rfl rfl (wl_off rfl rfl rfl rfl (wl_pick_t rfl rfl rfl rfl (wl_move rfl rfl (wl_off rfl rfl rfl rfl (wl_off rfl rfl rfl rfl (wl_off rfl rfl rfl rfl (wl_pick_t rfl rfl rfl rfl (wl_move rfl rfl (wl_off rfl rfl rfl rfl (wl_off rfl rfl rfl rfl ?_)))))))))))))
      refine wl_off rfl rfl rfl rfl (wl_pick_t rfl rfl rfl rfl (wl_move rfl rfl (wl_off rfl rfl rfl rfl (wl_off rfl rfl rfl rfl (wl_off rfl rfl rfl rfl (wl_pick_t rfl rfl rfl rfl (wl_move rfl rfl (wl_off rfl rfl rfl rfl (wl_off rfl rfl rfl rfl (wl_off rfl rfl rfl rfl (wl_off rfl rfl rfl rfl (wl_pick_t rfl rfl rfl rfl (WL.nil ?_)))))))))))))
      exact fun a ha => hJ111 (true) _ hF hB452 (hS453.sel [7, 8, 9, 10, 6, 4, 2, 0] rfl) a (ha.sub ⟨rfl, rfl, rfl, rfl, rfl, rfl, rfl, rfl, trivial⟩)
     ·replace hF := ifN h455 hF
      refine wl_on rfl rfl h455 (wl_move rfl rfl (wl_on rfl rfl h455 (wl_move rfl rfl (wl_on rfl rfl h455 (wl_neqb Try.underlying4 rfl rfl rfl (wl_pick_f rfl rfl h455 rfl (wl_move rfl rfl ?_)))))))
      rcases bE (u73.2 != u82.2) with h456 | h456
      ·replace hF := ifP h456 hF
       refine wl_off rfl rfl rfl h456 (wl_off rfl rfl rfl h456 (wl_off rfl rfl rfl h456 (wl_off rfl rfl rfl h456 (wl_pick_t rfl rfl h456 rfl (wl_move rfl rfl (wl_off rfl rfl rfl rfl (wl_off rfl rfl rfl rfl (wl_off rfl rfl rfl rfl (wl_pick_t rfl rfl rfl rfl (wl_move rfl rfl (wl_off rfl rfl rfl rfl (wl_off rfl rfl rfl rfl (wl_off rfl rfl rfl rfl ?_)))))))))))))
       refine wl_pick_t rfl rfl rfl rfl (wl_move rfl rfl (wl_off rfl rfl rfl rfl (wl_off rfl rfl rfl rfl (wl_off rfl rfl rfl rfl (wl_pick_t rfl rfl rfl rfl (wl_move rfl rfl (wl_off rfl rfl rfl rfl (wl_off rfl rfl rfl rfl (wl_off rfl rfl rfl rfl (wl_pick_t rfl rfl rfl rfl (wl_move rfl rfl (wl_off rfl rfl rfl rfl (wl_off rfl rfl rfl rfl ?_)))))))))))))
       refine wl_off rfl rfl rfl rfl (wl_pick_t rfl rfl rfl rfl (wl_move rfl rfl (wl_off rfl rfl rfl rfl (wl_off rfl rfl rfl rfl (wl_off rfl rfl rfl rfl (wl_off rfl rfl rfl rfl (wl_pick_t rfl rfl rfl rfl (WL.nil ?_))))))))
       exact fun a ha => hJ111 (true) _ hF hB452 (hS453.sel [7, 8, 9, 10, 6, 4, 2, 0] rfl) a (ha.sub ⟨rfl, rfl, rfl, rfl, rfl, rfl, rfl, rfl, trivial⟩)
      ·replace hF := ifN h456 hF
       refine wl_on rfl rfl h456 (wl_move rfl rfl (wl_on rfl rfl h456 (wl_move rfl rfl (wl_on rfl rfl h456 ?_))))
       obtain ⟨u457, hu457, hF⟩ := bindE hF
       refine wl_call rfl Try.call71 (C_laws_sameInts w450 u73.1 v74 (hS453.own_ro (i := 1) rfl) u82.1 v83 (hS453.own_ro (i := 0) rfl) _ hu457) rfl ?_
       rintro _ w458 ⟨rfl, hb459⟩
       refine ⟨_, rfl, ?_⟩
       have hB460 := hB452.trans (hb459.mono hB452.size)
       have hS461 := hS453.below hb459
       refine wl_on rfl rfl h456 (wl_not rfl rfl (wl_pick_f rfl rfl h456 rfl (wl_move rfl rfl ?_)))
       rcases bE (!u457) with h463 | h463
       ·replace hF := ifP h463 hF
        refine wl_off rfl rfl rfl h463 (wl_off rfl rfl rfl h463 (wl_off rfl rfl rfl h463 (wl_pick_t rfl rfl h463 rfl (wl_move rfl rfl (wl_off rfl rfl rfl rfl (wl_off rfl rfl rfl rfl (wl_off rfl rfl rfl rfl (wl_pick_t rfl rfl rfl rfl (wl_move rfl rfl (wl_off rfl rfl rfl rfl (wl_off rfl rfl rfl rfl (wl_off rfl rfl rfl rfl (wl_pick_t rfl rfl rfl rfl ?_)))))))))))))
        refine wl_move rfl rfl (wl_off rfl rfl rfl rfl (wl_off rfl rfl rfl rfl (wl_off rfl rfl rfl rfl (wl_pick_t rfl rfl rfl rfl (wl_move rfl rfl (wl_off rfl rfl rfl rfl (wl_off rfl rfl rfl rfl (wl_off rfl rfl rfl rfl (wl_pick_t rfl rfl rfl rfl (wl_move rfl rfl (wl_off rfl rfl rfl rfl (wl_off rfl rfl rfl rfl (wl_off rfl rfl rfl rfl ?_)))))))))))))
        refine wl_off rfl rfl rfl rfl (wl_pick_t rfl rfl rfl rfl (WL.nil ?_))
        exact fun a ha => hJ111 (true) _ hF hB460 (hS461.sel [7, 8, 9, 10, 6, 4, 2, 0] rfl) a (ha.sub ⟨rfl, rfl, rfl, rfl, rfl, rfl, rfl, rfl, trivial⟩)
       ·replace hF := ifN h463 hF
        refine wl_on rfl rfl h463 (wl_move rfl rfl (wl_on rfl rfl h463 (wl_move rfl rfl (wl_on rfl rfl h463 (wl_neqb Try.underlying4 rfl rfl rfl (wl_pick_f rfl rfl h463 rfl (wl_move rfl rfl ?_)))))))
        rcases bE (u91.2 != u98.2) with h464 | h464
        ·replace hF := ifP h464 hF
         refine wl_off rfl rfl rfl h464 (wl_off rfl rfl rfl h464 (wl_off rfl rfl rfl h464 (wl_pick_t rfl rfl h464 rfl (wl_move rfl rfl (wl_off rfl rfl rfl rfl (wl_off rfl rfl rfl rfl (wl_off rfl rfl rfl rfl (wl_pick_t rfl rfl rfl rfl (wl_move rfl rfl (wl_off rfl rfl rfl rfl (wl_off rfl rfl rfl rfl (wl_off rfl rfl rfl rfl (wl_pick_t rfl rfl rfl rfl ?_)))))))))))))
         refine wl_move rfl rfl (wl_off rfl rfl rfl rfl (wl_off rfl rfl rfl rfl (wl_off rfl rfl rfl rfl (wl_pick_t rfl rfl rfl rfl (wl_move rfl rfl (wl_off rfl rfl rfl rfl (wl_off rfl rfl rfl rfl (wl_off rfl rfl rfl rfl (wl_off rfl rfl rfl rfl (wl_pick_t rfl rfl rfl rfl (WL.nil ?_)))))))))))
         exact fun a ha => hJ111 (true) _ hF hB460 (hS461.sel [7, 8, 9, 10, 6, 4, 2, 0] rfl) a (ha.sub ⟨rfl, rfl, rfl, rfl, rfl, rfl, rfl, rfl, trivial⟩)
        ·replace hF := ifN h464 hF
         refine wl_on rfl rfl h464 (wl_move rfl rfl (wl_on rfl rfl h464 (wl_move rfl rfl (wl_on rfl rfl h464 (wl_neq rfl rfl rfl (wl_pick_f rfl rfl h464 rfl (wl_move rfl rfl ?_)))))))
         rcases bE (u91.1 != u98.1) with h465 | h465
         ·replace hF := ifP h465 hF
          refine wl_off rfl rfl rfl h465 (wl_off rfl rfl rfl h465 (wl_off rfl rfl rfl h465 (wl_pick_t rfl rfl h465 rfl (wl_move rfl rfl (wl_off rfl rfl rfl rfl (wl_off rfl rfl rfl rfl (wl_off rfl rfl rfl rfl (wl_pick_t rfl rfl rfl rfl (wl_move rfl rfl (wl_off rfl rfl rfl rfl (wl_off rfl rfl rfl rfl (wl_off rfl rfl rfl rfl (wl_pick_t rfl rfl rfl rfl ?_)))))))))))))
          refine wl_move rfl rfl (wl_off rfl rfl rfl rfl (wl_off rfl rfl rfl rfl (wl_off rfl rfl rfl rfl (wl_off rfl rfl rfl rfl (wl_pick_t rfl rfl rfl rfl (WL.nil ?_))))))
          exact fun a ha => hJ111 (true) _ hF hB460 (hS461.sel [7, 8, 9, 10, 6, 4, 2, 0] rfl) a (ha.sub ⟨rfl, rfl, rfl, rfl, rfl, rfl, rfl, rfl, trivial⟩)
         ·replace hF := ifN h465 hF
          refine wl_on rfl rfl h465 (wl_move rfl rfl (wl_on rfl rfl h465 (wl_move rfl rfl (wl_on rfl rfl h465 (wl_neqb Try.underlying4 rfl rfl rfl (wl_pick_f rfl rfl h465 rfl (wl_move rfl rfl ?_)))))))
          rcases bE (u55.2 != u37.2) with h466 | h466
          ·replace hF := ifP h466 hF
           refine wl_off rfl rfl rfl h466 (wl_off rfl rfl rfl h466 (wl_off rfl rfl rfl h466 (wl_pick_t rfl rfl h466 rfl (wl_move rfl rfl (wl_off rfl rfl rfl rfl (wl_off rfl rfl rfl rfl (wl_off rfl rfl rfl rfl (wl_pick_t rfl rfl rfl rfl (wl_move rfl rfl (wl_off rfl rfl rfl rfl (wl_off rfl rfl rfl rfl (wl_off rfl rfl rfl rfl (wl_off rfl rfl rfl rfl ?_)))))))))))))
           refine wl_pick_t rfl rfl rfl rfl (WL.nil ?_)
           exact fun a ha => hJ111 (true) _ hF hB460 (hS461.sel [7, 8, 9, 10, 6, 4, 2, 0] rfl) a (ha.sub ⟨rfl, rfl, rfl, rfl, rfl, rfl, rfl, rfl, trivial⟩)
          ·replace hF := ifN h466 hF
           refine wl_on rfl rfl h466 (wl_move rfl rfl (wl_on rfl rfl h466 (wl_move rfl rfl (wl_on rfl rfl h466 (wl_neqb Try.underlying4 rfl rfl rfl (wl_pick_f rfl rfl h466 rfl (wl_move rfl rfl ?_)))))))
           rcases bE (u73.2 != u37.2) with h467 | h467
           ·replace hF := ifP h467 hF
            refine wl_off rfl rfl rfl h467 (wl_off rfl rfl rfl h467 (wl_off rfl rfl rfl h467 (wl_pick_t rfl rfl h467 rfl (wl_move rfl rfl (wl_off rfl rfl rfl rfl (wl_off rfl rfl rfl rfl (wl_off rfl rfl rfl rfl (wl_off rfl rfl rfl rfl (wl_pick_t rfl rfl rfl rfl (WL.nil ?_))))))))))
            exact fun a ha => hJ111 (true) _ hF hB460 (hS461.sel [7, 8, 9, 10, 6, 4, 2, 0] rfl) a (ha.sub ⟨rfl, rfl, rfl, rfl, rfl, rfl, rfl, rfl, trivial⟩)
           ·replace hF := ifN h467 hF
            refine wl_on rfl rfl h467 (wl_move rfl rfl (wl_on rfl rfl h467 (wl_move rfl rfl (wl_on rfl rfl h467 (wl_neqb Try.underlying4 rfl rfl rfl (wl_pick_f rfl rfl h467 rfl (wl_move rfl rfl ?_)))))))
            rcases bE (u91.2 != u37.2) with h468 | h468
            ·replace hF := ifP h468 hF
             refine wl_off rfl rfl rfl h468 (wl_off rfl rfl rfl h468 (wl_off rfl rfl rfl h468 (wl_off rfl rfl rfl h468 (wl_pick_t rfl rfl h468 rfl (WL.nil ?_)))))
             exact fun a ha => hJ111 (true) _ hF hB460 (hS461.sel [7, 8, 9, 10, 6, 4, 2, 0] rfl) a (ha.sub ⟨rfl, rfl, rfl, rfl, rfl, rfl, rfl, rfl, trivial⟩)
            ·replace hF := ifN h468 hF
             refine wl_on rfl rfl h468 (wl_load_blk (i := 6) (vs := [v14, v16, (.int .i64 u13.1.2.2.1), (.int .i64 u13.1.2.2.2), (.int .i64 u13.2.1), v18, v20]) (v := (.agg #[v14, v16, (.int .i64 u13.1.2.2.1), (.int .i64 u13.1.2.2.2), (.int .i64 u13.2.1), v18, v20])) tf_102 rfl rfl hS461 rfl rfl rfl (wl_on rfl rfl h468 ?_))
             obtain ⟨u469, hu469, hF⟩ := bindE hF
             refine wl_call rfl Try.call100 (C_impl_IsMarch w458 u13 v14 (hS461.own_ro (i := 7) rfl) v16 (hS461.own_ro (i := 8) rfl) v18 (hS461.own_ro (i := 9) rfl) v20 (hS461.own_ro (i := 10) rfl) _ hu469) rfl ?_
             rintro _ w470 ⟨rfl, hb471⟩
             refine ⟨_, rfl, ?_⟩
             have hB472 := hB460.trans (hb471.mono hB460.size)
             have hS473 := hS461.below hb471
             refine wl_on rfl rfl h468 (wl_move rfl rfl (wl_on rfl rfl h468 (wl_neqb Try.underlying4 rfl rfl rfl (wl_pick_f rfl rfl h468 rfl (WL.nil ?_)))))
             exact fun a ha => hJ111 ((u469 != u37.2)) _ hF hB472 (hS473.sel [7, 8, 9, 10, 6, 4, 2, 0] rfl) a (ha.sub ⟨rfl, rfl, rfl, rfl, rfl, rfl, rfl, rfl, trivial⟩)
end Go.Proofs.Ytmkignciedkidaa
