/-
  THE WALKS of functions of this seat, by program (gen.py, prune.py).
-/
import Derived.Test.YtejhnpimhjmpdaaGreatDoorWXFnTopd
set_option linter.unusedSimpArgs false
set_option linter.unusedVariables false
set_option maxRecDepth 100000
set_option maxHeartbeats 1600000
namespace Go.Proofs.YtejhnpimhjmpdaaGreatDoor
open Go Go.RowKit
theorem C_laws_FnTop (w0 : World) (hT : Tab w0) (x0 : (List Int)) (v0_0 : Value) (h0_0 : rdS ty_5 (· < w0.heap.size) w0 v0_0 x0) (x1 : (List Int)) (v1_0 : Value) (h1_0 : rdS ty_5 (· < w0.heap.size) w0 v1_0 x1) (r : Bool) (hF : F_laws_FnTop x0 x1 = some r) :
  Calls Tryz.prog 3 [v0_0, v1_0].toArray w0 fun e w' => e = .returned (.bool r) ∧ Below w0.heap.size w0 w' := by
 refine calls_mk' Tryz.func3 rfl Tryz.ntmps3 rfl rfl fun Q hQ hP => ?_
 have hB : Below w0.heap.size w0 w0 := Below.refl _ _
 have hS : Sep w0.heap.size w0 [] := Sep.nil _ _
 unfold F_laws_FnTop at hF
 refine W.seq fun K1 hK1 => W.region (wl_assign rfl rfl (WL.nil (fun a ha => hK1 _ _ (W.seq fun K2 hK2 => (W.seq fun K3 hK3 => (W.region (wl_move rfl rfl (wl_move rfl rfl ?_))))) a ha)))
 obtain ⟨u4, hu4, hF⟩ := bindE hF
 refine wl_call rfl Tryz.call4 (C_laws_big w0 x0 v0_0 (h0_0.ro hB) x1 v1_0 (h1_0.ro hB) _ hu4) rfl ?_
 rintro _ w5 ⟨rfl, hb6⟩
 refine ⟨_, rfl, ?_⟩
 have hB7 := hB.trans (hb6.mono hB.size)
 have hS8 := hS.below hb6
 refine WL.nil fun a ha => hK3 _ _ (W.cond rfl (fun h10 => ?_) (fun h10 => ?_)) a ha
 ·replace hF := ifP h10 hF
  refine W.seq fun K11 hK11 => W.region (wl_assign rfl rfl (WL.nil (fun a ha => hK11 _ _ (W.ret ?_) a ha)))
  have hr := Option.some.inj hF
  subst hr
  exact rets (vs := [(.bool true)]) hQ rfl ⟨rv_tmp rfl, trivial⟩ ⟨rfl, hB7⟩
 ·replace hF := ifN h10 hF
  refine W.skip fun a ha => hK2 _ _ (W.seq fun K12 hK12 => (W.region (wl_move rfl rfl ?_))) a ha
  obtain ⟨u13, hu13, hF⟩ := bindE hF
  refine wl_call rfl Tryz.call5 (C_spec_DrawIsShow w5 x0 v0_0 (h0_0.ro hB7) _ hu13) rfl ?_
  rintro _ w18 ⟨v14, F15, v16, F17, rfl, hb19, hM22⟩
  refine ⟨_, rfl, ?_⟩
  have hB20 := hB7.trans (hb19.mono hB7.size)
  have hS21 := hS8.join hb19 hM22 hB7.size
  refine wl_alloc (cs := [(.slice none 0 0), (.slice none 0 0), (.int .i64 0), (.int .i64 0)]) tf_27 rfl rfl hB20 hS21 ?_
  intro b23 w24 hb25 hB26 hS27
  refine wl_store_blk (i := 0) (vs := [v14, v16, (.int .i64 u13.2.2.1), (.int .i64 u13.2.2.2)]) (cs' := [v14, v16, (.int .i64 u13.2.2.1), (.int .i64 u13.2.2.2)]) tf_27 rfl rfl rfl rfl hB26 hS27 rfl rfl ⟨(hS27.own_ro (i := 1) rfl).one, (hS27.own_ro (i := 2) rfl).one, rfl, rfl, trivial⟩ rfl ?_
  intro w28 hk31 hB29 hS30
  refine WL.nil fun a ha => hK12 _ _ (W.seq fun K32 hK32 => (W.region (wl_load_blk (i := 0) (vs := [v14, v16, (.int .i64 u13.2.2.1), (.int .i64 u13.2.2.2)]) (v := (.agg #[v14, v16, (.int .i64 u13.2.2.1), (.int .i64 u13.2.2.2)])) tf_27 rfl rfl hS30 rfl rfl rfl ?_))) a ha
  obtain ⟨u33, hu33, hF⟩ := bindE hF
  refine wl_call rfl Tryz.call6 (C_impl_PublishSheets w28 u13 v14 (hS30.own_ro (i := 1) rfl) v16 (hS30.own_ro (i := 2) rfl) _ hu33) rfl ?_
  rintro _ w36 ⟨v34, F35, rfl, hb37, hM40⟩
  refine ⟨_, rfl, ?_⟩
  have hB38 := hB29.trans (hb37.mono hB29.size)
  have hS39 := hS30.join hb37 hM40 hB29.size
  refine wl_move rfl rfl (wl_extract rfl rfl rfl (wl_extract rfl rfl rfl (wl_assign rfl rfl (wl_assign rfl rfl (WL.nil (fun a ha => hK32 _ _ (W.seq fun K41 hK41 => (W.region (wl_load_blk (i := 1) (vs := [v14, v16, (.int .i64 u13.2.2.1), (.int .i64 u13.2.2.2)]) (v := (.agg #[v14, v16, (.int .i64 u13.2.2.1), (.int .i64 u13.2.2.2)])) tf_27 rfl rfl hS39 rfl rfl rfl ?_))) a ha))))))
  obtain ⟨u42, hu42, hF⟩ := bindE hF
  refine wl_call rfl Tryz.call7 (C_spec_PublishSheets w36 u13 v14 (hS39.own_ro (i := 2) rfl) v16 (hS39.own_ro (i := 3) rfl) _ hu42) rfl ?_
  rintro _ w45 ⟨v43, F44, rfl, hb46, hM49⟩
  refine ⟨_, rfl, ?_⟩
  have hB47 := hB38.trans (hb46.mono hB38.size)
  have hS48 := hS39.join hb46 hM49 hB38.size
  refine wl_move rfl rfl (wl_extract rfl rfl rfl (wl_extract rfl rfl rfl (wl_assign rfl rfl (wl_assign rfl rfl (WL.nil (fun a ha => hK41 _ _ (W.seq fun K50 hK50 => (W.seq fun K51 hK51 => ?_)) a ha))))))
  obtain ⟨k56, hk56, hF⟩ := jE1 hF
  have hJ57 : ∀ (y55 : Bool) (w52 : World) (_ : k56 y55 = some r) (_ : Below w0.heap.size w0 w52) (_ : Sep w0.heap.size w52 [R.own ty_51 F15 v14 u13.1, R.own ty_3 F17 v16 u13.2.1, R.blk b23 27 [v14, v16, (.int .i64 u13.2.2.1), (.int .i64 u13.2.2.2)], R.own ty_48 F35 v34 u33.1, R.own ty_48 F44 v43 u42.1]), ∀ a, St 329 [(5, (.pointer (some ⟨b23, 0, none⟩))), (6, v34), (7, (.bool u33.2)), (8, v43), (72, (.bool y55))] a → K51 a w52 := by
   intro y55 w52 hF hB53 hS54
   subst hk56
   refine fun a ha => hK51 _ _ (W.cond rfl (fun h58 => ?_) (fun h58 => ?_)) a ha
   ·replace hF := ifP h58 hF
    refine W.seq fun K59 hK59 => W.region (wl_assign rfl rfl (WL.nil (fun a ha => hK59 _ _ (W.ret ?_) a ha)))
    have hr := Option.some.inj hF
    subst hr
    exact rets (vs := [(.bool false)]) hQ rfl ⟨rv_tmp rfl, trivial⟩ ⟨rfl, hB53⟩
   ·replace hF := ifN h58 hF
    refine W.skip fun a ha => hK50 _ _ (W.seq fun K60 hK60 => (W.seq fun K61 hK61 => (W.region (wl_move rfl rfl (wl_not rfl rfl (WL.nil (fun a ha => hK61 _ _ (W.cond rfl (fun h62 => ?_) (fun h62 => ?_)) a ha))))))) a ha
    ·replace hF := ifP h62 hF
     refine W.seq fun K63 hK63 => W.region (wl_assign rfl rfl (WL.nil (fun a ha => hK63 _ _ (W.ret ?_) a ha)))
     have hr := Option.some.inj hF
     subst hr
     exact rets (vs := [(.bool true)]) hQ rfl ⟨rv_tmp rfl, trivial⟩ ⟨rfl, hB53⟩
    ·replace hF := ifN h62 hF
     refine W.skip fun a ha => hK60 _ _ (W.seq fun K64 hK64 => (W.seq fun K65 hK65 => (W.region (wl_field (o := 1) (off' := 1) ff_27_1 rfl rfl rfl (wl_load_blk (i := 2) (vs := [v16]) (v := v16) tf_25 rfl rfl hS54 rfl rfl rfl (wl_lenr (e := ty_3) (l := u13.2.1) Tryz.underlying25 rfl rfl (hS54.own_ro (i := 1) rfl) (wl_move rfl rfl (WL.nil (fun a ha => hK65 _ _ (W.block (W.loopk (fun m a w66 => ∃ (y69 : Int), St 329 [(5, (.pointer (some ⟨b23, 0, none⟩))), (6, v34), (8, v43), (77, (.int .i64 (List.length u13.2.1 : Int))), (78, (.int .i64 y69))] a ∧ Below w0.heap.size w0 w66 ∧ Sep w0.heap.size w66 [R.own ty_51 F15 v14 u13.1, R.own ty_3 F17 v16 u13.2.1, R.blk b23 27 [v14, v16, (.int .i64 u13.2.2.1), (.int .i64 u13.2.2.2)], R.own ty_48 F35 v34 u33.1, R.own ty_48 F44 v43 u42.1] ∧ F_laws_FnTop_L1 u13 u33 u42 m y69 = some r) FU ?_ ?_)) a ha))))))))) a ha
     ·
      exact fun a ha => ⟨0, ha.sub ⟨rfl, rfl, rfl, rfl, rfl, trivial⟩, hB53, (hS54.sel [0, 1, 2, 3, 4] rfl), hF⟩
     ·
      rintro m72 a w66 ⟨y69, ha, hB67, hS68, hF⟩ KL71 hKL71
      refine W.at ?_ ha
      cases m72 with
      | zero => exact noneE hF
      | succ m72 =>
       obtain ⟨nx70, hnx70⟩ : ∃ k, k = F_laws_FnTop_L1 u13 u33 u42 m72 := ⟨_, rfl⟩
       rw [F_laws_FnTop_L1, ← hnx70] at hF
       refine W.seq fun K73 hK73 => W.region (wl_lss rfl rfl rfl (WL.nil (fun a ha => hK73 _ _ (W.seq fun K74 hK74 => (W.cond rfl (fun h75 => ?_) (fun h75 => ?_))) a ha)))
       ·replace hF := ifP h75 hF
        refine W.skip fun a ha => hK74 _ _ (W.seq fun K76 hK76 => (W.block (W.seq fun K77 hK77 => (W.region (wl_move rfl rfl (wl_assign rfl rfl (WL.nil (fun a ha => hK77 _ _ (W.seq fun K78 hK78 => (W.region (wl_load_blk (i := 2) (vs := [v14, v16, (.int .i64 u13.2.2.1), (.int .i64 u13.2.2.2)]) (v := (.agg #[v14, v16, (.int .i64 u13.2.2.1), (.int .i64 u13.2.2.2)])) tf_27 rfl rfl hS68 rfl rfl rfl (wl_move rfl rfl ?_)))) a ha)))))))) a ha
        obtain ⟨u79, hu79, hF⟩ := bindE hF
        refine wl_call rfl Tryz.call9 (C_impl_ShowMoves w66 u13 v14 (hS68.own_ro (i := 0) rfl) v16 (hS68.own_ro (i := 1) rfl) y69 _ hu79) rfl ?_
        rintro _ w82 ⟨v80, F81, rfl, hb83, hM86⟩
        refine ⟨_, rfl, ?_⟩
        have hB84 := hB67.trans (hb83.mono hB67.size)
        have hS85 := hS68.join hb83 hM86 hB67.size
        refine wl_move rfl rfl (wl_extract rfl rfl rfl (wl_extract rfl rfl rfl (wl_assign rfl rfl (wl_assign rfl rfl (WL.nil (fun a ha => hK78 _ _ (W.seq fun K87 hK87 => (W.region (wl_load_blk (i := 3) (vs := [v14, v16, (.int .i64 u13.2.2.1), (.int .i64 u13.2.2.2)]) (v := (.agg #[v14, v16, (.int .i64 u13.2.2.1), (.int .i64 u13.2.2.2)])) tf_27 rfl rfl hS85 rfl rfl rfl (wl_move rfl rfl ?_)))) a ha))))))
        obtain ⟨u88, hu88, hF⟩ := bindE hF
        refine wl_call rfl Tryz.call10 (C_spec_ShowMoves w82 u13 v14 (hS85.own_ro (i := 1) rfl) v16 (hS85.own_ro (i := 2) rfl) y69 _ hu88) rfl ?_
        rintro _ w91 ⟨v89, F90, rfl, hb92, hM95⟩
        refine ⟨_, rfl, ?_⟩
        have hB93 := hB84.trans (hb92.mono hB84.size)
        have hS94 := hS85.join hb92 hM95 hB84.size
        refine wl_move rfl rfl (wl_extract rfl rfl rfl (wl_extract rfl rfl rfl (wl_assign rfl rfl (wl_assign rfl rfl (WL.nil (fun a ha => hK87 _ _ (W.seq fun K96 hK96 => (W.seq fun K97 hK97 => ?_)) a ha))))))
        obtain ⟨k102, hk102, hF⟩ := jE1 hF
        have hJ103 : ∀ (y101 : Bool) (w98 : World) (_ : k102 y101 = some r) (_ : Below w0.heap.size w0 w98) (_ : Sep w0.heap.size w98 [R.own ty_51 F15 v14 u13.1, R.own ty_3 F17 v16 u13.2.1, R.blk b23 27 [v14, v16, (.int .i64 u13.2.2.1), (.int .i64 u13.2.2.2)], R.own ty_48 F35 v34 u33.1, R.own ty_48 F44 v43 u42.1, R.own ty_40 F90 v89 u88.1]), ∀ a, St 329 [(5, (.pointer (some ⟨b23, 0, none⟩))), (6, v34), (8, v43), (13, v89), (77, (.int .i64 (List.length u13.2.1 : Int))), (78, (.int .i64 y69)), (104, (.bool y101))] a → K97 a w98 := by
         intro y101 w98 hF hB99 hS100
         subst hk102
         refine fun a ha => hK97 _ _ (W.cond rfl (fun h104 => ?_) (fun h104 => ?_)) a ha
         ·replace hF := ifP h104 hF
          refine W.seq fun K105 hK105 => W.region (wl_assign rfl rfl (WL.nil (fun a ha => hK105 _ _ (W.ret ?_) a ha)))
          have hr := Option.some.inj hF
          subst hr
          exact rets (vs := [(.bool false)]) hQ rfl ⟨rv_tmp rfl, trivial⟩ ⟨rfl, hB99⟩
         ·replace hF := ifN h104 hF
          refine W.skip fun a ha => hK96 _ _ (W.seq fun K106 hK106 => (W.region (wl_move rfl rfl (wl_lenr (e := ty_40) (l := u88.1) Tryz.underlying33 rfl rfl (hS100.own_ro (i := 5) rfl) (wl_move rfl rfl (WL.nil (fun a ha => hK106 _ _ (W.block (W.loopk (fun m a w107 => ∃ (y110 : Int), St 329 [(5, (.pointer (some ⟨b23, 0, none⟩))), (6, v34), (8, v43), (13, v89), (77, (.int .i64 (List.length u13.2.1 : Int))), (78, (.int .i64 y69)), (105, v89), (106, (.int .i64 (List.length u88.1 : Int))), (107, (.int .i64 y110))] a ∧ Below w0.heap.size w0 w107 ∧ Sep w0.heap.size w107 [R.own ty_51 F15 v14 u13.1, R.own ty_3 F17 v16 u13.2.1, R.blk b23 27 [v14, v16, (.int .i64 u13.2.2.1), (.int .i64 u13.2.2.2)], R.own ty_48 F35 v34 u33.1, R.own ty_48 F44 v43 u42.1, R.own ty_40 F90 v89 u88.1] ∧ F_laws_FnTop_L2 u88 u13 nx70 y69 m y110 = some r) FU ?_ ?_)) a ha))))))) a ha
          ·
           exact fun a ha => ⟨0, ha.sub ⟨rfl, rfl, rfl, rfl, rfl, rfl, rfl, rfl, rfl, trivial⟩, hB99, (hS100.sel [0, 1, 2, 3, 4, 5] rfl), hF⟩
          ·
           rintro m113 a w107 ⟨y110, ha, hB108, hS109, hF⟩ KL112 hKL112
           refine W.at ?_ ha
           cases m113 with
           | zero => exact noneE hF
           | succ m113 =>
            obtain ⟨nx111, hnx111⟩ : ∃ k, k = F_laws_FnTop_L2 u88 u13 nx70 y69 m113 := ⟨_, rfl⟩
            rw [F_laws_FnTop_L2, ← hnx111] at hF
            refine W.seq fun K114 hK114 => W.region (wl_lss rfl rfl rfl (WL.nil (fun a ha => hK114 _ _ (W.seq fun K115 hK115 => (W.cond rfl (fun h116 => ?_) (fun h116 => ?_))) a ha)))
            ·replace hF := ifP h116 hF
             refine W.skip fun a ha => hK115 _ _ (W.seq fun K117 hK117 => (W.block (W.seq fun K118 hK118 => (W.region (wl_move rfl rfl ?_))))) a ha
             obtain ⟨u119, hu119, hF⟩ := bindE hF
             refine wl_indexoF (e := ty_40) (i := 5) Tryz.underlying33 rfl rfl rfl hS109 rfl hu119 ?_
             rintro p120 _ rfl hp121 ho122
             refine wl_load_p (vs := [(.int .i64 u119.1.1), (.int .i64 u119.1.2), (.int .i64 u119.2.1.1), (.int .i64 u119.2.1.2), (.int .i64 u119.2.2)]) (v := (.agg #[(.int .i64 u119.1.1), (.int .i64 u119.1.2), (.int .i64 u119.2.1.1), (.int .i64 u119.2.1.2), (.int .i64 u119.2.2)])) tf_40 rfl rfl hp121 rfl rfl (wl_alloc (cs := [(.int .i64 0), (.int .i64 0), (.int .i64 0), (.int .i64 0), (.int .i64 0)]) tf_40 rfl rfl hB108 hS109 ?_)
             intro b123 w124 hb125 hB126 hS127
             have hp121 := hp121.keepS (fun b hb => hb125.block b (((hS109.get (i := 5) rfl).2.1 b hb).2)) (fun _ h => h)
             refine wl_assign rfl rfl (wl_store_blk (i := 0) (vs := [(.int .i64 u119.1.1), (.int .i64 u119.1.2), (.int .i64 u119.2.1.1), (.int .i64 u119.2.1.2), (.int .i64 u119.2.2)]) (cs' := [(.int .i64 u119.1.1), (.int .i64 u119.1.2), (.int .i64 u119.2.1.1), (.int .i64 u119.2.1.2), (.int .i64 u119.2.2)]) tf_40 rfl rfl rfl rfl hB126 hS127 rfl rfl ⟨rfl, rfl, rfl, rfl, rfl, trivial⟩ rfl ?_)
             intro w128 hk131 hB129 hS130
             have hp121 := hp121.keepS (fun b hb => hk131.2.1 b (((hS127.get (i := 6) rfl).2.1 b hb).2) (hS127.disj (i := 6) (j := 0) rfl rfl rfl b hb)) (fun _ h => h)
             refine WL.nil fun a ha => hK118 _ _ (W.seq fun K132 hK132 => (W.region (wl_load_blk (i := 0) (vs := [(.int .i64 u119.1.1), (.int .i64 u119.1.2), (.int .i64 u119.2.1.1), (.int .i64 u119.2.1.2), (.int .i64 u119.2.2)]) (v := (.agg #[(.int .i64 u119.1.1), (.int .i64 u119.1.2), (.int .i64 u119.2.1.1), (.int .i64 u119.2.1.2), (.int .i64 u119.2.2)])) tf_40 rfl rfl hS130 rfl rfl rfl (wl_field (o := 3) (off' := 3) ff_27_3 rfl rfl rfl (wl_load_blk (i := 3) (vs := [(.int .i64 u13.2.2.2)]) (v := (.int .i64 u13.2.2.2)) tf_3 rfl rfl hS130 rfl rfl rfl ?_))))) a ha
             obtain ⟨u133, hu133, hF⟩ := bindE hF
             refine wl_call rfl Tryz.call12 (C_impl_WithinStep w128 u119 u13.2.2.2 _ hu133) rfl ?_
             rintro _ w134 ⟨rfl, hb135⟩
             refine ⟨_, rfl, ?_⟩
             have hB136 := hB129.trans (hb135.mono hB129.size)
             have hS137 := hS130.below hb135
             have hp121 := hp121.keepS (fun b hb => hb135.block b (((hS130.get (i := 6) rfl).2.1 b hb).2)) (fun _ h => h)
             refine wl_move rfl rfl (wl_extract rfl rfl rfl (wl_extract rfl rfl rfl (wl_assign rfl rfl (wl_assign rfl rfl (WL.nil (fun a ha => hK132 _ _ (W.seq fun K139 hK139 => (W.seq fun K140 hK140 => ?_)) a ha))))))
             obtain ⟨k145, hk145, hF⟩ := jE1 hF
             have hJ146 : ∀ (y144 : Bool) (w141 : World) (_ : k145 y144 = some r) (_ : Below w0.heap.size w0 w141) (_ : Sep w0.heap.size w141 [R.own ty_51 F15 v14 u13.1, R.own ty_3 F17 v16 u13.2.1, R.blk b23 27 [v14, v16, (.int .i64 u13.2.2.1), (.int .i64 u13.2.2.2)], R.own ty_48 F35 v34 u33.1, R.own ty_48 F44 v43 u42.1, R.own ty_40 F90 v89 u88.1, R.blk b123 40 [(.int .i64 u119.1.1), (.int .i64 u119.1.2), (.int .i64 u119.2.1.1), (.int .i64 u119.2.1.2), (.int .i64 u119.2.2)]]), ∀ a, St 329 [(5, (.pointer (some ⟨b23, 0, none⟩))), (6, v34), (8, v43), (13, v89), (15, (.int .i64 y110)), (16, (.pointer (some ⟨b123, 0, none⟩))), (77, (.int .i64 (List.length u13.2.1 : Int))), (78, (.int .i64 y69)), (105, v89), (106, (.int .i64 (List.length u88.1 : Int))), (107, (.int .i64 y110)), (124, (.bool y144))] a → K140 a w141 := by
              intro y144 w141 hF hB142 hS143
              subst hk145
              refine fun a ha => hK140 _ _ (W.cond rfl (fun h147 => ?_) (fun h147 => ?_)) a ha
              ·replace hF := ifP h147 hF
               refine W.seq fun K148 hK148 => W.region (wl_assign rfl rfl (WL.nil (fun a ha => hK148 _ _ (W.ret ?_) a ha)))
               have hr := Option.some.inj hF
               subst hr
               exact rets (vs := [(.bool false)]) hQ rfl ⟨rv_tmp rfl, trivial⟩ ⟨rfl, hB142⟩
              ·replace hF := ifN h147 hF
               refine W.skip fun a ha => hK139 _ _ (W.seq fun K149 hK149 => (W.region (wl_move rfl rfl (wl_move rfl rfl ?_)))) a ha
               obtain ⟨u150, hu150, hF⟩ := bindE hF
               refine wl_sliceof (e := ty_40) Tryz.underlying33 rfl rfl (hS143.ok (i := 5) rfl : ownS ty_40 _ _ _ _).rd hu150 (.inl ⟨rfl, rfl⟩) (.inr ⟨_, _, rfl, rfl⟩) ?_
               intro v151 hv154 hs153
               refine wl_lenr (e := ty_40) (l := u150) Tryz.underlying33 rfl rfl (hv154.mono (fun b hb => ((hS143.get (i := 5) rfl).2.1 b hb).2)) (wl_move rfl rfl (WL.nil (fun a ha => hK149 _ _ (W.block ?_) a ha)))
               refine W.loopk (fun m a w155 => ∃ (y158 : Int), St 329 [(5, (.pointer (some ⟨b23, 0, none⟩))), (6, v34), (8, v43), (13, v89), (16, (.pointer (some ⟨b123, 0, none⟩))), (77, (.int .i64 (List.length u13.2.1 : Int))), (78, (.int .i64 y69)), (105, v89), (106, (.int .i64 (List.length u88.1 : Int))), (107, (.int .i64 y110)), (128, (.int .i64 (List.length u150 : Int))), (129, (.int .i64 y158))] a ∧ Below w0.heap.size w0 w155 ∧ Sep w0.heap.size w155 [R.own ty_51 F15 v14 u13.1, R.own ty_3 F17 v16 u13.2.1, R.blk b23 27 [v14, v16, (.int .i64 u13.2.2.1), (.int .i64 u13.2.2.2)], R.own ty_48 F35 v34 u33.1, R.own ty_48 F44 v43 u42.1, R.own ty_40 F90 v89 u88.1, R.blk b123 40 [(.int .i64 u119.1.1), (.int .i64 u119.1.2), (.int .i64 u119.2.1.1), (.int .i64 u119.2.1.2), (.int .i64 u119.2.2)]] ∧ F_laws_FnTop_L3 u150 u88 u119 u13 nx111 y110 m y158 = some r) FU ?_ ?_
               ·
                exact fun a ha => ⟨0, ha.sub ⟨rfl, rfl, rfl, rfl, rfl, rfl, rfl, rfl, rfl, rfl, rfl, rfl, trivial⟩, hB142, (hS143.sel [0, 1, 2, 3, 4, 5, 6] rfl), hF⟩
               ·
                rintro m161 a w155 ⟨y158, ha, hB156, hS157, hF⟩ KL160 hKL160
                refine W.at ?_ ha
                cases m161 with
                | zero => exact noneE hF
                | succ m161 =>
                 obtain ⟨nx159, hnx159⟩ : ∃ k, k = F_laws_FnTop_L3 u150 u88 u119 u13 nx111 y110 m161 := ⟨_, rfl⟩
                 rw [F_laws_FnTop_L3, ← hnx159] at hF
                 refine W.seq fun K162 hK162 => W.region (wl_lss rfl rfl rfl (WL.nil (fun a ha => hK162 _ _ (W.seq fun K163 hK163 => (W.cond rfl (fun h164 => ?_) (fun h164 => ?_))) a ha)))
                 ·replace hF := ifP h164 hF
                  refine W.skip fun a ha => hK163 _ _ (W.seq fun K165 hK165 => (W.block (W.seq fun K166 hK166 => (W.region (wl_move rfl rfl (wl_assign rfl rfl (WL.nil (fun a ha => hK166 _ _ (W.seq fun K167 hK167 => (W.regionH mixed_ [] hB156 hS157 ?_)) a ha)))))))) a ha
                  intro w168 hb169 hB170 hS171
                  have hSW172 := KeepX.refl w168 []
                  refine WH.tk 0 rfl hP hSW172 (pr_load_blk (i := 6) (vs := [(.int .i64 u119.1.1), (.int .i64 u119.1.2), (.int .i64 u119.2.1.1), (.int .i64 u119.2.1.2), (.int .i64 u119.2.2)]) (v := (.agg #[(.int .i64 u119.1.1), (.int .i64 u119.1.2), (.int .i64 u119.2.1.1), (.int .i64 u119.2.1.2), (.int .i64 u119.2.2)])) tf_40 rfl rfl hS171 rfl rfl rfl (by simp) (WH.tk 1 rfl hP hSW172 (pr_move rfl rfl (WH.tk 2 rfl hP hSW172 (pr_move rfl rfl ?_)))))
                  obtain ⟨u173, hu173, hF⟩ := bindE hF
                  refine WH.tk 3 rfl hP hSW172 (pr_indexoF (e := ty_40) (i := 5) Tryz.underlying33 rfl rfl rfl hS171 rfl hu173 ?_)
                  rintro p174 _ rfl hp175 ho176
                  refine WH.tk 4 rfl hP hSW172 (pr_load_p (vs := [(.int .i64 u173.1.1), (.int .i64 u173.1.2), (.int .i64 u173.2.1.1), (.int .i64 u173.2.1.2), (.int .i64 u173.2.2)]) (v := (.agg #[(.int .i64 u173.1.1), (.int .i64 u173.1.2), (.int .i64 u173.2.1.1), (.int .i64 u173.2.1.2), (.int .i64 u173.2.2)])) tf_40 rfl rfl (fun w hw => hp175.keepS (fun b h0 => (hw.blk b (((hS171.get (i := 5) rfl).2.1 b h0).2) (by simp))) (fun _ h => h)) rfl rfl (WH.on1 5 rfl ?_))
                  obtain ⟨u177, hu177, hF⟩ := bindE hF
                  refine wl_call rfl Tryz.call13 (C_impl_LeastApart w168 u119 u173 _ hu177) rfl ?_
                  rintro _ w178 ⟨rfl, hb179⟩
                  refine ⟨_, rfl, ?_⟩
                  have hB180 := hB170.trans (hb179.mono hB170.size)
                  have hS181 := hS171.below hb179
                  have hpv183 := hp175.keepS (fun b hb => hb179.block b (((hS171.get (i := 5) rfl).2.1 b hb).2)) (fun _ h => h)
                  have hSW184 := hSW172.ext hb179
                  refine WL.nil (WH.ret hSW184 (WH.tk 6 rfl hP hSW184 (pr_move rfl rfl (WH.tk 7 rfl hP hSW184 (pr_extract rfl rfl rfl (WH.tk 8 rfl hP hSW184 (pr_extract rfl rfl rfl (WH.tk 9 rfl hP hSW184 (pr_extract rfl rfl rfl (WH.tk 10 rfl hP hSW184 (pr_assign rfl rfl (WH.tk 11 rfl hP hSW184 (pr_assign rfl rfl (WH.tk 12 rfl hP hSW184 ?_))))))))))))))
                  refine pr_assign rfl rfl (WH.done (by kernel_rfl) ?_)
                  have hp175 := hpv183
                  refine fun a ha => hK167 _ _ (W.seq fun K185 hK185 => (W.seq fun K186 hK186 => ?_)) a ha
                  obtain ⟨k191, hk191, hF⟩ := jE1 hF
                  have hJ192 : ∀ (y190 : Bool) (w187 : World) (_ : k191 y190 = some r) (_ : Below w0.heap.size w0 w187) (_ : Sep w0.heap.size w187 [R.own ty_51 F15 v14 u13.1, R.own ty_3 F17 v16 u13.2.1, R.blk b23 27 [v14, v16, (.int .i64 u13.2.2.1), (.int .i64 u13.2.2.2)], R.own ty_48 F35 v34 u33.1, R.own ty_48 F44 v43 u42.1, R.own ty_40 F90 v89 u88.1, R.blk b123 40 [(.int .i64 u119.1.1), (.int .i64 u119.1.2), (.int .i64 u119.2.1.1), (.int .i64 u119.2.1.2), (.int .i64 u119.2.2)]]), ∀ a, St 329 [(5, (.pointer (some ⟨b23, 0, none⟩))), (6, v34), (8, v43), (13, v89), (16, (.pointer (some ⟨b123, 0, none⟩))), (19, (.int .i64 y158)), (77, (.int .i64 (List.length u13.2.1 : Int))), (78, (.int .i64 y69)), (105, v89), (106, (.int .i64 (List.length u88.1 : Int))), (107, (.int .i64 y110)), (128, (.int .i64 (List.length u150 : Int))), (129, (.int .i64 y158)), (158, (.bool y190))] a → K186 a w187 := by
                   intro y190 w187 hF hB188 hS189
                   subst hk191
                   refine fun a ha => hK186 _ _ (W.cond rfl (fun h193 => ?_) (fun h193 => ?_)) a ha
                   ·replace hF := ifP h193 hF
                    refine W.seq fun K194 hK194 => W.region (wl_assign rfl rfl (WL.nil (fun a ha => hK194 _ _ (W.ret ?_) a ha)))
                    have hr := Option.some.inj hF
                    subst hr
                    exact rets (vs := [(.bool false)]) hQ rfl ⟨rv_tmp rfl, trivial⟩ ⟨rfl, hB188⟩
                   ·replace hF := ifN h193 hF
                    refine W.skip fun a ha => hK185 _ _ (W.seq fun K195 hK195 => (W.region (wl_assign rfl rfl (WL.nil (fun a ha => hK195 _ _ (W.block ?_) a ha))))) a ha
                    refine W.loopk (fun m a w196 => ∃ (y199 : Int), St 329 [(5, (.pointer (some ⟨b23, 0, none⟩))), (6, v34), (8, v43), (13, v89), (16, (.pointer (some ⟨b123, 0, none⟩))), (19, (.int .i64 y158)), (23, (.int .i64 y199)), (77, (.int .i64 (List.length u13.2.1 : Int))), (78, (.int .i64 y69)), (105, v89), (106, (.int .i64 (List.length u88.1 : Int))), (107, (.int .i64 y110)), (128, (.int .i64 (List.length u150 : Int))), (129, (.int .i64 y158))] a ∧ Below w0.heap.size w0 w196 ∧ Sep w0.heap.size w196 [R.own ty_51 F15 v14 u13.1, R.own ty_3 F17 v16 u13.2.1, R.blk b23 27 [v14, v16, (.int .i64 u13.2.2.1), (.int .i64 u13.2.2.2)], R.own ty_48 F35 v34 u33.1, R.own ty_48 F44 v43 u42.1, R.own ty_40 F90 v89 u88.1, R.blk b123 40 [(.int .i64 u119.1.1), (.int .i64 u119.1.2), (.int .i64 u119.2.1.1), (.int .i64 u119.2.1.2), (.int .i64 u119.2.2)]] ∧ F_laws_FnTop_L4 u119 u88 y158 u13 nx159 m y199 = some r) FU ?_ ?_
                    ·
                     exact fun a ha => ⟨0, ha.sub ⟨rfl, rfl, rfl, rfl, rfl, rfl, rfl, rfl, rfl, rfl, rfl, rfl, rfl, rfl, trivial⟩, hB188, (hS189.sel [0, 1, 2, 3, 4, 5, 6] rfl), hF⟩
                    ·
                     rintro m202 a w196 ⟨y199, ha, hB197, hS198, hF⟩ KL201 hKL201
                     refine W.at ?_ ha
                     cases m202 with
                     | zero => exact noneE hF
                     | succ m202 =>
                      obtain ⟨nx200, hnx200⟩ : ∃ k, k = F_laws_FnTop_L4 u119 u88 y158 u13 nx159 m202 := ⟨_, rfl⟩
                      rw [F_laws_FnTop_L4, ← hnx200] at hF
                      refine W.seq fun K203 hK203 => W.seq fun K204 hK204 => W.region (wl_move rfl rfl (wl_field (o := 4) (off' := 4) ff_40_2 rfl rfl rfl (wl_load_blk (i := 6) (vs := [(.int .i64 u119.2.2)]) (v := (.int .i64 u119.2.2)) tf_3 rfl rfl hS198 rfl rfl rfl (wl_leq rfl rfl rfl (WL.nil (fun a ha => hK204 _ _ (W.cond rfl (fun h205 => ?_) (fun h205 => ?_)) a ha))))))
                      ·replace hF := ifP h205 hF
                       refine W.skip fun a ha => hK203 _ _ (W.seq fun K206 hK206 => (W.block (W.seq fun K207 hK207 => (W.regionH mixed_ [] hB197 hS198 ?_)))) a ha
                       intro w208 hb209 hB210 hS211
                       have hSW212 := KeepX.refl w208 []
                       refine WH.tk 0 rfl hP hSW212 (pr_load_blk (i := 6) (vs := [(.int .i64 u119.1.1), (.int .i64 u119.1.2), (.int .i64 u119.2.1.1), (.int .i64 u119.2.1.2), (.int .i64 u119.2.2)]) (v := (.agg #[(.int .i64 u119.1.1), (.int .i64 u119.1.2), (.int .i64 u119.2.1.1), (.int .i64 u119.2.1.2), (.int .i64 u119.2.2)])) tf_40 rfl rfl hS211 rfl rfl rfl (by simp) (WH.tk 1 rfl hP hSW212 (pr_move rfl rfl (WH.tk 2 rfl hP hSW212 (pr_move rfl rfl ?_)))))
                       obtain ⟨u213, hu213, hF⟩ := bindE hF
                       refine WH.tk 3 rfl hP hSW212 (pr_indexoF (e := ty_40) (i := 5) Tryz.underlying33 rfl rfl rfl hS211 rfl hu213 ?_)
                       rintro p214 _ rfl hp215 ho216
                       refine WH.tk 4 rfl hP hSW212 (pr_load_p (vs := [(.int .i64 u213.1.1), (.int .i64 u213.1.2), (.int .i64 u213.2.1.1), (.int .i64 u213.2.1.2), (.int .i64 u213.2.2)]) (v := (.agg #[(.int .i64 u213.1.1), (.int .i64 u213.1.2), (.int .i64 u213.2.1.1), (.int .i64 u213.2.1.2), (.int .i64 u213.2.2)])) tf_40 rfl rfl (fun w hw => hp215.keepS (fun b h0 => (hw.blk b (((hS211.get (i := 5) rfl).2.1 b h0).2) (by simp))) (fun _ h => h)) rfl rfl (WH.tk 5 rfl hP hSW212 (pr_move rfl rfl (WH.on1 6 rfl ?_))))
                       obtain ⟨u217, hu217, hF⟩ := bindE hF
                       refine wl_call rfl Tryz.call14 (C_impl_ApartAt w208 u119 u213 y199 _ hu217) rfl ?_
                       rintro _ w218 ⟨rfl, hb219⟩
                       refine ⟨_, rfl, ?_⟩
                       have hB220 := hB210.trans (hb219.mono hB210.size)
                       have hS221 := hS211.below hb219
                       have hpv223 := hp215.keepS (fun b hb => hb219.block b (((hS211.get (i := 5) rfl).2.1 b hb).2)) (fun _ h => h)
                       have hSW224 := hSW212.ext hb219
                       refine WL.nil (WH.ret hSW224 (WH.tk 7 rfl hP hSW224 (pr_move rfl rfl (WH.tk 8 rfl hP hSW224 (pr_extract rfl rfl rfl (WH.tk 9 rfl hP hSW224 (pr_extract rfl rfl rfl (WH.tk 10 rfl hP hSW224 (pr_extract rfl rfl rfl (WH.tk 11 rfl hP hSW224 (pr_assign rfl rfl (WH.tk 12 rfl hP hSW224 (pr_assign rfl rfl (WH.tk 13 rfl hP hSW224 ?_))))))))))))))
                       refine pr_assign rfl rfl (WH.done (by kernel_rfl) ?_)
                       have hp215 := hpv223
                       refine fun a ha => hK207 _ _ (W.seq fun K225 hK225 => ?_) a ha
                       obtain ⟨k230, hk230, hF⟩ := jE1 hF
                       have hJ231 : ∀ (y229 : Bool) (w226 : World) (_ : k230 y229 = some r) (_ : Below w0.heap.size w0 w226) (_ : Sep w0.heap.size w226 [R.own ty_51 F15 v14 u13.1, R.own ty_3 F17 v16 u13.2.1, R.blk b23 27 [v14, v16, (.int .i64 u13.2.2.1), (.int .i64 u13.2.2.2)], R.own ty_48 F35 v34 u33.1, R.own ty_48 F44 v43 u42.1, R.own ty_40 F90 v89 u88.1, R.blk b123 40 [(.int .i64 u119.1.1), (.int .i64 u119.1.2), (.int .i64 u119.2.1.1), (.int .i64 u119.2.1.2), (.int .i64 u119.2.2)]]), ∀ a, St 329 [(5, (.pointer (some ⟨b23, 0, none⟩))), (6, v34), (8, v43), (13, v89), (16, (.pointer (some ⟨b123, 0, none⟩))), (19, (.int .i64 y158)), (23, (.int .i64 y199)), (77, (.int .i64 (List.length u13.2.1 : Int))), (78, (.int .i64 y69)), (105, v89), (106, (.int .i64 (List.length u88.1 : Int))), (107, (.int .i64 y110)), (128, (.int .i64 (List.length u150 : Int))), (129, (.int .i64 y158)), (192, (.bool y229))] a → K225 a w226 := by
                        intro y229 w226 hF hB227 hS228
                        subst hk230
                        refine fun a ha => hK225 _ _ (W.cond rfl (fun h232 => ?_) (fun h232 => ?_)) a ha
                        ·replace hF := ifP h232 hF
                         refine W.seq fun K233 hK233 => W.region (wl_assign rfl rfl (WL.nil (fun a ha => hK233 _ _ (W.ret ?_) a ha)))
                         have hr := Option.some.inj hF
                         subst hr
                         exact rets (vs := [(.bool false)]) hQ rfl ⟨rv_tmp rfl, trivial⟩ ⟨rfl, hB227⟩
                        ·replace hF := ifN h232 hF
                         refine W.skip fun a ha => hK206 _ _ (W.region (wl_move rfl rfl (wl_add rfl rfl rfl (wl_assign rfl rfl (WL.nil ?_))))) a ha
                         rw [hnx200] at hF
                         exact fun a ha => hKL201 a _ m202 (Nat.lt_succ_self m202) ⟨(w64 (y199 + 1)), ha.sub ⟨rfl, rfl, rfl, rfl, rfl, rfl, rfl, rfl, rfl, rfl, rfl, rfl, rfl, rfl, trivial⟩, hB227, (hS228.sel [0, 1, 2, 3, 4, 5, 6] rfl), hF⟩
                       refine W.region (wl_move rfl rfl (wl_not rfl rfl (wl_move rfl rfl ?_)))
                       rcases bE (!u217.2.2) with h234 | h234
                       ·replace hF := ifP h234 hF
                        refine wl_off rfl rfl rfl h234 (wl_off rfl rfl rfl h234 (wl_pick_t rfl rfl h234 rfl (wl_move rfl rfl (wl_off rfl rfl rfl rfl (wl_off rfl rfl rfl rfl (wl_off rfl rfl rfl rfl (wl_off rfl rfl rfl rfl (wl_off rfl rfl rfl rfl (wl_off rfl rfl rfl rfl (wl_off rfl rfl rfl rfl (wl_off rfl rfl rfl rfl (wl_off rfl rfl rfl rfl (wl_pick_t rfl rfl rfl rfl ?_)))))))))))))
                        refine WL.nil ?_
                        exact fun a ha => hJ231 (true) _ hF hB220 (hS221.sel [0, 1, 2, 3, 4, 5, 6] rfl) a (ha.sub ⟨rfl, rfl, rfl, rfl, rfl, rfl, rfl, rfl, rfl, rfl, rfl, rfl, rfl, rfl, rfl, trivial⟩)
                       ·replace hF := ifN h234 hF
                        refine wl_on rfl rfl h234 (wl_move rfl rfl (wl_on rfl rfl h234 (wl_lss rfl rfl rfl (wl_pick_f rfl rfl h234 rfl (wl_move rfl rfl ?_)))))
                        rcases bE (decide (u217.2.1 < 1)) with h235 | h235
                        ·replace hF := ifP h235 hF
                         refine wl_off rfl rfl rfl h235 (wl_off rfl rfl rfl h235 (wl_off rfl rfl rfl h235 (wl_off rfl rfl rfl h235 (wl_off rfl rfl rfl h235 (wl_off rfl rfl rfl h235 (wl_off rfl rfl rfl h235 (wl_off rfl rfl rfl h235 (wl_off rfl rfl rfl h235 (wl_pick_t rfl rfl h235 rfl (WL.nil ?_))))))))))
                         exact fun a ha => hJ231 (true) _ hF hB220 (hS221.sel [0, 1, 2, 3, 4, 5, 6] rfl) a (ha.sub ⟨rfl, rfl, rfl, rfl, rfl, rfl, rfl, rfl, rfl, rfl, rfl, rfl, rfl, rfl, rfl, trivial⟩)
                        ·replace hF := ifN h235 hF
                         refine wl_on rfl rfl h235 (wl_move rfl rfl (wl_on rfl rfl h235 (wl_field (o := 2) (off' := 2) ff_27_2 rfl rfl rfl (wl_on rfl rfl h235 (wl_load_blk (i := 2) (vs := [(.int .i64 u13.2.2.1)]) (v := (.int .i64 u13.2.2.1)) tf_3 rfl rfl hS221 rfl rfl rfl (wl_on rfl rfl h235 (wl_field (o := 2) (off' := 2) ff_27_2 rfl rfl rfl (wl_on rfl rfl h235 (wl_load_blk (i := 2) (vs := [(.int .i64 u13.2.2.1)]) (v := (.int .i64 u13.2.2.1)) tf_3 rfl rfl hS221 rfl rfl rfl (wl_on rfl rfl h235 (wl_mul rfl rfl rfl (wl_on rfl rfl h235 (wl_move rfl rfl ?_)))))))))))))
                         refine wl_on rfl rfl h235 (wl_mul rfl rfl rfl (wl_on rfl rfl h235 (wl_lss rfl rfl rfl (wl_pick_f rfl rfl h235 rfl (WL.nil ?_)))))
                         exact fun a ha => hJ231 ((decide (u217.1 < (w64 ((w64 (u13.2.2.1 * u13.2.2.1)) * u217.2.1))))) _ hF hB220 (hS221.sel [0, 1, 2, 3, 4, 5, 6] rfl) a (ha.sub ⟨rfl, rfl, rfl, rfl, rfl, rfl, rfl, rfl, rfl, rfl, rfl, rfl, rfl, rfl, rfl, trivial⟩)
                      ·replace hF := ifN h205 hF
                       refine W.exit fun a ha => hK165 _ _ (W.region (wl_add rfl rfl rfl (wl_move rfl rfl (WL.nil ?_)))) a ha
                       rw [hnx159] at hF
                       exact fun a ha => hKL160 a _ m161 (Nat.lt_succ_self m161) ⟨(w64 (y158 + 1)), ha.sub ⟨rfl, rfl, rfl, rfl, rfl, rfl, rfl, rfl, rfl, rfl, rfl, rfl, trivial⟩, hB197, (hS198.sel [0, 1, 2, 3, 4, 5, 6] rfl), hF⟩
                  refine W.region (wl_move rfl rfl (wl_not rfl rfl (wl_move rfl rfl ?_)))
                  rcases bE (!u177.2.2) with h236 | h236
                  ·replace hF := ifP h236 hF
                   refine wl_off rfl rfl rfl h236 (wl_off rfl rfl rfl h236 (wl_pick_t rfl rfl h236 rfl (wl_move rfl rfl (wl_off rfl rfl rfl rfl (wl_off rfl rfl rfl rfl (wl_off rfl rfl rfl rfl (wl_off rfl rfl rfl rfl (wl_off rfl rfl rfl rfl (wl_off rfl rfl rfl rfl (wl_off rfl rfl rfl rfl (wl_off rfl rfl rfl rfl (wl_off rfl rfl rfl rfl (wl_pick_t rfl rfl rfl rfl ?_)))))))))))))
                   refine WL.nil ?_
                   exact fun a ha => hJ192 (true) _ hF hB180 (hS181.sel [0, 1, 2, 3, 4, 5, 6] rfl) a (ha.sub ⟨rfl, rfl, rfl, rfl, rfl, rfl, rfl, rfl, rfl, rfl, rfl, rfl, rfl, rfl, trivial⟩)
                  ·replace hF := ifN h236 hF
                   refine wl_on rfl rfl h236 (wl_move rfl rfl (wl_on rfl rfl h236 (wl_lss rfl rfl rfl (wl_pick_f rfl rfl h236 rfl (wl_move rfl rfl ?_)))))
                   rcases bE (decide (u177.2.1 < 1)) with h237 | h237
                   ·replace hF := ifP h237 hF
                    refine wl_off rfl rfl rfl h237 (wl_off rfl rfl rfl h237 (wl_off rfl rfl rfl h237 (wl_off rfl rfl rfl h237 (wl_off rfl rfl rfl h237 (wl_off rfl rfl rfl h237 (wl_off rfl rfl rfl h237 (wl_off rfl rfl rfl h237 (wl_off rfl rfl rfl h237 (wl_pick_t rfl rfl h237 rfl (WL.nil ?_))))))))))
                    exact fun a ha => hJ192 (true) _ hF hB180 (hS181.sel [0, 1, 2, 3, 4, 5, 6] rfl) a (ha.sub ⟨rfl, rfl, rfl, rfl, rfl, rfl, rfl, rfl, rfl, rfl, rfl, rfl, rfl, rfl, trivial⟩)
                   ·replace hF := ifN h237 hF
                    refine wl_on rfl rfl h237 (wl_move rfl rfl (wl_on rfl rfl h237 (wl_field (o := 2) (off' := 2) ff_27_2 rfl rfl rfl (wl_on rfl rfl h237 (wl_load_blk (i := 2) (vs := [(.int .i64 u13.2.2.1)]) (v := (.int .i64 u13.2.2.1)) tf_3 rfl rfl hS181 rfl rfl rfl (wl_on rfl rfl h237 (wl_field (o := 2) (off' := 2) ff_27_2 rfl rfl rfl (wl_on rfl rfl h237 (wl_load_blk (i := 2) (vs := [(.int .i64 u13.2.2.1)]) (v := (.int .i64 u13.2.2.1)) tf_3 rfl rfl hS181 rfl rfl rfl (wl_on rfl rfl h237 (wl_mul rfl rfl rfl (wl_on rfl rfl h237 (wl_move rfl rfl ?_)))))))))))))
                    refine wl_on rfl rfl h237 (wl_mul rfl rfl rfl (wl_on rfl rfl h237 (wl_lss rfl rfl rfl (wl_pick_f rfl rfl h237 rfl (WL.nil ?_)))))
                    exact fun a ha => hJ192 ((decide (u177.1 < (w64 ((w64 (u13.2.2.1 * u13.2.2.1)) * u177.2.1))))) _ hF hB180 (hS181.sel [0, 1, 2, 3, 4, 5, 6] rfl) a (ha.sub ⟨rfl, rfl, rfl, rfl, rfl, rfl, rfl, rfl, rfl, rfl, rfl, rfl, rfl, rfl, trivial⟩)
                 ·replace hF := ifN h164 hF
                  refine W.exit fun a ha => hK117 _ _ (W.region (wl_add rfl rfl rfl (wl_move rfl rfl (WL.nil ?_)))) a ha
                  rw [hnx111] at hF
                  exact fun a ha => hKL112 a _ m113 (Nat.lt_succ_self m113) ⟨(w64 (y110 + 1)), ha.sub ⟨rfl, rfl, rfl, rfl, rfl, rfl, rfl, rfl, rfl, trivial⟩, hB156, (hS157.sel [0, 1, 2, 3, 4, 5] rfl), hF⟩
             refine W.region (wl_move rfl rfl (wl_not rfl rfl (wl_move rfl rfl ?_)))
             rcases bE (!u133.2) with h238 | h238
             ·replace hF := ifP h238 hF
              refine wl_off rfl rfl rfl h238 (wl_off rfl rfl rfl h238 (wl_pick_t rfl rfl h238 rfl (WL.nil ?_)))
              exact fun a ha => hJ146 (true) _ hF hB136 (hS137.sel [1, 2, 3, 4, 5, 6, 0] rfl) a (ha.sub ⟨rfl, rfl, rfl, rfl, rfl, rfl, rfl, rfl, rfl, rfl, rfl, rfl, trivial⟩)
             ·replace hF := ifN h238 hF
              refine wl_on rfl rfl h238 (wl_move rfl rfl (wl_on rfl rfl h238 (wl_not rfl rfl (wl_pick_f rfl rfl h238 rfl (WL.nil ?_)))))
              exact fun a ha => hJ146 ((!u133.1)) _ hF hB136 (hS137.sel [1, 2, 3, 4, 5, 6, 0] rfl) a (ha.sub ⟨rfl, rfl, rfl, rfl, rfl, rfl, rfl, rfl, rfl, rfl, rfl, rfl, trivial⟩)
            ·replace hF := ifN h116 hF
             refine W.exit fun a ha => hK76 _ _ (W.region (wl_add rfl rfl rfl (wl_move rfl rfl (WL.nil ?_)))) a ha
             rw [hnx70] at hF
             exact fun a ha => hKL71 a _ m72 (Nat.lt_succ_self m72) ⟨(w64 (y69 + 1)), ha.sub ⟨rfl, rfl, rfl, rfl, rfl, trivial⟩, hB108, (hS109.sel [0, 1, 2, 3, 4] rfl), hF⟩
        refine W.region (wl_move rfl rfl (wl_not rfl rfl (wl_move rfl rfl ?_)))
        rcases bE (!u79.2) with h239 | h239
        ·replace hF := ifP h239 hF
         refine wl_off rfl rfl rfl h239 (wl_off rfl rfl rfl h239 (wl_pick_t rfl rfl h239 rfl (wl_move rfl rfl (wl_off rfl rfl rfl rfl (wl_off rfl rfl rfl rfl (wl_off rfl rfl rfl rfl (wl_off rfl rfl rfl rfl (wl_pick_t rfl rfl rfl rfl (WL.nil ?_)))))))))
         exact fun a ha => hJ103 (true) _ hF hB93 (hS94.sel [2, 3, 4, 5, 6, 0] rfl) a (ha.sub ⟨rfl, rfl, rfl, rfl, rfl, rfl, rfl, trivial⟩)
        ·replace hF := ifN h239 hF
         refine wl_on rfl rfl h239 (wl_move rfl rfl (wl_on rfl rfl h239 (wl_not rfl rfl (wl_pick_f rfl rfl h239 rfl (wl_move rfl rfl ?_)))))
         rcases bE (!u88.2) with h240 | h240
         ·replace hF := ifP h240 hF
          refine wl_off rfl rfl rfl h240 (wl_off rfl rfl rfl h240 (wl_off rfl rfl rfl h240 (wl_off rfl rfl rfl h240 (wl_pick_t rfl rfl h240 rfl (WL.nil ?_)))))
          exact fun a ha => hJ103 (true) _ hF hB93 (hS94.sel [2, 3, 4, 5, 6, 0] rfl) a (ha.sub ⟨rfl, rfl, rfl, rfl, rfl, rfl, rfl, trivial⟩)
         ·replace hF := ifN h240 hF
          refine wl_on rfl rfl h240 (wl_move rfl rfl (wl_on rfl rfl h240 (wl_move rfl rfl (wl_on rfl rfl h240 ?_))))
          obtain ⟨u241, hu241, hF⟩ := bindE hF
          refine wl_call rfl Tryz.call11 (C_laws_pSameMoves w91 u79.1 v80 (hS94.own_ro (i := 1) rfl) u88.1 v89 (hS94.own_ro (i := 0) rfl) _ hu241) rfl ?_
          rintro _ w242 ⟨rfl, hb243⟩
          refine ⟨_, rfl, ?_⟩
          have hB244 := hB93.trans (hb243.mono hB93.size)
          have hS245 := hS94.below hb243
          refine wl_on rfl rfl h240 (wl_not rfl rfl (wl_pick_f rfl rfl h240 rfl (WL.nil ?_)))
          exact fun a ha => hJ103 ((!u241)) _ hF hB244 (hS245.sel [2, 3, 4, 5, 6, 0] rfl) a (ha.sub ⟨rfl, rfl, rfl, rfl, rfl, rfl, rfl, trivial⟩)
       ·replace hF := ifN h75 hF
        refine W.exit fun a ha => hK64 _ _ (W.seq fun K247 hK247 => (W.seq fun K248 hK248 => (W.region (wl_move rfl rfl (wl_lenr (e := ty_48) (l := u33.1) Tryz.underlying29 rfl rfl (hS68.own_ro (i := 3) rfl) (wl_move rfl rfl (WL.nil (fun a ha => hK248 _ _ (W.block (W.loopk (fun m a w249 => ∃ (y252 : Int), St 329 [(5, (.pointer (some ⟨b23, 0, none⟩))), (8, v43), (196, v34), (197, (.int .i64 (List.length u33.1 : Int))), (198, (.int .i64 y252))] a ∧ Below w0.heap.size w0 w249 ∧ Sep w0.heap.size w249 [R.own ty_51 F15 v14 u13.1, R.own ty_3 F17 v16 u13.2.1, R.blk b23 27 [v14, v16, (.int .i64 u13.2.2.1), (.int .i64 u13.2.2.2)], R.own ty_48 F44 v43 u42.1, R.own ty_48 F35 v34 u33.1] ∧ F_laws_FnTop_L5 u33 u13 u42 m y252 = some r) FU ?_ ?_)) a ha)))))))) a ha
        ·
         exact fun a ha => ⟨0, ha.sub ⟨rfl, rfl, rfl, rfl, rfl, trivial⟩, hB67, (hS68.sel [0, 1, 2, 4, 3] rfl), hF⟩
        ·
         rintro m255 a w249 ⟨y252, ha, hB250, hS251, hF⟩ KL254 hKL254
         refine W.at ?_ ha
         cases m255 with
         | zero => exact noneE hF
         | succ m255 =>
          obtain ⟨nx253, hnx253⟩ : ∃ k, k = F_laws_FnTop_L5 u33 u13 u42 m255 := ⟨_, rfl⟩
          rw [F_laws_FnTop_L5, ← hnx253] at hF
          refine W.seq fun K256 hK256 => W.region (wl_lss rfl rfl rfl (WL.nil (fun a ha => hK256 _ _ (W.seq fun K257 hK257 => (W.cond rfl (fun h258 => ?_) (fun h258 => ?_))) a ha)))
          ·replace hF := ifP h258 hF
           refine W.skip fun a ha => hK257 _ _ (W.seq fun K259 hK259 => (W.block (W.seq fun K260 hK260 => (W.region (wl_move rfl rfl ?_))))) a ha
           obtain ⟨u261, hu261, hF⟩ := bindE hF
           refine wl_indexoF (e := ty_48) (i := 4) Tryz.underlying29 rfl rfl rfl hS251 rfl hu261 ?_
           rintro p262 _ ⟨_, _, rfl, rfl, ⟨_, _, rfl, rfl, ⟨v264, rfl, hv265⟩⟩⟩ hp263 ho266
           refine wl_load_p (vs := [(.int .i64 u261.1), (.int .i64 u261.2.1.1), (.int .i64 u261.2.1.2), v264]) (v := (.agg #[(.int .i64 u261.1), (.int .i64 u261.2.1.1), (.int .i64 u261.2.1.2), v264])) tf_48 rfl rfl hp263 rfl rfl (wl_alloc (cs := [(.int .i64 0), (.int .i64 0), (.int .i64 0), (.slice none 0 0)]) tf_48 rfl rfl hB250 hS251 ?_)
           intro b267 w268 hb269 hB270 hS271
           have hp263 := hp263.keepS (fun b hb => hb269.block b (((hS251.get (i := 4) rfl).2.1 b hb).2)) (fun _ h => h)
           have hv265 := hv265.keep (fun b hb => hb269.block b (((hS251.get (i := 4) rfl).2.1 b hb).2))
           refine wl_assign rfl rfl (wl_store_blk (i := 0) (vs := [(.int .i64 u261.1), (.int .i64 u261.2.1.1), (.int .i64 u261.2.1.2), v264]) (cs' := [(.int .i64 u261.1), (.int .i64 u261.2.1.1), (.int .i64 u261.2.1.2), v264]) tf_48 rfl rfl rfl rfl hB270 hS271 rfl rfl ⟨rfl, rfl, rfl, (hv265.mono (fun b hb => ((hS271.get (i := 5) rfl).2.1 b hb).2)).one, trivial⟩ rfl ?_)
           intro w272 hk275 hB273 hS274
           have hp263 := hp263.keepS (fun b hb => hk275.2.1 b (((hS271.get (i := 5) rfl).2.1 b hb).2) (hS271.disj (i := 5) (j := 0) rfl rfl rfl b hb)) (fun _ h => h)
           have hv265 := hv265.keep (fun b hb => hk275.2.1 b (((hS271.get (i := 5) rfl).2.1 b hb).2) (hS271.disj (i := 5) (j := 0) rfl rfl rfl b hb))
           refine WL.nil fun a ha => hK260 _ _ (W.seq fun K276 hK276 => (W.region (wl_assign rfl rfl (WL.nil (fun a ha => hK276 _ _ (W.seq fun K277 hK277 => (W.seq fun K278 hK278 => (W.region (wl_field (o := 1) (off' := 1) ff_27_1 rfl rfl rfl (wl_load_blk (i := 3) (vs := [v16]) (v := v16) tf_25 rfl rfl hS274 rfl rfl rfl (wl_lenr (e := ty_3) (l := u13.2.1) Tryz.underlying25 rfl rfl (hS274.own_ro (i := 2) rfl) (wl_move rfl rfl ?_))))))) a ha))))) a ha
           refine WL.nil fun a ha => hK278 _ _ (W.block (W.loopk (fun m a w279 => ∃ (y283 : Int) (y284 : Int), St 329 [(5, (.pointer (some ⟨b23, 0, none⟩))), (8, v43), (27, (.int .i64 y252)), (28, (.pointer (some ⟨b267, 0, none⟩))), (29, (.int .i64 y283)), (196, v34), (197, (.int .i64 (List.length u33.1 : Int))), (198, (.int .i64 y252)), (204, v16), (205, (.int .i64 (List.length u13.2.1 : Int))), (206, (.int .i64 y284))] a ∧ Below w0.heap.size w0 w279 ∧ Sep w0.heap.size w279 [R.own ty_51 F15 v14 u13.1, R.own ty_3 F17 v16 u13.2.1, R.blk b23 27 [v14, v16, (.int .i64 u13.2.2.1), (.int .i64 u13.2.2.2)], R.own ty_48 F44 v43 u42.1, R.own ty_48 F35 v34 u33.1, R.blk b267 48 [(.int .i64 u261.1), (.int .i64 u261.2.1.1), (.int .i64 u261.2.1.2), v264]] ∧ (rdS ty_101 (· ∈ F35) w279 v264 u261.2.2) ∧ F_laws_FnTop_L6 u13 u261 y252 nx253 u42 m y283 y284 = some r) FU ?_ ?_)) a ha
           ·
            exact fun a ha => ⟨0, 0, ha.sub ⟨rfl, rfl, rfl, rfl, rfl, rfl, rfl, rfl, rfl, rfl, rfl, trivial⟩, hB273, (hS274.sel [1, 2, 3, 4, 5, 0] rfl), hv265, hF⟩
           ·
            rintro m287 a w279 ⟨y283, y284, ha, hB280, hS281, hr282, hF⟩ KL286 hKL286
            refine W.at ?_ ha
            cases m287 with
            | zero => exact noneE hF
            | succ m287 =>
             obtain ⟨nx285, hnx285⟩ : ∃ k, k = F_laws_FnTop_L6 u13 u261 y252 nx253 u42 m287 := ⟨_, rfl⟩
             rw [F_laws_FnTop_L6, ← hnx285] at hF
             refine W.seq fun K288 hK288 => W.region (wl_lss rfl rfl rfl (WL.nil (fun a ha => hK288 _ _ (W.seq fun K289 hK289 => (W.cond rfl (fun h290 => ?_) (fun h290 => ?_))) a ha)))
             ·replace hF := ifP h290 hF
              refine W.skip fun a ha => hK289 _ _ (W.seq fun K291 hK291 => (W.block (W.seq fun K292 hK292 => (W.region (wl_move rfl rfl ?_))))) a ha
              obtain ⟨u293, hu293, hF⟩ := bindE hF
              refine wl_indexoF (e := ty_3) (i := 1) Tryz.underlying25 rfl rfl rfl hS281 rfl hu293 ?_
              rintro p294 _ rfl hp295 ho296
              refine wl_load_p (vs := [(.int .i64 u293)]) (v := (.int .i64 u293)) tf_3 rfl rfl hp295 rfl rfl (wl_assign rfl rfl (wl_assign rfl rfl (WL.nil (fun a ha => hK292 _ _ (W.seq fun K297 hK297 => (W.region (wl_move rfl rfl (wl_move rfl rfl (wl_add rfl rfl rfl (wl_assign rfl rfl (WL.nil (fun a ha => hK297 _ _ (W.seq fun K298 hK298 => ?_) a ha)))))))) a ha))))
              refine W.region (wl_load_blk (i := 5) (vs := [(.int .i64 u261.1), (.int .i64 u261.2.1.1), (.int .i64 u261.2.1.2), v264]) (v := (.agg #[(.int .i64 u261.1), (.int .i64 u261.2.1.1), (.int .i64 u261.2.1.2), v264])) tf_48 rfl rfl hS281 rfl rfl rfl (wl_move rfl rfl ?_))
              obtain ⟨u299, hu299, hF⟩ := bindE hF
              refine wl_call rfl Tryz.call15 (C_impl_SpotAfter w279 u261 v264 (hr282.mono (fun b hb => ((hS281.get (i := 4) rfl).2.1 b hb).2)) (w64 (y283 + u293)) _ hu299) rfl ?_
              rintro _ w300 ⟨rfl, hb301⟩
              refine ⟨_, rfl, ?_⟩
              have hB302 := hB280.trans (hb301.mono hB280.size)
              have hS303 := hS281.below hb301
              have hp295 := hp295.keepS (fun b hb => hb301.block b (((hS281.get (i := 1) rfl).2.1 b hb).2)) (fun _ h => h)
              have hr282 := hr282.keep (fun b hb => hb301.block b (((hS281.get (i := 4) rfl).2.1 b hb).2))
              refine wl_move rfl rfl (wl_extract rfl rfl rfl (wl_extract rfl rfl rfl (wl_alloc (cs := [(.int .i64 0), (.int .i64 0)]) tf_38 rfl rfl hB302 hS303 ?_)))
              intro b305 w306 hb307 hB308 hS309
              have hp295 := hp295.keepS (fun b hb => hb307.block b (((hS303.get (i := 1) rfl).2.1 b hb).2)) (fun _ h => h)
              have hr282 := hr282.keep (fun b hb => hb307.block b (((hS303.get (i := 4) rfl).2.1 b hb).2))
              refine wl_store_blk (i := 0) (vs := [(.int .i64 u299.1.1), (.int .i64 u299.1.2)]) (cs' := [(.int .i64 u299.1.1), (.int .i64 u299.1.2)]) tf_38 rfl rfl rfl rfl hB308 hS309 rfl rfl ⟨rfl, rfl, trivial⟩ rfl ?_
              intro w310 hk313 hB311 hS312
              have hp295 := hp295.keepS (fun b hb => hk313.2.1 b (((hS309.get (i := 2) rfl).2.1 b hb).2) (hS309.disj (i := 2) (j := 0) rfl rfl rfl b hb)) (fun _ h => h)
              have hr282 := hr282.keep (fun b hb => hk313.2.1 b (((hS309.get (i := 5) rfl).2.1 b hb).2) (hS309.disj (i := 5) (j := 0) rfl rfl rfl b hb))
              refine wl_assign rfl rfl (WL.nil (fun a ha => hK298 _ _ (W.seq fun K314 hK314 => ?_) a ha))
              obtain ⟨k320, hk320, hF⟩ := jE1 hF
              have hJ321 : ∀ (y319 : Bool) (w315 : World) (hr318 : rdS ty_101 (· ∈ F35) w315 v264 u261.2.2) (_ : k320 y319 = some r) (_ : Below w0.heap.size w0 w315) (_ : Sep w0.heap.size w315 [R.own ty_51 F15 v14 u13.1, R.own ty_3 F17 v16 u13.2.1, R.blk b23 27 [v14, v16, (.int .i64 u13.2.2.1), (.int .i64 u13.2.2.2)], R.own ty_48 F44 v43 u42.1, R.own ty_48 F35 v34 u33.1, R.blk b267 48 [(.int .i64 u261.1), (.int .i64 u261.2.1.1), (.int .i64 u261.2.1.2), v264]]), ∀ a, St 329 [(5, (.pointer (some ⟨b23, 0, none⟩))), (8, v43), (27, (.int .i64 y252)), (28, (.pointer (some ⟨b267, 0, none⟩))), (29, (.int .i64 (w64 (y283 + u293)))), (196, v34), (197, (.int .i64 (List.length u33.1 : Int))), (198, (.int .i64 y252)), (204, v16), (205, (.int .i64 (List.length u13.2.1 : Int))), (206, (.int .i64 y284)), (234, (.bool y319))] a → K314 a w315 := by
               intro y319 w315 hr318 hF hB316 hS317
               subst hk320
               refine fun a ha => hK314 _ _ (W.cond rfl (fun h322 => ?_) (fun h322 => ?_)) a ha
               ·replace hF := ifP h322 hF
                refine W.seq fun K323 hK323 => W.region (wl_assign rfl rfl (WL.nil (fun a ha => hK323 _ _ (W.ret ?_) a ha)))
                have hr := Option.some.inj hF
                subst hr
                exact rets (vs := [(.bool false)]) hQ rfl ⟨rv_tmp rfl, trivial⟩ ⟨rfl, hB316⟩
               ·replace hF := ifN h322 hF
                refine W.skip fun a ha => hK291 _ _ (W.region (wl_add rfl rfl rfl (wl_move rfl rfl (WL.nil ?_)))) a ha
                rw [hnx285] at hF
                exact fun a ha => hKL286 a _ m287 (Nat.lt_succ_self m287) ⟨(w64 (y283 + u293)), (w64 (y284 + 1)), ha.sub ⟨rfl, rfl, rfl, rfl, rfl, rfl, rfl, rfl, rfl, rfl, rfl, trivial⟩, hB316, (hS317.sel [0, 1, 2, 3, 4, 5] rfl), hr318, hF⟩
              refine W.regionH mixed_ [] hB311 hS312 ?_
              intro w324 hb325 hB326 hS327
              have hp295 := hp295.keepS (fun b hb => hb325.block b (((hS312.get (i := 2) rfl).2.1 b hb).2)) (fun _ h => h)
              have hr282 := hr282.keep (fun b hb => hb325.block b (((hS312.get (i := 5) rfl).2.1 b hb).2))
              have hSW328 := KeepX.refl w324 []
              refine WH.tk 0 rfl hP hSW328 (pr_move rfl rfl (WH.tk 1 rfl hP hSW328 (pr_not rfl rfl (WH.tk 2 rfl hP hSW328 (pr_move rfl rfl ?_)))))
              rcases bE (!u299.2) with h329 | h329
              ·replace hF := ifP h329 hF
               refine WH.off (i := 3) rfl (by kernel_rfl) (by kernel_rfl) (by kernel_rfl) hP rfl rfl h329 rfl hSW328 (WH.off (i := 4) rfl (by kernel_rfl) (by kernel_rfl) (by kernel_rfl) hP rfl rfl h329 rfl hSW328 (WH.off (i := 5) rfl (by kernel_rfl) (by kernel_rfl) (by kernel_rfl) hP rfl rfl h329 rfl hSW328 (WH.off (i := 6) rfl (by kernel_rfl) (by kernel_rfl) (by kernel_rfl) hP rfl rfl h329 rfl hSW328 (WH.off (i := 7) rfl (by kernel_rfl) (by kernel_rfl) (by kernel_rfl) hP rfl rfl h329 rfl hSW328 (WH.off (i := 8) rfl (by kernel_rfl) (by kernel_rfl) (by kernel_rfl) hP rfl rfl h329 rfl hSW328 (WH.off (i := 9) rfl (by kernel_rfl) (by kernel_rfl) (by kernel_rfl) hP rfl rfl h329 rfl hSW328 (WH.off (i := 10) rfl (by kernel_rfl) (by kernel_rfl) (by kernel_rfl) hP rfl rfl h329 rfl hSW328 (WH.off (i := 11) rfl (by kernel_rfl) (by kernel_rfl) (by kernel_rfl) hP rfl rfl h329 rfl hSW328 ?_))))))))
               refine WH.off (i := 12) rfl (by kernel_rfl) (by kernel_rfl) (by kernel_rfl) hP rfl rfl h329 rfl hSW328 (WH.off (i := 13) rfl (by kernel_rfl) (by kernel_rfl) (by kernel_rfl) hP rfl rfl h329 rfl hSW328 (WH.tk 14 rfl hP hSW328 (pr_pick_t rfl rfl h329 rfl (WH.done (by kernel_rfl) ?_))))
               exact fun a ha => hJ321 (true) _ hr282 hF hB326 (hS327.sel [1, 2, 3, 4, 5, 6] rfl) a (ha.sub ⟨rfl, rfl, rfl, rfl, rfl, rfl, rfl, rfl, rfl, rfl, rfl, rfl, trivial⟩)
              ·replace hF := ifN h329 hF
               refine WH.takexg (i := 3) rfl (by kernel_rfl) (by kernel_rfl) (by kernel_rfl) hP rfl rfl h329 hSW328 (pr_load_blk (i := 0) (vs := [(.int .i64 u299.1.1), (.int .i64 u299.1.2)]) (v := (.agg #[(.int .i64 u299.1.1), (.int .i64 u299.1.2)])) tf_38 rfl rfl hS327 rfl rfl rfl (by simp) (WH.takexg (i := 4) rfl (by kernel_rfl) (by kernel_rfl) (by kernel_rfl) hP rfl rfl h329 hSW328 (pr_field (o := 0) (off' := 0) ff_27_0 rfl rfl rfl (WH.takexg (i := 5) rfl (by kernel_rfl) (by kernel_rfl) (by kernel_rfl) hP rfl rfl h329 hSW328 (pr_load_blk (i := 3) (vs := [v14]) (v := v14) tf_24 rfl rfl hS327 rfl rfl rfl (by simp) (WH.takexg (i := 6) rfl (by kernel_rfl) (by kernel_rfl) (by kernel_rfl) hP rfl rfl h329 hSW328 (pr_move rfl rfl (WH.takexg (i := 7) rfl (by kernel_rfl) (by kernel_rfl) (by kernel_rfl) hP rfl rfl h329 hSW328 (pr_add rfl rfl rfl ?_)))))))))
               obtain ⟨u330, hu330, hF⟩ := bindE hF
               refine WH.takexg (i := 8) rfl (by kernel_rfl) (by kernel_rfl) (by kernel_rfl) hP rfl rfl h329 hSW328 (pr_indexoF (e := ty_51) (i := 1) Tryz.underlying24 rfl rfl rfl hS327 rfl hu330 ?_)
               rintro p331 _ ⟨v333, rfl, hv334⟩ hp332 ho335
               refine WH.takexg (i := 9) rfl (by kernel_rfl) (by kernel_rfl) (by kernel_rfl) hP rfl rfl h329 hSW328 (pr_load_p (vs := [v333]) (v := v333) tf_51 rfl rfl (fun w hw => hp332.keepS (fun b h0 => (hw.blk b (((hS327.get (i := 1) rfl).2.1 b h0).2) (by simp))) (fun _ h => h)) rfl rfl (WH.takexg (i := 10) rfl (by kernel_rfl) (by kernel_rfl) (by kernel_rfl) hP rfl rfl h329 hSW328 (pr_move rfl rfl ?_)))
               obtain ⟨u336, hu336, hF⟩ := bindE hF
               refine WH.takexg (i := 11) rfl (by kernel_rfl) (by kernel_rfl) (by kernel_rfl) hP rfl rfl h329 hSW328 (pr_index (e := ty_38) Tryz.underlying51 rfl rfl rfl (hv334.mono (fun b hb => ((hS327.get (i := 1) rfl).2.1 b hb).2)) hu336 ?_)
               rintro p337 _ rfl hp338
               refine WH.takexg (i := 12) rfl (by kernel_rfl) (by kernel_rfl) (by kernel_rfl) hP rfl rfl h329 hSW328 (pr_load_p (vs := [(.int .i64 u336.1), (.int .i64 u336.2)]) (v := (.agg #[(.int .i64 u336.1), (.int .i64 u336.2)])) tf_38 rfl rfl (hp338.kx0) rfl rfl (WH.takexg (i := 13) rfl (by kernel_rfl) (by kernel_rfl) (by kernel_rfl) hP rfl rfl h329 hSW328 (pr_nes Tryz.eqGuardType38 (eq_38 u299.1 u336) rfl rfl rfl (WH.tk 14 rfl hP hSW328 (pr_pick_f rfl rfl h329 rfl (WH.done (by kernel_rfl) ?_))))))
               exact fun a ha => hJ321 ((!(eqv_Spot u299.1 u336))) _ hr282 hF hB326 (hS327.sel [1, 2, 3, 4, 5, 6] rfl) a (ha.sub ⟨rfl, rfl, rfl, rfl, rfl, rfl, rfl, rfl, rfl, rfl, rfl, rfl, trivial⟩)
             ·replace hF := ifN h290 hF
              refine W.exit fun a ha => hK277 _ _ (W.seq fun K339 hK339 => (W.region (wl_load_blk (i := 5) (vs := [(.int .i64 u261.1), (.int .i64 u261.2.1.1), (.int .i64 u261.2.1.2), v264]) (v := (.agg #[(.int .i64 u261.1), (.int .i64 u261.2.1.1), (.int .i64 u261.2.1.2), v264])) tf_48 rfl rfl hS281 rfl rfl rfl ?_))) a ha
              obtain ⟨u340, hu340, hF⟩ := bindE hF
              refine wl_call rfl Tryz.call16 (C_impl_SheetText w279 (hT.st hB280) u261 v264 (hr282.mono (fun b hb => ((hS281.get (i := 4) rfl).2.1 b hb).2)) _ hu340) rfl ?_
              rintro _ w341 ⟨rfl, hb342⟩
              refine ⟨_, rfl, ?_⟩
              have hB343 := hB280.trans (hb342.mono hB280.size)
              have hS344 := hS281.below hb342
              have hr282 := hr282.keep (fun b hb => hb342.block b (((hS281.get (i := 4) rfl).2.1 b hb).2))
              refine wl_move rfl rfl (wl_extract rfl rfl rfl (wl_extract rfl rfl rfl (wl_assign rfl rfl (wl_assign rfl rfl (WL.nil (fun a ha => hK339 _ _ (W.seq fun K346 hK346 => (W.region (wl_move rfl rfl ?_))) a ha))))))
              obtain ⟨u347, hu347, hF⟩ := bindE hF
              refine wl_call rfl Tryz.call17 (C_impl_ParseSheet w341 u340.1 _ hu347) rfl ?_
              rintro _ w350 ⟨v348, F349, rfl, hb351, hM354⟩
              refine ⟨_, rfl, ?_⟩
              have hB352 := hB343.trans (hb351.mono hB343.size)
              have hS353 := hS344.join hb351 hM354 hB343.size
              have hr282 := hr282.keep (fun b hb => hb351.block b (((hS344.get (i := 4) rfl).2.1 b hb).2))
              refine wl_move rfl rfl (wl_extract rfl rfl rfl (wl_extract rfl rfl rfl (wl_alloc (cs := [(.int .i64 0), (.int .i64 0), (.int .i64 0), (.slice none 0 0)]) tf_48 rfl rfl hB352 hS353 ?_)))
              intro b355 w356 hb357 hB358 hS359
              have hr282 := hr282.keep (fun b hb => hb357.block b (((hS353.get (i := 5) rfl).2.1 b hb).2))
              refine wl_store_blk (i := 0) (vs := [(.int .i64 u347.1.1), (.int .i64 u347.1.2.1.1), (.int .i64 u347.1.2.1.2), v348]) (cs' := [(.int .i64 u347.1.1), (.int .i64 u347.1.2.1.1), (.int .i64 u347.1.2.1.2), v348]) tf_48 rfl rfl rfl rfl hB358 hS359 rfl rfl ⟨rfl, rfl, rfl, (hS359.own_ro (i := 1) rfl).one, trivial⟩ rfl ?_
              intro w360 hk363 hB361 hS362
              have hr282 := hr282.keep (fun b hb => hk363.2.1 b (((hS359.get (i := 6) rfl).2.1 b hb).2) (hS359.disj (i := 6) (j := 0) rfl rfl rfl b hb))
              refine wl_assign rfl rfl (WL.nil (fun a ha => hK346 _ _ (W.seq fun K364 hK364 => ?_) a ha))
              obtain ⟨k369, hk369, hF⟩ := jE1 hF
              have hJ370 : ∀ (y368 : Bool) (w365 : World) (_ : k369 y368 = some r) (_ : Below w0.heap.size w0 w365) (_ : Sep w0.heap.size w365 [R.own ty_51 F15 v14 u13.1, R.own ty_3 F17 v16 u13.2.1, R.blk b23 27 [v14, v16, (.int .i64 u13.2.2.1), (.int .i64 u13.2.2.2)], R.own ty_48 F44 v43 u42.1, R.own ty_48 F35 v34 u33.1]), ∀ a, St 329 [(5, (.pointer (some ⟨b23, 0, none⟩))), (8, v43), (196, v34), (197, (.int .i64 (List.length u33.1 : Int))), (198, (.int .i64 y252)), (260, (.bool y368))] a → K364 a w365 := by
               intro y368 w365 hF hB366 hS367
               subst hk369
               refine fun a ha => hK364 _ _ (W.cond rfl (fun h371 => ?_) (fun h371 => ?_)) a ha
               ·replace hF := ifP h371 hF
                refine W.seq fun K372 hK372 => W.region (wl_assign rfl rfl (WL.nil (fun a ha => hK372 _ _ (W.ret ?_) a ha)))
                have hr := Option.some.inj hF
                subst hr
                exact rets (vs := [(.bool false)]) hQ rfl ⟨rv_tmp rfl, trivial⟩ ⟨rfl, hB366⟩
               ·replace hF := ifN h371 hF
                refine W.skip fun a ha => hK259 _ _ (W.region (wl_add rfl rfl rfl (wl_move rfl rfl (WL.nil ?_)))) a ha
                rw [hnx253] at hF
                exact fun a ha => hKL254 a _ m255 (Nat.lt_succ_self m255) ⟨(w64 (y252 + 1)), ha.sub ⟨rfl, rfl, rfl, rfl, rfl, trivial⟩, hB366, (hS367.sel [0, 1, 2, 3, 4] rfl), hF⟩
              refine W.regionH mixed_ [] hB361 hS362 ?_
              intro w373 hb374 hB375 hS376
              have hr282 := hr282.keep (fun b hb => hb374.block b (((hS362.get (i := 6) rfl).2.1 b hb).2))
              have hSW377 := KeepX.refl w373 []
              refine WH.tk 0 rfl hP hSW377 (pr_move rfl rfl (WH.tk 1 rfl hP hSW377 (pr_not rfl rfl (WH.tk 2 rfl hP hSW377 (pr_move rfl rfl ?_)))))
              rcases bE (!u340.2) with h378 | h378
              ·replace hF := ifP h378 hF
               refine WH.off (i := 3) rfl (by kernel_rfl) (by kernel_rfl) (by kernel_rfl) hP rfl rfl h378 rfl hSW377 (WH.off (i := 4) rfl (by kernel_rfl) (by kernel_rfl) (by kernel_rfl) hP rfl rfl h378 rfl hSW377 (WH.tk 5 rfl hP hSW377 (pr_pick_t rfl rfl h378 rfl (WH.tk 6 rfl hP hSW377 (pr_move rfl rfl (WH.off (i := 7) rfl (by kernel_rfl) (by kernel_rfl) (by kernel_rfl) hP rfl rfl rfl rfl hSW377 (WH.off (i := 8) rfl (by kernel_rfl) (by kernel_rfl) (by kernel_rfl) hP rfl rfl rfl rfl hSW377 (WH.off (i := 9) rfl (by kernel_rfl) (by kernel_rfl) (by kernel_rfl) hP rfl rfl rfl rfl hSW377 (WH.off (i := 10) rfl (by kernel_rfl) (by kernel_rfl) (by kernel_rfl) hP rfl rfl rfl rfl hSW377 (WH.off (i := 11) rfl (by kernel_rfl) (by kernel_rfl) (by kernel_rfl) hP rfl rfl rfl rfl hSW377 (WH.off (i := 12) rfl (by kernel_rfl) (by kernel_rfl) (by kernel_rfl) hP rfl rfl rfl rfl hSW377 ?_)))))))))))
               refine WH.off (i := 13) rfl (by kernel_rfl) (by kernel_rfl) (by kernel_rfl) hP rfl rfl rfl rfl hSW377 (WH.tk 14 rfl hP hSW377 (pr_pick_t rfl rfl rfl rfl (WH.done (by kernel_rfl) ?_)))
               exact fun a ha => hJ370 (true) _ hF hB375 (hS376.sel [2, 3, 4, 5, 6] rfl) a (ha.sub ⟨rfl, rfl, rfl, rfl, rfl, rfl, trivial⟩)
              ·replace hF := ifN h378 hF
               refine WH.takexg (i := 3) rfl (by kernel_rfl) (by kernel_rfl) (by kernel_rfl) hP rfl rfl h378 hSW377 (pr_move rfl rfl (WH.takexg (i := 4) rfl (by kernel_rfl) (by kernel_rfl) (by kernel_rfl) hP rfl rfl h378 hSW377 (pr_not rfl rfl (WH.tk 5 rfl hP hSW377 (pr_pick_f rfl rfl h378 rfl (WH.tk 6 rfl hP hSW377 (pr_move rfl rfl ?_)))))))
               rcases bE (!u347.2) with h379 | h379
               ·replace hF := ifP h379 hF
                refine WH.off (i := 7) rfl (by kernel_rfl) (by kernel_rfl) (by kernel_rfl) hP rfl rfl h379 rfl hSW377 (WH.off (i := 8) rfl (by kernel_rfl) (by kernel_rfl) (by kernel_rfl) hP rfl rfl h379 rfl hSW377 (WH.off (i := 9) rfl (by kernel_rfl) (by kernel_rfl) (by kernel_rfl) hP rfl rfl h379 rfl hSW377 (WH.off (i := 10) rfl (by kernel_rfl) (by kernel_rfl) (by kernel_rfl) hP rfl rfl h379 rfl hSW377 (WH.off (i := 11) rfl (by kernel_rfl) (by kernel_rfl) (by kernel_rfl) hP rfl rfl h379 rfl hSW377 (WH.off (i := 12) rfl (by kernel_rfl) (by kernel_rfl) (by kernel_rfl) hP rfl rfl h379 rfl hSW377 (WH.off (i := 13) rfl (by kernel_rfl) (by kernel_rfl) (by kernel_rfl) hP rfl rfl h379 rfl hSW377 (WH.tk 14 rfl hP hSW377 (pr_pick_t rfl rfl h379 rfl (WH.done (by kernel_rfl) ?_)))))))))
                exact fun a ha => hJ370 (true) _ hF hB375 (hS376.sel [2, 3, 4, 5, 6] rfl) a (ha.sub ⟨rfl, rfl, rfl, rfl, rfl, rfl, trivial⟩)
               ·replace hF := ifN h379 hF
                refine WH.takexg (i := 7) rfl (by kernel_rfl) (by kernel_rfl) (by kernel_rfl) hP rfl rfl h379 hSW377 (pr_load_blk (i := 0) (vs := [(.int .i64 u347.1.1), (.int .i64 u347.1.2.1.1), (.int .i64 u347.1.2.1.2), v348]) (v := (.agg #[(.int .i64 u347.1.1), (.int .i64 u347.1.2.1.1), (.int .i64 u347.1.2.1.2), v348])) tf_48 rfl rfl hS376 rfl rfl rfl (by simp) (WH.takexg (i := 8) rfl (by kernel_rfl) (by kernel_rfl) (by kernel_rfl) hP rfl rfl h379 hSW377 (pr_move rfl rfl (WH.takexg (i := 9) rfl (by kernel_rfl) (by kernel_rfl) (by kernel_rfl) hP rfl rfl h379 hSW377 (pr_move rfl rfl ?_)))))
                obtain ⟨u380, hu380, hF⟩ := bindE hF
                refine WH.takexg (i := 10) rfl (by kernel_rfl) (by kernel_rfl) (by kernel_rfl) hP rfl rfl h379 hSW377 (pr_indexoF (e := ty_48) (i := 5) Tryz.underlying29 rfl rfl rfl hS376 rfl hu380 ?_)
                rintro p381 _ ⟨_, _, rfl, rfl, ⟨_, _, rfl, rfl, ⟨v383, rfl, hv384⟩⟩⟩ hp382 ho385
                refine WH.takexg (i := 11) rfl (by kernel_rfl) (by kernel_rfl) (by kernel_rfl) hP rfl rfl h379 hSW377 (pr_load_p (vs := [(.int .i64 u380.1), (.int .i64 u380.2.1.1), (.int .i64 u380.2.1.2), v383]) (v := (.agg #[(.int .i64 u380.1), (.int .i64 u380.2.1.1), (.int .i64 u380.2.1.2), v383])) tf_48 rfl rfl (fun w hw => hp382.keepS (fun b h0 => (hw.blk b (((hS376.get (i := 5) rfl).2.1 b h0).2) (by simp))) (fun _ h => h)) rfl rfl (WH.on1 12 rfl (wl_on rfl rfl h379 ?_)))
                obtain ⟨u386, hu386, hF⟩ := bindE hF
                refine wl_call rfl Tryz.call18 (C_laws_pSameSheet w373 u347.1 v348 (hS376.own_ro (i := 1) rfl) u380 v383 (hv384.mono (fun b hb => ((hS376.get (i := 5) rfl).2.1 b hb).2)) _ hu386) rfl ?_
                rintro _ w387 ⟨rfl, hb388⟩
                refine ⟨_, rfl, ?_⟩
                have hB389 := hB375.trans (hb388.mono hB375.size)
                have hS390 := hS376.below hb388
                have hpv392 := hr282.keep (fun b hb => hb388.block b (((hS376.get (i := 6) rfl).2.1 b hb).2))
                have hpv393 := hp382.keepS (fun b hb => hb388.block b (((hS376.get (i := 5) rfl).2.1 b hb).2)) (fun _ h => h)
                have hpv394 := hv384.keep (fun b hb => hb388.block b (((hS376.get (i := 5) rfl).2.1 b hb).2))
                have hSW395 := hSW377.ext hb388
                refine WL.nil (WH.ret hSW395 (WH.takexg (i := 13) rfl (by kernel_rfl) (by kernel_rfl) (by kernel_rfl) hP rfl rfl h379 hSW395 (pr_not rfl rfl (WH.tk 14 rfl hP hSW395 (pr_pick_f rfl rfl h379 rfl (WH.done (by kernel_rfl) ?_))))))
                have hr282 := hpv392
                have hp382 := hpv393
                have hv384 := hpv394
                exact fun a ha => hJ370 ((!u386)) _ hF hB389 (hS390.sel [2, 3, 4, 5, 6] rfl) a (ha.sub ⟨rfl, rfl, rfl, rfl, rfl, rfl, trivial⟩)
          ·replace hF := ifN h258 hF
           refine W.exit fun a ha => hK247 _ _ (W.seq fun K396 hK396 => (W.region (wl_load_blk (i := 2) (vs := [v14, v16, (.int .i64 u13.2.2.1), (.int .i64 u13.2.2.2)]) (v := (.agg #[v14, v16, (.int .i64 u13.2.2.1), (.int .i64 u13.2.2.2)])) tf_27 rfl rfl hS251 rfl rfl rfl ?_))) a ha
           obtain ⟨u397, hu397, hF⟩ := bindE hF
           refine wl_call rfl Tryz.call19 (C_impl_NewMarch w249 u13 v14 (hS251.own_ro (i := 0) rfl) v16 (hS251.own_ro (i := 1) rfl) _ hu397) rfl ?_
           rintro _ w406 ⟨v398, F399, v400, F401, v402, F403, v404, F405, rfl, hb407, hM410⟩
           refine ⟨_, rfl, ?_⟩
           have hB408 := hB250.trans (hb407.mono hB250.size)
           have hS409 := hS251.join hb407 hM410 hB250.size
           refine wl_move rfl rfl (wl_extract rfl rfl rfl (wl_extract rfl rfl rfl (wl_alloc (cs := [(.slice none 0 0), (.slice none 0 0), (.int .i64 0), (.int .i64 0), (.int .i64 0), (.slice none 0 0), (.slice none 0 0)]) tf_58 rfl rfl hB408 hS409 ?_)))
           intro b411 w412 hb413 hB414 hS415
           refine wl_store_blk (i := 0) (vs := [v398, v400, (.int .i64 u397.1.1.2.2.1), (.int .i64 u397.1.1.2.2.2), (.int .i64 u397.1.2.1), v402, v404]) (cs' := [v398, v400, (.int .i64 u397.1.1.2.2.1), (.int .i64 u397.1.1.2.2.2), (.int .i64 u397.1.2.1), v402, v404]) tf_58 rfl rfl rfl rfl hB414 hS415 rfl rfl ⟨(hS415.own_ro (i := 1) rfl).one, (hS415.own_ro (i := 2) rfl).one, rfl, rfl, rfl, (hS415.own_ro (i := 3) rfl).one, (hS415.own_ro (i := 4) rfl).one, trivial⟩ rfl ?_
           intro w416 hk419 hB417 hS418
           refine wl_assign rfl rfl (WL.nil (fun a ha => hK396 _ _ (W.seq fun K420 hK420 => (W.region (wl_load_blk (i := 7) (vs := [v14, v16, (.int .i64 u13.2.2.1), (.int .i64 u13.2.2.2)]) (v := (.agg #[v14, v16, (.int .i64 u13.2.2.1), (.int .i64 u13.2.2.2)])) tf_27 rfl rfl hS418 rfl rfl rfl ?_))) a ha))
           obtain ⟨u421, hu421, hF⟩ := bindE hF
           refine wl_call rfl Tryz.call20 (C_impl_TotalCounts w416 u13 v14 (hS418.own_ro (i := 5) rfl) v16 (hS418.own_ro (i := 6) rfl) _ hu421) rfl ?_
           rintro _ w422 ⟨rfl, hb423⟩
           refine ⟨_, rfl, ?_⟩
           have hB424 := hB417.trans (hb423.mono hB417.size)
           have hS425 := hS418.below hb423
           refine wl_move rfl rfl (wl_extract rfl rfl rfl (wl_extract rfl rfl rfl (wl_assign rfl rfl (wl_assign rfl rfl (WL.nil (fun a ha => hK420 _ _ (W.seq fun K427 hK427 => (W.seq fun K428 hK428 => ?_)) a ha))))))
           obtain ⟨k433, hk433, hF⟩ := jE1 hF
           have hJ434 : ∀ (y432 : Bool) (w429 : World) (_ : k433 y432 = some r) (_ : Below w0.heap.size w0 w429) (_ : Sep w0.heap.size w429 [R.own ty_51 F15 v14 u13.1, R.own ty_3 F17 v16 u13.2.1, R.blk b23 27 [v14, v16, (.int .i64 u13.2.2.1), (.int .i64 u13.2.2.2)], R.own ty_51 F399 v398 u397.1.1.1, R.own ty_3 F401 v400 u397.1.1.2.1, R.own ty_3 F403 v402 u397.1.2.2.1, R.own ty_3 F405 v404 u397.1.2.2.2, R.blk b411 58 [v398, v400, (.int .i64 u397.1.1.2.2.1), (.int .i64 u397.1.1.2.2.2), (.int .i64 u397.1.2.1), v402, v404]]), ∀ a, St 329 [(5, (.pointer (some ⟨b23, 0, none⟩))), (38, (.pointer (some ⟨b411, 0, none⟩))), (40, (.int .i64 u421.1)), (284, (.bool y432))] a → K428 a w429 := by
            intro y432 w429 hF hB430 hS431
            subst hk433
            refine fun a ha => hK428 _ _ (W.cond rfl (fun h435 => ?_) (fun h435 => ?_)) a ha
            ·replace hF := ifP h435 hF
             refine W.seq fun K436 hK436 => W.region (wl_assign rfl rfl (WL.nil (fun a ha => hK436 _ _ (W.ret ?_) a ha)))
             have hr := Option.some.inj hF
             subst hr
             exact rets (vs := [(.bool false)]) hQ rfl ⟨rv_tmp rfl, trivial⟩ ⟨rfl, hB430⟩
            ·replace hF := ifN h435 hF
             refine W.skip fun a ha => hK427 _ _ (W.seq fun K437 hK437 => (W.seq fun K438 hK438 => (W.region (wl_assign rfl rfl (WL.nil (fun a ha => hK438 _ _ (W.block ?_) a ha)))))) a ha
             refine W.loopk (fun m a w439 => ∃ (l442 : (List (List (Int × Int)))) (l445 : (List Int)) (y448 : Int) (y449 : Int) (y450 : Int) (l451 : (List Int)) (l454 : (List Int)) (y457 : Int) (v443 : Value) (F444 : List Nat) (v446 : Value) (F447 : List Nat) (v452 : Value) (F453 : List Nat) (v455 : Value) (F456 : List Nat), St 329 [(5, (.pointer (some ⟨b23, 0, none⟩))), (38, (.pointer (some ⟨b411, 0, none⟩))), (40, (.int .i64 u421.1)), (42, (.int .i64 y457))] a ∧ Below w0.heap.size w0 w439 ∧ Sep w0.heap.size w439 [R.own ty_51 F15 v14 u13.1, R.own ty_3 F17 v16 u13.2.1, R.blk b23 27 [v14, v16, (.int .i64 u13.2.2.1), (.int .i64 u13.2.2.2)], R.own ty_51 F444 v443 l442, R.own ty_3 F447 v446 l445, R.own ty_3 F453 v452 l451, R.own ty_3 F456 v455 l454, R.blk b411 58 [v443, v446, (.int .i64 y448), (.int .i64 y449), (.int .i64 y450), v452, v455]] ∧ F_laws_FnTop_L7 u421 u13 m l442 l445 y448 y449 y450 l451 l454 y457 = some r) FU ?_ ?_
             ·
              exact fun a ha => ⟨u397.1.1.1, u397.1.1.2.1, u397.1.1.2.2.1, u397.1.1.2.2.2, u397.1.2.1, u397.1.2.2.1, u397.1.2.2.2, 0, v398, F399, v400, F401, v402, F403, v404, F405, ha.sub ⟨rfl, rfl, rfl, rfl, trivial⟩, hB430, (hS431.sel [0, 1, 2, 3, 4, 5, 6, 7] rfl), hF⟩
             ·
              rintro m460 a w439 ⟨l442, l445, y448, y449, y450, l451, l454, y457, v443, F444, v446, F447, v452, F453, v455, F456, ha, hB440, hS441, hF⟩ KL459 hKL459
              refine W.at ?_ ha
              cases m460 with
              | zero => exact noneE hF
              | succ m460 =>
               obtain ⟨nx458, hnx458⟩ : ∃ k, k = F_laws_FnTop_L7 u421 u13 m460 := ⟨_, rfl⟩
               rw [F_laws_FnTop_L7, ← hnx458] at hF
               refine W.seq fun K461 hK461 => W.seq fun K462 hK462 => W.region (wl_move rfl rfl (wl_move rfl rfl (wl_lss rfl rfl rfl (WL.nil (fun a ha => hK462 _ _ (W.cond rfl (fun h463 => ?_) (fun h463 => ?_)) a ha)))))
               ·replace hF := ifP h463 hF
                refine W.skip fun a ha => hK461 _ _ (W.seq fun K464 hK464 => (W.block (W.seq fun K465 hK465 => (W.region (wl_load_blk (i := 7) (vs := [v443, v446, (.int .i64 y448), (.int .i64 y449), (.int .i64 y450), v452, v455]) (v := (.agg #[v443, v446, (.int .i64 y448), (.int .i64 y449), (.int .i64 y450), v452, v455])) tf_58 rfl rfl hS441 rfl rfl rfl ?_))))) a ha
                obtain ⟨u466, hu466, hF⟩ := bindE hF
                refine wl_call rfl Tryz.call22 (C_impl_BeatOnce w439 ((l442, l445, y448, y449), y450, l451, l454) v443 (hS441.own_ro (i := 3) rfl) v446 (hS441.own_ro (i := 4) rfl) v452 (hS441.own_ro (i := 5) rfl) v455 (hS441.own_ro (i := 6) rfl) _ hu466) rfl ?_
                rintro _ w475 ⟨v467, F468, v469, F470, v471, F472, v473, F474, rfl, hb476, hM479⟩
                refine ⟨_, rfl, ?_⟩
                have hB477 := hB440.trans (hb476.mono hB440.size)
                have hS478 := hS441.join hb476 hM479 hB440.size
                refine wl_move rfl rfl (wl_extract rfl rfl rfl (wl_extract rfl rfl rfl (wl_alloc (cs := [(.slice none 0 0), (.slice none 0 0), (.int .i64 0), (.int .i64 0), (.int .i64 0), (.slice none 0 0), (.slice none 0 0)]) tf_58 rfl rfl hB477 hS478 ?_)))
                intro b480 w481 hb482 hB483 hS484
                refine wl_store_blk (i := 0) (vs := [v467, v469, (.int .i64 u466.1.1.2.2.1), (.int .i64 u466.1.1.2.2.2), (.int .i64 u466.1.2.1), v471, v473]) (cs' := [v467, v469, (.int .i64 u466.1.1.2.2.1), (.int .i64 u466.1.1.2.2.2), (.int .i64 u466.1.2.1), v471, v473]) tf_58 rfl rfl rfl rfl hB483 hS484 rfl rfl ⟨(hS484.own_ro (i := 1) rfl).one, (hS484.own_ro (i := 2) rfl).one, rfl, rfl, rfl, (hS484.own_ro (i := 3) rfl).one, (hS484.own_ro (i := 4) rfl).one, trivial⟩ rfl ?_
                intro w485 hk488 hB486 hS487
                refine wl_assign rfl rfl (WL.nil (fun a ha => hK465 _ _ (W.seq fun K489 hK489 => (W.seq fun K490 hK490 => (W.region (wl_move rfl rfl (wl_not rfl rfl (WL.nil (fun a ha => hK490 _ _ (W.cond rfl (fun h491 => ?_) (fun h491 => ?_)) a ha))))))) a ha))
                ·replace hF := ifP h491 hF
                 refine W.seq fun K492 hK492 => W.region (wl_assign rfl rfl (WL.nil (fun a ha => hK492 _ _ (W.ret ?_) a ha)))
                 have hr := Option.some.inj hF
                 subst hr
                 exact rets (vs := [(.bool false)]) hQ rfl ⟨rv_tmp rfl, trivial⟩ ⟨rfl, hB486⟩
                ·replace hF := ifN h491 hF
                 refine W.skip fun a ha => hK489 _ _ (W.region (wl_load_blk (i := 0) (vs := [v467, v469, (.int .i64 u466.1.1.2.2.1), (.int .i64 u466.1.1.2.2.2), (.int .i64 u466.1.2.1), v471, v473]) (v := (.agg #[v467, v469, (.int .i64 u466.1.1.2.2.1), (.int .i64 u466.1.1.2.2.2), (.int .i64 u466.1.2.1), v471, v473])) tf_58 rfl rfl hS487 rfl rfl rfl (wl_store_blk (i := 12) (vs := [v467, v469, (.int .i64 u466.1.1.2.2.1), (.int .i64 u466.1.1.2.2.2), (.int .i64 u466.1.2.1), v471, v473]) (cs' := [v467, v469, (.int .i64 u466.1.1.2.2.1), (.int .i64 u466.1.1.2.2.2), (.int .i64 u466.1.2.1), v471, v473]) tf_58 rfl rfl rfl rfl hB486 hS487 rfl rfl ⟨(hS487.own_ro (i := 1) rfl).one, (hS487.own_ro (i := 2) rfl).one, rfl, rfl, rfl, (hS487.own_ro (i := 3) rfl).one, (hS487.own_ro (i := 4) rfl).one, trivial⟩ rfl ?_))) a ha
                 intro w493 hk496 hB494 hS495
                 refine WL.nil fun a ha => hK464 _ _ (W.region (wl_move rfl rfl (wl_add rfl rfl rfl (wl_assign rfl rfl (WL.nil ?_))))) a ha
                 rw [hnx458] at hF
                 exact fun a ha => hKL459 a _ m460 (Nat.lt_succ_self m460) ⟨u466.1.1.1, u466.1.1.2.1, u466.1.1.2.2.1, u466.1.1.2.2.2, u466.1.2.1, u466.1.2.2.1, u466.1.2.2.2, (w64 (y457 + 1)), v467, F468, v469, F470, v471, F472, v473, F474, ha.sub ⟨rfl, rfl, rfl, rfl, trivial⟩, hB494, (hS495.sel [5, 6, 7, 1, 2, 3, 4, 12] rfl), hF⟩
               ·replace hF := ifN h463 hF
                refine W.exit fun a ha => hK437 _ _ (W.seq fun K497 hK497 => (W.region (wl_load_blk (i := 7) (vs := [v443, v446, (.int .i64 y448), (.int .i64 y449), (.int .i64 y450), v452, v455]) (v := (.agg #[v443, v446, (.int .i64 y448), (.int .i64 y449), (.int .i64 y450), v452, v455])) tf_58 rfl rfl hS441 rfl rfl rfl ?_))) a ha
                obtain ⟨u498, hu498, hF⟩ := bindE hF
                refine wl_call rfl Tryz.call23 (C_impl_PlacesNow w439 ((l442, l445, y448, y449), y450, l451, l454) v443 (hS441.own_ro (i := 3) rfl) v446 (hS441.own_ro (i := 4) rfl) v452 (hS441.own_ro (i := 5) rfl) v455 (hS441.own_ro (i := 6) rfl) _ hu498) rfl ?_
                rintro _ w501 ⟨v499, F500, rfl, hb502, hM505⟩
                refine ⟨_, rfl, ?_⟩
                have hB503 := hB440.trans (hb502.mono hB440.size)
                have hS504 := hS441.join hb502 hM505 hB440.size
                refine wl_move rfl rfl (wl_extract rfl rfl rfl (wl_extract rfl rfl rfl (wl_assign rfl rfl (wl_assign rfl rfl (WL.nil (fun a ha => hK497 _ _ (W.seq fun K506 hK506 => (W.region (wl_load_blk (i := 8) (vs := [v443, v446, (.int .i64 y448), (.int .i64 y449), (.int .i64 y450), v452, v455]) (v := (.agg #[v443, v446, (.int .i64 y448), (.int .i64 y449), (.int .i64 y450), v452, v455])) tf_58 rfl rfl hS504 rfl rfl rfl ?_))) a ha))))))
                obtain ⟨u507, hu507, hF⟩ := bindE hF
                refine wl_call rfl Tryz.call24 (C_impl_StillGoing w501 ((l442, l445, y448, y449), y450, l451, l454) v443 (hS504.own_ro (i := 4) rfl) v446 (hS504.own_ro (i := 5) rfl) v452 (hS504.own_ro (i := 6) rfl) v455 (hS504.own_ro (i := 7) rfl) _ hu507) rfl ?_
                rintro _ w510 ⟨v508, F509, rfl, hb511, hM514⟩
                refine ⟨_, rfl, ?_⟩
                have hB512 := hB503.trans (hb511.mono hB503.size)
                have hS513 := hS504.join hb511 hM514 hB503.size
                refine wl_move rfl rfl (wl_extract rfl rfl rfl (wl_extract rfl rfl rfl (wl_assign rfl rfl (wl_assign rfl rfl (WL.nil (fun a ha => hK506 _ _ (W.seq fun K515 hK515 => ?_) a ha))))))
                obtain ⟨k520, hk520, hF⟩ := jE1 hF
                have hJ521 : ∀ (y519 : Bool) (w516 : World) (_ : k520 y519 = some r) (_ : Below w0.heap.size w0 w516) (_ : Sep w0.heap.size w516 []), ∀ a, St 329 [(4, (.bool y519))] a → K515 a w516 := by
                 intro y519 w516 hF hB517 hS518
                 subst hk520
                 refine fun a ha => hK515 _ _ (W.ret ?_) a ha
                 have hr := Option.some.inj hF
                 subst hr
                 exact rets (vs := [(.bool y519)]) hQ rfl ⟨rv_tmp rfl, trivial⟩ ⟨rfl, hB517⟩
                refine W.region (wl_move rfl rfl (wl_move rfl rfl ?_))
                rcases bE u498.2 with h522 | h522
                ·replace hF := ifP h522 hF
                 refine wl_on rfl rfl h522 (wl_move rfl rfl (wl_pick_t rfl rfl h522 rfl (wl_move rfl rfl ?_)))
                 rcases bE u507.2 with h523 | h523
                 ·replace hF := ifP h523 hF
                  refine wl_on rfl rfl h523 (wl_move rfl rfl (wl_on rfl rfl h523 (wl_lenr (e := ty_3) (l := u507.1) Tryz.underlying25 rfl rfl (hS513.own_ro (i := 0) rfl) (wl_on rfl rfl h523 (wl_eql rfl rfl rfl (wl_pick_t rfl rfl h523 rfl (wl_move rfl rfl ?_)))))))
                  rcases bE ((List.length u507.1 : Int) == 0) with h524 | h524
                  ·replace hF := ifP h524 hF
                   refine wl_on rfl rfl h524 (wl_move rfl rfl (wl_on rfl rfl h524 (wl_field (o := 0) (off' := 0) ff_27_0 rfl rfl rfl (wl_on rfl rfl h524 (wl_load_blk (i := 4) (vs := [v14]) (v := v14) tf_24 rfl rfl hS513 rfl rfl rfl (wl_on rfl rfl h524 (wl_field (o := 0) (off' := 0) ff_27_0 rfl rfl rfl (wl_on rfl rfl h524 (wl_load_blk (i := 4) (vs := [v14]) (v := v14) tf_24 rfl rfl hS513 rfl rfl rfl (wl_on rfl rfl h524 (wl_lenr (e := ty_51) (l := u13.1) Tryz.underlying24 rfl rfl (hS513.own_ro (i := 2) rfl) (wl_on rfl rfl h524 (wl_sub rfl rfl rfl ?_)))))))))))))
                   refine wl_on rfl rfl h524 ?_
                   obtain ⟨u525, hu525, hF⟩ := bindE hF
                   refine wl_indexoF (e := ty_51) (i := 2) Tryz.underlying24 rfl rfl rfl hS513 rfl hu525 ?_
                   rintro p526 _ ⟨v528, rfl, hv529⟩ hp527 ho530
                   refine wl_on rfl rfl h524 (wl_load_p (vs := [v528]) (v := v528) tf_51 rfl rfl hp527 rfl rfl (wl_on rfl rfl h524 ?_))
                   obtain ⟨u531, hu531, hF⟩ := bindE hF
                   refine wl_call rfl Tryz.call25 (C_laws_pSameSpots w510 u498.1 v499 (hS513.own_ro (i := 1) rfl) u525 v528 (hv529.mono (fun b hb => ((hS513.get (i := 2) rfl).2.1 b hb).2)) _ hu531) rfl ?_
                   rintro _ w532 ⟨rfl, hb533⟩
                   refine ⟨_, rfl, ?_⟩
                   have hB534 := hB512.trans (hb533.mono hB512.size)
                   have hS535 := hS513.below hb533
                   have hp527 := hp527.keepS (fun b hb => hb533.block b (((hS513.get (i := 2) rfl).2.1 b hb).2)) (fun _ h => h)
                   have hv529 := hv529.keep (fun b hb => hb533.block b (((hS513.get (i := 2) rfl).2.1 b hb).2))
                   refine wl_pick_t rfl rfl h524 rfl (wl_assign rfl rfl (WL.nil ?_))
                   exact fun a ha => hJ521 (u531) _ hF hB534 (hS535.sel [] rfl) a (ha.sub ⟨rfl, trivial⟩)
                  ·replace hF := ifN h524 hF
                   refine wl_off rfl rfl rfl h524 (wl_off rfl rfl rfl h524 (wl_off rfl rfl rfl h524 (wl_off rfl rfl rfl h524 (wl_off rfl rfl rfl h524 (wl_off rfl rfl rfl h524 (wl_off rfl rfl rfl h524 (wl_off rfl rfl rfl h524 (wl_off rfl rfl rfl h524 (wl_off rfl rfl rfl h524 (wl_pick_f rfl rfl h524 rfl (wl_assign rfl rfl (WL.nil ?_))))))))))))
                   exact fun a ha => hJ521 (false) _ hF hB512 (hS513.sel [] rfl) a (ha.sub ⟨rfl, trivial⟩)
                 ·replace hF := ifN h523 hF
                  refine wl_off rfl rfl rfl h523 (wl_off rfl rfl rfl h523 (wl_off rfl rfl rfl h523 (wl_pick_f rfl rfl h523 rfl (wl_move rfl rfl (wl_off rfl rfl rfl rfl (wl_off rfl rfl rfl rfl (wl_off rfl rfl rfl rfl (wl_off rfl rfl rfl rfl (wl_off rfl rfl rfl rfl (wl_off rfl rfl rfl rfl (wl_off rfl rfl rfl rfl (wl_off rfl rfl rfl rfl (wl_off rfl rfl rfl rfl ?_)))))))))))))
                  refine wl_off rfl rfl rfl rfl (wl_pick_f rfl rfl rfl rfl (wl_assign rfl rfl (WL.nil ?_)))
                  exact fun a ha => hJ521 (false) _ hF hB512 (hS513.sel [] rfl) a (ha.sub ⟨rfl, trivial⟩)
                ·replace hF := ifN h522 hF
                 refine wl_off rfl rfl rfl h522 (wl_pick_f rfl rfl h522 rfl (wl_move rfl rfl (wl_off rfl rfl rfl rfl (wl_off rfl rfl rfl rfl (wl_off rfl rfl rfl rfl (wl_pick_f rfl rfl rfl rfl (wl_move rfl rfl (wl_off rfl rfl rfl rfl (wl_off rfl rfl rfl rfl (wl_off rfl rfl rfl rfl (wl_off rfl rfl rfl rfl (wl_off rfl rfl rfl rfl (wl_off rfl rfl rfl rfl ?_)))))))))))))
                 refine wl_off rfl rfl rfl rfl (wl_off rfl rfl rfl rfl (wl_off rfl rfl rfl rfl (wl_off rfl rfl rfl rfl (wl_pick_f rfl rfl rfl rfl (wl_assign rfl rfl (WL.nil ?_))))))
                 exact fun a ha => hJ521 (false) _ hF hB512 (hS513.sel [] rfl) a (ha.sub ⟨rfl, trivial⟩)
           refine W.region (wl_move rfl rfl (wl_not rfl rfl (wl_move rfl rfl ?_)))
           rcases bE (!u397.2) with h537 | h537
           ·replace hF := ifP h537 hF
            refine wl_off rfl rfl rfl h537 (wl_off rfl rfl rfl h537 (wl_pick_t rfl rfl h537 rfl (wl_move rfl rfl (wl_off rfl rfl rfl rfl (wl_off rfl rfl rfl rfl (wl_off rfl rfl rfl rfl (wl_off rfl rfl rfl rfl (wl_off rfl rfl rfl rfl (wl_pick_t rfl rfl rfl rfl (WL.nil ?_))))))))))
            exact fun a ha => hJ434 (true) _ hF hB424 (hS425.sel [5, 6, 7, 1, 2, 3, 4, 0] rfl) a (ha.sub ⟨rfl, rfl, rfl, rfl, trivial⟩)
           ·replace hF := ifN h537 hF
            refine wl_on rfl rfl h537 (wl_move rfl rfl (wl_on rfl rfl h537 (wl_not rfl rfl (wl_pick_f rfl rfl h537 rfl (wl_move rfl rfl ?_)))))
            rcases bE (!u421.2) with h538 | h538
            ·replace hF := ifP h538 hF
             refine wl_off rfl rfl rfl h538 (wl_off rfl rfl rfl h538 (wl_off rfl rfl rfl h538 (wl_off rfl rfl rfl h538 (wl_off rfl rfl rfl h538 (wl_pick_t rfl rfl h538 rfl (WL.nil ?_))))))
             exact fun a ha => hJ434 (true) _ hF hB424 (hS425.sel [5, 6, 7, 1, 2, 3, 4, 0] rfl) a (ha.sub ⟨rfl, rfl, rfl, rfl, trivial⟩)
            ·replace hF := ifN h538 hF
             refine wl_on rfl rfl h538 (wl_move rfl rfl (wl_on rfl rfl h538 (wl_field (o := 1) (off' := 1) ff_27_1 rfl rfl rfl (wl_on rfl rfl h538 (wl_load_blk (i := 7) (vs := [v16]) (v := v16) tf_25 rfl rfl hS425 rfl rfl rfl (wl_on rfl rfl h538 ?_))))))
             obtain ⟨u539, hu539, hF⟩ := bindE hF
             refine wl_call rfl Tryz.call21 (C_laws_pSum w422 u13.2.1 v16 (hS425.own_ro (i := 6) rfl) _ hu539) rfl ?_
             rintro _ w540 ⟨rfl, hb541⟩
             refine ⟨_, rfl, ?_⟩
             have hB542 := hB424.trans (hb541.mono hB424.size)
             have hS543 := hS425.below hb541
             refine wl_on rfl rfl h538 (wl_neq rfl rfl rfl (wl_pick_f rfl rfl h538 rfl (WL.nil ?_)))
             exact fun a ha => hJ434 ((u421.1 != u539)) _ hF hB542 (hS543.sel [5, 6, 7, 1, 2, 3, 4, 0] rfl) a (ha.sub ⟨rfl, rfl, rfl, rfl, trivial⟩)
  refine W.region (wl_move rfl rfl (wl_move rfl rfl (wl_neqb Tryz.underlying4 rfl rfl rfl (wl_move rfl rfl ?_))))
  rcases bE (u33.2 != u42.2) with h545 | h545
  ·replace hF := ifP h545 hF
   refine wl_off rfl rfl rfl h545 (wl_off rfl rfl rfl h545 (wl_off rfl rfl rfl h545 (wl_off rfl rfl rfl h545 (wl_pick_t rfl rfl h545 rfl (WL.nil ?_)))))
   exact fun a ha => hJ57 (true) _ hF hB47 (hS48.sel [3, 4, 2, 1, 0] rfl) a (ha.sub ⟨rfl, rfl, rfl, rfl, rfl, trivial⟩)
  ·replace hF := ifN h545 hF
   refine wl_on rfl rfl h545 (wl_move rfl rfl (wl_on rfl rfl h545 (wl_move rfl rfl (wl_on rfl rfl h545 ?_))))
   obtain ⟨u546, hu546, hF⟩ := bindE hF
   refine wl_call rfl Tryz.call8 (C_laws_pSameSheets w45 u33.1 v34 (hS48.own_ro (i := 1) rfl) u42.1 v43 (hS48.own_ro (i := 0) rfl) _ hu546) rfl ?_
   rintro _ w547 ⟨rfl, hb548⟩
   refine ⟨_, rfl, ?_⟩
   have hB549 := hB47.trans (hb548.mono hB47.size)
   have hS550 := hS48.below hb548
   refine wl_on rfl rfl h545 (wl_not rfl rfl (wl_pick_f rfl rfl h545 rfl (WL.nil ?_)))
   exact fun a ha => hJ57 ((!u546)) _ hF hB549 (hS550.sel [3, 4, 2, 1, 0] rfl) a (ha.sub ⟨rfl, rfl, rfl, rfl, rfl, trivial⟩)
end Go.Proofs.YtejhnpimhjmpdaaGreatDoor
