/-
  THE WALKS of functions of this seat, by program (gen.py, prune.py).
-/
import Derived.Test.YtmkignciedkidaaGreatWXFnMarchesa
set_option linter.unusedSimpArgs false
set_option linter.unusedVariables false
set_option maxRecDepth 100000
set_option maxHeartbeats 1600000
namespace Go.Proofs.YtmkignciedkidaaGreat
open Go Go.RowKit
theorem C_spec_l1Cur__anyChart__mut__box (w0 : World) (x0 : ((List Int) × Int × Int)) (b0 : Nat) (v0_0 : Value) (h0_0 : rdS ty_5 (Out (fps [R.blk b0 53 [v0_0, (.int .i64 x0.2.1), (.int .u64 x0.2.2)]]) w0) w0 v0_0 x0.1) (hS0 : Sep 0 w0 [R.blk b0 53 [v0_0, (.int .i64 x0.2.1), (.int .u64 x0.2.2)]]) (r : ((List (Int × Int)) × ((List Int) × Int × Int))) (hF : F_spec_l1Cur__anyChart__mut__box x0 = some r) :
  Calls Tryz.prog 78 [(.pointer (some ⟨b0, 0, none⟩))].toArray w0 fun e w' => ∃ (q0 : Value) (G0 : List Nat), e = .returned q0 ∧ Below 0 (wE w0) w' ∧ Sep 0 w' [R.rest w0 (fps [R.blk b0 53 [v0_0, (.int .i64 x0.2.1), (.int .u64 x0.2.2)]]), R.blk b0 53 [v0_0, (.int .i64 r.2.2.1), (.int .u64 r.2.2.2)], R.own ty_42 G0 q0 r.1] := by
 refine calls_mk' Tryz.func78 rfl Tryz.ntmps78 rfl rfl fun Q hQ hP => ?_
 have hB : Below (wE w0).heap.size (wE w0) w0 := wE_below w0
 have hS : Sep (wE w0).heap.size w0 [R.rest w0 (fps [R.blk b0 53 [v0_0, (.int .i64 x0.2.1), (.int .u64 x0.2.2)]]), R.blk b0 53 [v0_0, (.int .i64 x0.2.1), (.int .u64 x0.2.2)]] := hS0.rest
 unfold F_spec_l1Cur__anyChart__mut__box at hF
 refine W.seq fun K1 hK1 => W.region (wl_assign rfl rfl (WL.nil (fun a ha => hK1 _ _ (W.seq fun K2 hK2 => (W.region (wl_move rfl rfl ?_))) a ha)))
 obtain ⟨u3, hu3, hF⟩ := bindE hF
 refine wl_call rfl Tryz.call105 (C_spec_l1Cur__chart__mut__box w0 x0 b0 v0_0 (h0_0.rsto (hS.sel [0, 1] rfl)) (hS.sel [1] rfl).base0 _ hu3) rfl ?_
 rintro _ w4 ⟨v9, F10, rfl, hE5, hM6⟩
 refine ⟨_, rfl, ?_⟩
 have hB7 := hS.takeB [1] rfl (M := [R.blk b0 53 [v0_0, (.int .i64 x0.2.1), (.int .u64 x0.2.2)]]) rfl hB hE5 hM6
 have hS8 : Sep (wE w0).heap.size w4 [R.blk b0 53 [v0_0, (.int .i64 u3.2.2.1), (.int .u64 u3.2.2.2)], R.own ty_42 F10 v9 u3.1, R.rest w0 (fps [R.blk b0 53 [v0_0, (.int .i64 x0.2.1), (.int .u64 x0.2.2)]])] := hS.take [1] [0] rfl (M := [R.blk b0 53 [v0_0, (.int .i64 x0.2.1), (.int .u64 x0.2.2)]]) rfl hM6 hB.size
 refine wl_assign rfl rfl (WL.nil (fun a ha => hK2 _ _ (W.seq fun K11 hK11 => (W.region (wl_move rfl rfl (wl_move rfl rfl (wl_lenr (e := ty_42) (l := u3.1) Tryz.underlying66 rfl rfl (hS8.own_ro (i := 1) rfl) ?_))))) a ha))
 obtain ⟨u12, hu12, hF⟩ := bindE hF
 refine wl_call rfl Tryz.call28 (C_spec_l1Cur__pick__mut__box w4 (x0.1, u3.2.2.1, u3.2.2.2) b0 v0_0 (h0_0.rsto (hS8.sel [2, 0] rfl)) (List.length u3.1 : Int) (hS8.sel [0] rfl).base0 _ hu12) rfl ?_
 rintro _ w13 ⟨rfl, hE14, hM15⟩
 refine ⟨_, rfl, ?_⟩
 have hB16 := hS8.takeB [0] rfl (M := [R.blk b0 53 [v0_0, (.int .i64 u3.2.2.1), (.int .u64 u3.2.2.2)]]) rfl hB7 hE14 hM15
 have hS17 : Sep (wE w0).heap.size w13 [R.blk b0 53 [v0_0, (.int .i64 u12.2.2.1), (.int .u64 u12.2.2.2)], R.own ty_42 F10 v9 u3.1, R.rest w0 (fps [R.blk b0 53 [v0_0, (.int .i64 x0.2.1), (.int .u64 x0.2.2)]])] := hS8.take [0] [1, 2] rfl (M := [R.blk b0 53 [v0_0, (.int .i64 u3.2.2.1), (.int .u64 u3.2.2.2)]]) rfl hM15 hB7.size
 refine wl_assign rfl rfl (WL.nil (fun a ha => hK11 _ _ (W.seq fun K18 hK18 => ?_) a ha))
 obtain ⟨k27, hk27, hF⟩ := jE3 hF
 have hJ28 : ∀ (y22 : Int) (y23 : Int) (l24 : (List (Int × Int))) (v25 : Value) (F26 : List Nat) (w19 : World) (_ : k27 y22 y23 l24 = some r) (_ : Below (wE w0).heap.size (wE w0) w19) (_ : Sep (wE w0).heap.size w19 [R.rest w0 (fps [R.blk b0 53 [v0_0, (.int .i64 x0.2.1), (.int .u64 x0.2.2)]]), R.blk b0 53 [v0_0, (.int .i64 y22), (.int .u64 y23)], R.own ty_42 F26 v25 l24]), ∀ a, St 35 [(3, v25)] a → K18 a w19 := by
  intro y22 y23 l24 v25 F26 w19 hF hB20 hS21
  subst hk27
  refine fun a ha => hK18 _ _ (W.seq fun K29 hK29 => (W.region (wl_move rfl rfl (wl_assign rfl rfl (WL.nil (fun a ha => hK29 _ _ (W.ret ?_) a ha)))))) a ha
  have hr := Option.some.inj hF
  subst hr
  exact rets (vs := [v25]) hQ rfl ⟨rv_tmp rfl, trivial⟩ ⟨v25, F26, rfl, hB20, hS21.sel [0, 1, 2] rfl⟩
 refine W.seq fun K30 hK30 => W.region (wl_move rfl rfl ?_)
 obtain ⟨u31, hu31, hF⟩ := bindE hF
 refine wl_call rfl Tryz.call28 (C_spec_l1Cur__pick__mut__box w13 (x0.1, u12.2.2.1, u12.2.2.2) b0 v0_0 (h0_0.rsto (hS17.sel [2, 0] rfl)) 30 (hS17.sel [0] rfl).base0 _ hu31) rfl ?_
 rintro _ w32 ⟨rfl, hE33, hM34⟩
 refine ⟨_, rfl, ?_⟩
 have hB35 := hS17.takeB [0] rfl (M := [R.blk b0 53 [v0_0, (.int .i64 u12.2.2.1), (.int .u64 u12.2.2.2)]]) rfl hB16 hE33 hM34
 have hS36 : Sep (wE w0).heap.size w32 [R.blk b0 53 [v0_0, (.int .i64 u31.2.2.1), (.int .u64 u31.2.2.2)], R.own ty_42 F10 v9 u3.1, R.rest w0 (fps [R.blk b0 53 [v0_0, (.int .i64 x0.2.1), (.int .u64 x0.2.2)]])] := hS17.take [0] [1, 2] rfl (M := [R.blk b0 53 [v0_0, (.int .i64 u12.2.2.1), (.int .u64 u12.2.2.2)]]) rfl hM34 hB16.size
 refine WL.nil fun a ha => hK30 _ _ (W.block (W.seq fun K37 hK37 => (W.region (wl_eql rfl rfl rfl (wl_assign rfl rfl (WL.nil (fun a ha => hK37 _ _ (W.cond rfl (fun h38 => ?_) (fun h38 => ?_)) a ha))))))) a ha
 ·replace hF := ifP h38 hF
  refine W.region (wl_move rfl rfl (wl_move rfl rfl (wl_move rfl rfl ?_)))
  obtain ⟨u39, hu39, hF⟩ := bindE hF
  refine wl_call rfl Tryz.call106 (C_spec_l1Cur__anySpot__mut__box w32 (x0.1, u31.2.2.1, u31.2.2.2) b0 v0_0 (h0_0.rsto (hS36.sel [2, 0] rfl)) (hS36.sel [0] rfl).base0 _ hu39) rfl ?_
  rintro _ w40 ⟨rfl, hE41, hM42⟩
  refine ⟨_, rfl, ?_⟩
  have hB43 := hS36.takeB [0] rfl (M := [R.blk b0 53 [v0_0, (.int .i64 u31.2.2.1), (.int .u64 u31.2.2.2)]]) rfl hB35 hE41 hM42
  have hS44 : Sep (wE w0).heap.size w40 [R.blk b0 53 [v0_0, (.int .i64 u39.2.2.1), (.int .u64 u39.2.2.2)], R.own ty_42 F10 v9 u3.1, R.rest w0 (fps [R.blk b0 53 [v0_0, (.int .i64 x0.2.1), (.int .u64 x0.2.2)]])] := hS36.take [0] [1, 2] rfl (M := [R.blk b0 53 [v0_0, (.int .i64 u31.2.2.1), (.int .u64 u31.2.2.2)]]) rfl hM42 hB35.size
  obtain ⟨u45, hu45, hF⟩ := bindE hF
  refine wl_indexoF (e := ty_42) (i := 1) Tryz.underlying66 rfl rfl rfl hS44 rfl hu45 ?_
  rintro p46 _ rfl hp47 ho48
  refine wl_storeo (i := 1) (o := 0) (vs := [(.int .i64 u39.1.1), (.int .i64 u39.1.2)]) (u' := u39.1) fl_42 tf_42 rfl rfl rfl rfl ho48 hu45 hB43 hS44 rfl rfl ⟨rfl, rfl, trivial⟩ rfl ?_
  intro w49 hk52 hB50 hS51
  refine WL.nil ?_
  exact fun a ha => hJ28 (u39.2.2.1) (u39.2.2.2) ((seti u3.1 u12.1 u39.1)) (v9) (F10) _ hF hB50 (hS51.sel [2, 0, 1] rfl) a (ha.sub ⟨rfl, trivial⟩)
 ·replace hF := ifN h38 hF
  refine W.seq fun K53 hK53 => W.region (wl_eql rfl rfl rfl (wl_assign rfl rfl (WL.nil (fun a ha => hK53 _ _ (W.cond rfl (fun h54 => ?_) (fun h54 => ?_)) a ha))))
  ·replace hF := ifP h54 hF
   refine W.region (wl_move rfl rfl (wl_move rfl rfl (wl_move rfl rfl ?_)))
   obtain ⟨u55, hu55, hF⟩ := bindE hF
   refine wl_indexoF (e := ty_42) (i := 1) Tryz.underlying66 rfl rfl rfl hS36 rfl hu55 ?_
   rintro p56 _ rfl hp57 ho58
   refine wl_load_p (vs := [(.int .i64 u55.1), (.int .i64 u55.2)]) (v := (.agg #[(.int .i64 u55.1), (.int .i64 u55.2)])) tf_42 rfl rfl hp57 rfl rfl ?_
   obtain ⟨u59, hu59, hF⟩ := bindE hF
   refine wl_indexoF (e := ty_42) (i := 1) Tryz.underlying66 rfl rfl rfl hS36 rfl hu59 ?_
   rintro p60 _ rfl hp61 ho62
   refine wl_storeo (i := 1) (o := 0) (vs := [(.int .i64 u55.1), (.int .i64 u55.2)]) (u' := u55) fl_42 tf_42 rfl rfl rfl rfl ho62 hu59 hB35 hS36 rfl rfl ⟨rfl, rfl, trivial⟩ rfl ?_
   intro w63 hk66 hB64 hS65
   refine WL.nil ?_
   exact fun a ha => hJ28 (u31.2.2.1) (u31.2.2.2) ((seti u3.1 u12.1 u55)) (v9) (F10) _ hF hB64 (hS65.sel [2, 0, 1] rfl) a (ha.sub ⟨rfl, trivial⟩)
  ·replace hF := ifN h54 hF
   refine W.seq fun K67 hK67 => W.region (wl_eql rfl rfl rfl (wl_assign rfl rfl (WL.nil (fun a ha => hK67 _ _ (W.cond rfl (fun h68 => ?_) (fun h68 => ?_)) a ha))))
   ·replace hF := ifP h68 hF
    refine W.seq fun K69 hK69 => W.region (wl_assign rfl rfl (WL.nil (fun a ha => hK69 _ _ (W.ret ?_) a ha)))
    have hS70 := hS36.push0 (r := R.own ty_42 [] (.slice none 0 0) []) rfl fun _ => .inl ⟨rfl, rfl, rfl⟩
    have hr := Option.some.inj hF
    subst hr
    exact rets (vs := [(.slice none 0 0)]) hQ rfl ⟨rv_tmp rfl, trivial⟩ ⟨(.slice none 0 0), [], rfl, hB35, hS70.sel [3, 1, 0] rfl⟩
   ·replace hF := ifN h68 hF
    refine W.seq fun K71 hK71 => W.region (wl_eql rfl rfl rfl (wl_assign rfl rfl (WL.nil (fun a ha => hK71 _ _ (W.cond rfl (fun h72 => ?_) (fun h72 => ?_)) a ha))))
    ·replace hF := ifP h72 hF
     refine W.seq fun K73 hK73 => W.region (wl_move rfl rfl ?_)
     obtain ⟨u74, hu74, hF⟩ := bindE hF
     refine wl_call rfl Tryz.call74 (C_spec_l1Cur__chartOf__mut__box w32 (x0.1, u31.2.2.1, u31.2.2.2) b0 v0_0 (h0_0.rsto (hS36.sel [2, 0] rfl)) 13 (hS36.sel [0] rfl).base0 _ hu74) rfl ?_
     rintro _ w75 ⟨v80, F81, rfl, hE76, hM77⟩
     refine ⟨_, rfl, ?_⟩
     have hB78 := hS36.takeB [0] rfl (M := [R.blk b0 53 [v0_0, (.int .i64 u31.2.2.1), (.int .u64 u31.2.2.2)]]) rfl hB35 hE76 hM77
     have hS79 : Sep (wE w0).heap.size w75 [R.blk b0 53 [v0_0, (.int .i64 u74.2.2.1), (.int .u64 u74.2.2.2)], R.own ty_42 F81 v80 u74.1, R.own ty_42 F10 v9 u3.1, R.rest w0 (fps [R.blk b0 53 [v0_0, (.int .i64 x0.2.1), (.int .u64 x0.2.2)]])] := hS36.take [0] [1, 2] rfl (M := [R.blk b0 53 [v0_0, (.int .i64 u31.2.2.1), (.int .u64 u31.2.2.2)]]) rfl hM77 hB35.size
     refine wl_assign rfl rfl (WL.nil (fun a ha => hK73 _ _ (W.ret ?_) a ha))
     have hr := Option.some.inj hF
     subst hr
     exact rets (vs := [v80]) hQ rfl ⟨rv_tmp rfl, trivial⟩ ⟨v80, F81, rfl, hB78, hS79.sel [3, 0, 1] rfl⟩
    ·replace hF := ifN h72 hF
     refine W.skip ?_
     exact fun a ha => hJ28 (u31.2.2.1) (u31.2.2.2) (u3.1) (v9) (F10) _ hF hB35 (hS36.sel [2, 0, 1] rfl) a (ha.sub ⟨rfl, trivial⟩)
theorem C_spec_l1Cur__show__mut__box (w0 : World) (x0 : ((List Int) × Int × Int)) (b0 : Nat) (v0_0 : Value) (h0_0 : rdS ty_5 (Out (fps [R.blk b0 53 [v0_0, (.int .i64 x0.2.1), (.int .u64 x0.2.2)]]) w0) w0 v0_0 x0.1) (hS0 : Sep 0 w0 [R.blk b0 53 [v0_0, (.int .i64 x0.2.1), (.int .u64 x0.2.2)]]) (r : (((List (List (Int × Int))) × (List Int) × Int × Int) × ((List Int) × Int × Int))) (hF : F_spec_l1Cur__show__mut__box x0 = some r) :
  Calls Tryz.prog 49 [(.pointer (some ⟨b0, 0, none⟩))].toArray w0 fun e w' => ∃ (q0 : Value) (G0 : List Nat) (q1 : Value) (G1 : List Nat), e = .returned (.agg #[q0, q1, (.int .i64 r.1.2.2.1), (.int .i64 r.1.2.2.2)]) ∧ Below 0 (wE w0) w' ∧ Sep 0 w' [R.rest w0 (fps [R.blk b0 53 [v0_0, (.int .i64 x0.2.1), (.int .u64 x0.2.2)]]), R.blk b0 53 [v0_0, (.int .i64 r.2.2.1), (.int .u64 r.2.2.2)], R.own ty_66 G0 q0 r.1.1, R.own ty_3 G1 q1 r.1.2.1] := by
 refine calls_mk' Tryz.func49 rfl Tryz.ntmps49 rfl rfl fun Q hQ hP => ?_
 have hB : Below (wE w0).heap.size (wE w0) w0 := wE_below w0
 have hS : Sep (wE w0).heap.size w0 [R.rest w0 (fps [R.blk b0 53 [v0_0, (.int .i64 x0.2.1), (.int .u64 x0.2.2)]]), R.blk b0 53 [v0_0, (.int .i64 x0.2.1), (.int .u64 x0.2.2)]] := hS0.rest
 unfold F_spec_l1Cur__show__mut__box at hF
 refine W.seq fun K1 hK1 => W.region (wl_alloc (cs := [(.slice none 0 0), (.slice none 0 0), (.int .i64 0), (.int .i64 0)]) tf_27 rfl rfl hB hS ?_)
 intro b2 w3 hb4 hB5 hS6
 refine WL.nil fun a ha => hK1 _ _ (W.seq fun K7 hK7 => (W.region (wl_move rfl rfl ?_))) a ha
 obtain ⟨u8, hu8, hF⟩ := bindE hF
 refine wl_call rfl Tryz.call28 (C_spec_l1Cur__pick__mut__box w3 x0 b0 v0_0 (h0_0.rsto (hS6.sel [1, 2] rfl)) 4 (hS6.sel [2] rfl).base0 _ hu8) rfl ?_
 rintro _ w9 ⟨rfl, hE10, hM11⟩
 refine ⟨_, rfl, ?_⟩
 have hB12 := hS6.takeB [2] rfl (M := [R.blk b0 53 [v0_0, (.int .i64 x0.2.1), (.int .u64 x0.2.2)]]) rfl hB5 hE10 hM11
 have hS13 : Sep (wE w0).heap.size w9 [R.blk b0 53 [v0_0, (.int .i64 u8.2.2.1), (.int .u64 u8.2.2.2)], R.blk b2 27 [(.slice none 0 0), (.slice none 0 0), (.int .i64 0), (.int .i64 0)], R.rest w0 (fps [R.blk b0 53 [v0_0, (.int .i64 x0.2.1), (.int .u64 x0.2.2)]])] := hS6.take [2] [0, 1] rfl (M := [R.blk b0 53 [v0_0, (.int .i64 x0.2.1), (.int .u64 x0.2.2)]]) rfl hM11 hB5.size
 refine wl_add rfl rfl rfl (wl_assign rfl rfl (WL.nil (fun a ha => hK7 _ _ (W.seq fun K14 hK14 => (W.region (wl_move rfl rfl (wl_move rfl rfl ?_)))) a ha)))
 obtain ⟨u15, hu15, hF⟩ := bindE hF
 refine wl_call rfl Tryz.call74 (C_spec_l1Cur__chartOf__mut__box w9 (x0.1, u8.2.2.1, u8.2.2.2) b0 v0_0 (h0_0.rsto (hS13.sel [2, 0] rfl)) (w64 (1 + u8.1)) (hS13.sel [0] rfl).base0 _ hu15) rfl ?_
 rintro _ w16 ⟨v21, F22, rfl, hE17, hM18⟩
 refine ⟨_, rfl, ?_⟩
 have hB19 := hS13.takeB [0] rfl (M := [R.blk b0 53 [v0_0, (.int .i64 u8.2.2.1), (.int .u64 u8.2.2.2)]]) rfl hB12 hE17 hM18
 have hS20 : Sep (wE w0).heap.size w16 [R.blk b0 53 [v0_0, (.int .i64 u15.2.2.1), (.int .u64 u15.2.2.2)], R.own ty_42 F22 v21 u15.1, R.blk b2 27 [(.slice none 0 0), (.slice none 0 0), (.int .i64 0), (.int .i64 0)], R.rest w0 (fps [R.blk b0 53 [v0_0, (.int .i64 x0.2.1), (.int .u64 x0.2.2)]])] := hS13.take [0] [1, 2] rfl (M := [R.blk b0 53 [v0_0, (.int .i64 u8.2.2.1), (.int .u64 u8.2.2.2)]]) rfl hM18 hB12.size
 have hq23 := hS20.sel [1, 0, 2, 3] rfl
 have hq24 := hq23.head (r' := R.cel ty_66 F22 [v21] u15.1) (rfl) fun _ h0 => ⟨_, rfl, h0⟩
 refine wl_lit1 (e := ty_66) (vs := [v21]) Tryz.underlying24 rfl rfl (cells_one (hS20.own_ro (i := 1) rfl).one) rfl hB19 hq24 ?_
 intro v25 F26 w27 hb28 hf29 hB30 hS31
 refine wl_move rfl rfl (wl_lit (vs := [(.int .i64 0), (.int .i64 1), (.int .i64 8), (.int .i64 8), (.int .i64 16)]) (l := [0, 1, 8, 8, 16]) fl_3 Tryz.underlying25 rfl rfl rfl rfl rfl rfl hB30 hS31 ?_)
 intro v32 F33 w34 hb35 hB36 hS37
 obtain ⟨u38, hu38, hF⟩ := bindE hF
 refine wl_call rfl Tryz.call53 (C_spec_l1Cur__among__mut__box w34 (x0.1, u15.2.2.1, u15.2.2.2) b0 v0_0 (h0_0.rsto (hS37.sel [4, 2] rfl)) [0, 1, 8, 8, 16] v32 (own_out (hS37.sel [0, 2] rfl)) (hS37.sel [2] rfl).base0 _ hu38) rfl ?_
 rintro _ w39 ⟨rfl, hE40, hM41⟩
 refine ⟨_, rfl, ?_⟩
 have hB42 := hS37.takeB [2] rfl (M := [R.blk b0 53 [v0_0, (.int .i64 u15.2.2.1), (.int .u64 u15.2.2.2)]]) rfl hB36 hE40 hM41
 have hS43 : Sep (wE w0).heap.size w39 [R.blk b0 53 [v0_0, (.int .i64 u38.2.2.1), (.int .u64 u38.2.2.2)], R.own ty_3 F33 v32 [0, 1, 8, 8, 16], R.own ty_66 F26 v25 [u15.1], R.blk b2 27 [(.slice none 0 0), (.slice none 0 0), (.int .i64 0), (.int .i64 0)], R.rest w0 (fps [R.blk b0 53 [v0_0, (.int .i64 x0.2.1), (.int .u64 x0.2.2)]])] := hS37.take [2] [0, 1, 3, 4] rfl (M := [R.blk b0 53 [v0_0, (.int .i64 u15.2.2.1), (.int .u64 u15.2.2.2)]]) rfl hM41 hB36.size
 refine wl_move rfl rfl (wl_lit (vs := [(.int .i64 8), (.int .i64 12), (.int .i64 24), (.int .i64 24)]) (l := [8, 12, 24, 24]) fl_3 Tryz.underlying25 rfl rfl rfl rfl rfl rfl hB42 hS43 ?_)
 intro v44 F45 w46 hb47 hB48 hS49
 obtain ⟨u50, hu50, hF⟩ := bindE hF
 refine wl_call rfl Tryz.call53 (C_spec_l1Cur__among__mut__box w46 (x0.1, u38.2.2.1, u38.2.2.2) b0 v0_0 (h0_0.rsto (hS49.sel [5, 1] rfl)) [8, 12, 24, 24] v44 (own_out (hS49.sel [0, 1] rfl)) (hS49.sel [1] rfl).base0 _ hu50) rfl ?_
 rintro _ w51 ⟨rfl, hE52, hM53⟩
 refine ⟨_, rfl, ?_⟩
 have hB54 := hS49.takeB [1] rfl (M := [R.blk b0 53 [v0_0, (.int .i64 u38.2.2.1), (.int .u64 u38.2.2.2)]]) rfl hB48 hE52 hM53
 have hS55 : Sep (wE w0).heap.size w51 [R.blk b0 53 [v0_0, (.int .i64 u50.2.2.1), (.int .u64 u50.2.2.2)], R.own ty_3 F45 v44 [8, 12, 24, 24], R.own ty_3 F33 v32 [0, 1, 8, 8, 16], R.own ty_66 F26 v25 [u15.1], R.blk b2 27 [(.slice none 0 0), (.slice none 0 0), (.int .i64 0), (.int .i64 0)], R.rest w0 (fps [R.blk b0 53 [v0_0, (.int .i64 x0.2.1), (.int .u64 x0.2.2)]])] := hS49.take [1] [0, 2, 3, 4, 5] rfl (M := [R.blk b0 53 [v0_0, (.int .i64 u38.2.2.1), (.int .u64 u38.2.2.2)]]) rfl hM53 hB48.size
 refine wl_build (zs := [(.slice none 0 0), (.slice none 0 0), (.int .i64 0), (.int .i64 0)]) (out := [v25, (.slice none 0 0), (.int .i64 u38.1), (.int .i64 u50.1)]) (vs := [v25, (.int .i64 u38.1), (.int .i64 u50.1)]) (css := [[v25], [(.int .i64 u38.1)], [(.int .i64 u50.1)]]) tf_27 pl_27 rfl rfl (by simp only [List.map_cons, List.map_nil, cells_one ((hS55.own_ro (i := 3) rfl).one)] <;> rfl) rfl rfl (wl_alloc (cs := [(.slice none 0 0), (.slice none 0 0), (.int .i64 0), (.int .i64 0)]) tf_27 rfl rfl hB54 hS55 ?_)
 intro b56 w57 hb58 hB59 hS60
 refine wl_store_blk (i := 0) (vs := [v25, (.slice none 0 0), (.int .i64 u38.1), (.int .i64 u50.1)]) (cs' := [v25, (.slice none 0 0), (.int .i64 u38.1), (.int .i64 u50.1)]) tf_27 rfl rfl rfl rfl hB59 hS60 rfl rfl ⟨(hS60.own_ro (i := 4) rfl).one, rfl, rfl, rfl, trivial⟩ rfl ?_
 intro w61 hk64 hB62 hS63
 refine WL.nil fun a ha => hK14 _ _ (W.seq fun K65 hK65 => (W.region (wl_move rfl rfl ?_))) a ha
 obtain ⟨u66, hu66, hF⟩ := bindE hF
 refine wl_call rfl Tryz.call28 (C_spec_l1Cur__pick__mut__box w61 (x0.1, u50.2.2.1, u50.2.2.2) b0 v0_0 (h0_0.rsto (hS63.sel [6, 1] rfl)) 3 (hS63.sel [1] rfl).base0 _ hu66) rfl ?_
 rintro _ w67 ⟨rfl, hE68, hM69⟩
 refine ⟨_, rfl, ?_⟩
 have hB70 := hS63.takeB [1] rfl (M := [R.blk b0 53 [v0_0, (.int .i64 u50.2.2.1), (.int .u64 u50.2.2.2)]]) rfl hB62 hE68 hM69
 have hS71 : Sep (wE w0).heap.size w67 [R.blk b0 53 [v0_0, (.int .i64 u66.2.2.1), (.int .u64 u66.2.2.2)], R.blk b56 27 [v25, (.slice none 0 0), (.int .i64 u38.1), (.int .i64 u50.1)], R.own ty_3 F45 v44 [8, 12, 24, 24], R.own ty_3 F33 v32 [0, 1, 8, 8, 16], R.own ty_66 F26 v25 [u15.1], R.blk b2 27 [(.slice none 0 0), (.slice none 0 0), (.int .i64 0), (.int .i64 0)], R.rest w0 (fps [R.blk b0 53 [v0_0, (.int .i64 x0.2.1), (.int .u64 x0.2.2)]])] := hS63.take [1] [0, 2, 3, 4, 5, 6] rfl (M := [R.blk b0 53 [v0_0, (.int .i64 u50.2.2.1), (.int .u64 u50.2.2.2)]]) rfl hM69 hB62.size
 refine wl_add rfl rfl rfl (wl_assign rfl rfl (WL.nil (fun a ha => hK65 _ _ (W.seq fun K72 hK72 => ?_) a ha)))
 obtain ⟨k79, hk79, hF⟩ := jE3 hF
 have hJ80 : ∀ (y76 : Int) (y77 : Int) (y78 : Int) (w73 : World) (_ : k79 y76 y77 y78 = some r) (_ : Below (wE w0).heap.size (wE w0) w73) (_ : Sep (wE w0).heap.size w73 [R.rest w0 (fps [R.blk b0 53 [v0_0, (.int .i64 x0.2.1), (.int .u64 x0.2.2)]]), R.blk b0 53 [v0_0, (.int .i64 y76), (.int .u64 y77)], R.blk b2 27 [(.slice none 0 0), (.slice none 0 0), (.int .i64 0), (.int .i64 0)], R.own ty_66 F26 v25 [u15.1], R.blk b56 27 [v25, (.slice none 0 0), (.int .i64 u38.1), (.int .i64 u50.1)]]), ∀ a, St 139 [(0, (.pointer (some ⟨b0, 0, none⟩))), (2, (.pointer (some ⟨b2, 0, none⟩))), (3, (.int .i64 (w64 (1 + u8.1)))), (4, (.pointer (some ⟨b56, 0, none⟩))), (5, (.int .i64 y78))] a → K72 a w73 := by
  intro y76 y77 y78 w73 hF hB74 hS75
  subst hk79
  refine fun a ha => hK72 _ _ (W.seq fun K81 hK81 => (W.block (W.loopk (fun m a w82 => ∃ (y85 : Int) (y86 : Int) (l87 : (List (List (Int × Int)))) (l90 : (List Int)) (v88 : Value) (F89 : List Nat) (v91 : Value) (F92 : List Nat), St 139 [(0, (.pointer (some ⟨b0, 0, none⟩))), (2, (.pointer (some ⟨b2, 0, none⟩))), (3, (.int .i64 (w64 (1 + u8.1)))), (4, (.pointer (some ⟨b56, 0, none⟩))), (5, (.int .i64 y78))] a ∧ Below (wE w0).heap.size (wE w0) w82 ∧ Sep (wE w0).heap.size w82 [R.rest w0 (fps [R.blk b0 53 [v0_0, (.int .i64 x0.2.1), (.int .u64 x0.2.2)]]), R.blk b0 53 [v0_0, (.int .i64 y85), (.int .u64 y86)], R.blk b2 27 [(.slice none 0 0), (.slice none 0 0), (.int .i64 0), (.int .i64 0)], R.own ty_66 F89 v88 l87, R.own ty_3 F92 v91 l90, R.blk b56 27 [v88, v91, (.int .i64 u38.1), (.int .i64 u50.1)]] ∧ F_spec_l1Cur__show__mut__box_L1 y78 x0 u8 u50 u38 m y85 y86 l87 l90 = some r) FU ?_ ?_))) a ha
  ·
   have hS94 := hS75.push0 (r := R.own ty_3 [] (.slice none 0 0) []) rfl fun _ => .inl ⟨rfl, rfl, rfl⟩
   exact fun a ha => ⟨y76, y77, [u15.1], [], v25, F26, (.slice none 0 0), [], ha.sub ⟨rfl, rfl, rfl, rfl, rfl, trivial⟩, hB74, (hS94.sel [1, 2, 3, 4, 0, 5] rfl), hF⟩
  ·
   rintro m96 a w82 ⟨y85, y86, l87, l90, v88, F89, v91, F92, ha, hB83, hS84, hF⟩ KL95 hKL95
   refine W.at ?_ ha
   cases m96 with
   | zero => exact noneE hF
   | succ m96 =>
    obtain ⟨nx93, hnx93⟩ : ∃ k, k = F_spec_l1Cur__show__mut__box_L1 y78 x0 u8 u50 u38 m96 := ⟨_, rfl⟩
    rw [F_spec_l1Cur__show__mut__box_L1, ← hnx93] at hF
    refine W.seq fun K97 hK97 => W.seq fun K98 hK98 => W.region (wl_field (o := 0) (off' := 0) ff_27_0 rfl rfl rfl (wl_load_blk (i := 5) (vs := [v88]) (v := v88) tf_24 rfl rfl hS84 rfl rfl rfl (wl_lenr (e := ty_66) (l := l87) Tryz.underlying24 rfl rfl (hS84.own_ro (i := 3) rfl) (wl_move rfl rfl (wl_lss rfl rfl rfl (WL.nil (fun a ha => hK98 _ _ (W.cond rfl (fun h99 => ?_) (fun h99 => ?_)) a ha)))))))
    ·replace hF := ifP h99 hF
     refine W.skip fun a ha => hK97 _ _ (W.block (W.seq fun K100 hK100 => (W.region (wl_field (o := 0) (off' := 0) ff_27_0 rfl rfl rfl (wl_load_blk (i := 5) (vs := [v88]) (v := v88) tf_24 rfl rfl hS84 rfl rfl rfl (wl_field (o := 0) (off' := 0) ff_27_0 rfl rfl rfl (wl_load_blk (i := 5) (vs := [v88]) (v := v88) tf_24 rfl rfl hS84 rfl rfl rfl (wl_lenr (e := ty_66) (l := l87) Tryz.underlying24 rfl rfl (hS84.own_ro (i := 3) rfl) (wl_sub rfl rfl rfl ?_))))))))) a ha
     obtain ⟨u101, hu101, hF⟩ := bindE hF
     refine wl_indexoF (e := ty_66) (i := 3) Tryz.underlying24 rfl rfl rfl hS84 rfl hu101 ?_
     rintro p102 _ ⟨v104, rfl, hv105⟩ hp103 ho106
     refine wl_load_p (vs := [v104]) (v := v104) tf_66 rfl rfl hp103 rfl rfl (wl_assign rfl rfl (WL.nil (fun a ha => hK100 _ _ (W.seq fun K107 hK107 => (W.region (wl_move rfl rfl (wl_move rfl rfl ?_)))) a ha)))
     obtain ⟨u108, hu108, hF⟩ := bindE hF
     refine wl_call rfl Tryz.call74 (C_spec_l1Cur__chartOf__mut__box w82 (x0.1, y85, y86) b0 v0_0 (h0_0.rsto (hS84.sel [0, 1] rfl)) (w64 (1 + u8.1)) (hS84.sel [1] rfl).base0 _ hu108) rfl ?_
     rintro _ w109 ⟨v114, F115, rfl, hE110, hM111⟩
     refine ⟨_, rfl, ?_⟩
     have hB112 := hS84.takeB [1] rfl (M := [R.blk b0 53 [v0_0, (.int .i64 y85), (.int .u64 y86)]]) rfl hB83 hE110 hM111
     have hS113 : Sep (wE w0).heap.size w109 [R.blk b0 53 [v0_0, (.int .i64 u108.2.2.1), (.int .u64 u108.2.2.2)], R.own ty_42 F115 v114 u108.1, R.rest w0 (fps [R.blk b0 53 [v0_0, (.int .i64 x0.2.1), (.int .u64 x0.2.2)]]), R.blk b2 27 [(.slice none 0 0), (.slice none 0 0), (.int .i64 0), (.int .i64 0)], R.own ty_66 F89 v88 l87, R.own ty_3 F92 v91 l90, R.blk b56 27 [v88, v91, (.int .i64 u38.1), (.int .i64 u50.1)]] := hS84.take [1] [0, 2, 3, 4, 5] rfl (M := [R.blk b0 53 [v0_0, (.int .i64 y85), (.int .u64 y86)]]) rfl hM111 hB83.size
     have hp103 := hp103.keepS (fun b hb => mut_kept hM111 b (((hS84.get (i := 3) rfl).2.1 b hb).2) (nf_cons (hS84.disj (i := 3) (j := 1) rfl rfl rfl b hb) nf_nil)) (fun _ h => h)
     have hv105 := hv105.keep (fun b hb => mut_kept hM111 b (((hS84.get (i := 3) rfl).2.1 b hb).2) (nf_cons (hS84.disj (i := 3) (j := 1) rfl rfl rfl b hb) nf_nil))
     refine wl_assign rfl rfl (WL.nil (fun a ha => hK107 _ _ (W.seq fun K116 hK116 => ?_) a ha))
     obtain ⟨k125, hk125, hF⟩ := jE3 hF
     have hJ126 : ∀ (y120 : Int) (y121 : Int) (l122 : (List (Int × Int))) (v123 : Value) (F124 : List Nat) (w117 : World) (_ : k125 y120 y121 l122 = some r) (_ : Below (wE w0).heap.size (wE w0) w117) (_ : Sep (wE w0).heap.size w117 [R.rest w0 (fps [R.blk b0 53 [v0_0, (.int .i64 x0.2.1), (.int .u64 x0.2.2)]]), R.blk b0 53 [v0_0, (.int .i64 y120), (.int .u64 y121)], R.blk b2 27 [(.slice none 0 0), (.slice none 0 0), (.int .i64 0), (.int .i64 0)], R.own ty_66 F89 v88 l87, R.own ty_3 F92 v91 l90, R.blk b56 27 [v88, v91, (.int .i64 u38.1), (.int .i64 u50.1)], R.own ty_42 F124 v123 l122]), ∀ a, St 139 [(0, (.pointer (some ⟨b0, 0, none⟩))), (2, (.pointer (some ⟨b2, 0, none⟩))), (3, (.int .i64 (w64 (1 + u8.1)))), (4, (.pointer (some ⟨b56, 0, none⟩))), (5, (.int .i64 y78)), (7, v123)] a → K116 a w117 := by
      intro y120 y121 l122 v123 F124 w117 hF hB118 hS119
      subst hk125
      refine fun a ha => hK116 _ _ (W.seq fun K127 hK127 => (W.region (wl_field (o := 0) (off' := 0) ff_27_0 rfl rfl rfl (wl_load_blk (i := 5) (vs := [v88]) (v := v88) tf_24 rfl rfl hS119 rfl rfl rfl (wl_move rfl rfl ?_))))) a ha
      have hq128 := hS119.sel [6, 0, 1, 2, 3, 4, 5] rfl
      have hq129 := hq128.head (r' := R.cel ty_66 F124 [v123] l122) (rfl) fun _ h0 => ⟨_, rfl, h0⟩
      refine wl_lit1 (e := ty_66) (vs := [v123]) Tryz.underlying24 rfl rfl (cells_one (hS119.own_ro (i := 6) rfl).one) rfl hB118 hq129 ?_
      intro v130 F131 w132 hb133 hf134 hB135 hS136
      obtain ⟨u137, hu137, hF⟩ := bindE hF
      refine wl_appendn (e := ty_66) Tryz.underlying24 rfl rfl rfl hB135 (hS136.sel [4, 0, 1, 2, 3, 5, 6] rfl) hu137 ?_
      intro v138 F139 w140 hk141 hB142 hS143
      refine wl_field (o := 0) (off' := 0) ff_27_0 rfl rfl rfl (wl_store_blk (i := 5) (vs := [v138]) (cs' := [v138, v91, (.int .i64 u38.1), (.int .i64 u50.1)]) tf_24 rfl rfl (cells_one (hS143.own_ro (i := 0) rfl).one) rfl hB142 hS143 rfl rfl ⟨(hS143.own_ro (i := 0) rfl).one, trivial⟩ rfl ?_)
      intro w144 hk147 hB145 hS146
      refine WL.nil fun a ha => hK127 _ _ (W.regionH mixed_ (([b0] ++ F92) ++ [b56]) hB145 hS146 ?_) a ha
      intro w148 hb149 hB150 hS151
      have hSW152 := KeepX.refl w148 (([b0] ++ F92) ++ [b56])
      refine WH.tk 0 rfl hP hSW152 (pr_field (o := 1) (off' := 1) ff_27_1 rfl rfl rfl (WH.tk 2 rfl hP hSW152 (pr_move rfl rfl (WH.many (is := [1, 3]) (by kernel_rfl) rfl (List.forall_mem_cons.2 ⟨⟨_, rfl, ?_⟩, List.forall_mem_cons.2 ⟨⟨_, rfl, ?_⟩, fun _ h => by cases h⟩⟩)))))
      ·
       refine wl_load_blk (i := 5) (vs := [v91]) (v := v91) tf_25 rfl rfl hS151 rfl rfl rfl (WL.nil (WH.ret hSW152 (WH.on1 3 rfl (wl_lit (vs := [(.int .i64 1), (.int .i64 4), (.int .i64 8), (.int .i64 16), (.int .i64 64)]) (l := [1, 4, 8, 16, 64]) fl_3 Tryz.underlying25 rfl rfl rfl rfl rfl rfl (Below.self w148) (Sep.nil _ _) ?_))))
       intro v153 F154 w155 hb156 hB159 hM160
       have hB157 := hB150.trans (hb156.mono hB150.size)
       have hS158 := hS151.join hb156 hM160 hB150.size
       have hSW162 := hSW152.ext hb156
       refine WL.nil (WH.ret hSW162 (WH.on1 4 rfl ?_))
       obtain ⟨u164, hu164, hF⟩ := bindE hF
       refine wl_call rfl Tryz.call53 (C_spec_l1Cur__among__mut__box w155 (x0.1, y120, y121) b0 v0_0 (h0_0.rsto (hS158.sel [2, 3] rfl)) [1, 4, 8, 16, 64] v153 (own_out (hS158.sel [0, 3] rfl)) (hS158.sel [3] rfl).base0 _ hu164) rfl ?_
       rintro _ w165 ⟨rfl, hE166, hM167⟩
       refine ⟨_, rfl, ?_⟩
       have hB168 := hS158.takeB [3] rfl (M := [R.blk b0 53 [v0_0, (.int .i64 y120), (.int .u64 y121)]]) rfl hB157 hE166 hM167
       have hS169 : Sep (wE w0).heap.size w165 [R.blk b0 53 [v0_0, (.int .i64 u164.2.2.1), (.int .u64 u164.2.2.2)], R.own ty_3 F154 v153 [1, 4, 8, 16, 64], R.own ty_66 F139 v138 u137, R.rest w0 (fps [R.blk b0 53 [v0_0, (.int .i64 x0.2.1), (.int .u64 x0.2.2)]]), R.blk b2 27 [(.slice none 0 0), (.slice none 0 0), (.int .i64 0), (.int .i64 0)], R.own ty_3 F92 v91 l90, R.blk b56 27 [v138, v91, (.int .i64 u38.1), (.int .i64 u50.1)]] := hS158.take [3] [0, 1, 2, 4, 5, 6] rfl (M := [R.blk b0 53 [v0_0, (.int .i64 y120), (.int .u64 y121)]]) rfl hM167 hB157.size
       have hk170 := box_kept hM167
       have hSW171 := hSW162.wr' hk170.1 hk170.2.1 (fun _ _ h => List.mem_append_left _ (List.mem_append_left _ (h)))
       refine WL.nil (WH.ret hSW171 (WH.on1 5 rfl (wl_lit (vs := [(.int .i64 u164.1)]) (l := [u164.1]) fl_3 Tryz.underlying25 rfl rfl rfl rfl rfl rfl (Below.self w165) (Sep.nil _ _) ?_)))
       intro v173 F174 w175 hb176 hB179 hM180
       have hB177 := hB168.trans (hb176.mono hB168.size)
       have hS178 := hS169.join hb176 hM180 hB168.size
       have hSW182 := hSW171.ext hb176
       refine WL.nil (WH.ret hSW182 (WH.on1 6 rfl ?_))
       obtain ⟨u183, hu183, hF⟩ := bindE hF
       refine wl_append (i := 6) (S := (· < w175.heap.size)) fl_3 Tryz.underlying25 rfl rfl rfl hB177 hS178 rfl (hS178.own_ro (i := 0) rfl) hu183 ?_
       intro v184 F185 w186 hk187 hB188 hS189
       have hSW190 := hSW182.wr' hk187.1 hk187.2.1 (fun _ _ h => List.mem_append_left _ (List.mem_append_right _ h))
       refine WL.nil (WH.ret hSW190 (WH.tk 7 rfl hP hSW190 (pr_field (o := 1) (off' := 1) ff_27_1 rfl rfl rfl (WH.on1 8 rfl (wl_store_blk (i := 7) (vs := [v184]) (cs' := [v138, v184, (.int .i64 u38.1), (.int .i64 u50.1)]) tf_25 rfl rfl (cells_one (hS189.own_ro (i := 6) rfl).one) rfl hB188 hS189 rfl rfl ⟨(hS189.own_ro (i := 6) rfl).one, trivial⟩ rfl ?_)))))
       intro w192 hk195 hB193 hS194
       have hSW196 := hSW190.wr' hk195.1 hk195.2.1 (fun _ _ h => List.mem_append_right _ h)
       refine WL.nil (WH.ret hSW196 (WH.done (by kernel_rfl) ?_))
       rw [hnx93] at hF
       exact fun a ha => hKL95 a _ m96 (Nat.lt_succ_self m96) ⟨u164.2.2.1, u164.2.2.2, u137, u183, v138, F139, v184, F185, ha.sub ⟨rfl, rfl, rfl, rfl, rfl, trivial⟩, hB193, (hS194.sel [4, 1, 5, 3, 6, 7] rfl), hF⟩
      ·
       refine wl_lit (vs := [(.int .i64 1), (.int .i64 4), (.int .i64 8), (.int .i64 16), (.int .i64 64)]) (l := [1, 4, 8, 16, 64]) fl_3 Tryz.underlying25 rfl rfl rfl rfl rfl rfl (Below.self w148) (Sep.nil _ _) ?_
       intro v198 F199 w200 hb201 hB204 hM205
       have hB202 := hB150.trans (hb201.mono hB150.size)
       have hS203 := hS151.join hb201 hM205 hB150.size
       have hSW207 := hSW152.ext hb201
       refine WL.nil (WH.ret hSW207 (WH.many (is := [1, 4]) (by kernel_rfl) rfl (List.forall_mem_cons.2 ⟨⟨_, rfl, ?_⟩, List.forall_mem_cons.2 ⟨⟨_, rfl, ?_⟩, fun _ h => by cases h⟩⟩)))
       ·
        refine wl_load_blk (i := 6) (vs := [v91]) (v := v91) tf_25 rfl rfl hS203 rfl rfl rfl (WL.nil (WH.ret hSW207 (WH.on1 4 rfl ?_)))
        obtain ⟨u209, hu209, hF⟩ := bindE hF
        refine wl_call rfl Tryz.call53 (C_spec_l1Cur__among__mut__box w200 (x0.1, y120, y121) b0 v0_0 (h0_0.rsto (hS203.sel [2, 3] rfl)) [1, 4, 8, 16, 64] v198 (own_out (hS203.sel [0, 3] rfl)) (hS203.sel [3] rfl).base0 _ hu209) rfl ?_
        rintro _ w210 ⟨rfl, hE211, hM212⟩
        refine ⟨_, rfl, ?_⟩
        have hB213 := hS203.takeB [3] rfl (M := [R.blk b0 53 [v0_0, (.int .i64 y120), (.int .u64 y121)]]) rfl hB202 hE211 hM212
        have hS214 : Sep (wE w0).heap.size w210 [R.blk b0 53 [v0_0, (.int .i64 u209.2.2.1), (.int .u64 u209.2.2.2)], R.own ty_3 F199 v198 [1, 4, 8, 16, 64], R.own ty_66 F139 v138 u137, R.rest w0 (fps [R.blk b0 53 [v0_0, (.int .i64 x0.2.1), (.int .u64 x0.2.2)]]), R.blk b2 27 [(.slice none 0 0), (.slice none 0 0), (.int .i64 0), (.int .i64 0)], R.own ty_3 F92 v91 l90, R.blk b56 27 [v138, v91, (.int .i64 u38.1), (.int .i64 u50.1)]] := hS203.take [3] [0, 1, 2, 4, 5, 6] rfl (M := [R.blk b0 53 [v0_0, (.int .i64 y120), (.int .u64 y121)]]) rfl hM212 hB202.size
        have hk215 := box_kept hM212
        have hSW216 := hSW207.wr' hk215.1 hk215.2.1 (fun _ _ h => List.mem_append_left _ (List.mem_append_left _ (h)))
        refine WL.nil (WH.ret hSW216 (WH.on1 5 rfl (wl_lit (vs := [(.int .i64 u209.1)]) (l := [u209.1]) fl_3 Tryz.underlying25 rfl rfl rfl rfl rfl rfl (Below.self w210) (Sep.nil _ _) ?_)))
        intro v218 F219 w220 hb221 hB224 hM225
        have hB222 := hB213.trans (hb221.mono hB213.size)
        have hS223 := hS214.join hb221 hM225 hB213.size
        have hSW227 := hSW216.ext hb221
        refine WL.nil (WH.ret hSW227 (WH.on1 6 rfl ?_))
        obtain ⟨u228, hu228, hF⟩ := bindE hF
        refine wl_append (i := 6) (S := (· < w220.heap.size)) fl_3 Tryz.underlying25 rfl rfl rfl hB222 hS223 rfl (hS223.own_ro (i := 0) rfl) hu228 ?_
        intro v229 F230 w231 hk232 hB233 hS234
        have hSW235 := hSW227.wr' hk232.1 hk232.2.1 (fun _ _ h => List.mem_append_left _ (List.mem_append_right _ h))
        refine WL.nil (WH.ret hSW235 (WH.tk 7 rfl hP hSW235 (pr_field (o := 1) (off' := 1) ff_27_1 rfl rfl rfl (WH.on1 8 rfl (wl_store_blk (i := 7) (vs := [v229]) (cs' := [v138, v229, (.int .i64 u38.1), (.int .i64 u50.1)]) tf_25 rfl rfl (cells_one (hS234.own_ro (i := 6) rfl).one) rfl hB233 hS234 rfl rfl ⟨(hS234.own_ro (i := 6) rfl).one, trivial⟩ rfl ?_)))))
        intro w237 hk240 hB238 hS239
        have hSW241 := hSW235.wr' hk240.1 hk240.2.1 (fun _ _ h => List.mem_append_right _ h)
        refine WL.nil (WH.ret hSW241 (WH.done (by kernel_rfl) ?_))
        rw [hnx93] at hF
        exact fun a ha => hKL95 a _ m96 (Nat.lt_succ_self m96) ⟨u209.2.2.1, u209.2.2.2, u137, u228, v138, F139, v229, F230, ha.sub ⟨rfl, rfl, rfl, rfl, rfl, trivial⟩, hB238, (hS239.sel [4, 1, 5, 3, 6, 7] rfl), hF⟩
       ·
        obtain ⟨u243, hu243, hF⟩ := bindE hF
        refine wl_call rfl Tryz.call53 (C_spec_l1Cur__among__mut__box w200 (x0.1, y120, y121) b0 v0_0 (h0_0.rsto (hS203.sel [2, 3] rfl)) [1, 4, 8, 16, 64] v198 (own_out (hS203.sel [0, 3] rfl)) (hS203.sel [3] rfl).base0 _ hu243) rfl ?_
        rintro _ w244 ⟨rfl, hE245, hM246⟩
        refine ⟨_, rfl, ?_⟩
        have hB247 := hS203.takeB [3] rfl (M := [R.blk b0 53 [v0_0, (.int .i64 y120), (.int .u64 y121)]]) rfl hB202 hE245 hM246
        have hS248 : Sep (wE w0).heap.size w244 [R.blk b0 53 [v0_0, (.int .i64 u243.2.2.1), (.int .u64 u243.2.2.2)], R.own ty_3 F199 v198 [1, 4, 8, 16, 64], R.own ty_66 F139 v138 u137, R.rest w0 (fps [R.blk b0 53 [v0_0, (.int .i64 x0.2.1), (.int .u64 x0.2.2)]]), R.blk b2 27 [(.slice none 0 0), (.slice none 0 0), (.int .i64 0), (.int .i64 0)], R.own ty_3 F92 v91 l90, R.blk b56 27 [v138, v91, (.int .i64 u38.1), (.int .i64 u50.1)]] := hS203.take [3] [0, 1, 2, 4, 5, 6] rfl (M := [R.blk b0 53 [v0_0, (.int .i64 y120), (.int .u64 y121)]]) rfl hM246 hB202.size
        have hk249 := box_kept hM246
        have hSW250 := hSW207.wr' hk249.1 hk249.2.1 (fun _ _ h => List.mem_append_left _ (List.mem_append_left _ (h)))
        refine WL.nil (WH.ret hSW250 (WH.many (is := [1, 5]) (by kernel_rfl) rfl (List.forall_mem_cons.2 ⟨⟨_, rfl, ?_⟩, List.forall_mem_cons.2 ⟨⟨_, rfl, ?_⟩, fun _ h => by cases h⟩⟩)))
        ·
         refine wl_load_blk (i := 6) (vs := [v91]) (v := v91) tf_25 rfl rfl hS248 rfl rfl rfl (WL.nil (WH.ret hSW250 (WH.on1 5 rfl (wl_lit (vs := [(.int .i64 u243.1)]) (l := [u243.1]) fl_3 Tryz.underlying25 rfl rfl rfl rfl rfl rfl (Below.self w244) (Sep.nil _ _) ?_))))
         intro v252 F253 w254 hb255 hB258 hM259
         have hB256 := hB247.trans (hb255.mono hB247.size)
         have hS257 := hS248.join hb255 hM259 hB247.size
         have hSW261 := hSW250.ext hb255
         refine WL.nil (WH.ret hSW261 (WH.on1 6 rfl ?_))
         obtain ⟨u262, hu262, hF⟩ := bindE hF
         refine wl_append (i := 6) (S := (· < w254.heap.size)) fl_3 Tryz.underlying25 rfl rfl rfl hB256 hS257 rfl (hS257.own_ro (i := 0) rfl) hu262 ?_
         intro v263 F264 w265 hk266 hB267 hS268
         have hSW269 := hSW261.wr' hk266.1 hk266.2.1 (fun _ _ h => List.mem_append_left _ (List.mem_append_right _ h))
         refine WL.nil (WH.ret hSW269 (WH.tk 7 rfl hP hSW269 (pr_field (o := 1) (off' := 1) ff_27_1 rfl rfl rfl (WH.on1 8 rfl (wl_store_blk (i := 7) (vs := [v263]) (cs' := [v138, v263, (.int .i64 u38.1), (.int .i64 u50.1)]) tf_25 rfl rfl (cells_one (hS268.own_ro (i := 6) rfl).one) rfl hB267 hS268 rfl rfl ⟨(hS268.own_ro (i := 6) rfl).one, trivial⟩ rfl ?_)))))
         intro w271 hk274 hB272 hS273
         have hSW275 := hSW269.wr' hk274.1 hk274.2.1 (fun _ _ h => List.mem_append_right _ h)
         refine WL.nil (WH.ret hSW275 (WH.done (by kernel_rfl) ?_))
         rw [hnx93] at hF
         exact fun a ha => hKL95 a _ m96 (Nat.lt_succ_self m96) ⟨u243.2.2.1, u243.2.2.2, u137, u262, v138, F139, v263, F264, ha.sub ⟨rfl, rfl, rfl, rfl, rfl, trivial⟩, hB272, (hS273.sel [4, 1, 5, 3, 6, 7] rfl), hF⟩
        ·
         refine wl_lit (vs := [(.int .i64 u243.1)]) (l := [u243.1]) fl_3 Tryz.underlying25 rfl rfl rfl rfl rfl rfl (Below.self w244) (Sep.nil _ _) ?_
         intro v277 F278 w279 hb280 hB283 hM284
         have hB281 := hB247.trans (hb280.mono hB247.size)
         have hS282 := hS248.join hb280 hM284 hB247.size
         have hSW286 := hSW250.ext hb280
         refine WL.nil (WH.ret hSW286 (WH.on1 1 rfl (wl_load_blk (i := 7) (vs := [v91]) (v := v91) tf_25 rfl rfl hS282 rfl rfl rfl (WL.nil (WH.ret hSW286 (WH.on1 6 rfl ?_))))))
         obtain ⟨u287, hu287, hF⟩ := bindE hF
         refine wl_append (i := 6) (S := (· < w279.heap.size)) fl_3 Tryz.underlying25 rfl rfl rfl hB281 hS282 rfl (hS282.own_ro (i := 0) rfl) hu287 ?_
         intro v288 F289 w290 hk291 hB292 hS293
         have hSW294 := hSW286.wr' hk291.1 hk291.2.1 (fun _ _ h => List.mem_append_left _ (List.mem_append_right _ h))
         refine WL.nil (WH.ret hSW294 (WH.tk 7 rfl hP hSW294 (pr_field (o := 1) (off' := 1) ff_27_1 rfl rfl rfl (WH.on1 8 rfl (wl_store_blk (i := 7) (vs := [v288]) (cs' := [v138, v288, (.int .i64 u38.1), (.int .i64 u50.1)]) tf_25 rfl rfl (cells_one (hS293.own_ro (i := 6) rfl).one) rfl hB292 hS293 rfl rfl ⟨(hS293.own_ro (i := 6) rfl).one, trivial⟩ rfl ?_)))))
         intro w296 hk299 hB297 hS298
         have hSW300 := hSW294.wr' hk299.1 hk299.2.1 (fun _ _ h => List.mem_append_right _ h)
         refine WL.nil (WH.ret hSW300 (WH.done (by kernel_rfl) ?_))
         rw [hnx93] at hF
         exact fun a ha => hKL95 a _ m96 (Nat.lt_succ_self m96) ⟨u243.2.2.1, u243.2.2.2, u137, u287, v138, F139, v288, F289, ha.sub ⟨rfl, rfl, rfl, rfl, rfl, trivial⟩, hB297, (hS298.sel [4, 1, 5, 3, 6, 7] rfl), hF⟩
     refine W.seq fun K302 hK302 => W.region (wl_move rfl rfl ?_)
     obtain ⟨u303, hu303, hF⟩ := bindE hF
     refine wl_call rfl Tryz.call27 (C_spec_l1Cur__one__mut__box w109 (x0.1, u108.2.2.1, u108.2.2.2) b0 v0_0 (h0_0.rsto (hS113.sel [2, 0] rfl)) 3 (hS113.sel [0] rfl).base0 _ hu303) rfl ?_
     rintro _ w304 ⟨rfl, hE305, hM306⟩
     refine ⟨_, rfl, ?_⟩
     have hB307 := hS113.takeB [0] rfl (M := [R.blk b0 53 [v0_0, (.int .i64 u108.2.2.1), (.int .u64 u108.2.2.2)]]) rfl hB112 hE305 hM306
     have hS308 : Sep (wE w0).heap.size w304 [R.blk b0 53 [v0_0, (.int .i64 u303.2.2.1), (.int .u64 u303.2.2.2)], R.own ty_42 F115 v114 u108.1, R.rest w0 (fps [R.blk b0 53 [v0_0, (.int .i64 x0.2.1), (.int .u64 x0.2.2)]]), R.blk b2 27 [(.slice none 0 0), (.slice none 0 0), (.int .i64 0), (.int .i64 0)], R.own ty_66 F89 v88 l87, R.own ty_3 F92 v91 l90, R.blk b56 27 [v88, v91, (.int .i64 u38.1), (.int .i64 u50.1)]] := hS113.take [0] [1, 2, 3, 4, 5, 6] rfl (M := [R.blk b0 53 [v0_0, (.int .i64 u108.2.2.1), (.int .u64 u108.2.2.2)]]) rfl hM306 hB112.size
     have hp103 := hp103.keepS (fun b hb => mut_kept hM306 b (((hS113.get (i := 4) rfl).2.1 b hb).2) (nf_cons (hS113.disj (i := 4) (j := 0) rfl rfl rfl b hb) nf_nil)) (fun _ h => h)
     have hv105 := hv105.keep (fun b hb => mut_kept hM306 b (((hS113.get (i := 4) rfl).2.1 b hb).2) (nf_cons (hS113.disj (i := 4) (j := 0) rfl rfl rfl b hb) nf_nil))
     refine wl_not rfl rfl (WL.nil (fun a ha => hK302 _ _ (W.cond rfl (fun h309 => ?_) (fun h309 => ?_)) a ha))
     ·replace hF := ifP h309 hF
      refine W.seq fun K310 hK310 => W.region (wl_move rfl rfl ?_)
      obtain ⟨u311, hu311, hF⟩ := bindE hF
      refine wl_call rfl Tryz.call75 (C_spec_chOwn w304 u101 v104 (hv105.mono (fun b hb => ((hS308.get (i := 4) rfl).2.1 b hb).2)) _ hu311) rfl ?_
      rintro _ w314 ⟨v312, F313, rfl, hb315, hM318⟩
      refine ⟨_, rfl, ?_⟩
      have hB316 := hB307.trans (hb315.mono hB307.size)
      have hS317 := hS308.join hb315 hM318 hB307.size
      have hp103 := hp103.keepS (fun b hb => hb315.block b (((hS308.get (i := 4) rfl).2.1 b hb).2)) (fun _ h => h)
      have hv105 := hv105.keep (fun b hb => hb315.block b (((hS308.get (i := 4) rfl).2.1 b hb).2))
      refine wl_assign rfl rfl (WL.nil (fun a ha => hK310 _ _ (W.seq fun K319 hK319 => (W.seq fun K320 hK320 => (W.region (wl_move rfl rfl (wl_lenr (e := ty_42) (l := u311) Tryz.underlying66 rfl rfl (hS317.own_ro (i := 0) rfl) (wl_move rfl rfl (WL.nil (fun a ha => hK320 _ _ (W.block ?_) a ha)))))))) a ha))
      refine W.loopk (fun m a w321 => ∃ (y324 : Int) (y325 : Int) (l327 : (List (Int × Int))) (y330 : Int) (v328 : Value) (F329 : List Nat), St 139 [(0, (.pointer (some ⟨b0, 0, none⟩))), (2, (.pointer (some ⟨b2, 0, none⟩))), (3, (.int .i64 (w64 (1 + u8.1)))), (4, (.pointer (some ⟨b56, 0, none⟩))), (5, (.int .i64 y78)), (6, v104), (7, v328), (53, (.int .i64 (List.length u311 : Int))), (54, (.int .i64 y330))] a ∧ Below (wE w0).heap.size (wE w0) w321 ∧ Sep (wE w0).heap.size w321 [R.rest w0 (fps [R.blk b0 53 [v0_0, (.int .i64 x0.2.1), (.int .u64 x0.2.2)]]), R.blk b0 53 [v0_0, (.int .i64 y324), (.int .u64 y325)], R.blk b2 27 [(.slice none 0 0), (.slice none 0 0), (.int .i64 0), (.int .i64 0)], R.own ty_66 F89 v88 l87, R.own ty_3 F92 v91 l90, R.blk b56 27 [v88, v91, (.int .i64 u38.1), (.int .i64 u50.1)], R.own ty_42 F329 v328 l327] ∧ (rdS ty_42 (· ∈ F89) w321 v104 u101) ∧ F_spec_l1Cur__show__mut__box_L2 u311 x0 u101 k125 m y324 y325 l327 y330 = some r) FU ?_ ?_
      ·
       exact fun a ha => ⟨u303.2.2.1, u303.2.2.2, u311, 0, v312, F313, ha.sub ⟨rfl, rfl, rfl, rfl, rfl, rfl, rfl, rfl, rfl, trivial⟩, hB316, (hS317.sel [3, 1, 4, 5, 6, 7, 0] rfl), hv105, hF⟩
      ·
       rintro m333 a w321 ⟨y324, y325, l327, y330, v328, F329, ha, hB322, hS323, hr326, hF⟩ KL332 hKL332
       refine W.at ?_ ha
       cases m333 with
       | zero => exact noneE hF
       | succ m333 =>
        obtain ⟨nx331, hnx331⟩ : ∃ k, k = F_spec_l1Cur__show__mut__box_L2 u311 x0 u101 k125 m333 := ⟨_, rfl⟩
        rw [F_spec_l1Cur__show__mut__box_L2, ← hnx331] at hF
        refine W.seq fun K334 hK334 => W.region (wl_lss rfl rfl rfl (WL.nil (fun a ha => hK334 _ _ (W.seq fun K335 hK335 => (W.cond rfl (fun h336 => ?_) (fun h336 => ?_))) a ha)))
        ·replace hF := ifP h336 hF
         refine W.skip fun a ha => hK335 _ _ (W.seq fun K337 hK337 => ?_) a ha
         obtain ⟨k347, hk347, hF⟩ := jE3 hF
         have hJ348 : ∀ (y341 : Int) (y342 : Int) (l344 : (List (Int × Int))) (v345 : Value) (F346 : List Nat) (w338 : World) (hr343 : rdS ty_42 (· ∈ F89) w338 v104 u101) (_ : k347 y341 y342 l344 = some r) (_ : Below (wE w0).heap.size (wE w0) w338) (_ : Sep (wE w0).heap.size w338 [R.rest w0 (fps [R.blk b0 53 [v0_0, (.int .i64 x0.2.1), (.int .u64 x0.2.2)]]), R.blk b0 53 [v0_0, (.int .i64 y341), (.int .u64 y342)], R.blk b2 27 [(.slice none 0 0), (.slice none 0 0), (.int .i64 0), (.int .i64 0)], R.own ty_66 F89 v88 l87, R.own ty_3 F92 v91 l90, R.blk b56 27 [v88, v91, (.int .i64 u38.1), (.int .i64 u50.1)], R.own ty_42 F346 v345 l344]), ∀ a, St 139 [(0, (.pointer (some ⟨b0, 0, none⟩))), (2, (.pointer (some ⟨b2, 0, none⟩))), (3, (.int .i64 (w64 (1 + u8.1)))), (4, (.pointer (some ⟨b56, 0, none⟩))), (5, (.int .i64 y78)), (6, v104), (7, v345), (53, (.int .i64 (List.length u311 : Int))), (54, (.int .i64 y330))] a → K337 a w338 := by
          intro y341 y342 l344 v345 F346 w338 hr343 hF hB339 hS340
          subst hk347
          refine fun a ha => hK337 _ _ (W.region (wl_add rfl rfl rfl (wl_move rfl rfl (WL.nil ?_)))) a ha
          rw [hnx331] at hF
          exact fun a ha => hKL332 a _ m333 (Nat.lt_succ_self m333) ⟨y341, y342, l344, (w64 (y330 + 1)), v345, F346, ha.sub ⟨rfl, rfl, rfl, rfl, rfl, rfl, rfl, rfl, rfl, trivial⟩, hB339, (hS340.sel [0, 1, 2, 3, 4, 5, 6] rfl), hr343, hF⟩
         refine W.block (W.seq fun K349 hK349 => (W.region (wl_move rfl rfl (wl_assign rfl rfl (WL.nil (fun a ha => hK349 _ _ (W.regionH mixed_ ([b0] ++ F329) hB322 hS323 ?_) a ha))))))
         intro w350 hb351 hB352 hS353
         have hr326 := hr326.keep (fun b hb => hb351.block b (((hS323.get (i := 3) rfl).2.1 b hb).2))
         have hSW354 := KeepX.refl w350 ([b0] ++ F329)
         refine WH.tk 0 rfl hP hSW354 (pr_move rfl rfl (WH.tk 1 rfl hP hSW354 (pr_move rfl rfl (WH.tk 2 rfl hP hSW354 (pr_move rfl rfl (WH.tk 3 rfl hP hSW354 (pr_move rfl rfl ?_)))))))
         obtain ⟨u355, hu355, hF⟩ := bindE hF
         refine WH.tk 4 rfl hP hSW354 (pr_indexoF (e := ty_42) (i := 6) Tryz.underlying66 rfl rfl rfl hS353 rfl hu355 ?_)
         rintro p356 _ rfl hp357 ho358
         refine WH.tk 5 rfl hP hSW354 (pr_fieldp (o := 0) ff_42_0 rfl rfl (WH.tk 7 rfl hP hSW354 (pr_move rfl rfl (WH.many (is := [6, 8]) (by kernel_rfl) rfl (List.forall_mem_cons.2 ⟨⟨_, rfl, ?_⟩, List.forall_mem_cons.2 ⟨⟨_, rfl, ?_⟩, fun _ h => by cases h⟩⟩)))))
         ·
          refine wl_load_p (vs := [(.int .i64 u355.1)]) (v := (.int .i64 u355.1)) tf_3 rfl rfl (hp357.add 0) rfl rfl (WL.nil (WH.ret hSW354 (WH.on1 8 rfl (wl_lit (vs := [(.int .i64 0), (.int .i64 8), (.int .i64 16), (.int .i64 40)]) (l := [0, 8, 16, 40]) fl_3 Tryz.underlying25 rfl rfl rfl rfl rfl rfl (Below.self w350) (Sep.nil _ _) ?_))))
          intro v359 F360 w361 hb362 hB365 hM366
          have hB363 := hB352.trans (hb362.mono hB352.size)
          have hS364 := hS353.join hb362 hM366 hB352.size
          have hpv368 := hr326.keep (fun b hb => hb362.block b (((hS353.get (i := 3) rfl).2.1 b hb).2))
          have hSW370 := hSW354.ext hb362
          refine WL.nil (WH.ret hSW370 (WH.on1 9 rfl ?_))
          obtain ⟨u372, hu372, hF⟩ := bindE hF
          refine wl_call rfl Tryz.call53 (C_spec_l1Cur__among__mut__box w361 (x0.1, y324, y325) b0 v0_0 (h0_0.rsto (hS364.sel [1, 2] rfl)) [0, 8, 16, 40] v359 (own_out (hS364.sel [0, 2] rfl)) (hS364.sel [2] rfl).base0 _ hu372) rfl ?_
          rintro _ w373 ⟨rfl, hE374, hM375⟩
          refine ⟨_, rfl, ?_⟩
          have hB376 := hS364.takeB [2] rfl (M := [R.blk b0 53 [v0_0, (.int .i64 y324), (.int .u64 y325)]]) rfl hB363 hE374 hM375
          have hS377 : Sep (wE w0).heap.size w373 [R.blk b0 53 [v0_0, (.int .i64 u372.2.2.1), (.int .u64 u372.2.2.2)], R.own ty_3 F360 v359 [0, 8, 16, 40], R.rest w0 (fps [R.blk b0 53 [v0_0, (.int .i64 x0.2.1), (.int .u64 x0.2.2)]]), R.blk b2 27 [(.slice none 0 0), (.slice none 0 0), (.int .i64 0), (.int .i64 0)], R.own ty_66 F89 v88 l87, R.own ty_3 F92 v91 l90, R.blk b56 27 [v88, v91, (.int .i64 u38.1), (.int .i64 u50.1)], R.own ty_42 F329 v328 l327] := hS364.take [2] [0, 1, 3, 4, 5, 6, 7] rfl (M := [R.blk b0 53 [v0_0, (.int .i64 y324), (.int .u64 y325)]]) rfl hM375 hB363.size
          have hk378 := box_kept hM375
          have hpv379 := hpv368.keep (fun b hb => hk378.2.1 b (((hS364.get (i := 4) rfl).2.1 b hb).2) (hS364.disj (i := 4) (j := 2) rfl rfl rfl b hb))
          have hSW381 := hSW370.wr' hk378.1 hk378.2.1 (fun _ _ h => List.mem_append_left _ (h))
          refine WL.nil (WH.ret hSW381 (WH.tk 10 rfl hP hSW381 (pr_add rfl rfl rfl (WH.on1 11 rfl ?_))))
          obtain ⟨u383, hu383, hF⟩ := bindE hF
          refine wl_call rfl Tryz.call76 (C_spec_l1Least w373 1280 (w64 (u355.1 + u372.1)) _ hu383) rfl ?_
          rintro _ w384 ⟨rfl, hb385⟩
          refine ⟨_, rfl, ?_⟩
          have hB386 := hB376.trans (hb385.mono hB376.size)
          have hS387 := hS377.below hb385
          have hpv389 := hpv379.keep (fun b hb => hb385.block b (((hS377.get (i := 4) rfl).2.1 b hb).2))
          have hSW391 := hSW381.ext hb385
          refine WL.nil (WH.ret hSW391 (WH.on1 12 rfl ?_))
          obtain ⟨u392, hu392, hF⟩ := bindE hF
          refine wl_indexoF (e := ty_42) (i := 7) Tryz.underlying66 rfl rfl rfl hS387 rfl hu392 ?_
          rintro p393 _ rfl hp394 ho395
          refine WL.nil (WH.ret hSW391 (WH.tk 13 rfl hP hSW391 (pr_fieldp (o := 0) ff_42_0 rfl rfl (WH.on1 14 rfl (wl_storeo (i := 7) (o := 0) (vs := [(.int .i64 u383)]) (u' := (u383, u392.2)) fl_42 tf_3 rfl rfl rfl rfl ho395 hu392 hB386 hS387 rfl rfl ⟨rfl, trivial⟩ rfl ?_)))))
          intro w396 hk399 hB397 hS398
          have hpv400 := hpv389.keep (fun b hb => hk399.2.1 b (((hS387.get (i := 4) rfl).2.1 b hb).2) (hS387.disj (i := 4) (j := 7) rfl rfl rfl b hb))
          have hSW401 := hSW391.wr' hk399.1 hk399.2.1 (fun _ _ h => List.mem_append_right _ h)
          refine WL.nil (WH.ret hSW401 (WH.done (by kernel_rfl) ?_))
          have hr326 := hpv400
          exact fun a ha => hJ348 (u372.2.2.1) (u372.2.2.2) ((seti l327 y330 (u383, u392.2))) (v328) (F329) _ hr326 hF hB397 (hS398.sel [2, 0, 3, 4, 5, 6, 7] rfl) a (ha.sub ⟨rfl, rfl, rfl, rfl, rfl, rfl, rfl, rfl, rfl, trivial⟩)
         ·
          refine wl_lit (vs := [(.int .i64 0), (.int .i64 8), (.int .i64 16), (.int .i64 40)]) (l := [0, 8, 16, 40]) fl_3 Tryz.underlying25 rfl rfl rfl rfl rfl rfl (Below.self w350) (Sep.nil _ _) ?_
          intro v403 F404 w405 hb406 hB409 hM410
          have hB407 := hB352.trans (hb406.mono hB352.size)
          have hS408 := hS353.join hb406 hM410 hB352.size
          have hpv412 := hr326.keep (fun b hb => hb406.block b (((hS353.get (i := 3) rfl).2.1 b hb).2))
          have hpv413 := hp357.keepS (fun b hb => hb406.block b (((hS353.get (i := 6) rfl).2.1 b hb).2)) (fun _ h => h)
          have hSW414 := hSW354.ext hb406
          refine WL.nil (WH.ret hSW414 (WH.many (is := [6, 9]) (by kernel_rfl) rfl (List.forall_mem_cons.2 ⟨⟨_, rfl, ?_⟩, List.forall_mem_cons.2 ⟨⟨_, rfl, ?_⟩, fun _ h => by cases h⟩⟩)))
          ·
           refine wl_load_p (vs := [(.int .i64 u355.1)]) (v := (.int .i64 u355.1)) tf_3 rfl rfl (hpv413.add 0) rfl rfl (WL.nil (WH.ret hSW414 (WH.on1 9 rfl ?_)))
           obtain ⟨u416, hu416, hF⟩ := bindE hF
           refine wl_call rfl Tryz.call53 (C_spec_l1Cur__among__mut__box w405 (x0.1, y324, y325) b0 v0_0 (h0_0.rsto (hS408.sel [1, 2] rfl)) [0, 8, 16, 40] v403 (own_out (hS408.sel [0, 2] rfl)) (hS408.sel [2] rfl).base0 _ hu416) rfl ?_
           rintro _ w417 ⟨rfl, hE418, hM419⟩
           refine ⟨_, rfl, ?_⟩
           have hB420 := hS408.takeB [2] rfl (M := [R.blk b0 53 [v0_0, (.int .i64 y324), (.int .u64 y325)]]) rfl hB407 hE418 hM419
           have hS421 : Sep (wE w0).heap.size w417 [R.blk b0 53 [v0_0, (.int .i64 u416.2.2.1), (.int .u64 u416.2.2.2)], R.own ty_3 F404 v403 [0, 8, 16, 40], R.rest w0 (fps [R.blk b0 53 [v0_0, (.int .i64 x0.2.1), (.int .u64 x0.2.2)]]), R.blk b2 27 [(.slice none 0 0), (.slice none 0 0), (.int .i64 0), (.int .i64 0)], R.own ty_66 F89 v88 l87, R.own ty_3 F92 v91 l90, R.blk b56 27 [v88, v91, (.int .i64 u38.1), (.int .i64 u50.1)], R.own ty_42 F329 v328 l327] := hS408.take [2] [0, 1, 3, 4, 5, 6, 7] rfl (M := [R.blk b0 53 [v0_0, (.int .i64 y324), (.int .u64 y325)]]) rfl hM419 hB407.size
           have hk422 := box_kept hM419
           have hpv423 := hpv412.keep (fun b hb => hk422.2.1 b (((hS408.get (i := 4) rfl).2.1 b hb).2) (hS408.disj (i := 4) (j := 2) rfl rfl rfl b hb))
           have hSW425 := hSW414.wr' hk422.1 hk422.2.1 (fun _ _ h => List.mem_append_left _ (h))
           refine WL.nil (WH.ret hSW425 (WH.tk 10 rfl hP hSW425 (pr_add rfl rfl rfl (WH.on1 11 rfl ?_))))
           obtain ⟨u427, hu427, hF⟩ := bindE hF
           refine wl_call rfl Tryz.call76 (C_spec_l1Least w417 1280 (w64 (u355.1 + u416.1)) _ hu427) rfl ?_
           rintro _ w428 ⟨rfl, hb429⟩
           refine ⟨_, rfl, ?_⟩
           have hB430 := hB420.trans (hb429.mono hB420.size)
           have hS431 := hS421.below hb429
           have hpv433 := hpv423.keep (fun b hb => hb429.block b (((hS421.get (i := 4) rfl).2.1 b hb).2))
           have hSW435 := hSW425.ext hb429
           refine WL.nil (WH.ret hSW435 (WH.on1 12 rfl ?_))
           obtain ⟨u436, hu436, hF⟩ := bindE hF
           refine wl_indexoF (e := ty_42) (i := 7) Tryz.underlying66 rfl rfl rfl hS431 rfl hu436 ?_
           rintro p437 _ rfl hp438 ho439
           refine WL.nil (WH.ret hSW435 (WH.tk 13 rfl hP hSW435 (pr_fieldp (o := 0) ff_42_0 rfl rfl (WH.on1 14 rfl (wl_storeo (i := 7) (o := 0) (vs := [(.int .i64 u427)]) (u' := (u427, u436.2)) fl_42 tf_3 rfl rfl rfl rfl ho439 hu436 hB430 hS431 rfl rfl ⟨rfl, trivial⟩ rfl ?_)))))
           intro w440 hk443 hB441 hS442
           have hpv444 := hpv433.keep (fun b hb => hk443.2.1 b (((hS431.get (i := 4) rfl).2.1 b hb).2) (hS431.disj (i := 4) (j := 7) rfl rfl rfl b hb))
           have hSW445 := hSW435.wr' hk443.1 hk443.2.1 (fun _ _ h => List.mem_append_right _ h)
           refine WL.nil (WH.ret hSW445 (WH.done (by kernel_rfl) ?_))
           have hr326 := hpv444
           exact fun a ha => hJ348 (u416.2.2.1) (u416.2.2.2) ((seti l327 y330 (u427, u436.2))) (v328) (F329) _ hr326 hF hB441 (hS442.sel [2, 0, 3, 4, 5, 6, 7] rfl) a (ha.sub ⟨rfl, rfl, rfl, rfl, rfl, rfl, rfl, rfl, rfl, trivial⟩)
          ·
           obtain ⟨u447, hu447, hF⟩ := bindE hF
           refine wl_call rfl Tryz.call53 (C_spec_l1Cur__among__mut__box w405 (x0.1, y324, y325) b0 v0_0 (h0_0.rsto (hS408.sel [1, 2] rfl)) [0, 8, 16, 40] v403 (own_out (hS408.sel [0, 2] rfl)) (hS408.sel [2] rfl).base0 _ hu447) rfl ?_
           rintro _ w448 ⟨rfl, hE449, hM450⟩
           refine ⟨_, rfl, ?_⟩
           have hB451 := hS408.takeB [2] rfl (M := [R.blk b0 53 [v0_0, (.int .i64 y324), (.int .u64 y325)]]) rfl hB407 hE449 hM450
           have hS452 : Sep (wE w0).heap.size w448 [R.blk b0 53 [v0_0, (.int .i64 u447.2.2.1), (.int .u64 u447.2.2.2)], R.own ty_3 F404 v403 [0, 8, 16, 40], R.rest w0 (fps [R.blk b0 53 [v0_0, (.int .i64 x0.2.1), (.int .u64 x0.2.2)]]), R.blk b2 27 [(.slice none 0 0), (.slice none 0 0), (.int .i64 0), (.int .i64 0)], R.own ty_66 F89 v88 l87, R.own ty_3 F92 v91 l90, R.blk b56 27 [v88, v91, (.int .i64 u38.1), (.int .i64 u50.1)], R.own ty_42 F329 v328 l327] := hS408.take [2] [0, 1, 3, 4, 5, 6, 7] rfl (M := [R.blk b0 53 [v0_0, (.int .i64 y324), (.int .u64 y325)]]) rfl hM450 hB407.size
           have hk453 := box_kept hM450
           have hpv454 := hpv412.keep (fun b hb => hk453.2.1 b (((hS408.get (i := 4) rfl).2.1 b hb).2) (hS408.disj (i := 4) (j := 2) rfl rfl rfl b hb))
           have hpv455 := hpv413.keepS (fun b hb => hk453.2.1 b (((hS408.get (i := 7) rfl).2.1 b hb).2) (hS408.disj (i := 7) (j := 2) rfl rfl rfl b hb)) (fun _ h => h)
           have hSW456 := hSW414.wr' hk453.1 hk453.2.1 (fun _ _ h => List.mem_append_left _ (h))
           refine WL.nil (WH.ret hSW456 (WH.on1 6 rfl (wl_load_p (vs := [(.int .i64 u355.1)]) (v := (.int .i64 u355.1)) tf_3 rfl rfl (hpv455.add 0) rfl rfl (WL.nil (WH.ret hSW456 (WH.tk 10 rfl hP hSW456 (pr_add rfl rfl rfl (WH.on1 11 rfl ?_))))))))
           obtain ⟨u458, hu458, hF⟩ := bindE hF
           refine wl_call rfl Tryz.call76 (C_spec_l1Least w448 1280 (w64 (u355.1 + u447.1)) _ hu458) rfl ?_
           rintro _ w459 ⟨rfl, hb460⟩
           refine ⟨_, rfl, ?_⟩
           have hB461 := hB451.trans (hb460.mono hB451.size)
           have hS462 := hS452.below hb460
           have hpv464 := hpv454.keep (fun b hb => hb460.block b (((hS452.get (i := 4) rfl).2.1 b hb).2))
           have hSW466 := hSW456.ext hb460
           refine WL.nil (WH.ret hSW466 (WH.on1 12 rfl ?_))
           obtain ⟨u467, hu467, hF⟩ := bindE hF
           refine wl_indexoF (e := ty_42) (i := 7) Tryz.underlying66 rfl rfl rfl hS462 rfl hu467 ?_
           rintro p468 _ rfl hp469 ho470
           refine WL.nil (WH.ret hSW466 (WH.tk 13 rfl hP hSW466 (pr_fieldp (o := 0) ff_42_0 rfl rfl (WH.on1 14 rfl (wl_storeo (i := 7) (o := 0) (vs := [(.int .i64 u458)]) (u' := (u458, u467.2)) fl_42 tf_3 rfl rfl rfl rfl ho470 hu467 hB461 hS462 rfl rfl ⟨rfl, trivial⟩ rfl ?_)))))
           intro w471 hk474 hB472 hS473
           have hpv475 := hpv464.keep (fun b hb => hk474.2.1 b (((hS462.get (i := 4) rfl).2.1 b hb).2) (hS462.disj (i := 4) (j := 7) rfl rfl rfl b hb))
           have hSW476 := hSW466.wr' hk474.1 hk474.2.1 (fun _ _ h => List.mem_append_right _ h)
           refine WL.nil (WH.ret hSW476 (WH.done (by kernel_rfl) ?_))
           have hr326 := hpv475
           exact fun a ha => hJ348 (u447.2.2.1) (u447.2.2.2) ((seti l327 y330 (u458, u467.2))) (v328) (F329) _ hr326 hF hB472 (hS473.sel [2, 0, 3, 4, 5, 6, 7] rfl) a (ha.sub ⟨rfl, rfl, rfl, rfl, rfl, rfl, rfl, rfl, rfl, trivial⟩)
        ·replace hF := ifN h336 hF
         refine W.exit fun a ha => hK319 _ _ (W.seq fun K478 hK478 => (W.region (wl_move rfl rfl ?_))) a ha
         obtain ⟨u479, hu479, hF⟩ := bindE hF
         refine wl_call rfl Tryz.call77 (C_spec_chGood w321 l327 v328 (hS323.own_ro (i := 6) rfl) _ hu479) rfl ?_
         rintro _ w480 ⟨rfl, hb481⟩
         refine ⟨_, rfl, ?_⟩
         have hB482 := hB322.trans (hb481.mono hB322.size)
         have hS483 := hS323.below hb481
         have hr326 := hr326.keep (fun b hb => hb481.block b (((hS323.get (i := 3) rfl).2.1 b hb).2))
         refine wl_not rfl rfl (WL.nil (fun a ha => hK478 _ _ (W.cond rfl (fun h485 => ?_) (fun h485 => ?_)) a ha))
         ·replace hF := ifP h485 hF
          refine W.region (wl_move rfl rfl ?_)
          obtain ⟨u486, hu486, hF⟩ := bindE hF
          refine wl_call rfl Tryz.call75 (C_spec_chOwn w480 u101 v104 (hr326.mono (fun b hb => ((hS483.get (i := 3) rfl).2.1 b hb).2)) _ hu486) rfl ?_
          rintro _ w489 ⟨v487, F488, rfl, hb490, hM493⟩
          refine ⟨_, rfl, ?_⟩
          have hB491 := hB482.trans (hb490.mono hB482.size)
          have hS492 := hS483.join hb490 hM493 hB482.size
          have hr326 := hr326.keep (fun b hb => hb490.block b (((hS483.get (i := 3) rfl).2.1 b hb).2))
          refine wl_assign rfl rfl (WL.nil ?_)
          exact fun a ha => hJ126 (y324) (y325) (u486) (v487) (F488) _ hF hB491 (hS492.sel [1, 2, 3, 4, 5, 6, 0] rfl) a (ha.sub ⟨rfl, rfl, rfl, rfl, rfl, rfl, trivial⟩)
         ·replace hF := ifN h485 hF
          refine W.skip ?_
          exact fun a ha => hJ126 (y324) (y325) (l327) (v328) (F329) _ hF hB482 (hS483.sel [0, 1, 2, 3, 4, 5, 6] rfl) a (ha.sub ⟨rfl, rfl, rfl, rfl, rfl, rfl, trivial⟩)
     ·replace hF := ifN h309 hF
      refine W.skip ?_
      exact fun a ha => hJ126 (u303.2.2.1) (u303.2.2.2) (u108.1) (v114) (F115) _ hF hB307 (hS308.sel [2, 0, 3, 4, 5, 6, 1] rfl) a (ha.sub ⟨rfl, rfl, rfl, rfl, rfl, rfl, trivial⟩)
    ·replace hF := ifN h99 hF
     refine W.exit fun a ha => hK81 _ _ (W.seq fun K494 hK494 => ?_) a ha
     obtain ⟨k508, hk508, hF⟩ := jE6 hF
     have hJ509 : ∀ (y498 : Int) (y499 : Int) (l500 : (List (List (Int × Int)))) (l503 : (List Int)) (y506 : Int) (y507 : Int) (v501 : Value) (F502 : List Nat) (v504 : Value) (F505 : List Nat) (w495 : World) (_ : k508 y498 y499 l500 l503 y506 y507 = some r) (_ : Below (wE w0).heap.size (wE w0) w495) (_ : Sep (wE w0).heap.size w495 [R.rest w0 (fps [R.blk b0 53 [v0_0, (.int .i64 x0.2.1), (.int .u64 x0.2.2)]]), R.blk b0 53 [v0_0, (.int .i64 y498), (.int .u64 y499)], R.blk b2 27 [(.slice none 0 0), (.slice none 0 0), (.int .i64 0), (.int .i64 0)], R.own ty_66 F502 v501 l500, R.own ty_3 F505 v504 l503, R.blk b56 27 [v501, v504, (.int .i64 y506), (.int .i64 y507)]]), ∀ a, St 139 [(2, (.pointer (some ⟨b2, 0, none⟩))), (4, (.pointer (some ⟨b56, 0, none⟩)))] a → K494 a w495 := by
      intro y498 y499 l500 l503 y506 y507 v501 F502 v504 F505 w495 hF hB496 hS497
      subst hk508
      refine fun a ha => hK494 _ _ (W.seq fun K510 hK510 => (W.region (wl_load_blk (i := 5) (vs := [v501, v504, (.int .i64 y506), (.int .i64 y507)]) (v := (.agg #[v501, v504, (.int .i64 y506), (.int .i64 y507)])) tf_27 rfl rfl hS497 rfl rfl rfl (wl_store_blk (i := 2) (vs := [v501, v504, (.int .i64 y506), (.int .i64 y507)]) (cs' := [v501, v504, (.int .i64 y506), (.int .i64 y507)]) tf_27 rfl rfl rfl rfl hB496 hS497 rfl rfl ⟨(hS497.own_ro (i := 3) rfl).one, (hS497.own_ro (i := 4) rfl).one, rfl, rfl, trivial⟩ rfl ?_)))) a ha
      intro w511 hk514 hB512 hS513
      refine WL.nil fun a ha => hK510 _ _ (W.ret ?_) a ha
      have hr := Option.some.inj hF
      subst hr
      exact rets (vs := [(.agg #[v501, v504, (.int .i64 y506), (.int .i64 y507)])]) hQ rfl ⟨rv_cell (i := 2) tf_27 rfl hS513 rfl rfl rfl, trivial⟩ ⟨v501, F502, v504, F505, rfl, hB512, hS513.sel [0, 1, 3, 4] rfl⟩
     refine W.seq fun K515 hK515 => W.region (wl_move rfl rfl ?_)
     obtain ⟨u516, hu516, hF⟩ := bindE hF
     refine wl_call rfl Tryz.call28 (C_spec_l1Cur__pick__mut__box w82 (x0.1, y85, y86) b0 v0_0 (h0_0.rsto (hS84.sel [0, 1] rfl)) 36 (hS84.sel [1] rfl).base0 _ hu516) rfl ?_
     rintro _ w517 ⟨rfl, hE518, hM519⟩
     refine ⟨_, rfl, ?_⟩
     have hB520 := hS84.takeB [1] rfl (M := [R.blk b0 53 [v0_0, (.int .i64 y85), (.int .u64 y86)]]) rfl hB83 hE518 hM519
     have hS521 : Sep (wE w0).heap.size w517 [R.blk b0 53 [v0_0, (.int .i64 u516.2.2.1), (.int .u64 u516.2.2.2)], R.rest w0 (fps [R.blk b0 53 [v0_0, (.int .i64 x0.2.1), (.int .u64 x0.2.2)]]), R.blk b2 27 [(.slice none 0 0), (.slice none 0 0), (.int .i64 0), (.int .i64 0)], R.own ty_66 F89 v88 l87, R.own ty_3 F92 v91 l90, R.blk b56 27 [v88, v91, (.int .i64 u38.1), (.int .i64 u50.1)]] := hS84.take [1] [0, 2, 3, 4, 5] rfl (M := [R.blk b0 53 [v0_0, (.int .i64 y85), (.int .u64 y86)]]) rfl hM519 hB83.size
     refine WL.nil fun a ha => hK515 _ _ (W.block (W.seq fun K522 hK522 => (W.region (wl_eql rfl rfl rfl (wl_assign rfl rfl (WL.nil (fun a ha => hK522 _ _ (W.cond rfl (fun h523 => ?_) (fun h523 => ?_)) a ha))))))) a ha
     ·replace hF := ifP h523 hF
      refine W.region (wl_move rfl rfl (wl_lit (vs := [(.int .i64 (-1)), (.int .i64 80), (.int .i64 81)]) (l := [(-1), 80, 81]) fl_3 Tryz.underlying25 rfl rfl rfl rfl rfl rfl hB520 hS521 ?_))
      intro v524 F525 w526 hb527 hB528 hS529
      obtain ⟨u530, hu530, hF⟩ := bindE hF
      refine wl_call rfl Tryz.call53 (C_spec_l1Cur__among__mut__box w526 (x0.1, u516.2.2.1, u516.2.2.2) b0 v0_0 (h0_0.rsto (hS529.sel [2, 1] rfl)) [(-1), 80, 81] v524 (own_out (hS529.sel [0, 1] rfl)) (hS529.sel [1] rfl).base0 _ hu530) rfl ?_
      rintro _ w531 ⟨rfl, hE532, hM533⟩
      refine ⟨_, rfl, ?_⟩
      have hB534 := hS529.takeB [1] rfl (M := [R.blk b0 53 [v0_0, (.int .i64 u516.2.2.1), (.int .u64 u516.2.2.2)]]) rfl hB528 hE532 hM533
      have hS535 : Sep (wE w0).heap.size w531 [R.blk b0 53 [v0_0, (.int .i64 u530.2.2.1), (.int .u64 u530.2.2.2)], R.own ty_3 F525 v524 [(-1), 80, 81], R.rest w0 (fps [R.blk b0 53 [v0_0, (.int .i64 x0.2.1), (.int .u64 x0.2.2)]]), R.blk b2 27 [(.slice none 0 0), (.slice none 0 0), (.int .i64 0), (.int .i64 0)], R.own ty_66 F89 v88 l87, R.own ty_3 F92 v91 l90, R.blk b56 27 [v88, v91, (.int .i64 u38.1), (.int .i64 u50.1)]] := hS529.take [1] [0, 2, 3, 4, 5, 6] rfl (M := [R.blk b0 53 [v0_0, (.int .i64 u516.2.2.1), (.int .u64 u516.2.2.2)]]) rfl hM533 hB528.size
      refine wl_field (o := 2) (off' := 2) ff_27_2 rfl rfl rfl (wl_store_blk (i := 6) (vs := [(.int .i64 u530.1)]) (cs' := [v88, v91, (.int .i64 u530.1), (.int .i64 u50.1)]) tf_3 rfl rfl rfl rfl hB534 hS535 rfl rfl ⟨rfl, trivial⟩ rfl ?_)
      intro w536 hk539 hB537 hS538
      refine WL.nil ?_
      exact fun a ha => hJ509 (u530.2.2.1) (u530.2.2.2) (l87) (l90) (u530.1) (u50.1) (v88) (F89) (v91) (F92) _ hF hB537 (hS538.sel [2, 0, 3, 4, 5, 6] rfl) a (ha.sub ⟨rfl, rfl, trivial⟩)
     ·replace hF := ifN h523 hF
      refine W.seq fun K540 hK540 => W.region (wl_eql rfl rfl rfl (wl_assign rfl rfl (WL.nil (fun a ha => hK540 _ _ (W.cond rfl (fun h541 => ?_) (fun h541 => ?_)) a ha))))
      ·replace hF := ifP h541 hF
       refine W.region (wl_move rfl rfl (wl_lit (vs := [(.int .i64 0), (.int .i64 1), (.int .i64 25)]) (l := [0, 1, 25]) fl_3 Tryz.underlying25 rfl rfl rfl rfl rfl rfl hB520 hS521 ?_))
       intro v542 F543 w544 hb545 hB546 hS547
       obtain ⟨u548, hu548, hF⟩ := bindE hF
       refine wl_call rfl Tryz.call53 (C_spec_l1Cur__among__mut__box w544 (x0.1, u516.2.2.1, u516.2.2.2) b0 v0_0 (h0_0.rsto (hS547.sel [2, 1] rfl)) [0, 1, 25] v542 (own_out (hS547.sel [0, 1] rfl)) (hS547.sel [1] rfl).base0 _ hu548) rfl ?_
       rintro _ w549 ⟨rfl, hE550, hM551⟩
       refine ⟨_, rfl, ?_⟩
       have hB552 := hS547.takeB [1] rfl (M := [R.blk b0 53 [v0_0, (.int .i64 u516.2.2.1), (.int .u64 u516.2.2.2)]]) rfl hB546 hE550 hM551
       have hS553 : Sep (wE w0).heap.size w549 [R.blk b0 53 [v0_0, (.int .i64 u548.2.2.1), (.int .u64 u548.2.2.2)], R.own ty_3 F543 v542 [0, 1, 25], R.rest w0 (fps [R.blk b0 53 [v0_0, (.int .i64 x0.2.1), (.int .u64 x0.2.2)]]), R.blk b2 27 [(.slice none 0 0), (.slice none 0 0), (.int .i64 0), (.int .i64 0)], R.own ty_66 F89 v88 l87, R.own ty_3 F92 v91 l90, R.blk b56 27 [v88, v91, (.int .i64 u38.1), (.int .i64 u50.1)]] := hS547.take [1] [0, 2, 3, 4, 5, 6] rfl (M := [R.blk b0 53 [v0_0, (.int .i64 u516.2.2.1), (.int .u64 u516.2.2.2)]]) rfl hM551 hB546.size
       refine wl_field (o := 3) (off' := 3) ff_27_3 rfl rfl rfl (wl_store_blk (i := 6) (vs := [(.int .i64 u548.1)]) (cs' := [v88, v91, (.int .i64 u38.1), (.int .i64 u548.1)]) tf_3 rfl rfl rfl rfl hB552 hS553 rfl rfl ⟨rfl, trivial⟩ rfl ?_)
       intro w554 hk557 hB555 hS556
       refine WL.nil ?_
       exact fun a ha => hJ509 (u548.2.2.1) (u548.2.2.2) (l87) (l90) (u38.1) (u548.1) (v88) (F89) (v91) (F92) _ hF hB555 (hS556.sel [2, 0, 3, 4, 5, 6] rfl) a (ha.sub ⟨rfl, rfl, trivial⟩)
      ·replace hF := ifN h541 hF
       refine W.seq fun K558 hK558 => W.region (wl_eql rfl rfl rfl (wl_assign rfl rfl (WL.nil (fun a ha => hK558 _ _ (W.cond rfl (fun h559 => ?_) (fun h559 => ?_)) a ha))))
       ·replace hF := ifP h559 hF
        refine W.regionH mixed_ (([b0] ++ F92) ++ [b56]) hB520 hS521 ?_
        intro w560 hb561 hB562 hS563
        have hSW564 := KeepX.refl w560 (([b0] ++ F92) ++ [b56])
        refine WH.tk 0 rfl hP hSW564 (pr_field (o := 1) (off' := 1) ff_27_1 rfl rfl rfl (WH.tk 2 rfl hP hSW564 (pr_move rfl rfl (WH.many (is := [1, 3]) (by kernel_rfl) rfl (List.forall_mem_cons.2 ⟨⟨_, rfl, ?_⟩, List.forall_mem_cons.2 ⟨⟨_, rfl, ?_⟩, fun _ h => by cases h⟩⟩)))))
        ·
         refine wl_load_blk (i := 5) (vs := [v91]) (v := v91) tf_25 rfl rfl hS563 rfl rfl rfl (WL.nil (WH.ret hSW564 (WH.on1 3 rfl (wl_lit (vs := [(.int .i64 0), (.int .i64 64), (.int .i64 65)]) (l := [0, 64, 65]) fl_3 Tryz.underlying25 rfl rfl rfl rfl rfl rfl (Below.self w560) (Sep.nil _ _) ?_))))
         intro v565 F566 w567 hb568 hB571 hM572
         have hB569 := hB562.trans (hb568.mono hB562.size)
         have hS570 := hS563.join hb568 hM572 hB562.size
         have hSW574 := hSW564.ext hb568
         refine WL.nil (WH.ret hSW574 (WH.on1 4 rfl ?_))
         obtain ⟨u576, hu576, hF⟩ := bindE hF
         refine wl_call rfl Tryz.call53 (C_spec_l1Cur__among__mut__box w567 (x0.1, u516.2.2.1, u516.2.2.2) b0 v0_0 (h0_0.rsto (hS570.sel [2, 1] rfl)) [0, 64, 65] v565 (own_out (hS570.sel [0, 1] rfl)) (hS570.sel [1] rfl).base0 _ hu576) rfl ?_
         rintro _ w577 ⟨rfl, hE578, hM579⟩
         refine ⟨_, rfl, ?_⟩
         have hB580 := hS570.takeB [1] rfl (M := [R.blk b0 53 [v0_0, (.int .i64 u516.2.2.1), (.int .u64 u516.2.2.2)]]) rfl hB569 hE578 hM579
         have hS581 : Sep (wE w0).heap.size w577 [R.blk b0 53 [v0_0, (.int .i64 u576.2.2.1), (.int .u64 u576.2.2.2)], R.own ty_3 F566 v565 [0, 64, 65], R.rest w0 (fps [R.blk b0 53 [v0_0, (.int .i64 x0.2.1), (.int .u64 x0.2.2)]]), R.blk b2 27 [(.slice none 0 0), (.slice none 0 0), (.int .i64 0), (.int .i64 0)], R.own ty_66 F89 v88 l87, R.own ty_3 F92 v91 l90, R.blk b56 27 [v88, v91, (.int .i64 u38.1), (.int .i64 u50.1)]] := hS570.take [1] [0, 2, 3, 4, 5, 6] rfl (M := [R.blk b0 53 [v0_0, (.int .i64 u516.2.2.1), (.int .u64 u516.2.2.2)]]) rfl hM579 hB569.size
         have hk582 := box_kept hM579
         have hSW583 := hSW574.wr' hk582.1 hk582.2.1 (fun _ _ h => List.mem_append_left _ (List.mem_append_left _ (h)))
         refine WL.nil (WH.ret hSW583 (WH.on1 5 rfl ?_))
         obtain ⟨u585, hu585, hF⟩ := bindE hF
         refine wl_indexoF (e := ty_3) (i := 5) Tryz.underlying25 rfl rfl rfl hS581 rfl hu585 ?_
         rintro p586 _ rfl hp587 ho588
         refine WL.nil (WH.ret hSW583 (WH.on1 6 rfl (wl_storeo (i := 5) (o := 0) (vs := [(.int .i64 u576.1)]) (u' := u576.1) fl_3 tf_3 rfl rfl rfl rfl ho588 hu585 hB580 hS581 rfl rfl ⟨rfl, trivial⟩ rfl ?_)))
         intro w589 hk592 hB590 hS591
         have hSW593 := hSW583.wr' hk592.1 hk592.2.1 (fun _ _ h => List.mem_append_left _ (List.mem_append_right _ h))
         refine WL.nil (WH.ret hSW593 (WH.done (by kernel_rfl) ?_))
         exact fun a ha => hJ509 (u576.2.2.1) (u576.2.2.2) (l87) ((seti l90 0 u576.1)) (u38.1) (u50.1) (v88) (F89) (v91) (F92) _ hF hB590 (hS591.sel [2, 0, 3, 4, 5, 6] rfl) a (ha.sub ⟨rfl, rfl, trivial⟩)
        ·
         refine wl_lit (vs := [(.int .i64 0), (.int .i64 64), (.int .i64 65)]) (l := [0, 64, 65]) fl_3 Tryz.underlying25 rfl rfl rfl rfl rfl rfl (Below.self w560) (Sep.nil _ _) ?_
         intro v595 F596 w597 hb598 hB601 hM602
         have hB599 := hB562.trans (hb598.mono hB562.size)
         have hS600 := hS563.join hb598 hM602 hB562.size
         have hSW604 := hSW564.ext hb598
         refine WL.nil (WH.ret hSW604 (WH.many (is := [1, 4]) (by kernel_rfl) rfl (List.forall_mem_cons.2 ⟨⟨_, rfl, ?_⟩, List.forall_mem_cons.2 ⟨⟨_, rfl, ?_⟩, fun _ h => by cases h⟩⟩)))
         ·
          refine wl_load_blk (i := 6) (vs := [v91]) (v := v91) tf_25 rfl rfl hS600 rfl rfl rfl (WL.nil (WH.ret hSW604 (WH.on1 4 rfl ?_)))
          obtain ⟨u606, hu606, hF⟩ := bindE hF
          refine wl_call rfl Tryz.call53 (C_spec_l1Cur__among__mut__box w597 (x0.1, u516.2.2.1, u516.2.2.2) b0 v0_0 (h0_0.rsto (hS600.sel [2, 1] rfl)) [0, 64, 65] v595 (own_out (hS600.sel [0, 1] rfl)) (hS600.sel [1] rfl).base0 _ hu606) rfl ?_
          rintro _ w607 ⟨rfl, hE608, hM609⟩
          refine ⟨_, rfl, ?_⟩
          have hB610 := hS600.takeB [1] rfl (M := [R.blk b0 53 [v0_0, (.int .i64 u516.2.2.1), (.int .u64 u516.2.2.2)]]) rfl hB599 hE608 hM609
          have hS611 : Sep (wE w0).heap.size w607 [R.blk b0 53 [v0_0, (.int .i64 u606.2.2.1), (.int .u64 u606.2.2.2)], R.own ty_3 F596 v595 [0, 64, 65], R.rest w0 (fps [R.blk b0 53 [v0_0, (.int .i64 x0.2.1), (.int .u64 x0.2.2)]]), R.blk b2 27 [(.slice none 0 0), (.slice none 0 0), (.int .i64 0), (.int .i64 0)], R.own ty_66 F89 v88 l87, R.own ty_3 F92 v91 l90, R.blk b56 27 [v88, v91, (.int .i64 u38.1), (.int .i64 u50.1)]] := hS600.take [1] [0, 2, 3, 4, 5, 6] rfl (M := [R.blk b0 53 [v0_0, (.int .i64 u516.2.2.1), (.int .u64 u516.2.2.2)]]) rfl hM609 hB599.size
          have hk612 := box_kept hM609
          have hSW613 := hSW604.wr' hk612.1 hk612.2.1 (fun _ _ h => List.mem_append_left _ (List.mem_append_left _ (h)))
          refine WL.nil (WH.ret hSW613 (WH.on1 5 rfl ?_))
          obtain ⟨u615, hu615, hF⟩ := bindE hF
          refine wl_indexoF (e := ty_3) (i := 5) Tryz.underlying25 rfl rfl rfl hS611 rfl hu615 ?_
          rintro p616 _ rfl hp617 ho618
          refine WL.nil (WH.ret hSW613 (WH.on1 6 rfl (wl_storeo (i := 5) (o := 0) (vs := [(.int .i64 u606.1)]) (u' := u606.1) fl_3 tf_3 rfl rfl rfl rfl ho618 hu615 hB610 hS611 rfl rfl ⟨rfl, trivial⟩ rfl ?_)))
          intro w619 hk622 hB620 hS621
          have hSW623 := hSW613.wr' hk622.1 hk622.2.1 (fun _ _ h => List.mem_append_left _ (List.mem_append_right _ h))
          refine WL.nil (WH.ret hSW623 (WH.done (by kernel_rfl) ?_))
          exact fun a ha => hJ509 (u606.2.2.1) (u606.2.2.2) (l87) ((seti l90 0 u606.1)) (u38.1) (u50.1) (v88) (F89) (v91) (F92) _ hF hB620 (hS621.sel [2, 0, 3, 4, 5, 6] rfl) a (ha.sub ⟨rfl, rfl, trivial⟩)
         ·
          obtain ⟨u625, hu625, hF⟩ := bindE hF
          refine wl_call rfl Tryz.call53 (C_spec_l1Cur__among__mut__box w597 (x0.1, u516.2.2.1, u516.2.2.2) b0 v0_0 (h0_0.rsto (hS600.sel [2, 1] rfl)) [0, 64, 65] v595 (own_out (hS600.sel [0, 1] rfl)) (hS600.sel [1] rfl).base0 _ hu625) rfl ?_
          rintro _ w626 ⟨rfl, hE627, hM628⟩
          refine ⟨_, rfl, ?_⟩
          have hB629 := hS600.takeB [1] rfl (M := [R.blk b0 53 [v0_0, (.int .i64 u516.2.2.1), (.int .u64 u516.2.2.2)]]) rfl hB599 hE627 hM628
          have hS630 : Sep (wE w0).heap.size w626 [R.blk b0 53 [v0_0, (.int .i64 u625.2.2.1), (.int .u64 u625.2.2.2)], R.own ty_3 F596 v595 [0, 64, 65], R.rest w0 (fps [R.blk b0 53 [v0_0, (.int .i64 x0.2.1), (.int .u64 x0.2.2)]]), R.blk b2 27 [(.slice none 0 0), (.slice none 0 0), (.int .i64 0), (.int .i64 0)], R.own ty_66 F89 v88 l87, R.own ty_3 F92 v91 l90, R.blk b56 27 [v88, v91, (.int .i64 u38.1), (.int .i64 u50.1)]] := hS600.take [1] [0, 2, 3, 4, 5, 6] rfl (M := [R.blk b0 53 [v0_0, (.int .i64 u516.2.2.1), (.int .u64 u516.2.2.2)]]) rfl hM628 hB599.size
          have hk631 := box_kept hM628
          have hSW632 := hSW604.wr' hk631.1 hk631.2.1 (fun _ _ h => List.mem_append_left _ (List.mem_append_left _ (h)))
          refine WL.nil (WH.ret hSW632 (WH.on1 1 rfl (wl_load_blk (i := 6) (vs := [v91]) (v := v91) tf_25 rfl rfl hS630 rfl rfl rfl (WL.nil (WH.ret hSW632 (WH.on1 5 rfl ?_))))))
          obtain ⟨u634, hu634, hF⟩ := bindE hF
          refine wl_indexoF (e := ty_3) (i := 5) Tryz.underlying25 rfl rfl rfl hS630 rfl hu634 ?_
          rintro p635 _ rfl hp636 ho637
          refine WL.nil (WH.ret hSW632 (WH.on1 6 rfl (wl_storeo (i := 5) (o := 0) (vs := [(.int .i64 u625.1)]) (u' := u625.1) fl_3 tf_3 rfl rfl rfl rfl ho637 hu634 hB629 hS630 rfl rfl ⟨rfl, trivial⟩ rfl ?_)))
          intro w638 hk641 hB639 hS640
          have hSW642 := hSW632.wr' hk641.1 hk641.2.1 (fun _ _ h => List.mem_append_left _ (List.mem_append_right _ h))
          refine WL.nil (WH.ret hSW642 (WH.done (by kernel_rfl) ?_))
          exact fun a ha => hJ509 (u625.2.2.1) (u625.2.2.2) (l87) ((seti l90 0 u625.1)) (u38.1) (u50.1) (v88) (F89) (v91) (F92) _ hF hB639 (hS640.sel [2, 0, 3, 4, 5, 6] rfl) a (ha.sub ⟨rfl, rfl, trivial⟩)
       ·replace hF := ifN h559 hF
        refine W.seq fun K644 hK644 => W.region (wl_eql rfl rfl rfl (wl_assign rfl rfl (WL.nil (fun a ha => hK644 _ _ (W.cond rfl (fun h645 => ?_) (fun h645 => ?_)) a ha))))
        ·replace hF := ifP h645 hF
         refine W.regionH mixed_ (([b0] ++ F89) ++ [b56]) hB520 hS521 ?_
         intro w646 hb647 hB648 hS649
         have hSW650 := KeepX.refl w646 (([b0] ++ F89) ++ [b56])
         refine WH.tk 0 rfl hP hSW650 (pr_field (o := 0) (off' := 0) ff_27_0 rfl rfl rfl (WH.tk 2 rfl hP hSW650 (pr_field (o := 0) (off' := 0) ff_27_0 rfl rfl rfl (WH.tk 6 rfl hP hSW650 (pr_move rfl rfl (WH.many (is := [1, 3, 7]) (by kernel_rfl) rfl (List.forall_mem_cons.2 ⟨⟨_, rfl, ?_⟩, List.forall_mem_cons.2 ⟨⟨_, rfl, ?_⟩, List.forall_mem_cons.2 ⟨⟨_, rfl, ?_⟩, fun _ h => by cases h⟩⟩⟩)))))))
         ·
          refine wl_load_blk (i := 5) (vs := [v88]) (v := v88) tf_24 rfl rfl hS649 rfl rfl rfl (WL.nil (WH.ret hSW650 (WH.many (is := [3, 7]) (by kernel_rfl) rfl (List.forall_mem_cons.2 ⟨⟨_, rfl, ?_⟩, List.forall_mem_cons.2 ⟨⟨_, rfl, ?_⟩, fun _ h => by cases h⟩⟩))))
          ·
           refine wl_load_blk (i := 5) (vs := [v88]) (v := v88) tf_24 rfl rfl hS649 rfl rfl rfl (WL.nil (WH.ret hSW650 (WH.tk 4 rfl hP hSW650 (pr_lenr (e := ty_66) (l := l87) Tryz.underlying24 rfl rfl (hS649.own_ro (i := 3) rfl) (WH.tk 5 rfl hP hSW650 (pr_sub rfl rfl rfl (WH.on1 7 rfl ?_)))))))
           obtain ⟨u651, hu651, hF⟩ := bindE hF
           refine wl_call rfl Tryz.call78 (C_spec_l1Cur__anyChart__mut__box w646 (x0.1, u516.2.2.1, u516.2.2.2) b0 v0_0 (h0_0.rsto (hS649.sel [1, 0] rfl)) (hS649.sel [0] rfl).base0 _ hu651) rfl ?_
           rintro _ w652 ⟨v657, F658, rfl, hE653, hM654⟩
           refine ⟨_, rfl, ?_⟩
           have hB655 := hS649.takeB [0] rfl (M := [R.blk b0 53 [v0_0, (.int .i64 u516.2.2.1), (.int .u64 u516.2.2.2)]]) rfl hB648 hE653 hM654
           have hS656 : Sep (wE w0).heap.size w652 [R.blk b0 53 [v0_0, (.int .i64 u651.2.2.1), (.int .u64 u651.2.2.2)], R.own ty_42 F658 v657 u651.1, R.rest w0 (fps [R.blk b0 53 [v0_0, (.int .i64 x0.2.1), (.int .u64 x0.2.2)]]), R.blk b2 27 [(.slice none 0 0), (.slice none 0 0), (.int .i64 0), (.int .i64 0)], R.own ty_66 F89 v88 l87, R.own ty_3 F92 v91 l90, R.blk b56 27 [v88, v91, (.int .i64 u38.1), (.int .i64 u50.1)]] := hS649.take [0] [1, 2, 3, 4, 5] rfl (M := [R.blk b0 53 [v0_0, (.int .i64 u516.2.2.1), (.int .u64 u516.2.2.2)]]) rfl hM654 hB648.size
           have hk659 := box_kept hM654
           have hSW661 := hSW650.wr' hk659.1 hk659.2.1 (fun _ _ h => List.mem_append_left _ (List.mem_append_left _ (h)))
           refine WL.nil (WH.ret hSW661 (WH.on1 8 rfl ?_))
           obtain ⟨u663, hu663, hF⟩ := bindE hF
           refine wl_indexoF (e := ty_66) (i := 4) Tryz.underlying24 rfl rfl rfl hS656 rfl hu663 ?_
           rintro p664 _ ⟨v666, rfl, hv667⟩ hp665 ho668
           refine WL.nil (WH.ret hSW661 (WH.on1 9 rfl (wl_storenk (vs := [v657]) (u' := u651.1) tf_66 rfl rfl (cells_one (hS656.own_ro (i := 1) rfl).one) rfl ho668 hu663 hB655 (((hS656.sel [1, 4, 0, 2, 3, 5, 6] rfl).cel1 (e := ty_66) (fun _ _ _ _ h => ⟨_, rfl, h⟩)).sel [1, 0, 2, 3, 4, 5, 6] rfl) rfl ⟨(hS656.own_ro (i := 1) rfl).one, trivial⟩ ?_)))
           intro w669 F672 hk673 hB670 hS671
           have hSW674 := hSW661.wr' hk673.1 hk673.2.1 (fun _ _ h => List.mem_append_left _ (List.mem_append_right _ h))
           refine WL.nil (WH.ret hSW674 (WH.done (by kernel_rfl) ?_))
           exact fun a ha => hJ509 (u651.2.2.1) (u651.2.2.2) ((seti l87 (w64 ((List.length l87 : Int) - 1)) u651.1)) (l90) (u38.1) (u50.1) (v88) (F672) (v91) (F92) _ hF hB670 (hS671.sel [2, 1, 3, 0, 4, 5] rfl) a (ha.sub ⟨rfl, rfl, trivial⟩)
          ·
           obtain ⟨u676, hu676, hF⟩ := bindE hF
           refine wl_call rfl Tryz.call78 (C_spec_l1Cur__anyChart__mut__box w646 (x0.1, u516.2.2.1, u516.2.2.2) b0 v0_0 (h0_0.rsto (hS649.sel [1, 0] rfl)) (hS649.sel [0] rfl).base0 _ hu676) rfl ?_
           rintro _ w677 ⟨v682, F683, rfl, hE678, hM679⟩
           refine ⟨_, rfl, ?_⟩
           have hB680 := hS649.takeB [0] rfl (M := [R.blk b0 53 [v0_0, (.int .i64 u516.2.2.1), (.int .u64 u516.2.2.2)]]) rfl hB648 hE678 hM679
           have hS681 : Sep (wE w0).heap.size w677 [R.blk b0 53 [v0_0, (.int .i64 u676.2.2.1), (.int .u64 u676.2.2.2)], R.own ty_42 F683 v682 u676.1, R.rest w0 (fps [R.blk b0 53 [v0_0, (.int .i64 x0.2.1), (.int .u64 x0.2.2)]]), R.blk b2 27 [(.slice none 0 0), (.slice none 0 0), (.int .i64 0), (.int .i64 0)], R.own ty_66 F89 v88 l87, R.own ty_3 F92 v91 l90, R.blk b56 27 [v88, v91, (.int .i64 u38.1), (.int .i64 u50.1)]] := hS649.take [0] [1, 2, 3, 4, 5] rfl (M := [R.blk b0 53 [v0_0, (.int .i64 u516.2.2.1), (.int .u64 u516.2.2.2)]]) rfl hM679 hB648.size
           have hk684 := box_kept hM679
           have hSW686 := hSW650.wr' hk684.1 hk684.2.1 (fun _ _ h => List.mem_append_left _ (List.mem_append_left _ (h)))
           refine WL.nil (WH.ret hSW686 (WH.on1 3 rfl (wl_load_blk (i := 6) (vs := [v88]) (v := v88) tf_24 rfl rfl hS681 rfl rfl rfl (WL.nil (WH.ret hSW686 (WH.tk 4 rfl hP hSW686 (pr_lenr (e := ty_66) (l := l87) Tryz.underlying24 rfl rfl (hS681.own_ro (i := 4) rfl) (WH.tk 5 rfl hP hSW686 (pr_sub rfl rfl rfl (WH.on1 8 rfl ?_))))))))))
           obtain ⟨u688, hu688, hF⟩ := bindE hF
           refine wl_indexoF (e := ty_66) (i := 4) Tryz.underlying24 rfl rfl rfl hS681 rfl hu688 ?_
           rintro p689 _ ⟨v691, rfl, hv692⟩ hp690 ho693
           refine WL.nil (WH.ret hSW686 (WH.on1 9 rfl (wl_storenk (vs := [v682]) (u' := u676.1) tf_66 rfl rfl (cells_one (hS681.own_ro (i := 1) rfl).one) rfl ho693 hu688 hB680 (((hS681.sel [1, 4, 0, 2, 3, 5, 6] rfl).cel1 (e := ty_66) (fun _ _ _ _ h => ⟨_, rfl, h⟩)).sel [1, 0, 2, 3, 4, 5, 6] rfl) rfl ⟨(hS681.own_ro (i := 1) rfl).one, trivial⟩ ?_)))
           intro w694 F697 hk698 hB695 hS696
           have hSW699 := hSW686.wr' hk698.1 hk698.2.1 (fun _ _ h => List.mem_append_left _ (List.mem_append_right _ h))
           refine WL.nil (WH.ret hSW699 (WH.done (by kernel_rfl) ?_))
           exact fun a ha => hJ509 (u676.2.2.1) (u676.2.2.2) ((seti l87 (w64 ((List.length l87 : Int) - 1)) u676.1)) (l90) (u38.1) (u50.1) (v88) (F697) (v91) (F92) _ hF hB695 (hS696.sel [2, 1, 3, 0, 4, 5] rfl) a (ha.sub ⟨rfl, rfl, trivial⟩)
         ·
          refine wl_load_blk (i := 5) (vs := [v88]) (v := v88) tf_24 rfl rfl hS649 rfl rfl rfl (WL.nil (WH.ret hSW650 (WH.tk 4 rfl hP hSW650 (pr_lenr (e := ty_66) (l := l87) Tryz.underlying24 rfl rfl (hS649.own_ro (i := 3) rfl) (WH.tk 5 rfl hP hSW650 (pr_sub rfl rfl rfl (WH.many (is := [1, 7]) (by kernel_rfl) rfl (List.forall_mem_cons.2 ⟨⟨_, rfl, ?_⟩, List.forall_mem_cons.2 ⟨⟨_, rfl, ?_⟩, fun _ h => by cases h⟩⟩))))))))
          ·
           refine wl_load_blk (i := 5) (vs := [v88]) (v := v88) tf_24 rfl rfl hS649 rfl rfl rfl (WL.nil (WH.ret hSW650 (WH.on1 7 rfl ?_)))
           obtain ⟨u701, hu701, hF⟩ := bindE hF
           refine wl_call rfl Tryz.call78 (C_spec_l1Cur__anyChart__mut__box w646 (x0.1, u516.2.2.1, u516.2.2.2) b0 v0_0 (h0_0.rsto (hS649.sel [1, 0] rfl)) (hS649.sel [0] rfl).base0 _ hu701) rfl ?_
           rintro _ w702 ⟨v707, F708, rfl, hE703, hM704⟩
           refine ⟨_, rfl, ?_⟩
           have hB705 := hS649.takeB [0] rfl (M := [R.blk b0 53 [v0_0, (.int .i64 u516.2.2.1), (.int .u64 u516.2.2.2)]]) rfl hB648 hE703 hM704
           have hS706 : Sep (wE w0).heap.size w702 [R.blk b0 53 [v0_0, (.int .i64 u701.2.2.1), (.int .u64 u701.2.2.2)], R.own ty_42 F708 v707 u701.1, R.rest w0 (fps [R.blk b0 53 [v0_0, (.int .i64 x0.2.1), (.int .u64 x0.2.2)]]), R.blk b2 27 [(.slice none 0 0), (.slice none 0 0), (.int .i64 0), (.int .i64 0)], R.own ty_66 F89 v88 l87, R.own ty_3 F92 v91 l90, R.blk b56 27 [v88, v91, (.int .i64 u38.1), (.int .i64 u50.1)]] := hS649.take [0] [1, 2, 3, 4, 5] rfl (M := [R.blk b0 53 [v0_0, (.int .i64 u516.2.2.1), (.int .u64 u516.2.2.2)]]) rfl hM704 hB648.size
           have hk709 := box_kept hM704
           have hSW711 := hSW650.wr' hk709.1 hk709.2.1 (fun _ _ h => List.mem_append_left _ (List.mem_append_left _ (h)))
           refine WL.nil (WH.ret hSW711 (WH.on1 8 rfl ?_))
           obtain ⟨u713, hu713, hF⟩ := bindE hF
           refine wl_indexoF (e := ty_66) (i := 4) Tryz.underlying24 rfl rfl rfl hS706 rfl hu713 ?_
           rintro p714 _ ⟨v716, rfl, hv717⟩ hp715 ho718
           refine WL.nil (WH.ret hSW711 (WH.on1 9 rfl (wl_storenk (vs := [v707]) (u' := u701.1) tf_66 rfl rfl (cells_one (hS706.own_ro (i := 1) rfl).one) rfl ho718 hu713 hB705 (((hS706.sel [1, 4, 0, 2, 3, 5, 6] rfl).cel1 (e := ty_66) (fun _ _ _ _ h => ⟨_, rfl, h⟩)).sel [1, 0, 2, 3, 4, 5, 6] rfl) rfl ⟨(hS706.own_ro (i := 1) rfl).one, trivial⟩ ?_)))
           intro w719 F722 hk723 hB720 hS721
           have hSW724 := hSW711.wr' hk723.1 hk723.2.1 (fun _ _ h => List.mem_append_left _ (List.mem_append_right _ h))
           refine WL.nil (WH.ret hSW724 (WH.done (by kernel_rfl) ?_))
           exact fun a ha => hJ509 (u701.2.2.1) (u701.2.2.2) ((seti l87 (w64 ((List.length l87 : Int) - 1)) u701.1)) (l90) (u38.1) (u50.1) (v88) (F722) (v91) (F92) _ hF hB720 (hS721.sel [2, 1, 3, 0, 4, 5] rfl) a (ha.sub ⟨rfl, rfl, trivial⟩)
          ·
           obtain ⟨u726, hu726, hF⟩ := bindE hF
           refine wl_call rfl Tryz.call78 (C_spec_l1Cur__anyChart__mut__box w646 (x0.1, u516.2.2.1, u516.2.2.2) b0 v0_0 (h0_0.rsto (hS649.sel [1, 0] rfl)) (hS649.sel [0] rfl).base0 _ hu726) rfl ?_
           rintro _ w727 ⟨v732, F733, rfl, hE728, hM729⟩
           refine ⟨_, rfl, ?_⟩
           have hB730 := hS649.takeB [0] rfl (M := [R.blk b0 53 [v0_0, (.int .i64 u516.2.2.1), (.int .u64 u516.2.2.2)]]) rfl hB648 hE728 hM729
           have hS731 : Sep (wE w0).heap.size w727 [R.blk b0 53 [v0_0, (.int .i64 u726.2.2.1), (.int .u64 u726.2.2.2)], R.own ty_42 F733 v732 u726.1, R.rest w0 (fps [R.blk b0 53 [v0_0, (.int .i64 x0.2.1), (.int .u64 x0.2.2)]]), R.blk b2 27 [(.slice none 0 0), (.slice none 0 0), (.int .i64 0), (.int .i64 0)], R.own ty_66 F89 v88 l87, R.own ty_3 F92 v91 l90, R.blk b56 27 [v88, v91, (.int .i64 u38.1), (.int .i64 u50.1)]] := hS649.take [0] [1, 2, 3, 4, 5] rfl (M := [R.blk b0 53 [v0_0, (.int .i64 u516.2.2.1), (.int .u64 u516.2.2.2)]]) rfl hM729 hB648.size
           have hk734 := box_kept hM729
           have hSW736 := hSW650.wr' hk734.1 hk734.2.1 (fun _ _ h => List.mem_append_left _ (List.mem_append_left _ (h)))
           refine WL.nil (WH.ret hSW736 (WH.on1 1 rfl (wl_load_blk (i := 6) (vs := [v88]) (v := v88) tf_24 rfl rfl hS731 rfl rfl rfl (WL.nil (WH.ret hSW736 (WH.on1 8 rfl ?_))))))
           obtain ⟨u738, hu738, hF⟩ := bindE hF
           refine wl_indexoF (e := ty_66) (i := 4) Tryz.underlying24 rfl rfl rfl hS731 rfl hu738 ?_
           rintro p739 _ ⟨v741, rfl, hv742⟩ hp740 ho743
           refine WL.nil (WH.ret hSW736 (WH.on1 9 rfl (wl_storenk (vs := [v732]) (u' := u726.1) tf_66 rfl rfl (cells_one (hS731.own_ro (i := 1) rfl).one) rfl ho743 hu738 hB730 (((hS731.sel [1, 4, 0, 2, 3, 5, 6] rfl).cel1 (e := ty_66) (fun _ _ _ _ h => ⟨_, rfl, h⟩)).sel [1, 0, 2, 3, 4, 5, 6] rfl) rfl ⟨(hS731.own_ro (i := 1) rfl).one, trivial⟩ ?_)))
           intro w744 F747 hk748 hB745 hS746
           have hSW749 := hSW736.wr' hk748.1 hk748.2.1 (fun _ _ h => List.mem_append_left _ (List.mem_append_right _ h))
           refine WL.nil (WH.ret hSW749 (WH.done (by kernel_rfl) ?_))
           exact fun a ha => hJ509 (u726.2.2.1) (u726.2.2.2) ((seti l87 (w64 ((List.length l87 : Int) - 1)) u726.1)) (l90) (u38.1) (u50.1) (v88) (F747) (v91) (F92) _ hF hB745 (hS746.sel [2, 1, 3, 0, 4, 5] rfl) a (ha.sub ⟨rfl, rfl, trivial⟩)
         ·
          obtain ⟨u751, hu751, hF⟩ := bindE hF
          refine wl_call rfl Tryz.call78 (C_spec_l1Cur__anyChart__mut__box w646 (x0.1, u516.2.2.1, u516.2.2.2) b0 v0_0 (h0_0.rsto (hS649.sel [1, 0] rfl)) (hS649.sel [0] rfl).base0 _ hu751) rfl ?_
          rintro _ w752 ⟨v757, F758, rfl, hE753, hM754⟩
          refine ⟨_, rfl, ?_⟩
          have hB755 := hS649.takeB [0] rfl (M := [R.blk b0 53 [v0_0, (.int .i64 u516.2.2.1), (.int .u64 u516.2.2.2)]]) rfl hB648 hE753 hM754
          have hS756 : Sep (wE w0).heap.size w752 [R.blk b0 53 [v0_0, (.int .i64 u751.2.2.1), (.int .u64 u751.2.2.2)], R.own ty_42 F758 v757 u751.1, R.rest w0 (fps [R.blk b0 53 [v0_0, (.int .i64 x0.2.1), (.int .u64 x0.2.2)]]), R.blk b2 27 [(.slice none 0 0), (.slice none 0 0), (.int .i64 0), (.int .i64 0)], R.own ty_66 F89 v88 l87, R.own ty_3 F92 v91 l90, R.blk b56 27 [v88, v91, (.int .i64 u38.1), (.int .i64 u50.1)]] := hS649.take [0] [1, 2, 3, 4, 5] rfl (M := [R.blk b0 53 [v0_0, (.int .i64 u516.2.2.1), (.int .u64 u516.2.2.2)]]) rfl hM754 hB648.size
          have hk759 := box_kept hM754
          have hSW761 := hSW650.wr' hk759.1 hk759.2.1 (fun _ _ h => List.mem_append_left _ (List.mem_append_left _ (h)))
          refine WL.nil (WH.ret hSW761 (WH.many (is := [1, 3]) (by kernel_rfl) rfl (List.forall_mem_cons.2 ⟨⟨_, rfl, ?_⟩, List.forall_mem_cons.2 ⟨⟨_, rfl, ?_⟩, fun _ h => by cases h⟩⟩)))
          ·
           refine wl_load_blk (i := 6) (vs := [v88]) (v := v88) tf_24 rfl rfl hS756 rfl rfl rfl (WL.nil (WH.ret hSW761 (WH.on1 3 rfl (wl_load_blk (i := 6) (vs := [v88]) (v := v88) tf_24 rfl rfl hS756 rfl rfl rfl (WL.nil (WH.ret hSW761 (WH.tk 4 rfl hP hSW761 (pr_lenr (e := ty_66) (l := l87) Tryz.underlying24 rfl rfl (hS756.own_ro (i := 4) rfl) (WH.tk 5 rfl hP hSW761 (pr_sub rfl rfl rfl (WH.on1 8 rfl ?_)))))))))))
           obtain ⟨u763, hu763, hF⟩ := bindE hF
           refine wl_indexoF (e := ty_66) (i := 4) Tryz.underlying24 rfl rfl rfl hS756 rfl hu763 ?_
           rintro p764 _ ⟨v766, rfl, hv767⟩ hp765 ho768
           refine WL.nil (WH.ret hSW761 (WH.on1 9 rfl (wl_storenk (vs := [v757]) (u' := u751.1) tf_66 rfl rfl (cells_one (hS756.own_ro (i := 1) rfl).one) rfl ho768 hu763 hB755 (((hS756.sel [1, 4, 0, 2, 3, 5, 6] rfl).cel1 (e := ty_66) (fun _ _ _ _ h => ⟨_, rfl, h⟩)).sel [1, 0, 2, 3, 4, 5, 6] rfl) rfl ⟨(hS756.own_ro (i := 1) rfl).one, trivial⟩ ?_)))
           intro w769 F772 hk773 hB770 hS771
           have hSW774 := hSW761.wr' hk773.1 hk773.2.1 (fun _ _ h => List.mem_append_left _ (List.mem_append_right _ h))
           refine WL.nil (WH.ret hSW774 (WH.done (by kernel_rfl) ?_))
           exact fun a ha => hJ509 (u751.2.2.1) (u751.2.2.2) ((seti l87 (w64 ((List.length l87 : Int) - 1)) u751.1)) (l90) (u38.1) (u50.1) (v88) (F772) (v91) (F92) _ hF hB770 (hS771.sel [2, 1, 3, 0, 4, 5] rfl) a (ha.sub ⟨rfl, rfl, trivial⟩)
          ·
           refine wl_load_blk (i := 6) (vs := [v88]) (v := v88) tf_24 rfl rfl hS756 rfl rfl rfl (WL.nil (WH.ret hSW761 (WH.tk 4 rfl hP hSW761 (pr_lenr (e := ty_66) (l := l87) Tryz.underlying24 rfl rfl (hS756.own_ro (i := 4) rfl) (WH.tk 5 rfl hP hSW761 (pr_sub rfl rfl rfl (WH.on1 1 rfl (wl_load_blk (i := 6) (vs := [v88]) (v := v88) tf_24 rfl rfl hS756 rfl rfl rfl (WL.nil (WH.ret hSW761 (WH.on1 8 rfl ?_)))))))))))
           obtain ⟨u776, hu776, hF⟩ := bindE hF
           refine wl_indexoF (e := ty_66) (i := 4) Tryz.underlying24 rfl rfl rfl hS756 rfl hu776 ?_
           rintro p777 _ ⟨v779, rfl, hv780⟩ hp778 ho781
           refine WL.nil (WH.ret hSW761 (WH.on1 9 rfl (wl_storenk (vs := [v757]) (u' := u751.1) tf_66 rfl rfl (cells_one (hS756.own_ro (i := 1) rfl).one) rfl ho781 hu776 hB755 (((hS756.sel [1, 4, 0, 2, 3, 5, 6] rfl).cel1 (e := ty_66) (fun _ _ _ _ h => ⟨_, rfl, h⟩)).sel [1, 0, 2, 3, 4, 5, 6] rfl) rfl ⟨(hS756.own_ro (i := 1) rfl).one, trivial⟩ ?_)))
           intro w782 F785 hk786 hB783 hS784
           have hSW787 := hSW761.wr' hk786.1 hk786.2.1 (fun _ _ h => List.mem_append_left _ (List.mem_append_right _ h))
           refine WL.nil (WH.ret hSW787 (WH.done (by kernel_rfl) ?_))
           exact fun a ha => hJ509 (u751.2.2.1) (u751.2.2.2) ((seti l87 (w64 ((List.length l87 : Int) - 1)) u751.1)) (l90) (u38.1) (u50.1) (v88) (F785) (v91) (F92) _ hF hB783 (hS784.sel [2, 1, 3, 0, 4, 5] rfl) a (ha.sub ⟨rfl, rfl, trivial⟩)
        ·replace hF := ifN h645 hF
         refine W.seq fun K789 hK789 => W.region (wl_eql rfl rfl rfl (wl_assign rfl rfl (WL.nil (fun a ha => hK789 _ _ (W.cond rfl (fun h790 => ?_) (fun h790 => ?_)) a ha))))
         ·replace hF := ifP h790 hF
          refine W.region (wl_field (o := 1) (off' := 1) ff_27_1 rfl rfl rfl (wl_load_blk (i := 5) (vs := [v91]) (v := v91) tf_25 rfl rfl hS521 rfl rfl rfl (wl_lit (vs := [(.int .i64 8)]) (l := [8]) fl_3 Tryz.underlying25 rfl rfl rfl rfl rfl rfl hB520 hS521 ?_)))
          intro v791 F792 w793 hb794 hB795 hS796
          obtain ⟨u797, hu797, hF⟩ := bindE hF
          refine wl_append (i := 5) (S := (· < w793.heap.size)) fl_3 Tryz.underlying25 rfl rfl rfl hB795 hS796 rfl (hS796.own_ro (i := 0) rfl) hu797 ?_
          intro v798 F799 w800 hk801 hB802 hS803
          refine wl_field (o := 1) (off' := 1) ff_27_1 rfl rfl rfl (wl_store_blk (i := 6) (vs := [v798]) (cs' := [v88, v798, (.int .i64 u38.1), (.int .i64 u50.1)]) tf_25 rfl rfl (cells_one (hS803.own_ro (i := 5) rfl).one) rfl hB802 hS803 rfl rfl ⟨(hS803.own_ro (i := 5) rfl).one, trivial⟩ rfl ?_)
          intro w804 hk807 hB805 hS806
          refine WL.nil ?_
          exact fun a ha => hJ509 (u516.2.2.1) (u516.2.2.2) (l87) (u797) (u38.1) (u50.1) (v88) (F89) (v798) (F799) _ hF hB805 (hS806.sel [2, 1, 3, 4, 5, 6] rfl) a (ha.sub ⟨rfl, rfl, trivial⟩)
         ·replace hF := ifN h790 hF
          refine W.seq fun K808 hK808 => W.region (wl_eql rfl rfl rfl (wl_assign rfl rfl (WL.nil (fun a ha => hK808 _ _ (W.cond rfl (fun h809 => ?_) (fun h809 => ?_)) a ha))))
          ·replace hF := ifP h809 hF
           refine W.seq fun K810 hK810 => W.region (wl_field (o := 0) (off' := 0) ff_27_0 rfl rfl rfl (wl_load_blk (i := 5) (vs := [v88]) (v := v88) tf_24 rfl rfl hS521 rfl rfl rfl ?_))
           obtain ⟨u811, hu811, hF⟩ := bindE hF
           refine wl_sliceof (e := ty_66) Tryz.underlying24 rfl rfl (hS521.ok (i := 3) rfl : ownS ty_66 _ _ _ _).rd hu811 (.inl ⟨rfl, rfl⟩) (.inr ⟨_, _, rfl, rfl⟩) ?_
           intro v812 hv815 hs814
           refine wl_field (o := 0) (off' := 0) ff_27_0 rfl rfl rfl ?_
           obtain ⟨F820, hq821, hq822, hq823⟩ := own_pre (hS521.ok (i := 3) rfl : ownS ty_66 _ _ _ _) (hS521.get (i := 3) rfl).1 hs814 (sl_le hu811).1
           rw [show List.take (1 : Int).toNat l87 = u811 from (sl_le hu811).2.symm] at hq821
           have hS819 := (hS521.sel [3, 0, 1, 2, 4, 5] rfl).shrink (r' := R.own ty_66 F820 v812 u811) hq822 hq823 fun _ hk => hq821.keep hk
           refine wl_store_blk (i := 5) (vs := [v812]) (cs' := [v812, v91, (.int .i64 u38.1), (.int .i64 u50.1)]) tf_24 rfl rfl (cells_one (hS819.own_ro (i := 0) rfl).one) rfl hB520 hS819 rfl rfl ⟨(hS819.own_ro (i := 0) rfl).one, trivial⟩ rfl ?_
           intro w816 hk825 hB817 hS818
           refine WL.nil fun a ha => hK810 _ _ (W.region (wl_field (o := 1) (off' := 1) ff_27_1 rfl rfl rfl (wl_store_blk (i := 5) (vs := [(.slice none 0 0)]) (cs' := [v812, (.slice none 0 0), (.int .i64 u38.1), (.int .i64 u50.1)]) tf_25 rfl rfl rfl rfl hB817 hS818 rfl rfl ⟨rfl, trivial⟩ rfl ?_))) a ha
           intro w826 hk829 hB827 hS828
           refine WL.nil ?_
           have hS830 := hS828.push0 (r := R.own ty_3 [] (.slice none 0 0) []) rfl fun _ => .inl ⟨rfl, rfl, rfl⟩
           exact fun a ha => hJ509 (u516.2.2.1) (u516.2.2.2) (u811) ([]) (u38.1) (u50.1) (v812) (F820) ((.slice none 0 0)) ([]) _ hF hB827 (hS830.sel [3, 2, 4, 1, 0, 6] rfl) a (ha.sub ⟨rfl, rfl, trivial⟩)
          ·replace hF := ifN h809 hF
           refine W.skip ?_
           exact fun a ha => hJ509 (u516.2.2.1) (u516.2.2.2) (l87) (l90) (u38.1) (u50.1) (v88) (F89) (v91) (F92) _ hF hB520 (hS521.sel [1, 0, 2, 3, 4, 5] rfl) a (ha.sub ⟨rfl, rfl, trivial⟩)
 refine W.seq fun K831 hK831 => W.region (wl_move rfl rfl ?_)
 obtain ⟨u832, hu832, hF⟩ := bindE hF
 refine wl_call rfl Tryz.call27 (C_spec_l1Cur__one__mut__box w67 (x0.1, u66.2.2.1, u66.2.2.2) b0 v0_0 (h0_0.rsto (hS71.sel [6, 0] rfl)) 20 (hS71.sel [0] rfl).base0 _ hu832) rfl ?_
 rintro _ w833 ⟨rfl, hE834, hM835⟩
 refine ⟨_, rfl, ?_⟩
 have hB836 := hS71.takeB [0] rfl (M := [R.blk b0 53 [v0_0, (.int .i64 u66.2.2.1), (.int .u64 u66.2.2.2)]]) rfl hB70 hE834 hM835
 have hS837 : Sep (wE w0).heap.size w833 [R.blk b0 53 [v0_0, (.int .i64 u832.2.2.1), (.int .u64 u832.2.2.2)], R.blk b56 27 [v25, (.slice none 0 0), (.int .i64 u38.1), (.int .i64 u50.1)], R.own ty_3 F45 v44 [8, 12, 24, 24], R.own ty_3 F33 v32 [0, 1, 8, 8, 16], R.own ty_66 F26 v25 [u15.1], R.blk b2 27 [(.slice none 0 0), (.slice none 0 0), (.int .i64 0), (.int .i64 0)], R.rest w0 (fps [R.blk b0 53 [v0_0, (.int .i64 x0.2.1), (.int .u64 x0.2.2)]])] := hS71.take [0] [1, 2, 3, 4, 5, 6] rfl (M := [R.blk b0 53 [v0_0, (.int .i64 u66.2.2.1), (.int .u64 u66.2.2.2)]]) rfl hM835 hB70.size
 refine WL.nil fun a ha => hK831 _ _ (W.cond rfl (fun h838 => ?_) (fun h838 => ?_)) a ha
 ·replace hF := ifP h838 hF
  refine W.region (wl_move rfl rfl ?_)
  obtain ⟨u839, hu839, hF⟩ := bindE hF
  refine wl_call rfl Tryz.call28 (C_spec_l1Cur__pick__mut__box w833 (x0.1, u832.2.2.1, u832.2.2.2) b0 v0_0 (h0_0.rsto (hS837.sel [6, 0] rfl)) 2 (hS837.sel [0] rfl).base0 _ hu839) rfl ?_
  rintro _ w840 ⟨rfl, hE841, hM842⟩
  refine ⟨_, rfl, ?_⟩
  have hB843 := hS837.takeB [0] rfl (M := [R.blk b0 53 [v0_0, (.int .i64 u832.2.2.1), (.int .u64 u832.2.2.2)]]) rfl hB836 hE841 hM842
  have hS844 : Sep (wE w0).heap.size w840 [R.blk b0 53 [v0_0, (.int .i64 u839.2.2.1), (.int .u64 u839.2.2.2)], R.blk b56 27 [v25, (.slice none 0 0), (.int .i64 u38.1), (.int .i64 u50.1)], R.own ty_3 F45 v44 [8, 12, 24, 24], R.own ty_3 F33 v32 [0, 1, 8, 8, 16], R.own ty_66 F26 v25 [u15.1], R.blk b2 27 [(.slice none 0 0), (.slice none 0 0), (.int .i64 0), (.int .i64 0)], R.rest w0 (fps [R.blk b0 53 [v0_0, (.int .i64 x0.2.1), (.int .u64 x0.2.2)]])] := hS837.take [0] [1, 2, 3, 4, 5, 6] rfl (M := [R.blk b0 53 [v0_0, (.int .i64 u832.2.2.1), (.int .u64 u832.2.2.2)]]) rfl hM842 hB836.size
  refine wl_add rfl rfl rfl (wl_assign rfl rfl (WL.nil ?_))
  exact fun a ha => hJ80 (u839.2.2.1) (u839.2.2.2) ((w64 (8 + u839.1))) _ hF hB843 (hS844.sel [6, 0, 5, 4, 1] rfl) a (ha.sub ⟨rfl, rfl, rfl, rfl, rfl, trivial⟩)
 ·replace hF := ifN h838 hF
  refine W.skip ?_
  exact fun a ha => hJ80 (u832.2.2.1) (u832.2.2.2) ((w64 (2 + u66.1))) _ hF hB836 (hS837.sel [6, 0, 5, 4, 1] rfl) a (ha.sub ⟨rfl, rfl, rfl, rfl, rfl, trivial⟩)
theorem C_spec_l1Cur__beats__mut__box (w0 : World) (x0 : ((List Int) × Int × Int)) (b0 : Nat) (v0_0 : Value) (h0_0 : rdS ty_5 (Out (fps [R.blk b0 53 [v0_0, (.int .i64 x0.2.1), (.int .u64 x0.2.2)]]) w0) w0 v0_0 x0.1) (x1 : Int) (hS0 : Sep 0 w0 [R.blk b0 53 [v0_0, (.int .i64 x0.2.1), (.int .u64 x0.2.2)]]) (r : ((List (Int × Int)) × ((List Int) × Int × Int))) (hF : F_spec_l1Cur__beats__mut__box x0 x1 = some r) :
  Calls Tryz.prog 26 [(.pointer (some ⟨b0, 0, none⟩)), (.int .i64 x1)].toArray w0 fun e w' => ∃ (q0 : Value) (G0 : List Nat), e = .returned q0 ∧ Below 0 (wE w0) w' ∧ Sep 0 w' [R.rest w0 (fps [R.blk b0 53 [v0_0, (.int .i64 x0.2.1), (.int .u64 x0.2.2)]]), R.blk b0 53 [v0_0, (.int .i64 r.2.2.1), (.int .u64 r.2.2.2)], R.own ty_59 G0 q0 r.1] := by
 refine calls_mk' Tryz.func26 rfl Tryz.ntmps26 rfl rfl fun Q hQ hP => ?_
 have hB : Below (wE w0).heap.size (wE w0) w0 := wE_below w0
 have hS : Sep (wE w0).heap.size w0 [R.rest w0 (fps [R.blk b0 53 [v0_0, (.int .i64 x0.2.1), (.int .u64 x0.2.2)]]), R.blk b0 53 [v0_0, (.int .i64 x0.2.1), (.int .u64 x0.2.2)]] := hS0.rest
 unfold F_spec_l1Cur__beats__mut__box at hF
 refine W.seq fun K1 hK1 => W.region (wl_assign rfl rfl (WL.nil (fun a ha => hK1 _ _ (W.seq fun K2 hK2 => (W.region (wl_assign rfl rfl (WL.nil (fun a ha => hK2 _ _ (W.seq fun K3 hK3 => (W.seq fun K4 hK4 => (W.region (wl_move rfl rfl ?_)))) a ha))))) a ha)))
 obtain ⟨u5, hu5, hF⟩ := bindE hF
 refine wl_call rfl Tryz.call28 (C_spec_l1Cur__pick__mut__box w0 x0 b0 v0_0 (h0_0.rsto (hS.sel [0, 1] rfl)) 12 (hS.sel [1] rfl).base0 _ hu5) rfl ?_
 rintro _ w6 ⟨rfl, hE7, hM8⟩
 refine ⟨_, rfl, ?_⟩
 have hB9 := hS.takeB [1] rfl (M := [R.blk b0 53 [v0_0, (.int .i64 x0.2.1), (.int .u64 x0.2.2)]]) rfl hB hE7 hM8
 have hS10 : Sep (wE w0).heap.size w6 [R.blk b0 53 [v0_0, (.int .i64 u5.2.2.1), (.int .u64 u5.2.2.2)], R.rest w0 (fps [R.blk b0 53 [v0_0, (.int .i64 x0.2.1), (.int .u64 x0.2.2)]])] := hS.take [1] [0] rfl (M := [R.blk b0 53 [v0_0, (.int .i64 x0.2.1), (.int .u64 x0.2.2)]]) rfl hM8 hB.size
 refine wl_assign rfl rfl (WL.nil (fun a ha => hK4 _ _ (W.block (W.loopk (fun m a w11 => ∃ (y14 : Int) (y15 : Int) (l16 : (List (Int × Int))) (y19 : Int) (v17 : Value) (F18 : List Nat), St 59 [(0, (.pointer (some ⟨b0, 0, none⟩))), (1, (.int .i64 x1)), (5, v17), (6, (.int .i64 y19))] a ∧ Below (wE w0).heap.size (wE w0) w11 ∧ Sep (wE w0).heap.size w11 [R.rest w0 (fps [R.blk b0 53 [v0_0, (.int .i64 x0.2.1), (.int .u64 x0.2.2)]]), R.blk b0 53 [v0_0, (.int .i64 y14), (.int .u64 y15)], R.own ty_59 F18 v17 l16] ∧ F_spec_l1Cur__beats__mut__box_L1 x0 x1 m y14 y15 l16 y19 = some r) FU ?_ ?_)) a ha))
 ·
  have hS21 := hS10.push0 (r := R.own ty_59 [] (.slice none 0 0) []) rfl fun _ => .inl ⟨rfl, rfl, rfl⟩
  exact fun a ha => ⟨u5.2.2.1, u5.2.2.2, [], u5.1, (.slice none 0 0), [], ha.sub ⟨rfl, rfl, rfl, rfl, trivial⟩, hB9, (hS21.sel [2, 1, 0] rfl), hF⟩
 ·
  rintro m23 a w11 ⟨y14, y15, l16, y19, v17, F18, ha, hB12, hS13, hF⟩ KL22 hKL22
  refine W.at ?_ ha
  cases m23 with
  | zero => exact noneE hF
  | succ m23 =>
   obtain ⟨nx20, hnx20⟩ : ∃ k, k = F_spec_l1Cur__beats__mut__box_L1 x0 x1 m23 := ⟨_, rfl⟩
   rw [F_spec_l1Cur__beats__mut__box_L1, ← hnx20] at hF
   refine W.seq fun K24 hK24 => W.seq fun K25 hK25 => W.region (wl_move rfl rfl (wl_gtr rfl rfl rfl (WL.nil (fun a ha => hK25 _ _ (W.cond rfl (fun h26 => ?_) (fun h26 => ?_)) a ha))))
   ·replace hF := ifP h26 hF
    refine W.skip fun a ha => hK24 _ _ (W.seq fun K27 hK27 => (W.block (W.seq fun K28 hK28 => (W.region (wl_build (zs := [(.int .i64 0), (.int .i64 0)]) (out := [(.int .i64 1), (.int .i64 0)]) (vs := [(.int .i64 1)]) (css := [[(.int .i64 1)]]) tf_59 pl_59 rfl rfl rfl rfl rfl (wl_alloc (cs := [(.int .i64 0), (.int .i64 0)]) tf_59 rfl rfl hB12 hS13 ?_)))))) a ha
    intro b29 w30 hb31 hB32 hS33
    refine wl_store_blk (i := 0) (vs := [(.int .i64 1), (.int .i64 0)]) (cs' := [(.int .i64 1), (.int .i64 0)]) tf_59 rfl rfl rfl rfl hB32 hS33 rfl rfl ⟨rfl, rfl, trivial⟩ rfl ?_
    intro w34 hk37 hB35 hS36
    refine WL.nil fun a ha => hK28 _ _ (W.seq fun K38 hK38 => ?_) a ha
    obtain ⟨k46, hk46, hF⟩ := jE4 hF
    have hJ47 : ∀ (y42 : Int) (y43 : Int) (y44 : Int) (y45 : Int) (w39 : World) (_ : k46 y42 y43 y44 y45 = some r) (_ : Below (wE w0).heap.size (wE w0) w39) (_ : Sep (wE w0).heap.size w39 [R.rest w0 (fps [R.blk b0 53 [v0_0, (.int .i64 x0.2.1), (.int .u64 x0.2.2)]]), R.blk b0 53 [v0_0, (.int .i64 y42), (.int .u64 y43)], R.own ty_59 F18 v17 l16, R.blk b29 59 [(.int .i64 y44), (.int .i64 y45)]]), ∀ a, St 59 [(0, (.pointer (some ⟨b0, 0, none⟩))), (1, (.int .i64 x1)), (5, v17), (6, (.int .i64 y19)), (7, (.pointer (some ⟨b29, 0, none⟩)))] a → K38 a w39 := by
     intro y42 y43 y44 y45 w39 hF hB40 hS41
     subst hk46
     refine fun a ha => hK38 _ _ (W.region (wl_move rfl rfl (wl_load_blk (i := 3) (vs := [(.int .i64 y44), (.int .i64 y45)]) (v := (.agg #[(.int .i64 y44), (.int .i64 y45)])) tf_59 rfl rfl hS41 rfl rfl rfl (wl_lit (vs := [(.agg #[(.int .i64 y44), (.int .i64 y45)])]) (l := [(y44, y45)]) fl_59 Tryz.underlying30 rfl rfl rfl rfl rfl rfl hB40 hS41 ?_)))) a ha
     intro v48 F49 w50 hb51 hB52 hS53
     obtain ⟨u54, hu54, hF⟩ := bindE hF
     refine wl_append (i := 3) (S := (· < w50.heap.size)) fl_59 Tryz.underlying30 rfl rfl rfl hB52 hS53 rfl (hS53.own_ro (i := 0) rfl) hu54 ?_
     intro v55 F56 w57 hk58 hB59 hS60
     refine wl_assign rfl rfl (WL.nil (fun a ha => hK27 _ _ (W.region (wl_move rfl rfl (wl_sub rfl rfl rfl (wl_assign rfl rfl (WL.nil ?_))))) a ha))
     rw [hnx20] at hF
     exact fun a ha => hKL22 a _ m23 (Nat.lt_succ_self m23) ⟨y42, y43, u54, (w64 (y19 - 1)), v55, F56, ha.sub ⟨rfl, rfl, rfl, rfl, trivial⟩, hB59, (hS60.sel [1, 2, 3] rfl), hF⟩
    refine W.seq fun K61 hK61 => W.region (wl_move rfl rfl ?_)
    obtain ⟨u62, hu62, hF⟩ := bindE hF
    refine wl_call rfl Tryz.call27 (C_spec_l1Cur__one__mut__box w34 (x0.1, y14, y15) b0 v0_0 (h0_0.rsto (hS36.sel [1, 2] rfl)) 3 (hS36.sel [2] rfl).base0 _ hu62) rfl ?_
    rintro _ w63 ⟨rfl, hE64, hM65⟩
    refine ⟨_, rfl, ?_⟩
    have hB66 := hS36.takeB [2] rfl (M := [R.blk b0 53 [v0_0, (.int .i64 y14), (.int .u64 y15)]]) rfl hB35 hE64 hM65
    have hS67 : Sep (wE w0).heap.size w63 [R.blk b0 53 [v0_0, (.int .i64 u62.2.2.1), (.int .u64 u62.2.2.2)], R.blk b29 59 [(.int .i64 1), (.int .i64 0)], R.rest w0 (fps [R.blk b0 53 [v0_0, (.int .i64 x0.2.1), (.int .u64 x0.2.2)]]), R.own ty_59 F18 v17 l16] := hS36.take [2] [0, 1, 3] rfl (M := [R.blk b0 53 [v0_0, (.int .i64 y14), (.int .u64 y15)]]) rfl hM65 hB35.size
    refine WL.nil fun a ha => hK61 _ _ (W.cond rfl (fun h68 => ?_) (fun h68 => ?_)) a ha
    ·replace hF := ifP h68 hF
     refine W.region (wl_move rfl rfl (wl_lit (vs := [(.int .i64 2), (.int .i64 2), (.int .i64 3)]) (l := [2, 2, 3]) fl_3 Tryz.underlying25 rfl rfl rfl rfl rfl rfl hB66 hS67 ?_))
     intro v69 F70 w71 hb72 hB73 hS74
     obtain ⟨u75, hu75, hF⟩ := bindE hF
     refine wl_call rfl Tryz.call53 (C_spec_l1Cur__among__mut__box w71 (x0.1, u62.2.2.1, u62.2.2.2) b0 v0_0 (h0_0.rsto (hS74.sel [3, 1] rfl)) [2, 2, 3] v69 (own_out (hS74.sel [0, 1] rfl)) (hS74.sel [1] rfl).base0 _ hu75) rfl ?_
     rintro _ w76 ⟨rfl, hE77, hM78⟩
     refine ⟨_, rfl, ?_⟩
     have hB79 := hS74.takeB [1] rfl (M := [R.blk b0 53 [v0_0, (.int .i64 u62.2.2.1), (.int .u64 u62.2.2.2)]]) rfl hB73 hE77 hM78
     have hS80 : Sep (wE w0).heap.size w76 [R.blk b0 53 [v0_0, (.int .i64 u75.2.2.1), (.int .u64 u75.2.2.2)], R.own ty_3 F70 v69 [2, 2, 3], R.blk b29 59 [(.int .i64 1), (.int .i64 0)], R.rest w0 (fps [R.blk b0 53 [v0_0, (.int .i64 x0.2.1), (.int .u64 x0.2.2)]]), R.own ty_59 F18 v17 l16] := hS74.take [1] [0, 2, 3, 4] rfl (M := [R.blk b0 53 [v0_0, (.int .i64 u62.2.2.1), (.int .u64 u62.2.2.2)]]) rfl hM78 hB73.size
     refine wl_move rfl rfl (wl_move rfl rfl ?_)
     obtain ⟨u81, hu81, hF⟩ := bindE hF
     refine wl_call rfl Tryz.call54 (C_spec_l1Most w76 1 x1 _ hu81) rfl ?_
     rintro _ w82 ⟨rfl, hb83⟩
     refine ⟨_, rfl, ?_⟩
     have hB84 := hB79.trans (hb83.mono hB79.size)
     have hS85 := hS80.below hb83
     obtain ⟨u87, hu87, hF⟩ := bindE hF
     refine wl_call rfl Tryz.call28 (C_spec_l1Cur__pick__mut__box w82 (x0.1, u75.2.2.1, u75.2.2.2) b0 v0_0 (h0_0.rsto (hS85.sel [3, 0] rfl)) u81 (hS85.sel [0] rfl).base0 _ hu87) rfl ?_
     rintro _ w88 ⟨rfl, hE89, hM90⟩
     refine ⟨_, rfl, ?_⟩
     have hB91 := hS85.takeB [0] rfl (M := [R.blk b0 53 [v0_0, (.int .i64 u75.2.2.1), (.int .u64 u75.2.2.2)]]) rfl hB84 hE89 hM90
     have hS92 : Sep (wE w0).heap.size w88 [R.blk b0 53 [v0_0, (.int .i64 u87.2.2.1), (.int .u64 u87.2.2.2)], R.own ty_3 F70 v69 [2, 2, 3], R.blk b29 59 [(.int .i64 1), (.int .i64 0)], R.rest w0 (fps [R.blk b0 53 [v0_0, (.int .i64 x0.2.1), (.int .u64 x0.2.2)]]), R.own ty_59 F18 v17 l16] := hS85.take [0] [1, 2, 3, 4] rfl (M := [R.blk b0 53 [v0_0, (.int .i64 u75.2.2.1), (.int .u64 u75.2.2.2)]]) rfl hM90 hB84.size
     refine wl_build (zs := [(.int .i64 0), (.int .i64 0)]) (out := [(.int .i64 u75.1), (.int .i64 u87.1)]) (vs := [(.int .i64 u75.1), (.int .i64 u87.1)]) (css := [[(.int .i64 u75.1)], [(.int .i64 u87.1)]]) tf_59 pl_59 rfl rfl rfl rfl rfl (wl_store_blk (i := 2) (vs := [(.int .i64 u75.1), (.int .i64 u87.1)]) (cs' := [(.int .i64 u75.1), (.int .i64 u87.1)]) tf_59 rfl rfl rfl rfl hB91 hS92 rfl rfl ⟨rfl, rfl, trivial⟩ rfl ?_)
     intro w93 hk96 hB94 hS95
     refine WL.nil ?_
     exact fun a ha => hJ47 (u87.2.2.1) (u87.2.2.2) (u75.1) (u87.1) _ hF hB94 (hS95.sel [3, 0, 4, 2] rfl) a (ha.sub ⟨rfl, rfl, rfl, rfl, rfl, trivial⟩)
    ·replace hF := ifN h68 hF
     refine W.skip ?_
     exact fun a ha => hJ47 (u62.2.2.1) (u62.2.2.2) (1) (0) _ hF hB66 (hS67.sel [2, 0, 3, 1] rfl) a (ha.sub ⟨rfl, rfl, rfl, rfl, rfl, trivial⟩)
   ·replace hF := ifN h26 hF
    refine W.exit fun a ha => hK3 _ _ (W.seq fun K97 hK97 => ?_) a ha
    obtain ⟨k106, hk106, hF⟩ := jE3 hF
    have hJ107 : ∀ (y101 : Int) (y102 : Int) (l103 : (List (Int × Int))) (v104 : Value) (F105 : List Nat) (w98 : World) (_ : k106 y101 y102 l103 = some r) (_ : Below (wE w0).heap.size (wE w0) w98) (_ : Sep (wE w0).heap.size w98 [R.rest w0 (fps [R.blk b0 53 [v0_0, (.int .i64 x0.2.1), (.int .u64 x0.2.2)]]), R.blk b0 53 [v0_0, (.int .i64 y101), (.int .u64 y102)], R.own ty_59 F105 v104 l103]), ∀ a, St 59 [(5, v104)] a → K97 a w98 := by
     intro y101 y102 l103 v104 F105 w98 hF hB99 hS100
     subst hk106
     refine fun a ha => hK97 _ _ (W.seq fun K108 hK108 => (W.region (wl_move rfl rfl (wl_assign rfl rfl (WL.nil (fun a ha => hK108 _ _ (W.ret ?_) a ha)))))) a ha
     have hr := Option.some.inj hF
     subst hr
     exact rets (vs := [v104]) hQ rfl ⟨rv_tmp rfl, trivial⟩ ⟨v104, F105, rfl, hB99, hS100.sel [0, 1, 2] rfl⟩
    refine W.seq fun K109 hK109 => W.region (wl_move rfl rfl (wl_lenr (e := ty_59) (l := l16) Tryz.underlying30 rfl rfl (hS13.own_ro (i := 2) rfl) (wl_gtr rfl rfl rfl (WL.nil (fun a ha => hK109 _ _ (W.cond rfl (fun h110 => ?_) (fun h110 => ?_)) a ha)))))
    ·replace hF := ifP h110 hF
     refine W.seq fun K111 hK111 => W.region (wl_move rfl rfl (wl_move rfl rfl (wl_move rfl rfl (wl_lenr (e := ty_59) (l := l16) Tryz.underlying30 rfl rfl (hS13.own_ro (i := 2) rfl) ?_))))
     obtain ⟨u112, hu112, hF⟩ := bindE hF
     refine wl_call rfl Tryz.call28 (C_spec_l1Cur__pick__mut__box w11 (x0.1, y14, y15) b0 v0_0 (h0_0.rsto (hS13.sel [0, 1] rfl)) (List.length l16 : Int) (hS13.sel [1] rfl).base0 _ hu112) rfl ?_
     rintro _ w113 ⟨rfl, hE114, hM115⟩
     refine ⟨_, rfl, ?_⟩
     have hB116 := hS13.takeB [1] rfl (M := [R.blk b0 53 [v0_0, (.int .i64 y14), (.int .u64 y15)]]) rfl hB12 hE114 hM115
     have hS117 : Sep (wE w0).heap.size w113 [R.blk b0 53 [v0_0, (.int .i64 u112.2.2.1), (.int .u64 u112.2.2.2)], R.rest w0 (fps [R.blk b0 53 [v0_0, (.int .i64 x0.2.1), (.int .u64 x0.2.2)]]), R.own ty_59 F18 v17 l16] := hS13.take [1] [0, 2] rfl (M := [R.blk b0 53 [v0_0, (.int .i64 y14), (.int .u64 y15)]]) rfl hM115 hB12.size
     obtain ⟨u118, hu118, hF⟩ := bindE hF
     refine wl_indexoF (e := ty_59) (i := 2) Tryz.underlying30 rfl rfl rfl hS117 rfl hu118 ?_
     rintro p119 _ rfl hp120 ho121
     refine wl_assign rfl rfl (WL.nil (fun a ha => hK111 _ _ (W.seq fun K122 hK122 => (W.region (wl_move rfl rfl ?_))) a ha))
     obtain ⟨u123, hu123, hF⟩ := bindE hF
     refine wl_call rfl Tryz.call28 (C_spec_l1Cur__pick__mut__box w113 (x0.1, u112.2.2.1, u112.2.2.2) b0 v0_0 (h0_0.rsto (hS117.sel [1, 0] rfl)) 24 (hS117.sel [0] rfl).base0 _ hu123) rfl ?_
     rintro _ w124 ⟨rfl, hE125, hM126⟩
     refine ⟨_, rfl, ?_⟩
     have hB127 := hS117.takeB [0] rfl (M := [R.blk b0 53 [v0_0, (.int .i64 u112.2.2.1), (.int .u64 u112.2.2.2)]]) rfl hB116 hE125 hM126
     have hS128 : Sep (wE w0).heap.size w124 [R.blk b0 53 [v0_0, (.int .i64 u123.2.2.1), (.int .u64 u123.2.2.2)], R.rest w0 (fps [R.blk b0 53 [v0_0, (.int .i64 x0.2.1), (.int .u64 x0.2.2)]]), R.own ty_59 F18 v17 l16] := hS117.take [0] [1, 2] rfl (M := [R.blk b0 53 [v0_0, (.int .i64 u112.2.2.1), (.int .u64 u112.2.2.2)]]) rfl hM126 hB116.size
     have hp120 := hp120.keepS (fun b hb => mut_kept hM126 b (((hS117.get (i := 2) rfl).2.1 b hb).2) (nf_cons (hS117.disj (i := 2) (j := 0) rfl rfl rfl b hb) nf_nil)) (fun _ h => h)
     refine WL.nil fun a ha => hK122 _ _ (W.block (W.seq fun K129 hK129 => (W.region (wl_eql rfl rfl rfl (wl_assign rfl rfl (WL.nil (fun a ha => hK129 _ _ (W.cond rfl (fun h130 => ?_) (fun h130 => ?_)) a ha))))))) a ha
     ·replace hF := ifP h130 hF
      refine W.region (wl_move rfl rfl (wl_move rfl rfl (wl_lit (vs := [(.int .i64 0), (.int .i64 4)]) (l := [0, 4]) fl_3 Tryz.underlying25 rfl rfl rfl rfl rfl rfl hB127 hS128 ?_)))
      intro v131 F132 w133 hb134 hB135 hS136
      have hp120 := hp120.keepS (fun b hb => hb134.block b (((hS128.get (i := 2) rfl).2.1 b hb).2)) (fun _ h => h)
      obtain ⟨u137, hu137, hF⟩ := bindE hF
      refine wl_call rfl Tryz.call53 (C_spec_l1Cur__among__mut__box w133 (x0.1, u123.2.2.1, u123.2.2.2) b0 v0_0 (h0_0.rsto (hS136.sel [2, 1] rfl)) [0, 4] v131 (own_out (hS136.sel [0, 1] rfl)) (hS136.sel [1] rfl).base0 _ hu137) rfl ?_
      rintro _ w138 ⟨rfl, hE139, hM140⟩
      refine ⟨_, rfl, ?_⟩
      have hB141 := hS136.takeB [1] rfl (M := [R.blk b0 53 [v0_0, (.int .i64 u123.2.2.1), (.int .u64 u123.2.2.2)]]) rfl hB135 hE139 hM140
      have hS142 : Sep (wE w0).heap.size w138 [R.blk b0 53 [v0_0, (.int .i64 u137.2.2.1), (.int .u64 u137.2.2.2)], R.own ty_3 F132 v131 [0, 4], R.rest w0 (fps [R.blk b0 53 [v0_0, (.int .i64 x0.2.1), (.int .u64 x0.2.2)]]), R.own ty_59 F18 v17 l16] := hS136.take [1] [0, 2, 3] rfl (M := [R.blk b0 53 [v0_0, (.int .i64 u123.2.2.1), (.int .u64 u123.2.2.2)]]) rfl hM140 hB135.size
      have hp120 := hp120.keepS (fun b hb => mut_kept hM140 b (((hS136.get (i := 3) rfl).2.1 b hb).2) (nf_cons (hS136.disj (i := 3) (j := 1) rfl rfl rfl b hb) nf_nil)) (fun _ h => h)
      refine wl_nilCheck rfl rfl (wl_fieldp (o := 0) ff_59_0 rfl rfl (wl_storeo (i := 3) (o := 0) (vs := [(.int .i64 u137.1)]) (u' := (u137.1, u118.2)) fl_59 tf_3 rfl rfl rfl rfl ho121 hu118 hB141 hS142 rfl rfl ⟨rfl, trivial⟩ rfl ?_))
      intro w143 hk146 hB144 hS145
      refine WL.nil ?_
      exact fun a ha => hJ107 (u137.2.2.1) (u137.2.2.2) ((seti l16 u112.1 (u137.1, u118.2))) (v17) (F18) _ hF hB144 (hS145.sel [2, 0, 3] rfl) a (ha.sub ⟨rfl, trivial⟩)
     ·replace hF := ifN h130 hF
      refine W.seq fun K147 hK147 => W.region (wl_eql rfl rfl rfl (wl_assign rfl rfl (WL.nil (fun a ha => hK147 _ _ (W.cond rfl (fun h148 => ?_) (fun h148 => ?_)) a ha))))
      ·replace hF := ifP h148 hF
       refine W.region (wl_move rfl rfl (wl_move rfl rfl (wl_move rfl rfl (wl_lit (vs := [(.int .i64 (-1)), (.int .i64 1), (.int .i64 x1)]) (l := [(-1), 1, x1]) fl_3 Tryz.underlying25 rfl rfl rfl rfl rfl rfl hB127 hS128 ?_))))
       intro v149 F150 w151 hb152 hB153 hS154
       have hp120 := hp120.keepS (fun b hb => hb152.block b (((hS128.get (i := 2) rfl).2.1 b hb).2)) (fun _ h => h)
       obtain ⟨u155, hu155, hF⟩ := bindE hF
       refine wl_call rfl Tryz.call53 (C_spec_l1Cur__among__mut__box w151 (x0.1, u123.2.2.1, u123.2.2.2) b0 v0_0 (h0_0.rsto (hS154.sel [2, 1] rfl)) [(-1), 1, x1] v149 (own_out (hS154.sel [0, 1] rfl)) (hS154.sel [1] rfl).base0 _ hu155) rfl ?_
       rintro _ w156 ⟨rfl, hE157, hM158⟩
       refine ⟨_, rfl, ?_⟩
       have hB159 := hS154.takeB [1] rfl (M := [R.blk b0 53 [v0_0, (.int .i64 u123.2.2.1), (.int .u64 u123.2.2.2)]]) rfl hB153 hE157 hM158
       have hS160 : Sep (wE w0).heap.size w156 [R.blk b0 53 [v0_0, (.int .i64 u155.2.2.1), (.int .u64 u155.2.2.2)], R.own ty_3 F150 v149 [(-1), 1, x1], R.rest w0 (fps [R.blk b0 53 [v0_0, (.int .i64 x0.2.1), (.int .u64 x0.2.2)]]), R.own ty_59 F18 v17 l16] := hS154.take [1] [0, 2, 3] rfl (M := [R.blk b0 53 [v0_0, (.int .i64 u123.2.2.1), (.int .u64 u123.2.2.2)]]) rfl hM158 hB153.size
       have hp120 := hp120.keepS (fun b hb => mut_kept hM158 b (((hS154.get (i := 3) rfl).2.1 b hb).2) (nf_cons (hS154.disj (i := 3) (j := 1) rfl rfl rfl b hb) nf_nil)) (fun _ h => h)
       refine wl_nilCheck rfl rfl (wl_fieldp (o := 1) ff_59_1 rfl rfl (wl_storeo (i := 3) (o := 1) (vs := [(.int .i64 u155.1)]) (u' := (u118.1, u155.1)) fl_59 tf_3 rfl rfl rfl rfl (ho121.add 1) hu118 hB159 hS160 rfl rfl ⟨rfl, trivial⟩ rfl ?_))
       intro w161 hk164 hB162 hS163
       refine WL.nil ?_
       exact fun a ha => hJ107 (u155.2.2.1) (u155.2.2.2) ((seti l16 u112.1 (u118.1, u155.1))) (v17) (F18) _ hF hB162 (hS163.sel [2, 0, 3] rfl) a (ha.sub ⟨rfl, trivial⟩)
      ·replace hF := ifN h148 hF
       refine W.skip ?_
       exact fun a ha => hJ107 (u123.2.2.1) (u123.2.2.2) (l16) (v17) (F18) _ hF hB127 (hS128.sel [1, 0, 2] rfl) a (ha.sub ⟨rfl, trivial⟩)
    ·replace hF := ifN h110 hF
     refine W.skip ?_
     exact fun a ha => hJ107 (y14) (y15) (l16) (v17) (F18) _ hF hB12 (hS13.sel [0, 1, 2] rfl) a (ha.sub ⟨rfl, trivial⟩)
theorem C_spec_l1Cur__march__mut__box (w0 : World) (x0 : ((List Int) × Int × Int)) (b0 : Nat) (v0_0 : Value) (h0_0 : rdS ty_5 (Out (fps [R.blk b0 53 [v0_0, (.int .i64 x0.2.1), (.int .u64 x0.2.2)]]) w0) w0 v0_0 x0.1) (hS0 : Sep 0 w0 [R.blk b0 53 [v0_0, (.int .i64 x0.2.1), (.int .u64 x0.2.2)]]) (r : ((((List (List (Int × Int))) × (List Int) × Int × Int) × Int × (List Int) × (List Int)) × ((List Int) × Int × Int))) (hF : F_spec_l1Cur__march__mut__box x0 = some r) :
  Calls Tryz.prog 25 [(.pointer (some ⟨b0, 0, none⟩))].toArray w0 fun e w' => ∃ (q0 : Value) (G0 : List Nat) (q1 : Value) (G1 : List Nat) (q2 : Value) (G2 : List Nat) (q3 : Value) (G3 : List Nat), e = .returned (.agg #[q0, q1, (.int .i64 r.1.1.2.2.1), (.int .i64 r.1.1.2.2.2), (.int .i64 r.1.2.1), q2, q3]) ∧ Below 0 (wE w0) w' ∧ Sep 0 w' [R.rest w0 (fps [R.blk b0 53 [v0_0, (.int .i64 x0.2.1), (.int .u64 x0.2.2)]]), R.blk b0 53 [v0_0, (.int .i64 r.2.2.1), (.int .u64 r.2.2.2)], R.own ty_66 G0 q0 r.1.1.1, R.own ty_3 G1 q1 r.1.1.2.1, R.own ty_3 G2 q2 r.1.2.2.1, R.own ty_3 G3 q3 r.1.2.2.2] := by
 refine calls_mk' Tryz.func25 rfl Tryz.ntmps25 rfl rfl fun Q hQ hP => ?_
 have hB : Below (wE w0).heap.size (wE w0) w0 := wE_below w0
 have hS : Sep (wE w0).heap.size w0 [R.rest w0 (fps [R.blk b0 53 [v0_0, (.int .i64 x0.2.1), (.int .u64 x0.2.2)]]), R.blk b0 53 [v0_0, (.int .i64 x0.2.1), (.int .u64 x0.2.2)]] := hS0.rest
 unfold F_spec_l1Cur__march__mut__box at hF
 refine W.seq fun K1 hK1 => W.region (wl_alloc (cs := [(.slice none 0 0), (.slice none 0 0), (.int .i64 0), (.int .i64 0), (.int .i64 0), (.slice none 0 0), (.slice none 0 0)]) tf_29 rfl rfl hB hS ?_)
 intro b2 w3 hb4 hB5 hS6
 refine WL.nil fun a ha => hK1 _ _ (W.seq fun K7 hK7 => (W.region (wl_move rfl rfl ?_))) a ha
 obtain ⟨u8, hu8, hF⟩ := bindE hF
 refine wl_call rfl Tryz.call49 (C_spec_l1Cur__show__mut__box w3 x0 b0 v0_0 (h0_0.rsto (hS6.sel [1, 2] rfl)) (hS6.sel [2] rfl).base0 _ hu8) rfl ?_
 rintro _ w9 ⟨v14, F15, v16, F17, rfl, hE10, hM11⟩
 refine ⟨_, rfl, ?_⟩
 have hB12 := hS6.takeB [2] rfl (M := [R.blk b0 53 [v0_0, (.int .i64 x0.2.1), (.int .u64 x0.2.2)]]) rfl hB5 hE10 hM11
 have hS13 : Sep (wE w0).heap.size w9 [R.blk b0 53 [v0_0, (.int .i64 u8.2.2.1), (.int .u64 u8.2.2.2)], R.own ty_66 F15 v14 u8.1.1, R.own ty_3 F17 v16 u8.1.2.1, R.blk b2 29 [(.slice none 0 0), (.slice none 0 0), (.int .i64 0), (.int .i64 0), (.int .i64 0), (.slice none 0 0), (.slice none 0 0)], R.rest w0 (fps [R.blk b0 53 [v0_0, (.int .i64 x0.2.1), (.int .u64 x0.2.2)]])] := hS6.take [2] [0, 1] rfl (M := [R.blk b0 53 [v0_0, (.int .i64 x0.2.1), (.int .u64 x0.2.2)]]) rfl hM11 hB5.size
 refine wl_alloc (cs := [(.slice none 0 0), (.slice none 0 0), (.int .i64 0), (.int .i64 0)]) tf_27 rfl rfl hB12 hS13 ?_
 intro b18 w19 hb20 hB21 hS22
 refine wl_store_blk (i := 0) (vs := [v14, v16, (.int .i64 u8.1.2.2.1), (.int .i64 u8.1.2.2.2)]) (cs' := [v14, v16, (.int .i64 u8.1.2.2.1), (.int .i64 u8.1.2.2.2)]) tf_27 rfl rfl rfl rfl hB21 hS22 rfl rfl ⟨(hS22.own_ro (i := 2) rfl).one, (hS22.own_ro (i := 3) rfl).one, rfl, rfl, trivial⟩ rfl ?_
 intro w23 hk26 hB24 hS25
 refine WL.nil fun a ha => hK7 _ _ (W.seq fun K27 hK27 => (W.region (wl_load_blk (i := 0) (vs := [v14, v16, (.int .i64 u8.1.2.2.1), (.int .i64 u8.1.2.2.2)]) (v := (.agg #[v14, v16, (.int .i64 u8.1.2.2.1), (.int .i64 u8.1.2.2.2)])) tf_27 rfl rfl hS25 rfl rfl rfl ?_))) a ha
 obtain ⟨u28, hu28, hF⟩ := bindE hF
 refine wl_call rfl Tryz.call24 (C_spec_NewMarch w23 u8.1 v14 (hS25.own_ro (i := 2) rfl) v16 (hS25.own_ro (i := 3) rfl) _ hu28) rfl ?_
 rintro _ w37 ⟨v29, F30, v31, F32, v33, F34, v35, F36, rfl, hb38, hM41⟩
 refine ⟨_, rfl, ?_⟩
 have hB39 := hB24.trans (hb38.mono hB24.size)
 have hS40 := hS25.join hb38 hM41 hB24.size
 refine wl_move rfl rfl (wl_extract rfl rfl rfl (wl_extract rfl rfl rfl (wl_alloc (cs := [(.slice none 0 0), (.slice none 0 0), (.int .i64 0), (.int .i64 0), (.int .i64 0), (.slice none 0 0), (.slice none 0 0)]) tf_29 rfl rfl hB39 hS40 ?_)))
 intro b42 w43 hb44 hB45 hS46
 refine wl_store_blk (i := 0) (vs := [v29, v31, (.int .i64 u28.1.1.2.2.1), (.int .i64 u28.1.1.2.2.2), (.int .i64 u28.1.2.1), v33, v35]) (cs' := [v29, v31, (.int .i64 u28.1.1.2.2.1), (.int .i64 u28.1.1.2.2.2), (.int .i64 u28.1.2.1), v33, v35]) tf_29 rfl rfl rfl rfl hB45 hS46 rfl rfl ⟨(hS46.own_ro (i := 1) rfl).one, (hS46.own_ro (i := 2) rfl).one, rfl, rfl, rfl, (hS46.own_ro (i := 3) rfl).one, (hS46.own_ro (i := 4) rfl).one, trivial⟩ rfl ?_
 intro w47 hk50 hB48 hS49
 refine wl_assign rfl rfl (WL.nil (fun a ha => hK27 _ _ (W.seq fun K51 hK51 => (W.seq fun K52 hK52 => (W.region (wl_move rfl rfl (wl_not rfl rfl (WL.nil (fun a ha => hK52 _ _ (W.cond rfl (fun h53 => ?_) (fun h53 => ?_)) a ha))))))) a ha))
 ·replace hF := ifP h53 hF
  refine W.seq fun K54 hK54 => W.region (wl_load_blk (i := 5) (vs := [v14, v16, (.int .i64 u8.1.2.2.1), (.int .i64 u8.1.2.2.2)]) (v := (.agg #[v14, v16, (.int .i64 u8.1.2.2.1), (.int .i64 u8.1.2.2.2)])) tf_27 rfl rfl hS49 rfl rfl rfl (wl_build (zs := [(.slice none 0 0), (.slice none 0 0), (.int .i64 0), (.int .i64 0), (.int .i64 0), (.slice none 0 0), (.slice none 0 0)]) (out := [v14, v16, (.int .i64 u8.1.2.2.1), (.int .i64 u8.1.2.2.2), (.int .i64 0), (.slice none 0 0), (.slice none 0 0)]) (vs := [(.agg #[v14, v16, (.int .i64 u8.1.2.2.1), (.int .i64 u8.1.2.2.2)])]) (css := [[v14, v16, (.int .i64 u8.1.2.2.1), (.int .i64 u8.1.2.2.2)]]) tf_29 pl_29 rfl rfl rfl rfl rfl ?_))
  refine wl_store_blk (i := 9) (vs := [v14, v16, (.int .i64 u8.1.2.2.1), (.int .i64 u8.1.2.2.2), (.int .i64 0), (.slice none 0 0), (.slice none 0 0)]) (cs' := [v14, v16, (.int .i64 u8.1.2.2.1), (.int .i64 u8.1.2.2.2), (.int .i64 0), (.slice none 0 0), (.slice none 0 0)]) tf_29 rfl rfl rfl rfl hB48 hS49 rfl rfl ⟨(hS49.own_ro (i := 7) rfl).one, (hS49.own_ro (i := 8) rfl).one, rfl, rfl, rfl, rfl, rfl, trivial⟩ rfl ?_
  intro w55 hk58 hB56 hS57
  refine WL.nil fun a ha => hK54 _ _ (W.ret ?_) a ha
  have hS59 := hS57.push0 (r := R.own ty_3 [] (.slice none 0 0) []) rfl fun _ => .inl ⟨rfl, rfl, rfl⟩
  have hS60 := hS59.push0 (r := R.own ty_3 [] (.slice none 0 0) []) rfl fun _ => .inl ⟨rfl, rfl, rfl⟩
  have hr := Option.some.inj hF
  subst hr
  exact rets (vs := [(.agg #[v14, v16, (.int .i64 u8.1.2.2.1), (.int .i64 u8.1.2.2.2), (.int .i64 0), (.slice none 0 0), (.slice none 0 0)])]) hQ rfl ⟨rv_cell (i := 9) tf_29 rfl hS57 rfl rfl rfl, trivial⟩ ⟨v14, F15, v16, F17, (.slice none 0 0), [], (.slice none 0 0), [], rfl, hB56, hS60.sel [12, 8, 9, 10, 1, 0] rfl⟩
 ·replace hF := ifN h53 hF
  refine W.skip fun a ha => hK51 _ _ (W.seq fun K61 hK61 => (W.seq fun K62 hK62 => (W.region (wl_move rfl rfl (wl_field (o := 6) (off' := 6) ff_29_3 rfl rfl rfl (wl_load_blk (i := 0) (vs := [v35]) (v := v35) tf_25 rfl rfl hS49 rfl rfl rfl (wl_lenr (e := ty_3) (l := u28.1.2.2.2) Tryz.underlying25 rfl rfl (hS49.own_ro (i := 4) rfl) ?_))))))) a ha
  obtain ⟨u63, hu63, hF⟩ := bindE hF
  refine wl_call rfl Tryz.call26 (C_spec_l1Cur__beats__mut__box w47 (x0.1, u8.2.2.1, u8.2.2.2) b0 v0_0 (h0_0.rsto (hS49.sel [10, 6] rfl)) (List.length u28.1.2.2.2 : Int) (hS49.sel [6] rfl).base0 _ hu63) rfl ?_
  rintro _ w65 ⟨v70, F71, rfl, hE66, hM67⟩
  refine ⟨_, rfl, ?_⟩
  have hB68 := hS49.takeB [6] rfl (M := [R.blk b0 53 [v0_0, (.int .i64 u8.2.2.1), (.int .u64 u8.2.2.2)]]) rfl hB48 hE66 hM67
  have hS69 : Sep (wE w0).heap.size w65 [R.blk b0 53 [v0_0, (.int .i64 u63.2.2.1), (.int .u64 u63.2.2.2)], R.own ty_59 F71 v70 u63.1, R.blk b42 29 [v29, v31, (.int .i64 u28.1.1.2.2.1), (.int .i64 u28.1.1.2.2.2), (.int .i64 u28.1.2.1), v33, v35], R.own ty_66 F30 v29 u28.1.1.1, R.own ty_3 F32 v31 u28.1.1.2.1, R.own ty_3 F34 v33 u28.1.2.2.1, R.own ty_3 F36 v35 u28.1.2.2.2, R.blk b18 27 [v14, v16, (.int .i64 u8.1.2.2.1), (.int .i64 u8.1.2.2.2)], R.own ty_66 F15 v14 u8.1.1, R.own ty_3 F17 v16 u8.1.2.1, R.blk b2 29 [(.slice none 0 0), (.slice none 0 0), (.int .i64 0), (.int .i64 0), (.int .i64 0), (.slice none 0 0), (.slice none 0 0)], R.rest w0 (fps [R.blk b0 53 [v0_0, (.int .i64 x0.2.1), (.int .u64 x0.2.2)]])] := hS49.take [6] [0, 1, 2, 3, 4, 5, 7, 8, 9, 10] rfl (M := [R.blk b0 53 [v0_0, (.int .i64 u8.2.2.1), (.int .u64 u8.2.2.2)]]) rfl hM67 hB48.size
  refine wl_lenr (e := ty_59) (l := u63.1) Tryz.underlying30 rfl rfl (hS69.own_ro (i := 1) rfl) (wl_move rfl rfl (WL.nil (fun a ha => hK62 _ _ (W.block ?_) a ha)))
  refine W.loopk (fun m a w72 => ∃ (l75 : (List (List (Int × Int)))) (l78 : (List Int)) (y81 : Int) (y82 : Int) (y83 : Int) (l84 : (List Int)) (l87 : (List Int)) (y90 : Int) (v76 : Value) (F77 : List Nat) (v79 : Value) (F80 : List Nat) (v85 : Value) (F86 : List Nat) (v88 : Value) (F89 : List Nat), St 91 [(0, (.pointer (some ⟨b0, 0, none⟩))), (2, (.pointer (some ⟨b2, 0, none⟩))), (4, (.pointer (some ⟨b42, 0, none⟩))), (25, v70), (26, (.int .i64 (List.length u63.1 : Int))), (27, (.int .i64 y90))] a ∧ Below (wE w0).heap.size (wE w0) w72 ∧ Sep (wE w0).heap.size w72 [R.rest w0 (fps [R.blk b0 53 [v0_0, (.int .i64 x0.2.1), (.int .u64 x0.2.2)]]), R.blk b0 53 [v0_0, (.int .i64 u63.2.2.1), (.int .u64 u63.2.2.2)], R.blk b2 29 [(.slice none 0 0), (.slice none 0 0), (.int .i64 0), (.int .i64 0), (.int .i64 0), (.slice none 0 0), (.slice none 0 0)], R.own ty_66 F77 v76 l75, R.own ty_3 F80 v79 l78, R.own ty_3 F86 v85 l84, R.own ty_3 F89 v88 l87, R.blk b42 29 [v76, v79, (.int .i64 y81), (.int .i64 y82), (.int .i64 y83), v85, v88], R.own ty_59 F71 v70 u63.1] ∧ F_spec_l1Cur__march__mut__box_L1 u63 x0 m l75 l78 y81 y82 y83 l84 l87 y90 = some r) FU ?_ ?_
  ·
   exact fun a ha => ⟨u28.1.1.1, u28.1.1.2.1, u28.1.1.2.2.1, u28.1.1.2.2.2, u28.1.2.1, u28.1.2.2.1, u28.1.2.2.2, 0, v29, F30, v31, F32, v33, F34, v35, F36, ha.sub ⟨rfl, rfl, rfl, rfl, rfl, rfl, trivial⟩, hB68, (hS69.sel [11, 0, 10, 3, 4, 5, 6, 2, 1] rfl), hF⟩
  ·
   rintro m93 a w72 ⟨l75, l78, y81, y82, y83, l84, l87, y90, v76, F77, v79, F80, v85, F86, v88, F89, ha, hB73, hS74, hF⟩ KL92 hKL92
   refine W.at ?_ ha
   cases m93 with
   | zero => exact noneE hF
   | succ m93 =>
    obtain ⟨nx91, hnx91⟩ : ∃ k, k = F_spec_l1Cur__march__mut__box_L1 u63 x0 m93 := ⟨_, rfl⟩
    rw [F_spec_l1Cur__march__mut__box_L1, ← hnx91] at hF
    refine W.seq fun K94 hK94 => W.region (wl_lss rfl rfl rfl (WL.nil (fun a ha => hK94 _ _ (W.seq fun K95 hK95 => (W.cond rfl (fun h96 => ?_) (fun h96 => ?_))) a ha)))
    ·replace hF := ifP h96 hF
     refine W.skip fun a ha => hK95 _ _ (W.seq fun K97 hK97 => ?_) a ha
     obtain ⟨k116, hk116, hF⟩ := jE7 hF
     have hJ117 : ∀ (l101 : (List (List (Int × Int)))) (l104 : (List Int)) (y107 : Int) (y108 : Int) (y109 : Int) (l110 : (List Int)) (l113 : (List Int)) (v102 : Value) (F103 : List Nat) (v105 : Value) (F106 : List Nat) (v111 : Value) (F112 : List Nat) (v114 : Value) (F115 : List Nat) (w98 : World) (_ : k116 l101 l104 y107 y108 y109 l110 l113 = some r) (_ : Below (wE w0).heap.size (wE w0) w98) (_ : Sep (wE w0).heap.size w98 [R.rest w0 (fps [R.blk b0 53 [v0_0, (.int .i64 x0.2.1), (.int .u64 x0.2.2)]]), R.blk b0 53 [v0_0, (.int .i64 u63.2.2.1), (.int .u64 u63.2.2.2)], R.blk b2 29 [(.slice none 0 0), (.slice none 0 0), (.int .i64 0), (.int .i64 0), (.int .i64 0), (.slice none 0 0), (.slice none 0 0)], R.own ty_66 F103 v102 l101, R.own ty_3 F106 v105 l104, R.own ty_3 F112 v111 l110, R.own ty_3 F115 v114 l113, R.blk b42 29 [v102, v105, (.int .i64 y107), (.int .i64 y108), (.int .i64 y109), v111, v114], R.own ty_59 F71 v70 u63.1]), ∀ a, St 91 [(0, (.pointer (some ⟨b0, 0, none⟩))), (2, (.pointer (some ⟨b2, 0, none⟩))), (4, (.pointer (some ⟨b42, 0, none⟩))), (25, v70), (26, (.int .i64 (List.length u63.1 : Int))), (27, (.int .i64 y90))] a → K97 a w98 := by
      intro l101 l104 y107 y108 y109 l110 l113 v102 F103 v105 F106 v111 F112 v114 F115 w98 hF hB99 hS100
      subst hk116
      refine fun a ha => hK97 _ _ (W.region (wl_add rfl rfl rfl (wl_move rfl rfl (WL.nil ?_)))) a ha
      rw [hnx91] at hF
      exact fun a ha => hKL92 a _ m93 (Nat.lt_succ_self m93) ⟨l101, l104, y107, y108, y109, l110, l113, (w64 (y90 + 1)), v102, F103, v105, F106, v111, F112, v114, F115, ha.sub ⟨rfl, rfl, rfl, rfl, rfl, rfl, trivial⟩, hB99, (hS100.sel [0, 1, 2, 3, 4, 5, 6, 7, 8] rfl), hF⟩
     refine W.block (W.seq fun K118 hK118 => (W.region ?_))
     obtain ⟨u119, hu119, hF⟩ := bindE hF
     refine wl_indexoF (e := ty_59) (i := 8) Tryz.underlying30 rfl rfl rfl hS74 rfl hu119 ?_
     rintro p120 _ rfl hp121 ho122
     refine wl_load_p (vs := [(.int .i64 u119.1), (.int .i64 u119.2)]) (v := (.agg #[(.int .i64 u119.1), (.int .i64 u119.2)])) tf_59 rfl rfl hp121 rfl rfl (wl_alloc (cs := [(.int .i64 0), (.int .i64 0)]) tf_59 rfl rfl hB73 hS74 ?_)
     intro b123 w124 hb125 hB126 hS127
     have hp121 := hp121.keepS (fun b hb => hb125.block b (((hS74.get (i := 8) rfl).2.1 b hb).2)) (fun _ h => h)
     refine wl_store_blk (i := 0) (vs := [(.int .i64 u119.1), (.int .i64 u119.2)]) (cs' := [(.int .i64 u119.1), (.int .i64 u119.2)]) tf_59 rfl rfl rfl rfl hB126 hS127 rfl rfl ⟨rfl, rfl, trivial⟩ rfl ?_
     intro w128 hk131 hB129 hS130
     have hp121 := hp121.keepS (fun b hb => hk131.2.1 b (((hS127.get (i := 9) rfl).2.1 b hb).2) (hS127.disj (i := 9) (j := 0) rfl rfl rfl b hb)) (fun _ h => h)
     refine WL.nil fun a ha => hK118 _ _ (W.seq fun K132 hK132 => (W.region (wl_load_blk (i := 8) (vs := [v76, v79, (.int .i64 y81), (.int .i64 y82), (.int .i64 y83), v85, v88]) (v := (.agg #[v76, v79, (.int .i64 y81), (.int .i64 y82), (.int .i64 y83), v85, v88])) tf_29 rfl rfl hS130 rfl rfl rfl (wl_load_blk (i := 0) (vs := [(.int .i64 u119.1), (.int .i64 u119.2)]) (v := (.agg #[(.int .i64 u119.1), (.int .i64 u119.2)])) tf_59 rfl rfl hS130 rfl rfl rfl ?_)))) a ha
     obtain ⟨u133, hu133, hF⟩ := bindE hF
     refine wl_call rfl Tryz.call33 (C_spec_mnStep w128 ((l75, l78, y81, y82), y83, l84, l87) v76 (hS130.own_ro (i := 4) rfl) v79 (hS130.own_ro (i := 5) rfl) v85 (hS130.own_ro (i := 6) rfl) v88 (hS130.own_ro (i := 7) rfl) u119 _ hu133) rfl ?_
     rintro _ w142 ⟨v134, F135, v136, F137, v138, F139, v140, F141, rfl, hb143, hM146⟩
     refine ⟨_, rfl, ?_⟩
     have hB144 := hB129.trans (hb143.mono hB129.size)
     have hS145 := hS130.join hb143 hM146 hB129.size
     have hp121 := hp121.keepS (fun b hb => hb143.block b (((hS130.get (i := 9) rfl).2.1 b hb).2)) (fun _ h => h)
     refine wl_move rfl rfl (wl_extract rfl rfl rfl (wl_extract rfl rfl rfl (wl_alloc (cs := [(.slice none 0 0), (.slice none 0 0), (.int .i64 0), (.int .i64 0), (.int .i64 0), (.slice none 0 0), (.slice none 0 0)]) tf_29 rfl rfl hB144 hS145 ?_)))
     intro b147 w148 hb149 hB150 hS151
     have hp121 := hp121.keepS (fun b hb => hb149.block b (((hS145.get (i := 13) rfl).2.1 b hb).2)) (fun _ h => h)
     refine wl_store_blk (i := 0) (vs := [v134, v136, (.int .i64 u133.1.1.2.2.1), (.int .i64 u133.1.1.2.2.2), (.int .i64 u133.1.2.1), v138, v140]) (cs' := [v134, v136, (.int .i64 u133.1.1.2.2.1), (.int .i64 u133.1.1.2.2.2), (.int .i64 u133.1.2.1), v138, v140]) tf_29 rfl rfl rfl rfl hB150 hS151 rfl rfl ⟨(hS151.own_ro (i := 1) rfl).one, (hS151.own_ro (i := 2) rfl).one, rfl, rfl, rfl, (hS151.own_ro (i := 3) rfl).one, (hS151.own_ro (i := 4) rfl).one, trivial⟩ rfl ?_
     intro w152 hk155 hB153 hS154
     have hp121 := hp121.keepS (fun b hb => hk155.2.1 b (((hS151.get (i := 14) rfl).2.1 b hb).2) (hS151.disj (i := 14) (j := 0) rfl rfl rfl b hb)) (fun _ h => h)
     refine wl_assign rfl rfl (WL.nil (fun a ha => hK132 _ _ (W.seq fun K156 hK156 => (W.region (wl_move rfl rfl (WL.nil (fun a ha => hK156 _ _ (W.cond rfl (fun h157 => ?_) (fun h157 => ?_)) a ha))))) a ha))
     ·replace hF := ifP h157 hF
      refine W.region (wl_load_blk (i := 0) (vs := [v134, v136, (.int .i64 u133.1.1.2.2.1), (.int .i64 u133.1.1.2.2.2), (.int .i64 u133.1.2.1), v138, v140]) (v := (.agg #[v134, v136, (.int .i64 u133.1.1.2.2.1), (.int .i64 u133.1.1.2.2.2), (.int .i64 u133.1.2.1), v138, v140])) tf_29 rfl rfl hS154 rfl rfl rfl (wl_store_blk (i := 13) (vs := [v134, v136, (.int .i64 u133.1.1.2.2.1), (.int .i64 u133.1.1.2.2.2), (.int .i64 u133.1.2.1), v138, v140]) (cs' := [v134, v136, (.int .i64 u133.1.1.2.2.1), (.int .i64 u133.1.1.2.2.2), (.int .i64 u133.1.2.1), v138, v140]) tf_29 rfl rfl rfl rfl hB153 hS154 rfl rfl ⟨(hS154.own_ro (i := 1) rfl).one, (hS154.own_ro (i := 2) rfl).one, rfl, rfl, rfl, (hS154.own_ro (i := 3) rfl).one, (hS154.own_ro (i := 4) rfl).one, trivial⟩ rfl ?_))
      intro w158 hk161 hB159 hS160
      have hp121 := hp121.keepS (fun b hb => hk161.2.1 b (((hS154.get (i := 14) rfl).2.1 b hb).2) (hS154.disj (i := 14) (j := 13) rfl rfl rfl b hb)) (fun _ h => h)
      refine WL.nil ?_
      exact fun a ha => hJ117 (u133.1.1.1) (u133.1.1.2.1) (u133.1.1.2.2.1) (u133.1.1.2.2.2) (u133.1.2.1) (u133.1.2.2.1) (u133.1.2.2.2) (v134) (F135) (v136) (F137) (v138) (F139) (v140) (F141) _ hF hB159 (hS160.sel [6, 7, 8, 1, 2, 3, 4, 13, 14] rfl) a (ha.sub ⟨rfl, rfl, rfl, rfl, rfl, rfl, trivial⟩)
     ·replace hF := ifN h157 hF
      refine W.skip ?_
      exact fun a ha => hJ117 (l75) (l78) (y81) (y82) (y83) (l84) (l87) (v76) (F77) (v79) (F80) (v85) (F86) (v88) (F89) _ hF hB153 (hS154.sel [6, 7, 8, 9, 10, 11, 12, 13, 14] rfl) a (ha.sub ⟨rfl, rfl, rfl, rfl, rfl, rfl, trivial⟩)
    ·replace hF := ifN h96 hF
     refine W.exit fun a ha => hK61 _ _ (W.seq fun K162 hK162 => (W.region (wl_load_blk (i := 7) (vs := [v76, v79, (.int .i64 y81), (.int .i64 y82), (.int .i64 y83), v85, v88]) (v := (.agg #[v76, v79, (.int .i64 y81), (.int .i64 y82), (.int .i64 y83), v85, v88])) tf_29 rfl rfl hS74 rfl rfl rfl ?_))) a ha
     obtain ⟨u163, hu163, hF⟩ := bindE hF
     refine wl_call rfl Tryz.call32 (C_spec_mnOwn w72 ((l75, l78, y81, y82), y83, l84, l87) v76 (hS74.own_ro (i := 3) rfl) v79 (hS74.own_ro (i := 4) rfl) v85 (hS74.own_ro (i := 5) rfl) v88 (hS74.own_ro (i := 6) rfl) _ hu163) rfl ?_
     rintro _ w172 ⟨v164, F165, v166, F167, v168, F169, v170, F171, rfl, hb173, hM176⟩
     refine ⟨_, rfl, ?_⟩
     have hB174 := hB73.trans (hb173.mono hB73.size)
     have hS175 := hS74.join hb173 hM176 hB73.size
     refine wl_store_blk (i := 11) (vs := [v164, v166, (.int .i64 u163.1.2.2.1), (.int .i64 u163.1.2.2.2), (.int .i64 u163.2.1), v168, v170]) (cs' := [v164, v166, (.int .i64 u163.1.2.2.1), (.int .i64 u163.1.2.2.2), (.int .i64 u163.2.1), v168, v170]) tf_29 rfl rfl rfl rfl hB174 hS175 rfl rfl ⟨(hS175.own_ro (i := 0) rfl).one, (hS175.own_ro (i := 1) rfl).one, rfl, rfl, rfl, (hS175.own_ro (i := 2) rfl).one, (hS175.own_ro (i := 3) rfl).one, trivial⟩ rfl ?_
     intro w177 hk180 hB178 hS179
     refine WL.nil fun a ha => hK162 _ _ (W.seq fun K181 hK181 => ?_) a ha
     obtain ⟨k194, hk194, hF⟩ := jE5 hF
     have hJ195 : ∀ (y185 : Int) (y186 : Int) (y187 : Int) (l188 : (List Int)) (l191 : (List Int)) (v189 : Value) (F190 : List Nat) (v192 : Value) (F193 : List Nat) (w182 : World) (_ : k194 y185 y186 y187 l188 l191 = some r) (_ : Below (wE w0).heap.size (wE w0) w182) (_ : Sep (wE w0).heap.size w182 [R.rest w0 (fps [R.blk b0 53 [v0_0, (.int .i64 x0.2.1), (.int .u64 x0.2.2)]]), R.blk b0 53 [v0_0, (.int .i64 y185), (.int .u64 y186)], R.blk b2 29 [(.slice none 0 0), (.slice none 0 0), (.int .i64 0), (.int .i64 0), (.int .i64 0), (.slice none 0 0), (.slice none 0 0)], R.own ty_66 F165 v164 u163.1.1, R.own ty_3 F167 v166 u163.1.2.1, R.own ty_3 F190 v189 l188, R.own ty_3 F193 v192 l191, R.blk b42 29 [v164, v166, (.int .i64 u163.1.2.2.1), (.int .i64 u163.1.2.2.2), (.int .i64 y187), v189, v192]]), ∀ a, St 91 [(2, (.pointer (some ⟨b2, 0, none⟩))), (4, (.pointer (some ⟨b42, 0, none⟩)))] a → K181 a w182 := by
      intro y185 y186 y187 l188 l191 v189 F190 v192 F193 w182 hF hB183 hS184
      subst hk194
      refine fun a ha => hK181 _ _ (W.seq fun K196 hK196 => (W.region (wl_load_blk (i := 7) (vs := [v164, v166, (.int .i64 u163.1.2.2.1), (.int .i64 u163.1.2.2.2), (.int .i64 y187), v189, v192]) (v := (.agg #[v164, v166, (.int .i64 u163.1.2.2.1), (.int .i64 u163.1.2.2.2), (.int .i64 y187), v189, v192])) tf_29 rfl rfl hS184 rfl rfl rfl (wl_store_blk (i := 2) (vs := [v164, v166, (.int .i64 u163.1.2.2.1), (.int .i64 u163.1.2.2.2), (.int .i64 y187), v189, v192]) (cs' := [v164, v166, (.int .i64 u163.1.2.2.1), (.int .i64 u163.1.2.2.2), (.int .i64 y187), v189, v192]) tf_29 rfl rfl rfl rfl hB183 hS184 rfl rfl ⟨(hS184.own_ro (i := 3) rfl).one, (hS184.own_ro (i := 4) rfl).one, rfl, rfl, rfl, (hS184.own_ro (i := 5) rfl).one, (hS184.own_ro (i := 6) rfl).one, trivial⟩ rfl ?_)))) a ha
      intro w197 hk200 hB198 hS199
      refine WL.nil fun a ha => hK196 _ _ (W.ret ?_) a ha
      have hr := Option.some.inj hF
      subst hr
      exact rets (vs := [(.agg #[v164, v166, (.int .i64 u163.1.2.2.1), (.int .i64 u163.1.2.2.2), (.int .i64 y187), v189, v192])]) hQ rfl ⟨rv_cell (i := 2) tf_29 rfl hS199 rfl rfl rfl, trivial⟩ ⟨v164, F165, v166, F167, v189, F190, v192, F193, rfl, hB198, hS199.sel [0, 1, 3, 4, 5, 6] rfl⟩
     refine W.seq fun K201 hK201 => W.region (wl_move rfl rfl ?_)
     obtain ⟨u202, hu202, hF⟩ := bindE hF
     refine wl_call rfl Tryz.call28 (C_spec_l1Cur__pick__mut__box w177 (x0.1, u63.2.2.1, u63.2.2.2) b0 v0_0 (h0_0.rsto (hS179.sel [4, 5] rfl)) 30 (hS179.sel [5] rfl).base0 _ hu202) rfl ?_
     rintro _ w203 ⟨rfl, hE204, hM205⟩
     refine ⟨_, rfl, ?_⟩
     have hB206 := hS179.takeB [5] rfl (M := [R.blk b0 53 [v0_0, (.int .i64 u63.2.2.1), (.int .u64 u63.2.2.2)]]) rfl hB178 hE204 hM205
     have hS207 : Sep (wE w0).heap.size w203 [R.blk b0 53 [v0_0, (.int .i64 u202.2.2.1), (.int .u64 u202.2.2.2)], R.own ty_66 F165 v164 u163.1.1, R.own ty_3 F167 v166 u163.1.2.1, R.own ty_3 F169 v168 u163.2.2.1, R.own ty_3 F171 v170 u163.2.2.2, R.rest w0 (fps [R.blk b0 53 [v0_0, (.int .i64 x0.2.1), (.int .u64 x0.2.2)]]), R.blk b2 29 [(.slice none 0 0), (.slice none 0 0), (.int .i64 0), (.int .i64 0), (.int .i64 0), (.slice none 0 0), (.slice none 0 0)], R.own ty_66 F77 v76 l75, R.own ty_3 F80 v79 l78, R.own ty_3 F86 v85 l84, R.own ty_3 F89 v88 l87, R.blk b42 29 [v164, v166, (.int .i64 u163.1.2.2.1), (.int .i64 u163.1.2.2.2), (.int .i64 u163.2.1), v168, v170], R.own ty_59 F71 v70 u63.1] := hS179.take [5] [0, 1, 2, 3, 4, 6, 7, 8, 9, 10, 11, 12] rfl (M := [R.blk b0 53 [v0_0, (.int .i64 u63.2.2.1), (.int .u64 u63.2.2.2)]]) rfl hM205 hB178.size
     refine WL.nil fun a ha => hK201 _ _ (W.block (W.seq fun K208 hK208 => (W.region (wl_eql rfl rfl rfl (wl_assign rfl rfl (WL.nil (fun a ha => hK208 _ _ (W.cond rfl (fun h209 => ?_) (fun h209 => ?_)) a ha))))))) a ha
     ·replace hF := ifP h209 hF
      refine W.region (wl_move rfl rfl (wl_lit (vs := [(.int .i64 (-1)), (.int .i64 0), (.int .i64 999), (.int .i64 1000), (.int .i64 1001)]) (l := [(-1), 0, 999, 1000, 1001]) fl_3 Tryz.underlying25 rfl rfl rfl rfl rfl rfl hB206 hS207 ?_))
      intro v210 F211 w212 hb213 hB214 hS215
      obtain ⟨u216, hu216, hF⟩ := bindE hF
      refine wl_call rfl Tryz.call53 (C_spec_l1Cur__among__mut__box w212 (x0.1, u202.2.2.1, u202.2.2.2) b0 v0_0 (h0_0.rsto (hS215.sel [6, 1] rfl)) [(-1), 0, 999, 1000, 1001] v210 (own_out (hS215.sel [0, 1] rfl)) (hS215.sel [1] rfl).base0 _ hu216) rfl ?_
      rintro _ w217 ⟨rfl, hE218, hM219⟩
      refine ⟨_, rfl, ?_⟩
      have hB220 := hS215.takeB [1] rfl (M := [R.blk b0 53 [v0_0, (.int .i64 u202.2.2.1), (.int .u64 u202.2.2.2)]]) rfl hB214 hE218 hM219
      have hS221 : Sep (wE w0).heap.size w217 [R.blk b0 53 [v0_0, (.int .i64 u216.2.2.1), (.int .u64 u216.2.2.2)], R.own ty_3 F211 v210 [(-1), 0, 999, 1000, 1001], R.own ty_66 F165 v164 u163.1.1, R.own ty_3 F167 v166 u163.1.2.1, R.own ty_3 F169 v168 u163.2.2.1, R.own ty_3 F171 v170 u163.2.2.2, R.rest w0 (fps [R.blk b0 53 [v0_0, (.int .i64 x0.2.1), (.int .u64 x0.2.2)]]), R.blk b2 29 [(.slice none 0 0), (.slice none 0 0), (.int .i64 0), (.int .i64 0), (.int .i64 0), (.slice none 0 0), (.slice none 0 0)], R.own ty_66 F77 v76 l75, R.own ty_3 F80 v79 l78, R.own ty_3 F86 v85 l84, R.own ty_3 F89 v88 l87, R.blk b42 29 [v164, v166, (.int .i64 u163.1.2.2.1), (.int .i64 u163.1.2.2.2), (.int .i64 u163.2.1), v168, v170], R.own ty_59 F71 v70 u63.1] := hS215.take [1] [0, 2, 3, 4, 5, 6, 7, 8, 9, 10, 11, 12, 13] rfl (M := [R.blk b0 53 [v0_0, (.int .i64 u202.2.2.1), (.int .u64 u202.2.2.2)]]) rfl hM219 hB214.size
      refine wl_field (o := 4) (off' := 4) ff_29_1 rfl rfl rfl (wl_store_blk (i := 12) (vs := [(.int .i64 u216.1)]) (cs' := [v164, v166, (.int .i64 u163.1.2.2.1), (.int .i64 u163.1.2.2.2), (.int .i64 u216.1), v168, v170]) tf_3 rfl rfl rfl rfl hB220 hS221 rfl rfl ⟨rfl, trivial⟩ rfl ?_)
      intro w222 hk225 hB223 hS224
      refine WL.nil ?_
      exact fun a ha => hJ195 (u216.2.2.1) (u216.2.2.2) (u216.1) (u163.2.2.1) (u163.2.2.2) (v168) (F169) (v170) (F171) _ hF hB223 (hS224.sel [6, 0, 7, 2, 3, 4, 5, 12] rfl) a (ha.sub ⟨rfl, rfl, trivial⟩)
     ·replace hF := ifN h209 hF
      refine W.seq fun K226 hK226 => W.region (wl_eql rfl rfl rfl (wl_assign rfl rfl (WL.nil (fun a ha => hK226 _ _ (W.cond rfl (fun h227 => ?_) (fun h227 => ?_)) a ha))))
      ·replace hF := ifP h227 hF
       refine W.regionH mixed_ (([b0] ++ F169) ++ [b42]) hB206 hS207 ?_
       intro w228 hb229 hB230 hS231
       have hSW232 := KeepX.refl w228 (([b0] ++ F169) ++ [b42])
       refine WH.tk 0 rfl hP hSW232 (pr_field (o := 5) (off' := 5) ff_29_2 rfl rfl rfl (WH.tk 2 rfl hP hSW232 (pr_move rfl rfl (WH.tk 3 rfl hP hSW232 (pr_field (o := 6) (off' := 6) ff_29_3 rfl rfl rfl (WH.many (is := [1, 4]) (by kernel_rfl) rfl (List.forall_mem_cons.2 ⟨⟨_, rfl, ?_⟩, List.forall_mem_cons.2 ⟨⟨_, rfl, ?_⟩, fun _ h => by cases h⟩⟩)))))))
       ·
        refine wl_load_blk (i := 11) (vs := [v168]) (v := v168) tf_25 rfl rfl hS231 rfl rfl rfl (WL.nil (WH.ret hSW232 (WH.on1 4 rfl (wl_load_blk (i := 11) (vs := [v170]) (v := v170) tf_25 rfl rfl hS231 rfl rfl rfl (WL.nil (WH.ret hSW232 (WH.tk 5 rfl hP hSW232 (pr_lenr (e := ty_3) (l := u163.2.2.2) Tryz.underlying25 rfl rfl (hS231.own_ro (i := 4) rfl) (WH.on1 6 rfl (wl_lit (vs := [(.int .i64 (-1)), (.int .i64 0), (.int .i64 (List.length u163.2.2.2 : Int))]) (l := [(-1), 0, (List.length u163.2.2.2 : Int)]) fl_3 Tryz.underlying25 rfl rfl rfl rfl rfl rfl (Below.self w228) (Sep.nil _ _) ?_))))))))))
        intro v233 F234 w235 hb236 hB239 hM240
        have hB237 := hB230.trans (hb236.mono hB230.size)
        have hS238 := hS231.join hb236 hM240 hB230.size
        have hSW242 := hSW232.ext hb236
        refine WL.nil (WH.ret hSW242 (WH.on1 7 rfl ?_))
        obtain ⟨u244, hu244, hF⟩ := bindE hF
        refine wl_call rfl Tryz.call53 (C_spec_l1Cur__among__mut__box w235 (x0.1, u202.2.2.1, u202.2.2.2) b0 v0_0 (h0_0.rsto (hS238.sel [6, 1] rfl)) [(-1), 0, (List.length u163.2.2.2 : Int)] v233 (own_out (hS238.sel [0, 1] rfl)) (hS238.sel [1] rfl).base0 _ hu244) rfl ?_
        rintro _ w245 ⟨rfl, hE246, hM247⟩
        refine ⟨_, rfl, ?_⟩
        have hB248 := hS238.takeB [1] rfl (M := [R.blk b0 53 [v0_0, (.int .i64 u202.2.2.1), (.int .u64 u202.2.2.2)]]) rfl hB237 hE246 hM247
        have hS249 : Sep (wE w0).heap.size w245 [R.blk b0 53 [v0_0, (.int .i64 u244.2.2.1), (.int .u64 u244.2.2.2)], R.own ty_3 F234 v233 [(-1), 0, (List.length u163.2.2.2 : Int)], R.own ty_66 F165 v164 u163.1.1, R.own ty_3 F167 v166 u163.1.2.1, R.own ty_3 F169 v168 u163.2.2.1, R.own ty_3 F171 v170 u163.2.2.2, R.rest w0 (fps [R.blk b0 53 [v0_0, (.int .i64 x0.2.1), (.int .u64 x0.2.2)]]), R.blk b2 29 [(.slice none 0 0), (.slice none 0 0), (.int .i64 0), (.int .i64 0), (.int .i64 0), (.slice none 0 0), (.slice none 0 0)], R.own ty_66 F77 v76 l75, R.own ty_3 F80 v79 l78, R.own ty_3 F86 v85 l84, R.own ty_3 F89 v88 l87, R.blk b42 29 [v164, v166, (.int .i64 u163.1.2.2.1), (.int .i64 u163.1.2.2.2), (.int .i64 u163.2.1), v168, v170], R.own ty_59 F71 v70 u63.1] := hS238.take [1] [0, 2, 3, 4, 5, 6, 7, 8, 9, 10, 11, 12, 13] rfl (M := [R.blk b0 53 [v0_0, (.int .i64 u202.2.2.1), (.int .u64 u202.2.2.2)]]) rfl hM247 hB237.size
        have hk250 := box_kept hM247
        have hSW251 := hSW242.wr' hk250.1 hk250.2.1 (fun _ _ h => List.mem_append_left _ (List.mem_append_left _ (h)))
        refine WL.nil (WH.ret hSW251 (WH.on1 8 rfl (wl_lit (vs := [(.int .i64 u244.1)]) (l := [u244.1]) fl_3 Tryz.underlying25 rfl rfl rfl rfl rfl rfl (Below.self w245) (Sep.nil _ _) ?_)))
        intro v253 F254 w255 hb256 hB259 hM260
        have hB257 := hB248.trans (hb256.mono hB248.size)
        have hS258 := hS249.join hb256 hM260 hB248.size
        have hSW262 := hSW251.ext hb256
        refine WL.nil (WH.ret hSW262 (WH.on1 9 rfl ?_))
        obtain ⟨u263, hu263, hF⟩ := bindE hF
        refine wl_append (i := 5) (S := (· < w255.heap.size)) fl_3 Tryz.underlying25 rfl rfl rfl hB257 hS258 rfl (hS258.own_ro (i := 0) rfl) hu263 ?_
        intro v264 F265 w266 hk267 hB268 hS269
        have hSW270 := hSW262.wr' hk267.1 hk267.2.1 (fun _ _ h => List.mem_append_left _ (List.mem_append_right _ h))
        refine WL.nil (WH.ret hSW270 (WH.tk 10 rfl hP hSW270 (pr_field (o := 5) (off' := 5) ff_29_2 rfl rfl rfl (WH.on1 11 rfl (wl_store_blk (i := 13) (vs := [v264]) (cs' := [v164, v166, (.int .i64 u163.1.2.2.1), (.int .i64 u163.1.2.2.2), (.int .i64 u163.2.1), v264, v170]) tf_25 rfl rfl (cells_one (hS269.own_ro (i := 5) rfl).one) rfl hB268 hS269 rfl rfl ⟨(hS269.own_ro (i := 5) rfl).one, trivial⟩ rfl ?_)))))
        intro w272 hk275 hB273 hS274
        have hSW276 := hSW270.wr' hk275.1 hk275.2.1 (fun _ _ h => List.mem_append_right _ h)
        refine WL.nil (WH.ret hSW276 (WH.done (by kernel_rfl) ?_))
        exact fun a ha => hJ195 (u244.2.2.1) (u244.2.2.2) (u163.2.1) (u263) (u163.2.2.2) (v264) (F265) (v170) (F171) _ hF hB273 (hS274.sel [7, 1, 8, 3, 4, 5, 6, 13] rfl) a (ha.sub ⟨rfl, rfl, trivial⟩)
       ·
        refine wl_load_blk (i := 11) (vs := [v170]) (v := v170) tf_25 rfl rfl hS231 rfl rfl rfl (WL.nil (WH.ret hSW232 (WH.tk 5 rfl hP hSW232 (pr_lenr (e := ty_3) (l := u163.2.2.2) Tryz.underlying25 rfl rfl (hS231.own_ro (i := 4) rfl) (WH.many (is := [1, 6]) (by kernel_rfl) rfl (List.forall_mem_cons.2 ⟨⟨_, rfl, ?_⟩, List.forall_mem_cons.2 ⟨⟨_, rfl, ?_⟩, fun _ h => by cases h⟩⟩))))))
        ·
         refine wl_load_blk (i := 11) (vs := [v168]) (v := v168) tf_25 rfl rfl hS231 rfl rfl rfl (WL.nil (WH.ret hSW232 (WH.on1 6 rfl (wl_lit (vs := [(.int .i64 (-1)), (.int .i64 0), (.int .i64 (List.length u163.2.2.2 : Int))]) (l := [(-1), 0, (List.length u163.2.2.2 : Int)]) fl_3 Tryz.underlying25 rfl rfl rfl rfl rfl rfl (Below.self w228) (Sep.nil _ _) ?_))))
         intro v278 F279 w280 hb281 hB284 hM285
         have hB282 := hB230.trans (hb281.mono hB230.size)
         have hS283 := hS231.join hb281 hM285 hB230.size
         have hSW287 := hSW232.ext hb281
         refine WL.nil (WH.ret hSW287 (WH.on1 7 rfl ?_))
         obtain ⟨u289, hu289, hF⟩ := bindE hF
         refine wl_call rfl Tryz.call53 (C_spec_l1Cur__among__mut__box w280 (x0.1, u202.2.2.1, u202.2.2.2) b0 v0_0 (h0_0.rsto (hS283.sel [6, 1] rfl)) [(-1), 0, (List.length u163.2.2.2 : Int)] v278 (own_out (hS283.sel [0, 1] rfl)) (hS283.sel [1] rfl).base0 _ hu289) rfl ?_
         rintro _ w290 ⟨rfl, hE291, hM292⟩
         refine ⟨_, rfl, ?_⟩
         have hB293 := hS283.takeB [1] rfl (M := [R.blk b0 53 [v0_0, (.int .i64 u202.2.2.1), (.int .u64 u202.2.2.2)]]) rfl hB282 hE291 hM292
         have hS294 : Sep (wE w0).heap.size w290 [R.blk b0 53 [v0_0, (.int .i64 u289.2.2.1), (.int .u64 u289.2.2.2)], R.own ty_3 F279 v278 [(-1), 0, (List.length u163.2.2.2 : Int)], R.own ty_66 F165 v164 u163.1.1, R.own ty_3 F167 v166 u163.1.2.1, R.own ty_3 F169 v168 u163.2.2.1, R.own ty_3 F171 v170 u163.2.2.2, R.rest w0 (fps [R.blk b0 53 [v0_0, (.int .i64 x0.2.1), (.int .u64 x0.2.2)]]), R.blk b2 29 [(.slice none 0 0), (.slice none 0 0), (.int .i64 0), (.int .i64 0), (.int .i64 0), (.slice none 0 0), (.slice none 0 0)], R.own ty_66 F77 v76 l75, R.own ty_3 F80 v79 l78, R.own ty_3 F86 v85 l84, R.own ty_3 F89 v88 l87, R.blk b42 29 [v164, v166, (.int .i64 u163.1.2.2.1), (.int .i64 u163.1.2.2.2), (.int .i64 u163.2.1), v168, v170], R.own ty_59 F71 v70 u63.1] := hS283.take [1] [0, 2, 3, 4, 5, 6, 7, 8, 9, 10, 11, 12, 13] rfl (M := [R.blk b0 53 [v0_0, (.int .i64 u202.2.2.1), (.int .u64 u202.2.2.2)]]) rfl hM292 hB282.size
         have hk295 := box_kept hM292
         have hSW296 := hSW287.wr' hk295.1 hk295.2.1 (fun _ _ h => List.mem_append_left _ (List.mem_append_left _ (h)))
         refine WL.nil (WH.ret hSW296 (WH.on1 8 rfl (wl_lit (vs := [(.int .i64 u289.1)]) (l := [u289.1]) fl_3 Tryz.underlying25 rfl rfl rfl rfl rfl rfl (Below.self w290) (Sep.nil _ _) ?_)))
         intro v298 F299 w300 hb301 hB304 hM305
         have hB302 := hB293.trans (hb301.mono hB293.size)
         have hS303 := hS294.join hb301 hM305 hB293.size
         have hSW307 := hSW296.ext hb301
         refine WL.nil (WH.ret hSW307 (WH.on1 9 rfl ?_))
         obtain ⟨u308, hu308, hF⟩ := bindE hF
         refine wl_append (i := 5) (S := (· < w300.heap.size)) fl_3 Tryz.underlying25 rfl rfl rfl hB302 hS303 rfl (hS303.own_ro (i := 0) rfl) hu308 ?_
         intro v309 F310 w311 hk312 hB313 hS314
         have hSW315 := hSW307.wr' hk312.1 hk312.2.1 (fun _ _ h => List.mem_append_left _ (List.mem_append_right _ h))
         refine WL.nil (WH.ret hSW315 (WH.tk 10 rfl hP hSW315 (pr_field (o := 5) (off' := 5) ff_29_2 rfl rfl rfl (WH.on1 11 rfl (wl_store_blk (i := 13) (vs := [v309]) (cs' := [v164, v166, (.int .i64 u163.1.2.2.1), (.int .i64 u163.1.2.2.2), (.int .i64 u163.2.1), v309, v170]) tf_25 rfl rfl (cells_one (hS314.own_ro (i := 5) rfl).one) rfl hB313 hS314 rfl rfl ⟨(hS314.own_ro (i := 5) rfl).one, trivial⟩ rfl ?_)))))
         intro w317 hk320 hB318 hS319
         have hSW321 := hSW315.wr' hk320.1 hk320.2.1 (fun _ _ h => List.mem_append_right _ h)
         refine WL.nil (WH.ret hSW321 (WH.done (by kernel_rfl) ?_))
         exact fun a ha => hJ195 (u289.2.2.1) (u289.2.2.2) (u163.2.1) (u308) (u163.2.2.2) (v309) (F310) (v170) (F171) _ hF hB318 (hS319.sel [7, 1, 8, 3, 4, 5, 6, 13] rfl) a (ha.sub ⟨rfl, rfl, trivial⟩)
        ·
         refine wl_lit (vs := [(.int .i64 (-1)), (.int .i64 0), (.int .i64 (List.length u163.2.2.2 : Int))]) (l := [(-1), 0, (List.length u163.2.2.2 : Int)]) fl_3 Tryz.underlying25 rfl rfl rfl rfl rfl rfl (Below.self w228) (Sep.nil _ _) ?_
         intro v323 F324 w325 hb326 hB329 hM330
         have hB327 := hB230.trans (hb326.mono hB230.size)
         have hS328 := hS231.join hb326 hM330 hB230.size
         have hSW332 := hSW232.ext hb326
         refine WL.nil (WH.ret hSW332 (WH.many (is := [1, 7]) (by kernel_rfl) rfl (List.forall_mem_cons.2 ⟨⟨_, rfl, ?_⟩, List.forall_mem_cons.2 ⟨⟨_, rfl, ?_⟩, fun _ h => by cases h⟩⟩)))
         ·
          refine wl_load_blk (i := 12) (vs := [v168]) (v := v168) tf_25 rfl rfl hS328 rfl rfl rfl (WL.nil (WH.ret hSW332 (WH.on1 7 rfl ?_)))
          obtain ⟨u334, hu334, hF⟩ := bindE hF
          refine wl_call rfl Tryz.call53 (C_spec_l1Cur__among__mut__box w325 (x0.1, u202.2.2.1, u202.2.2.2) b0 v0_0 (h0_0.rsto (hS328.sel [6, 1] rfl)) [(-1), 0, (List.length u163.2.2.2 : Int)] v323 (own_out (hS328.sel [0, 1] rfl)) (hS328.sel [1] rfl).base0 _ hu334) rfl ?_
          rintro _ w335 ⟨rfl, hE336, hM337⟩
          refine ⟨_, rfl, ?_⟩
          have hB338 := hS328.takeB [1] rfl (M := [R.blk b0 53 [v0_0, (.int .i64 u202.2.2.1), (.int .u64 u202.2.2.2)]]) rfl hB327 hE336 hM337
          have hS339 : Sep (wE w0).heap.size w335 [R.blk b0 53 [v0_0, (.int .i64 u334.2.2.1), (.int .u64 u334.2.2.2)], R.own ty_3 F324 v323 [(-1), 0, (List.length u163.2.2.2 : Int)], R.own ty_66 F165 v164 u163.1.1, R.own ty_3 F167 v166 u163.1.2.1, R.own ty_3 F169 v168 u163.2.2.1, R.own ty_3 F171 v170 u163.2.2.2, R.rest w0 (fps [R.blk b0 53 [v0_0, (.int .i64 x0.2.1), (.int .u64 x0.2.2)]]), R.blk b2 29 [(.slice none 0 0), (.slice none 0 0), (.int .i64 0), (.int .i64 0), (.int .i64 0), (.slice none 0 0), (.slice none 0 0)], R.own ty_66 F77 v76 l75, R.own ty_3 F80 v79 l78, R.own ty_3 F86 v85 l84, R.own ty_3 F89 v88 l87, R.blk b42 29 [v164, v166, (.int .i64 u163.1.2.2.1), (.int .i64 u163.1.2.2.2), (.int .i64 u163.2.1), v168, v170], R.own ty_59 F71 v70 u63.1] := hS328.take [1] [0, 2, 3, 4, 5, 6, 7, 8, 9, 10, 11, 12, 13] rfl (M := [R.blk b0 53 [v0_0, (.int .i64 u202.2.2.1), (.int .u64 u202.2.2.2)]]) rfl hM337 hB327.size
          have hk340 := box_kept hM337
          have hSW341 := hSW332.wr' hk340.1 hk340.2.1 (fun _ _ h => List.mem_append_left _ (List.mem_append_left _ (h)))
          refine WL.nil (WH.ret hSW341 (WH.on1 8 rfl (wl_lit (vs := [(.int .i64 u334.1)]) (l := [u334.1]) fl_3 Tryz.underlying25 rfl rfl rfl rfl rfl rfl (Below.self w335) (Sep.nil _ _) ?_)))
          intro v343 F344 w345 hb346 hB349 hM350
          have hB347 := hB338.trans (hb346.mono hB338.size)
          have hS348 := hS339.join hb346 hM350 hB338.size
          have hSW352 := hSW341.ext hb346
          refine WL.nil (WH.ret hSW352 (WH.on1 9 rfl ?_))
          obtain ⟨u353, hu353, hF⟩ := bindE hF
          refine wl_append (i := 5) (S := (· < w345.heap.size)) fl_3 Tryz.underlying25 rfl rfl rfl hB347 hS348 rfl (hS348.own_ro (i := 0) rfl) hu353 ?_
          intro v354 F355 w356 hk357 hB358 hS359
          have hSW360 := hSW352.wr' hk357.1 hk357.2.1 (fun _ _ h => List.mem_append_left _ (List.mem_append_right _ h))
          refine WL.nil (WH.ret hSW360 (WH.tk 10 rfl hP hSW360 (pr_field (o := 5) (off' := 5) ff_29_2 rfl rfl rfl (WH.on1 11 rfl (wl_store_blk (i := 13) (vs := [v354]) (cs' := [v164, v166, (.int .i64 u163.1.2.2.1), (.int .i64 u163.1.2.2.2), (.int .i64 u163.2.1), v354, v170]) tf_25 rfl rfl (cells_one (hS359.own_ro (i := 5) rfl).one) rfl hB358 hS359 rfl rfl ⟨(hS359.own_ro (i := 5) rfl).one, trivial⟩ rfl ?_)))))
          intro w362 hk365 hB363 hS364
          have hSW366 := hSW360.wr' hk365.1 hk365.2.1 (fun _ _ h => List.mem_append_right _ h)
          refine WL.nil (WH.ret hSW366 (WH.done (by kernel_rfl) ?_))
          exact fun a ha => hJ195 (u334.2.2.1) (u334.2.2.2) (u163.2.1) (u353) (u163.2.2.2) (v354) (F355) (v170) (F171) _ hF hB363 (hS364.sel [7, 1, 8, 3, 4, 5, 6, 13] rfl) a (ha.sub ⟨rfl, rfl, trivial⟩)
         ·
          obtain ⟨u368, hu368, hF⟩ := bindE hF
          refine wl_call rfl Tryz.call53 (C_spec_l1Cur__among__mut__box w325 (x0.1, u202.2.2.1, u202.2.2.2) b0 v0_0 (h0_0.rsto (hS328.sel [6, 1] rfl)) [(-1), 0, (List.length u163.2.2.2 : Int)] v323 (own_out (hS328.sel [0, 1] rfl)) (hS328.sel [1] rfl).base0 _ hu368) rfl ?_
          rintro _ w369 ⟨rfl, hE370, hM371⟩
          refine ⟨_, rfl, ?_⟩
          have hB372 := hS328.takeB [1] rfl (M := [R.blk b0 53 [v0_0, (.int .i64 u202.2.2.1), (.int .u64 u202.2.2.2)]]) rfl hB327 hE370 hM371
          have hS373 : Sep (wE w0).heap.size w369 [R.blk b0 53 [v0_0, (.int .i64 u368.2.2.1), (.int .u64 u368.2.2.2)], R.own ty_3 F324 v323 [(-1), 0, (List.length u163.2.2.2 : Int)], R.own ty_66 F165 v164 u163.1.1, R.own ty_3 F167 v166 u163.1.2.1, R.own ty_3 F169 v168 u163.2.2.1, R.own ty_3 F171 v170 u163.2.2.2, R.rest w0 (fps [R.blk b0 53 [v0_0, (.int .i64 x0.2.1), (.int .u64 x0.2.2)]]), R.blk b2 29 [(.slice none 0 0), (.slice none 0 0), (.int .i64 0), (.int .i64 0), (.int .i64 0), (.slice none 0 0), (.slice none 0 0)], R.own ty_66 F77 v76 l75, R.own ty_3 F80 v79 l78, R.own ty_3 F86 v85 l84, R.own ty_3 F89 v88 l87, R.blk b42 29 [v164, v166, (.int .i64 u163.1.2.2.1), (.int .i64 u163.1.2.2.2), (.int .i64 u163.2.1), v168, v170], R.own ty_59 F71 v70 u63.1] := hS328.take [1] [0, 2, 3, 4, 5, 6, 7, 8, 9, 10, 11, 12, 13] rfl (M := [R.blk b0 53 [v0_0, (.int .i64 u202.2.2.1), (.int .u64 u202.2.2.2)]]) rfl hM371 hB327.size
          have hk374 := box_kept hM371
          have hSW375 := hSW332.wr' hk374.1 hk374.2.1 (fun _ _ h => List.mem_append_left _ (List.mem_append_left _ (h)))
          refine WL.nil (WH.ret hSW375 (WH.many (is := [1, 8]) (by kernel_rfl) rfl (List.forall_mem_cons.2 ⟨⟨_, rfl, ?_⟩, List.forall_mem_cons.2 ⟨⟨_, rfl, ?_⟩, fun _ h => by cases h⟩⟩)))
          ·
           refine wl_load_blk (i := 12) (vs := [v168]) (v := v168) tf_25 rfl rfl hS373 rfl rfl rfl (WL.nil (WH.ret hSW375 (WH.on1 8 rfl (wl_lit (vs := [(.int .i64 u368.1)]) (l := [u368.1]) fl_3 Tryz.underlying25 rfl rfl rfl rfl rfl rfl (Below.self w369) (Sep.nil _ _) ?_))))
           intro v377 F378 w379 hb380 hB383 hM384
           have hB381 := hB372.trans (hb380.mono hB372.size)
           have hS382 := hS373.join hb380 hM384 hB372.size
           have hSW386 := hSW375.ext hb380
           refine WL.nil (WH.ret hSW386 (WH.on1 9 rfl ?_))
           obtain ⟨u387, hu387, hF⟩ := bindE hF
           refine wl_append (i := 5) (S := (· < w379.heap.size)) fl_3 Tryz.underlying25 rfl rfl rfl hB381 hS382 rfl (hS382.own_ro (i := 0) rfl) hu387 ?_
           intro v388 F389 w390 hk391 hB392 hS393
           have hSW394 := hSW386.wr' hk391.1 hk391.2.1 (fun _ _ h => List.mem_append_left _ (List.mem_append_right _ h))
           refine WL.nil (WH.ret hSW394 (WH.tk 10 rfl hP hSW394 (pr_field (o := 5) (off' := 5) ff_29_2 rfl rfl rfl (WH.on1 11 rfl (wl_store_blk (i := 13) (vs := [v388]) (cs' := [v164, v166, (.int .i64 u163.1.2.2.1), (.int .i64 u163.1.2.2.2), (.int .i64 u163.2.1), v388, v170]) tf_25 rfl rfl (cells_one (hS393.own_ro (i := 5) rfl).one) rfl hB392 hS393 rfl rfl ⟨(hS393.own_ro (i := 5) rfl).one, trivial⟩ rfl ?_)))))
           intro w396 hk399 hB397 hS398
           have hSW400 := hSW394.wr' hk399.1 hk399.2.1 (fun _ _ h => List.mem_append_right _ h)
           refine WL.nil (WH.ret hSW400 (WH.done (by kernel_rfl) ?_))
           exact fun a ha => hJ195 (u368.2.2.1) (u368.2.2.2) (u163.2.1) (u387) (u163.2.2.2) (v388) (F389) (v170) (F171) _ hF hB397 (hS398.sel [7, 1, 8, 3, 4, 5, 6, 13] rfl) a (ha.sub ⟨rfl, rfl, trivial⟩)
          ·
           refine wl_lit (vs := [(.int .i64 u368.1)]) (l := [u368.1]) fl_3 Tryz.underlying25 rfl rfl rfl rfl rfl rfl (Below.self w369) (Sep.nil _ _) ?_
           intro v402 F403 w404 hb405 hB408 hM409
           have hB406 := hB372.trans (hb405.mono hB372.size)
           have hS407 := hS373.join hb405 hM409 hB372.size
           have hSW411 := hSW375.ext hb405
           refine WL.nil (WH.ret hSW411 (WH.on1 1 rfl (wl_load_blk (i := 13) (vs := [v168]) (v := v168) tf_25 rfl rfl hS407 rfl rfl rfl (WL.nil (WH.ret hSW411 (WH.on1 9 rfl ?_))))))
           obtain ⟨u412, hu412, hF⟩ := bindE hF
           refine wl_append (i := 5) (S := (· < w404.heap.size)) fl_3 Tryz.underlying25 rfl rfl rfl hB406 hS407 rfl (hS407.own_ro (i := 0) rfl) hu412 ?_
           intro v413 F414 w415 hk416 hB417 hS418
           have hSW419 := hSW411.wr' hk416.1 hk416.2.1 (fun _ _ h => List.mem_append_left _ (List.mem_append_right _ h))
           refine WL.nil (WH.ret hSW419 (WH.tk 10 rfl hP hSW419 (pr_field (o := 5) (off' := 5) ff_29_2 rfl rfl rfl (WH.on1 11 rfl (wl_store_blk (i := 13) (vs := [v413]) (cs' := [v164, v166, (.int .i64 u163.1.2.2.1), (.int .i64 u163.1.2.2.2), (.int .i64 u163.2.1), v413, v170]) tf_25 rfl rfl (cells_one (hS418.own_ro (i := 5) rfl).one) rfl hB417 hS418 rfl rfl ⟨(hS418.own_ro (i := 5) rfl).one, trivial⟩ rfl ?_)))))
           intro w421 hk424 hB422 hS423
           have hSW425 := hSW419.wr' hk424.1 hk424.2.1 (fun _ _ h => List.mem_append_right _ h)
           refine WL.nil (WH.ret hSW425 (WH.done (by kernel_rfl) ?_))
           exact fun a ha => hJ195 (u368.2.2.1) (u368.2.2.2) (u163.2.1) (u412) (u163.2.2.2) (v413) (F414) (v170) (F171) _ hF hB422 (hS423.sel [7, 1, 8, 3, 4, 5, 6, 13] rfl) a (ha.sub ⟨rfl, rfl, trivial⟩)
      ·replace hF := ifN h227 hF
       refine W.seq fun K427 hK427 => W.region (wl_eql rfl rfl rfl (wl_assign rfl rfl (WL.nil (fun a ha => hK427 _ _ (W.cond rfl (fun h428 => ?_) (fun h428 => ?_)) a ha))))
       ·replace hF := ifP h428 hF
        refine W.regionH mixed_ (([b0] ++ F171) ++ [b42]) hB206 hS207 ?_
        intro w429 hb430 hB431 hS432
        have hSW433 := KeepX.refl w429 (([b0] ++ F171) ++ [b42])
        refine WH.tk 0 rfl hP hSW433 (pr_field (o := 6) (off' := 6) ff_29_3 rfl rfl rfl (WH.tk 2 rfl hP hSW433 (pr_move rfl rfl (WH.tk 3 rfl hP hSW433 (pr_field (o := 4) (off' := 4) ff_29_1 rfl rfl rfl (WH.tk 5 rfl hP hSW433 (pr_field (o := 4) (off' := 4) ff_29_1 rfl rfl rfl (WH.many (is := [1, 4, 6]) (by kernel_rfl) rfl (List.forall_mem_cons.2 ⟨⟨_, rfl, ?_⟩, List.forall_mem_cons.2 ⟨⟨_, rfl, ?_⟩, List.forall_mem_cons.2 ⟨⟨_, rfl, ?_⟩, fun _ h => by cases h⟩⟩⟩)))))))))
        ·
         refine wl_load_blk (i := 11) (vs := [v170]) (v := v170) tf_25 rfl rfl hS432 rfl rfl rfl (WL.nil (WH.ret hSW433 (WH.many (is := [4, 6]) (by kernel_rfl) rfl (List.forall_mem_cons.2 ⟨⟨_, rfl, ?_⟩, List.forall_mem_cons.2 ⟨⟨_, rfl, ?_⟩, fun _ h => by cases h⟩⟩))))
         ·
          refine wl_load_blk (i := 11) (vs := [(.int .i64 u163.2.1)]) (v := (.int .i64 u163.2.1)) tf_3 rfl rfl hS432 rfl rfl rfl (WL.nil (WH.ret hSW433 (WH.on1 6 rfl (wl_load_blk (i := 11) (vs := [(.int .i64 u163.2.1)]) (v := (.int .i64 u163.2.1)) tf_3 rfl rfl hS432 rfl rfl rfl (WL.nil (WH.ret hSW433 (WH.tk 7 rfl hP hSW433 (pr_add rfl rfl rfl (WH.on1 8 rfl (wl_lit (vs := [(.int .i64 (-1)), (.int .i64 u163.2.1), (.int .i64 (w64 (u163.2.1 + 1)))]) (l := [(-1), u163.2.1, (w64 (u163.2.1 + 1))]) fl_3 Tryz.underlying25 rfl rfl rfl rfl rfl rfl (Below.self w429) (Sep.nil _ _) ?_))))))))))
          intro v434 F435 w436 hb437 hB440 hM441
          have hB438 := hB431.trans (hb437.mono hB431.size)
          have hS439 := hS432.join hb437 hM441 hB431.size
          have hSW443 := hSW433.ext hb437
          refine WL.nil (WH.ret hSW443 (WH.on1 9 rfl ?_))
          obtain ⟨u445, hu445, hF⟩ := bindE hF
          refine wl_call rfl Tryz.call53 (C_spec_l1Cur__among__mut__box w436 (x0.1, u202.2.2.1, u202.2.2.2) b0 v0_0 (h0_0.rsto (hS439.sel [6, 1] rfl)) [(-1), u163.2.1, (w64 (u163.2.1 + 1))] v434 (own_out (hS439.sel [0, 1] rfl)) (hS439.sel [1] rfl).base0 _ hu445) rfl ?_
          rintro _ w446 ⟨rfl, hE447, hM448⟩
          refine ⟨_, rfl, ?_⟩
          have hB449 := hS439.takeB [1] rfl (M := [R.blk b0 53 [v0_0, (.int .i64 u202.2.2.1), (.int .u64 u202.2.2.2)]]) rfl hB438 hE447 hM448
          have hS450 : Sep (wE w0).heap.size w446 [R.blk b0 53 [v0_0, (.int .i64 u445.2.2.1), (.int .u64 u445.2.2.2)], R.own ty_3 F435 v434 [(-1), u163.2.1, (w64 (u163.2.1 + 1))], R.own ty_66 F165 v164 u163.1.1, R.own ty_3 F167 v166 u163.1.2.1, R.own ty_3 F169 v168 u163.2.2.1, R.own ty_3 F171 v170 u163.2.2.2, R.rest w0 (fps [R.blk b0 53 [v0_0, (.int .i64 x0.2.1), (.int .u64 x0.2.2)]]), R.blk b2 29 [(.slice none 0 0), (.slice none 0 0), (.int .i64 0), (.int .i64 0), (.int .i64 0), (.slice none 0 0), (.slice none 0 0)], R.own ty_66 F77 v76 l75, R.own ty_3 F80 v79 l78, R.own ty_3 F86 v85 l84, R.own ty_3 F89 v88 l87, R.blk b42 29 [v164, v166, (.int .i64 u163.1.2.2.1), (.int .i64 u163.1.2.2.2), (.int .i64 u163.2.1), v168, v170], R.own ty_59 F71 v70 u63.1] := hS439.take [1] [0, 2, 3, 4, 5, 6, 7, 8, 9, 10, 11, 12, 13] rfl (M := [R.blk b0 53 [v0_0, (.int .i64 u202.2.2.1), (.int .u64 u202.2.2.2)]]) rfl hM448 hB438.size
          have hk451 := box_kept hM448
          have hSW452 := hSW443.wr' hk451.1 hk451.2.1 (fun _ _ h => List.mem_append_left _ (List.mem_append_left _ (h)))
          refine WL.nil (WH.ret hSW452 (WH.on1 10 rfl ?_))
          obtain ⟨u454, hu454, hF⟩ := bindE hF
          refine wl_indexoF (e := ty_3) (i := 5) Tryz.underlying25 rfl rfl rfl hS450 rfl hu454 ?_
          rintro p455 _ rfl hp456 ho457
          refine WL.nil (WH.ret hSW452 (WH.on1 11 rfl (wl_storeo (i := 5) (o := 0) (vs := [(.int .i64 u445.1)]) (u' := u445.1) fl_3 tf_3 rfl rfl rfl rfl ho457 hu454 hB449 hS450 rfl rfl ⟨rfl, trivial⟩ rfl ?_)))
          intro w458 hk461 hB459 hS460
          have hSW462 := hSW452.wr' hk461.1 hk461.2.1 (fun _ _ h => List.mem_append_left _ (List.mem_append_right _ h))
          refine WL.nil (WH.ret hSW462 (WH.done (by kernel_rfl) ?_))
          exact fun a ha => hJ195 (u445.2.2.1) (u445.2.2.2) (u163.2.1) (u163.2.2.1) ((seti u163.2.2.2 0 u445.1)) (v168) (F169) (v170) (F171) _ hF hB459 (hS460.sel [6, 0, 7, 2, 3, 4, 5, 12] rfl) a (ha.sub ⟨rfl, rfl, trivial⟩)
         ·
          refine wl_load_blk (i := 11) (vs := [(.int .i64 u163.2.1)]) (v := (.int .i64 u163.2.1)) tf_3 rfl rfl hS432 rfl rfl rfl (WL.nil (WH.ret hSW433 (WH.tk 7 rfl hP hSW433 (pr_add rfl rfl rfl (WH.on1 4 rfl (wl_load_blk (i := 11) (vs := [(.int .i64 u163.2.1)]) (v := (.int .i64 u163.2.1)) tf_3 rfl rfl hS432 rfl rfl rfl (WL.nil (WH.ret hSW433 (WH.on1 8 rfl (wl_lit (vs := [(.int .i64 (-1)), (.int .i64 u163.2.1), (.int .i64 (w64 (u163.2.1 + 1)))]) (l := [(-1), u163.2.1, (w64 (u163.2.1 + 1))]) fl_3 Tryz.underlying25 rfl rfl rfl rfl rfl rfl (Below.self w429) (Sep.nil _ _) ?_))))))))))
          intro v464 F465 w466 hb467 hB470 hM471
          have hB468 := hB431.trans (hb467.mono hB431.size)
          have hS469 := hS432.join hb467 hM471 hB431.size
          have hSW473 := hSW433.ext hb467
          refine WL.nil (WH.ret hSW473 (WH.on1 9 rfl ?_))
          obtain ⟨u475, hu475, hF⟩ := bindE hF
          refine wl_call rfl Tryz.call53 (C_spec_l1Cur__among__mut__box w466 (x0.1, u202.2.2.1, u202.2.2.2) b0 v0_0 (h0_0.rsto (hS469.sel [6, 1] rfl)) [(-1), u163.2.1, (w64 (u163.2.1 + 1))] v464 (own_out (hS469.sel [0, 1] rfl)) (hS469.sel [1] rfl).base0 _ hu475) rfl ?_
          rintro _ w476 ⟨rfl, hE477, hM478⟩
          refine ⟨_, rfl, ?_⟩
          have hB479 := hS469.takeB [1] rfl (M := [R.blk b0 53 [v0_0, (.int .i64 u202.2.2.1), (.int .u64 u202.2.2.2)]]) rfl hB468 hE477 hM478
          have hS480 : Sep (wE w0).heap.size w476 [R.blk b0 53 [v0_0, (.int .i64 u475.2.2.1), (.int .u64 u475.2.2.2)], R.own ty_3 F465 v464 [(-1), u163.2.1, (w64 (u163.2.1 + 1))], R.own ty_66 F165 v164 u163.1.1, R.own ty_3 F167 v166 u163.1.2.1, R.own ty_3 F169 v168 u163.2.2.1, R.own ty_3 F171 v170 u163.2.2.2, R.rest w0 (fps [R.blk b0 53 [v0_0, (.int .i64 x0.2.1), (.int .u64 x0.2.2)]]), R.blk b2 29 [(.slice none 0 0), (.slice none 0 0), (.int .i64 0), (.int .i64 0), (.int .i64 0), (.slice none 0 0), (.slice none 0 0)], R.own ty_66 F77 v76 l75, R.own ty_3 F80 v79 l78, R.own ty_3 F86 v85 l84, R.own ty_3 F89 v88 l87, R.blk b42 29 [v164, v166, (.int .i64 u163.1.2.2.1), (.int .i64 u163.1.2.2.2), (.int .i64 u163.2.1), v168, v170], R.own ty_59 F71 v70 u63.1] := hS469.take [1] [0, 2, 3, 4, 5, 6, 7, 8, 9, 10, 11, 12, 13] rfl (M := [R.blk b0 53 [v0_0, (.int .i64 u202.2.2.1), (.int .u64 u202.2.2.2)]]) rfl hM478 hB468.size
          have hk481 := box_kept hM478
          have hSW482 := hSW473.wr' hk481.1 hk481.2.1 (fun _ _ h => List.mem_append_left _ (List.mem_append_left _ (h)))
          refine WL.nil (WH.ret hSW482 (WH.on1 10 rfl ?_))
          obtain ⟨u484, hu484, hF⟩ := bindE hF
          refine wl_indexoF (e := ty_3) (i := 5) Tryz.underlying25 rfl rfl rfl hS480 rfl hu484 ?_
          rintro p485 _ rfl hp486 ho487
          refine WL.nil (WH.ret hSW482 (WH.on1 11 rfl (wl_storeo (i := 5) (o := 0) (vs := [(.int .i64 u475.1)]) (u' := u475.1) fl_3 tf_3 rfl rfl rfl rfl ho487 hu484 hB479 hS480 rfl rfl ⟨rfl, trivial⟩ rfl ?_)))
          intro w488 hk491 hB489 hS490
          have hSW492 := hSW482.wr' hk491.1 hk491.2.1 (fun _ _ h => List.mem_append_left _ (List.mem_append_right _ h))
          refine WL.nil (WH.ret hSW492 (WH.done (by kernel_rfl) ?_))
          exact fun a ha => hJ195 (u475.2.2.1) (u475.2.2.2) (u163.2.1) (u163.2.2.1) ((seti u163.2.2.2 0 u475.1)) (v168) (F169) (v170) (F171) _ hF hB489 (hS490.sel [6, 0, 7, 2, 3, 4, 5, 12] rfl) a (ha.sub ⟨rfl, rfl, trivial⟩)
        ·
         refine wl_load_blk (i := 11) (vs := [(.int .i64 u163.2.1)]) (v := (.int .i64 u163.2.1)) tf_3 rfl rfl hS432 rfl rfl rfl (WL.nil (WH.ret hSW433 (WH.many (is := [1, 6]) (by kernel_rfl) rfl (List.forall_mem_cons.2 ⟨⟨_, rfl, ?_⟩, List.forall_mem_cons.2 ⟨⟨_, rfl, ?_⟩, fun _ h => by cases h⟩⟩))))
         ·
          refine wl_load_blk (i := 11) (vs := [v170]) (v := v170) tf_25 rfl rfl hS432 rfl rfl rfl (WL.nil (WH.ret hSW433 (WH.on1 6 rfl (wl_load_blk (i := 11) (vs := [(.int .i64 u163.2.1)]) (v := (.int .i64 u163.2.1)) tf_3 rfl rfl hS432 rfl rfl rfl (WL.nil (WH.ret hSW433 (WH.tk 7 rfl hP hSW433 (pr_add rfl rfl rfl (WH.on1 8 rfl (wl_lit (vs := [(.int .i64 (-1)), (.int .i64 u163.2.1), (.int .i64 (w64 (u163.2.1 + 1)))]) (l := [(-1), u163.2.1, (w64 (u163.2.1 + 1))]) fl_3 Tryz.underlying25 rfl rfl rfl rfl rfl rfl (Below.self w429) (Sep.nil _ _) ?_))))))))))
          intro v494 F495 w496 hb497 hB500 hM501
          have hB498 := hB431.trans (hb497.mono hB431.size)
          have hS499 := hS432.join hb497 hM501 hB431.size
          have hSW503 := hSW433.ext hb497
          refine WL.nil (WH.ret hSW503 (WH.on1 9 rfl ?_))
          obtain ⟨u505, hu505, hF⟩ := bindE hF
          refine wl_call rfl Tryz.call53 (C_spec_l1Cur__among__mut__box w496 (x0.1, u202.2.2.1, u202.2.2.2) b0 v0_0 (h0_0.rsto (hS499.sel [6, 1] rfl)) [(-1), u163.2.1, (w64 (u163.2.1 + 1))] v494 (own_out (hS499.sel [0, 1] rfl)) (hS499.sel [1] rfl).base0 _ hu505) rfl ?_
          rintro _ w506 ⟨rfl, hE507, hM508⟩
          refine ⟨_, rfl, ?_⟩
          have hB509 := hS499.takeB [1] rfl (M := [R.blk b0 53 [v0_0, (.int .i64 u202.2.2.1), (.int .u64 u202.2.2.2)]]) rfl hB498 hE507 hM508
          have hS510 : Sep (wE w0).heap.size w506 [R.blk b0 53 [v0_0, (.int .i64 u505.2.2.1), (.int .u64 u505.2.2.2)], R.own ty_3 F495 v494 [(-1), u163.2.1, (w64 (u163.2.1 + 1))], R.own ty_66 F165 v164 u163.1.1, R.own ty_3 F167 v166 u163.1.2.1, R.own ty_3 F169 v168 u163.2.2.1, R.own ty_3 F171 v170 u163.2.2.2, R.rest w0 (fps [R.blk b0 53 [v0_0, (.int .i64 x0.2.1), (.int .u64 x0.2.2)]]), R.blk b2 29 [(.slice none 0 0), (.slice none 0 0), (.int .i64 0), (.int .i64 0), (.int .i64 0), (.slice none 0 0), (.slice none 0 0)], R.own ty_66 F77 v76 l75, R.own ty_3 F80 v79 l78, R.own ty_3 F86 v85 l84, R.own ty_3 F89 v88 l87, R.blk b42 29 [v164, v166, (.int .i64 u163.1.2.2.1), (.int .i64 u163.1.2.2.2), (.int .i64 u163.2.1), v168, v170], R.own ty_59 F71 v70 u63.1] := hS499.take [1] [0, 2, 3, 4, 5, 6, 7, 8, 9, 10, 11, 12, 13] rfl (M := [R.blk b0 53 [v0_0, (.int .i64 u202.2.2.1), (.int .u64 u202.2.2.2)]]) rfl hM508 hB498.size
          have hk511 := box_kept hM508
          have hSW512 := hSW503.wr' hk511.1 hk511.2.1 (fun _ _ h => List.mem_append_left _ (List.mem_append_left _ (h)))
          refine WL.nil (WH.ret hSW512 (WH.on1 10 rfl ?_))
          obtain ⟨u514, hu514, hF⟩ := bindE hF
          refine wl_indexoF (e := ty_3) (i := 5) Tryz.underlying25 rfl rfl rfl hS510 rfl hu514 ?_
          rintro p515 _ rfl hp516 ho517
          refine WL.nil (WH.ret hSW512 (WH.on1 11 rfl (wl_storeo (i := 5) (o := 0) (vs := [(.int .i64 u505.1)]) (u' := u505.1) fl_3 tf_3 rfl rfl rfl rfl ho517 hu514 hB509 hS510 rfl rfl ⟨rfl, trivial⟩ rfl ?_)))
          intro w518 hk521 hB519 hS520
          have hSW522 := hSW512.wr' hk521.1 hk521.2.1 (fun _ _ h => List.mem_append_left _ (List.mem_append_right _ h))
          refine WL.nil (WH.ret hSW522 (WH.done (by kernel_rfl) ?_))
          exact fun a ha => hJ195 (u505.2.2.1) (u505.2.2.2) (u163.2.1) (u163.2.2.1) ((seti u163.2.2.2 0 u505.1)) (v168) (F169) (v170) (F171) _ hF hB519 (hS520.sel [6, 0, 7, 2, 3, 4, 5, 12] rfl) a (ha.sub ⟨rfl, rfl, trivial⟩)
         ·
          refine wl_load_blk (i := 11) (vs := [(.int .i64 u163.2.1)]) (v := (.int .i64 u163.2.1)) tf_3 rfl rfl hS432 rfl rfl rfl (WL.nil (WH.ret hSW433 (WH.tk 7 rfl hP hSW433 (pr_add rfl rfl rfl (WH.many (is := [1, 8]) (by kernel_rfl) rfl (List.forall_mem_cons.2 ⟨⟨_, rfl, ?_⟩, List.forall_mem_cons.2 ⟨⟨_, rfl, ?_⟩, fun _ h => by cases h⟩⟩))))))
          ·
           refine wl_load_blk (i := 11) (vs := [v170]) (v := v170) tf_25 rfl rfl hS432 rfl rfl rfl (WL.nil (WH.ret hSW433 (WH.on1 8 rfl (wl_lit (vs := [(.int .i64 (-1)), (.int .i64 u163.2.1), (.int .i64 (w64 (u163.2.1 + 1)))]) (l := [(-1), u163.2.1, (w64 (u163.2.1 + 1))]) fl_3 Tryz.underlying25 rfl rfl rfl rfl rfl rfl (Below.self w429) (Sep.nil _ _) ?_))))
           intro v524 F525 w526 hb527 hB530 hM531
           have hB528 := hB431.trans (hb527.mono hB431.size)
           have hS529 := hS432.join hb527 hM531 hB431.size
           have hSW533 := hSW433.ext hb527
           refine WL.nil (WH.ret hSW533 (WH.on1 9 rfl ?_))
           obtain ⟨u535, hu535, hF⟩ := bindE hF
           refine wl_call rfl Tryz.call53 (C_spec_l1Cur__among__mut__box w526 (x0.1, u202.2.2.1, u202.2.2.2) b0 v0_0 (h0_0.rsto (hS529.sel [6, 1] rfl)) [(-1), u163.2.1, (w64 (u163.2.1 + 1))] v524 (own_out (hS529.sel [0, 1] rfl)) (hS529.sel [1] rfl).base0 _ hu535) rfl ?_
           rintro _ w536 ⟨rfl, hE537, hM538⟩
           refine ⟨_, rfl, ?_⟩
           have hB539 := hS529.takeB [1] rfl (M := [R.blk b0 53 [v0_0, (.int .i64 u202.2.2.1), (.int .u64 u202.2.2.2)]]) rfl hB528 hE537 hM538
           have hS540 : Sep (wE w0).heap.size w536 [R.blk b0 53 [v0_0, (.int .i64 u535.2.2.1), (.int .u64 u535.2.2.2)], R.own ty_3 F525 v524 [(-1), u163.2.1, (w64 (u163.2.1 + 1))], R.own ty_66 F165 v164 u163.1.1, R.own ty_3 F167 v166 u163.1.2.1, R.own ty_3 F169 v168 u163.2.2.1, R.own ty_3 F171 v170 u163.2.2.2, R.rest w0 (fps [R.blk b0 53 [v0_0, (.int .i64 x0.2.1), (.int .u64 x0.2.2)]]), R.blk b2 29 [(.slice none 0 0), (.slice none 0 0), (.int .i64 0), (.int .i64 0), (.int .i64 0), (.slice none 0 0), (.slice none 0 0)], R.own ty_66 F77 v76 l75, R.own ty_3 F80 v79 l78, R.own ty_3 F86 v85 l84, R.own ty_3 F89 v88 l87, R.blk b42 29 [v164, v166, (.int .i64 u163.1.2.2.1), (.int .i64 u163.1.2.2.2), (.int .i64 u163.2.1), v168, v170], R.own ty_59 F71 v70 u63.1] := hS529.take [1] [0, 2, 3, 4, 5, 6, 7, 8, 9, 10, 11, 12, 13] rfl (M := [R.blk b0 53 [v0_0, (.int .i64 u202.2.2.1), (.int .u64 u202.2.2.2)]]) rfl hM538 hB528.size
           have hk541 := box_kept hM538
           have hSW542 := hSW533.wr' hk541.1 hk541.2.1 (fun _ _ h => List.mem_append_left _ (List.mem_append_left _ (h)))
           refine WL.nil (WH.ret hSW542 (WH.on1 10 rfl ?_))
           obtain ⟨u544, hu544, hF⟩ := bindE hF
           refine wl_indexoF (e := ty_3) (i := 5) Tryz.underlying25 rfl rfl rfl hS540 rfl hu544 ?_
           rintro p545 _ rfl hp546 ho547
           refine WL.nil (WH.ret hSW542 (WH.on1 11 rfl (wl_storeo (i := 5) (o := 0) (vs := [(.int .i64 u535.1)]) (u' := u535.1) fl_3 tf_3 rfl rfl rfl rfl ho547 hu544 hB539 hS540 rfl rfl ⟨rfl, trivial⟩ rfl ?_)))
           intro w548 hk551 hB549 hS550
           have hSW552 := hSW542.wr' hk551.1 hk551.2.1 (fun _ _ h => List.mem_append_left _ (List.mem_append_right _ h))
           refine WL.nil (WH.ret hSW552 (WH.done (by kernel_rfl) ?_))
           exact fun a ha => hJ195 (u535.2.2.1) (u535.2.2.2) (u163.2.1) (u163.2.2.1) ((seti u163.2.2.2 0 u535.1)) (v168) (F169) (v170) (F171) _ hF hB549 (hS550.sel [6, 0, 7, 2, 3, 4, 5, 12] rfl) a (ha.sub ⟨rfl, rfl, trivial⟩)
          ·
           refine wl_lit (vs := [(.int .i64 (-1)), (.int .i64 u163.2.1), (.int .i64 (w64 (u163.2.1 + 1)))]) (l := [(-1), u163.2.1, (w64 (u163.2.1 + 1))]) fl_3 Tryz.underlying25 rfl rfl rfl rfl rfl rfl (Below.self w429) (Sep.nil _ _) ?_
           intro v554 F555 w556 hb557 hB560 hM561
           have hB558 := hB431.trans (hb557.mono hB431.size)
           have hS559 := hS432.join hb557 hM561 hB431.size
           have hSW563 := hSW433.ext hb557
           refine WL.nil (WH.ret hSW563 (WH.many (is := [1, 9]) (by kernel_rfl) rfl (List.forall_mem_cons.2 ⟨⟨_, rfl, ?_⟩, List.forall_mem_cons.2 ⟨⟨_, rfl, ?_⟩, fun _ h => by cases h⟩⟩)))
           ·
            refine wl_load_blk (i := 12) (vs := [v170]) (v := v170) tf_25 rfl rfl hS559 rfl rfl rfl (WL.nil (WH.ret hSW563 (WH.on1 9 rfl ?_)))
            obtain ⟨u565, hu565, hF⟩ := bindE hF
            refine wl_call rfl Tryz.call53 (C_spec_l1Cur__among__mut__box w556 (x0.1, u202.2.2.1, u202.2.2.2) b0 v0_0 (h0_0.rsto (hS559.sel [6, 1] rfl)) [(-1), u163.2.1, (w64 (u163.2.1 + 1))] v554 (own_out (hS559.sel [0, 1] rfl)) (hS559.sel [1] rfl).base0 _ hu565) rfl ?_
            rintro _ w566 ⟨rfl, hE567, hM568⟩
            refine ⟨_, rfl, ?_⟩
            have hB569 := hS559.takeB [1] rfl (M := [R.blk b0 53 [v0_0, (.int .i64 u202.2.2.1), (.int .u64 u202.2.2.2)]]) rfl hB558 hE567 hM568
            have hS570 : Sep (wE w0).heap.size w566 [R.blk b0 53 [v0_0, (.int .i64 u565.2.2.1), (.int .u64 u565.2.2.2)], R.own ty_3 F555 v554 [(-1), u163.2.1, (w64 (u163.2.1 + 1))], R.own ty_66 F165 v164 u163.1.1, R.own ty_3 F167 v166 u163.1.2.1, R.own ty_3 F169 v168 u163.2.2.1, R.own ty_3 F171 v170 u163.2.2.2, R.rest w0 (fps [R.blk b0 53 [v0_0, (.int .i64 x0.2.1), (.int .u64 x0.2.2)]]), R.blk b2 29 [(.slice none 0 0), (.slice none 0 0), (.int .i64 0), (.int .i64 0), (.int .i64 0), (.slice none 0 0), (.slice none 0 0)], R.own ty_66 F77 v76 l75, R.own ty_3 F80 v79 l78, R.own ty_3 F86 v85 l84, R.own ty_3 F89 v88 l87, R.blk b42 29 [v164, v166, (.int .i64 u163.1.2.2.1), (.int .i64 u163.1.2.2.2), (.int .i64 u163.2.1), v168, v170], R.own ty_59 F71 v70 u63.1] := hS559.take [1] [0, 2, 3, 4, 5, 6, 7, 8, 9, 10, 11, 12, 13] rfl (M := [R.blk b0 53 [v0_0, (.int .i64 u202.2.2.1), (.int .u64 u202.2.2.2)]]) rfl hM568 hB558.size
            have hk571 := box_kept hM568
            have hSW572 := hSW563.wr' hk571.1 hk571.2.1 (fun _ _ h => List.mem_append_left _ (List.mem_append_left _ (h)))
            refine WL.nil (WH.ret hSW572 (WH.on1 10 rfl ?_))
            obtain ⟨u574, hu574, hF⟩ := bindE hF
            refine wl_indexoF (e := ty_3) (i := 5) Tryz.underlying25 rfl rfl rfl hS570 rfl hu574 ?_
            rintro p575 _ rfl hp576 ho577
            refine WL.nil (WH.ret hSW572 (WH.on1 11 rfl (wl_storeo (i := 5) (o := 0) (vs := [(.int .i64 u565.1)]) (u' := u565.1) fl_3 tf_3 rfl rfl rfl rfl ho577 hu574 hB569 hS570 rfl rfl ⟨rfl, trivial⟩ rfl ?_)))
            intro w578 hk581 hB579 hS580
            have hSW582 := hSW572.wr' hk581.1 hk581.2.1 (fun _ _ h => List.mem_append_left _ (List.mem_append_right _ h))
            refine WL.nil (WH.ret hSW582 (WH.done (by kernel_rfl) ?_))
            exact fun a ha => hJ195 (u565.2.2.1) (u565.2.2.2) (u163.2.1) (u163.2.2.1) ((seti u163.2.2.2 0 u565.1)) (v168) (F169) (v170) (F171) _ hF hB579 (hS580.sel [6, 0, 7, 2, 3, 4, 5, 12] rfl) a (ha.sub ⟨rfl, rfl, trivial⟩)
           ·
            obtain ⟨u584, hu584, hF⟩ := bindE hF
            refine wl_call rfl Tryz.call53 (C_spec_l1Cur__among__mut__box w556 (x0.1, u202.2.2.1, u202.2.2.2) b0 v0_0 (h0_0.rsto (hS559.sel [6, 1] rfl)) [(-1), u163.2.1, (w64 (u163.2.1 + 1))] v554 (own_out (hS559.sel [0, 1] rfl)) (hS559.sel [1] rfl).base0 _ hu584) rfl ?_
            rintro _ w585 ⟨rfl, hE586, hM587⟩
            refine ⟨_, rfl, ?_⟩
            have hB588 := hS559.takeB [1] rfl (M := [R.blk b0 53 [v0_0, (.int .i64 u202.2.2.1), (.int .u64 u202.2.2.2)]]) rfl hB558 hE586 hM587
            have hS589 : Sep (wE w0).heap.size w585 [R.blk b0 53 [v0_0, (.int .i64 u584.2.2.1), (.int .u64 u584.2.2.2)], R.own ty_3 F555 v554 [(-1), u163.2.1, (w64 (u163.2.1 + 1))], R.own ty_66 F165 v164 u163.1.1, R.own ty_3 F167 v166 u163.1.2.1, R.own ty_3 F169 v168 u163.2.2.1, R.own ty_3 F171 v170 u163.2.2.2, R.rest w0 (fps [R.blk b0 53 [v0_0, (.int .i64 x0.2.1), (.int .u64 x0.2.2)]]), R.blk b2 29 [(.slice none 0 0), (.slice none 0 0), (.int .i64 0), (.int .i64 0), (.int .i64 0), (.slice none 0 0), (.slice none 0 0)], R.own ty_66 F77 v76 l75, R.own ty_3 F80 v79 l78, R.own ty_3 F86 v85 l84, R.own ty_3 F89 v88 l87, R.blk b42 29 [v164, v166, (.int .i64 u163.1.2.2.1), (.int .i64 u163.1.2.2.2), (.int .i64 u163.2.1), v168, v170], R.own ty_59 F71 v70 u63.1] := hS559.take [1] [0, 2, 3, 4, 5, 6, 7, 8, 9, 10, 11, 12, 13] rfl (M := [R.blk b0 53 [v0_0, (.int .i64 u202.2.2.1), (.int .u64 u202.2.2.2)]]) rfl hM587 hB558.size
            have hk590 := box_kept hM587
            have hSW591 := hSW563.wr' hk590.1 hk590.2.1 (fun _ _ h => List.mem_append_left _ (List.mem_append_left _ (h)))
            refine WL.nil (WH.ret hSW591 (WH.on1 1 rfl (wl_load_blk (i := 12) (vs := [v170]) (v := v170) tf_25 rfl rfl hS589 rfl rfl rfl (WL.nil (WH.ret hSW591 (WH.on1 10 rfl ?_))))))
            obtain ⟨u593, hu593, hF⟩ := bindE hF
            refine wl_indexoF (e := ty_3) (i := 5) Tryz.underlying25 rfl rfl rfl hS589 rfl hu593 ?_
            rintro p594 _ rfl hp595 ho596
            refine WL.nil (WH.ret hSW591 (WH.on1 11 rfl (wl_storeo (i := 5) (o := 0) (vs := [(.int .i64 u584.1)]) (u' := u584.1) fl_3 tf_3 rfl rfl rfl rfl ho596 hu593 hB588 hS589 rfl rfl ⟨rfl, trivial⟩ rfl ?_)))
            intro w597 hk600 hB598 hS599
            have hSW601 := hSW591.wr' hk600.1 hk600.2.1 (fun _ _ h => List.mem_append_left _ (List.mem_append_right _ h))
            refine WL.nil (WH.ret hSW601 (WH.done (by kernel_rfl) ?_))
            exact fun a ha => hJ195 (u584.2.2.1) (u584.2.2.2) (u163.2.1) (u163.2.2.1) ((seti u163.2.2.2 0 u584.1)) (v168) (F169) (v170) (F171) _ hF hB598 (hS599.sel [6, 0, 7, 2, 3, 4, 5, 12] rfl) a (ha.sub ⟨rfl, rfl, trivial⟩)
        ·
         refine wl_load_blk (i := 11) (vs := [(.int .i64 u163.2.1)]) (v := (.int .i64 u163.2.1)) tf_3 rfl rfl hS432 rfl rfl rfl (WL.nil (WH.ret hSW433 (WH.tk 7 rfl hP hSW433 (pr_add rfl rfl rfl (WH.many (is := [1, 4]) (by kernel_rfl) rfl (List.forall_mem_cons.2 ⟨⟨_, rfl, ?_⟩, List.forall_mem_cons.2 ⟨⟨_, rfl, ?_⟩, fun _ h => by cases h⟩⟩))))))
         ·
          refine wl_load_blk (i := 11) (vs := [v170]) (v := v170) tf_25 rfl rfl hS432 rfl rfl rfl (WL.nil (WH.ret hSW433 (WH.on1 4 rfl (wl_load_blk (i := 11) (vs := [(.int .i64 u163.2.1)]) (v := (.int .i64 u163.2.1)) tf_3 rfl rfl hS432 rfl rfl rfl (WL.nil (WH.ret hSW433 (WH.on1 8 rfl (wl_lit (vs := [(.int .i64 (-1)), (.int .i64 u163.2.1), (.int .i64 (w64 (u163.2.1 + 1)))]) (l := [(-1), u163.2.1, (w64 (u163.2.1 + 1))]) fl_3 Tryz.underlying25 rfl rfl rfl rfl rfl rfl (Below.self w429) (Sep.nil _ _) ?_))))))))
          intro v603 F604 w605 hb606 hB609 hM610
          have hB607 := hB431.trans (hb606.mono hB431.size)
          have hS608 := hS432.join hb606 hM610 hB431.size
          have hSW612 := hSW433.ext hb606
          refine WL.nil (WH.ret hSW612 (WH.on1 9 rfl ?_))
          obtain ⟨u614, hu614, hF⟩ := bindE hF
          refine wl_call rfl Tryz.call53 (C_spec_l1Cur__among__mut__box w605 (x0.1, u202.2.2.1, u202.2.2.2) b0 v0_0 (h0_0.rsto (hS608.sel [6, 1] rfl)) [(-1), u163.2.1, (w64 (u163.2.1 + 1))] v603 (own_out (hS608.sel [0, 1] rfl)) (hS608.sel [1] rfl).base0 _ hu614) rfl ?_
          rintro _ w615 ⟨rfl, hE616, hM617⟩
          refine ⟨_, rfl, ?_⟩
          have hB618 := hS608.takeB [1] rfl (M := [R.blk b0 53 [v0_0, (.int .i64 u202.2.2.1), (.int .u64 u202.2.2.2)]]) rfl hB607 hE616 hM617
          have hS619 : Sep (wE w0).heap.size w615 [R.blk b0 53 [v0_0, (.int .i64 u614.2.2.1), (.int .u64 u614.2.2.2)], R.own ty_3 F604 v603 [(-1), u163.2.1, (w64 (u163.2.1 + 1))], R.own ty_66 F165 v164 u163.1.1, R.own ty_3 F167 v166 u163.1.2.1, R.own ty_3 F169 v168 u163.2.2.1, R.own ty_3 F171 v170 u163.2.2.2, R.rest w0 (fps [R.blk b0 53 [v0_0, (.int .i64 x0.2.1), (.int .u64 x0.2.2)]]), R.blk b2 29 [(.slice none 0 0), (.slice none 0 0), (.int .i64 0), (.int .i64 0), (.int .i64 0), (.slice none 0 0), (.slice none 0 0)], R.own ty_66 F77 v76 l75, R.own ty_3 F80 v79 l78, R.own ty_3 F86 v85 l84, R.own ty_3 F89 v88 l87, R.blk b42 29 [v164, v166, (.int .i64 u163.1.2.2.1), (.int .i64 u163.1.2.2.2), (.int .i64 u163.2.1), v168, v170], R.own ty_59 F71 v70 u63.1] := hS608.take [1] [0, 2, 3, 4, 5, 6, 7, 8, 9, 10, 11, 12, 13] rfl (M := [R.blk b0 53 [v0_0, (.int .i64 u202.2.2.1), (.int .u64 u202.2.2.2)]]) rfl hM617 hB607.size
          have hk620 := box_kept hM617
          have hSW621 := hSW612.wr' hk620.1 hk620.2.1 (fun _ _ h => List.mem_append_left _ (List.mem_append_left _ (h)))
          refine WL.nil (WH.ret hSW621 (WH.on1 10 rfl ?_))
          obtain ⟨u623, hu623, hF⟩ := bindE hF
          refine wl_indexoF (e := ty_3) (i := 5) Tryz.underlying25 rfl rfl rfl hS619 rfl hu623 ?_
          rintro p624 _ rfl hp625 ho626
          refine WL.nil (WH.ret hSW621 (WH.on1 11 rfl (wl_storeo (i := 5) (o := 0) (vs := [(.int .i64 u614.1)]) (u' := u614.1) fl_3 tf_3 rfl rfl rfl rfl ho626 hu623 hB618 hS619 rfl rfl ⟨rfl, trivial⟩ rfl ?_)))
          intro w627 hk630 hB628 hS629
          have hSW631 := hSW621.wr' hk630.1 hk630.2.1 (fun _ _ h => List.mem_append_left _ (List.mem_append_right _ h))
          refine WL.nil (WH.ret hSW631 (WH.done (by kernel_rfl) ?_))
          exact fun a ha => hJ195 (u614.2.2.1) (u614.2.2.2) (u163.2.1) (u163.2.2.1) ((seti u163.2.2.2 0 u614.1)) (v168) (F169) (v170) (F171) _ hF hB628 (hS629.sel [6, 0, 7, 2, 3, 4, 5, 12] rfl) a (ha.sub ⟨rfl, rfl, trivial⟩)
         ·
          refine wl_load_blk (i := 11) (vs := [(.int .i64 u163.2.1)]) (v := (.int .i64 u163.2.1)) tf_3 rfl rfl hS432 rfl rfl rfl (WL.nil (WH.ret hSW433 (WH.many (is := [1, 8]) (by kernel_rfl) rfl (List.forall_mem_cons.2 ⟨⟨_, rfl, ?_⟩, List.forall_mem_cons.2 ⟨⟨_, rfl, ?_⟩, fun _ h => by cases h⟩⟩))))
          ·
           refine wl_load_blk (i := 11) (vs := [v170]) (v := v170) tf_25 rfl rfl hS432 rfl rfl rfl (WL.nil (WH.ret hSW433 (WH.on1 8 rfl (wl_lit (vs := [(.int .i64 (-1)), (.int .i64 u163.2.1), (.int .i64 (w64 (u163.2.1 + 1)))]) (l := [(-1), u163.2.1, (w64 (u163.2.1 + 1))]) fl_3 Tryz.underlying25 rfl rfl rfl rfl rfl rfl (Below.self w429) (Sep.nil _ _) ?_))))
           intro v633 F634 w635 hb636 hB639 hM640
           have hB637 := hB431.trans (hb636.mono hB431.size)
           have hS638 := hS432.join hb636 hM640 hB431.size
           have hSW642 := hSW433.ext hb636
           refine WL.nil (WH.ret hSW642 (WH.on1 9 rfl ?_))
           obtain ⟨u644, hu644, hF⟩ := bindE hF
           refine wl_call rfl Tryz.call53 (C_spec_l1Cur__among__mut__box w635 (x0.1, u202.2.2.1, u202.2.2.2) b0 v0_0 (h0_0.rsto (hS638.sel [6, 1] rfl)) [(-1), u163.2.1, (w64 (u163.2.1 + 1))] v633 (own_out (hS638.sel [0, 1] rfl)) (hS638.sel [1] rfl).base0 _ hu644) rfl ?_
           rintro _ w645 ⟨rfl, hE646, hM647⟩
           refine ⟨_, rfl, ?_⟩
           have hB648 := hS638.takeB [1] rfl (M := [R.blk b0 53 [v0_0, (.int .i64 u202.2.2.1), (.int .u64 u202.2.2.2)]]) rfl hB637 hE646 hM647
           have hS649 : Sep (wE w0).heap.size w645 [R.blk b0 53 [v0_0, (.int .i64 u644.2.2.1), (.int .u64 u644.2.2.2)], R.own ty_3 F634 v633 [(-1), u163.2.1, (w64 (u163.2.1 + 1))], R.own ty_66 F165 v164 u163.1.1, R.own ty_3 F167 v166 u163.1.2.1, R.own ty_3 F169 v168 u163.2.2.1, R.own ty_3 F171 v170 u163.2.2.2, R.rest w0 (fps [R.blk b0 53 [v0_0, (.int .i64 x0.2.1), (.int .u64 x0.2.2)]]), R.blk b2 29 [(.slice none 0 0), (.slice none 0 0), (.int .i64 0), (.int .i64 0), (.int .i64 0), (.slice none 0 0), (.slice none 0 0)], R.own ty_66 F77 v76 l75, R.own ty_3 F80 v79 l78, R.own ty_3 F86 v85 l84, R.own ty_3 F89 v88 l87, R.blk b42 29 [v164, v166, (.int .i64 u163.1.2.2.1), (.int .i64 u163.1.2.2.2), (.int .i64 u163.2.1), v168, v170], R.own ty_59 F71 v70 u63.1] := hS638.take [1] [0, 2, 3, 4, 5, 6, 7, 8, 9, 10, 11, 12, 13] rfl (M := [R.blk b0 53 [v0_0, (.int .i64 u202.2.2.1), (.int .u64 u202.2.2.2)]]) rfl hM647 hB637.size
           have hk650 := box_kept hM647
           have hSW651 := hSW642.wr' hk650.1 hk650.2.1 (fun _ _ h => List.mem_append_left _ (List.mem_append_left _ (h)))
           refine WL.nil (WH.ret hSW651 (WH.on1 10 rfl ?_))
           obtain ⟨u653, hu653, hF⟩ := bindE hF
           refine wl_indexoF (e := ty_3) (i := 5) Tryz.underlying25 rfl rfl rfl hS649 rfl hu653 ?_
           rintro p654 _ rfl hp655 ho656
           refine WL.nil (WH.ret hSW651 (WH.on1 11 rfl (wl_storeo (i := 5) (o := 0) (vs := [(.int .i64 u644.1)]) (u' := u644.1) fl_3 tf_3 rfl rfl rfl rfl ho656 hu653 hB648 hS649 rfl rfl ⟨rfl, trivial⟩ rfl ?_)))
           intro w657 hk660 hB658 hS659
           have hSW661 := hSW651.wr' hk660.1 hk660.2.1 (fun _ _ h => List.mem_append_left _ (List.mem_append_right _ h))
           refine WL.nil (WH.ret hSW661 (WH.done (by kernel_rfl) ?_))
           exact fun a ha => hJ195 (u644.2.2.1) (u644.2.2.2) (u163.2.1) (u163.2.2.1) ((seti u163.2.2.2 0 u644.1)) (v168) (F169) (v170) (F171) _ hF hB658 (hS659.sel [6, 0, 7, 2, 3, 4, 5, 12] rfl) a (ha.sub ⟨rfl, rfl, trivial⟩)
          ·
           refine wl_lit (vs := [(.int .i64 (-1)), (.int .i64 u163.2.1), (.int .i64 (w64 (u163.2.1 + 1)))]) (l := [(-1), u163.2.1, (w64 (u163.2.1 + 1))]) fl_3 Tryz.underlying25 rfl rfl rfl rfl rfl rfl (Below.self w429) (Sep.nil _ _) ?_
           intro v663 F664 w665 hb666 hB669 hM670
           have hB667 := hB431.trans (hb666.mono hB431.size)
           have hS668 := hS432.join hb666 hM670 hB431.size
           have hSW672 := hSW433.ext hb666
           refine WL.nil (WH.ret hSW672 (WH.many (is := [1, 9]) (by kernel_rfl) rfl (List.forall_mem_cons.2 ⟨⟨_, rfl, ?_⟩, List.forall_mem_cons.2 ⟨⟨_, rfl, ?_⟩, fun _ h => by cases h⟩⟩)))
           ·
            refine wl_load_blk (i := 12) (vs := [v170]) (v := v170) tf_25 rfl rfl hS668 rfl rfl rfl (WL.nil (WH.ret hSW672 (WH.on1 9 rfl ?_)))
            obtain ⟨u674, hu674, hF⟩ := bindE hF
            refine wl_call rfl Tryz.call53 (C_spec_l1Cur__among__mut__box w665 (x0.1, u202.2.2.1, u202.2.2.2) b0 v0_0 (h0_0.rsto (hS668.sel [6, 1] rfl)) [(-1), u163.2.1, (w64 (u163.2.1 + 1))] v663 (own_out (hS668.sel [0, 1] rfl)) (hS668.sel [1] rfl).base0 _ hu674) rfl ?_
            rintro _ w675 ⟨rfl, hE676, hM677⟩
            refine ⟨_, rfl, ?_⟩
            have hB678 := hS668.takeB [1] rfl (M := [R.blk b0 53 [v0_0, (.int .i64 u202.2.2.1), (.int .u64 u202.2.2.2)]]) rfl hB667 hE676 hM677
            have hS679 : Sep (wE w0).heap.size w675 [R.blk b0 53 [v0_0, (.int .i64 u674.2.2.1), (.int .u64 u674.2.2.2)], R.own ty_3 F664 v663 [(-1), u163.2.1, (w64 (u163.2.1 + 1))], R.own ty_66 F165 v164 u163.1.1, R.own ty_3 F167 v166 u163.1.2.1, R.own ty_3 F169 v168 u163.2.2.1, R.own ty_3 F171 v170 u163.2.2.2, R.rest w0 (fps [R.blk b0 53 [v0_0, (.int .i64 x0.2.1), (.int .u64 x0.2.2)]]), R.blk b2 29 [(.slice none 0 0), (.slice none 0 0), (.int .i64 0), (.int .i64 0), (.int .i64 0), (.slice none 0 0), (.slice none 0 0)], R.own ty_66 F77 v76 l75, R.own ty_3 F80 v79 l78, R.own ty_3 F86 v85 l84, R.own ty_3 F89 v88 l87, R.blk b42 29 [v164, v166, (.int .i64 u163.1.2.2.1), (.int .i64 u163.1.2.2.2), (.int .i64 u163.2.1), v168, v170], R.own ty_59 F71 v70 u63.1] := hS668.take [1] [0, 2, 3, 4, 5, 6, 7, 8, 9, 10, 11, 12, 13] rfl (M := [R.blk b0 53 [v0_0, (.int .i64 u202.2.2.1), (.int .u64 u202.2.2.2)]]) rfl hM677 hB667.size
            have hk680 := box_kept hM677
            have hSW681 := hSW672.wr' hk680.1 hk680.2.1 (fun _ _ h => List.mem_append_left _ (List.mem_append_left _ (h)))
            refine WL.nil (WH.ret hSW681 (WH.on1 10 rfl ?_))
            obtain ⟨u683, hu683, hF⟩ := bindE hF
            refine wl_indexoF (e := ty_3) (i := 5) Tryz.underlying25 rfl rfl rfl hS679 rfl hu683 ?_
            rintro p684 _ rfl hp685 ho686
            refine WL.nil (WH.ret hSW681 (WH.on1 11 rfl (wl_storeo (i := 5) (o := 0) (vs := [(.int .i64 u674.1)]) (u' := u674.1) fl_3 tf_3 rfl rfl rfl rfl ho686 hu683 hB678 hS679 rfl rfl ⟨rfl, trivial⟩ rfl ?_)))
            intro w687 hk690 hB688 hS689
            have hSW691 := hSW681.wr' hk690.1 hk690.2.1 (fun _ _ h => List.mem_append_left _ (List.mem_append_right _ h))
            refine WL.nil (WH.ret hSW691 (WH.done (by kernel_rfl) ?_))
            exact fun a ha => hJ195 (u674.2.2.1) (u674.2.2.2) (u163.2.1) (u163.2.2.1) ((seti u163.2.2.2 0 u674.1)) (v168) (F169) (v170) (F171) _ hF hB688 (hS689.sel [6, 0, 7, 2, 3, 4, 5, 12] rfl) a (ha.sub ⟨rfl, rfl, trivial⟩)
           ·
            obtain ⟨u693, hu693, hF⟩ := bindE hF
            refine wl_call rfl Tryz.call53 (C_spec_l1Cur__among__mut__box w665 (x0.1, u202.2.2.1, u202.2.2.2) b0 v0_0 (h0_0.rsto (hS668.sel [6, 1] rfl)) [(-1), u163.2.1, (w64 (u163.2.1 + 1))] v663 (own_out (hS668.sel [0, 1] rfl)) (hS668.sel [1] rfl).base0 _ hu693) rfl ?_
            rintro _ w694 ⟨rfl, hE695, hM696⟩
            refine ⟨_, rfl, ?_⟩
            have hB697 := hS668.takeB [1] rfl (M := [R.blk b0 53 [v0_0, (.int .i64 u202.2.2.1), (.int .u64 u202.2.2.2)]]) rfl hB667 hE695 hM696
            have hS698 : Sep (wE w0).heap.size w694 [R.blk b0 53 [v0_0, (.int .i64 u693.2.2.1), (.int .u64 u693.2.2.2)], R.own ty_3 F664 v663 [(-1), u163.2.1, (w64 (u163.2.1 + 1))], R.own ty_66 F165 v164 u163.1.1, R.own ty_3 F167 v166 u163.1.2.1, R.own ty_3 F169 v168 u163.2.2.1, R.own ty_3 F171 v170 u163.2.2.2, R.rest w0 (fps [R.blk b0 53 [v0_0, (.int .i64 x0.2.1), (.int .u64 x0.2.2)]]), R.blk b2 29 [(.slice none 0 0), (.slice none 0 0), (.int .i64 0), (.int .i64 0), (.int .i64 0), (.slice none 0 0), (.slice none 0 0)], R.own ty_66 F77 v76 l75, R.own ty_3 F80 v79 l78, R.own ty_3 F86 v85 l84, R.own ty_3 F89 v88 l87, R.blk b42 29 [v164, v166, (.int .i64 u163.1.2.2.1), (.int .i64 u163.1.2.2.2), (.int .i64 u163.2.1), v168, v170], R.own ty_59 F71 v70 u63.1] := hS668.take [1] [0, 2, 3, 4, 5, 6, 7, 8, 9, 10, 11, 12, 13] rfl (M := [R.blk b0 53 [v0_0, (.int .i64 u202.2.2.1), (.int .u64 u202.2.2.2)]]) rfl hM696 hB667.size
            have hk699 := box_kept hM696
            have hSW700 := hSW672.wr' hk699.1 hk699.2.1 (fun _ _ h => List.mem_append_left _ (List.mem_append_left _ (h)))
            refine WL.nil (WH.ret hSW700 (WH.on1 1 rfl (wl_load_blk (i := 12) (vs := [v170]) (v := v170) tf_25 rfl rfl hS698 rfl rfl rfl (WL.nil (WH.ret hSW700 (WH.on1 10 rfl ?_))))))
            obtain ⟨u702, hu702, hF⟩ := bindE hF
            refine wl_indexoF (e := ty_3) (i := 5) Tryz.underlying25 rfl rfl rfl hS698 rfl hu702 ?_
            rintro p703 _ rfl hp704 ho705
            refine WL.nil (WH.ret hSW700 (WH.on1 11 rfl (wl_storeo (i := 5) (o := 0) (vs := [(.int .i64 u693.1)]) (u' := u693.1) fl_3 tf_3 rfl rfl rfl rfl ho705 hu702 hB697 hS698 rfl rfl ⟨rfl, trivial⟩ rfl ?_)))
            intro w706 hk709 hB707 hS708
            have hSW710 := hSW700.wr' hk709.1 hk709.2.1 (fun _ _ h => List.mem_append_left _ (List.mem_append_right _ h))
            refine WL.nil (WH.ret hSW710 (WH.done (by kernel_rfl) ?_))
            exact fun a ha => hJ195 (u693.2.2.1) (u693.2.2.2) (u163.2.1) (u163.2.2.1) ((seti u163.2.2.2 0 u693.1)) (v168) (F169) (v170) (F171) _ hF hB707 (hS708.sel [6, 0, 7, 2, 3, 4, 5, 12] rfl) a (ha.sub ⟨rfl, rfl, trivial⟩)
       ·replace hF := ifN h428 hF
        refine W.seq fun K712 hK712 => W.region (wl_eql rfl rfl rfl (wl_assign rfl rfl (WL.nil (fun a ha => hK712 _ _ (W.cond rfl (fun h713 => ?_) (fun h713 => ?_)) a ha))))
        ·replace hF := ifP h713 hF
         refine W.region (wl_field (o := 6) (off' := 6) ff_29_3 rfl rfl rfl (wl_load_blk (i := 11) (vs := [v170]) (v := v170) tf_25 rfl rfl hS207 rfl rfl rfl (wl_lit (vs := [(.int .i64 0)]) (l := [0]) fl_3 Tryz.underlying25 rfl rfl rfl rfl rfl rfl hB206 hS207 ?_)))
         intro v714 F715 w716 hb717 hB718 hS719
         obtain ⟨u720, hu720, hF⟩ := bindE hF
         refine wl_append (i := 5) (S := (· < w716.heap.size)) fl_3 Tryz.underlying25 rfl rfl rfl hB718 hS719 rfl (hS719.own_ro (i := 0) rfl) hu720 ?_
         intro v721 F722 w723 hk724 hB725 hS726
         refine wl_field (o := 6) (off' := 6) ff_29_3 rfl rfl rfl (wl_store_blk (i := 12) (vs := [v721]) (cs' := [v164, v166, (.int .i64 u163.1.2.2.1), (.int .i64 u163.1.2.2.2), (.int .i64 u163.2.1), v168, v721]) tf_25 rfl rfl (cells_one (hS726.own_ro (i := 5) rfl).one) rfl hB725 hS726 rfl rfl ⟨(hS726.own_ro (i := 5) rfl).one, trivial⟩ rfl ?_)
         intro w727 hk730 hB728 hS729
         refine WL.nil ?_
         exact fun a ha => hJ195 (u202.2.2.1) (u202.2.2.2) (u163.2.1) (u163.2.2.1) (u720) (v168) (F169) (v721) (F722) _ hF hB728 (hS729.sel [6, 1, 7, 2, 3, 4, 5, 12] rfl) a (ha.sub ⟨rfl, rfl, trivial⟩)
        ·replace hF := ifN h713 hF
         refine W.seq fun K731 hK731 => ?_
         obtain ⟨k736, hk736, hF⟩ := jE1 hF
         have hJ737 : ∀ (y735 : Bool) (w732 : World) (_ : k736 y735 = some r) (_ : Below (wE w0).heap.size (wE w0) w732) (_ : Sep (wE w0).heap.size w732 [R.rest w0 (fps [R.blk b0 53 [v0_0, (.int .i64 x0.2.1), (.int .u64 x0.2.2)]]), R.blk b0 53 [v0_0, (.int .i64 u202.2.2.1), (.int .u64 u202.2.2.2)], R.blk b2 29 [(.slice none 0 0), (.slice none 0 0), (.int .i64 0), (.int .i64 0), (.int .i64 0), (.slice none 0 0), (.slice none 0 0)], R.own ty_66 F165 v164 u163.1.1, R.own ty_3 F167 v166 u163.1.2.1, R.own ty_3 F169 v168 u163.2.2.1, R.own ty_3 F171 v170 u163.2.2.2, R.blk b42 29 [v164, v166, (.int .i64 u163.1.2.2.1), (.int .i64 u163.1.2.2.2), (.int .i64 u163.2.1), v168, v170]]), ∀ a, St 91 [(2, (.pointer (some ⟨b2, 0, none⟩))), (4, (.pointer (some ⟨b42, 0, none⟩))), (83, (.bool y735))] a → K731 a w732 := by
          intro y735 w732 hF hB733 hS734
          subst hk736
          refine fun a ha => hK731 _ _ (W.cond rfl (fun h738 => ?_) (fun h738 => ?_)) a ha
          ·replace hF := ifP h738 hF
           refine W.region (wl_field (o := 4) (off' := 4) ff_29_1 rfl rfl rfl (wl_load_blk (i := 7) (vs := [(.int .i64 u163.2.1)]) (v := (.int .i64 u163.2.1)) tf_3 rfl rfl hS734 rfl rfl rfl (wl_add rfl rfl rfl (wl_field (o := 4) (off' := 4) ff_29_1 rfl rfl rfl (wl_store_blk (i := 7) (vs := [(.int .i64 (w64 (u163.2.1 + 30)))]) (cs' := [v164, v166, (.int .i64 u163.1.2.2.1), (.int .i64 u163.1.2.2.2), (.int .i64 (w64 (u163.2.1 + 30))), v168, v170]) tf_3 rfl rfl rfl rfl hB733 hS734 rfl rfl ⟨rfl, trivial⟩ rfl ?_)))))
           intro w739 hk742 hB740 hS741
           refine WL.nil ?_
           exact fun a ha => hJ195 (u202.2.2.1) (u202.2.2.2) ((w64 (u163.2.1 + 30))) (u163.2.2.1) (u163.2.2.2) (v168) (F169) (v170) (F171) _ hF hB740 (hS741.sel [0, 1, 2, 3, 4, 5, 6, 7] rfl) a (ha.sub ⟨rfl, rfl, trivial⟩)
          ·replace hF := ifN h738 hF
           refine W.skip ?_
           exact fun a ha => hJ195 (u202.2.2.1) (u202.2.2.2) (u163.2.1) (u163.2.2.1) (u163.2.2.2) (v168) (F169) (v170) (F171) _ hF hB733 (hS734.sel [0, 1, 2, 3, 4, 5, 6, 7] rfl) a (ha.sub ⟨rfl, rfl, trivial⟩)
         refine W.seq fun K743 hK743 => W.region (wl_eql rfl rfl rfl (wl_assign rfl rfl (WL.nil (fun a ha => hK743 _ _ (W.cond rfl (fun h744 => ?_) (fun h744 => ?_)) a ha))))
         ·replace hF := ifP h744 hF
          refine W.skip ?_
          exact fun a ha => hJ737 ((u202.1 == 4)) _ hF hB206 (hS207.sel [5, 0, 6, 1, 2, 3, 4, 11] rfl) a (ha.sub ⟨rfl, rfl, rfl, trivial⟩)
         ·replace hF := ifN h744 hF
          refine W.region (wl_eql rfl rfl rfl (wl_assign rfl rfl (WL.nil ?_)))
          exact fun a ha => hJ737 ((u202.1 == 5)) _ hF hB206 (hS207.sel [5, 0, 6, 1, 2, 3, 4, 11] rfl) a (ha.sub ⟨rfl, rfl, rfl, trivial⟩)
end Go.Proofs.YtmkignciedkidaaGreat
