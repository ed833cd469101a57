/-
  THE WALKS of functions of this seat, by program (gen.py, prune.py).
-/
import Derived.Test.YtmkignciedkidaaWXFnShowsa
set_option linter.unusedSimpArgs false
set_option linter.unusedVariables false
set_option maxRecDepth 100000
set_option maxHeartbeats 1600000
namespace Go.Proofs.Ytmkignciedkidaa
open Go Go.RowKit
theorem C_spec_l1Cur__show__mut__box (w0 : World) (x0 : ((List Int) × Int × Int)) (b0 : Nat) (v0_0 : Value) (h0_0 : rdS ty_5 (Out (fps [R.blk b0 131 [v0_0, (.int .i64 x0.2.1), (.int .u64 x0.2.2)]]) w0) w0 v0_0 x0.1) (hS0 : Sep 0 w0 [R.blk b0 131 [v0_0, (.int .i64 x0.2.1), (.int .u64 x0.2.2)]]) (r : (((List (List (Int × Int))) × (List Int) × Int × Int) × ((List Int) × Int × Int))) (hF : F_spec_l1Cur__show__mut__box x0 = some r) :
  Calls Try.prog 149 [(.pointer (some ⟨b0, 0, none⟩))].toArray w0 fun e w' => ∃ (q0 : Value) (G0 : List Nat) (q1 : Value) (G1 : List Nat), e = .returned (.agg #[q0, q1, (.int .i64 r.1.2.2.1), (.int .i64 r.1.2.2.2)]) ∧ Below 0 (wE w0) w' ∧ Sep 0 w' [R.rest w0 (fps [R.blk b0 131 [v0_0, (.int .i64 x0.2.1), (.int .u64 x0.2.2)]]), R.blk b0 131 [v0_0, (.int .i64 r.2.2.1), (.int .u64 r.2.2.2)], R.own ty_63 G0 q0 r.1.1, R.own ty_3 G1 q1 r.1.2.1] := by
 refine calls_mk' Try.func149 rfl Try.ntmps149 rfl rfl fun Q hQ hP => ?_
 have hB : Below (wE w0).heap.size (wE w0) w0 := wE_below w0
 have hS : Sep (wE w0).heap.size w0 [R.rest w0 (fps [R.blk b0 131 [v0_0, (.int .i64 x0.2.1), (.int .u64 x0.2.2)]]), R.blk b0 131 [v0_0, (.int .i64 x0.2.1), (.int .u64 x0.2.2)]] := hS0.rest
 unfold F_spec_l1Cur__show__mut__box at hF
 refine W.seq fun K1 hK1 => W.region (wl_alloc (cs := [(.slice none 0 0), (.slice none 0 0), (.int .i64 0), (.int .i64 0)]) tf_53 rfl rfl hB hS ?_)
 intro b2 w3 hb4 hB5 hS6
 refine WL.nil fun a ha => hK1 _ _ (W.seq fun K7 hK7 => (W.region (wl_move rfl rfl ?_))) a ha
 obtain ⟨u8, hu8, hF⟩ := bindE hF
 refine wl_call rfl Try.call132 (C_spec_l1Cur__pick__mut__box w3 x0 b0 v0_0 (h0_0.rsto (hS6.sel [1, 2] rfl)) 4 (hS6.sel [2] rfl).base0 _ hu8) rfl ?_
 rintro _ w9 ⟨rfl, hE10, hM11⟩
 refine ⟨_, rfl, ?_⟩
 have hB12 := hS6.takeB [2] rfl (M := [R.blk b0 131 [v0_0, (.int .i64 x0.2.1), (.int .u64 x0.2.2)]]) rfl hB5 hE10 hM11
 have hS13 : Sep (wE w0).heap.size w9 [R.blk b0 131 [v0_0, (.int .i64 u8.2.2.1), (.int .u64 u8.2.2.2)], R.blk b2 53 [(.slice none 0 0), (.slice none 0 0), (.int .i64 0), (.int .i64 0)], R.rest w0 (fps [R.blk b0 131 [v0_0, (.int .i64 x0.2.1), (.int .u64 x0.2.2)]])] := hS6.take [2] [0, 1] rfl (M := [R.blk b0 131 [v0_0, (.int .i64 x0.2.1), (.int .u64 x0.2.2)]]) rfl hM11 hB5.size
 refine wl_add rfl rfl rfl (wl_assign rfl rfl (WL.nil (fun a ha => hK7 _ _ (W.seq fun K14 hK14 => (W.region (wl_move rfl rfl (wl_move rfl rfl ?_)))) a ha)))
 obtain ⟨u15, hu15, hF⟩ := bindE hF
 refine wl_call rfl Try.call166 (C_spec_l1Cur__chartOf__mut__box w9 (x0.1, u8.2.2.1, u8.2.2.2) b0 v0_0 (h0_0.rsto (hS13.sel [2, 0] rfl)) (w64 (1 + u8.1)) (hS13.sel [0] rfl).base0 _ hu15) rfl ?_
 rintro _ w16 ⟨v21, F22, rfl, hE17, hM18⟩
 refine ⟨_, rfl, ?_⟩
 have hB19 := hS13.takeB [0] rfl (M := [R.blk b0 131 [v0_0, (.int .i64 u8.2.2.1), (.int .u64 u8.2.2.2)]]) rfl hB12 hE17 hM18
 have hS20 : Sep (wE w0).heap.size w16 [R.blk b0 131 [v0_0, (.int .i64 u15.2.2.1), (.int .u64 u15.2.2.2)], R.own ty_68 F22 v21 u15.1, R.blk b2 53 [(.slice none 0 0), (.slice none 0 0), (.int .i64 0), (.int .i64 0)], R.rest w0 (fps [R.blk b0 131 [v0_0, (.int .i64 x0.2.1), (.int .u64 x0.2.2)]])] := hS13.take [0] [1, 2] rfl (M := [R.blk b0 131 [v0_0, (.int .i64 u8.2.2.1), (.int .u64 u8.2.2.2)]]) rfl hM18 hB12.size
 have hq23 := hS20.sel [1, 0, 2, 3] rfl
 have hq24 := hq23.head (r' := R.cel ty_63 F22 [v21] u15.1) (rfl) fun _ h0 => ⟨_, rfl, h0⟩
 refine wl_lit1 (e := ty_63) (vs := [v21]) Try.underlying51 rfl rfl (cells_one (hS20.own_ro (i := 1) rfl).one) rfl hB19 hq24 ?_
 intro v25 F26 w27 hb28 hf29 hB30 hS31
 refine wl_move rfl rfl (wl_lit (vs := [(.int .i64 0), (.int .i64 1), (.int .i64 8), (.int .i64 8), (.int .i64 16)]) (l := [0, 1, 8, 8, 16]) fl_3 Try.underlying29 rfl rfl rfl rfl rfl rfl hB30 hS31 ?_)
 intro v32 F33 w34 hb35 hB36 hS37
 obtain ⟨u38, hu38, hF⟩ := bindE hF
 refine wl_call rfl Try.call136 (C_spec_l1Cur__among__mut__box w34 (x0.1, u15.2.2.1, u15.2.2.2) b0 v0_0 (h0_0.rsto (hS37.sel [4, 2] rfl)) [0, 1, 8, 8, 16] v32 (own_out (hS37.sel [0, 2] rfl)) (hS37.sel [2] rfl).base0 _ hu38) rfl ?_
 rintro _ w39 ⟨rfl, hE40, hM41⟩
 refine ⟨_, rfl, ?_⟩
 have hB42 := hS37.takeB [2] rfl (M := [R.blk b0 131 [v0_0, (.int .i64 u15.2.2.1), (.int .u64 u15.2.2.2)]]) rfl hB36 hE40 hM41
 have hS43 : Sep (wE w0).heap.size w39 [R.blk b0 131 [v0_0, (.int .i64 u38.2.2.1), (.int .u64 u38.2.2.2)], R.own ty_3 F33 v32 [0, 1, 8, 8, 16], R.own ty_63 F26 v25 [u15.1], R.blk b2 53 [(.slice none 0 0), (.slice none 0 0), (.int .i64 0), (.int .i64 0)], R.rest w0 (fps [R.blk b0 131 [v0_0, (.int .i64 x0.2.1), (.int .u64 x0.2.2)]])] := hS37.take [2] [0, 1, 3, 4] rfl (M := [R.blk b0 131 [v0_0, (.int .i64 u15.2.2.1), (.int .u64 u15.2.2.2)]]) rfl hM41 hB36.size
 refine wl_move rfl rfl (wl_lit (vs := [(.int .i64 8), (.int .i64 12), (.int .i64 24), (.int .i64 24)]) (l := [8, 12, 24, 24]) fl_3 Try.underlying29 rfl rfl rfl rfl rfl rfl hB42 hS43 ?_)
 intro v44 F45 w46 hb47 hB48 hS49
 obtain ⟨u50, hu50, hF⟩ := bindE hF
 refine wl_call rfl Try.call136 (C_spec_l1Cur__among__mut__box w46 (x0.1, u38.2.2.1, u38.2.2.2) b0 v0_0 (h0_0.rsto (hS49.sel [5, 1] rfl)) [8, 12, 24, 24] v44 (own_out (hS49.sel [0, 1] rfl)) (hS49.sel [1] rfl).base0 _ hu50) rfl ?_
 rintro _ w51 ⟨rfl, hE52, hM53⟩
 refine ⟨_, rfl, ?_⟩
 have hB54 := hS49.takeB [1] rfl (M := [R.blk b0 131 [v0_0, (.int .i64 u38.2.2.1), (.int .u64 u38.2.2.2)]]) rfl hB48 hE52 hM53
 have hS55 : Sep (wE w0).heap.size w51 [R.blk b0 131 [v0_0, (.int .i64 u50.2.2.1), (.int .u64 u50.2.2.2)], R.own ty_3 F45 v44 [8, 12, 24, 24], R.own ty_3 F33 v32 [0, 1, 8, 8, 16], R.own ty_63 F26 v25 [u15.1], R.blk b2 53 [(.slice none 0 0), (.slice none 0 0), (.int .i64 0), (.int .i64 0)], R.rest w0 (fps [R.blk b0 131 [v0_0, (.int .i64 x0.2.1), (.int .u64 x0.2.2)]])] := hS49.take [1] [0, 2, 3, 4, 5] rfl (M := [R.blk b0 131 [v0_0, (.int .i64 u38.2.2.1), (.int .u64 u38.2.2.2)]]) rfl hM53 hB48.size
 refine wl_build (zs := [(.slice none 0 0), (.slice none 0 0), (.int .i64 0), (.int .i64 0)]) (out := [v25, (.slice none 0 0), (.int .i64 u38.1), (.int .i64 u50.1)]) (vs := [v25, (.int .i64 u38.1), (.int .i64 u50.1)]) (css := [[v25], [(.int .i64 u38.1)], [(.int .i64 u50.1)]]) tf_53 pl_53 rfl rfl (by simp only [List.map_cons, List.map_nil, cells_one ((hS55.own_ro (i := 3) rfl).one)] <;> rfl) rfl rfl (wl_alloc (cs := [(.slice none 0 0), (.slice none 0 0), (.int .i64 0), (.int .i64 0)]) tf_53 rfl rfl hB54 hS55 ?_)
 intro b56 w57 hb58 hB59 hS60
 refine wl_store_blk (i := 0) (vs := [v25, (.slice none 0 0), (.int .i64 u38.1), (.int .i64 u50.1)]) (cs' := [v25, (.slice none 0 0), (.int .i64 u38.1), (.int .i64 u50.1)]) tf_53 rfl rfl rfl rfl hB59 hS60 rfl rfl ⟨(hS60.own_ro (i := 4) rfl).one, rfl, rfl, rfl, trivial⟩ rfl ?_
 intro w61 hk64 hB62 hS63
 refine WL.nil fun a ha => hK14 _ _ (W.seq fun K65 hK65 => (W.region (wl_move rfl rfl ?_))) a ha
 obtain ⟨u66, hu66, hF⟩ := bindE hF
 refine wl_call rfl Try.call132 (C_spec_l1Cur__pick__mut__box w61 (x0.1, u50.2.2.1, u50.2.2.2) b0 v0_0 (h0_0.rsto (hS63.sel [6, 1] rfl)) 3 (hS63.sel [1] rfl).base0 _ hu66) rfl ?_
 rintro _ w67 ⟨rfl, hE68, hM69⟩
 refine ⟨_, rfl, ?_⟩
 have hB70 := hS63.takeB [1] rfl (M := [R.blk b0 131 [v0_0, (.int .i64 u50.2.2.1), (.int .u64 u50.2.2.2)]]) rfl hB62 hE68 hM69
 have hS71 : Sep (wE w0).heap.size w67 [R.blk b0 131 [v0_0, (.int .i64 u66.2.2.1), (.int .u64 u66.2.2.2)], R.blk b56 53 [v25, (.slice none 0 0), (.int .i64 u38.1), (.int .i64 u50.1)], R.own ty_3 F45 v44 [8, 12, 24, 24], R.own ty_3 F33 v32 [0, 1, 8, 8, 16], R.own ty_63 F26 v25 [u15.1], R.blk b2 53 [(.slice none 0 0), (.slice none 0 0), (.int .i64 0), (.int .i64 0)], R.rest w0 (fps [R.blk b0 131 [v0_0, (.int .i64 x0.2.1), (.int .u64 x0.2.2)]])] := hS63.take [1] [0, 2, 3, 4, 5, 6] rfl (M := [R.blk b0 131 [v0_0, (.int .i64 u50.2.2.1), (.int .u64 u50.2.2.2)]]) rfl hM69 hB62.size
 refine wl_add rfl rfl rfl (wl_assign rfl rfl (WL.nil (fun a ha => hK65 _ _ (W.seq fun K72 hK72 => ?_) a ha)))
 obtain ⟨k79, hk79, hF⟩ := jE3 hF
 have hJ80 : ∀ (y76 : Int) (y77 : Int) (y78 : Int) (w73 : World) (_ : k79 y76 y77 y78 = some r) (_ : Below (wE w0).heap.size (wE w0) w73) (_ : Sep (wE w0).heap.size w73 [R.rest w0 (fps [R.blk b0 131 [v0_0, (.int .i64 x0.2.1), (.int .u64 x0.2.2)]]), R.blk b0 131 [v0_0, (.int .i64 y76), (.int .u64 y77)], R.blk b2 53 [(.slice none 0 0), (.slice none 0 0), (.int .i64 0), (.int .i64 0)], R.own ty_63 F26 v25 [u15.1], R.blk b56 53 [v25, (.slice none 0 0), (.int .i64 u38.1), (.int .i64 u50.1)]]), ∀ a, St 139 [(0, (.pointer (some ⟨b0, 0, none⟩))), (2, (.pointer (some ⟨b2, 0, none⟩))), (3, (.int .i64 (w64 (1 + u8.1)))), (4, (.pointer (some ⟨b56, 0, none⟩))), (5, (.int .i64 y78))] a → K72 a w73 := by
  intro y76 y77 y78 w73 hF hB74 hS75
  subst hk79
  refine fun a ha => hK72 _ _ (W.seq fun K81 hK81 => (W.block (W.loopk (fun m a w82 => ∃ (y85 : Int) (y86 : Int) (l87 : (List (List (Int × Int)))) (l90 : (List Int)) (v88 : Value) (F89 : List Nat) (v91 : Value) (F92 : List Nat), St 139 [(0, (.pointer (some ⟨b0, 0, none⟩))), (2, (.pointer (some ⟨b2, 0, none⟩))), (3, (.int .i64 (w64 (1 + u8.1)))), (4, (.pointer (some ⟨b56, 0, none⟩))), (5, (.int .i64 y78))] a ∧ Below (wE w0).heap.size (wE w0) w82 ∧ Sep (wE w0).heap.size w82 [R.rest w0 (fps [R.blk b0 131 [v0_0, (.int .i64 x0.2.1), (.int .u64 x0.2.2)]]), R.blk b0 131 [v0_0, (.int .i64 y85), (.int .u64 y86)], R.blk b2 53 [(.slice none 0 0), (.slice none 0 0), (.int .i64 0), (.int .i64 0)], R.own ty_63 F89 v88 l87, R.own ty_3 F92 v91 l90, R.blk b56 53 [v88, v91, (.int .i64 u38.1), (.int .i64 u50.1)]] ∧ F_spec_l1Cur__show__mut__box_L1 y78 x0 u8 u50 u38 m y85 y86 l87 l90 = some r) FU ?_ ?_))) a ha
  ·
   have hS94 := hS75.push0 (r := R.own ty_3 [] (.slice none 0 0) []) rfl fun _ => .inl ⟨rfl, rfl, rfl⟩
   exact fun a ha => ⟨y76, y77, [u15.1], [], v25, F26, (.slice none 0 0), [], ha.sub ⟨rfl, rfl, rfl, rfl, rfl, trivial⟩, hB74, (hS94.sel [1, 2, 3, 4, 0, 5] rfl), hF⟩
  ·
   rintro m96 a w82 ⟨y85, y86, l87, l90, v88, F89, v91, F92, ha, hB83, hS84, hF⟩ KL95 hKL95
   refine W.at ?_ ha
   cases m96 with
   | zero => exact noneE hF
   | succ m96 =>
    obtain ⟨nx93, hnx93⟩ : ∃ k, k = F_spec_l1Cur__show__mut__box_L1 y78 x0 u8 u50 u38 m96 := ⟨_, rfl⟩
    rw [F_spec_l1Cur__show__mut__box_L1, ← hnx93] at hF
    refine W.seq fun K97 hK97 => W.seq fun K98 hK98 => W.region (wl_field (o := 0) (off' := 0) ff_53_0 rfl rfl rfl (wl_load_blk (i := 5) (vs := [v88]) (v := v88) tf_51 rfl rfl hS84 rfl rfl rfl (wl_lenr (e := ty_63) (l := l87) Try.underlying51 rfl rfl (hS84.own_ro (i := 3) rfl) (wl_move rfl rfl (wl_lss rfl rfl rfl (WL.nil (fun a ha => hK98 _ _ (W.cond rfl (fun h99 => ?_) (fun h99 => ?_)) a ha)))))))
    ·replace hF := ifP h99 hF
     refine W.skip fun a ha => hK97 _ _ (W.block (W.seq fun K100 hK100 => (W.region (wl_field (o := 0) (off' := 0) ff_53_0 rfl rfl rfl (wl_load_blk (i := 5) (vs := [v88]) (v := v88) tf_51 rfl rfl hS84 rfl rfl rfl (wl_field (o := 0) (off' := 0) ff_53_0 rfl rfl rfl (wl_load_blk (i := 5) (vs := [v88]) (v := v88) tf_51 rfl rfl hS84 rfl rfl rfl (wl_lenr (e := ty_63) (l := l87) Try.underlying51 rfl rfl (hS84.own_ro (i := 3) rfl) (wl_sub rfl rfl rfl ?_))))))))) a ha
     obtain ⟨u101, hu101, hF⟩ := bindE hF
     refine wl_indexoF (e := ty_63) (i := 3) Try.underlying51 rfl rfl rfl hS84 rfl hu101 ?_
     rintro p102 _ ⟨v104, rfl, hv105⟩ hp103 ho106
     refine wl_load_p (vs := [v104]) (v := v104) tf_63 rfl rfl hp103 rfl rfl (wl_assign rfl rfl (WL.nil (fun a ha => hK100 _ _ (W.seq fun K107 hK107 => (W.region (wl_move rfl rfl (wl_move rfl rfl ?_)))) a ha)))
     obtain ⟨u108, hu108, hF⟩ := bindE hF
     refine wl_call rfl Try.call166 (C_spec_l1Cur__chartOf__mut__box w82 (x0.1, y85, y86) b0 v0_0 (h0_0.rsto (hS84.sel [0, 1] rfl)) (w64 (1 + u8.1)) (hS84.sel [1] rfl).base0 _ hu108) rfl ?_
     rintro _ w109 ⟨v114, F115, rfl, hE110, hM111⟩
     refine ⟨_, rfl, ?_⟩
     have hB112 := hS84.takeB [1] rfl (M := [R.blk b0 131 [v0_0, (.int .i64 y85), (.int .u64 y86)]]) rfl hB83 hE110 hM111
     have hS113 : Sep (wE w0).heap.size w109 [R.blk b0 131 [v0_0, (.int .i64 u108.2.2.1), (.int .u64 u108.2.2.2)], R.own ty_68 F115 v114 u108.1, R.rest w0 (fps [R.blk b0 131 [v0_0, (.int .i64 x0.2.1), (.int .u64 x0.2.2)]]), R.blk b2 53 [(.slice none 0 0), (.slice none 0 0), (.int .i64 0), (.int .i64 0)], R.own ty_63 F89 v88 l87, R.own ty_3 F92 v91 l90, R.blk b56 53 [v88, v91, (.int .i64 u38.1), (.int .i64 u50.1)]] := hS84.take [1] [0, 2, 3, 4, 5] rfl (M := [R.blk b0 131 [v0_0, (.int .i64 y85), (.int .u64 y86)]]) rfl hM111 hB83.size
     have hp103 := hp103.keepS (fun b hb => mut_kept hM111 b (((hS84.get (i := 3) rfl).2.1 b hb).2) (nf_cons (hS84.disj (i := 3) (j := 1) rfl rfl rfl b hb) nf_nil)) (fun _ h => h)
     have hv105 := hv105.keep (fun b hb => mut_kept hM111 b (((hS84.get (i := 3) rfl).2.1 b hb).2) (nf_cons (hS84.disj (i := 3) (j := 1) rfl rfl rfl b hb) nf_nil))
     refine wl_assign rfl rfl (WL.nil (fun a ha => hK107 _ _ (W.seq fun K116 hK116 => ?_) a ha))
     obtain ⟨k125, hk125, hF⟩ := jE3 hF
     have hJ126 : ∀ (y120 : Int) (y121 : Int) (l122 : (List (Int × Int))) (v123 : Value) (F124 : List Nat) (w117 : World) (_ : k125 y120 y121 l122 = some r) (_ : Below (wE w0).heap.size (wE w0) w117) (_ : Sep (wE w0).heap.size w117 [R.rest w0 (fps [R.blk b0 131 [v0_0, (.int .i64 x0.2.1), (.int .u64 x0.2.2)]]), R.blk b0 131 [v0_0, (.int .i64 y120), (.int .u64 y121)], R.blk b2 53 [(.slice none 0 0), (.slice none 0 0), (.int .i64 0), (.int .i64 0)], R.own ty_63 F89 v88 l87, R.own ty_3 F92 v91 l90, R.blk b56 53 [v88, v91, (.int .i64 u38.1), (.int .i64 u50.1)], R.own ty_68 F124 v123 l122]), ∀ a, St 139 [(0, (.pointer (some ⟨b0, 0, none⟩))), (2, (.pointer (some ⟨b2, 0, none⟩))), (3, (.int .i64 (w64 (1 + u8.1)))), (4, (.pointer (some ⟨b56, 0, none⟩))), (5, (.int .i64 y78)), (7, v123)] a → K116 a w117 := by
      intro y120 y121 l122 v123 F124 w117 hF hB118 hS119
      subst hk125
      refine fun a ha => hK116 _ _ (W.seq fun K127 hK127 => (W.region (wl_field (o := 0) (off' := 0) ff_53_0 rfl rfl rfl (wl_load_blk (i := 5) (vs := [v88]) (v := v88) tf_51 rfl rfl hS119 rfl rfl rfl (wl_move rfl rfl ?_))))) a ha
      have hq128 := hS119.sel [6, 0, 1, 2, 3, 4, 5] rfl
      have hq129 := hq128.head (r' := R.cel ty_63 F124 [v123] l122) (rfl) fun _ h0 => ⟨_, rfl, h0⟩
      refine wl_lit1 (e := ty_63) (vs := [v123]) Try.underlying51 rfl rfl (cells_one (hS119.own_ro (i := 6) rfl).one) rfl hB118 hq129 ?_
      intro v130 F131 w132 hb133 hf134 hB135 hS136
      obtain ⟨u137, hu137, hF⟩ := bindE hF
      refine wl_appendn (e := ty_63) Try.underlying51 rfl rfl rfl hB135 (hS136.sel [4, 0, 1, 2, 3, 5, 6] rfl) hu137 ?_
      intro v138 F139 w140 hk141 hB142 hS143
      refine wl_field (o := 0) (off' := 0) ff_53_0 rfl rfl rfl (wl_store_blk (i := 5) (vs := [v138]) (cs' := [v138, v91, (.int .i64 u38.1), (.int .i64 u50.1)]) tf_51 rfl rfl (cells_one (hS143.own_ro (i := 0) rfl).one) rfl hB142 hS143 rfl rfl ⟨(hS143.own_ro (i := 0) rfl).one, trivial⟩ rfl ?_)
      intro w144 hk147 hB145 hS146
      refine WL.nil fun a ha => hK127 _ _ (W.regionH mixed_ (([b0] ++ F92) ++ [b56]) hB145 hS146 ?_) a ha
      intro w148 hb149 hB150 hS151
      have hSW152 := KeepX.refl w148 (([b0] ++ F92) ++ [b56])
      refine WH.tk 0 rfl hP hSW152 (pr_field (o := 1) (off' := 1) ff_53_1 rfl rfl rfl (WH.tk 2 rfl hP hSW152 (pr_move rfl rfl (WH.many (is := [1, 3]) (by kernel_rfl) rfl (List.forall_mem_cons.2 ⟨⟨_, rfl, ?_⟩, List.forall_mem_cons.2 ⟨⟨_, rfl, ?_⟩, fun _ h => by cases h⟩⟩)))))
      ·
       refine wl_load_blk (i := 5) (vs := [v91]) (v := v91) tf_29 rfl rfl hS151 rfl rfl rfl (WL.nil (WH.ret hSW152 (WH.on1 3 rfl (wl_lit (vs := [(.int .i64 1), (.int .i64 4), (.int .i64 8), (.int .i64 16), (.int .i64 64)]) (l := [1, 4, 8, 16, 64]) fl_3 Try.underlying29 rfl rfl rfl rfl rfl rfl (Below.self w148) (Sep.nil _ _) ?_))))
       intro v153 F154 w155 hb156 hB159 hM160
       have hB157 := hB150.trans (hb156.mono hB150.size)
       have hS158 := hS151.join hb156 hM160 hB150.size
       have hSW162 := hSW152.ext hb156
       refine WL.nil (WH.ret hSW162 (WH.on1 4 rfl ?_))
       obtain ⟨u164, hu164, hF⟩ := bindE hF
       refine wl_call rfl Try.call136 (C_spec_l1Cur__among__mut__box w155 (x0.1, y120, y121) b0 v0_0 (h0_0.rsto (hS158.sel [2, 3] rfl)) [1, 4, 8, 16, 64] v153 (own_out (hS158.sel [0, 3] rfl)) (hS158.sel [3] rfl).base0 _ hu164) rfl ?_
       rintro _ w165 ⟨rfl, hE166, hM167⟩
       refine ⟨_, rfl, ?_⟩
       have hB168 := hS158.takeB [3] rfl (M := [R.blk b0 131 [v0_0, (.int .i64 y120), (.int .u64 y121)]]) rfl hB157 hE166 hM167
       have hS169 : Sep (wE w0).heap.size w165 [R.blk b0 131 [v0_0, (.int .i64 u164.2.2.1), (.int .u64 u164.2.2.2)], R.own ty_3 F154 v153 [1, 4, 8, 16, 64], R.own ty_63 F139 v138 u137, R.rest w0 (fps [R.blk b0 131 [v0_0, (.int .i64 x0.2.1), (.int .u64 x0.2.2)]]), R.blk b2 53 [(.slice none 0 0), (.slice none 0 0), (.int .i64 0), (.int .i64 0)], R.own ty_3 F92 v91 l90, R.blk b56 53 [v138, v91, (.int .i64 u38.1), (.int .i64 u50.1)]] := hS158.take [3] [0, 1, 2, 4, 5, 6] rfl (M := [R.blk b0 131 [v0_0, (.int .i64 y120), (.int .u64 y121)]]) rfl hM167 hB157.size
       have hk170 := box_kept hM167
       have hSW171 := hSW162.wr' hk170.1 hk170.2.1 (fun _ _ h => List.mem_append_left _ (List.mem_append_left _ (h)))
       refine WL.nil (WH.ret hSW171 (WH.on1 5 rfl (wl_lit (vs := [(.int .i64 u164.1)]) (l := [u164.1]) fl_3 Try.underlying29 rfl rfl rfl rfl rfl rfl (Below.self w165) (Sep.nil _ _) ?_)))
       intro v173 F174 w175 hb176 hB179 hM180
       have hB177 := hB168.trans (hb176.mono hB168.size)
       have hS178 := hS169.join hb176 hM180 hB168.size
       have hSW182 := hSW171.ext hb176
       refine WL.nil (WH.ret hSW182 (WH.on1 6 rfl ?_))
       obtain ⟨u183, hu183, hF⟩ := bindE hF
       refine wl_append (i := 6) (S := (· < w175.heap.size)) fl_3 Try.underlying29 rfl rfl rfl hB177 hS178 rfl (hS178.own_ro (i := 0) rfl) hu183 ?_
       intro v184 F185 w186 hk187 hB188 hS189
       have hSW190 := hSW182.wr' hk187.1 hk187.2.1 (fun _ _ h => List.mem_append_left _ (List.mem_append_right _ h))
       refine WL.nil (WH.ret hSW190 (WH.tk 7 rfl hP hSW190 (pr_field (o := 1) (off' := 1) ff_53_1 rfl rfl rfl (WH.on1 8 rfl (wl_store_blk (i := 7) (vs := [v184]) (cs' := [v138, v184, (.int .i64 u38.1), (.int .i64 u50.1)]) tf_29 rfl rfl (cells_one (hS189.own_ro (i := 6) rfl).one) rfl hB188 hS189 rfl rfl ⟨(hS189.own_ro (i := 6) rfl).one, trivial⟩ rfl ?_)))))
       intro w192 hk195 hB193 hS194
       have hSW196 := hSW190.wr' hk195.1 hk195.2.1 (fun _ _ h => List.mem_append_right _ h)
       refine WL.nil (WH.ret hSW196 (WH.done (by kernel_rfl) ?_))
       rw [hnx93] at hF
       exact fun a ha => hKL95 a _ m96 (Nat.lt_succ_self m96) ⟨u164.2.2.1, u164.2.2.2, u137, u183, v138, F139, v184, F185, ha.sub ⟨rfl, rfl, rfl, rfl, rfl, trivial⟩, hB193, (hS194.sel [4, 1, 5, 3, 6, 7] rfl), hF⟩
      ·
       refine wl_lit (vs := [(.int .i64 1), (.int .i64 4), (.int .i64 8), (.int .i64 16), (.int .i64 64)]) (l := [1, 4, 8, 16, 64]) fl_3 Try.underlying29 rfl rfl rfl rfl rfl rfl (Below.self w148) (Sep.nil _ _) ?_
       intro v198 F199 w200 hb201 hB204 hM205
       have hB202 := hB150.trans (hb201.mono hB150.size)
       have hS203 := hS151.join hb201 hM205 hB150.size
       have hSW207 := hSW152.ext hb201
       refine WL.nil (WH.ret hSW207 (WH.many (is := [1, 4]) (by kernel_rfl) rfl (List.forall_mem_cons.2 ⟨⟨_, rfl, ?_⟩, List.forall_mem_cons.2 ⟨⟨_, rfl, ?_⟩, fun _ h => by cases h⟩⟩)))
       ·
        refine wl_load_blk (i := 6) (vs := [v91]) (v := v91) tf_29 rfl rfl hS203 rfl rfl rfl (WL.nil (WH.ret hSW207 (WH.on1 4 rfl ?_)))
        obtain ⟨u209, hu209, hF⟩ := bindE hF
        refine wl_call rfl Try.call136 (C_spec_l1Cur__among__mut__box w200 (x0.1, y120, y121) b0 v0_0 (h0_0.rsto (hS203.sel [2, 3] rfl)) [1, 4, 8, 16, 64] v198 (own_out (hS203.sel [0, 3] rfl)) (hS203.sel [3] rfl).base0 _ hu209) rfl ?_
        rintro _ w210 ⟨rfl, hE211, hM212⟩
        refine ⟨_, rfl, ?_⟩
        have hB213 := hS203.takeB [3] rfl (M := [R.blk b0 131 [v0_0, (.int .i64 y120), (.int .u64 y121)]]) rfl hB202 hE211 hM212
        have hS214 : Sep (wE w0).heap.size w210 [R.blk b0 131 [v0_0, (.int .i64 u209.2.2.1), (.int .u64 u209.2.2.2)], R.own ty_3 F199 v198 [1, 4, 8, 16, 64], R.own ty_63 F139 v138 u137, R.rest w0 (fps [R.blk b0 131 [v0_0, (.int .i64 x0.2.1), (.int .u64 x0.2.2)]]), R.blk b2 53 [(.slice none 0 0), (.slice none 0 0), (.int .i64 0), (.int .i64 0)], R.own ty_3 F92 v91 l90, R.blk b56 53 [v138, v91, (.int .i64 u38.1), (.int .i64 u50.1)]] := hS203.take [3] [0, 1, 2, 4, 5, 6] rfl (M := [R.blk b0 131 [v0_0, (.int .i64 y120), (.int .u64 y121)]]) rfl hM212 hB202.size
        have hk215 := box_kept hM212
        have hSW216 := hSW207.wr' hk215.1 hk215.2.1 (fun _ _ h => List.mem_append_left _ (List.mem_append_left _ (h)))
        refine WL.nil (WH.ret hSW216 (WH.on1 5 rfl (wl_lit (vs := [(.int .i64 u209.1)]) (l := [u209.1]) fl_3 Try.underlying29 rfl rfl rfl rfl rfl rfl (Below.self w210) (Sep.nil _ _) ?_)))
        intro v218 F219 w220 hb221 hB224 hM225
        have hB222 := hB213.trans (hb221.mono hB213.size)
        have hS223 := hS214.join hb221 hM225 hB213.size
        have hSW227 := hSW216.ext hb221
        refine WL.nil (WH.ret hSW227 (WH.on1 6 rfl ?_))
        obtain ⟨u228, hu228, hF⟩ := bindE hF
        refine wl_append (i := 6) (S := (· < w220.heap.size)) fl_3 Try.underlying29 rfl rfl rfl hB222 hS223 rfl (hS223.own_ro (i := 0) rfl) hu228 ?_
        intro v229 F230 w231 hk232 hB233 hS234
        have hSW235 := hSW227.wr' hk232.1 hk232.2.1 (fun _ _ h => List.mem_append_left _ (List.mem_append_right _ h))
        refine WL.nil (WH.ret hSW235 (WH.tk 7 rfl hP hSW235 (pr_field (o := 1) (off' := 1) ff_53_1 rfl rfl rfl (WH.on1 8 rfl (wl_store_blk (i := 7) (vs := [v229]) (cs' := [v138, v229, (.int .i64 u38.1), (.int .i64 u50.1)]) tf_29 rfl rfl (cells_one (hS234.own_ro (i := 6) rfl).one) rfl hB233 hS234 rfl rfl ⟨(hS234.own_ro (i := 6) rfl).one, trivial⟩ rfl ?_)))))
        intro w237 hk240 hB238 hS239
        have hSW241 := hSW235.wr' hk240.1 hk240.2.1 (fun _ _ h => List.mem_append_right _ h)
        refine WL.nil (WH.ret hSW241 (WH.done (by kernel_rfl) ?_))
        rw [hnx93] at hF
        exact fun a ha => hKL95 a _ m96 (Nat.lt_succ_self m96) ⟨u209.2.2.1, u209.2.2.2, u137, u228, v138, F139, v229, F230, ha.sub ⟨rfl, rfl, rfl, rfl, rfl, trivial⟩, hB238, (hS239.sel [4, 1, 5, 3, 6, 7] rfl), hF⟩
       ·
        obtain ⟨u243, hu243, hF⟩ := bindE hF
        refine wl_call rfl Try.call136 (C_spec_l1Cur__among__mut__box w200 (x0.1, y120, y121) b0 v0_0 (h0_0.rsto (hS203.sel [2, 3] rfl)) [1, 4, 8, 16, 64] v198 (own_out (hS203.sel [0, 3] rfl)) (hS203.sel [3] rfl).base0 _ hu243) rfl ?_
        rintro _ w244 ⟨rfl, hE245, hM246⟩
        refine ⟨_, rfl, ?_⟩
        have hB247 := hS203.takeB [3] rfl (M := [R.blk b0 131 [v0_0, (.int .i64 y120), (.int .u64 y121)]]) rfl hB202 hE245 hM246
        have hS248 : Sep (wE w0).heap.size w244 [R.blk b0 131 [v0_0, (.int .i64 u243.2.2.1), (.int .u64 u243.2.2.2)], R.own ty_3 F199 v198 [1, 4, 8, 16, 64], R.own ty_63 F139 v138 u137, R.rest w0 (fps [R.blk b0 131 [v0_0, (.int .i64 x0.2.1), (.int .u64 x0.2.2)]]), R.blk b2 53 [(.slice none 0 0), (.slice none 0 0), (.int .i64 0), (.int .i64 0)], R.own ty_3 F92 v91 l90, R.blk b56 53 [v138, v91, (.int .i64 u38.1), (.int .i64 u50.1)]] := hS203.take [3] [0, 1, 2, 4, 5, 6] rfl (M := [R.blk b0 131 [v0_0, (.int .i64 y120), (.int .u64 y121)]]) rfl hM246 hB202.size
        have hk249 := box_kept hM246
        have hSW250 := hSW207.wr' hk249.1 hk249.2.1 (fun _ _ h => List.mem_append_left _ (List.mem_append_left _ (h)))
        refine WL.nil (WH.ret hSW250 (WH.many (is := [1, 5]) (by kernel_rfl) rfl (List.forall_mem_cons.2 ⟨⟨_, rfl, ?_⟩, List.forall_mem_cons.2 ⟨⟨_, rfl, ?_⟩, fun _ h => by cases h⟩⟩)))
        ·
         refine wl_load_blk (i := 6) (vs := [v91]) (v := v91) tf_29 rfl rfl hS248 rfl rfl rfl (WL.nil (WH.ret hSW250 (WH.on1 5 rfl (wl_lit (vs := [(.int .i64 u243.1)]) (l := [u243.1]) fl_3 Try.underlying29 rfl rfl rfl rfl rfl rfl (Below.self w244) (Sep.nil _ _) ?_))))
         intro v252 F253 w254 hb255 hB258 hM259
         have hB256 := hB247.trans (hb255.mono hB247.size)
         have hS257 := hS248.join hb255 hM259 hB247.size
         have hSW261 := hSW250.ext hb255
         refine WL.nil (WH.ret hSW261 (WH.on1 6 rfl ?_))
         obtain ⟨u262, hu262, hF⟩ := bindE hF
         refine wl_append (i := 6) (S := (· < w254.heap.size)) fl_3 Try.underlying29 rfl rfl rfl hB256 hS257 rfl (hS257.own_ro (i := 0) rfl) hu262 ?_
         intro v263 F264 w265 hk266 hB267 hS268
         have hSW269 := hSW261.wr' hk266.1 hk266.2.1 (fun _ _ h => List.mem_append_left _ (List.mem_append_right _ h))
         refine WL.nil (WH.ret hSW269 (WH.tk 7 rfl hP hSW269 (pr_field (o := 1) (off' := 1) ff_53_1 rfl rfl rfl (WH.on1 8 rfl (wl_store_blk (i := 7) (vs := [v263]) (cs' := [v138, v263, (.int .i64 u38.1), (.int .i64 u50.1)]) tf_29 rfl rfl (cells_one (hS268.own_ro (i := 6) rfl).one) rfl hB267 hS268 rfl rfl ⟨(hS268.own_ro (i := 6) rfl).one, trivial⟩ rfl ?_)))))
         intro w271 hk274 hB272 hS273
         have hSW275 := hSW269.wr' hk274.1 hk274.2.1 (fun _ _ h => List.mem_append_right _ h)
         refine WL.nil (WH.ret hSW275 (WH.done (by kernel_rfl) ?_))
         rw [hnx93] at hF
         exact fun a ha => hKL95 a _ m96 (Nat.lt_succ_self m96) ⟨u243.2.2.1, u243.2.2.2, u137, u262, v138, F139, v263, F264, ha.sub ⟨rfl, rfl, rfl, rfl, rfl, trivial⟩, hB272, (hS273.sel [4, 1, 5, 3, 6, 7] rfl), hF⟩
        ·
         refine wl_lit (vs := [(.int .i64 u243.1)]) (l := [u243.1]) fl_3 Try.underlying29 rfl rfl rfl rfl rfl rfl (Below.self w244) (Sep.nil _ _) ?_
         intro v277 F278 w279 hb280 hB283 hM284
         have hB281 := hB247.trans (hb280.mono hB247.size)
         have hS282 := hS248.join hb280 hM284 hB247.size
         have hSW286 := hSW250.ext hb280
         refine WL.nil (WH.ret hSW286 (WH.on1 1 rfl (wl_load_blk (i := 7) (vs := [v91]) (v := v91) tf_29 rfl rfl hS282 rfl rfl rfl (WL.nil (WH.ret hSW286 (WH.on1 6 rfl ?_))))))
         obtain ⟨u287, hu287, hF⟩ := bindE hF
         refine wl_append (i := 6) (S := (· < w279.heap.size)) fl_3 Try.underlying29 rfl rfl rfl hB281 hS282 rfl (hS282.own_ro (i := 0) rfl) hu287 ?_
         intro v288 F289 w290 hk291 hB292 hS293
         have hSW294 := hSW286.wr' hk291.1 hk291.2.1 (fun _ _ h => List.mem_append_left _ (List.mem_append_right _ h))
         refine WL.nil (WH.ret hSW294 (WH.tk 7 rfl hP hSW294 (pr_field (o := 1) (off' := 1) ff_53_1 rfl rfl rfl (WH.on1 8 rfl (wl_store_blk (i := 7) (vs := [v288]) (cs' := [v138, v288, (.int .i64 u38.1), (.int .i64 u50.1)]) tf_29 rfl rfl (cells_one (hS293.own_ro (i := 6) rfl).one) rfl hB292 hS293 rfl rfl ⟨(hS293.own_ro (i := 6) rfl).one, trivial⟩ rfl ?_)))))
         intro w296 hk299 hB297 hS298
         have hSW300 := hSW294.wr' hk299.1 hk299.2.1 (fun _ _ h => List.mem_append_right _ h)
         refine WL.nil (WH.ret hSW300 (WH.done (by kernel_rfl) ?_))
         rw [hnx93] at hF
         exact fun a ha => hKL95 a _ m96 (Nat.lt_succ_self m96) ⟨u243.2.2.1, u243.2.2.2, u137, u287, v138, F139, v288, F289, ha.sub ⟨rfl, rfl, rfl, rfl, rfl, trivial⟩, hB297, (hS298.sel [4, 1, 5, 3, 6, 7] rfl), hF⟩
     refine W.seq fun K302 hK302 => W.region (wl_move rfl rfl ?_)
     obtain ⟨u303, hu303, hF⟩ := bindE hF
     refine wl_call rfl Try.call130 (C_spec_l1Cur__one__mut__box w109 (x0.1, u108.2.2.1, u108.2.2.2) b0 v0_0 (h0_0.rsto (hS113.sel [2, 0] rfl)) 3 (hS113.sel [0] rfl).base0 _ hu303) rfl ?_
     rintro _ w304 ⟨rfl, hE305, hM306⟩
     refine ⟨_, rfl, ?_⟩
     have hB307 := hS113.takeB [0] rfl (M := [R.blk b0 131 [v0_0, (.int .i64 u108.2.2.1), (.int .u64 u108.2.2.2)]]) rfl hB112 hE305 hM306
     have hS308 : Sep (wE w0).heap.size w304 [R.blk b0 131 [v0_0, (.int .i64 u303.2.2.1), (.int .u64 u303.2.2.2)], R.own ty_68 F115 v114 u108.1, R.rest w0 (fps [R.blk b0 131 [v0_0, (.int .i64 x0.2.1), (.int .u64 x0.2.2)]]), R.blk b2 53 [(.slice none 0 0), (.slice none 0 0), (.int .i64 0), (.int .i64 0)], R.own ty_63 F89 v88 l87, R.own ty_3 F92 v91 l90, R.blk b56 53 [v88, v91, (.int .i64 u38.1), (.int .i64 u50.1)]] := hS113.take [0] [1, 2, 3, 4, 5, 6] rfl (M := [R.blk b0 131 [v0_0, (.int .i64 u108.2.2.1), (.int .u64 u108.2.2.2)]]) rfl hM306 hB112.size
     have hp103 := hp103.keepS (fun b hb => mut_kept hM306 b (((hS113.get (i := 4) rfl).2.1 b hb).2) (nf_cons (hS113.disj (i := 4) (j := 0) rfl rfl rfl b hb) nf_nil)) (fun _ h => h)
     have hv105 := hv105.keep (fun b hb => mut_kept hM306 b (((hS113.get (i := 4) rfl).2.1 b hb).2) (nf_cons (hS113.disj (i := 4) (j := 0) rfl rfl rfl b hb) nf_nil))
     refine wl_not rfl rfl (WL.nil (fun a ha => hK302 _ _ (W.cond rfl (fun h309 => ?_) (fun h309 => ?_)) a ha))
     ·replace hF := ifP h309 hF
      refine W.seq fun K310 hK310 => W.region (wl_move rfl rfl ?_)
      obtain ⟨u311, hu311, hF⟩ := bindE hF
      refine wl_call rfl Try.call171 (C_spec_chOwn w304 u101 v104 (hv105.mono (fun b hb => ((hS308.get (i := 4) rfl).2.1 b hb).2)) _ hu311) rfl ?_
      rintro _ w314 ⟨v312, F313, rfl, hb315, hM318⟩
      refine ⟨_, rfl, ?_⟩
      have hB316 := hB307.trans (hb315.mono hB307.size)
      have hS317 := hS308.join hb315 hM318 hB307.size
      have hp103 := hp103.keepS (fun b hb => hb315.block b (((hS308.get (i := 4) rfl).2.1 b hb).2)) (fun _ h => h)
      have hv105 := hv105.keep (fun b hb => hb315.block b (((hS308.get (i := 4) rfl).2.1 b hb).2))
      refine wl_assign rfl rfl (WL.nil (fun a ha => hK310 _ _ (W.seq fun K319 hK319 => (W.seq fun K320 hK320 => (W.region (wl_move rfl rfl (wl_lenr (e := ty_68) (l := u311) Try.underlying63 rfl rfl (hS317.own_ro (i := 0) rfl) (wl_move rfl rfl (WL.nil (fun a ha => hK320 _ _ (W.block ?_) a ha)))))))) a ha))
      refine W.loopk (fun m a w321 => ∃ (y324 : Int) (y325 : Int) (l327 : (List (Int × Int))) (y330 : Int) (v328 : Value) (F329 : List Nat), St 139 [(0, (.pointer (some ⟨b0, 0, none⟩))), (2, (.pointer (some ⟨b2, 0, none⟩))), (3, (.int .i64 (w64 (1 + u8.1)))), (4, (.pointer (some ⟨b56, 0, none⟩))), (5, (.int .i64 y78)), (6, v104), (7, v328), (53, (.int .i64 (List.length u311 : Int))), (54, (.int .i64 y330))] a ∧ Below (wE w0).heap.size (wE w0) w321 ∧ Sep (wE w0).heap.size w321 [R.rest w0 (fps [R.blk b0 131 [v0_0, (.int .i64 x0.2.1), (.int .u64 x0.2.2)]]), R.blk b0 131 [v0_0, (.int .i64 y324), (.int .u64 y325)], R.blk b2 53 [(.slice none 0 0), (.slice none 0 0), (.int .i64 0), (.int .i64 0)], R.own ty_63 F89 v88 l87, R.own ty_3 F92 v91 l90, R.blk b56 53 [v88, v91, (.int .i64 u38.1), (.int .i64 u50.1)], R.own ty_68 F329 v328 l327] ∧ (rdS ty_68 (· ∈ F89) w321 v104 u101) ∧ F_spec_l1Cur__show__mut__box_L2 u311 x0 u101 k125 m y324 y325 l327 y330 = some r) FU ?_ ?_
      ·
       exact fun a ha => ⟨u303.2.2.1, u303.2.2.2, u311, 0, v312, F313, ha.sub ⟨rfl, rfl, rfl, rfl, rfl, rfl, rfl, rfl, rfl, trivial⟩, hB316, (hS317.sel [3, 1, 4, 5, 6, 7, 0] rfl), hv105, hF⟩
      ·
       rintro m333 a w321 ⟨y324, y325, l327, y330, v328, F329, ha, hB322, hS323, hr326, hF⟩ KL332 hKL332
       refine W.at ?_ ha
       cases m333 with
       | zero => exact noneE hF
       | succ m333 =>
        obtain ⟨nx331, hnx331⟩ : ∃ k, k = F_spec_l1Cur__show__mut__box_L2 u311 x0 u101 k125 m333 := ⟨_, rfl⟩
        rw [F_spec_l1Cur__show__mut__box_L2, ← hnx331] at hF
        refine W.seq fun K334 hK334 => W.region (wl_lss rfl rfl rfl (WL.nil (fun a ha => hK334 _ _ (W.seq fun K335 hK335 => (W.cond rfl (fun h336 => ?_) (fun h336 => ?_))) a ha)))
        ·replace hF := ifP h336 hF
         refine W.skip fun a ha => hK335 _ _ (W.seq fun K337 hK337 => ?_) a ha
         obtain ⟨k347, hk347, hF⟩ := jE3 hF
         have hJ348 : ∀ (y341 : Int) (y342 : Int) (l344 : (List (Int × Int))) (v345 : Value) (F346 : List Nat) (w338 : World) (hr343 : rdS ty_68 (· ∈ F89) w338 v104 u101) (_ : k347 y341 y342 l344 = some r) (_ : Below (wE w0).heap.size (wE w0) w338) (_ : Sep (wE w0).heap.size w338 [R.rest w0 (fps [R.blk b0 131 [v0_0, (.int .i64 x0.2.1), (.int .u64 x0.2.2)]]), R.blk b0 131 [v0_0, (.int .i64 y341), (.int .u64 y342)], R.blk b2 53 [(.slice none 0 0), (.slice none 0 0), (.int .i64 0), (.int .i64 0)], R.own ty_63 F89 v88 l87, R.own ty_3 F92 v91 l90, R.blk b56 53 [v88, v91, (.int .i64 u38.1), (.int .i64 u50.1)], R.own ty_68 F346 v345 l344]), ∀ a, St 139 [(0, (.pointer (some ⟨b0, 0, none⟩))), (2, (.pointer (some ⟨b2, 0, none⟩))), (3, (.int .i64 (w64 (1 + u8.1)))), (4, (.pointer (some ⟨b56, 0, none⟩))), (5, (.int .i64 y78)), (6, v104), (7, v345), (53, (.int .i64 (List.length u311 : Int))), (54, (.int .i64 y330))] a → K337 a w338 := by
          intro y341 y342 l344 v345 F346 w338 hr343 hF hB339 hS340
          subst hk347
          refine fun a ha => hK337 _ _ (W.region (wl_add rfl rfl rfl (wl_move rfl rfl (WL.nil ?_)))) a ha
          rw [hnx331] at hF
          exact fun a ha => hKL332 a _ m333 (Nat.lt_succ_self m333) ⟨y341, y342, l344, (w64 (y330 + 1)), v345, F346, ha.sub ⟨rfl, rfl, rfl, rfl, rfl, rfl, rfl, rfl, rfl, trivial⟩, hB339, (hS340.sel [0, 1, 2, 3, 4, 5, 6] rfl), hr343, hF⟩
         refine W.block (W.seq fun K349 hK349 => (W.region (wl_move rfl rfl (wl_assign rfl rfl (WL.nil (fun a ha => hK349 _ _ (W.regionH mixed_ ([b0] ++ F329) hB322 hS323 ?_) a ha))))))
         intro w350 hb351 hB352 hS353
         have hr326 := hr326.keep (fun b hb => hb351.block b (((hS323.get (i := 3) rfl).2.1 b hb).2))
         have hSW354 := KeepX.refl w350 ([b0] ++ F329)
         refine WH.tk 0 rfl hP hSW354 (pr_move rfl rfl (WH.tk 1 rfl hP hSW354 (pr_move rfl rfl (WH.tk 2 rfl hP hSW354 (pr_move rfl rfl (WH.tk 3 rfl hP hSW354 (pr_move rfl rfl ?_)))))))
         obtain ⟨u355, hu355, hF⟩ := bindE hF
         refine WH.tk 4 rfl hP hSW354 (pr_indexoF (e := ty_68) (i := 6) Try.underlying63 rfl rfl rfl hS353 rfl hu355 ?_)
         rintro p356 _ rfl hp357 ho358
         refine WH.tk 5 rfl hP hSW354 (pr_fieldp (o := 0) ff_68_0 rfl rfl (WH.tk 7 rfl hP hSW354 (pr_move rfl rfl (WH.many (is := [6, 8]) (by kernel_rfl) rfl (List.forall_mem_cons.2 ⟨⟨_, rfl, ?_⟩, List.forall_mem_cons.2 ⟨⟨_, rfl, ?_⟩, fun _ h => by cases h⟩⟩)))))
         ·
          refine wl_load_p (vs := [(.int .i64 u355.1)]) (v := (.int .i64 u355.1)) tf_3 rfl rfl (hp357.add 0) rfl rfl (WL.nil (WH.ret hSW354 (WH.on1 8 rfl (wl_lit (vs := [(.int .i64 0), (.int .i64 8), (.int .i64 16), (.int .i64 40)]) (l := [0, 8, 16, 40]) fl_3 Try.underlying29 rfl rfl rfl rfl rfl rfl (Below.self w350) (Sep.nil _ _) ?_))))
          intro v359 F360 w361 hb362 hB365 hM366
          have hB363 := hB352.trans (hb362.mono hB352.size)
          have hS364 := hS353.join hb362 hM366 hB352.size
          have hpv368 := hr326.keep (fun b hb => hb362.block b (((hS353.get (i := 3) rfl).2.1 b hb).2))
          have hSW370 := hSW354.ext hb362
          refine WL.nil (WH.ret hSW370 (WH.on1 9 rfl ?_))
          obtain ⟨u372, hu372, hF⟩ := bindE hF
          refine wl_call rfl Try.call136 (C_spec_l1Cur__among__mut__box w361 (x0.1, y324, y325) b0 v0_0 (h0_0.rsto (hS364.sel [1, 2] rfl)) [0, 8, 16, 40] v359 (own_out (hS364.sel [0, 2] rfl)) (hS364.sel [2] rfl).base0 _ hu372) rfl ?_
          rintro _ w373 ⟨rfl, hE374, hM375⟩
          refine ⟨_, rfl, ?_⟩
          have hB376 := hS364.takeB [2] rfl (M := [R.blk b0 131 [v0_0, (.int .i64 y324), (.int .u64 y325)]]) rfl hB363 hE374 hM375
          have hS377 : Sep (wE w0).heap.size w373 [R.blk b0 131 [v0_0, (.int .i64 u372.2.2.1), (.int .u64 u372.2.2.2)], R.own ty_3 F360 v359 [0, 8, 16, 40], R.rest w0 (fps [R.blk b0 131 [v0_0, (.int .i64 x0.2.1), (.int .u64 x0.2.2)]]), R.blk b2 53 [(.slice none 0 0), (.slice none 0 0), (.int .i64 0), (.int .i64 0)], R.own ty_63 F89 v88 l87, R.own ty_3 F92 v91 l90, R.blk b56 53 [v88, v91, (.int .i64 u38.1), (.int .i64 u50.1)], R.own ty_68 F329 v328 l327] := hS364.take [2] [0, 1, 3, 4, 5, 6, 7] rfl (M := [R.blk b0 131 [v0_0, (.int .i64 y324), (.int .u64 y325)]]) rfl hM375 hB363.size
          have hk378 := box_kept hM375
          have hpv379 := hpv368.keep (fun b hb => hk378.2.1 b (((hS364.get (i := 4) rfl).2.1 b hb).2) (hS364.disj (i := 4) (j := 2) rfl rfl rfl b hb))
          have hSW381 := hSW370.wr' hk378.1 hk378.2.1 (fun _ _ h => List.mem_append_left _ (h))
          refine WL.nil (WH.ret hSW381 (WH.tk 10 rfl hP hSW381 (pr_add rfl rfl rfl (WH.on1 11 rfl ?_))))
          obtain ⟨u383, hu383, hF⟩ := bindE hF
          refine wl_call rfl Try.call167 (C_spec_l1Least w373 1280 (w64 (u355.1 + u372.1)) _ hu383) rfl ?_
          rintro _ w384 ⟨rfl, hb385⟩
          refine ⟨_, rfl, ?_⟩
          have hB386 := hB376.trans (hb385.mono hB376.size)
          have hS387 := hS377.below hb385
          have hpv389 := hpv379.keep (fun b hb => hb385.block b (((hS377.get (i := 4) rfl).2.1 b hb).2))
          have hSW391 := hSW381.ext hb385
          refine WL.nil (WH.ret hSW391 (WH.on1 12 rfl ?_))
          obtain ⟨u392, hu392, hF⟩ := bindE hF
          refine wl_indexoF (e := ty_68) (i := 7) Try.underlying63 rfl rfl rfl hS387 rfl hu392 ?_
          rintro p393 _ rfl hp394 ho395
          refine WL.nil (WH.ret hSW391 (WH.tk 13 rfl hP hSW391 (pr_fieldp (o := 0) ff_68_0 rfl rfl (WH.on1 14 rfl (wl_storeo (i := 7) (o := 0) (vs := [(.int .i64 u383)]) (u' := (u383, u392.2)) fl_68 tf_3 rfl rfl rfl rfl ho395 hu392 hB386 hS387 rfl rfl ⟨rfl, trivial⟩ rfl ?_)))))
          intro w396 hk399 hB397 hS398
          have hpv400 := hpv389.keep (fun b hb => hk399.2.1 b (((hS387.get (i := 4) rfl).2.1 b hb).2) (hS387.disj (i := 4) (j := 7) rfl rfl rfl b hb))
          have hSW401 := hSW391.wr' hk399.1 hk399.2.1 (fun _ _ h => List.mem_append_right _ h)
          refine WL.nil (WH.ret hSW401 (WH.done (by kernel_rfl) ?_))
          have hr326 := hpv400
          exact fun a ha => hJ348 (u372.2.2.1) (u372.2.2.2) ((seti l327 y330 (u383, u392.2))) (v328) (F329) _ hr326 hF hB397 (hS398.sel [2, 0, 3, 4, 5, 6, 7] rfl) a (ha.sub ⟨rfl, rfl, rfl, rfl, rfl, rfl, rfl, rfl, rfl, trivial⟩)
         ·
          refine wl_lit (vs := [(.int .i64 0), (.int .i64 8), (.int .i64 16), (.int .i64 40)]) (l := [0, 8, 16, 40]) fl_3 Try.underlying29 rfl rfl rfl rfl rfl rfl (Below.self w350) (Sep.nil _ _) ?_
          intro v403 F404 w405 hb406 hB409 hM410
          have hB407 := hB352.trans (hb406.mono hB352.size)
          have hS408 := hS353.join hb406 hM410 hB352.size
          have hpv412 := hr326.keep (fun b hb => hb406.block b (((hS353.get (i := 3) rfl).2.1 b hb).2))
          have hpv413 := hp357.keepS (fun b hb => hb406.block b (((hS353.get (i := 6) rfl).2.1 b hb).2)) (fun _ h => h)
          have hSW414 := hSW354.ext hb406
          refine WL.nil (WH.ret hSW414 (WH.many (is := [6, 9]) (by kernel_rfl) rfl (List.forall_mem_cons.2 ⟨⟨_, rfl, ?_⟩, List.forall_mem_cons.2 ⟨⟨_, rfl, ?_⟩, fun _ h => by cases h⟩⟩)))
          ·
           refine wl_load_p (vs := [(.int .i64 u355.1)]) (v := (.int .i64 u355.1)) tf_3 rfl rfl (hpv413.add 0) rfl rfl (WL.nil (WH.ret hSW414 (WH.on1 9 rfl ?_)))
           obtain ⟨u416, hu416, hF⟩ := bindE hF
           refine wl_call rfl Try.call136 (C_spec_l1Cur__among__mut__box w405 (x0.1, y324, y325) b0 v0_0 (h0_0.rsto (hS408.sel [1, 2] rfl)) [0, 8, 16, 40] v403 (own_out (hS408.sel [0, 2] rfl)) (hS408.sel [2] rfl).base0 _ hu416) rfl ?_
           rintro _ w417 ⟨rfl, hE418, hM419⟩
           refine ⟨_, rfl, ?_⟩
           have hB420 := hS408.takeB [2] rfl (M := [R.blk b0 131 [v0_0, (.int .i64 y324), (.int .u64 y325)]]) rfl hB407 hE418 hM419
           have hS421 : Sep (wE w0).heap.size w417 [R.blk b0 131 [v0_0, (.int .i64 u416.2.2.1), (.int .u64 u416.2.2.2)], R.own ty_3 F404 v403 [0, 8, 16, 40], R.rest w0 (fps [R.blk b0 131 [v0_0, (.int .i64 x0.2.1), (.int .u64 x0.2.2)]]), R.blk b2 53 [(.slice none 0 0), (.slice none 0 0), (.int .i64 0), (.int .i64 0)], R.own ty_63 F89 v88 l87, R.own ty_3 F92 v91 l90, R.blk b56 53 [v88, v91, (.int .i64 u38.1), (.int .i64 u50.1)], R.own ty_68 F329 v328 l327] := hS408.take [2] [0, 1, 3, 4, 5, 6, 7] rfl (M := [R.blk b0 131 [v0_0, (.int .i64 y324), (.int .u64 y325)]]) rfl hM419 hB407.size
           have hk422 := box_kept hM419
           have hpv423 := hpv412.keep (fun b hb => hk422.2.1 b (((hS408.get (i := 4) rfl).2.1 b hb).2) (hS408.disj (i := 4) (j := 2) rfl rfl rfl b hb))
           have hSW425 := hSW414.wr' hk422.1 hk422.2.1 (fun _ _ h => List.mem_append_left _ (h))
           refine WL.nil (WH.ret hSW425 (WH.tk 10 rfl hP hSW425 (pr_add rfl rfl rfl (WH.on1 11 rfl ?_))))
           obtain ⟨u427, hu427, hF⟩ := bindE hF
           refine wl_call rfl Try.call167 (C_spec_l1Least w417 1280 (w64 (u355.1 + u416.1)) _ hu427) rfl ?_
           rintro _ w428 ⟨rfl, hb429⟩
           refine ⟨_, rfl, ?_⟩
           have hB430 := hB420.trans (hb429.mono hB420.size)
           have hS431 := hS421.below hb429
           have hpv433 := hpv423.keep (fun b hb => hb429.block b (((hS421.get (i := 4) rfl).2.1 b hb).2))
           have hSW435 := hSW425.ext hb429
           refine WL.nil (WH.ret hSW435 (WH.on1 12 rfl ?_))
           obtain ⟨u436, hu436, hF⟩ := bindE hF
           refine wl_indexoF (e := ty_68) (i := 7) Try.underlying63 rfl rfl rfl hS431 rfl hu436 ?_
           rintro p437 _ rfl hp438 ho439
           refine WL.nil (WH.ret hSW435 (WH.tk 13 rfl hP hSW435 (pr_fieldp (o := 0) ff_68_0 rfl rfl (WH.on1 14 rfl (wl_storeo (i := 7) (o := 0) (vs := [(.int .i64 u427)]) (u' := (u427, u436.2)) fl_68 tf_3 rfl rfl rfl rfl ho439 hu436 hB430 hS431 rfl rfl ⟨rfl, trivial⟩ rfl ?_)))))
           intro w440 hk443 hB441 hS442
           have hpv444 := hpv433.keep (fun b hb => hk443.2.1 b (((hS431.get (i := 4) rfl).2.1 b hb).2) (hS431.disj (i := 4) (j := 7) rfl rfl rfl b hb))
           have hSW445 := hSW435.wr' hk443.1 hk443.2.1 (fun _ _ h => List.mem_append_right _ h)
           refine WL.nil (WH.ret hSW445 (WH.done (by kernel_rfl) ?_))
           have hr326 := hpv444
           exact fun a ha => hJ348 (u416.2.2.1) (u416.2.2.2) ((seti l327 y330 (u427, u436.2))) (v328) (F329) _ hr326 hF hB441 (hS442.sel [2, 0, 3, 4, 5, 6, 7] rfl) a (ha.sub ⟨rfl, rfl, rfl, rfl, rfl, rfl, rfl, rfl, rfl, trivial⟩)
          ·
           obtain ⟨u447, hu447, hF⟩ := bindE hF
           refine wl_call rfl Try.call136 (C_spec_l1Cur__among__mut__box w405 (x0.1, y324, y325) b0 v0_0 (h0_0.rsto (hS408.sel [1, 2] rfl)) [0, 8, 16, 40] v403 (own_out (hS408.sel [0, 2] rfl)) (hS408.sel [2] rfl).base0 _ hu447) rfl ?_
           rintro _ w448 ⟨rfl, hE449, hM450⟩
           refine ⟨_, rfl, ?_⟩
           have hB451 := hS408.takeB [2] rfl (M := [R.blk b0 131 [v0_0, (.int .i64 y324), (.int .u64 y325)]]) rfl hB407 hE449 hM450
           have hS452 : Sep (wE w0).heap.size w448 [R.blk b0 131 [v0_0, (.int .i64 u447.2.2.1), (.int .u64 u447.2.2.2)], R.own ty_3 F404 v403 [0, 8, 16, 40], R.rest w0 (fps [R.blk b0 131 [v0_0, (.int .i64 x0.2.1), (.int .u64 x0.2.2)]]), R.blk b2 53 [(.slice none 0 0), (.slice none 0 0), (.int .i64 0), (.int .i64 0)], R.own ty_63 F89 v88 l87, R.own ty_3 F92 v91 l90, R.blk b56 53 [v88, v91, (.int .i64 u38.1), (.int .i64 u50.1)], R.own ty_68 F329 v328 l327] := hS408.take [2] [0, 1, 3, 4, 5, 6, 7] rfl (M := [R.blk b0 131 [v0_0, (.int .i64 y324), (.int .u64 y325)]]) rfl hM450 hB407.size
           have hk453 := box_kept hM450
           have hpv454 := hpv412.keep (fun b hb => hk453.2.1 b (((hS408.get (i := 4) rfl).2.1 b hb).2) (hS408.disj (i := 4) (j := 2) rfl rfl rfl b hb))
           have hpv455 := hpv413.keepS (fun b hb => hk453.2.1 b (((hS408.get (i := 7) rfl).2.1 b hb).2) (hS408.disj (i := 7) (j := 2) rfl rfl rfl b hb)) (fun _ h => h)
           have hSW456 := hSW414.wr' hk453.1 hk453.2.1 (fun _ _ h => List.mem_append_left _ (h))
           refine WL.nil (WH.ret hSW456 (WH.on1 6 rfl (wl_load_p (vs := [(.int .i64 u355.1)]) (v := (.int .i64 u355.1)) tf_3 rfl rfl (hpv455.add 0) rfl rfl (WL.nil (WH.ret hSW456 (WH.tk 10 rfl hP hSW456 (pr_add rfl rfl rfl (WH.on1 11 rfl ?_))))))))
           obtain ⟨u458, hu458, hF⟩ := bindE hF
           refine wl_call rfl Try.call167 (C_spec_l1Least w448 1280 (w64 (u355.1 + u447.1)) _ hu458) rfl ?_
           rintro _ w459 ⟨rfl, hb460⟩
           refine ⟨_, rfl, ?_⟩
           have hB461 := hB451.trans (hb460.mono hB451.size)
           have hS462 := hS452.below hb460
           have hpv464 := hpv454.keep (fun b hb => hb460.block b (((hS452.get (i := 4) rfl).2.1 b hb).2))
           have hSW466 := hSW456.ext hb460
           refine WL.nil (WH.ret hSW466 (WH.on1 12 rfl ?_))
           obtain ⟨u467, hu467, hF⟩ := bindE hF
           refine wl_indexoF (e := ty_68) (i := 7) Try.underlying63 rfl rfl rfl hS462 rfl hu467 ?_
           rintro p468 _ rfl hp469 ho470
           refine WL.nil (WH.ret hSW466 (WH.tk 13 rfl hP hSW466 (pr_fieldp (o := 0) ff_68_0 rfl rfl (WH.on1 14 rfl (wl_storeo (i := 7) (o := 0) (vs := [(.int .i64 u458)]) (u' := (u458, u467.2)) fl_68 tf_3 rfl rfl rfl rfl ho470 hu467 hB461 hS462 rfl rfl ⟨rfl, trivial⟩ rfl ?_)))))
           intro w471 hk474 hB472 hS473
           have hpv475 := hpv464.keep (fun b hb => hk474.2.1 b (((hS462.get (i := 4) rfl).2.1 b hb).2) (hS462.disj (i := 4) (j := 7) rfl rfl rfl b hb))
           have hSW476 := hSW466.wr' hk474.1 hk474.2.1 (fun _ _ h => List.mem_append_right _ h)
           refine WL.nil (WH.ret hSW476 (WH.done (by kernel_rfl) ?_))
           have hr326 := hpv475
           exact fun a ha => hJ348 (u447.2.2.1) (u447.2.2.2) ((seti l327 y330 (u458, u467.2))) (v328) (F329) _ hr326 hF hB472 (hS473.sel [2, 0, 3, 4, 5, 6, 7] rfl) a (ha.sub ⟨rfl, rfl, rfl, rfl, rfl, rfl, rfl, rfl, rfl, trivial⟩)
        ·replace hF := ifN h336 hF
         refine W.exit fun a ha => hK319 _ _ (W.seq fun K478 hK478 => (W.region (wl_move rfl rfl ?_))) a ha
         obtain ⟨u479, hu479, hF⟩ := bindE hF
         refine wl_call rfl Try.call226 (C_spec_chGood w321 l327 v328 (hS323.own_ro (i := 6) rfl) _ hu479) rfl ?_
         rintro _ w480 ⟨rfl, hb481⟩
         refine ⟨_, rfl, ?_⟩
         have hB482 := hB322.trans (hb481.mono hB322.size)
         have hS483 := hS323.below hb481
         have hr326 := hr326.keep (fun b hb => hb481.block b (((hS323.get (i := 3) rfl).2.1 b hb).2))
         refine wl_not rfl rfl (WL.nil (fun a ha => hK478 _ _ (W.cond rfl (fun h485 => ?_) (fun h485 => ?_)) a ha))
         ·replace hF := ifP h485 hF
          refine W.region (wl_move rfl rfl ?_)
          obtain ⟨u486, hu486, hF⟩ := bindE hF
          refine wl_call rfl Try.call171 (C_spec_chOwn w480 u101 v104 (hr326.mono (fun b hb => ((hS483.get (i := 3) rfl).2.1 b hb).2)) _ hu486) rfl ?_
          rintro _ w489 ⟨v487, F488, rfl, hb490, hM493⟩
          refine ⟨_, rfl, ?_⟩
          have hB491 := hB482.trans (hb490.mono hB482.size)
          have hS492 := hS483.join hb490 hM493 hB482.size
          have hr326 := hr326.keep (fun b hb => hb490.block b (((hS483.get (i := 3) rfl).2.1 b hb).2))
          refine wl_assign rfl rfl (WL.nil ?_)
          exact fun a ha => hJ126 (y324) (y325) (u486) (v487) (F488) _ hF hB491 (hS492.sel [1, 2, 3, 4, 5, 6, 0] rfl) a (ha.sub ⟨rfl, rfl, rfl, rfl, rfl, rfl, trivial⟩)
         ·replace hF := ifN h485 hF
          refine W.skip ?_
          exact fun a ha => hJ126 (y324) (y325) (l327) (v328) (F329) _ hF hB482 (hS483.sel [0, 1, 2, 3, 4, 5, 6] rfl) a (ha.sub ⟨rfl, rfl, rfl, rfl, rfl, rfl, trivial⟩)
     ·replace hF := ifN h309 hF
      refine W.skip ?_
      exact fun a ha => hJ126 (u303.2.2.1) (u303.2.2.2) (u108.1) (v114) (F115) _ hF hB307 (hS308.sel [2, 0, 3, 4, 5, 6, 1] rfl) a (ha.sub ⟨rfl, rfl, rfl, rfl, rfl, rfl, trivial⟩)
    ·replace hF := ifN h99 hF
     refine W.exit fun a ha => hK81 _ _ (W.seq fun K494 hK494 => ?_) a ha
     obtain ⟨k508, hk508, hF⟩ := jE6 hF
     have hJ509 : ∀ (y498 : Int) (y499 : Int) (l500 : (List (List (Int × Int)))) (l503 : (List Int)) (y506 : Int) (y507 : Int) (v501 : Value) (F502 : List Nat) (v504 : Value) (F505 : List Nat) (w495 : World) (_ : k508 y498 y499 l500 l503 y506 y507 = some r) (_ : Below (wE w0).heap.size (wE w0) w495) (_ : Sep (wE w0).heap.size w495 [R.rest w0 (fps [R.blk b0 131 [v0_0, (.int .i64 x0.2.1), (.int .u64 x0.2.2)]]), R.blk b0 131 [v0_0, (.int .i64 y498), (.int .u64 y499)], R.blk b2 53 [(.slice none 0 0), (.slice none 0 0), (.int .i64 0), (.int .i64 0)], R.own ty_63 F502 v501 l500, R.own ty_3 F505 v504 l503, R.blk b56 53 [v501, v504, (.int .i64 y506), (.int .i64 y507)]]), ∀ a, St 139 [(2, (.pointer (some ⟨b2, 0, none⟩))), (4, (.pointer (some ⟨b56, 0, none⟩)))] a → K494 a w495 := by
      intro y498 y499 l500 l503 y506 y507 v501 F502 v504 F505 w495 hF hB496 hS497
      subst hk508
      refine fun a ha => hK494 _ _ (W.seq fun K510 hK510 => (W.region (wl_load_blk (i := 5) (vs := [v501, v504, (.int .i64 y506), (.int .i64 y507)]) (v := (.agg #[v501, v504, (.int .i64 y506), (.int .i64 y507)])) tf_53 rfl rfl hS497 rfl rfl rfl (wl_store_blk (i := 2) (vs := [v501, v504, (.int .i64 y506), (.int .i64 y507)]) (cs' := [v501, v504, (.int .i64 y506), (.int .i64 y507)]) tf_53 rfl rfl rfl rfl hB496 hS497 rfl rfl ⟨(hS497.own_ro (i := 3) rfl).one, (hS497.own_ro (i := 4) rfl).one, rfl, rfl, trivial⟩ rfl ?_)))) a ha
      intro w511 hk514 hB512 hS513
      refine WL.nil fun a ha => hK510 _ _ (W.ret ?_) a ha
      have hr := Option.some.inj hF
      subst hr
      exact rets (vs := [(.agg #[v501, v504, (.int .i64 y506), (.int .i64 y507)])]) hQ rfl ⟨rv_cell (i := 2) tf_53 rfl hS513 rfl rfl rfl, trivial⟩ ⟨v501, F502, v504, F505, rfl, hB512, hS513.sel [0, 1, 3, 4] rfl⟩
     refine W.seq fun K515 hK515 => W.region (wl_move rfl rfl ?_)
     obtain ⟨u516, hu516, hF⟩ := bindE hF
     refine wl_call rfl Try.call132 (C_spec_l1Cur__pick__mut__box w82 (x0.1, y85, y86) b0 v0_0 (h0_0.rsto (hS84.sel [0, 1] rfl)) 36 (hS84.sel [1] rfl).base0 _ hu516) rfl ?_
     rintro _ w517 ⟨rfl, hE518, hM519⟩
     refine ⟨_, rfl, ?_⟩
     have hB520 := hS84.takeB [1] rfl (M := [R.blk b0 131 [v0_0, (.int .i64 y85), (.int .u64 y86)]]) rfl hB83 hE518 hM519
     have hS521 : Sep (wE w0).heap.size w517 [R.blk b0 131 [v0_0, (.int .i64 u516.2.2.1), (.int .u64 u516.2.2.2)], R.rest w0 (fps [R.blk b0 131 [v0_0, (.int .i64 x0.2.1), (.int .u64 x0.2.2)]]), R.blk b2 53 [(.slice none 0 0), (.slice none 0 0), (.int .i64 0), (.int .i64 0)], R.own ty_63 F89 v88 l87, R.own ty_3 F92 v91 l90, R.blk b56 53 [v88, v91, (.int .i64 u38.1), (.int .i64 u50.1)]] := hS84.take [1] [0, 2, 3, 4, 5] rfl (M := [R.blk b0 131 [v0_0, (.int .i64 y85), (.int .u64 y86)]]) rfl hM519 hB83.size
     refine WL.nil fun a ha => hK515 _ _ (W.block (W.seq fun K522 hK522 => (W.region (wl_eql rfl rfl rfl (wl_assign rfl rfl (WL.nil (fun a ha => hK522 _ _ (W.cond rfl (fun h523 => ?_) (fun h523 => ?_)) a ha))))))) a ha
     ·replace hF := ifP h523 hF
      refine W.region (wl_move rfl rfl (wl_lit (vs := [(.int .i64 (-1)), (.int .i64 80), (.int .i64 81)]) (l := [(-1), 80, 81]) fl_3 Try.underlying29 rfl rfl rfl rfl rfl rfl hB520 hS521 ?_))
      intro v524 F525 w526 hb527 hB528 hS529
      obtain ⟨u530, hu530, hF⟩ := bindE hF
      refine wl_call rfl Try.call136 (C_spec_l1Cur__among__mut__box w526 (x0.1, u516.2.2.1, u516.2.2.2) b0 v0_0 (h0_0.rsto (hS529.sel [2, 1] rfl)) [(-1), 80, 81] v524 (own_out (hS529.sel [0, 1] rfl)) (hS529.sel [1] rfl).base0 _ hu530) rfl ?_
      rintro _ w531 ⟨rfl, hE532, hM533⟩
      refine ⟨_, rfl, ?_⟩
      have hB534 := hS529.takeB [1] rfl (M := [R.blk b0 131 [v0_0, (.int .i64 u516.2.2.1), (.int .u64 u516.2.2.2)]]) rfl hB528 hE532 hM533
      have hS535 : Sep (wE w0).heap.size w531 [R.blk b0 131 [v0_0, (.int .i64 u530.2.2.1), (.int .u64 u530.2.2.2)], R.own ty_3 F525 v524 [(-1), 80, 81], R.rest w0 (fps [R.blk b0 131 [v0_0, (.int .i64 x0.2.1), (.int .u64 x0.2.2)]]), R.blk b2 53 [(.slice none 0 0), (.slice none 0 0), (.int .i64 0), (.int .i64 0)], R.own ty_63 F89 v88 l87, R.own ty_3 F92 v91 l90, R.blk b56 53 [v88, v91, (.int .i64 u38.1), (.int .i64 u50.1)]] := hS529.take [1] [0, 2, 3, 4, 5, 6] rfl (M := [R.blk b0 131 [v0_0, (.int .i64 u516.2.2.1), (.int .u64 u516.2.2.2)]]) rfl hM533 hB528.size
      refine wl_field (o := 2) (off' := 2) ff_53_2 rfl rfl rfl (wl_store_blk (i := 6) (vs := [(.int .i64 u530.1)]) (cs' := [v88, v91, (.int .i64 u530.1), (.int .i64 u50.1)]) tf_3 rfl rfl rfl rfl hB534 hS535 rfl rfl ⟨rfl, trivial⟩ rfl ?_)
      intro w536 hk539 hB537 hS538
      refine WL.nil ?_
      exact fun a ha => hJ509 (u530.2.2.1) (u530.2.2.2) (l87) (l90) (u530.1) (u50.1) (v88) (F89) (v91) (F92) _ hF hB537 (hS538.sel [2, 0, 3, 4, 5, 6] rfl) a (ha.sub ⟨rfl, rfl, trivial⟩)
     ·replace hF := ifN h523 hF
      refine W.seq fun K540 hK540 => W.region (wl_eql rfl rfl rfl (wl_assign rfl rfl (WL.nil (fun a ha => hK540 _ _ (W.cond rfl (fun h541 => ?_) (fun h541 => ?_)) a ha))))
      ·replace hF := ifP h541 hF
       refine W.region (wl_move rfl rfl (wl_lit (vs := [(.int .i64 0), (.int .i64 1), (.int .i64 25)]) (l := [0, 1, 25]) fl_3 Try.underlying29 rfl rfl rfl rfl rfl rfl hB520 hS521 ?_))
       intro v542 F543 w544 hb545 hB546 hS547
       obtain ⟨u548, hu548, hF⟩ := bindE hF
       refine wl_call rfl Try.call136 (C_spec_l1Cur__among__mut__box w544 (x0.1, u516.2.2.1, u516.2.2.2) b0 v0_0 (h0_0.rsto (hS547.sel [2, 1] rfl)) [0, 1, 25] v542 (own_out (hS547.sel [0, 1] rfl)) (hS547.sel [1] rfl).base0 _ hu548) rfl ?_
       rintro _ w549 ⟨rfl, hE550, hM551⟩
       refine ⟨_, rfl, ?_⟩
       have hB552 := hS547.takeB [1] rfl (M := [R.blk b0 131 [v0_0, (.int .i64 u516.2.2.1), (.int .u64 u516.2.2.2)]]) rfl hB546 hE550 hM551
       have hS553 : Sep (wE w0).heap.size w549 [R.blk b0 131 [v0_0, (.int .i64 u548.2.2.1), (.int .u64 u548.2.2.2)], R.own ty_3 F543 v542 [0, 1, 25], R.rest w0 (fps [R.blk b0 131 [v0_0, (.int .i64 x0.2.1), (.int .u64 x0.2.2)]]), R.blk b2 53 [(.slice none 0 0), (.slice none 0 0), (.int .i64 0), (.int .i64 0)], R.own ty_63 F89 v88 l87, R.own ty_3 F92 v91 l90, R.blk b56 53 [v88, v91, (.int .i64 u38.1), (.int .i64 u50.1)]] := hS547.take [1] [0, 2, 3, 4, 5, 6] rfl (M := [R.blk b0 131 [v0_0, (.int .i64 u516.2.2.1), (.int .u64 u516.2.2.2)]]) rfl hM551 hB546.size
       refine wl_field (o := 3) (off' := 3) ff_53_3 rfl rfl rfl (wl_store_blk (i := 6) (vs := [(.int .i64 u548.1)]) (cs' := [v88, v91, (.int .i64 u38.1), (.int .i64 u548.1)]) tf_3 rfl rfl rfl rfl hB552 hS553 rfl rfl ⟨rfl, trivial⟩ rfl ?_)
       intro w554 hk557 hB555 hS556
       refine WL.nil ?_
       exact fun a ha => hJ509 (u548.2.2.1) (u548.2.2.2) (l87) (l90) (u38.1) (u548.1) (v88) (F89) (v91) (F92) _ hF hB555 (hS556.sel [2, 0, 3, 4, 5, 6] rfl) a (ha.sub ⟨rfl, rfl, trivial⟩)
      ·replace hF := ifN h541 hF
       refine W.seq fun K558 hK558 => W.region (wl_eql rfl rfl rfl (wl_assign rfl rfl (WL.nil (fun a ha => hK558 _ _ (W.cond rfl (fun h559 => ?_) (fun h559 => ?_)) a ha))))
       ·replace hF := ifP h559 hF
        refine W.regionH mixed_ (([b0] ++ F92) ++ [b56]) hB520 hS521 ?_
        intro w560 hb561 hB562 hS563
        have hSW564 := KeepX.refl w560 (([b0] ++ F92) ++ [b56])
        refine WH.tk 0 rfl hP hSW564 (pr_field (o := 1) (off' := 1) ff_53_1 rfl rfl rfl (WH.tk 2 rfl hP hSW564 (pr_move rfl rfl (WH.many (is := [1, 3]) (by kernel_rfl) rfl (List.forall_mem_cons.2 ⟨⟨_, rfl, ?_⟩, List.forall_mem_cons.2 ⟨⟨_, rfl, ?_⟩, fun _ h => by cases h⟩⟩)))))
        ·
         refine wl_load_blk (i := 5) (vs := [v91]) (v := v91) tf_29 rfl rfl hS563 rfl rfl rfl (WL.nil (WH.ret hSW564 (WH.on1 3 rfl (wl_lit (vs := [(.int .i64 0), (.int .i64 64), (.int .i64 65)]) (l := [0, 64, 65]) fl_3 Try.underlying29 rfl rfl rfl rfl rfl rfl (Below.self w560) (Sep.nil _ _) ?_))))
         intro v565 F566 w567 hb568 hB571 hM572
         have hB569 := hB562.trans (hb568.mono hB562.size)
         have hS570 := hS563.join hb568 hM572 hB562.size
         have hSW574 := hSW564.ext hb568
         refine WL.nil (WH.ret hSW574 (WH.on1 4 rfl ?_))
         obtain ⟨u576, hu576, hF⟩ := bindE hF
         refine wl_call rfl Try.call136 (C_spec_l1Cur__among__mut__box w567 (x0.1, u516.2.2.1, u516.2.2.2) b0 v0_0 (h0_0.rsto (hS570.sel [2, 1] rfl)) [0, 64, 65] v565 (own_out (hS570.sel [0, 1] rfl)) (hS570.sel [1] rfl).base0 _ hu576) rfl ?_
         rintro _ w577 ⟨rfl, hE578, hM579⟩
         refine ⟨_, rfl, ?_⟩
         have hB580 := hS570.takeB [1] rfl (M := [R.blk b0 131 [v0_0, (.int .i64 u516.2.2.1), (.int .u64 u516.2.2.2)]]) rfl hB569 hE578 hM579
         have hS581 : Sep (wE w0).heap.size w577 [R.blk b0 131 [v0_0, (.int .i64 u576.2.2.1), (.int .u64 u576.2.2.2)], R.own ty_3 F566 v565 [0, 64, 65], R.rest w0 (fps [R.blk b0 131 [v0_0, (.int .i64 x0.2.1), (.int .u64 x0.2.2)]]), R.blk b2 53 [(.slice none 0 0), (.slice none 0 0), (.int .i64 0), (.int .i64 0)], R.own ty_63 F89 v88 l87, R.own ty_3 F92 v91 l90, R.blk b56 53 [v88, v91, (.int .i64 u38.1), (.int .i64 u50.1)]] := hS570.take [1] [0, 2, 3, 4, 5, 6] rfl (M := [R.blk b0 131 [v0_0, (.int .i64 u516.2.2.1), (.int .u64 u516.2.2.2)]]) rfl hM579 hB569.size
         have hk582 := box_kept hM579
         have hSW583 := hSW574.wr' hk582.1 hk582.2.1 (fun _ _ h => List.mem_append_left _ (List.mem_append_left _ (h)))
         refine WL.nil (WH.ret hSW583 (WH.on1 5 rfl ?_))
         obtain ⟨u585, hu585, hF⟩ := bindE hF
         refine wl_indexoF (e := ty_3) (i := 5) Try.underlying29 rfl rfl rfl hS581 rfl hu585 ?_
         rintro p586 _ rfl hp587 ho588
         refine WL.nil (WH.ret hSW583 (WH.on1 6 rfl (wl_storeo (i := 5) (o := 0) (vs := [(.int .i64 u576.1)]) (u' := u576.1) fl_3 tf_3 rfl rfl rfl rfl ho588 hu585 hB580 hS581 rfl rfl ⟨rfl, trivial⟩ rfl ?_)))
         intro w589 hk592 hB590 hS591
         have hSW593 := hSW583.wr' hk592.1 hk592.2.1 (fun _ _ h => List.mem_append_left _ (List.mem_append_right _ h))
         refine WL.nil (WH.ret hSW593 (WH.done (by kernel_rfl) ?_))
         exact fun a ha => hJ509 (u576.2.2.1) (u576.2.2.2) (l87) ((seti l90 0 u576.1)) (u38.1) (u50.1) (v88) (F89) (v91) (F92) _ hF hB590 (hS591.sel [2, 0, 3, 4, 5, 6] rfl) a (ha.sub ⟨rfl, rfl, trivial⟩)
        ·
         refine wl_lit (vs := [(.int .i64 0), (.int .i64 64), (.int .i64 65)]) (l := [0, 64, 65]) fl_3 Try.underlying29 rfl rfl rfl rfl rfl rfl (Below.self w560) (Sep.nil _ _) ?_
         intro v595 F596 w597 hb598 hB601 hM602
         have hB599 := hB562.trans (hb598.mono hB562.size)
         have hS600 := hS563.join hb598 hM602 hB562.size
         have hSW604 := hSW564.ext hb598
         refine WL.nil (WH.ret hSW604 (WH.many (is := [1, 4]) (by kernel_rfl) rfl (List.forall_mem_cons.2 ⟨⟨_, rfl, ?_⟩, List.forall_mem_cons.2 ⟨⟨_, rfl, ?_⟩, fun _ h => by cases h⟩⟩)))
         ·
          refine wl_load_blk (i := 6) (vs := [v91]) (v := v91) tf_29 rfl rfl hS600 rfl rfl rfl (WL.nil (WH.ret hSW604 (WH.on1 4 rfl ?_)))
          obtain ⟨u606, hu606, hF⟩ := bindE hF
          refine wl_call rfl Try.call136 (C_spec_l1Cur__among__mut__box w597 (x0.1, u516.2.2.1, u516.2.2.2) b0 v0_0 (h0_0.rsto (hS600.sel [2, 1] rfl)) [0, 64, 65] v595 (own_out (hS600.sel [0, 1] rfl)) (hS600.sel [1] rfl).base0 _ hu606) rfl ?_
          rintro _ w607 ⟨rfl, hE608, hM609⟩
          refine ⟨_, rfl, ?_⟩
          have hB610 := hS600.takeB [1] rfl (M := [R.blk b0 131 [v0_0, (.int .i64 u516.2.2.1), (.int .u64 u516.2.2.2)]]) rfl hB599 hE608 hM609
          have hS611 : Sep (wE w0).heap.size w607 [R.blk b0 131 [v0_0, (.int .i64 u606.2.2.1), (.int .u64 u606.2.2.2)], R.own ty_3 F596 v595 [0, 64, 65], R.rest w0 (fps [R.blk b0 131 [v0_0, (.int .i64 x0.2.1), (.int .u64 x0.2.2)]]), R.blk b2 53 [(.slice none 0 0), (.slice none 0 0), (.int .i64 0), (.int .i64 0)], R.own ty_63 F89 v88 l87, R.own ty_3 F92 v91 l90, R.blk b56 53 [v88, v91, (.int .i64 u38.1), (.int .i64 u50.1)]] := hS600.take [1] [0, 2, 3, 4, 5, 6] rfl (M := [R.blk b0 131 [v0_0, (.int .i64 u516.2.2.1), (.int .u64 u516.2.2.2)]]) rfl hM609 hB599.size
          have hk612 := box_kept hM609
          have hSW613 := hSW604.wr' hk612.1 hk612.2.1 (fun _ _ h => List.mem_append_left _ (List.mem_append_left _ (h)))
          refine WL.nil (WH.ret hSW613 (WH.on1 5 rfl ?_))
          obtain ⟨u615, hu615, hF⟩ := bindE hF
          refine wl_indexoF (e := ty_3) (i := 5) Try.underlying29 rfl rfl rfl hS611 rfl hu615 ?_
          rintro p616 _ rfl hp617 ho618
          refine WL.nil (WH.ret hSW613 (WH.on1 6 rfl (wl_storeo (i := 5) (o := 0) (vs := [(.int .i64 u606.1)]) (u' := u606.1) fl_3 tf_3 rfl rfl rfl rfl ho618 hu615 hB610 hS611 rfl rfl ⟨rfl, trivial⟩ rfl ?_)))
          intro w619 hk622 hB620 hS621
          have hSW623 := hSW613.wr' hk622.1 hk622.2.1 (fun _ _ h => List.mem_append_left _ (List.mem_append_right _ h))
          refine WL.nil (WH.ret hSW623 (WH.done (by kernel_rfl) ?_))
          exact fun a ha => hJ509 (u606.2.2.1) (u606.2.2.2) (l87) ((seti l90 0 u606.1)) (u38.1) (u50.1) (v88) (F89) (v91) (F92) _ hF hB620 (hS621.sel [2, 0, 3, 4, 5, 6] rfl) a (ha.sub ⟨rfl, rfl, trivial⟩)
         ·
          obtain ⟨u625, hu625, hF⟩ := bindE hF
          refine wl_call rfl Try.call136 (C_spec_l1Cur__among__mut__box w597 (x0.1, u516.2.2.1, u516.2.2.2) b0 v0_0 (h0_0.rsto (hS600.sel [2, 1] rfl)) [0, 64, 65] v595 (own_out (hS600.sel [0, 1] rfl)) (hS600.sel [1] rfl).base0 _ hu625) rfl ?_
          rintro _ w626 ⟨rfl, hE627, hM628⟩
          refine ⟨_, rfl, ?_⟩
          have hB629 := hS600.takeB [1] rfl (M := [R.blk b0 131 [v0_0, (.int .i64 u516.2.2.1), (.int .u64 u516.2.2.2)]]) rfl hB599 hE627 hM628
          have hS630 : Sep (wE w0).heap.size w626 [R.blk b0 131 [v0_0, (.int .i64 u625.2.2.1), (.int .u64 u625.2.2.2)], R.own ty_3 F596 v595 [0, 64, 65], R.rest w0 (fps [R.blk b0 131 [v0_0, (.int .i64 x0.2.1), (.int .u64 x0.2.2)]]), R.blk b2 53 [(.slice none 0 0), (.slice none 0 0), (.int .i64 0), (.int .i64 0)], R.own ty_63 F89 v88 l87, R.own ty_3 F92 v91 l90, R.blk b56 53 [v88, v91, (.int .i64 u38.1), (.int .i64 u50.1)]] := hS600.take [1] [0, 2, 3, 4, 5, 6] rfl (M := [R.blk b0 131 [v0_0, (.int .i64 u516.2.2.1), (.int .u64 u516.2.2.2)]]) rfl hM628 hB599.size
          have hk631 := box_kept hM628
          have hSW632 := hSW604.wr' hk631.1 hk631.2.1 (fun _ _ h => List.mem_append_left _ (List.mem_append_left _ (h)))
          refine WL.nil (WH.ret hSW632 (WH.on1 1 rfl (wl_load_blk (i := 6) (vs := [v91]) (v := v91) tf_29 rfl rfl hS630 rfl rfl rfl (WL.nil (WH.ret hSW632 (WH.on1 5 rfl ?_))))))
          obtain ⟨u634, hu634, hF⟩ := bindE hF
          refine wl_indexoF (e := ty_3) (i := 5) Try.underlying29 rfl rfl rfl hS630 rfl hu634 ?_
          rintro p635 _ rfl hp636 ho637
          refine WL.nil (WH.ret hSW632 (WH.on1 6 rfl (wl_storeo (i := 5) (o := 0) (vs := [(.int .i64 u625.1)]) (u' := u625.1) fl_3 tf_3 rfl rfl rfl rfl ho637 hu634 hB629 hS630 rfl rfl ⟨rfl, trivial⟩ rfl ?_)))
          intro w638 hk641 hB639 hS640
          have hSW642 := hSW632.wr' hk641.1 hk641.2.1 (fun _ _ h => List.mem_append_left _ (List.mem_append_right _ h))
          refine WL.nil (WH.ret hSW642 (WH.done (by kernel_rfl) ?_))
          exact fun a ha => hJ509 (u625.2.2.1) (u625.2.2.2) (l87) ((seti l90 0 u625.1)) (u38.1) (u50.1) (v88) (F89) (v91) (F92) _ hF hB639 (hS640.sel [2, 0, 3, 4, 5, 6] rfl) a (ha.sub ⟨rfl, rfl, trivial⟩)
       ·replace hF := ifN h559 hF
        refine W.seq fun K644 hK644 => W.region (wl_eql rfl rfl rfl (wl_assign rfl rfl (WL.nil (fun a ha => hK644 _ _ (W.cond rfl (fun h645 => ?_) (fun h645 => ?_)) a ha))))
        ·replace hF := ifP h645 hF
         refine W.regionH mixed_ (([b0] ++ F89) ++ [b56]) hB520 hS521 ?_
         intro w646 hb647 hB648 hS649
         have hSW650 := KeepX.refl w646 (([b0] ++ F89) ++ [b56])
         refine WH.tk 0 rfl hP hSW650 (pr_field (o := 0) (off' := 0) ff_53_0 rfl rfl rfl (WH.tk 2 rfl hP hSW650 (pr_field (o := 0) (off' := 0) ff_53_0 rfl rfl rfl (WH.tk 6 rfl hP hSW650 (pr_move rfl rfl (WH.many (is := [1, 3, 7]) (by kernel_rfl) rfl (List.forall_mem_cons.2 ⟨⟨_, rfl, ?_⟩, List.forall_mem_cons.2 ⟨⟨_, rfl, ?_⟩, List.forall_mem_cons.2 ⟨⟨_, rfl, ?_⟩, fun _ h => by cases h⟩⟩⟩)))))))
         ·
          refine wl_load_blk (i := 5) (vs := [v88]) (v := v88) tf_51 rfl rfl hS649 rfl rfl rfl (WL.nil (WH.ret hSW650 (WH.many (is := [3, 7]) (by kernel_rfl) rfl (List.forall_mem_cons.2 ⟨⟨_, rfl, ?_⟩, List.forall_mem_cons.2 ⟨⟨_, rfl, ?_⟩, fun _ h => by cases h⟩⟩))))
          ·
           refine wl_load_blk (i := 5) (vs := [v88]) (v := v88) tf_51 rfl rfl hS649 rfl rfl rfl (WL.nil (WH.ret hSW650 (WH.tk 4 rfl hP hSW650 (pr_lenr (e := ty_63) (l := l87) Try.underlying51 rfl rfl (hS649.own_ro (i := 3) rfl) (WH.tk 5 rfl hP hSW650 (pr_sub rfl rfl rfl (WH.on1 7 rfl ?_)))))))
           obtain ⟨u651, hu651, hF⟩ := bindE hF
           refine wl_call rfl Try.call231 (C_spec_l1Cur__anyChart__mut__box w646 (x0.1, u516.2.2.1, u516.2.2.2) b0 v0_0 (h0_0.rsto (hS649.sel [1, 0] rfl)) (hS649.sel [0] rfl).base0 _ hu651) rfl ?_
           rintro _ w652 ⟨v657, F658, rfl, hE653, hM654⟩
           refine ⟨_, rfl, ?_⟩
           have hB655 := hS649.takeB [0] rfl (M := [R.blk b0 131 [v0_0, (.int .i64 u516.2.2.1), (.int .u64 u516.2.2.2)]]) rfl hB648 hE653 hM654
           have hS656 : Sep (wE w0).heap.size w652 [R.blk b0 131 [v0_0, (.int .i64 u651.2.2.1), (.int .u64 u651.2.2.2)], R.own ty_68 F658 v657 u651.1, R.rest w0 (fps [R.blk b0 131 [v0_0, (.int .i64 x0.2.1), (.int .u64 x0.2.2)]]), R.blk b2 53 [(.slice none 0 0), (.slice none 0 0), (.int .i64 0), (.int .i64 0)], R.own ty_63 F89 v88 l87, R.own ty_3 F92 v91 l90, R.blk b56 53 [v88, v91, (.int .i64 u38.1), (.int .i64 u50.1)]] := hS649.take [0] [1, 2, 3, 4, 5] rfl (M := [R.blk b0 131 [v0_0, (.int .i64 u516.2.2.1), (.int .u64 u516.2.2.2)]]) rfl hM654 hB648.size
           have hk659 := box_kept hM654
           have hSW661 := hSW650.wr' hk659.1 hk659.2.1 (fun _ _ h => List.mem_append_left _ (List.mem_append_left _ (h)))
           refine WL.nil (WH.ret hSW661 (WH.on1 8 rfl ?_))
           obtain ⟨u663, hu663, hF⟩ := bindE hF
           refine wl_indexoF (e := ty_63) (i := 4) Try.underlying51 rfl rfl rfl hS656 rfl hu663 ?_
           rintro p664 _ ⟨v666, rfl, hv667⟩ hp665 ho668
           refine WL.nil (WH.ret hSW661 (WH.on1 9 rfl (wl_storenk (vs := [v657]) (u' := u651.1) tf_63 rfl rfl (cells_one (hS656.own_ro (i := 1) rfl).one) rfl ho668 hu663 hB655 (((hS656.sel [1, 4, 0, 2, 3, 5, 6] rfl).cel1 (e := ty_63) (fun _ _ _ _ h => ⟨_, rfl, h⟩)).sel [1, 0, 2, 3, 4, 5, 6] rfl) rfl ⟨(hS656.own_ro (i := 1) rfl).one, trivial⟩ ?_)))
           intro w669 F672 hk673 hB670 hS671
           have hSW674 := hSW661.wr' hk673.1 hk673.2.1 (fun _ _ h => List.mem_append_left _ (List.mem_append_right _ h))
           refine WL.nil (WH.ret hSW674 (WH.done (by kernel_rfl) ?_))
           exact fun a ha => hJ509 (u651.2.2.1) (u651.2.2.2) ((seti l87 (w64 ((List.length l87 : Int) - 1)) u651.1)) (l90) (u38.1) (u50.1) (v88) (F672) (v91) (F92) _ hF hB670 (hS671.sel [2, 1, 3, 0, 4, 5] rfl) a (ha.sub ⟨rfl, rfl, trivial⟩)
          ·
           obtain ⟨u676, hu676, hF⟩ := bindE hF
           refine wl_call rfl Try.call231 (C_spec_l1Cur__anyChart__mut__box w646 (x0.1, u516.2.2.1, u516.2.2.2) b0 v0_0 (h0_0.rsto (hS649.sel [1, 0] rfl)) (hS649.sel [0] rfl).base0 _ hu676) rfl ?_
           rintro _ w677 ⟨v682, F683, rfl, hE678, hM679⟩
           refine ⟨_, rfl, ?_⟩
           have hB680 := hS649.takeB [0] rfl (M := [R.blk b0 131 [v0_0, (.int .i64 u516.2.2.1), (.int .u64 u516.2.2.2)]]) rfl hB648 hE678 hM679
           have hS681 : Sep (wE w0).heap.size w677 [R.blk b0 131 [v0_0, (.int .i64 u676.2.2.1), (.int .u64 u676.2.2.2)], R.own ty_68 F683 v682 u676.1, R.rest w0 (fps [R.blk b0 131 [v0_0, (.int .i64 x0.2.1), (.int .u64 x0.2.2)]]), R.blk b2 53 [(.slice none 0 0), (.slice none 0 0), (.int .i64 0), (.int .i64 0)], R.own ty_63 F89 v88 l87, R.own ty_3 F92 v91 l90, R.blk b56 53 [v88, v91, (.int .i64 u38.1), (.int .i64 u50.1)]] := hS649.take [0] [1, 2, 3, 4, 5] rfl (M := [R.blk b0 131 [v0_0, (.int .i64 u516.2.2.1), (.int .u64 u516.2.2.2)]]) rfl hM679 hB648.size
           have hk684 := box_kept hM679
           have hSW686 := hSW650.wr' hk684.1 hk684.2.1 (fun _ _ h => List.mem_append_left _ (List.mem_append_left _ (h)))
           refine WL.nil (WH.ret hSW686 (WH.on1 3 rfl (wl_load_blk (i := 6) (vs := [v88]) (v := v88) tf_51 rfl rfl hS681 rfl rfl rfl (WL.nil (WH.ret hSW686 (WH.tk 4 rfl hP hSW686 (pr_lenr (e := ty_63) (l := l87) Try.underlying51 rfl rfl (hS681.own_ro (i := 4) rfl) (WH.tk 5 rfl hP hSW686 (pr_sub rfl rfl rfl (WH.on1 8 rfl ?_))))))))))
           obtain ⟨u688, hu688, hF⟩ := bindE hF
           refine wl_indexoF (e := ty_63) (i := 4) Try.underlying51 rfl rfl rfl hS681 rfl hu688 ?_
           rintro p689 _ ⟨v691, rfl, hv692⟩ hp690 ho693
           refine WL.nil (WH.ret hSW686 (WH.on1 9 rfl (wl_storenk (vs := [v682]) (u' := u676.1) tf_63 rfl rfl (cells_one (hS681.own_ro (i := 1) rfl).one) rfl ho693 hu688 hB680 (((hS681.sel [1, 4, 0, 2, 3, 5, 6] rfl).cel1 (e := ty_63) (fun _ _ _ _ h => ⟨_, rfl, h⟩)).sel [1, 0, 2, 3, 4, 5, 6] rfl) rfl ⟨(hS681.own_ro (i := 1) rfl).one, trivial⟩ ?_)))
           intro w694 F697 hk698 hB695 hS696
           have hSW699 := hSW686.wr' hk698.1 hk698.2.1 (fun _ _ h => List.mem_append_left _ (List.mem_append_right _ h))
           refine WL.nil (WH.ret hSW699 (WH.done (by kernel_rfl) ?_))
           exact fun a ha => hJ509 (u676.2.2.1) (u676.2.2.2) ((seti l87 (w64 ((List.length l87 : Int) - 1)) u676.1)) (l90) (u38.1) (u50.1) (v88) (F697) (v91) (F92) _ hF hB695 (hS696.sel [2, 1, 3, 0, 4, 5] rfl) a (ha.sub ⟨rfl, rfl, trivial⟩)
         ·
          refine wl_load_blk (i := 5) (vs := [v88]) (v := v88) tf_51 rfl rfl hS649 rfl rfl rfl (WL.nil (WH.ret hSW650 (WH.tk 4 rfl hP hSW650 (pr_lenr (e := ty_63) (l := l87) Try.underlying51 rfl rfl (hS649.own_ro (i := 3) rfl) (WH.tk 5 rfl hP hSW650 (pr_sub rfl rfl rfl (WH.many (is := [1, 7]) (by kernel_rfl) rfl (List.forall_mem_cons.2 ⟨⟨_, rfl, ?_⟩, List.forall_mem_cons.2 ⟨⟨_, rfl, ?_⟩, fun _ h => by cases h⟩⟩))))))))
          ·
           refine wl_load_blk (i := 5) (vs := [v88]) (v := v88) tf_51 rfl rfl hS649 rfl rfl rfl (WL.nil (WH.ret hSW650 (WH.on1 7 rfl ?_)))
           obtain ⟨u701, hu701, hF⟩ := bindE hF
           refine wl_call rfl Try.call231 (C_spec_l1Cur__anyChart__mut__box w646 (x0.1, u516.2.2.1, u516.2.2.2) b0 v0_0 (h0_0.rsto (hS649.sel [1, 0] rfl)) (hS649.sel [0] rfl).base0 _ hu701) rfl ?_
           rintro _ w702 ⟨v707, F708, rfl, hE703, hM704⟩
           refine ⟨_, rfl, ?_⟩
           have hB705 := hS649.takeB [0] rfl (M := [R.blk b0 131 [v0_0, (.int .i64 u516.2.2.1), (.int .u64 u516.2.2.2)]]) rfl hB648 hE703 hM704
           have hS706 : Sep (wE w0).heap.size w702 [R.blk b0 131 [v0_0, (.int .i64 u701.2.2.1), (.int .u64 u701.2.2.2)], R.own ty_68 F708 v707 u701.1, R.rest w0 (fps [R.blk b0 131 [v0_0, (.int .i64 x0.2.1), (.int .u64 x0.2.2)]]), R.blk b2 53 [(.slice none 0 0), (.slice none 0 0), (.int .i64 0), (.int .i64 0)], R.own ty_63 F89 v88 l87, R.own ty_3 F92 v91 l90, R.blk b56 53 [v88, v91, (.int .i64 u38.1), (.int .i64 u50.1)]] := hS649.take [0] [1, 2, 3, 4, 5] rfl (M := [R.blk b0 131 [v0_0, (.int .i64 u516.2.2.1), (.int .u64 u516.2.2.2)]]) rfl hM704 hB648.size
           have hk709 := box_kept hM704
           have hSW711 := hSW650.wr' hk709.1 hk709.2.1 (fun _ _ h => List.mem_append_left _ (List.mem_append_left _ (h)))
           refine WL.nil (WH.ret hSW711 (WH.on1 8 rfl ?_))
           obtain ⟨u713, hu713, hF⟩ := bindE hF
           refine wl_indexoF (e := ty_63) (i := 4) Try.underlying51 rfl rfl rfl hS706 rfl hu713 ?_
           rintro p714 _ ⟨v716, rfl, hv717⟩ hp715 ho718
           refine WL.nil (WH.ret hSW711 (WH.on1 9 rfl (wl_storenk (vs := [v707]) (u' := u701.1) tf_63 rfl rfl (cells_one (hS706.own_ro (i := 1) rfl).one) rfl ho718 hu713 hB705 (((hS706.sel [1, 4, 0, 2, 3, 5, 6] rfl).cel1 (e := ty_63) (fun _ _ _ _ h => ⟨_, rfl, h⟩)).sel [1, 0, 2, 3, 4, 5, 6] rfl) rfl ⟨(hS706.own_ro (i := 1) rfl).one, trivial⟩ ?_)))
           intro w719 F722 hk723 hB720 hS721
           have hSW724 := hSW711.wr' hk723.1 hk723.2.1 (fun _ _ h => List.mem_append_left _ (List.mem_append_right _ h))
           refine WL.nil (WH.ret hSW724 (WH.done (by kernel_rfl) ?_))
           exact fun a ha => hJ509 (u701.2.2.1) (u701.2.2.2) ((seti l87 (w64 ((List.length l87 : Int) - 1)) u701.1)) (l90) (u38.1) (u50.1) (v88) (F722) (v91) (F92) _ hF hB720 (hS721.sel [2, 1, 3, 0, 4, 5] rfl) a (ha.sub ⟨rfl, rfl, trivial⟩)
          ·
           obtain ⟨u726, hu726, hF⟩ := bindE hF
           refine wl_call rfl Try.call231 (C_spec_l1Cur__anyChart__mut__box w646 (x0.1, u516.2.2.1, u516.2.2.2) b0 v0_0 (h0_0.rsto (hS649.sel [1, 0] rfl)) (hS649.sel [0] rfl).base0 _ hu726) rfl ?_
           rintro _ w727 ⟨v732, F733, rfl, hE728, hM729⟩
           refine ⟨_, rfl, ?_⟩
           have hB730 := hS649.takeB [0] rfl (M := [R.blk b0 131 [v0_0, (.int .i64 u516.2.2.1), (.int .u64 u516.2.2.2)]]) rfl hB648 hE728 hM729
           have hS731 : Sep (wE w0).heap.size w727 [R.blk b0 131 [v0_0, (.int .i64 u726.2.2.1), (.int .u64 u726.2.2.2)], R.own ty_68 F733 v732 u726.1, R.rest w0 (fps [R.blk b0 131 [v0_0, (.int .i64 x0.2.1), (.int .u64 x0.2.2)]]), R.blk b2 53 [(.slice none 0 0), (.slice none 0 0), (.int .i64 0), (.int .i64 0)], R.own ty_63 F89 v88 l87, R.own ty_3 F92 v91 l90, R.blk b56 53 [v88, v91, (.int .i64 u38.1), (.int .i64 u50.1)]] := hS649.take [0] [1, 2, 3, 4, 5] rfl (M := [R.blk b0 131 [v0_0, (.int .i64 u516.2.2.1), (.int .u64 u516.2.2.2)]]) rfl hM729 hB648.size
           have hk734 := box_kept hM729
           have hSW736 := hSW650.wr' hk734.1 hk734.2.1 (fun _ _ h => List.mem_append_left _ (List.mem_append_left _ (h)))
           refine WL.nil (WH.ret hSW736 (WH.on1 1 rfl (wl_load_blk (i := 6) (vs := [v88]) (v := v88) tf_51 rfl rfl hS731 rfl rfl rfl (WL.nil (WH.ret hSW736 (WH.on1 8 rfl ?_))))))
           obtain ⟨u738, hu738, hF⟩ := bindE hF
           refine wl_indexoF (e := ty_63) (i := 4) Try.underlying51 rfl rfl rfl hS731 rfl hu738 ?_
           rintro p739 _ ⟨v741, rfl, hv742⟩ hp740 ho743
           refine WL.nil (WH.ret hSW736 (WH.on1 9 rfl (wl_storenk (vs := [v732]) (u' := u726.1) tf_63 rfl rfl (cells_one (hS731.own_ro (i := 1) rfl).one) rfl ho743 hu738 hB730 (((hS731.sel [1, 4, 0, 2, 3, 5, 6] rfl).cel1 (e := ty_63) (fun _ _ _ _ h => ⟨_, rfl, h⟩)).sel [1, 0, 2, 3, 4, 5, 6] rfl) rfl ⟨(hS731.own_ro (i := 1) rfl).one, trivial⟩ ?_)))
           intro w744 F747 hk748 hB745 hS746
           have hSW749 := hSW736.wr' hk748.1 hk748.2.1 (fun _ _ h => List.mem_append_left _ (List.mem_append_right _ h))
           refine WL.nil (WH.ret hSW749 (WH.done (by kernel_rfl) ?_))
           exact fun a ha => hJ509 (u726.2.2.1) (u726.2.2.2) ((seti l87 (w64 ((List.length l87 : Int) - 1)) u726.1)) (l90) (u38.1) (u50.1) (v88) (F747) (v91) (F92) _ hF hB745 (hS746.sel [2, 1, 3, 0, 4, 5] rfl) a (ha.sub ⟨rfl, rfl, trivial⟩)
         ·
          obtain ⟨u751, hu751, hF⟩ := bindE hF
          refine wl_call rfl Try.call231 (C_spec_l1Cur__anyChart__mut__box w646 (x0.1, u516.2.2.1, u516.2.2.2) b0 v0_0 (h0_0.rsto (hS649.sel [1, 0] rfl)) (hS649.sel [0] rfl).base0 _ hu751) rfl ?_
          rintro _ w752 ⟨v757, F758, rfl, hE753, hM754⟩
          refine ⟨_, rfl, ?_⟩
          have hB755 := hS649.takeB [0] rfl (M := [R.blk b0 131 [v0_0, (.int .i64 u516.2.2.1), (.int .u64 u516.2.2.2)]]) rfl hB648 hE753 hM754
          have hS756 : Sep (wE w0).heap.size w752 [R.blk b0 131 [v0_0, (.int .i64 u751.2.2.1), (.int .u64 u751.2.2.2)], R.own ty_68 F758 v757 u751.1, R.rest w0 (fps [R.blk b0 131 [v0_0, (.int .i64 x0.2.1), (.int .u64 x0.2.2)]]), R.blk b2 53 [(.slice none 0 0), (.slice none 0 0), (.int .i64 0), (.int .i64 0)], R.own ty_63 F89 v88 l87, R.own ty_3 F92 v91 l90, R.blk b56 53 [v88, v91, (.int .i64 u38.1), (.int .i64 u50.1)]] := hS649.take [0] [1, 2, 3, 4, 5] rfl (M := [R.blk b0 131 [v0_0, (.int .i64 u516.2.2.1), (.int .u64 u516.2.2.2)]]) rfl hM754 hB648.size
          have hk759 := box_kept hM754
          have hSW761 := hSW650.wr' hk759.1 hk759.2.1 (fun _ _ h => List.mem_append_left _ (List.mem_append_left _ (h)))
          refine WL.nil (WH.ret hSW761 (WH.many (is := [1, 3]) (by kernel_rfl) rfl (List.forall_mem_cons.2 ⟨⟨_, rfl, ?_⟩, List.forall_mem_cons.2 ⟨⟨_, rfl, ?_⟩, fun _ h => by cases h⟩⟩)))
          ·
           refine wl_load_blk (i := 6) (vs := [v88]) (v := v88) tf_51 rfl rfl hS756 rfl rfl rfl (WL.nil (WH.ret hSW761 (WH.on1 3 rfl (wl_load_blk (i := 6) (vs := [v88]) (v := v88) tf_51 rfl rfl hS756 rfl rfl rfl (WL.nil (WH.ret hSW761 (WH.tk 4 rfl hP hSW761 (pr_lenr (e := ty_63) (l := l87) Try.underlying51 rfl rfl (hS756.own_ro (i := 4) rfl) (WH.tk 5 rfl hP hSW761 (pr_sub rfl rfl rfl (WH.on1 8 rfl ?_)))))))))))
           obtain ⟨u763, hu763, hF⟩ := bindE hF
           refine wl_indexoF (e := ty_63) (i := 4) Try.underlying51 rfl rfl rfl hS756 rfl hu763 ?_
           rintro p764 _ ⟨v766, rfl, hv767⟩ hp765 ho768
           refine WL.nil (WH.ret hSW761 (WH.on1 9 rfl (wl_storenk (vs := [v757]) (u' := u751.1) tf_63 rfl rfl (cells_one (hS756.own_ro (i := 1) rfl).one) rfl ho768 hu763 hB755 (((hS756.sel [1, 4, 0, 2, 3, 5, 6] rfl).cel1 (e := ty_63) (fun _ _ _ _ h => ⟨_, rfl, h⟩)).sel [1, 0, 2, 3, 4, 5, 6] rfl) rfl ⟨(hS756.own_ro (i := 1) rfl).one, trivial⟩ ?_)))
           intro w769 F772 hk773 hB770 hS771
           have hSW774 := hSW761.wr' hk773.1 hk773.2.1 (fun _ _ h => List.mem_append_left _ (List.mem_append_right _ h))
           refine WL.nil (WH.ret hSW774 (WH.done (by kernel_rfl) ?_))
           exact fun a ha => hJ509 (u751.2.2.1) (u751.2.2.2) ((seti l87 (w64 ((List.length l87 : Int) - 1)) u751.1)) (l90) (u38.1) (u50.1) (v88) (F772) (v91) (F92) _ hF hB770 (hS771.sel [2, 1, 3, 0, 4, 5] rfl) a (ha.sub ⟨rfl, rfl, trivial⟩)
          ·
           refine wl_load_blk (i := 6) (vs := [v88]) (v := v88) tf_51 rfl rfl hS756 rfl rfl rfl (WL.nil (WH.ret hSW761 (WH.tk 4 rfl hP hSW761 (pr_lenr (e := ty_63) (l := l87) Try.underlying51 rfl rfl (hS756.own_ro (i := 4) rfl) (WH.tk 5 rfl hP hSW761 (pr_sub rfl rfl rfl (WH.on1 1 rfl (wl_load_blk (i := 6) (vs := [v88]) (v := v88) tf_51 rfl rfl hS756 rfl rfl rfl (WL.nil (WH.ret hSW761 (WH.on1 8 rfl ?_)))))))))))
           obtain ⟨u776, hu776, hF⟩ := bindE hF
           refine wl_indexoF (e := ty_63) (i := 4) Try.underlying51 rfl rfl rfl hS756 rfl hu776 ?_
           rintro p777 _ ⟨v779, rfl, hv780⟩ hp778 ho781
           refine WL.nil (WH.ret hSW761 (WH.on1 9 rfl (wl_storenk (vs := [v757]) (u' := u751.1) tf_63 rfl rfl (cells_one (hS756.own_ro (i := 1) rfl).one) rfl ho781 hu776 hB755 (((hS756.sel [1, 4, 0, 2, 3, 5, 6] rfl).cel1 (e := ty_63) (fun _ _ _ _ h => ⟨_, rfl, h⟩)).sel [1, 0, 2, 3, 4, 5, 6] rfl) rfl ⟨(hS756.own_ro (i := 1) rfl).one, trivial⟩ ?_)))
           intro w782 F785 hk786 hB783 hS784
           have hSW787 := hSW761.wr' hk786.1 hk786.2.1 (fun _ _ h => List.mem_append_left _ (List.mem_append_right _ h))
           refine WL.nil (WH.ret hSW787 (WH.done (by kernel_rfl) ?_))
           exact fun a ha => hJ509 (u751.2.2.1) (u751.2.2.2) ((seti l87 (w64 ((List.length l87 : Int) - 1)) u751.1)) (l90) (u38.1) (u50.1) (v88) (F785) (v91) (F92) _ hF hB783 (hS784.sel [2, 1, 3, 0, 4, 5] rfl) a (ha.sub ⟨rfl, rfl, trivial⟩)
        ·replace hF := ifN h645 hF
         refine W.seq fun K789 hK789 => W.region (wl_eql rfl rfl rfl (wl_assign rfl rfl (WL.nil (fun a ha => hK789 _ _ (W.cond rfl (fun h790 => ?_) (fun h790 => ?_)) a ha))))
         ·replace hF := ifP h790 hF
          refine W.region (wl_field (o := 1) (off' := 1) ff_53_1 rfl rfl rfl (wl_load_blk (i := 5) (vs := [v91]) (v := v91) tf_29 rfl rfl hS521 rfl rfl rfl (wl_lit (vs := [(.int .i64 8)]) (l := [8]) fl_3 Try.underlying29 rfl rfl rfl rfl rfl rfl hB520 hS521 ?_)))
          intro v791 F792 w793 hb794 hB795 hS796
          obtain ⟨u797, hu797, hF⟩ := bindE hF
          refine wl_append (i := 5) (S := (· < w793.heap.size)) fl_3 Try.underlying29 rfl rfl rfl hB795 hS796 rfl (hS796.own_ro (i := 0) rfl) hu797 ?_
          intro v798 F799 w800 hk801 hB802 hS803
          refine wl_field (o := 1) (off' := 1) ff_53_1 rfl rfl rfl (wl_store_blk (i := 6) (vs := [v798]) (cs' := [v88, v798, (.int .i64 u38.1), (.int .i64 u50.1)]) tf_29 rfl rfl (cells_one (hS803.own_ro (i := 5) rfl).one) rfl hB802 hS803 rfl rfl ⟨(hS803.own_ro (i := 5) rfl).one, trivial⟩ rfl ?_)
          intro w804 hk807 hB805 hS806
          refine WL.nil ?_
          exact fun a ha => hJ509 (u516.2.2.1) (u516.2.2.2) (l87) (u797) (u38.1) (u50.1) (v88) (F89) (v798) (F799) _ hF hB805 (hS806.sel [2, 1, 3, 4, 5, 6] rfl) a (ha.sub ⟨rfl, rfl, trivial⟩)
         ·replace hF := ifN h790 hF
          refine W.seq fun K808 hK808 => W.region (wl_eql rfl rfl rfl (wl_assign rfl rfl (WL.nil (fun a ha => hK808 _ _ (W.cond rfl (fun h809 => ?_) (fun h809 => ?_)) a ha))))
          ·replace hF := ifP h809 hF
           refine W.seq fun K810 hK810 => W.region (wl_field (o := 0) (off' := 0) ff_53_0 rfl rfl rfl (wl_load_blk (i := 5) (vs := [v88]) (v := v88) tf_51 rfl rfl hS521 rfl rfl rfl ?_))
           obtain ⟨u811, hu811, hF⟩ := bindE hF
           refine wl_sliceof (e := ty_63) Try.underlying51 rfl rfl (hS521.ok (i := 3) rfl : ownS ty_63 _ _ _ _).rd hu811 (.inl ⟨rfl, rfl⟩) (.inr ⟨_, _, rfl, rfl⟩) ?_
           intro v812 hv815 hs814
           refine wl_field (o := 0) (off' := 0) ff_53_0 rfl rfl rfl ?_
           obtain ⟨F820, hq821, hq822, hq823⟩ := own_pre (hS521.ok (i := 3) rfl : ownS ty_63 _ _ _ _) (hS521.get (i := 3) rfl).1 hs814 (sl_le hu811).1
           rw [show List.take (1 : Int).toNat l87 = u811 from (sl_le hu811).2.symm] at hq821
           have hS819 := (hS521.sel [3, 0, 1, 2, 4, 5] rfl).shrink (r' := R.own ty_63 F820 v812 u811) hq822 hq823 fun _ hk => hq821.keep hk
           refine wl_store_blk (i := 5) (vs := [v812]) (cs' := [v812, v91, (.int .i64 u38.1), (.int .i64 u50.1)]) tf_51 rfl rfl (cells_one (hS819.own_ro (i := 0) rfl).one) rfl hB520 hS819 rfl rfl ⟨(hS819.own_ro (i := 0) rfl).one, trivial⟩ rfl ?_
           intro w816 hk825 hB817 hS818
           refine WL.nil fun a ha => hK810 _ _ (W.region (wl_field (o := 1) (off' := 1) ff_53_1 rfl rfl rfl (wl_store_blk (i := 5) (vs := [(.slice none 0 0)]) (cs' := [v812, (.slice none 0 0), (.int .i64 u38.1), (.int .i64 u50.1)]) tf_29 rfl rfl rfl rfl hB817 hS818 rfl rfl ⟨rfl, trivial⟩ rfl ?_))) a ha
           intro w826 hk829 hB827 hS828
           refine WL.nil ?_
           have hS830 := hS828.push0 (r := R.own ty_3 [] (.slice none 0 0) []) rfl fun _ => .inl ⟨rfl, rfl, rfl⟩
           exact fun a ha => hJ509 (u516.2.2.1) (u516.2.2.2) (u811) ([]) (u38.1) (u50.1) (v812) (F820) ((.slice none 0 0)) ([]) _ hF hB827 (hS830.sel [3, 2, 4, 1, 0, 6] rfl) a (ha.sub ⟨rfl, rfl, trivial⟩)
          ·replace hF := ifN h809 hF
           refine W.skip ?_
           exact fun a ha => hJ509 (u516.2.2.1) (u516.2.2.2) (l87) (l90) (u38.1) (u50.1) (v88) (F89) (v91) (F92) _ hF hB520 (hS521.sel [1, 0, 2, 3, 4, 5] rfl) a (ha.sub ⟨rfl, rfl, trivial⟩)
 refine W.seq fun K831 hK831 => W.region (wl_move rfl rfl ?_)
 obtain ⟨u832, hu832, hF⟩ := bindE hF
 refine wl_call rfl Try.call130 (C_spec_l1Cur__one__mut__box w67 (x0.1, u66.2.2.1, u66.2.2.2) b0 v0_0 (h0_0.rsto (hS71.sel [6, 0] rfl)) 20 (hS71.sel [0] rfl).base0 _ hu832) rfl ?_
 rintro _ w833 ⟨rfl, hE834, hM835⟩
 refine ⟨_, rfl, ?_⟩
 have hB836 := hS71.takeB [0] rfl (M := [R.blk b0 131 [v0_0, (.int .i64 u66.2.2.1), (.int .u64 u66.2.2.2)]]) rfl hB70 hE834 hM835
 have hS837 : Sep (wE w0).heap.size w833 [R.blk b0 131 [v0_0, (.int .i64 u832.2.2.1), (.int .u64 u832.2.2.2)], R.blk b56 53 [v25, (.slice none 0 0), (.int .i64 u38.1), (.int .i64 u50.1)], R.own ty_3 F45 v44 [8, 12, 24, 24], R.own ty_3 F33 v32 [0, 1, 8, 8, 16], R.own ty_63 F26 v25 [u15.1], R.blk b2 53 [(.slice none 0 0), (.slice none 0 0), (.int .i64 0), (.int .i64 0)], R.rest w0 (fps [R.blk b0 131 [v0_0, (.int .i64 x0.2.1), (.int .u64 x0.2.2)]])] := hS71.take [0] [1, 2, 3, 4, 5, 6] rfl (M := [R.blk b0 131 [v0_0, (.int .i64 u66.2.2.1), (.int .u64 u66.2.2.2)]]) rfl hM835 hB70.size
 refine WL.nil fun a ha => hK831 _ _ (W.cond rfl (fun h838 => ?_) (fun h838 => ?_)) a ha
 ·replace hF := ifP h838 hF
  refine W.region (wl_move rfl rfl ?_)
  obtain ⟨u839, hu839, hF⟩ := bindE hF
  refine wl_call rfl Try.call132 (C_spec_l1Cur__pick__mut__box w833 (x0.1, u832.2.2.1, u832.2.2.2) b0 v0_0 (h0_0.rsto (hS837.sel [6, 0] rfl)) 2 (hS837.sel [0] rfl).base0 _ hu839) rfl ?_
  rintro _ w840 ⟨rfl, hE841, hM842⟩
  refine ⟨_, rfl, ?_⟩
  have hB843 := hS837.takeB [0] rfl (M := [R.blk b0 131 [v0_0, (.int .i64 u832.2.2.1), (.int .u64 u832.2.2.2)]]) rfl hB836 hE841 hM842
  have hS844 : Sep (wE w0).heap.size w840 [R.blk b0 131 [v0_0, (.int .i64 u839.2.2.1), (.int .u64 u839.2.2.2)], R.blk b56 53 [v25, (.slice none 0 0), (.int .i64 u38.1), (.int .i64 u50.1)], R.own ty_3 F45 v44 [8, 12, 24, 24], R.own ty_3 F33 v32 [0, 1, 8, 8, 16], R.own ty_63 F26 v25 [u15.1], R.blk b2 53 [(.slice none 0 0), (.slice none 0 0), (.int .i64 0), (.int .i64 0)], R.rest w0 (fps [R.blk b0 131 [v0_0, (.int .i64 x0.2.1), (.int .u64 x0.2.2)]])] := hS837.take [0] [1, 2, 3, 4, 5, 6] rfl (M := [R.blk b0 131 [v0_0, (.int .i64 u832.2.2.1), (.int .u64 u832.2.2.2)]]) rfl hM842 hB836.size
  refine wl_add rfl rfl rfl (wl_assign rfl rfl (WL.nil ?_))
  exact fun a ha => hJ80 (u839.2.2.1) (u839.2.2.2) ((w64 (8 + u839.1))) _ hF hB843 (hS844.sel [6, 0, 5, 4, 1] rfl) a (ha.sub ⟨rfl, rfl, rfl, rfl, rfl, trivial⟩)
 ·replace hF := ifN h838 hF
  refine W.skip ?_
  exact fun a ha => hJ80 (u832.2.2.1) (u832.2.2.2) ((w64 (2 + u66.1))) _ hF hB836 (hS837.sel [6, 0, 5, 4, 1] rfl) a (ha.sub ⟨rfl, rfl, rfl, rfl, rfl, trivial⟩)
theorem C_impl_IsSpot (w0 : World) (x0 : (Int × Int)) (r : Bool) (hF : F_impl_IsSpot x0 = some r) :
  Calls Try.prog 164 [(.agg #[(.int .i64 x0.1), (.int .i64 x0.2)])].toArray w0 fun e w' => e = .returned (.bool r) ∧ Below w0.heap.size w0 w' := by
 refine calls_mk' Try.func164 rfl Try.ntmps164 rfl rfl fun Q hQ hP => ?_
 have hB : Below w0.heap.size w0 w0 := Below.refl _ _
 have hS : Sep w0.heap.size w0 [] := Sep.nil _ _
 unfold F_impl_IsSpot at hF
 refine W.seq fun K1 hK1 => W.region (wl_box (cs := [(.int .i64 x0.1), (.int .i64 x0.2)]) rfl rfl rfl hB hS ?_)
 intro b2 w3 hb4 hB5 hS6
 refine wl_assign rfl rfl (WL.nil (fun a ha => hK1 _ _ (W.seq fun K7 hK7 => ?_) a ha))
 obtain ⟨k12, hk12, hF⟩ := jE1 hF
 have hJ13 : ∀ (y11 : Bool) (w8 : World) (_ : k12 y11 = some r) (_ : Below w0.heap.size w0 w8) (_ : Sep w0.heap.size w8 []), ∀ a, St 11 [(2, (.bool y11))] a → K7 a w8 := by
  intro y11 w8 hF hB9 hS10
  subst hk12
  refine fun a ha => hK7 _ _ (W.ret ?_) a ha
  have hr := Option.some.inj hF
  subst hr
  exact rets (vs := [(.bool y11)]) hQ rfl ⟨rv_tmp rfl, trivial⟩ ⟨rfl, hB9⟩
 refine W.region (wl_field (o := 0) (off' := 0) ff_68_0 rfl rfl rfl (wl_load_blk (i := 0) (vs := [(.int .i64 x0.1)]) (v := (.int .i64 x0.1)) tf_3 rfl rfl hS6 rfl rfl rfl ?_))
 obtain ⟨u14, hu14, hF⟩ := bindE hF
 refine wl_call rfl Try.call128 (C_impl_within w3 x0.1 0 1280 _ hu14) rfl ?_
 rintro _ w15 ⟨rfl, hb16⟩
 refine ⟨_, rfl, ?_⟩
 have hB17 := hB5.trans (hb16.mono hB5.size)
 have hS18 := hS6.below hb16
 refine wl_move rfl rfl ?_
 rcases bE u14 with h20 | h20
 ·replace hF := ifP h20 hF
  refine wl_on rfl rfl h20 (wl_field (o := 1) (off' := 1) ff_68_1 rfl rfl rfl (wl_on rfl rfl h20 (wl_load_blk (i := 0) (vs := [(.int .i64 x0.2)]) (v := (.int .i64 x0.2)) tf_3 rfl rfl hS18 rfl rfl rfl (wl_on rfl rfl h20 ?_))))
  obtain ⟨u21, hu21, hF⟩ := bindE hF
  refine wl_call rfl Try.call128 (C_impl_within w15 x0.2 0 672 _ hu21) rfl ?_
  rintro _ w22 ⟨rfl, hb23⟩
  refine ⟨_, rfl, ?_⟩
  have hB24 := hB17.trans (hb23.mono hB17.size)
  have hS25 := hS18.below hb23
  refine wl_pick_t rfl rfl h20 rfl (wl_assign rfl rfl (WL.nil ?_))
  exact fun a ha => hJ13 (u21) _ hF hB24 (hS25.sel [] rfl) a (ha.sub ⟨rfl, trivial⟩)
 ·replace hF := ifN h20 hF
  refine wl_off rfl rfl rfl h20 (wl_off rfl rfl rfl h20 (wl_off rfl rfl rfl h20 (wl_pick_f rfl rfl h20 rfl (wl_assign rfl rfl (WL.nil ?_)))))
  exact fun a ha => hJ13 (false) _ hF hB17 (hS18.sel [] rfl) a (ha.sub ⟨rfl, trivial⟩)
theorem C_slices_Index_impl_Spot_impl_Spot (w0 : World) (x0 : (List (Int × Int))) (v0_0 : Value) (h0_0 : rdS ty_68 (· < w0.heap.size) w0 v0_0 x0) (x1 : (Int × Int)) (r : Int) (hF : F_slices_Index_impl_Spot_impl_Spot x0 x1 = some r) :
  Calls Try.prog 277 [v0_0, (.agg #[(.int .i64 x1.1), (.int .i64 x1.2)])].toArray w0 fun e w' => e = .returned (.int .i64 r) ∧ Below w0.heap.size w0 w' := by
 refine calls_mk' Try.func277 rfl Try.ntmps277 rfl rfl fun Q hQ hP => ?_
 have hB : Below w0.heap.size w0 w0 := Below.refl _ _
 have hS : Sep w0.heap.size w0 [] := Sep.nil _ _
 unfold F_slices_Index_impl_Spot_impl_Spot at hF
 refine W.seq fun K1 hK1 => W.region (wl_box (cs := [(.int .i64 x1.1), (.int .i64 x1.2)]) rfl rfl rfl hB hS ?_)
 intro b2 w3 hb4 hB5 hS6
 refine wl_assign rfl rfl (WL.nil (fun a ha => hK1 _ _ (W.seq fun K7 hK7 => (W.seq fun K8 hK8 => (W.region (wl_move rfl rfl (wl_lenr (e := ty_68) (l := x0) Try.underlying63 rfl rfl h0_0 (wl_move rfl rfl (WL.nil (fun a ha => hK8 _ _ (W.block (W.loopk (fun m a w9 => ∃ (y12 : Int), St 19 [(0, v0_0), (3, (.pointer (some ⟨b2, 0, none⟩))), (7, (.int .i64 (List.length x0 : Int))), (8, (.int .i64 y12))] a ∧ Below w0.heap.size w0 w9 ∧ Sep w0.heap.size w9 [R.blk b2 68 [(.int .i64 x1.1), (.int .i64 x1.2)]] ∧ F_slices_Index_impl_Spot_impl_Spot_L1 x0 x1 m y12 = some r) FU ?_ ?_)) a ha)))))))) a ha))
 ·
  exact fun a ha => ⟨0, ha.sub ⟨rfl, rfl, rfl, rfl, trivial⟩, hB5, (hS6.sel [0] rfl), hF⟩
 ·
  rintro m15 a w9 ⟨y12, ha, hB10, hS11, hF⟩ KL14 hKL14
  refine W.at ?_ ha
  cases m15 with
  | zero => exact noneE hF
  | succ m15 =>
   obtain ⟨nx13, hnx13⟩ : ∃ k, k = F_slices_Index_impl_Spot_impl_Spot_L1 x0 x1 m15 := ⟨_, rfl⟩
   rw [F_slices_Index_impl_Spot_impl_Spot_L1, ← hnx13] at hF
   refine W.seq fun K16 hK16 => W.region (wl_lss rfl rfl rfl (WL.nil (fun a ha => hK16 _ _ (W.seq fun K17 hK17 => (W.cond rfl (fun h18 => ?_) (fun h18 => ?_))) a ha)))
   ·replace hF := ifP h18 hF
    refine W.skip fun a ha => hK17 _ _ (W.seq fun K19 hK19 => (W.block (W.seq fun K20 hK20 => (W.region (wl_move rfl rfl (wl_assign rfl rfl (WL.nil (fun a ha => hK20 _ _ (W.seq fun K21 hK21 => (W.regionH mixed_ [] hB10 hS11 ?_)) a ha)))))))) a ha
    intro w22 hb23 hB24 hS25
    have hSW26 := KeepX.refl w22 []
    refine WH.tk 0 rfl hP hSW26 (pr_load_blk (i := 0) (vs := [(.int .i64 x1.1), (.int .i64 x1.2)]) (v := (.agg #[(.int .i64 x1.1), (.int .i64 x1.2)])) tf_68 rfl rfl hS25 rfl rfl rfl (by simp) (WH.tk 1 rfl hP hSW26 (pr_move rfl rfl (WH.tk 2 rfl hP hSW26 (pr_move rfl rfl ?_)))))
    obtain ⟨u27, hu27, hF⟩ := bindE hF
    refine WH.tk 3 rfl hP hSW26 (pr_index (e := ty_68) Try.underlying63 rfl rfl rfl h0_0 hu27 ?_)
    rintro p28 _ rfl hp29
    refine WH.tk 4 rfl hP hSW26 (pr_load_p (vs := [(.int .i64 u27.1), (.int .i64 u27.2)]) (v := (.agg #[(.int .i64 u27.1), (.int .i64 u27.2)])) tf_68 rfl rfl (hp29.kx hB24 (by simp)) rfl rfl (WH.tk 5 rfl hP hSW26 (pr_eqs Try.eqGuardType68 (eq_68 x1 u27) rfl rfl rfl (WH.done (by kernel_rfl) (fun a ha => hK21 _ _ (W.cond rfl (fun h30 => ?_) (fun h30 => ?_)) a ha)))))
    ·replace hF := ifP h30 hF
     refine W.seq fun K31 hK31 => W.region (wl_move rfl rfl (wl_assign rfl rfl (WL.nil (fun a ha => hK31 _ _ (W.ret ?_) a ha))))
     have hr := Option.some.inj hF
     subst hr
     exact rets (vs := [(.int .i64 y12)]) hQ rfl ⟨rv_tmp rfl, trivial⟩ ⟨rfl, hB24⟩
    ·replace hF := ifN h30 hF
     refine W.skip fun a ha => hK19 _ _ (W.region (wl_add rfl rfl rfl (wl_move rfl rfl (WL.nil ?_)))) a ha
     rw [hnx13] at hF
     exact fun a ha => hKL14 a _ m15 (Nat.lt_succ_self m15) ⟨(w64 (y12 + 1)), ha.sub ⟨rfl, rfl, rfl, rfl, trivial⟩, hB24, (hS25.sel [0] rfl), hF⟩
   ·replace hF := ifN h18 hF
    refine W.exit fun a ha => hK7 _ _ (W.seq fun K32 hK32 => (W.region (wl_assign rfl rfl (WL.nil (fun a ha => hK32 _ _ (W.ret ?_) a ha))))) a ha
    have hr := Option.some.inj hF
    subst hr
    exact rets (vs := [(.int .i64 (-1))]) hQ rfl ⟨rv_tmp rfl, trivial⟩ ⟨rfl, hB10⟩
theorem C_slices_Contains_impl_Spot_impl_Spot (w0 : World) (x0 : (List (Int × Int))) (v0_0 : Value) (h0_0 : rdS ty_68 (· < w0.heap.size) w0 v0_0 x0) (x1 : (Int × Int)) (r : Bool) (hF : F_slices_Contains_impl_Spot_impl_Spot x0 x1 = some r) :
  Calls Try.prog 264 [v0_0, (.agg #[(.int .i64 x1.1), (.int .i64 x1.2)])].toArray w0 fun e w' => e = .returned (.bool r) ∧ Below w0.heap.size w0 w' := by
 refine calls_mk' Try.func264 rfl Try.ntmps264 rfl rfl fun Q hQ hP => ?_
 have hB : Below w0.heap.size w0 w0 := Below.refl _ _
 have hS : Sep w0.heap.size w0 [] := Sep.nil _ _
 unfold F_slices_Contains_impl_Spot_impl_Spot at hF
 refine W.seq fun K1 hK1 => W.region (wl_box (cs := [(.int .i64 x1.1), (.int .i64 x1.2)]) rfl rfl rfl hB hS ?_)
 intro b2 w3 hb4 hB5 hS6
 refine wl_assign rfl rfl (WL.nil (fun a ha => hK1 _ _ (W.seq fun K7 hK7 => (W.region (wl_move rfl rfl (wl_load_blk (i := 0) (vs := [(.int .i64 x1.1), (.int .i64 x1.2)]) (v := (.agg #[(.int .i64 x1.1), (.int .i64 x1.2)])) tf_68 rfl rfl hS6 rfl rfl rfl ?_)))) a ha))
 obtain ⟨u8, hu8, hF⟩ := bindE hF
 refine wl_call rfl Try.call277 (C_slices_Index_impl_Spot_impl_Spot w3 x0 v0_0 (h0_0.ro hB5) x1 _ hu8) rfl ?_
 rintro _ w9 ⟨rfl, hb10⟩
 refine ⟨_, rfl, ?_⟩
 have hB11 := hB5.trans (hb10.mono hB5.size)
 refine wl_geq rfl rfl rfl (wl_assign rfl rfl (WL.nil (fun a ha => hK7 _ _ (W.ret ?_) a ha)))
 have hr := Option.some.inj hF
 subst hr
 exact rets (vs := [(.bool (decide (0 ≤ u8)))]) hQ rfl ⟨rv_tmp rfl, trivial⟩ ⟨rfl, hB11⟩
theorem C_impl_IsChart (w0 : World) (x0 : (List (Int × Int))) (v0_0 : Value) (h0_0 : rdS ty_68 (· < w0.heap.size) w0 v0_0 x0) (r : Bool) (hF : F_impl_IsChart x0 = some r) :
  Calls Try.prog 242 [v0_0].toArray w0 fun e w' => e = .returned (.bool r) ∧ Below w0.heap.size w0 w' := by
 refine calls_mk' Try.func242 rfl Try.ntmps242 rfl rfl fun Q hQ hP => ?_
 have hB : Below w0.heap.size w0 w0 := Below.refl _ _
 have hS : Sep w0.heap.size w0 [] := Sep.nil _ _
 unfold F_impl_IsChart at hF
 refine W.seq fun K1 hK1 => W.region (wl_assign rfl rfl (WL.nil (fun a ha => hK1 _ _ (W.seq fun K2 hK2 => (W.seq fun K3 hK3 => (W.region (wl_move rfl rfl (wl_lenr (e := ty_68) (l := x0) Try.underlying63 rfl rfl h0_0 ?_))))) a ha)))
 obtain ⟨u4, hu4, hF⟩ := bindE hF
 refine wl_call rfl Try.call128 (C_impl_within w0 (List.length x0 : Int) 1 12 _ hu4) rfl ?_
 rintro _ w5 ⟨rfl, hb6⟩
 refine ⟨_, rfl, ?_⟩
 have hB7 := hB.trans (hb6.mono hB.size)
 have hS8 := hS.below hb6
 refine wl_not rfl rfl (WL.nil (fun a ha => hK3 _ _ (W.cond rfl (fun h10 => ?_) (fun h10 => ?_)) a ha))
 ·replace hF := ifP h10 hF
  refine W.seq fun K11 hK11 => W.region (wl_assign rfl rfl (WL.nil (fun a ha => hK11 _ _ (W.ret ?_) a ha)))
  have hr := Option.some.inj hF
  subst hr
  exact rets (vs := [(.bool false)]) hQ rfl ⟨rv_tmp rfl, trivial⟩ ⟨rfl, hB7⟩
 ·replace hF := ifN h10 hF
  refine W.skip fun a ha => hK2 _ _ (W.seq fun K12 hK12 => (W.seq fun K13 hK13 => (W.region (wl_move rfl rfl (wl_lenr (e := ty_68) (l := x0) Try.underlying63 rfl rfl h0_0 (wl_move rfl rfl (WL.nil (fun a ha => hK13 _ _ (W.block (W.loopk (fun m a w14 => ∃ (y17 : Int), St 27 [(0, v0_0), (9, v0_0), (10, (.int .i64 (List.length x0 : Int))), (11, (.int .i64 y17))] a ∧ Below w0.heap.size w0 w14 ∧ Sep w0.heap.size w14 [] ∧ F_impl_IsChart_L1 x0 m y17 = some r) FU ?_ ?_)) a ha)))))))) a ha
  ·
   exact fun a ha => ⟨0, ha.sub ⟨rfl, rfl, rfl, rfl, trivial⟩, hB7, (hS8.sel [] rfl), hF⟩
  ·
   rintro m20 a w14 ⟨y17, ha, hB15, hS16, hF⟩ KL19 hKL19
   refine W.at ?_ ha
   cases m20 with
   | zero => exact noneE hF
   | succ m20 =>
    obtain ⟨nx18, hnx18⟩ : ∃ k, k = F_impl_IsChart_L1 x0 m20 := ⟨_, rfl⟩
    rw [F_impl_IsChart_L1, ← hnx18] at hF
    refine W.seq fun K21 hK21 => W.region (wl_lss rfl rfl rfl (WL.nil (fun a ha => hK21 _ _ (W.seq fun K22 hK22 => (W.cond rfl (fun h23 => ?_) (fun h23 => ?_))) a ha)))
    ·replace hF := ifP h23 hF
     refine W.skip fun a ha => hK22 _ _ (W.seq fun K24 hK24 => (W.block (W.seq fun K25 hK25 => (W.region (wl_move rfl rfl ?_))))) a ha
     obtain ⟨u26, hu26, hF⟩ := bindE hF
     refine wl_index (e := ty_68) Try.underlying63 rfl rfl rfl h0_0 hu26 ?_
     rintro p27 _ rfl hp28
     refine wl_load_p (vs := [(.int .i64 u26.1), (.int .i64 u26.2)]) (v := (.agg #[(.int .i64 u26.1), (.int .i64 u26.2)])) tf_68 rfl rfl (hp28.ro hB15) rfl rfl (wl_alloc (cs := [(.int .i64 0), (.int .i64 0)]) tf_68 rfl rfl hB15 hS16 ?_)
     intro b29 w30 hb31 hB32 hS33
     refine wl_assign rfl rfl (wl_store_blk (i := 0) (vs := [(.int .i64 u26.1), (.int .i64 u26.2)]) (cs' := [(.int .i64 u26.1), (.int .i64 u26.2)]) tf_68 rfl rfl rfl rfl hB32 hS33 rfl rfl ⟨rfl, rfl, trivial⟩ rfl ?_)
     intro w34 hk37 hB35 hS36
     refine WL.nil fun a ha => hK25 _ _ (W.seq fun K38 hK38 => ?_) a ha
     obtain ⟨k43, hk43, hF⟩ := jE1 hF
     have hJ44 : ∀ (y42 : Bool) (w39 : World) (_ : k43 y42 = some r) (_ : Below w0.heap.size w0 w39) (_ : Sep w0.heap.size w39 []), ∀ a, St 27 [(0, v0_0), (9, v0_0), (10, (.int .i64 (List.length x0 : Int))), (11, (.int .i64 y17)), (25, (.bool y42))] a → K38 a w39 := by
      intro y42 w39 hF hB40 hS41
      subst hk43
      refine fun a ha => hK38 _ _ (W.cond rfl (fun h45 => ?_) (fun h45 => ?_)) a ha
      ·replace hF := ifP h45 hF
       refine W.seq fun K46 hK46 => W.region (wl_assign rfl rfl (WL.nil (fun a ha => hK46 _ _ (W.ret ?_) a ha)))
       have hr := Option.some.inj hF
       subst hr
       exact rets (vs := [(.bool false)]) hQ rfl ⟨rv_tmp rfl, trivial⟩ ⟨rfl, hB40⟩
      ·replace hF := ifN h45 hF
       refine W.skip fun a ha => hK24 _ _ (W.region (wl_add rfl rfl rfl (wl_move rfl rfl (WL.nil ?_)))) a ha
       rw [hnx18] at hF
       exact fun a ha => hKL19 a _ m20 (Nat.lt_succ_self m20) ⟨(w64 (y17 + 1)), ha.sub ⟨rfl, rfl, rfl, rfl, trivial⟩, hB40, (hS41.sel [] rfl), hF⟩
     refine W.regionH mixed_ [] hB35 hS36 ?_
     intro w47 hb48 hB49 hS50
     have hSW51 := KeepX.refl w47 []
     refine WH.tk 0 rfl hP hSW51 (pr_load_blk (i := 0) (vs := [(.int .i64 u26.1), (.int .i64 u26.2)]) (v := (.agg #[(.int .i64 u26.1), (.int .i64 u26.2)])) tf_68 rfl rfl hS50 rfl rfl rfl (by simp) (WH.on1 1 rfl ?_))
     obtain ⟨u52, hu52, hF⟩ := bindE hF
     refine wl_call rfl Try.call164 (C_impl_IsSpot w47 u26 _ hu52) rfl ?_
     rintro _ w53 ⟨rfl, hb54⟩
     refine ⟨_, rfl, ?_⟩
     have hB55 := hB49.trans (hb54.mono hB49.size)
     have hS56 := hS50.below hb54
     have hSW58 := hSW51.ext hb54
     refine WL.nil (WH.ret hSW58 (WH.tk 2 rfl hP hSW58 (pr_not rfl rfl (WH.tk 3 rfl hP hSW58 (pr_move rfl rfl ?_)))))
     rcases bE (!u52) with h59 | h59
     ·replace hF := ifP h59 hF
      refine WH.off (i := 4) rfl (by kernel_rfl) (by kernel_rfl) (by kernel_rfl) hP rfl rfl h59 rfl hSW58 (WH.off (i := 5) rfl (by kernel_rfl) (by kernel_rfl) (by kernel_rfl) hP rfl rfl h59 rfl hSW58 (WH.off (i := 6) rfl (by kernel_rfl) (by kernel_rfl) (by kernel_rfl) hP rfl rfl h59 rfl hSW58 (WH.off (i := 7) rfl (by kernel_rfl) (by kernel_rfl) (by kernel_rfl) hP rfl rfl h59 rfl hSW58 (WH.off (i := 8) rfl (by kernel_rfl) (by kernel_rfl) (by kernel_rfl) hP rfl rfl h59 rfl hSW58 (WH.tk 9 rfl hP hSW58 (pr_pick_t rfl rfl h59 rfl (WH.done (by kernel_rfl) ?_)))))))
      exact fun a ha => hJ44 (true) _ hF hB55 (hS56.sel [] rfl) a (ha.sub ⟨rfl, rfl, rfl, rfl, rfl, trivial⟩)
     ·replace hF := ifN h59 hF
      refine WH.takexg (i := 4) rfl (by kernel_rfl) (by kernel_rfl) (by kernel_rfl) hP rfl rfl h59 hSW58 (pr_move rfl rfl (WH.takexg (i := 5) rfl (by kernel_rfl) (by kernel_rfl) (by kernel_rfl) hP rfl rfl h59 hSW58 (pr_move rfl rfl ?_)))
      obtain ⟨u60, hu60, hF⟩ := bindE hF
      refine WH.takexg (i := 6) rfl (by kernel_rfl) (by kernel_rfl) (by kernel_rfl) hP rfl rfl h59 hSW58 (pr_slice (e := ty_68) Try.underlying63 rfl rfl h0_0 hu60 (.inl ⟨rfl, rfl⟩) (.inr ⟨_, _, rfl, rfl⟩) ?_)
      intro v61 hv62
      refine WH.takexg (i := 7) rfl (by kernel_rfl) (by kernel_rfl) (by kernel_rfl) hP rfl rfl h59 hSW58 (pr_load_blk (i := 0) (vs := [(.int .i64 u26.1), (.int .i64 u26.2)]) (v := (.agg #[(.int .i64 u26.1), (.int .i64 u26.2)])) tf_68 rfl rfl hS50 rfl rfl rfl (by simp) (WH.on1 8 rfl (wl_on rfl rfl h59 ?_)))
      obtain ⟨u63, hu63, hF⟩ := bindE hF
      refine wl_call rfl Try.call264 (C_slices_Contains_impl_Spot_impl_Spot w53 u60 v61 (hv62.ro hB55) u26 _ hu63) rfl ?_
      rintro _ w65 ⟨rfl, hb66⟩
      refine ⟨_, rfl, ?_⟩
      have hB67 := hB55.trans (hb66.mono hB55.size)
      have hS68 := hS56.below hb66
      have hSW70 := hSW58.ext hb66
      refine WL.nil (WH.ret hSW70 (WH.tk 9 rfl hP hSW70 (pr_pick_f rfl rfl h59 rfl (WH.done (by kernel_rfl) ?_))))
      exact fun a ha => hJ44 (u63) _ hF hB67 (hS68.sel [] rfl) a (ha.sub ⟨rfl, rfl, rfl, rfl, rfl, trivial⟩)
    ·replace hF := ifN h23 hF
     refine W.exit fun a ha => hK12 _ _ (W.seq fun K71 hK71 => (W.region (wl_assign rfl rfl (WL.nil (fun a ha => hK71 _ _ (W.ret ?_) a ha))))) a ha
     have hr := Option.some.inj hF
     subst hr
     exact rets (vs := [(.bool true)]) hQ rfl ⟨rv_tmp rfl, trivial⟩ ⟨rfl, hB15⟩
theorem C_impl_areCharts (w0 : World) (x0 : (List (List (Int × Int)))) (v0_0 : Value) (h0_0 : rdS ty_63 (· < w0.heap.size) w0 v0_0 x0) (x1 : (List Int)) (v1_0 : Value) (h1_0 : rdS ty_3 (· < w0.heap.size) w0 v1_0 x1) (r : Bool) (hF : F_impl_areCharts x0 x1 = some r) :
  Calls Try.prog 175 [v0_0, v1_0].toArray w0 fun e w' => e = .returned (.bool r) ∧ Below w0.heap.size w0 w' := by
 refine calls_mk' Try.func175 rfl Try.ntmps175 rfl rfl fun Q hQ hP => ?_
 have hB : Below w0.heap.size w0 w0 := Below.refl _ _
 have hS : Sep w0.heap.size w0 [] := Sep.nil _ _
 unfold F_impl_areCharts at hF
 refine W.seq fun K1 hK1 => W.region (wl_assign rfl rfl (WL.nil (fun a ha => hK1 _ _ (W.seq fun K2 hK2 => (W.seq fun K3 hK3 => ?_)) a ha)))
 obtain ⟨k8, hk8, hF⟩ := jE1 hF
 have hJ9 : ∀ (y7 : Bool) (w4 : World) (_ : k8 y7 = some r) (_ : Below w0.heap.size w0 w4) (_ : Sep w0.heap.size w4 []), ∀ a, St 50 [(0, v0_0), (1, v1_0), (20, (.bool y7))] a → K3 a w4 := by
  intro y7 w4 hF hB5 hS6
  subst hk8
  refine fun a ha => hK3 _ _ (W.cond rfl (fun h10 => ?_) (fun h10 => ?_)) a ha
  ·replace hF := ifP h10 hF
   refine W.seq fun K11 hK11 => W.region (wl_assign rfl rfl (WL.nil (fun a ha => hK11 _ _ (W.ret ?_) a ha)))
   have hr := Option.some.inj hF
   subst hr
   exact rets (vs := [(.bool false)]) hQ rfl ⟨rv_tmp rfl, trivial⟩ ⟨rfl, hB5⟩
  ·replace hF := ifN h10 hF
   refine W.skip fun a ha => hK2 _ _ (W.seq fun K12 hK12 => (W.seq fun K13 hK13 => (W.region (wl_move rfl rfl (wl_lenr (e := ty_63) (l := x0) Try.underlying51 rfl rfl h0_0 (wl_move rfl rfl (WL.nil (fun a ha => hK13 _ _ (W.block (W.loopk (fun m a w14 => ∃ (y17 : Int), St 50 [(0, v0_0), (1, v1_0), (21, v0_0), (22, (.int .i64 (List.length x0 : Int))), (23, (.int .i64 y17))] a ∧ Below w0.heap.size w0 w14 ∧ Sep w0.heap.size w14 [] ∧ F_impl_areCharts_L1 x0 x1 m y17 = some r) FU ?_ ?_)) a ha)))))))) a ha
   ·
    exact fun a ha => ⟨0, ha.sub ⟨rfl, rfl, rfl, rfl, rfl, trivial⟩, hB5, (hS6.sel [] rfl), hF⟩
   ·
    rintro m20 a w14 ⟨y17, ha, hB15, hS16, hF⟩ KL19 hKL19
    refine W.at ?_ ha
    cases m20 with
    | zero => exact noneE hF
    | succ m20 =>
     obtain ⟨nx18, hnx18⟩ : ∃ k, k = F_impl_areCharts_L1 x0 x1 m20 := ⟨_, rfl⟩
     rw [F_impl_areCharts_L1, ← hnx18] at hF
     refine W.seq fun K21 hK21 => W.region (wl_lss rfl rfl rfl (WL.nil (fun a ha => hK21 _ _ (W.seq fun K22 hK22 => (W.cond rfl (fun h23 => ?_) (fun h23 => ?_))) a ha)))
     ·replace hF := ifP h23 hF
      refine W.skip fun a ha => hK22 _ _ (W.seq fun K24 hK24 => (W.block (W.seq fun K25 hK25 => (W.region ?_)))) a ha
      obtain ⟨u26, hu26, hF⟩ := bindE hF
      refine wl_index (e := ty_63) Try.underlying51 rfl rfl rfl h0_0 hu26 ?_
      rintro p27 _ ⟨v29, rfl, hv30⟩ hp28
      refine wl_load_p (vs := [v29]) (v := v29) tf_63 rfl rfl (hp28.ro hB15) rfl rfl (wl_assign rfl rfl (WL.nil (fun a ha => hK25 _ _ (W.seq fun K31 hK31 => ?_) a ha)))
      obtain ⟨k36, hk36, hF⟩ := jE1 hF
      have hJ37 : ∀ (y35 : Bool) (w32 : World) (_ : k36 y35 = some r) (_ : Below w0.heap.size w0 w32) (_ : Sep w0.heap.size w32 []), ∀ a, St 50 [(0, v0_0), (1, v1_0), (21, v0_0), (22, (.int .i64 (List.length x0 : Int))), (23, (.int .i64 y17)), (38, (.bool y35))] a → K31 a w32 := by
       intro y35 w32 hF hB33 hS34
       subst hk36
       refine fun a ha => hK31 _ _ (W.cond rfl (fun h38 => ?_) (fun h38 => ?_)) a ha
       ·replace hF := ifP h38 hF
        refine W.seq fun K39 hK39 => W.region (wl_assign rfl rfl (WL.nil (fun a ha => hK39 _ _ (W.ret ?_) a ha)))
        have hr := Option.some.inj hF
        subst hr
        exact rets (vs := [(.bool false)]) hQ rfl ⟨rv_tmp rfl, trivial⟩ ⟨rfl, hB33⟩
       ·replace hF := ifN h38 hF
        refine W.skip fun a ha => hK24 _ _ (W.region (wl_add rfl rfl rfl (wl_move rfl rfl (WL.nil ?_)))) a ha
        rw [hnx18] at hF
        exact fun a ha => hKL19 a _ m20 (Nat.lt_succ_self m20) ⟨(w64 (y17 + 1)), ha.sub ⟨rfl, rfl, rfl, rfl, rfl, trivial⟩, hB33, (hS34.sel [] rfl), hF⟩
      refine W.region (wl_move rfl rfl ?_)
      obtain ⟨u40, hu40, hF⟩ := bindE hF
      refine wl_call rfl Try.call242 (C_impl_IsChart w14 u26 v29 (hv30.ro hB15) _ hu40) rfl ?_
      rintro _ w41 ⟨rfl, hb42⟩
      refine ⟨_, rfl, ?_⟩
      have hB43 := hB15.trans (hb42.mono hB15.size)
      have hS44 := hS16.below hb42
      refine wl_not rfl rfl (wl_move rfl rfl ?_)
      rcases bE (!u40) with h46 | h46
      ·replace hF := ifP h46 hF
       refine wl_off rfl rfl rfl h46 (wl_off rfl rfl rfl h46 (wl_off rfl rfl rfl h46 (wl_off rfl rfl rfl h46 (wl_off rfl rfl rfl h46 (wl_off rfl rfl rfl h46 (wl_off rfl rfl rfl h46 (wl_pick_t rfl rfl h46 rfl (WL.nil ?_))))))))
       exact fun a ha => hJ37 (true) _ hF hB43 (hS44.sel [] rfl) a (ha.sub ⟨rfl, rfl, rfl, rfl, rfl, rfl, trivial⟩)
      ·replace hF := ifN h46 hF
       refine wl_on rfl rfl h46 (wl_move rfl rfl (wl_on rfl rfl h46 (wl_lenr (e := ty_68) (l := u26) Try.underlying63 rfl rfl hv30 (wl_on rfl rfl h46 (wl_move rfl rfl (wl_on rfl rfl h46 ?_))))))
       obtain ⟨u47, hu47, hF⟩ := bindE hF
       refine wl_index (e := ty_63) Try.underlying51 rfl rfl rfl h0_0 hu47 ?_
       rintro p48 _ ⟨v50, rfl, hv51⟩ hp49
       refine wl_on rfl rfl h46 (wl_load_p (vs := [v50]) (v := v50) tf_63 rfl rfl (hp49.ro hB43) rfl rfl (wl_on rfl rfl h46 (wl_lenr (e := ty_68) (l := u47) Try.underlying63 rfl rfl hv51 (wl_on rfl rfl h46 (wl_neq rfl rfl rfl (wl_pick_f rfl rfl h46 rfl (WL.nil ?_)))))))
       exact fun a ha => hJ37 (((List.length u26 : Int) != (List.length u47 : Int))) _ hF hB43 (hS44.sel [] rfl) a (ha.sub ⟨rfl, rfl, rfl, rfl, rfl, rfl, trivial⟩)
     ·replace hF := ifN h23 hF
      refine W.exit fun a ha => hK12 _ _ (W.seq fun K52 hK52 => (W.seq fun K53 hK53 => (W.region (wl_move rfl rfl (wl_lenr (e := ty_3) (l := x1) Try.underlying29 rfl rfl h1_0 (wl_move rfl rfl (WL.nil (fun a ha => hK53 _ _ (W.block (W.loopk (fun m a w54 => ∃ (y57 : Int), St 50 [(40, v1_0), (41, (.int .i64 (List.length x1 : Int))), (42, (.int .i64 y57))] a ∧ Below w0.heap.size w0 w54 ∧ Sep w0.heap.size w54 [] ∧ F_impl_areCharts_L2 x1 m y57 = some r) FU ?_ ?_)) a ha)))))))) a ha
      ·
       exact fun a ha => ⟨0, ha.sub ⟨rfl, rfl, rfl, trivial⟩, hB15, (hS16.sel [] rfl), hF⟩
      ·
       rintro m60 a w54 ⟨y57, ha, hB55, hS56, hF⟩ KL59 hKL59
       refine W.at ?_ ha
       cases m60 with
       | zero => exact noneE hF
       | succ m60 =>
        obtain ⟨nx58, hnx58⟩ : ∃ k, k = F_impl_areCharts_L2 x1 m60 := ⟨_, rfl⟩
        rw [F_impl_areCharts_L2, ← hnx58] at hF
        refine W.seq fun K61 hK61 => W.region (wl_lss rfl rfl rfl (WL.nil (fun a ha => hK61 _ _ (W.seq fun K62 hK62 => (W.cond rfl (fun h63 => ?_) (fun h63 => ?_))) a ha)))
        ·replace hF := ifP h63 hF
         refine W.skip fun a ha => hK62 _ _ (W.seq fun K64 hK64 => (W.block (W.seq fun K65 hK65 => (W.region ?_)))) a ha
         obtain ⟨u66, hu66, hF⟩ := bindE hF
         refine wl_index (e := ty_3) Try.underlying29 rfl rfl rfl h1_0 hu66 ?_
         rintro p67 _ rfl hp68
         refine wl_load_p (vs := [(.int .i64 u66)]) (v := (.int .i64 u66)) tf_3 rfl rfl (hp68.ro hB55) rfl rfl (wl_assign rfl rfl (WL.nil (fun a ha => hK65 _ _ (W.seq fun K69 hK69 => (W.region (wl_move rfl rfl ?_))) a ha)))
         obtain ⟨u70, hu70, hF⟩ := bindE hF
         refine wl_call rfl Try.call128 (C_impl_within w54 u66 1 64 _ hu70) rfl ?_
         rintro _ w71 ⟨rfl, hb72⟩
         refine ⟨_, rfl, ?_⟩
         have hB73 := hB55.trans (hb72.mono hB55.size)
         have hS74 := hS56.below hb72
         refine wl_not rfl rfl (WL.nil (fun a ha => hK69 _ _ (W.cond rfl (fun h76 => ?_) (fun h76 => ?_)) a ha))
         ·replace hF := ifP h76 hF
          refine W.seq fun K77 hK77 => W.region (wl_assign rfl rfl (WL.nil (fun a ha => hK77 _ _ (W.ret ?_) a ha)))
          have hr := Option.some.inj hF
          subst hr
          exact rets (vs := [(.bool false)]) hQ rfl ⟨rv_tmp rfl, trivial⟩ ⟨rfl, hB73⟩
         ·replace hF := ifN h76 hF
          refine W.skip fun a ha => hK64 _ _ (W.region (wl_add rfl rfl rfl (wl_move rfl rfl (WL.nil ?_)))) a ha
          rw [hnx58] at hF
          exact fun a ha => hKL59 a _ m60 (Nat.lt_succ_self m60) ⟨(w64 (y57 + 1)), ha.sub ⟨rfl, rfl, rfl, trivial⟩, hB73, (hS74.sel [] rfl), hF⟩
        ·replace hF := ifN h63 hF
         refine W.exit fun a ha => hK52 _ _ (W.seq fun K78 hK78 => (W.region (wl_assign rfl rfl (WL.nil (fun a ha => hK78 _ _ (W.ret ?_) a ha))))) a ha
         have hr := Option.some.inj hF
         subst hr
         exact rets (vs := [(.bool true)]) hQ rfl ⟨rv_tmp rfl, trivial⟩ ⟨rfl, hB55⟩
 refine W.region (wl_move rfl rfl (wl_lenr (e := ty_63) (l := x0) Try.underlying51 rfl rfl h0_0 ?_))
 obtain ⟨u79, hu79, hF⟩ := bindE hF
 refine wl_call rfl Try.call128 (C_impl_within w0 (List.length x0 : Int) 1 9 _ hu79) rfl ?_
 rintro _ w80 ⟨rfl, hb81⟩
 refine ⟨_, rfl, ?_⟩
 have hB82 := hB.trans (hb81.mono hB.size)
 have hS83 := hS.below hb81
 refine wl_not rfl rfl (wl_move rfl rfl ?_)
 rcases bE (!u79) with h85 | h85
 ·replace hF := ifP h85 hF
  refine wl_off rfl rfl rfl h85 (wl_off rfl rfl rfl h85 (wl_off rfl rfl rfl h85 (wl_off rfl rfl rfl h85 (wl_off rfl rfl rfl h85 (wl_off rfl rfl rfl h85 (wl_pick_t rfl rfl h85 rfl (WL.nil ?_)))))))
  exact fun a ha => hJ9 (true) _ hF hB82 (hS83.sel [] rfl) a (ha.sub ⟨rfl, rfl, rfl, trivial⟩)
 ·replace hF := ifN h85 hF
  refine wl_on rfl rfl h85 (wl_move rfl rfl (wl_on rfl rfl h85 (wl_lenr (e := ty_3) (l := x1) Try.underlying29 rfl rfl h1_0 (wl_on rfl rfl h85 (wl_move rfl rfl (wl_on rfl rfl h85 (wl_lenr (e := ty_63) (l := x0) Try.underlying51 rfl rfl h0_0 (wl_on rfl rfl h85 (wl_sub rfl rfl rfl (wl_on rfl rfl h85 (wl_neq rfl rfl rfl (wl_pick_f rfl rfl h85 rfl (WL.nil ?_)))))))))))))
  exact fun a ha => hJ9 (((List.length x1 : Int) != (w64 ((List.length x0 : Int) - 1)))) _ hF hB82 (hS83.sel [] rfl) a (ha.sub ⟨rfl, rfl, rfl, trivial⟩)
theorem C_impl_isLeast (w0 : World) (x0 : Int) (r : Bool) (hF : F_impl_isLeast x0 = some r) :
  Calls Try.prog 176 [(.int .i64 x0)].toArray w0 fun e w' => e = .returned (.bool r) ∧ Below w0.heap.size w0 w' := by
 refine calls_mk' Try.func176 rfl Try.ntmps176 rfl rfl fun Q hQ hP => ?_
 have hB : Below w0.heap.size w0 w0 := Below.refl _ _
 unfold F_impl_isLeast at hF
 refine W.seq fun K1 hK1 => W.region (wl_assign rfl rfl (WL.nil (fun a ha => hK1 _ _ (W.seq fun K2 hK2 => (W.region (wl_move rfl rfl ?_))) a ha)))
 obtain ⟨u3, hu3, hF⟩ := bindE hF
 refine wl_call rfl Try.call128 (C_impl_within w0 x0 0 80 _ hu3) rfl ?_
 rintro _ w4 ⟨rfl, hb5⟩
 refine ⟨_, rfl, ?_⟩
 have hB6 := hB.trans (hb5.mono hB.size)
 refine wl_assign rfl rfl (WL.nil (fun a ha => hK2 _ _ (W.ret ?_) a ha))
 have hr := Option.some.inj hF
 subst hr
 exact rets (vs := [(.bool u3)]) hQ rfl ⟨rv_tmp rfl, trivial⟩ ⟨rfl, hB6⟩
theorem C_impl_IsShow (w0 : World) (x0 : ((List (List (Int × Int))) × (List Int) × Int × Int)) (v0_0 : Value) (h0_0 : rdS ty_63 (· < w0.heap.size) w0 v0_0 x0.1) (v0_1 : Value) (h0_1 : rdS ty_3 (· < w0.heap.size) w0 v0_1 x0.2.1) (r : Bool) (hF : F_impl_IsShow x0 = some r) :
  Calls Try.prog 60 [(.agg #[v0_0, v0_1, (.int .i64 x0.2.2.1), (.int .i64 x0.2.2.2)])].toArray w0 fun e w' => e = .returned (.bool r) ∧ Below w0.heap.size w0 w' := by
 refine calls_mk' Try.func60 rfl Try.ntmps60 rfl rfl fun Q hQ hP => ?_
 have hB : Below w0.heap.size w0 w0 := Below.refl _ _
 have hS : Sep w0.heap.size w0 [] := Sep.nil _ _
 unfold F_impl_IsShow at hF
 refine W.seq fun K1 hK1 => W.region (wl_box (cs := [v0_0, v0_1, (.int .i64 x0.2.2.1), (.int .i64 x0.2.2.2)]) rfl rfl rfl hB hS ?_)
 intro b2 w3 hb4 hB5 hS6
 refine wl_assign rfl rfl (WL.nil (fun a ha => hK1 _ _ (W.seq fun K7 hK7 => ?_) a ha))
 obtain ⟨k12, hk12, hF⟩ := jE1 hF
 have hJ13 : ∀ (y11 : Bool) (w8 : World) (_ : k12 y11 = some r) (_ : Below w0.heap.size w0 w8) (_ : Sep w0.heap.size w8 []), ∀ a, St 24 [(2, (.bool y11))] a → K7 a w8 := by
  intro y11 w8 hF hB9 hS10
  subst hk12
  refine fun a ha => hK7 _ _ (W.ret ?_) a ha
  have hr := Option.some.inj hF
  subst hr
  exact rets (vs := [(.bool y11)]) hQ rfl ⟨rv_tmp rfl, trivial⟩ ⟨rfl, hB9⟩
 refine W.region (wl_field (o := 0) (off' := 0) ff_53_0 rfl rfl rfl (wl_load_blk (i := 0) (vs := [v0_0]) (v := v0_0) tf_51 rfl rfl hS6 rfl rfl rfl (wl_lenr (e := ty_63) (l := x0.1) Try.underlying51 rfl rfl h0_0 ?_)))
 obtain ⟨u14, hu14, hF⟩ := bindE hF
 refine wl_call rfl Try.call128 (C_impl_within w3 (List.length x0.1 : Int) 2 8 _ hu14) rfl ?_
 rintro _ w15 ⟨rfl, hb16⟩
 refine ⟨_, rfl, ?_⟩
 have hB17 := hB5.trans (hb16.mono hB5.size)
 have hS18 := hS6.below hb16
 refine wl_move rfl rfl ?_
 rcases bE u14 with h20 | h20
 ·replace hF := ifP h20 hF
  refine wl_on rfl rfl h20 (wl_field (o := 0) (off' := 0) ff_53_0 rfl rfl rfl (wl_on rfl rfl h20 (wl_load_blk (i := 0) (vs := [v0_0]) (v := v0_0) tf_51 rfl rfl hS18 rfl rfl rfl (wl_on rfl rfl h20 (wl_field (o := 1) (off' := 1) ff_53_1 rfl rfl rfl (wl_on rfl rfl h20 (wl_load_blk (i := 0) (vs := [v0_1]) (v := v0_1) tf_29 rfl rfl hS18 rfl rfl rfl (wl_on rfl rfl h20 ?_))))))))
  obtain ⟨u21, hu21, hF⟩ := bindE hF
  refine wl_call rfl Try.call175 (C_impl_areCharts w15 x0.1 v0_0 (h0_0.ro hB17) x0.2.1 v0_1 (h0_1.ro hB17) _ hu21) rfl ?_
  rintro _ w22 ⟨rfl, hb23⟩
  refine ⟨_, rfl, ?_⟩
  have hB24 := hB17.trans (hb23.mono hB17.size)
  have hS25 := hS18.below hb23
  refine wl_pick_t rfl rfl h20 rfl (wl_move rfl rfl ?_)
  rcases bE u21 with h27 | h27
  ·replace hF := ifP h27 hF
   refine wl_on rfl rfl h27 (wl_field (o := 2) (off' := 2) ff_53_2 rfl rfl rfl (wl_on rfl rfl h27 (wl_load_blk (i := 0) (vs := [(.int .i64 x0.2.2.1)]) (v := (.int .i64 x0.2.2.1)) tf_3 rfl rfl hS25 rfl rfl rfl (wl_on rfl rfl h27 ?_))))
   obtain ⟨u28, hu28, hF⟩ := bindE hF
   refine wl_call rfl Try.call176 (C_impl_isLeast w22 x0.2.2.1 _ hu28) rfl ?_
   rintro _ w29 ⟨rfl, hb30⟩
   refine ⟨_, rfl, ?_⟩
   have hB31 := hB24.trans (hb30.mono hB24.size)
   have hS32 := hS25.below hb30
   refine wl_pick_t rfl rfl h27 rfl (wl_move rfl rfl ?_)
   rcases bE u28 with h34 | h34
   ·replace hF := ifP h34 hF
    refine wl_on rfl rfl h34 (wl_field (o := 3) (off' := 3) ff_53_3 rfl rfl rfl (wl_on rfl rfl h34 (wl_load_blk (i := 0) (vs := [(.int .i64 x0.2.2.2)]) (v := (.int .i64 x0.2.2.2)) tf_3 rfl rfl hS32 rfl rfl rfl (wl_on rfl rfl h34 ?_))))
    obtain ⟨u35, hu35, hF⟩ := bindE hF
    refine wl_call rfl Try.call128 (C_impl_within w29 x0.2.2.2 1 24 _ hu35) rfl ?_
    rintro _ w36 ⟨rfl, hb37⟩
    refine ⟨_, rfl, ?_⟩
    have hB38 := hB31.trans (hb37.mono hB31.size)
    have hS39 := hS32.below hb37
    refine wl_pick_t rfl rfl h34 rfl (wl_assign rfl rfl (WL.nil ?_))
    exact fun a ha => hJ13 (u35) _ hF hB38 (hS39.sel [] rfl) a (ha.sub ⟨rfl, trivial⟩)
   ·replace hF := ifN h34 hF
    refine wl_off rfl rfl rfl h34 (wl_off rfl rfl rfl h34 (wl_off rfl rfl rfl h34 (wl_pick_f rfl rfl h34 rfl (wl_assign rfl rfl (WL.nil ?_)))))
    exact fun a ha => hJ13 (false) _ hF hB31 (hS32.sel [] rfl) a (ha.sub ⟨rfl, trivial⟩)
  ·replace hF := ifN h27 hF
   refine wl_off rfl rfl rfl h27 (wl_off rfl rfl rfl h27 (wl_off rfl rfl rfl h27 (wl_pick_f rfl rfl h27 rfl (wl_move rfl rfl (wl_off rfl rfl rfl rfl (wl_off rfl rfl rfl rfl (wl_off rfl rfl rfl rfl (wl_pick_f rfl rfl rfl rfl (wl_assign rfl rfl (WL.nil ?_))))))))))
   exact fun a ha => hJ13 (false) _ hF hB24 (hS25.sel [] rfl) a (ha.sub ⟨rfl, trivial⟩)
 ·replace hF := ifN h20 hF
  refine wl_off rfl rfl rfl h20 (wl_off rfl rfl rfl h20 (wl_off rfl rfl rfl h20 (wl_off rfl rfl rfl h20 (wl_off rfl rfl rfl h20 (wl_pick_f rfl rfl h20 rfl (wl_move rfl rfl (wl_off rfl rfl rfl rfl (wl_off rfl rfl rfl rfl (wl_off rfl rfl rfl rfl (wl_pick_f rfl rfl rfl rfl (wl_move rfl rfl (wl_off rfl rfl rfl rfl (wl_off rfl rfl rfl rfl ?_)))))))))))))
  refine wl_off rfl rfl rfl rfl (wl_pick_f rfl rfl rfl rfl (wl_assign rfl rfl (WL.nil ?_)))
  exact fun a ha => hJ13 (false) _ hF hB17 (hS18.sel [] rfl) a (ha.sub ⟨rfl, trivial⟩)
theorem C_spec_l1Most (w0 : World) (x0 : Int) (x1 : Int) (r : Int) (hF : F_spec_l1Most x0 x1 = some r) :
  Calls Try.prog 131 [(.int .i64 x0), (.int .i64 x1)].toArray w0 fun e w' => e = .returned (.int .i64 r) ∧ Below w0.heap.size w0 w' := by
 refine calls_mk' Try.func131 rfl Try.ntmps131 rfl rfl fun Q hQ hP => ?_
 have hB : Below w0.heap.size w0 w0 := Below.refl _ _
 unfold F_spec_l1Most at hF
 refine W.seq fun K1 hK1 => W.region (wl_assign rfl rfl (WL.nil (fun a ha => hK1 _ _ (W.seq fun K2 hK2 => (W.seq fun K3 hK3 => (W.region (wl_move rfl rfl (wl_move rfl rfl (wl_gtr rfl rfl rfl (WL.nil (fun a ha => hK3 _ _ (W.cond rfl (fun h4 => ?_) (fun h4 => ?_)) a ha)))))))) a ha)))
 ·replace hF := ifP h4 hF
  refine W.seq fun K5 hK5 => W.region (wl_move rfl rfl (wl_assign rfl rfl (WL.nil (fun a ha => hK5 _ _ (W.ret ?_) a ha))))
  have hr := Option.some.inj hF
  subst hr
  exact rets (vs := [(.int .i64 x0)]) hQ rfl ⟨rv_tmp rfl, trivial⟩ ⟨rfl, hB⟩
 ·replace hF := ifN h4 hF
  refine W.skip fun a ha => hK2 _ _ (W.seq fun K6 hK6 => (W.region (wl_move rfl rfl (wl_assign rfl rfl (WL.nil (fun a ha => hK6 _ _ (W.ret ?_) a ha)))))) a ha
  have hr := Option.some.inj hF
  subst hr
  exact rets (vs := [(.int .i64 x1)]) hQ rfl ⟨rv_tmp rfl, trivial⟩ ⟨rfl, hB⟩
theorem C_impl_showMoves (w0 : World) (x0 : ((List (List (Int × Int))) × (List Int) × Int × Int)) (v0_0 : Value) (h0_0 : rdS ty_63 (· < w0.heap.size) w0 v0_0 x0.1) (v0_1 : Value) (h0_1 : rdS ty_3 (· < w0.heap.size) w0 v0_1 x0.2.1) (x1 : Int) (r : (List ((Int × Int) × (Int × Int) × Int))) (hF : F_impl_showMoves x0 x1 = some r) :
  Calls Try.prog 152 [(.agg #[v0_0, v0_1, (.int .i64 x0.2.2.1), (.int .i64 x0.2.2.2)]), (.int .i64 x1)].toArray w0 fun e w' => ∃ (q0 : Value) (G0 : List Nat), e = .returned q0 ∧ Below w0.heap.size w0 w' ∧ Sep w0.heap.size w' [R.own ty_70 G0 q0 r] := by
 refine calls_mk' Try.func152 rfl Try.ntmps152 rfl rfl fun Q hQ hP => ?_
 have hB : Below w0.heap.size w0 w0 := Below.refl _ _
 have hS : Sep w0.heap.size w0 [] := Sep.nil _ _
 unfold F_impl_showMoves at hF
 refine W.seq fun K1 hK1 => W.region (wl_box (cs := [v0_0, v0_1, (.int .i64 x0.2.2.1), (.int .i64 x0.2.2.2)]) rfl rfl rfl hB hS ?_)
 intro b2 w3 hb4 hB5 hS6
 refine wl_assign rfl rfl (WL.nil (fun a ha => hK1 _ _ (W.seq fun K7 hK7 => (W.region (wl_lit (vs := []) (l := []) fl_70 Try.underlying64 rfl rfl rfl rfl rfl rfl hB5 hS6 ?_))) a ha))
 intro v8 F9 w10 hb11 hB12 hS13
 refine wl_assign rfl rfl (WL.nil (fun a ha => hK7 _ _ (W.seq fun K14 hK14 => (W.seq fun K15 hK15 => (W.region (wl_field (o := 0) (off' := 0) ff_53_0 rfl rfl rfl (wl_load_blk (i := 1) (vs := [v0_0]) (v := v0_0) tf_51 rfl rfl hS13 rfl rfl rfl (wl_move rfl rfl ?_)))))) a ha))
 obtain ⟨u16, hu16, hF⟩ := bindE hF
 refine wl_index (e := ty_63) Try.underlying51 rfl rfl rfl h0_0 hu16 ?_
 rintro p17 _ ⟨v19, rfl, hv20⟩ hp18
 refine wl_load_p (vs := [v19]) (v := v19) tf_63 rfl rfl (hp18.ro hB12) rfl rfl (wl_lenr (e := ty_68) (l := u16) Try.underlying63 rfl rfl hv20 (wl_move rfl rfl (WL.nil (fun a ha => hK15 _ _ (W.block (W.loopk (fun m a w21 => ∃ (l24 : (List ((Int × Int) × (Int × Int) × Int))) (y27 : Int) (v25 : Value) (F26 : List Nat), St 41 [(1, (.int .i64 x1)), (2, (.pointer (some ⟨b2, 0, none⟩))), (5, v25), (13, v19), (14, (.int .i64 (List.length u16 : Int))), (15, (.int .i64 y27))] a ∧ Below w0.heap.size w0 w21 ∧ Sep w0.heap.size w21 [R.blk b2 53 [v0_0, v0_1, (.int .i64 x0.2.2.1), (.int .i64 x0.2.2.2)], R.own ty_70 F26 v25 l24] ∧ F_impl_showMoves_L1 u16 x0 x1 m l24 y27 = some r) FU ?_ ?_)) a ha))))
 ·
  exact fun a ha => ⟨[], 0, v8, F9, ha.sub ⟨rfl, rfl, rfl, rfl, rfl, rfl, trivial⟩, hB12, (hS13.sel [1, 0] rfl), hF⟩
 ·
  rintro m30 a w21 ⟨l24, y27, v25, F26, ha, hB22, hS23, hF⟩ KL29 hKL29
  refine W.at ?_ ha
  cases m30 with
  | zero => exact noneE hF
  | succ m30 =>
   obtain ⟨nx28, hnx28⟩ : ∃ k, k = F_impl_showMoves_L1 u16 x0 x1 m30 := ⟨_, rfl⟩
   rw [F_impl_showMoves_L1, ← hnx28] at hF
   refine W.seq fun K31 hK31 => W.region (wl_lss rfl rfl rfl (WL.nil (fun a ha => hK31 _ _ (W.seq fun K32 hK32 => (W.cond rfl (fun h33 => ?_) (fun h33 => ?_))) a ha)))
   ·replace hF := ifP h33 hF
    refine W.skip fun a ha => hK32 _ _ (W.seq fun K34 hK34 => (W.block (W.seq fun K35 hK35 => (W.region (wl_move rfl rfl ?_))))) a ha
    obtain ⟨u36, hu36, hF⟩ := bindE hF
    refine wl_index (e := ty_68) Try.underlying63 rfl rfl rfl hv20 hu36 ?_
    rintro p37 _ rfl hp38
    refine wl_load_p (vs := [(.int .i64 u36.1), (.int .i64 u36.2)]) (v := (.agg #[(.int .i64 u36.1), (.int .i64 u36.2)])) tf_68 rfl rfl (hp38.ro hB22) rfl rfl (wl_alloc (cs := [(.int .i64 0), (.int .i64 0)]) tf_68 rfl rfl hB22 hS23 ?_)
    intro b39 w40 hb41 hB42 hS43
    refine wl_assign rfl rfl (wl_store_blk (i := 0) (vs := [(.int .i64 u36.1), (.int .i64 u36.2)]) (cs' := [(.int .i64 u36.1), (.int .i64 u36.2)]) tf_68 rfl rfl rfl rfl hB42 hS43 rfl rfl ⟨rfl, rfl, trivial⟩ rfl ?_)
    intro w44 hk47 hB45 hS46
    refine WL.nil fun a ha => hK35 _ _ (W.regionH mixed_ F26 hB45 hS46 ?_) a ha
    intro w48 hb49 hB50 hS51
    have hSW52 := KeepX.refl w48 F26
    refine WH.tk 0 rfl hP hSW52 (pr_move rfl rfl (WH.tk 1 rfl hP hSW52 (pr_load_blk (i := 0) (vs := [(.int .i64 u36.1), (.int .i64 u36.2)]) (v := (.agg #[(.int .i64 u36.1), (.int .i64 u36.2)])) tf_68 rfl rfl hS51 rfl rfl rfl (hS51.disj (i := 0) (j := 2) rfl rfl rfl b39 (by simp [R.blk])) (WH.tk 2 rfl hP hSW52 (pr_field (o := 0) (off' := 0) ff_53_0 rfl rfl rfl (WH.tk 3 rfl hP hSW52 (pr_load_blk (i := 1) (vs := [v0_0]) (v := v0_0) tf_51 rfl rfl hS51 rfl rfl rfl (hS51.disj (i := 1) (j := 2) rfl rfl rfl b2 (by simp [R.blk])) (WH.tk 4 rfl hP hSW52 (pr_move rfl rfl (WH.tk 5 rfl hP hSW52 (pr_add rfl rfl rfl ?_)))))))))))
    obtain ⟨u53, hu53, hF⟩ := bindE hF
    refine WH.tk 6 rfl hP hSW52 (pr_index (e := ty_63) Try.underlying51 rfl rfl rfl h0_0 hu53 ?_)
    rintro p54 _ ⟨v56, rfl, hv57⟩ hp55
    refine WH.tk 7 rfl hP hSW52 (pr_load_p (vs := [v56]) (v := v56) tf_63 rfl rfl (hp55.kx hB50 (fun b hb => (((hS51.get (i := 2) rfl).2.1 b hb).1))) rfl rfl (WH.tk 8 rfl hP hSW52 (pr_move rfl rfl ?_)))
    obtain ⟨u58, hu58, hF⟩ := bindE hF
    refine WH.tk 9 rfl hP hSW52 (pr_index (e := ty_68) Try.underlying63 rfl rfl rfl hv57 hu58 ?_)
    rintro p59 _ rfl hp60
    refine WH.tk 10 rfl hP hSW52 (pr_load_p (vs := [(.int .i64 u58.1), (.int .i64 u58.2)]) (v := (.agg #[(.int .i64 u58.1), (.int .i64 u58.2)])) tf_68 rfl rfl (hp60.kx hB50 (fun b hb => (((hS51.get (i := 2) rfl).2.1 b hb).1))) rfl rfl (WH.tk 11 rfl hP hSW52 (pr_field (o := 1) (off' := 1) ff_53_1 rfl rfl rfl (WH.tk 12 rfl hP hSW52 (pr_load_blk (i := 1) (vs := [v0_1]) (v := v0_1) tf_29 rfl rfl hS51 rfl rfl rfl (hS51.disj (i := 1) (j := 2) rfl rfl rfl b2 (by simp [R.blk])) (WH.tk 13 rfl hP hSW52 (pr_move rfl rfl ?_)))))))
    obtain ⟨u61, hu61, hF⟩ := bindE hF
    refine WH.tk 14 rfl hP hSW52 (pr_index (e := ty_3) Try.underlying29 rfl rfl rfl h0_1 hu61 ?_)
    rintro p62 _ rfl hp63
    refine WH.tk 15 rfl hP hSW52 (pr_load_p (vs := [(.int .i64 u61)]) (v := (.int .i64 u61)) tf_3 rfl rfl (hp63.kx hB50 (fun b hb => (((hS51.get (i := 2) rfl).2.1 b hb).1))) rfl rfl (WH.tk 16 rfl hP hSW52 (pr_build (zs := [(.int .i64 0), (.int .i64 0), (.int .i64 0), (.int .i64 0), (.int .i64 0)]) (out := [(.int .i64 u36.1), (.int .i64 u36.2), (.int .i64 u58.1), (.int .i64 u58.2), (.int .i64 u61)]) (vs := [(.agg #[(.int .i64 u36.1), (.int .i64 u36.2)]), (.agg #[(.int .i64 u58.1), (.int .i64 u58.2)]), (.int .i64 u61)]) (css := [[(.int .i64 u36.1), (.int .i64 u36.2)], [(.int .i64 u58.1), (.int .i64 u58.2)], [(.int .i64 u61)]]) tf_70 pl_70 rfl rfl rfl rfl rfl (WH.on1 17 rfl (wl_lit (vs := [(.agg #[(.int .i64 u36.1), (.int .i64 u36.2), (.int .i64 u58.1), (.int .i64 u58.2), (.int .i64 u61)])]) (l := [(u36, u58, u61)]) fl_70 Try.underlying64 rfl rfl rfl rfl rfl rfl (Below.self w48) (Sep.nil _ _) ?_)))))
    intro v64 F65 w66 hb67 hB70 hM71
    have hB68 := hB50.trans (hb67.mono hB50.size)
    have hS69 := hS51.join hb67 hM71 hB50.size
    have hSW73 := hSW52.ext hb67
    refine WL.nil (WH.ret hSW73 (WH.on1 18 rfl ?_))
    obtain ⟨u75, hu75, hF⟩ := bindE hF
    refine wl_append (i := 3) (S := (· < w66.heap.size)) fl_70 Try.underlying64 rfl rfl rfl hB68 hS69 rfl (hS69.own_ro (i := 0) rfl) hu75 ?_
    intro v76 F77 w78 hk79 hB80 hS81
    have hSW82 := hSW73.wr' hk79.1 hk79.2.1 (fun _ _ h => h)
    refine WL.nil (WH.ret hSW82 (WH.tk 19 rfl hP hSW82 (pr_assign rfl rfl (WH.done (by kernel_rfl) (fun a ha => hK34 _ _ (W.region (wl_add rfl rfl rfl (wl_move rfl rfl (WL.nil ?_)))) a ha)))))
    rw [hnx28] at hF
    exact fun a ha => hKL29 a _ m30 (Nat.lt_succ_self m30) ⟨u75, (w64 (y27 + 1)), v76, F77, ha.sub ⟨rfl, rfl, rfl, rfl, rfl, rfl, trivial⟩, hB80, (hS81.sel [2, 3] rfl), hF⟩
   ·replace hF := ifN h33 hF
    refine W.exit fun a ha => hK14 _ _ (W.seq fun K84 hK84 => (W.region (wl_move rfl rfl (wl_assign rfl rfl (WL.nil (fun a ha => hK84 _ _ (W.ret ?_) a ha)))))) a ha
    have hr := Option.some.inj hF
    subst hr
    exact rets (vs := [v25]) hQ rfl ⟨rv_tmp rfl, trivial⟩ ⟨v25, F26, rfl, hB22, hS23.sel [1] rfl⟩
theorem C_impl_squareOf (w0 : World) (x0 : (Int × Int)) (x1 : (Int × Int)) (r : Int) (hF : F_impl_squareOf x0 x1 = some r) :
  Calls Try.prog 153 [(.agg #[(.int .i64 x0.1), (.int .i64 x0.2)]), (.agg #[(.int .i64 x1.1), (.int .i64 x1.2)])].toArray w0 fun e w' => e = .returned (.int .i64 r) ∧ Below w0.heap.size w0 w' := by
 refine calls_mk' Try.func153 rfl Try.ntmps153 rfl rfl fun Q hQ hP => ?_
 have hB : Below w0.heap.size w0 w0 := Below.refl _ _
 have hS : Sep w0.heap.size w0 [] := Sep.nil _ _
 unfold F_impl_squareOf at hF
 refine W.seq fun K1 hK1 => W.region (wl_box (cs := [(.int .i64 x0.1), (.int .i64 x0.2)]) rfl rfl rfl hB hS ?_)
 intro b2 w3 hb4 hB5 hS6
 refine wl_box (cs := [(.int .i64 x1.1), (.int .i64 x1.2)]) rfl rfl rfl hB5 hS6 ?_
 intro b7 w8 hb9 hB10 hS11
 refine wl_assign rfl rfl (WL.nil (fun a ha => hK1 _ _ (W.seq fun K12 hK12 => (W.region (wl_field (o := 0) (off' := 0) ff_68_0 rfl rfl rfl (wl_load_blk (i := 1) (vs := [(.int .i64 x0.1)]) (v := (.int .i64 x0.1)) tf_3 rfl rfl hS11 rfl rfl rfl (wl_field (o := 0) (off' := 0) ff_68_0 rfl rfl rfl (wl_load_blk (i := 0) (vs := [(.int .i64 x1.1)]) (v := (.int .i64 x1.1)) tf_3 rfl rfl hS11 rfl rfl rfl (wl_sub rfl rfl rfl (wl_field (o := 0) (off' := 0) ff_68_0 rfl rfl rfl (wl_load_blk (i := 1) (vs := [(.int .i64 x0.1)]) (v := (.int .i64 x0.1)) tf_3 rfl rfl hS11 rfl rfl rfl (wl_field (o := 0) (off' := 0) ff_68_0 rfl rfl rfl (wl_load_blk (i := 0) (vs := [(.int .i64 x1.1)]) (v := (.int .i64 x1.1)) tf_3 rfl rfl hS11 rfl rfl rfl ?_))))))))))) a ha))
 refine wl_sub rfl rfl rfl (wl_mul rfl rfl rfl (wl_field (o := 1) (off' := 1) ff_68_1 rfl rfl rfl (wl_load_blk (i := 1) (vs := [(.int .i64 x0.2)]) (v := (.int .i64 x0.2)) tf_3 rfl rfl hS11 rfl rfl rfl (wl_field (o := 1) (off' := 1) ff_68_1 rfl rfl rfl (wl_load_blk (i := 0) (vs := [(.int .i64 x1.2)]) (v := (.int .i64 x1.2)) tf_3 rfl rfl hS11 rfl rfl rfl (wl_sub rfl rfl rfl (wl_field (o := 1) (off' := 1) ff_68_1 rfl rfl rfl (wl_load_blk (i := 1) (vs := [(.int .i64 x0.2)]) (v := (.int .i64 x0.2)) tf_3 rfl rfl hS11 rfl rfl rfl (wl_field (o := 1) (off' := 1) ff_68_1 rfl rfl rfl (wl_load_blk (i := 0) (vs := [(.int .i64 x1.2)]) (v := (.int .i64 x1.2)) tf_3 rfl rfl hS11 rfl rfl rfl (wl_sub rfl rfl rfl (wl_mul rfl rfl rfl (wl_add rfl rfl rfl ?_)))))))))))))
 refine wl_assign rfl rfl (WL.nil (fun a ha => hK12 _ _ (W.ret ?_) a ha))
 have hr := Option.some.inj hF
 subst hr
 exact rets (vs := [(.int .i64 (w64 ((w64 ((w64 (x0.1 - x1.1)) * (w64 (x0.1 - x1.1)))) + (w64 ((w64 (x0.2 - x1.2)) * (w64 (x0.2 - x1.2)))))))]) hQ rfl ⟨rv_tmp rfl, trivial⟩ ⟨rfl, hB10⟩
theorem C_spec_swMoves (w0 : World) (x0 : ((List (List (Int × Int))) × (List Int) × Int × Int)) (v0_0 : Value) (h0_0 : rdS ty_63 (· < w0.heap.size) w0 v0_0 x0.1) (v0_1 : Value) (h0_1 : rdS ty_3 (· < w0.heap.size) w0 v0_1 x0.2.1) (x1 : Int) (r : (List ((Int × Int) × (Int × Int) × Int))) (hF : F_spec_swMoves x0 x1 = some r) :
  Calls Try.prog 160 [(.agg #[v0_0, v0_1, (.int .i64 x0.2.2.1), (.int .i64 x0.2.2.2)]), (.int .i64 x1)].toArray w0 fun e w' => ∃ (q0 : Value) (G0 : List Nat), e = .returned q0 ∧ Below w0.heap.size w0 w' ∧ Sep w0.heap.size w' [R.own ty_70 G0 q0 r] := by
 refine calls_mk' Try.func160 rfl Try.ntmps160 rfl rfl fun Q hQ hP => ?_
 have hB : Below w0.heap.size w0 w0 := Below.refl _ _
 have hS : Sep w0.heap.size w0 [] := Sep.nil _ _
 unfold F_spec_swMoves at hF
 refine W.seq fun K1 hK1 => W.region (wl_box (cs := [v0_0, v0_1, (.int .i64 x0.2.2.1), (.int .i64 x0.2.2.2)]) rfl rfl rfl hB hS ?_)
 intro b2 w3 hb4 hB5 hS6
 refine wl_assign rfl rfl (WL.nil (fun a ha => hK1 _ _ (W.seq fun K7 hK7 => (W.region (wl_assign rfl rfl (WL.nil (fun a ha => hK7 _ _ (W.seq fun K8 hK8 => (W.seq fun K9 hK9 => (W.region (wl_field (o := 0) (off' := 0) ff_53_0 rfl rfl rfl (wl_load_blk (i := 0) (vs := [v0_0]) (v := v0_0) tf_51 rfl rfl hS6 rfl rfl rfl (wl_move rfl rfl ?_)))))) a ha))))) a ha))
 obtain ⟨u10, hu10, hF⟩ := bindE hF
 refine wl_index (e := ty_63) Try.underlying51 rfl rfl rfl h0_0 hu10 ?_
 rintro p11 _ ⟨v13, rfl, hv14⟩ hp12
 refine wl_load_p (vs := [v13]) (v := v13) tf_63 rfl rfl (hp12.ro hB5) rfl rfl (wl_lenr (e := ty_68) (l := u10) Try.underlying63 rfl rfl hv14 (wl_move rfl rfl (WL.nil (fun a ha => hK9 _ _ (W.block (W.loopk (fun m a w15 => ∃ (l18 : (List ((Int × Int) × (Int × Int) × Int))) (y21 : Int) (v19 : Value) (F20 : List Nat), St 40 [(1, (.int .i64 x1)), (2, (.pointer (some ⟨b2, 0, none⟩))), (5, v19), (12, v13), (13, (.int .i64 (List.length u10 : Int))), (14, (.int .i64 y21))] a ∧ Below w0.heap.size w0 w15 ∧ Sep w0.heap.size w15 [R.blk b2 53 [v0_0, v0_1, (.int .i64 x0.2.2.1), (.int .i64 x0.2.2.2)], R.own ty_70 F20 v19 l18] ∧ F_spec_swMoves_L1 u10 x0 x1 m l18 y21 = some r) FU ?_ ?_)) a ha))))
 ·
  have hS23 := hS6.push0 (r := R.own ty_70 [] (.slice none 0 0) []) rfl fun _ => .inl ⟨rfl, rfl, rfl⟩
  exact fun a ha => ⟨[], 0, (.slice none 0 0), [], ha.sub ⟨rfl, rfl, rfl, rfl, rfl, rfl, trivial⟩, hB5, (hS23.sel [1, 0] rfl), hF⟩
 ·
  rintro m25 a w15 ⟨l18, y21, v19, F20, ha, hB16, hS17, hF⟩ KL24 hKL24
  refine W.at ?_ ha
  cases m25 with
  | zero => exact noneE hF
  | succ m25 =>
   obtain ⟨nx22, hnx22⟩ : ∃ k, k = F_spec_swMoves_L1 u10 x0 x1 m25 := ⟨_, rfl⟩
   rw [F_spec_swMoves_L1, ← hnx22] at hF
   refine W.seq fun K26 hK26 => W.region (wl_lss rfl rfl rfl (WL.nil (fun a ha => hK26 _ _ (W.seq fun K27 hK27 => (W.cond rfl (fun h28 => ?_) (fun h28 => ?_))) a ha)))
   ·replace hF := ifP h28 hF
    refine W.skip fun a ha => hK27 _ _ (W.seq fun K29 hK29 => (W.block (W.seq fun K30 hK30 => (W.region (wl_move rfl rfl ?_))))) a ha
    obtain ⟨u31, hu31, hF⟩ := bindE hF
    refine wl_index (e := ty_68) Try.underlying63 rfl rfl rfl hv14 hu31 ?_
    rintro p32 _ rfl hp33
    refine wl_load_p (vs := [(.int .i64 u31.1), (.int .i64 u31.2)]) (v := (.agg #[(.int .i64 u31.1), (.int .i64 u31.2)])) tf_68 rfl rfl (hp33.ro hB16) rfl rfl (wl_alloc (cs := [(.int .i64 0), (.int .i64 0)]) tf_68 rfl rfl hB16 hS17 ?_)
    intro b34 w35 hb36 hB37 hS38
    refine wl_assign rfl rfl (wl_store_blk (i := 0) (vs := [(.int .i64 u31.1), (.int .i64 u31.2)]) (cs' := [(.int .i64 u31.1), (.int .i64 u31.2)]) tf_68 rfl rfl rfl rfl hB37 hS38 rfl rfl ⟨rfl, rfl, trivial⟩ rfl ?_)
    intro w39 hk42 hB40 hS41
    refine WL.nil fun a ha => hK30 _ _ (W.regionH mixed_ F20 hB40 hS41 ?_) a ha
    intro w43 hb44 hB45 hS46
    have hSW47 := KeepX.refl w43 F20
    refine WH.tk 0 rfl hP hSW47 (pr_move rfl rfl (WH.tk 1 rfl hP hSW47 (pr_load_blk (i := 0) (vs := [(.int .i64 u31.1), (.int .i64 u31.2)]) (v := (.agg #[(.int .i64 u31.1), (.int .i64 u31.2)])) tf_68 rfl rfl hS46 rfl rfl rfl (hS46.disj (i := 0) (j := 2) rfl rfl rfl b34 (by simp [R.blk])) (WH.tk 2 rfl hP hSW47 (pr_field (o := 0) (off' := 0) ff_53_0 rfl rfl rfl (WH.tk 3 rfl hP hSW47 (pr_load_blk (i := 1) (vs := [v0_0]) (v := v0_0) tf_51 rfl rfl hS46 rfl rfl rfl (hS46.disj (i := 1) (j := 2) rfl rfl rfl b2 (by simp [R.blk])) (WH.tk 4 rfl hP hSW47 (pr_move rfl rfl (WH.tk 5 rfl hP hSW47 (pr_add rfl rfl rfl ?_)))))))))))
    obtain ⟨u48, hu48, hF⟩ := bindE hF
    refine WH.tk 6 rfl hP hSW47 (pr_index (e := ty_63) Try.underlying51 rfl rfl rfl h0_0 hu48 ?_)
    rintro p49 _ ⟨v51, rfl, hv52⟩ hp50
    refine WH.tk 7 rfl hP hSW47 (pr_load_p (vs := [v51]) (v := v51) tf_63 rfl rfl (hp50.kx hB45 (fun b hb => (((hS46.get (i := 2) rfl).2.1 b hb).1))) rfl rfl (WH.tk 8 rfl hP hSW47 (pr_move rfl rfl ?_)))
    obtain ⟨u53, hu53, hF⟩ := bindE hF
    refine WH.tk 9 rfl hP hSW47 (pr_index (e := ty_68) Try.underlying63 rfl rfl rfl hv52 hu53 ?_)
    rintro p54 _ rfl hp55
    refine WH.tk 10 rfl hP hSW47 (pr_load_p (vs := [(.int .i64 u53.1), (.int .i64 u53.2)]) (v := (.agg #[(.int .i64 u53.1), (.int .i64 u53.2)])) tf_68 rfl rfl (hp55.kx hB45 (fun b hb => (((hS46.get (i := 2) rfl).2.1 b hb).1))) rfl rfl (WH.tk 11 rfl hP hSW47 (pr_field (o := 1) (off' := 1) ff_53_1 rfl rfl rfl (WH.tk 12 rfl hP hSW47 (pr_load_blk (i := 1) (vs := [v0_1]) (v := v0_1) tf_29 rfl rfl hS46 rfl rfl rfl (hS46.disj (i := 1) (j := 2) rfl rfl rfl b2 (by simp [R.blk])) (WH.tk 13 rfl hP hSW47 (pr_move rfl rfl ?_)))))))
    obtain ⟨u56, hu56, hF⟩ := bindE hF
    refine WH.tk 14 rfl hP hSW47 (pr_index (e := ty_3) Try.underlying29 rfl rfl rfl h0_1 hu56 ?_)
    rintro p57 _ rfl hp58
    refine WH.tk 15 rfl hP hSW47 (pr_load_p (vs := [(.int .i64 u56)]) (v := (.int .i64 u56)) tf_3 rfl rfl (hp58.kx hB45 (fun b hb => (((hS46.get (i := 2) rfl).2.1 b hb).1))) rfl rfl (WH.tk 16 rfl hP hSW47 (pr_build (zs := [(.int .i64 0), (.int .i64 0), (.int .i64 0), (.int .i64 0), (.int .i64 0)]) (out := [(.int .i64 u31.1), (.int .i64 u31.2), (.int .i64 u53.1), (.int .i64 u53.2), (.int .i64 u56)]) (vs := [(.agg #[(.int .i64 u31.1), (.int .i64 u31.2)]), (.agg #[(.int .i64 u53.1), (.int .i64 u53.2)]), (.int .i64 u56)]) (css := [[(.int .i64 u31.1), (.int .i64 u31.2)], [(.int .i64 u53.1), (.int .i64 u53.2)], [(.int .i64 u56)]]) tf_70 pl_70 rfl rfl rfl rfl rfl (WH.on1 17 rfl (wl_lit (vs := [(.agg #[(.int .i64 u31.1), (.int .i64 u31.2), (.int .i64 u53.1), (.int .i64 u53.2), (.int .i64 u56)])]) (l := [(u31, u53, u56)]) fl_70 Try.underlying64 rfl rfl rfl rfl rfl rfl (Below.self w43) (Sep.nil _ _) ?_)))))
    intro v59 F60 w61 hb62 hB65 hM66
    have hB63 := hB45.trans (hb62.mono hB45.size)
    have hS64 := hS46.join hb62 hM66 hB45.size
    have hSW68 := hSW47.ext hb62
    refine WL.nil (WH.ret hSW68 (WH.on1 18 rfl ?_))
    obtain ⟨u70, hu70, hF⟩ := bindE hF
    refine wl_append (i := 3) (S := (· < w61.heap.size)) fl_70 Try.underlying64 rfl rfl rfl hB63 hS64 rfl (hS64.own_ro (i := 0) rfl) hu70 ?_
    intro v71 F72 w73 hk74 hB75 hS76
    have hSW77 := hSW68.wr' hk74.1 hk74.2.1 (fun _ _ h => h)
    refine WL.nil (WH.ret hSW77 (WH.tk 19 rfl hP hSW77 (pr_assign rfl rfl (WH.done (by kernel_rfl) (fun a ha => hK29 _ _ (W.region (wl_add rfl rfl rfl (wl_move rfl rfl (WL.nil ?_)))) a ha)))))
    rw [hnx22] at hF
    exact fun a ha => hKL24 a _ m25 (Nat.lt_succ_self m25) ⟨u70, (w64 (y21 + 1)), v71, F72, ha.sub ⟨rfl, rfl, rfl, rfl, rfl, rfl, trivial⟩, hB75, (hS76.sel [2, 3] rfl), hF⟩
   ·replace hF := ifN h28 hF
    refine W.exit fun a ha => hK8 _ _ (W.seq fun K79 hK79 => (W.region (wl_move rfl rfl (wl_assign rfl rfl (WL.nil (fun a ha => hK79 _ _ (W.ret ?_) a ha)))))) a ha
    have hr := Option.some.inj hF
    subst hr
    exact rets (vs := [v19]) hQ rfl ⟨rv_tmp rfl, trivial⟩ ⟨v19, F20, rfl, hB16, hS17.sel [1] rfl⟩
theorem C_spec_stSquare (w0 : World) (x0 : (Int × Int)) (x1 : (Int × Int)) (r : Int) (hF : F_spec_stSquare x0 x1 = some r) :
  Calls Try.prog 197 [(.agg #[(.int .i64 x0.1), (.int .i64 x0.2)]), (.agg #[(.int .i64 x1.1), (.int .i64 x1.2)])].toArray w0 fun e w' => e = .returned (.int .i64 r) ∧ Below w0.heap.size w0 w' := by
 refine calls_mk' Try.func197 rfl Try.ntmps197 rfl rfl fun Q hQ hP => ?_
 have hB : Below w0.heap.size w0 w0 := Below.refl _ _
 have hS : Sep w0.heap.size w0 [] := Sep.nil _ _
 unfold F_spec_stSquare at hF
 refine W.seq fun K1 hK1 => W.region (wl_box (cs := [(.int .i64 x0.1), (.int .i64 x0.2)]) rfl rfl rfl hB hS ?_)
 intro b2 w3 hb4 hB5 hS6
 refine wl_box (cs := [(.int .i64 x1.1), (.int .i64 x1.2)]) rfl rfl rfl hB5 hS6 ?_
 intro b7 w8 hb9 hB10 hS11
 refine wl_assign rfl rfl (WL.nil (fun a ha => hK1 _ _ (W.seq fun K12 hK12 => (W.region (wl_field (o := 0) (off' := 0) ff_68_0 rfl rfl rfl (wl_load_blk (i := 1) (vs := [(.int .i64 x0.1)]) (v := (.int .i64 x0.1)) tf_3 rfl rfl hS11 rfl rfl rfl (wl_field (o := 0) (off' := 0) ff_68_0 rfl rfl rfl (wl_load_blk (i := 0) (vs := [(.int .i64 x1.1)]) (v := (.int .i64 x1.1)) tf_3 rfl rfl hS11 rfl rfl rfl (wl_sub rfl rfl rfl (wl_field (o := 0) (off' := 0) ff_68_0 rfl rfl rfl (wl_load_blk (i := 1) (vs := [(.int .i64 x0.1)]) (v := (.int .i64 x0.1)) tf_3 rfl rfl hS11 rfl rfl rfl (wl_field (o := 0) (off' := 0) ff_68_0 rfl rfl rfl (wl_load_blk (i := 0) (vs := [(.int .i64 x1.1)]) (v := (.int .i64 x1.1)) tf_3 rfl rfl hS11 rfl rfl rfl ?_))))))))))) a ha))
 refine wl_sub rfl rfl rfl (wl_mul rfl rfl rfl (wl_field (o := 1) (off' := 1) ff_68_1 rfl rfl rfl (wl_load_blk (i := 1) (vs := [(.int .i64 x0.2)]) (v := (.int .i64 x0.2)) tf_3 rfl rfl hS11 rfl rfl rfl (wl_field (o := 1) (off' := 1) ff_68_1 rfl rfl rfl (wl_load_blk (i := 0) (vs := [(.int .i64 x1.2)]) (v := (.int .i64 x1.2)) tf_3 rfl rfl hS11 rfl rfl rfl (wl_sub rfl rfl rfl (wl_field (o := 1) (off' := 1) ff_68_1 rfl rfl rfl (wl_load_blk (i := 1) (vs := [(.int .i64 x0.2)]) (v := (.int .i64 x0.2)) tf_3 rfl rfl hS11 rfl rfl rfl (wl_field (o := 1) (off' := 1) ff_68_1 rfl rfl rfl (wl_load_blk (i := 0) (vs := [(.int .i64 x1.2)]) (v := (.int .i64 x1.2)) tf_3 rfl rfl hS11 rfl rfl rfl (wl_sub rfl rfl rfl (wl_mul rfl rfl rfl (wl_add rfl rfl rfl ?_)))))))))))))
 refine wl_assign rfl rfl (WL.nil (fun a ha => hK12 _ _ (W.ret ?_) a ha))
 have hr := Option.some.inj hF
 subst hr
 exact rets (vs := [(.int .i64 (w64 ((w64 ((w64 (x0.1 - x1.1)) * (w64 (x0.1 - x1.1)))) + (w64 ((w64 (x0.2 - x1.2)) * (w64 (x0.2 - x1.2)))))))]) hQ rfl ⟨rv_tmp rfl, trivial⟩ ⟨rfl, hB10⟩
theorem C_impl_between (w0 : World) (x0 : ((Int × Int) × (Int × Int) × Int)) (x1 : ((Int × Int) × (Int × Int) × Int)) (r : ((Int × Int) × (Int × Int) × Int × Int)) (hF : F_impl_between x0 x1 = some r) :
  Calls Try.prog 232 [(.agg #[(.int .i64 x0.1.1), (.int .i64 x0.1.2), (.int .i64 x0.2.1.1), (.int .i64 x0.2.1.2), (.int .i64 x0.2.2)]), (.agg #[(.int .i64 x1.1.1), (.int .i64 x1.1.2), (.int .i64 x1.2.1.1), (.int .i64 x1.2.1.2), (.int .i64 x1.2.2)])].toArray w0 fun e w' => e = .returned (.tuple #[(.agg #[(.int .i64 r.1.1), (.int .i64 r.1.2)]), (.agg #[(.int .i64 r.2.1.1), (.int .i64 r.2.1.2)]), (.int .i64 r.2.2.1), (.int .i64 r.2.2.2)]) ∧ Below w0.heap.size w0 w' := by
 refine calls_mk' Try.func232 rfl Try.ntmps232 rfl rfl fun Q hQ hP => ?_
 have hB : Below w0.heap.size w0 w0 := Below.refl _ _
 have hS : Sep w0.heap.size w0 [] := Sep.nil _ _
 unfold F_impl_between at hF
 refine W.seq fun K1 hK1 => W.region (wl_box (cs := [(.int .i64 x0.1.1), (.int .i64 x0.1.2), (.int .i64 x0.2.1.1), (.int .i64 x0.2.1.2), (.int .i64 x0.2.2)]) rfl rfl rfl hB hS ?_)
 intro b2 w3 hb4 hB5 hS6
 refine wl_box (cs := [(.int .i64 x1.1.1), (.int .i64 x1.1.2), (.int .i64 x1.2.1.1), (.int .i64 x1.2.1.2), (.int .i64 x1.2.2)]) rfl rfl rfl hB5 hS6 ?_
 intro b7 w8 hb9 hB10 hS11
 refine wl_alloc (cs := [(.int .i64 0), (.int .i64 0)]) tf_68 rfl rfl hB10 hS11 ?_
 intro b12 w13 hb14 hB15 hS16
 refine wl_alloc (cs := [(.int .i64 0), (.int .i64 0)]) tf_68 rfl rfl hB15 hS16 ?_
 intro b17 w18 hb19 hB20 hS21
 refine wl_assign rfl rfl (wl_assign rfl rfl (WL.nil (fun a ha => hK1 _ _ (W.seq fun K22 hK22 => (W.region (wl_field (o := 0) (off' := 0) ff_70_0 rfl rfl rfl (wl_field (o := 0) (off' := 0) ff_68_0 rfl rfl rfl (wl_load_blk (i := 3) (vs := [(.int .i64 x0.1.1)]) (v := (.int .i64 x0.1.1)) tf_3 rfl rfl hS21 rfl rfl rfl (wl_field (o := 0) (off' := 0) ff_70_0 rfl rfl rfl (wl_field (o := 0) (off' := 0) ff_68_0 rfl rfl rfl (wl_load_blk (i := 2) (vs := [(.int .i64 x1.1.1)]) (v := (.int .i64 x1.1.1)) tf_3 rfl rfl hS21 rfl rfl rfl (wl_sub rfl rfl rfl (wl_field (o := 0) (off' := 0) ff_70_0 rfl rfl rfl ?_)))))))))) a ha)))
 refine wl_field (o := 1) (off' := 1) ff_68_1 rfl rfl rfl (wl_load_blk (i := 3) (vs := [(.int .i64 x0.1.2)]) (v := (.int .i64 x0.1.2)) tf_3 rfl rfl hS21 rfl rfl rfl (wl_field (o := 0) (off' := 0) ff_70_0 rfl rfl rfl (wl_field (o := 1) (off' := 1) ff_68_1 rfl rfl rfl (wl_load_blk (i := 2) (vs := [(.int .i64 x1.1.2)]) (v := (.int .i64 x1.1.2)) tf_3 rfl rfl hS21 rfl rfl rfl (wl_sub rfl rfl rfl (wl_build (zs := [(.int .i64 0), (.int .i64 0)]) (out := [(.int .i64 (w64 (x0.1.1 - x1.1.1))), (.int .i64 (w64 (x0.1.2 - x1.1.2)))]) (vs := [(.int .i64 (w64 (x0.1.1 - x1.1.1))), (.int .i64 (w64 (x0.1.2 - x1.1.2)))]) (css := [[(.int .i64 (w64 (x0.1.1 - x1.1.1)))], [(.int .i64 (w64 (x0.1.2 - x1.1.2)))]]) tf_68 pl_68 rfl rfl rfl rfl rfl (wl_alloc (cs := [(.int .i64 0), (.int .i64 0)]) tf_68 rfl rfl hB20 hS21 ?_)))))))
 intro b23 w24 hb25 hB26 hS27
 refine wl_store_blk (i := 0) (vs := [(.int .i64 (w64 (x0.1.1 - x1.1.1))), (.int .i64 (w64 (x0.1.2 - x1.1.2)))]) (cs' := [(.int .i64 (w64 (x0.1.1 - x1.1.1))), (.int .i64 (w64 (x0.1.2 - x1.1.2)))]) tf_68 rfl rfl rfl rfl hB26 hS27 rfl rfl ⟨rfl, rfl, trivial⟩ rfl ?_
 intro w28 hk31 hB29 hS30
 refine WL.nil fun a ha => hK22 _ _ (W.seq fun K32 hK32 => (W.region (wl_field (o := 2) (off' := 2) ff_70_1 rfl rfl rfl (wl_field (o := 0) (off' := 2) ff_68_0 rfl rfl rfl (wl_load_blk (i := 4) (vs := [(.int .i64 x0.2.1.1)]) (v := (.int .i64 x0.2.1.1)) tf_3 rfl rfl hS30 rfl rfl rfl (wl_field (o := 2) (off' := 2) ff_70_1 rfl rfl rfl (wl_field (o := 0) (off' := 2) ff_68_0 rfl rfl rfl (wl_load_blk (i := 3) (vs := [(.int .i64 x1.2.1.1)]) (v := (.int .i64 x1.2.1.1)) tf_3 rfl rfl hS30 rfl rfl rfl (wl_sub rfl rfl rfl (wl_field (o := 0) (off' := 0) ff_68_0 rfl rfl rfl (wl_load_blk (i := 0) (vs := [(.int .i64 (w64 (x0.1.1 - x1.1.1)))]) (v := (.int .i64 (w64 (x0.1.1 - x1.1.1)))) tf_3 rfl rfl hS30 rfl rfl rfl (wl_sub rfl rfl rfl ?_)))))))))))) a ha
 refine wl_field (o := 2) (off' := 2) ff_70_1 rfl rfl rfl (wl_field (o := 1) (off' := 3) ff_68_1 rfl rfl rfl (wl_load_blk (i := 4) (vs := [(.int .i64 x0.2.1.2)]) (v := (.int .i64 x0.2.1.2)) tf_3 rfl rfl hS30 rfl rfl rfl (wl_field (o := 2) (off' := 2) ff_70_1 rfl rfl rfl (wl_field (o := 1) (off' := 3) ff_68_1 rfl rfl rfl (wl_load_blk (i := 3) (vs := [(.int .i64 x1.2.1.2)]) (v := (.int .i64 x1.2.1.2)) tf_3 rfl rfl hS30 rfl rfl rfl (wl_sub rfl rfl rfl (wl_field (o := 1) (off' := 1) ff_68_1 rfl rfl rfl (wl_load_blk (i := 0) (vs := [(.int .i64 (w64 (x0.1.2 - x1.1.2)))]) (v := (.int .i64 (w64 (x0.1.2 - x1.1.2)))) tf_3 rfl rfl hS30 rfl rfl rfl (wl_sub rfl rfl rfl ?_)))))))))
 refine wl_build (zs := [(.int .i64 0), (.int .i64 0)]) (out := [(.int .i64 (w64 ((w64 (x0.2.1.1 - x1.2.1.1)) - (w64 (x0.1.1 - x1.1.1))))), (.int .i64 (w64 ((w64 (x0.2.1.2 - x1.2.1.2)) - (w64 (x0.1.2 - x1.1.2)))))]) (vs := [(.int .i64 (w64 ((w64 (x0.2.1.1 - x1.2.1.1)) - (w64 (x0.1.1 - x1.1.1))))), (.int .i64 (w64 ((w64 (x0.2.1.2 - x1.2.1.2)) - (w64 (x0.1.2 - x1.1.2)))))]) (css := [[(.int .i64 (w64 ((w64 (x0.2.1.1 - x1.2.1.1)) - (w64 (x0.1.1 - x1.1.1)))))], [(.int .i64 (w64 ((w64 (x0.2.1.2 - x1.2.1.2)) - (w64 (x0.1.2 - x1.1.2)))))]]) tf_68 pl_68 rfl rfl rfl rfl rfl (wl_alloc (cs := [(.int .i64 0), (.int .i64 0)]) tf_68 rfl rfl hB29 hS30 ?_)
 intro b33 w34 hb35 hB36 hS37
 refine wl_store_blk (i := 0) (vs := [(.int .i64 (w64 ((w64 (x0.2.1.1 - x1.2.1.1)) - (w64 (x0.1.1 - x1.1.1))))), (.int .i64 (w64 ((w64 (x0.2.1.2 - x1.2.1.2)) - (w64 (x0.1.2 - x1.1.2)))))]) (cs' := [(.int .i64 (w64 ((w64 (x0.2.1.1 - x1.2.1.1)) - (w64 (x0.1.1 - x1.1.1))))), (.int .i64 (w64 ((w64 (x0.2.1.2 - x1.2.1.2)) - (w64 (x0.1.2 - x1.1.2)))))]) tf_68 rfl rfl rfl rfl hB36 hS37 rfl rfl ⟨rfl, rfl, trivial⟩ rfl ?_
 intro w38 hk41 hB39 hS40
 refine WL.nil fun a ha => hK32 _ _ (W.seq fun K42 hK42 => (W.regionH mixed_ ([b17] ++ [b12]) hB39 hS40 ?_)) a ha
 intro w43 hb44 hB45 hS46
 have hSW47 := KeepX.refl w43 ([b17] ++ [b12])
 refine WH.tk 0 rfl hP hSW47 (pr_load_blk (i := 1) (vs := [(.int .i64 (w64 (x0.1.1 - x1.1.1))), (.int .i64 (w64 (x0.1.2 - x1.1.2)))]) (v := (.agg #[(.int .i64 (w64 (x0.1.1 - x1.1.1))), (.int .i64 (w64 (x0.1.2 - x1.1.2)))])) tf_68 rfl rfl hS46 rfl rfl rfl (fun hb => (List.mem_append.1 hb).elim (hS46.disj (i := 1) (j := 2) rfl rfl rfl b23 (by simp [R.blk])) (hS46.disj (i := 1) (j := 3) rfl rfl rfl b23 (by simp [R.blk]))) (WH.tk 1 rfl hP hSW47 ?_))
 refine pr_load_blk (i := 0) (vs := [(.int .i64 (w64 ((w64 (x0.2.1.1 - x1.2.1.1)) - (w64 (x0.1.1 - x1.1.1))))), (.int .i64 (w64 ((w64 (x0.2.1.2 - x1.2.1.2)) - (w64 (x0.1.2 - x1.1.2)))))]) (v := (.agg #[(.int .i64 (w64 ((w64 (x0.2.1.1 - x1.2.1.1)) - (w64 (x0.1.1 - x1.1.1))))), (.int .i64 (w64 ((w64 (x0.2.1.2 - x1.2.1.2)) - (w64 (x0.1.2 - x1.1.2)))))])) tf_68 rfl rfl hS46 rfl rfl rfl (fun hb => (List.mem_append.1 hb).elim (hS46.disj (i := 0) (j := 2) rfl rfl rfl b33 (by simp [R.blk])) (hS46.disj (i := 0) (j := 3) rfl rfl rfl b33 (by simp [R.blk]))) (WH.tk 2 rfl hP hSW47 (pr_field (o := 0) (off' := 0) ff_68_0 rfl rfl rfl (WH.tk 3 rfl hP hSW47 ?_)))
 refine pr_load_blk (i := 1) (vs := [(.int .i64 (w64 (x0.1.1 - x1.1.1)))]) (v := (.int .i64 (w64 (x0.1.1 - x1.1.1)))) tf_3 rfl rfl hS46 rfl rfl rfl (fun hb => (List.mem_append.1 hb).elim (hS46.disj (i := 1) (j := 2) rfl rfl rfl b23 (by simp [R.blk])) (hS46.disj (i := 1) (j := 3) rfl rfl rfl b23 (by simp [R.blk]))) (WH.tk 4 rfl hP hSW47 (pr_field (o := 0) (off' := 0) ff_68_0 rfl rfl rfl (WH.tk 5 rfl hP hSW47 (pr_load_blk (i := 0) (vs := [(.int .i64 (w64 ((w64 (x0.2.1.1 - x1.2.1.1)) - (w64 (x0.1.1 - x1.1.1)))))]) (v := (.int .i64 (w64 ((w64 (x0.2.1.1 - x1.2.1.1)) - (w64 (x0.1.1 - x1.1.1)))))) tf_3 rfl rfl hS46 rfl rfl rfl (fun hb => (List.mem_append.1 hb).elim (hS46.disj (i := 0) (j := 2) rfl rfl rfl b33 (by simp [R.blk])) (hS46.disj (i := 0) (j := 3) rfl rfl rfl b33 (by simp [R.blk]))) (WH.tk 6 rfl hP hSW47 (pr_mul rfl rfl rfl (WH.tk 7 rfl hP hSW47 ?_)))))))
 refine pr_field (o := 1) (off' := 1) ff_68_1 rfl rfl rfl (WH.tk 8 rfl hP hSW47 (pr_load_blk (i := 1) (vs := [(.int .i64 (w64 (x0.1.2 - x1.1.2)))]) (v := (.int .i64 (w64 (x0.1.2 - x1.1.2)))) tf_3 rfl rfl hS46 rfl rfl rfl (fun hb => (List.mem_append.1 hb).elim (hS46.disj (i := 1) (j := 2) rfl rfl rfl b23 (by simp [R.blk])) (hS46.disj (i := 1) (j := 3) rfl rfl rfl b23 (by simp [R.blk]))) (WH.tk 9 rfl hP hSW47 (pr_field (o := 1) (off' := 1) ff_68_1 rfl rfl rfl (WH.tk 10 rfl hP hSW47 (pr_load_blk (i := 0) (vs := [(.int .i64 (w64 ((w64 (x0.2.1.2 - x1.2.1.2)) - (w64 (x0.1.2 - x1.1.2)))))]) (v := (.int .i64 (w64 ((w64 (x0.2.1.2 - x1.2.1.2)) - (w64 (x0.1.2 - x1.1.2)))))) tf_3 rfl rfl hS46 rfl rfl rfl (fun hb => (List.mem_append.1 hb).elim (hS46.disj (i := 0) (j := 2) rfl rfl rfl b33 (by simp [R.blk])) (hS46.disj (i := 0) (j := 3) rfl rfl rfl b33 (by simp [R.blk]))) (WH.tk 11 rfl hP hSW47 ?_)))))))
 refine pr_mul rfl rfl rfl (WH.tk 12 rfl hP hSW47 (pr_add rfl rfl rfl (WH.tk 13 rfl hP hSW47 (pr_field (o := 0) (off' := 0) ff_68_0 rfl rfl rfl (WH.tk 14 rfl hP hSW47 (pr_load_blk (i := 0) (vs := [(.int .i64 (w64 ((w64 (x0.2.1.1 - x1.2.1.1)) - (w64 (x0.1.1 - x1.1.1)))))]) (v := (.int .i64 (w64 ((w64 (x0.2.1.1 - x1.2.1.1)) - (w64 (x0.1.1 - x1.1.1)))))) tf_3 rfl rfl hS46 rfl rfl rfl (fun hb => (List.mem_append.1 hb).elim (hS46.disj (i := 0) (j := 2) rfl rfl rfl b33 (by simp [R.blk])) (hS46.disj (i := 0) (j := 3) rfl rfl rfl b33 (by simp [R.blk]))) (WH.tk 15 rfl hP hSW47 (pr_field (o := 0) (off' := 0) ff_68_0 rfl rfl rfl (WH.tk 16 rfl hP hSW47 ?_)))))))))
 refine pr_load_blk (i := 0) (vs := [(.int .i64 (w64 ((w64 (x0.2.1.1 - x1.2.1.1)) - (w64 (x0.1.1 - x1.1.1)))))]) (v := (.int .i64 (w64 ((w64 (x0.2.1.1 - x1.2.1.1)) - (w64 (x0.1.1 - x1.1.1)))))) tf_3 rfl rfl hS46 rfl rfl rfl (fun hb => (List.mem_append.1 hb).elim (hS46.disj (i := 0) (j := 2) rfl rfl rfl b33 (by simp [R.blk])) (hS46.disj (i := 0) (j := 3) rfl rfl rfl b33 (by simp [R.blk]))) (WH.tk 17 rfl hP hSW47 (pr_mul rfl rfl rfl (WH.tk 18 rfl hP hSW47 (pr_field (o := 1) (off' := 1) ff_68_1 rfl rfl rfl (WH.tk 19 rfl hP hSW47 ?_)))))
 refine pr_load_blk (i := 0) (vs := [(.int .i64 (w64 ((w64 (x0.2.1.2 - x1.2.1.2)) - (w64 (x0.1.2 - x1.1.2)))))]) (v := (.int .i64 (w64 ((w64 (x0.2.1.2 - x1.2.1.2)) - (w64 (x0.1.2 - x1.1.2)))))) tf_3 rfl rfl hS46 rfl rfl rfl (fun hb => (List.mem_append.1 hb).elim (hS46.disj (i := 0) (j := 2) rfl rfl rfl b33 (by simp [R.blk])) (hS46.disj (i := 0) (j := 3) rfl rfl rfl b33 (by simp [R.blk]))) (WH.tk 20 rfl hP hSW47 (pr_field (o := 1) (off' := 1) ff_68_1 rfl rfl rfl (WH.tk 21 rfl hP hSW47 (pr_load_blk (i := 0) (vs := [(.int .i64 (w64 ((w64 (x0.2.1.2 - x1.2.1.2)) - (w64 (x0.1.2 - x1.1.2)))))]) (v := (.int .i64 (w64 ((w64 (x0.2.1.2 - x1.2.1.2)) - (w64 (x0.1.2 - x1.1.2)))))) tf_3 rfl rfl hS46 rfl rfl rfl (fun hb => (List.mem_append.1 hb).elim (hS46.disj (i := 0) (j := 2) rfl rfl rfl b33 (by simp [R.blk])) (hS46.disj (i := 0) (j := 3) rfl rfl rfl b33 (by simp [R.blk]))) (WH.tk 22 rfl hP hSW47 ?_)))))
 refine pr_mul rfl rfl rfl (WH.tk 23 rfl hP hSW47 (pr_add rfl rfl rfl (WH.on1 24 rfl (wl_store_blk (i := 3) (vs := [(.int .i64 (w64 (x0.1.1 - x1.1.1))), (.int .i64 (w64 (x0.1.2 - x1.1.2)))]) (cs' := [(.int .i64 (w64 (x0.1.1 - x1.1.1))), (.int .i64 (w64 (x0.1.2 - x1.1.2)))]) tf_68 rfl rfl rfl rfl hB45 hS46 rfl rfl ⟨rfl, rfl, trivial⟩ rfl ?_))))
 intro w48 hk51 hB49 hS50
 have hSW52 := hSW47.wr' hk51.1 hk51.2.1 (fun _ _ h => List.mem_append_right _ h)
 refine WL.nil (WH.ret hSW52 (WH.on1 25 rfl (wl_store_blk (i := 2) (vs := [(.int .i64 (w64 ((w64 (x0.2.1.1 - x1.2.1.1)) - (w64 (x0.1.1 - x1.1.1))))), (.int .i64 (w64 ((w64 (x0.2.1.2 - x1.2.1.2)) - (w64 (x0.1.2 - x1.1.2)))))]) (cs' := [(.int .i64 (w64 ((w64 (x0.2.1.1 - x1.2.1.1)) - (w64 (x0.1.1 - x1.1.1))))), (.int .i64 (w64 ((w64 (x0.2.1.2 - x1.2.1.2)) - (w64 (x0.1.2 - x1.1.2)))))]) tf_68 rfl rfl rfl rfl hB49 hS50 rfl rfl ⟨rfl, rfl, trivial⟩ rfl ?_)))
 intro w54 hk57 hB55 hS56
 have hSW58 := hSW52.wr' hk57.1 hk57.2.1 (fun _ _ h => List.mem_append_left _ (h))
 refine WL.nil (WH.ret hSW58 (WH.tk 26 rfl hP hSW58 (pr_assign rfl rfl (WH.tk 27 rfl hP hSW58 (pr_assign rfl rfl (WH.done (by kernel_rfl) (fun a ha => hK42 _ _ (W.ret ?_) a ha)))))))
 have hr := Option.some.inj hF
 subst hr
 exact rets (vs := [(.agg #[(.int .i64 (w64 (x0.1.1 - x1.1.1))), (.int .i64 (w64 (x0.1.2 - x1.1.2)))]), (.agg #[(.int .i64 (w64 ((w64 (x0.2.1.1 - x1.2.1.1)) - (w64 (x0.1.1 - x1.1.1))))), (.int .i64 (w64 ((w64 (x0.2.1.2 - x1.2.1.2)) - (w64 (x0.1.2 - x1.1.2)))))]), (.int .i64 (w64 ((w64 ((w64 (x0.1.1 - x1.1.1)) * (w64 ((w64 (x0.2.1.1 - x1.2.1.1)) - (w64 (x0.1.1 - x1.1.1)))))) + (w64 ((w64 (x0.1.2 - x1.1.2)) * (w64 ((w64 (x0.2.1.2 - x1.2.1.2)) - (w64 (x0.1.2 - x1.1.2))))))))), (.int .i64 (w64 ((w64 ((w64 ((w64 (x0.2.1.1 - x1.2.1.1)) - (w64 (x0.1.1 - x1.1.1)))) * (w64 ((w64 (x0.2.1.1 - x1.2.1.1)) - (w64 (x0.1.1 - x1.1.1)))))) + (w64 ((w64 ((w64 (x0.2.1.2 - x1.2.1.2)) - (w64 (x0.1.2 - x1.1.2)))) * (w64 ((w64 (x0.2.1.2 - x1.2.1.2)) - (w64 (x0.1.2 - x1.1.2)))))))))]) hQ rfl ⟨rv_cell (i := 3) tf_68 rfl hS56 rfl rfl rfl, rv_cell (i := 2) tf_68 rfl hS56 rfl rfl rfl, rv_tmp rfl, rv_tmp rfl, trivial⟩ ⟨rfl, hB55⟩
theorem C_impl_gcdOf (w0 : World) (x0 : Int) (x1 : Int) (r : Int) (hF : F_impl_gcdOf x0 x1 = some r) :
  Calls Try.prog 259 [(.int .i64 x0), (.int .i64 x1)].toArray w0 fun e w' => e = .returned (.int .i64 r) ∧ Below w0.heap.size w0 w' := by
 refine calls_mk' Try.func259 rfl Try.ntmps259 rfl rfl fun Q hQ hP => ?_
 have hB : Below w0.heap.size w0 w0 := Below.refl _ _
 have hS : Sep w0.heap.size w0 [] := Sep.nil _ _
 unfold F_impl_gcdOf at hF
 refine W.seq fun K1 hK1 => W.region (wl_assign rfl rfl (WL.nil (fun a ha => hK1 _ _ (W.seq fun K2 hK2 => (W.region (wl_move rfl rfl (wl_move rfl rfl (wl_neg rfl rfl (wl_max rfl rfl rfl (wl_move rfl rfl (wl_move rfl rfl (wl_neg rfl rfl ?_))))))))) a ha)))
 refine wl_max rfl rfl rfl (wl_assign rfl rfl (wl_assign rfl rfl (WL.nil (fun a ha => hK2 _ _ (W.seq fun K3 hK3 => (W.block (W.loopk (fun m a w4 => ∃ (y7 : Int) (y8 : Int), St 20 [(0, (.int .i64 y7)), (1, (.int .i64 y8))] a ∧ Below w0.heap.size w0 w4 ∧ Sep w0.heap.size w4 [] ∧ F_impl_gcdOf_L1 m y7 y8 = some r) FU ?_ ?_))) a ha))))
 ·
  exact fun a ha => ⟨(maxI x0 (w64 (0 - x0))), (maxI x1 (w64 (0 - x1))), ha.sub ⟨rfl, rfl, trivial⟩, hB, (hS.sel [] rfl), hF⟩
 ·
  rintro m11 a w4 ⟨y7, y8, ha, hB5, hS6, hF⟩ KL10 hKL10
  refine W.at ?_ ha
  cases m11 with
  | zero => exact noneE hF
  | succ m11 =>
   obtain ⟨nx9, hnx9⟩ : ∃ k, k = F_impl_gcdOf_L1 m11 := ⟨_, rfl⟩
   rw [F_impl_gcdOf_L1, ← hnx9] at hF
   refine W.seq fun K12 hK12 => W.seq fun K13 hK13 => W.region (wl_move rfl rfl (wl_neq rfl rfl rfl (WL.nil (fun a ha => hK13 _ _ (W.cond rfl (fun h14 => ?_) (fun h14 => ?_)) a ha))))
   ·replace hF := ifP h14 hF
    refine W.skip fun a ha => hK12 _ _ (W.block (W.regionH mixed_ [] hB5 hS6 ?_)) a ha
    intro w15 hb16 hB17 hS18
    have hSW19 := KeepX.refl w15 []
    refine WH.tk 0 rfl hP hSW19 (pr_move rfl rfl (WH.tk 1 rfl hP hSW19 (pr_move rfl rfl (WH.tk 2 rfl hP hSW19 (pr_move rfl rfl ?_)))))
    have h20 : y8 ≠ 0 := fun h20 => noneE (ifP h20 hF)
    replace hF := ifNP h20 hF
    refine WH.tk 3 rfl hP hSW19 (pr_rem rfl rfl rfl h20 (WH.tk 4 rfl hP hSW19 (pr_assign rfl rfl (WH.tk 5 rfl hP hSW19 (pr_assign rfl rfl (WH.done (by kernel_rfl) ?_))))))
    rw [hnx9] at hF
    exact fun a ha => hKL10 a _ m11 (Nat.lt_succ_self m11) ⟨y8, (Int.tmod y7 y8), ha.sub ⟨rfl, rfl, trivial⟩, hB17, (hS18.sel [] rfl), hF⟩
   ·replace hF := ifN h14 hF
    refine W.exit fun a ha => hK3 _ _ (W.seq fun K21 hK21 => (W.region (wl_move rfl rfl (wl_assign rfl rfl (WL.nil (fun a ha => hK21 _ _ (W.ret ?_) a ha)))))) a ha
    have hr := Option.some.inj hF
    subst hr
    exact rets (vs := [(.int .i64 y7)]) hQ rfl ⟨rv_tmp rfl, trivial⟩ ⟨rfl, hB5⟩
theorem C_impl_lowestTerms (w0 : World) (x0 : Int) (x1 : Int) (r : (Int × Int)) (hF : F_impl_lowestTerms x0 x1 = some r) :
  Calls Try.prog 233 [(.int .i64 x0), (.int .i64 x1)].toArray w0 fun e w' => e = .returned (.tuple #[(.int .i64 r.1), (.int .i64 r.2)]) ∧ Below w0.heap.size w0 w' := by
 refine calls_mk' Try.func233 rfl Try.ntmps233 rfl rfl fun Q hQ hP => ?_
 have hB : Below w0.heap.size w0 w0 := Below.refl _ _
 have hS : Sep w0.heap.size w0 [] := Sep.nil _ _
 unfold F_impl_lowestTerms at hF
 refine W.seq fun K1 hK1 => W.region (wl_assign rfl rfl (wl_assign rfl rfl (WL.nil (fun a ha => hK1 _ _ (W.seq fun K2 hK2 => (W.region (wl_move rfl rfl (wl_move rfl rfl ?_)))) a ha))))
 obtain ⟨u3, hu3, hF⟩ := bindE hF
 refine wl_call rfl Try.call259 (C_impl_gcdOf w0 x0 x1 _ hu3) rfl ?_
 rintro _ w4 ⟨rfl, hb5⟩
 refine ⟨_, rfl, ?_⟩
 have hB6 := hB.trans (hb5.mono hB.size)
 have hS7 := hS.below hb5
 refine wl_assign rfl rfl (WL.nil (fun a ha => hK2 _ _ (W.seq fun K9 hK9 => (W.regionH mixed_ [] hB6 hS7 ?_)) a ha))
 intro w10 hb11 hB12 hS13
 have hSW14 := KeepX.refl w10 []
 refine WH.tk 0 rfl hP hSW14 (pr_move rfl rfl (WH.tk 1 rfl hP hSW14 (pr_move rfl rfl ?_)))
 have h15 : u3 ≠ 0 := fun h15 => noneE (ifP h15 hF)
 replace hF := ifNP h15 hF
 refine WH.tk 2 rfl hP hSW14 (pr_quo rfl rfl rfl h15 (WH.tk 3 rfl hP hSW14 (pr_move rfl rfl (WH.tk 4 rfl hP hSW14 (pr_move rfl rfl ?_)))))
 have h16 : u3 ≠ 0 := fun h16 => noneE (ifP h16 hF)
 replace hF := ifNP h16 hF
 refine WH.tk 5 rfl hP hSW14 (pr_quo rfl rfl rfl h16 (WH.tk 6 rfl hP hSW14 (pr_assign rfl rfl (WH.tk 7 rfl hP hSW14 (pr_assign rfl rfl (WH.done (by kernel_rfl) (fun a ha => hK9 _ _ (W.ret ?_) a ha)))))))
 have hr := Option.some.inj hF
 subst hr
 exact rets (vs := [(.int .i64 (w64 (Int.tdiv x0 u3))), (.int .i64 (w64 (Int.tdiv x1 u3)))]) hQ rfl ⟨rv_tmp rfl, rv_tmp rfl, trivial⟩ ⟨rfl, hB12⟩
theorem C_impl_leastApart (w0 : World) (x0 : ((Int × Int) × (Int × Int) × Int)) (x1 : ((Int × Int) × (Int × Int) × Int)) (r : (Int × Int)) (hF : F_impl_leastApart x0 x1 = some r) :
  Calls Try.prog 157 [(.agg #[(.int .i64 x0.1.1), (.int .i64 x0.1.2), (.int .i64 x0.2.1.1), (.int .i64 x0.2.1.2), (.int .i64 x0.2.2)]), (.agg #[(.int .i64 x1.1.1), (.int .i64 x1.1.2), (.int .i64 x1.2.1.1), (.int .i64 x1.2.1.2), (.int .i64 x1.2.2)])].toArray w0 fun e w' => e = .returned (.tuple #[(.int .i64 r.1), (.int .i64 r.2)]) ∧ Below w0.heap.size w0 w' := by
 refine calls_mk' Try.func157 rfl Try.ntmps157 rfl rfl fun Q hQ hP => ?_
 have hB : Below w0.heap.size w0 w0 := Below.refl _ _
 have hS : Sep w0.heap.size w0 [] := Sep.nil _ _
 unfold F_impl_leastApart at hF
 refine W.seq fun K1 hK1 => W.region (wl_box (cs := [(.int .i64 x0.1.1), (.int .i64 x0.1.2), (.int .i64 x0.2.1.1), (.int .i64 x0.2.1.2), (.int .i64 x0.2.2)]) rfl rfl rfl hB hS ?_)
 intro b2 w3 hb4 hB5 hS6
 refine wl_box (cs := [(.int .i64 x1.1.1), (.int .i64 x1.1.2), (.int .i64 x1.2.1.1), (.int .i64 x1.2.1.2), (.int .i64 x1.2.2)]) rfl rfl rfl hB5 hS6 ?_
 intro b7 w8 hb9 hB10 hS11
 refine wl_assign rfl rfl (wl_assign rfl rfl (WL.nil (fun a ha => hK1 _ _ (W.seq fun K12 hK12 => (W.region (wl_load_blk (i := 1) (vs := [(.int .i64 x0.1.1), (.int .i64 x0.1.2), (.int .i64 x0.2.1.1), (.int .i64 x0.2.1.2), (.int .i64 x0.2.2)]) (v := (.agg #[(.int .i64 x0.1.1), (.int .i64 x0.1.2), (.int .i64 x0.2.1.1), (.int .i64 x0.2.1.2), (.int .i64 x0.2.2)])) tf_70 rfl rfl hS11 rfl rfl rfl (wl_load_blk (i := 0) (vs := [(.int .i64 x1.1.1), (.int .i64 x1.1.2), (.int .i64 x1.2.1.1), (.int .i64 x1.2.1.2), (.int .i64 x1.2.2)]) (v := (.agg #[(.int .i64 x1.1.1), (.int .i64 x1.1.2), (.int .i64 x1.2.1.1), (.int .i64 x1.2.1.2), (.int .i64 x1.2.2)])) tf_70 rfl rfl hS11 rfl rfl rfl ?_)))) a ha)))
 obtain ⟨u13, hu13, hF⟩ := bindE hF
 refine wl_call rfl Try.call232 (C_impl_between w8 x0 x1 _ hu13) rfl ?_
 rintro _ w14 ⟨rfl, hb15⟩
 refine ⟨_, rfl, ?_⟩
 have hB16 := hB10.trans (hb15.mono hB10.size)
 have hS17 := hS11.below hb15
 refine wl_move rfl rfl (wl_extract rfl rfl rfl (wl_extract rfl rfl rfl (wl_extract rfl rfl rfl (wl_extract rfl rfl rfl (wl_alloc (cs := [(.int .i64 0), (.int .i64 0)]) tf_68 rfl rfl hB16 hS17 ?_)))))
 intro b19 w20 hb21 hB22 hS23
 refine wl_alloc (cs := [(.int .i64 0), (.int .i64 0)]) tf_68 rfl rfl hB22 hS23 ?_
 intro b24 w25 hb26 hB27 hS28
 refine wl_store_blk (i := 1) (vs := [(.int .i64 u13.1.1), (.int .i64 u13.1.2)]) (cs' := [(.int .i64 u13.1.1), (.int .i64 u13.1.2)]) tf_68 rfl rfl rfl rfl hB27 hS28 rfl rfl ⟨rfl, rfl, trivial⟩ rfl ?_
 intro w29 hk32 hB30 hS31
 refine wl_store_blk (i := 0) (vs := [(.int .i64 u13.2.1.1), (.int .i64 u13.2.1.2)]) (cs' := [(.int .i64 u13.2.1.1), (.int .i64 u13.2.1.2)]) tf_68 rfl rfl rfl rfl hB30 hS31 rfl rfl ⟨rfl, rfl, trivial⟩ rfl ?_
 intro w33 hk36 hB34 hS35
 refine wl_assign rfl rfl (wl_assign rfl rfl (WL.nil (fun a ha => hK12 _ _ (W.seq fun K37 hK37 => (W.block (W.seq fun K38 hK38 => (W.region (wl_move rfl rfl (wl_geq rfl rfl rfl (wl_assign rfl rfl (WL.nil (fun a ha => hK38 _ _ (W.cond rfl (fun h39 => ?_) (fun h39 => ?_)) a ha))))))))) a ha)))
 ·replace hF := ifP h39 hF
  refine W.seq fun K40 hK40 => W.region (wl_field (o := 0) (off' := 0) ff_68_0 rfl rfl rfl (wl_load_blk (i := 1) (vs := [(.int .i64 u13.1.1)]) (v := (.int .i64 u13.1.1)) tf_3 rfl rfl hS35 rfl rfl rfl (wl_field (o := 0) (off' := 0) ff_68_0 rfl rfl rfl (wl_load_blk (i := 1) (vs := [(.int .i64 u13.1.1)]) (v := (.int .i64 u13.1.1)) tf_3 rfl rfl hS35 rfl rfl rfl (wl_mul rfl rfl rfl (wl_field (o := 1) (off' := 1) ff_68_1 rfl rfl rfl (wl_load_blk (i := 1) (vs := [(.int .i64 u13.1.2)]) (v := (.int .i64 u13.1.2)) tf_3 rfl rfl hS35 rfl rfl rfl (wl_field (o := 1) (off' := 1) ff_68_1 rfl rfl rfl (wl_load_blk (i := 1) (vs := [(.int .i64 u13.1.2)]) (v := (.int .i64 u13.1.2)) tf_3 rfl rfl hS35 rfl rfl rfl (wl_mul rfl rfl rfl (wl_add rfl rfl rfl (wl_assign rfl rfl ?_))))))))))))
  refine wl_assign rfl rfl (WL.nil (fun a ha => hK40 _ _ (W.ret ?_) a ha))
  have hr := Option.some.inj hF
  subst hr
  exact rets (vs := [(.int .i64 (w64 ((w64 (u13.1.1 * u13.1.1)) + (w64 (u13.1.2 * u13.1.2))))), (.int .i64 1)]) hQ rfl ⟨rv_tmp rfl, rv_tmp rfl, trivial⟩ ⟨rfl, hB34⟩
 ·replace hF := ifN h39 hF
  refine W.seq fun K41 hK41 => W.region (wl_move rfl rfl (wl_neg rfl rfl (wl_move rfl rfl (wl_geq rfl rfl rfl (wl_assign rfl rfl (WL.nil (fun a ha => hK41 _ _ (W.cond rfl (fun h42 => ?_) (fun h42 => ?_)) a ha)))))))
  ·replace hF := ifP h42 hF
   refine W.seq fun K43 hK43 => W.region (wl_field (o := 2) (off' := 2) ff_70_1 rfl rfl rfl (wl_load_blk (i := 3) (vs := [(.int .i64 x0.2.1.1), (.int .i64 x0.2.1.2)]) (v := (.agg #[(.int .i64 x0.2.1.1), (.int .i64 x0.2.1.2)])) tf_68 rfl rfl hS35 rfl rfl rfl (wl_field (o := 2) (off' := 2) ff_70_1 rfl rfl rfl (wl_load_blk (i := 2) (vs := [(.int .i64 x1.2.1.1), (.int .i64 x1.2.1.2)]) (v := (.agg #[(.int .i64 x1.2.1.1), (.int .i64 x1.2.1.2)])) tf_68 rfl rfl hS35 rfl rfl rfl ?_))))
   obtain ⟨u44, hu44, hF⟩ := bindE hF
   refine wl_call rfl Try.call153 (C_impl_squareOf w33 x0.2.1 x1.2.1 _ hu44) rfl ?_
   rintro _ w45 ⟨rfl, hb46⟩
   refine ⟨_, rfl, ?_⟩
   have hB47 := hB34.trans (hb46.mono hB34.size)
   refine wl_assign rfl rfl (wl_assign rfl rfl (WL.nil (fun a ha => hK43 _ _ (W.ret ?_) a ha)))
   have hr := Option.some.inj hF
   subst hr
   exact rets (vs := [(.int .i64 u44), (.int .i64 1)]) hQ rfl ⟨rv_tmp rfl, rv_tmp rfl, trivial⟩ ⟨rfl, hB47⟩
  ·replace hF := ifN h42 hF
   refine W.skip fun a ha => hK37 _ _ (W.seq fun K50 hK50 => (W.region (wl_field (o := 0) (off' := 0) ff_68_0 rfl rfl rfl (wl_load_blk (i := 1) (vs := [(.int .i64 u13.1.1)]) (v := (.int .i64 u13.1.1)) tf_3 rfl rfl hS35 rfl rfl rfl (wl_field (o := 1) (off' := 1) ff_68_1 rfl rfl rfl (wl_load_blk (i := 0) (vs := [(.int .i64 u13.2.1.2)]) (v := (.int .i64 u13.2.1.2)) tf_3 rfl rfl hS35 rfl rfl rfl (wl_mul rfl rfl rfl (wl_field (o := 1) (off' := 1) ff_68_1 rfl rfl rfl (wl_load_blk (i := 1) (vs := [(.int .i64 u13.1.2)]) (v := (.int .i64 u13.1.2)) tf_3 rfl rfl hS35 rfl rfl rfl (wl_field (o := 0) (off' := 0) ff_68_0 rfl rfl rfl (wl_load_blk (i := 0) (vs := [(.int .i64 u13.2.1.1)]) (v := (.int .i64 u13.2.1.1)) tf_3 rfl rfl hS35 rfl rfl rfl (wl_mul rfl rfl rfl ?_)))))))))))) a ha
   refine wl_sub rfl rfl rfl (wl_assign rfl rfl (WL.nil (fun a ha => hK50 _ _ (W.seq fun K51 hK51 => (W.region (wl_move rfl rfl (wl_move rfl rfl (wl_mul rfl rfl rfl (wl_move rfl rfl ?_)))))) a ha)))
   obtain ⟨u52, hu52, hF⟩ := bindE hF
   refine wl_call rfl Try.call233 (C_impl_lowestTerms w33 (w64 ((w64 ((w64 (u13.1.1 * u13.2.1.2)) - (w64 (u13.1.2 * u13.2.1.1)))) * (w64 ((w64 (u13.1.1 * u13.2.1.2)) - (w64 (u13.1.2 * u13.2.1.1)))))) u13.2.2.2 _ hu52) rfl ?_
   rintro _ w53 ⟨rfl, hb54⟩
   refine ⟨_, rfl, ?_⟩
   have hB55 := hB34.trans (hb54.mono hB34.size)
   refine wl_extract rfl rfl rfl (wl_extract rfl rfl rfl (wl_assign rfl rfl (wl_assign rfl rfl (WL.nil (fun a ha => hK51 _ _ (W.ret ?_) a ha)))))
   have hr := Option.some.inj hF
   subst hr
   exact rets (vs := [(.int .i64 u52.1), (.int .i64 u52.2)]) hQ rfl ⟨rv_tmp rfl, rv_tmp rfl, trivial⟩ ⟨rfl, hB55⟩
theorem C_spec_apEnds (w0 : World) (x0 : ((Int × Int) × (Int × Int) × Int)) (x1 : ((Int × Int) × (Int × Int) × Int)) (r : (Int × Int × Int × Int)) (hF : F_spec_apEnds x0 x1 = some r) :
  Calls Try.prog 261 [(.agg #[(.int .i64 x0.1.1), (.int .i64 x0.1.2), (.int .i64 x0.2.1.1), (.int .i64 x0.2.1.2), (.int .i64 x0.2.2)]), (.agg #[(.int .i64 x1.1.1), (.int .i64 x1.1.2), (.int .i64 x1.2.1.1), (.int .i64 x1.2.1.2), (.int .i64 x1.2.2)])].toArray w0 fun e w' => e = .returned (.tuple #[(.int .i64 r.1), (.int .i64 r.2.1), (.int .i64 r.2.2.1), (.int .i64 r.2.2.2)]) ∧ Below w0.heap.size w0 w' := by
 refine calls_mk' Try.func261 rfl Try.ntmps261 rfl rfl fun Q hQ hP => ?_
 have hB : Below w0.heap.size w0 w0 := Below.refl _ _
 have hS : Sep w0.heap.size w0 [] := Sep.nil _ _
 unfold F_spec_apEnds at hF
 refine W.seq fun K1 hK1 => W.region (wl_box (cs := [(.int .i64 x0.1.1), (.int .i64 x0.1.2), (.int .i64 x0.2.1.1), (.int .i64 x0.2.1.2), (.int .i64 x0.2.2)]) rfl rfl rfl hB hS ?_)
 intro b2 w3 hb4 hB5 hS6
 refine wl_box (cs := [(.int .i64 x1.1.1), (.int .i64 x1.1.2), (.int .i64 x1.2.1.1), (.int .i64 x1.2.1.2), (.int .i64 x1.2.2)]) rfl rfl rfl hB5 hS6 ?_
 intro b7 w8 hb9 hB10 hS11
 refine wl_assign rfl rfl (wl_assign rfl rfl (wl_assign rfl rfl (wl_assign rfl rfl (WL.nil (fun a ha => hK1 _ _ (W.seq fun K12 hK12 => (W.regionH mixed_ [] hB10 hS11 ?_)) a ha)))))
 intro w13 hb14 hB15 hS16
 have hSW17 := KeepX.refl w13 []
 refine WH.tk 0 rfl hP hSW17 (pr_field (o := 0) (off' := 0) ff_70_0 rfl rfl rfl (WH.tk 1 rfl hP hSW17 (pr_field (o := 0) (off' := 0) ff_68_0 rfl rfl rfl (WH.tk 2 rfl hP hSW17 (pr_load_blk (i := 1) (vs := [(.int .i64 x0.1.1)]) (v := (.int .i64 x0.1.1)) tf_3 rfl rfl hS16 rfl rfl rfl (by simp) (WH.tk 3 rfl hP hSW17 (pr_field (o := 0) (off' := 0) ff_70_0 rfl rfl rfl (WH.tk 4 rfl hP hSW17 (pr_field (o := 0) (off' := 0) ff_68_0 rfl rfl rfl (WH.tk 5 rfl hP hSW17 (pr_load_blk (i := 0) (vs := [(.int .i64 x1.1.1)]) (v := (.int .i64 x1.1.1)) tf_3 rfl rfl hS16 rfl rfl rfl (by simp) (WH.tk 6 rfl hP hSW17 (pr_sub rfl rfl rfl ?_)))))))))))))
 refine WH.tk 7 rfl hP hSW17 (pr_field (o := 0) (off' := 0) ff_70_0 rfl rfl rfl (WH.tk 8 rfl hP hSW17 (pr_field (o := 1) (off' := 1) ff_68_1 rfl rfl rfl (WH.tk 9 rfl hP hSW17 (pr_load_blk (i := 1) (vs := [(.int .i64 x0.1.2)]) (v := (.int .i64 x0.1.2)) tf_3 rfl rfl hS16 rfl rfl rfl (by simp) (WH.tk 10 rfl hP hSW17 (pr_field (o := 0) (off' := 0) ff_70_0 rfl rfl rfl (WH.tk 11 rfl hP hSW17 (pr_field (o := 1) (off' := 1) ff_68_1 rfl rfl rfl (WH.tk 12 rfl hP hSW17 (pr_load_blk (i := 0) (vs := [(.int .i64 x1.1.2)]) (v := (.int .i64 x1.1.2)) tf_3 rfl rfl hS16 rfl rfl rfl (by simp) (WH.tk 13 rfl hP hSW17 (pr_sub rfl rfl rfl ?_)))))))))))))
 refine WH.tk 14 rfl hP hSW17 (pr_field (o := 2) (off' := 2) ff_70_1 rfl rfl rfl (WH.tk 15 rfl hP hSW17 (pr_field (o := 0) (off' := 2) ff_68_0 rfl rfl rfl (WH.tk 16 rfl hP hSW17 (pr_load_blk (i := 1) (vs := [(.int .i64 x0.2.1.1)]) (v := (.int .i64 x0.2.1.1)) tf_3 rfl rfl hS16 rfl rfl rfl (by simp) (WH.tk 17 rfl hP hSW17 (pr_field (o := 2) (off' := 2) ff_70_1 rfl rfl rfl (WH.tk 18 rfl hP hSW17 (pr_field (o := 0) (off' := 2) ff_68_0 rfl rfl rfl (WH.tk 19 rfl hP hSW17 (pr_load_blk (i := 0) (vs := [(.int .i64 x1.2.1.1)]) (v := (.int .i64 x1.2.1.1)) tf_3 rfl rfl hS16 rfl rfl rfl (by simp) (WH.tk 20 rfl hP hSW17 (pr_sub rfl rfl rfl ?_)))))))))))))
 refine WH.tk 21 rfl hP hSW17 (pr_field (o := 2) (off' := 2) ff_70_1 rfl rfl rfl (WH.tk 22 rfl hP hSW17 (pr_field (o := 1) (off' := 3) ff_68_1 rfl rfl rfl (WH.tk 23 rfl hP hSW17 (pr_load_blk (i := 1) (vs := [(.int .i64 x0.2.1.2)]) (v := (.int .i64 x0.2.1.2)) tf_3 rfl rfl hS16 rfl rfl rfl (by simp) (WH.tk 24 rfl hP hSW17 (pr_field (o := 2) (off' := 2) ff_70_1 rfl rfl rfl (WH.tk 25 rfl hP hSW17 (pr_field (o := 1) (off' := 3) ff_68_1 rfl rfl rfl (WH.tk 26 rfl hP hSW17 (pr_load_blk (i := 0) (vs := [(.int .i64 x1.2.1.2)]) (v := (.int .i64 x1.2.1.2)) tf_3 rfl rfl hS16 rfl rfl rfl (by simp) (WH.tk 27 rfl hP hSW17 (pr_sub rfl rfl rfl ?_)))))))))))))
 refine WH.tk 28 rfl hP hSW17 (pr_assign rfl rfl (WH.tk 29 rfl hP hSW17 (pr_assign rfl rfl (WH.tk 30 rfl hP hSW17 (pr_assign rfl rfl (WH.tk 31 rfl hP hSW17 (pr_assign rfl rfl (WH.done (by kernel_rfl) (fun a ha => hK12 _ _ (W.ret ?_) a ha)))))))))
 have hr := Option.some.inj hF
 subst hr
 exact rets (vs := [(.int .i64 (w64 (x0.1.1 - x1.1.1))), (.int .i64 (w64 (x0.1.2 - x1.1.2))), (.int .i64 (w64 (x0.2.1.1 - x1.2.1.1))), (.int .i64 (w64 (x0.2.1.2 - x1.2.1.2)))]) hQ rfl ⟨rv_tmp rfl, rv_tmp rfl, rv_tmp rfl, rv_tmp rfl, trivial⟩ ⟨rfl, hB15⟩
theorem C_spec_apInner (w0 : World) (x0 : ((Int × Int) × (Int × Int) × Int)) (x1 : ((Int × Int) × (Int × Int) × Int)) (r : (Int × Int)) (hF : F_spec_apInner x0 x1 = some r) :
  Calls Try.prog 262 [(.agg #[(.int .i64 x0.1.1), (.int .i64 x0.1.2), (.int .i64 x0.2.1.1), (.int .i64 x0.2.1.2), (.int .i64 x0.2.2)]), (.agg #[(.int .i64 x1.1.1), (.int .i64 x1.1.2), (.int .i64 x1.2.1.1), (.int .i64 x1.2.1.2), (.int .i64 x1.2.2)])].toArray w0 fun e w' => e = .returned (.tuple #[(.int .i64 r.1), (.int .i64 r.2)]) ∧ Below w0.heap.size w0 w' := by
 refine calls_mk' Try.func262 rfl Try.ntmps262 rfl rfl fun Q hQ hP => ?_
 have hB : Below w0.heap.size w0 w0 := Below.refl _ _
 have hS : Sep w0.heap.size w0 [] := Sep.nil _ _
 unfold F_spec_apInner at hF
 refine W.seq fun K1 hK1 => W.region (wl_box (cs := [(.int .i64 x0.1.1), (.int .i64 x0.1.2), (.int .i64 x0.2.1.1), (.int .i64 x0.2.1.2), (.int .i64 x0.2.2)]) rfl rfl rfl hB hS ?_)
 intro b2 w3 hb4 hB5 hS6
 refine wl_box (cs := [(.int .i64 x1.1.1), (.int .i64 x1.1.2), (.int .i64 x1.2.1.1), (.int .i64 x1.2.1.2), (.int .i64 x1.2.2)]) rfl rfl rfl hB5 hS6 ?_
 intro b7 w8 hb9 hB10 hS11
 refine wl_assign rfl rfl (wl_assign rfl rfl (WL.nil (fun a ha => hK1 _ _ (W.seq fun K12 hK12 => (W.region (wl_load_blk (i := 1) (vs := [(.int .i64 x0.1.1), (.int .i64 x0.1.2), (.int .i64 x0.2.1.1), (.int .i64 x0.2.1.2), (.int .i64 x0.2.2)]) (v := (.agg #[(.int .i64 x0.1.1), (.int .i64 x0.1.2), (.int .i64 x0.2.1.1), (.int .i64 x0.2.1.2), (.int .i64 x0.2.2)])) tf_70 rfl rfl hS11 rfl rfl rfl (wl_load_blk (i := 0) (vs := [(.int .i64 x1.1.1), (.int .i64 x1.1.2), (.int .i64 x1.2.1.1), (.int .i64 x1.2.1.2), (.int .i64 x1.2.2)]) (v := (.agg #[(.int .i64 x1.1.1), (.int .i64 x1.1.2), (.int .i64 x1.2.1.1), (.int .i64 x1.2.1.2), (.int .i64 x1.2.2)])) tf_70 rfl rfl hS11 rfl rfl rfl ?_)))) a ha)))
 obtain ⟨u13, hu13, hF⟩ := bindE hF
 refine wl_call rfl Try.call261 (C_spec_apEnds w8 x0 x1 _ hu13) rfl ?_
 rintro _ w14 ⟨rfl, hb15⟩
 refine ⟨_, rfl, ?_⟩
 have hB16 := hB10.trans (hb15.mono hB10.size)
 have hS17 := hS11.below hb15
 refine wl_move rfl rfl (wl_extract rfl rfl rfl (wl_extract rfl rfl rfl (wl_extract rfl rfl rfl (wl_extract rfl rfl rfl (wl_assign rfl rfl (wl_assign rfl rfl (wl_assign rfl rfl (wl_assign rfl rfl (WL.nil (fun a ha => hK12 _ _ (W.seq fun K19 hK19 => (W.region (wl_move rfl rfl ?_))) a ha))))))))))
 refine wl_move rfl rfl (wl_sub rfl rfl rfl (wl_move rfl rfl (wl_move rfl rfl (wl_sub rfl rfl rfl (wl_assign rfl rfl (wl_assign rfl rfl (WL.nil (fun a ha => hK19 _ _ (W.seq fun K20 hK20 => (W.region (wl_move rfl rfl (wl_move rfl rfl (wl_mul rfl rfl rfl ?_))))) a ha))))))))
 refine wl_move rfl rfl (wl_move rfl rfl (wl_mul rfl rfl rfl (wl_add rfl rfl rfl (wl_neg rfl rfl (wl_move rfl rfl (wl_move rfl rfl (wl_mul rfl rfl rfl (wl_move rfl rfl (wl_move rfl rfl (wl_mul rfl rfl rfl (wl_add rfl rfl rfl (wl_assign rfl rfl (wl_assign rfl rfl ?_)))))))))))))
 refine WL.nil fun a ha => hK20 _ _ (W.seq fun K21 hK21 => (W.seq fun K22 hK22 => ?_)) a ha
 obtain ⟨k27, hk27, hF⟩ := jE1 hF
 have hJ28 : ∀ (y26 : Bool) (w23 : World) (_ : k27 y26 = some r) (_ : Below w0.heap.size w0 w23) (_ : Sep w0.heap.size w23 []), ∀ a, St 52 [(12, (.int .i64 (w64 (0 - (w64 ((w64 (u13.1 * (w64 (u13.2.2.1 - u13.1)))) + (w64 (u13.2.1 * (w64 (u13.2.2.2 - u13.2.1)))))))))), (13, (.int .i64 (w64 ((w64 ((w64 (u13.2.2.1 - u13.1)) * (w64 (u13.2.2.1 - u13.1)))) + (w64 ((w64 (u13.2.2.2 - u13.2.1)) * (w64 (u13.2.2.2 - u13.2.1)))))))), (49, (.bool y26))] a → K22 a w23 := by
  intro y26 w23 hF hB24 hS25
  subst hk27
  refine fun a ha => hK22 _ _ (W.cond rfl (fun h29 => ?_) (fun h29 => ?_)) a ha
  ·replace hF := ifP h29 hF
   refine W.seq fun K30 hK30 => W.region (wl_assign rfl rfl (wl_assign rfl rfl (WL.nil (fun a ha => hK30 _ _ (W.ret ?_) a ha))))
   have hr := Option.some.inj hF
   subst hr
   exact rets (vs := [(.int .i64 0), (.int .i64 0)]) hQ rfl ⟨rv_tmp rfl, rv_tmp rfl, trivial⟩ ⟨rfl, hB24⟩
  ·replace hF := ifN h29 hF
   refine W.skip fun a ha => hK21 _ _ (W.seq fun K31 hK31 => (W.region (wl_move rfl rfl (wl_move rfl rfl (wl_assign rfl rfl (wl_assign rfl rfl (WL.nil (fun a ha => hK31 _ _ (W.ret ?_) a ha)))))))) a ha
   have hr := Option.some.inj hF
   subst hr
   exact rets (vs := [(.int .i64 (w64 (0 - (w64 ((w64 (u13.1 * (w64 (u13.2.2.1 - u13.1)))) + (w64 (u13.2.1 * (w64 (u13.2.2.2 - u13.2.1))))))))), (.int .i64 (w64 ((w64 ((w64 (u13.2.2.1 - u13.1)) * (w64 (u13.2.2.1 - u13.1)))) + (w64 ((w64 (u13.2.2.2 - u13.2.1)) * (w64 (u13.2.2.2 - u13.2.1)))))))]) hQ rfl ⟨rv_tmp rfl, rv_tmp rfl, trivial⟩ ⟨rfl, hB24⟩
 refine W.region (wl_move rfl rfl (wl_leq rfl rfl rfl (wl_move rfl rfl ?_)))
 rcases bE (decide ((w64 (0 - (w64 ((w64 (u13.1 * (w64 (u13.2.2.1 - u13.1)))) + (w64 (u13.2.1 * (w64 (u13.2.2.2 - u13.2.1)))))))) ≤ 0)) with h32 | h32
 ·replace hF := ifP h32 hF
  refine wl_off rfl rfl rfl h32 (wl_off rfl rfl rfl h32 (wl_off rfl rfl rfl h32 (wl_pick_t rfl rfl h32 rfl (WL.nil ?_))))
  exact fun a ha => hJ28 (true) _ hF hB16 (hS17.sel [] rfl) a (ha.sub ⟨rfl, rfl, rfl, trivial⟩)
 ·replace hF := ifN h32 hF
  refine wl_on rfl rfl h32 (wl_move rfl rfl (wl_on rfl rfl h32 (wl_move rfl rfl (wl_on rfl rfl h32 (wl_geq rfl rfl rfl (wl_pick_f rfl rfl h32 rfl (WL.nil ?_)))))))
  exact fun a ha => hJ28 ((decide ((w64 ((w64 ((w64 (u13.2.2.1 - u13.1)) * (w64 (u13.2.2.1 - u13.1)))) + (w64 ((w64 (u13.2.2.2 - u13.2.1)) * (w64 (u13.2.2.2 - u13.2.1)))))) ≤ (w64 (0 - (w64 ((w64 (u13.1 * (w64 (u13.2.2.1 - u13.1)))) + (w64 (u13.2.1 * (w64 (u13.2.2.2 - u13.2.1))))))))))) _ hF hB16 (hS17.sel [] rfl) a (ha.sub ⟨rfl, rfl, rfl, trivial⟩)
theorem C_spec_l1Abs (w0 : World) (x0 : Int) (r : Int) (hF : F_spec_l1Abs x0 = some r) :
  Calls Try.prog 276 [(.int .i64 x0)].toArray w0 fun e w' => e = .returned (.int .i64 r) ∧ Below w0.heap.size w0 w' := by
 refine calls_mk' Try.func276 rfl Try.ntmps276 rfl rfl fun Q hQ hP => ?_
 have hB : Below w0.heap.size w0 w0 := Below.refl _ _
 unfold F_spec_l1Abs at hF
 refine W.seq fun K1 hK1 => W.region (wl_assign rfl rfl (WL.nil (fun a ha => hK1 _ _ (W.seq fun K2 hK2 => (W.region (wl_move rfl rfl (wl_move rfl rfl (wl_neg rfl rfl ?_))))) a ha)))
 obtain ⟨u3, hu3, hF⟩ := bindE hF
 refine wl_call rfl Try.call131 (C_spec_l1Most w0 x0 (w64 (0 - x0)) _ hu3) rfl ?_
 rintro _ w4 ⟨rfl, hb5⟩
 refine ⟨_, rfl, ?_⟩
 have hB6 := hB.trans (hb5.mono hB.size)
 refine wl_assign rfl rfl (WL.nil (fun a ha => hK2 _ _ (W.ret ?_) a ha))
 have hr := Option.some.inj hF
 subst hr
 exact rets (vs := [(.int .i64 u3)]) hQ rfl ⟨rv_tmp rfl, trivial⟩ ⟨rfl, hB6⟩
theorem C_spec_mvPart (w0 : World) (x0 : Int) (x1 : Int) (r : (Int × Int)) (hF : F_spec_mvPart x0 x1 = some r) :
  Calls Try.prog 263 [(.int .i64 x0), (.int .i64 x1)].toArray w0 fun e w' => e = .returned (.tuple #[(.int .i64 r.1), (.int .i64 r.2)]) ∧ Below w0.heap.size w0 w' := by
 refine calls_mk' Try.func263 rfl Try.ntmps263 rfl rfl fun Q hQ hP => ?_
 have hB : Below w0.heap.size w0 w0 := Below.refl _ _
 have hS : Sep w0.heap.size w0 [] := Sep.nil _ _
 unfold F_spec_mvPart at hF
 refine W.seq fun K1 hK1 => W.region (wl_assign rfl rfl (wl_assign rfl rfl (WL.nil (fun a ha => hK1 _ _ (W.seq fun K2 hK2 => (W.region (wl_move rfl rfl ?_))) a ha))))
 obtain ⟨u3, hu3, hF⟩ := bindE hF
 refine wl_call rfl Try.call276 (C_spec_l1Abs w0 x0 _ hu3) rfl ?_
 rintro _ w4 ⟨rfl, hb5⟩
 refine ⟨_, rfl, ?_⟩
 have hB6 := hB.trans (hb5.mono hB.size)
 have hS7 := hS.below hb5
 refine wl_move rfl rfl (wl_assign rfl rfl (wl_assign rfl rfl (WL.nil (fun a ha => hK2 _ _ (W.seq fun K9 hK9 => (W.block (W.loopk (fun m a w10 => ∃ (y13 : Int) (y14 : Int), St 25 [(0, (.int .i64 x0)), (1, (.int .i64 x1)), (6, (.int .i64 y13)), (7, (.int .i64 y14))] a ∧ Below w0.heap.size w0 w10 ∧ Sep w0.heap.size w10 [] ∧ F_spec_mvPart_L1 x0 x1 m y13 y14 = some r) FU ?_ ?_))) a ha))))
 ·
  exact fun a ha => ⟨u3, x1, ha.sub ⟨rfl, rfl, rfl, rfl, trivial⟩, hB6, (hS7.sel [] rfl), hF⟩
 ·
  rintro m17 a w10 ⟨y13, y14, ha, hB11, hS12, hF⟩ KL16 hKL16
  refine W.at ?_ ha
  cases m17 with
  | zero => exact noneE hF
  | succ m17 =>
   obtain ⟨nx15, hnx15⟩ : ∃ k, k = F_spec_mvPart_L1 x0 x1 m17 := ⟨_, rfl⟩
   rw [F_spec_mvPart_L1, ← hnx15] at hF
   refine W.seq fun K18 hK18 => W.seq fun K19 hK19 => W.region (wl_move rfl rfl (wl_gtr rfl rfl rfl (WL.nil (fun a ha => hK19 _ _ (W.cond rfl (fun h20 => ?_) (fun h20 => ?_)) a ha))))
   ·replace hF := ifP h20 hF
    refine W.skip fun a ha => hK18 _ _ (W.block (W.seq fun K21 hK21 => (W.region (wl_move rfl rfl (wl_move rfl rfl ?_))))) a ha
    have h22 : y14 ≠ 0 := fun h22 => noneE (ifP h22 hF)
    replace hF := ifNP h22 hF
    refine wl_rem rfl rfl rfl h22 (wl_assign rfl rfl (WL.nil (fun a ha => hK21 _ _ (W.seq fun K23 hK23 => (W.region (wl_move rfl rfl (wl_assign rfl rfl (WL.nil (fun a ha => hK23 _ _ (W.region (wl_move rfl rfl (wl_assign rfl rfl (WL.nil ?_)))) a ha)))))) a ha)))
    rw [hnx15] at hF
    exact fun a ha => hKL16 a _ m17 (Nat.lt_succ_self m17) ⟨y14, (Int.tmod y13 y14), ha.sub ⟨rfl, rfl, rfl, rfl, trivial⟩, hB11, (hS12.sel [] rfl), hF⟩
   ·replace hF := ifN h20 hF
    refine W.exit fun a ha => hK9 _ _ (W.seq fun K24 hK24 => (W.regionH mixed_ [] hB11 hS12 ?_)) a ha
    intro w25 hb26 hB27 hS28
    have hSW29 := KeepX.refl w25 []
    refine WH.tk 0 rfl hP hSW29 (pr_move rfl rfl (WH.tk 1 rfl hP hSW29 (pr_move rfl rfl ?_)))
    have h30 : y13 ≠ 0 := fun h30 => noneE (ifP h30 hF)
    replace hF := ifNP h30 hF
    refine WH.tk 2 rfl hP hSW29 (pr_quo rfl rfl rfl h30 (WH.tk 3 rfl hP hSW29 (pr_move rfl rfl (WH.tk 4 rfl hP hSW29 (pr_move rfl rfl ?_)))))
    have h31 : y13 ≠ 0 := fun h31 => noneE (ifP h31 hF)
    replace hF := ifNP h31 hF
    refine WH.tk 5 rfl hP hSW29 (pr_quo rfl rfl rfl h31 (WH.tk 6 rfl hP hSW29 (pr_assign rfl rfl (WH.tk 7 rfl hP hSW29 (pr_assign rfl rfl (WH.done (by kernel_rfl) (fun a ha => hK24 _ _ (W.ret ?_) a ha)))))))
    have hr := Option.some.inj hF
    subst hr
    exact rets (vs := [(.int .i64 (w64 (Int.tdiv x0 y13))), (.int .i64 (w64 (Int.tdiv x1 y13)))]) hQ rfl ⟨rv_tmp rfl, rv_tmp rfl, trivial⟩ ⟨rfl, hB27⟩
theorem C_spec_apLeast (w0 : World) (x0 : ((Int × Int) × (Int × Int) × Int)) (x1 : ((Int × Int) × (Int × Int) × Int)) (r : (Int × Int)) (hF : F_spec_apLeast x0 x1 = some r) :
  Calls Try.prog 237 [(.agg #[(.int .i64 x0.1.1), (.int .i64 x0.1.2), (.int .i64 x0.2.1.1), (.int .i64 x0.2.1.2), (.int .i64 x0.2.2)]), (.agg #[(.int .i64 x1.1.1), (.int .i64 x1.1.2), (.int .i64 x1.2.1.1), (.int .i64 x1.2.1.2), (.int .i64 x1.2.2)])].toArray w0 fun e w' => e = .returned (.tuple #[(.int .i64 r.1), (.int .i64 r.2)]) ∧ Below w0.heap.size w0 w' := by
 refine calls_mk' Try.func237 rfl Try.ntmps237 rfl rfl fun Q hQ hP => ?_
 have hB : Below w0.heap.size w0 w0 := Below.refl _ _
 have hS : Sep w0.heap.size w0 [] := Sep.nil _ _
 unfold F_spec_apLeast at hF
 refine W.seq fun K1 hK1 => W.region (wl_box (cs := [(.int .i64 x0.1.1), (.int .i64 x0.1.2), (.int .i64 x0.2.1.1), (.int .i64 x0.2.1.2), (.int .i64 x0.2.2)]) rfl rfl rfl hB hS ?_)
 intro b2 w3 hb4 hB5 hS6
 refine wl_box (cs := [(.int .i64 x1.1.1), (.int .i64 x1.1.2), (.int .i64 x1.2.1.1), (.int .i64 x1.2.1.2), (.int .i64 x1.2.2)]) rfl rfl rfl hB5 hS6 ?_
 intro b7 w8 hb9 hB10 hS11
 refine wl_assign rfl rfl (wl_assign rfl rfl (WL.nil (fun a ha => hK1 _ _ (W.seq fun K12 hK12 => (W.region (wl_load_blk (i := 1) (vs := [(.int .i64 x0.1.1), (.int .i64 x0.1.2), (.int .i64 x0.2.1.1), (.int .i64 x0.2.1.2), (.int .i64 x0.2.2)]) (v := (.agg #[(.int .i64 x0.1.1), (.int .i64 x0.1.2), (.int .i64 x0.2.1.1), (.int .i64 x0.2.1.2), (.int .i64 x0.2.2)])) tf_70 rfl rfl hS11 rfl rfl rfl (wl_load_blk (i := 0) (vs := [(.int .i64 x1.1.1), (.int .i64 x1.1.2), (.int .i64 x1.2.1.1), (.int .i64 x1.2.1.2), (.int .i64 x1.2.2)]) (v := (.agg #[(.int .i64 x1.1.1), (.int .i64 x1.1.2), (.int .i64 x1.2.1.1), (.int .i64 x1.2.1.2), (.int .i64 x1.2.2)])) tf_70 rfl rfl hS11 rfl rfl rfl ?_)))) a ha)))
 obtain ⟨u13, hu13, hF⟩ := bindE hF
 refine wl_call rfl Try.call261 (C_spec_apEnds w8 x0 x1 _ hu13) rfl ?_
 rintro _ w14 ⟨rfl, hb15⟩
 refine ⟨_, rfl, ?_⟩
 have hB16 := hB10.trans (hb15.mono hB10.size)
 have hS17 := hS11.below hb15
 refine wl_move rfl rfl (wl_extract rfl rfl rfl (wl_extract rfl rfl rfl (wl_extract rfl rfl rfl (wl_extract rfl rfl rfl (wl_assign rfl rfl (wl_assign rfl rfl (wl_assign rfl rfl (wl_assign rfl rfl (WL.nil (fun a ha => hK12 _ _ (W.seq fun K19 hK19 => (W.seq fun K20 hK20 => (W.region ?_))) a ha))))))))))
 refine wl_load_blk (i := 1) (vs := [(.int .i64 x0.1.1), (.int .i64 x0.1.2), (.int .i64 x0.2.1.1), (.int .i64 x0.2.1.2), (.int .i64 x0.2.2)]) (v := (.agg #[(.int .i64 x0.1.1), (.int .i64 x0.1.2), (.int .i64 x0.2.1.1), (.int .i64 x0.2.1.2), (.int .i64 x0.2.2)])) tf_70 rfl rfl hS17 rfl rfl rfl (wl_load_blk (i := 0) (vs := [(.int .i64 x1.1.1), (.int .i64 x1.1.2), (.int .i64 x1.2.1.1), (.int .i64 x1.2.1.2), (.int .i64 x1.2.2)]) (v := (.agg #[(.int .i64 x1.1.1), (.int .i64 x1.1.2), (.int .i64 x1.2.1.1), (.int .i64 x1.2.1.2), (.int .i64 x1.2.2)])) tf_70 rfl rfl hS17 rfl rfl rfl ?_)
 obtain ⟨u21, hu21, hF⟩ := bindE hF
 refine wl_call rfl Try.call262 (C_spec_apInner w14 x0 x1 _ hu21) rfl ?_
 rintro _ w22 ⟨rfl, hb23⟩
 refine ⟨_, rfl, ?_⟩
 have hB24 := hB16.trans (hb23.mono hB16.size)
 refine wl_move rfl rfl (wl_extract rfl rfl rfl (wl_extract rfl rfl rfl (wl_assign rfl rfl (wl_assign rfl rfl (WL.nil (fun a ha => hK20 _ _ (W.seq fun K27 hK27 => (W.region (wl_move rfl rfl (wl_gtr rfl rfl rfl (WL.nil (fun a ha => hK27 _ _ (W.cond rfl (fun h28 => ?_) (fun h28 => ?_)) a ha)))))) a ha))))))
 ·replace hF := ifP h28 hF
  refine W.seq fun K29 hK29 => W.region (wl_move rfl rfl (wl_move rfl rfl (wl_mul rfl rfl rfl (wl_move rfl rfl (wl_move rfl rfl (wl_mul rfl rfl rfl (wl_sub rfl rfl rfl (wl_assign rfl rfl (WL.nil (fun a ha => hK29 _ _ (W.seq fun K30 hK30 => (W.region ?_)) a ha))))))))))
  refine wl_move rfl rfl (wl_move rfl rfl (wl_mul rfl rfl rfl (wl_move rfl rfl ?_)))
  obtain ⟨u31, hu31, hF⟩ := bindE hF
  refine wl_call rfl Try.call263 (C_spec_mvPart w22 (w64 ((w64 ((w64 (u13.1 * u13.2.2.2)) - (w64 (u13.2.1 * u13.2.2.1)))) * (w64 ((w64 (u13.1 * u13.2.2.2)) - (w64 (u13.2.1 * u13.2.2.1)))))) u21.2 _ hu31) rfl ?_
  rintro _ w32 ⟨rfl, hb33⟩
  refine ⟨_, rfl, ?_⟩
  have hB34 := hB24.trans (hb33.mono hB24.size)
  refine wl_extract rfl rfl rfl (wl_extract rfl rfl rfl (wl_assign rfl rfl (wl_assign rfl rfl (WL.nil (fun a ha => hK30 _ _ (W.ret ?_) a ha)))))
  have hr := Option.some.inj hF
  subst hr
  exact rets (vs := [(.int .i64 u31.1), (.int .i64 u31.2)]) hQ rfl ⟨rv_tmp rfl, rv_tmp rfl, trivial⟩ ⟨rfl, hB34⟩
 ·replace hF := ifN h28 hF
  refine W.skip fun a ha => hK19 _ _ (W.seq fun K37 hK37 => (W.region (wl_move rfl rfl (wl_move rfl rfl (wl_mul rfl rfl rfl (wl_move rfl rfl (wl_move rfl rfl (wl_mul rfl rfl rfl (wl_add rfl rfl rfl (wl_move rfl rfl (wl_move rfl rfl (wl_mul rfl rfl rfl ?_)))))))))))) a ha
  refine wl_move rfl rfl (wl_move rfl rfl (wl_mul rfl rfl rfl (wl_add rfl rfl rfl ?_)))
  obtain ⟨u38, hu38, hF⟩ := bindE hF
  refine wl_call rfl Try.call167 (C_spec_l1Least w22 (w64 ((w64 (u13.1 * u13.1)) + (w64 (u13.2.1 * u13.2.1)))) (w64 ((w64 (u13.2.2.1 * u13.2.2.1)) + (w64 (u13.2.2.2 * u13.2.2.2)))) _ hu38) rfl ?_
  rintro _ w39 ⟨rfl, hb40⟩
  refine ⟨_, rfl, ?_⟩
  have hB41 := hB24.trans (hb40.mono hB24.size)
  refine wl_assign rfl rfl (wl_assign rfl rfl (WL.nil (fun a ha => hK37 _ _ (W.ret ?_) a ha)))
  have hr := Option.some.inj hF
  subst hr
  exact rets (vs := [(.int .i64 u38), (.int .i64 1)]) hQ rfl ⟨rv_tmp rfl, rv_tmp rfl, trivial⟩ ⟨rfl, hB41⟩
theorem C_impl_stayApart (w0 : World) (x0 : ((Int × Int) × (Int × Int) × Int)) (x1 : ((Int × Int) × (Int × Int) × Int)) (x2 : Int) (r : Bool) (hF : F_impl_stayApart x0 x1 x2 = some r) :
  Calls Try.prog 238 [(.agg #[(.int .i64 x0.1.1), (.int .i64 x0.1.2), (.int .i64 x0.2.1.1), (.int .i64 x0.2.1.2), (.int .i64 x0.2.2)]), (.agg #[(.int .i64 x1.1.1), (.int .i64 x1.1.2), (.int .i64 x1.2.1.1), (.int .i64 x1.2.1.2), (.int .i64 x1.2.2)]), (.int .i64 x2)].toArray w0 fun e w' => e = .returned (.bool r) ∧ Below w0.heap.size w0 w' := by
 refine calls_mk' Try.func238 rfl Try.ntmps238 rfl rfl fun Q hQ hP => ?_
 have hB : Below w0.heap.size w0 w0 := Below.refl _ _
 have hS : Sep w0.heap.size w0 [] := Sep.nil _ _
 unfold F_impl_stayApart at hF
 refine W.seq fun K1 hK1 => W.region (wl_box (cs := [(.int .i64 x0.1.1), (.int .i64 x0.1.2), (.int .i64 x0.2.1.1), (.int .i64 x0.2.1.2), (.int .i64 x0.2.2)]) rfl rfl rfl hB hS ?_)
 intro b2 w3 hb4 hB5 hS6
 refine wl_box (cs := [(.int .i64 x1.1.1), (.int .i64 x1.1.2), (.int .i64 x1.2.1.1), (.int .i64 x1.2.1.2), (.int .i64 x1.2.2)]) rfl rfl rfl hB5 hS6 ?_
 intro b7 w8 hb9 hB10 hS11
 refine wl_assign rfl rfl (WL.nil (fun a ha => hK1 _ _ (W.seq fun K12 hK12 => (W.region (wl_load_blk (i := 1) (vs := [(.int .i64 x0.1.1), (.int .i64 x0.1.2), (.int .i64 x0.2.1.1), (.int .i64 x0.2.1.2), (.int .i64 x0.2.2)]) (v := (.agg #[(.int .i64 x0.1.1), (.int .i64 x0.1.2), (.int .i64 x0.2.1.1), (.int .i64 x0.2.1.2), (.int .i64 x0.2.2)])) tf_70 rfl rfl hS11 rfl rfl rfl (wl_load_blk (i := 0) (vs := [(.int .i64 x1.1.1), (.int .i64 x1.1.2), (.int .i64 x1.2.1.1), (.int .i64 x1.2.1.2), (.int .i64 x1.2.2)]) (v := (.agg #[(.int .i64 x1.1.1), (.int .i64 x1.1.2), (.int .i64 x1.2.1.1), (.int .i64 x1.2.1.2), (.int .i64 x1.2.2)])) tf_70 rfl rfl hS11 rfl rfl rfl ?_)))) a ha))
 obtain ⟨u13, hu13, hF⟩ := bindE hF
 refine wl_call rfl Try.call157 (C_impl_leastApart w8 x0 x1 _ hu13) rfl ?_
 rintro _ w14 ⟨rfl, hb15⟩
 refine ⟨_, rfl, ?_⟩
 have hB16 := hB10.trans (hb15.mono hB10.size)
 refine wl_move rfl rfl (wl_extract rfl rfl rfl (wl_extract rfl rfl rfl (wl_assign rfl rfl (wl_assign rfl rfl (WL.nil (fun a ha => hK12 _ _ (W.seq fun K19 hK19 => (W.region (wl_move rfl rfl (wl_move rfl rfl (wl_move rfl rfl (wl_mul rfl rfl rfl (wl_move rfl rfl ?_))))))) a ha))))))
 refine wl_mul rfl rfl rfl (wl_geq rfl rfl rfl (wl_assign rfl rfl (WL.nil (fun a ha => hK19 _ _ (W.ret ?_) a ha))))
 have hr := Option.some.inj hF
 subst hr
 exact rets (vs := [(.bool (decide ((w64 ((w64 (x2 * x2)) * u13.2)) ≤ u13.1)))]) hQ rfl ⟨rv_tmp rfl, trivial⟩ ⟨rfl, hB16⟩
theorem C_impl_pairsTooClose (w0 : World) (x0 : (List ((Int × Int) × (Int × Int) × Int))) (v0_0 : Value) (h0_0 : rdS ty_70 (· < w0.heap.size) w0 v0_0 x0) (x1 : Int) (r : (List (List Int))) (hF : F_impl_pairsTooClose x0 x1 = some r) :
  Calls Try.prog 162 [v0_0, (.int .i64 x1)].toArray w0 fun e w' => ∃ (q0 : Value) (G0 : List Nat), e = .returned q0 ∧ Below w0.heap.size w0 w' ∧ Sep w0.heap.size w' [R.own ty_29 G0 q0 r] := by
 refine calls_mk' Try.func162 rfl Try.ntmps162 rfl rfl fun Q hQ hP => ?_
 have hB : Below w0.heap.size w0 w0 := Below.refl _ _
 have hS : Sep w0.heap.size w0 [] := Sep.nil _ _
 unfold F_impl_pairsTooClose at hF
 refine W.seq fun K1 hK1 => W.region (wl_assign rfl rfl (WL.nil (fun a ha => hK1 _ _ (W.seq fun K2 hK2 => (W.region (wl_lit0 (e := ty_29) Try.underlying72 rfl hB hS ?_))) a ha)))
 intro v3 F4 w5 hb6 hB7 hS8
 refine wl_assign rfl rfl (WL.nil (fun a ha => hK2 _ _ (W.seq fun K9 hK9 => (W.seq fun K10 hK10 => (W.region (wl_move rfl rfl (wl_lenr (e := ty_70) (l := x0) Try.underlying64 rfl rfl h0_0 (wl_move rfl rfl (WL.nil (fun a ha => hK10 _ _ (W.block (W.loopk (fun m a w11 => ∃ (l14 : (List (List Int))) (y17 : Int) (v15 : Value) (F16 : List Nat), St 41 [(0, v0_0), (1, (.int .i64 x1)), (5, v15), (10, (.int .i64 (List.length x0 : Int))), (11, (.int .i64 y17))] a ∧ Below w0.heap.size w0 w11 ∧ Sep w0.heap.size w11 [R.own ty_29 F16 v15 l14] ∧ F_impl_pairsTooClose_L1 x0 x1 m l14 y17 = some r) FU ?_ ?_)) a ha)))))))) a ha))
 ·
  exact fun a ha => ⟨[], 0, v3, F4, ha.sub ⟨rfl, rfl, rfl, rfl, rfl, trivial⟩, hB7, (hS8.sel [0] rfl), hF⟩
 ·
  rintro m20 a w11 ⟨l14, y17, v15, F16, ha, hB12, hS13, hF⟩ KL19 hKL19
  refine W.at ?_ ha
  cases m20 with
  | zero => exact noneE hF
  | succ m20 =>
   obtain ⟨nx18, hnx18⟩ : ∃ k, k = F_impl_pairsTooClose_L1 x0 x1 m20 := ⟨_, rfl⟩
   rw [F_impl_pairsTooClose_L1, ← hnx18] at hF
   refine W.seq fun K21 hK21 => W.region (wl_lss rfl rfl rfl (WL.nil (fun a ha => hK21 _ _ (W.seq fun K22 hK22 => (W.cond rfl (fun h23 => ?_) (fun h23 => ?_))) a ha)))
   ·replace hF := ifP h23 hF
    refine W.skip fun a ha => hK22 _ _ (W.seq fun K24 hK24 => (W.block (W.seq fun K25 hK25 => (W.region (wl_move rfl rfl (wl_assign rfl rfl (WL.nil (fun a ha => hK25 _ _ (W.seq fun K26 hK26 => (W.region (wl_move rfl rfl (wl_add rfl rfl rfl ?_)))) a ha)))))))) a ha
    refine wl_assign rfl rfl (WL.nil (fun a ha => hK26 _ _ (W.block (W.loopk (fun m a w27 => ∃ (l30 : (List (List Int))) (y33 : Int) (v31 : Value) (F32 : List Nat), St 41 [(0, v0_0), (1, (.int .i64 x1)), (5, v31), (6, (.int .i64 y17)), (7, (.int .i64 y33)), (10, (.int .i64 (List.length x0 : Int))), (11, (.int .i64 y17))] a ∧ Below w0.heap.size w0 w27 ∧ Sep w0.heap.size w27 [R.own ty_29 F32 v31 l30] ∧ F_impl_pairsTooClose_L2 x0 y17 x1 nx18 m l30 y33 = some r) FU ?_ ?_)) a ha))
    ·
     exact fun a ha => ⟨l14, (w64 (y17 + 1)), v15, F16, ha.sub ⟨rfl, rfl, rfl, rfl, rfl, rfl, rfl, trivial⟩, hB12, (hS13.sel [0] rfl), hF⟩
    ·
     rintro m36 a w27 ⟨l30, y33, v31, F32, ha, hB28, hS29, hF⟩ KL35 hKL35
     refine W.at ?_ ha
     cases m36 with
     | zero => exact noneE hF
     | succ m36 =>
      obtain ⟨nx34, hnx34⟩ : ∃ k, k = F_impl_pairsTooClose_L2 x0 y17 x1 nx18 m36 := ⟨_, rfl⟩
      rw [F_impl_pairsTooClose_L2, ← hnx34] at hF
      refine W.seq fun K37 hK37 => W.seq fun K38 hK38 => W.region (wl_move rfl rfl (wl_move rfl rfl (wl_lenr (e := ty_70) (l := x0) Try.underlying64 rfl rfl h0_0 (wl_lss rfl rfl rfl (WL.nil (fun a ha => hK38 _ _ (W.cond rfl (fun h39 => ?_) (fun h39 => ?_)) a ha))))))
      ·replace hF := ifP h39 hF
       refine W.skip fun a ha => hK37 _ _ (W.seq fun K40 hK40 => ?_) a ha
       obtain ⟨k47, hk47, hF⟩ := jE1 hF
       have hJ48 : ∀ (l44 : (List (List Int))) (v45 : Value) (F46 : List Nat) (w41 : World) (_ : k47 l44 = some r) (_ : Below w0.heap.size w0 w41) (_ : Sep w0.heap.size w41 [R.own ty_29 F46 v45 l44]), ∀ a, St 41 [(0, v0_0), (1, (.int .i64 x1)), (5, v45), (6, (.int .i64 y17)), (7, (.int .i64 y33)), (10, (.int .i64 (List.length x0 : Int))), (11, (.int .i64 y17))] a → K40 a w41 := by
        intro l44 v45 F46 w41 hF hB42 hS43
        subst hk47
        refine fun a ha => hK40 _ _ (W.region (wl_move rfl rfl (wl_add rfl rfl rfl (wl_assign rfl rfl (WL.nil ?_))))) a ha
        rw [hnx34] at hF
        exact fun a ha => hKL35 a _ m36 (Nat.lt_succ_self m36) ⟨l44, (w64 (y33 + 1)), v45, F46, ha.sub ⟨rfl, rfl, rfl, rfl, rfl, rfl, rfl, trivial⟩, hB42, (hS43.sel [0] rfl), hF⟩
       refine W.block (W.seq fun K49 hK49 => (W.regionH mixed_ [] hB28 hS29 ?_))
       intro w50 hb51 hB52 hS53
       have hSW54 := KeepX.refl w50 []
       refine WH.tk 0 rfl hP hSW54 (pr_move rfl rfl (WH.tk 1 rfl hP hSW54 (pr_move rfl rfl ?_)))
       obtain ⟨u55, hu55, hF⟩ := bindE hF
       refine WH.tk 2 rfl hP hSW54 (pr_index (e := ty_70) Try.underlying64 rfl rfl rfl h0_0 hu55 ?_)
       rintro p56 _ rfl hp57
       refine WH.tk 3 rfl hP hSW54 (pr_load_p (vs := [(.int .i64 u55.1.1), (.int .i64 u55.1.2), (.int .i64 u55.2.1.1), (.int .i64 u55.2.1.2), (.int .i64 u55.2.2)]) (v := (.agg #[(.int .i64 u55.1.1), (.int .i64 u55.1.2), (.int .i64 u55.2.1.1), (.int .i64 u55.2.1.2), (.int .i64 u55.2.2)])) tf_70 rfl rfl (hp57.kx hB52 (by simp)) rfl rfl (WH.tk 4 rfl hP hSW54 (pr_move rfl rfl (WH.tk 5 rfl hP hSW54 (pr_move rfl rfl ?_)))))
       obtain ⟨u58, hu58, hF⟩ := bindE hF
       refine WH.tk 6 rfl hP hSW54 (pr_index (e := ty_70) Try.underlying64 rfl rfl rfl h0_0 hu58 ?_)
       rintro p59 _ rfl hp60
       refine WH.tk 7 rfl hP hSW54 (pr_load_p (vs := [(.int .i64 u58.1.1), (.int .i64 u58.1.2), (.int .i64 u58.2.1.1), (.int .i64 u58.2.1.2), (.int .i64 u58.2.2)]) (v := (.agg #[(.int .i64 u58.1.1), (.int .i64 u58.1.2), (.int .i64 u58.2.1.1), (.int .i64 u58.2.1.2), (.int .i64 u58.2.2)])) tf_70 rfl rfl (hp60.kx hB52 (by simp)) rfl rfl (WH.tk 8 rfl hP hSW54 (pr_move rfl rfl (WH.on1 9 rfl ?_))))
       obtain ⟨u61, hu61, hF⟩ := bindE hF
       refine wl_call rfl Try.call238 (C_impl_stayApart w50 u55 u58 x1 _ hu61) rfl ?_
       rintro _ w62 ⟨rfl, hb63⟩
       refine ⟨_, rfl, ?_⟩
       have hB64 := hB52.trans (hb63.mono hB52.size)
       have hS65 := hS53.below hb63
       have hSW67 := hSW54.ext hb63
       refine WL.nil (WH.ret hSW67 (WH.tk 10 rfl hP hSW67 (pr_not rfl rfl (WH.done (by kernel_rfl) (fun a ha => hK49 _ _ (W.cond rfl (fun h68 => ?_) (fun h68 => ?_)) a ha)))))
       ·replace hF := ifP h68 hF
        refine W.region (wl_move rfl rfl (wl_move rfl rfl (wl_move rfl rfl (wl_lit (vs := [(.int .i64 y17), (.int .i64 y33)]) (l := [y17, y33]) fl_3 Try.underlying29 rfl rfl rfl rfl rfl rfl hB64 hS65 ?_))))
        intro v69 F70 w71 hb72 hB73 hS74
        have hq75 := hS74.sel [0, 1] rfl
        have hq76 := hq75.head (r' := R.cel ty_29 F70 [v69] [y17, y33]) (rfl) fun _ h0 => ⟨_, rfl, h0⟩
        refine wl_lit1 (e := ty_29) (vs := [v69]) Try.underlying72 rfl rfl (cells_one (hS74.own_ro (i := 0) rfl).one) rfl hB73 hq76 ?_
        intro v77 F78 w79 hb80 hf81 hB82 hS83
        obtain ⟨u84, hu84, hF⟩ := bindE hF
        refine wl_appendn (e := ty_29) Try.underlying72 rfl rfl rfl hB82 (hS83.sel [1, 0] rfl) hu84 ?_
        intro v85 F86 w87 hk88 hB89 hS90
        refine wl_assign rfl rfl (WL.nil ?_)
        exact fun a ha => hJ48 (u84) (v85) (F86) _ hF hB89 (hS90.sel [0] rfl) a (ha.sub ⟨rfl, rfl, rfl, rfl, rfl, rfl, rfl, trivial⟩)
       ·replace hF := ifN h68 hF
        refine W.skip ?_
        exact fun a ha => hJ48 (l30) (v31) (F32) _ hF hB64 (hS65.sel [0] rfl) a (ha.sub ⟨rfl, rfl, rfl, rfl, rfl, rfl, rfl, trivial⟩)
      ·replace hF := ifN h39 hF
       refine W.exit fun a ha => hK24 _ _ (W.region (wl_add rfl rfl rfl (wl_move rfl rfl (WL.nil ?_)))) a ha
       rw [hnx18] at hF
       exact fun a ha => hKL19 a _ m20 (Nat.lt_succ_self m20) ⟨l30, (w64 (y17 + 1)), v31, F32, ha.sub ⟨rfl, rfl, rfl, rfl, rfl, trivial⟩, hB28, (hS29.sel [0] rfl), hF⟩
   ·replace hF := ifN h23 hF
    refine W.exit fun a ha => hK9 _ _ (W.seq fun K91 hK91 => (W.region (wl_move rfl rfl (wl_assign rfl rfl (WL.nil (fun a ha => hK91 _ _ (W.ret ?_) a ha)))))) a ha
    have hr := Option.some.inj hF
    subst hr
    exact rets (vs := [v15]) hQ rfl ⟨rv_tmp rfl, trivial⟩ ⟨v15, F16, rfl, hB12, hS13.sel [0] rfl⟩
theorem C_impl_isPart (w0 : World) (x0 : ((List (List (Int × Int))) × (List Int) × Int × Int)) (v0_0 : Value) (h0_0 : rdS ty_63 (· < w0.heap.size) w0 v0_0 x0.1) (v0_1 : Value) (h0_1 : rdS ty_3 (· < w0.heap.size) w0 v0_1 x0.2.1) (x1 : Int) (r : Bool) (hF : F_impl_isPart x0 x1 = some r) :
  Calls Try.prog 163 [(.agg #[v0_0, v0_1, (.int .i64 x0.2.2.1), (.int .i64 x0.2.2.2)]), (.int .i64 x1)].toArray w0 fun e w' => e = .returned (.bool r) ∧ Below w0.heap.size w0 w' := by
 refine calls_mk' Try.func163 rfl Try.ntmps163 rfl rfl fun Q hQ hP => ?_
 have hB : Below w0.heap.size w0 w0 := Below.refl _ _
 have hS : Sep w0.heap.size w0 [] := Sep.nil _ _
 unfold F_impl_isPart at hF
 refine W.seq fun K1 hK1 => W.region (wl_box (cs := [v0_0, v0_1, (.int .i64 x0.2.2.1), (.int .i64 x0.2.2.2)]) rfl rfl rfl hB hS ?_)
 intro b2 w3 hb4 hB5 hS6
 refine wl_assign rfl rfl (WL.nil (fun a ha => hK1 _ _ (W.seq fun K7 hK7 => ?_) a ha))
 obtain ⟨k12, hk12, hF⟩ := jE1 hF
 have hJ13 : ∀ (y11 : Bool) (w8 : World) (_ : k12 y11 = some r) (_ : Below w0.heap.size w0 w8) (_ : Sep w0.heap.size w8 []), ∀ a, St 15 [(4, (.bool y11))] a → K7 a w8 := by
  intro y11 w8 hF hB9 hS10
  subst hk12
  refine fun a ha => hK7 _ _ (W.ret ?_) a ha
  have hr := Option.some.inj hF
  subst hr
  exact rets (vs := [(.bool y11)]) hQ rfl ⟨rv_tmp rfl, trivial⟩ ⟨rfl, hB9⟩
 refine W.region (wl_load_blk (i := 0) (vs := [v0_0, v0_1, (.int .i64 x0.2.2.1), (.int .i64 x0.2.2.2)]) (v := (.agg #[v0_0, v0_1, (.int .i64 x0.2.2.1), (.int .i64 x0.2.2.2)])) tf_53 rfl rfl hS6 rfl rfl rfl ?_)
 obtain ⟨u14, hu14, hF⟩ := bindE hF
 refine wl_call rfl Try.call60 (C_impl_IsShow w3 x0 v0_0 (h0_0.ro hB5) v0_1 (h0_1.ro hB5) _ hu14) rfl ?_
 rintro _ w15 ⟨rfl, hb16⟩
 refine ⟨_, rfl, ?_⟩
 have hB17 := hB5.trans (hb16.mono hB5.size)
 have hS18 := hS6.below hb16
 refine wl_move rfl rfl ?_
 rcases bE u14 with h20 | h20
 ·replace hF := ifP h20 hF
  refine wl_on rfl rfl h20 (wl_move rfl rfl (wl_on rfl rfl h20 (wl_field (o := 1) (off' := 1) ff_53_1 rfl rfl rfl (wl_on rfl rfl h20 (wl_load_blk (i := 0) (vs := [v0_1]) (v := v0_1) tf_29 rfl rfl hS18 rfl rfl rfl (wl_on rfl rfl h20 (wl_lenr (e := ty_3) (l := x0.2.1) Try.underlying29 rfl rfl h0_1 (wl_on rfl rfl h20 (wl_sub rfl rfl rfl (wl_on rfl rfl h20 ?_))))))))))
  obtain ⟨u21, hu21, hF⟩ := bindE hF
  refine wl_call rfl Try.call128 (C_impl_within w15 x1 0 (w64 ((List.length x0.2.1 : Int) - 1)) _ hu21) rfl ?_
  rintro _ w22 ⟨rfl, hb23⟩
  refine ⟨_, rfl, ?_⟩
  have hB24 := hB17.trans (hb23.mono hB17.size)
  have hS25 := hS18.below hb23
  refine wl_pick_t rfl rfl h20 rfl (wl_assign rfl rfl (WL.nil ?_))
  exact fun a ha => hJ13 (u21) _ hF hB24 (hS25.sel [] rfl) a (ha.sub ⟨rfl, trivial⟩)
 ·replace hF := ifN h20 hF
  refine wl_off rfl rfl rfl h20 (wl_off rfl rfl rfl h20 (wl_off rfl rfl rfl h20 (wl_off rfl rfl rfl h20 (wl_off rfl rfl rfl h20 (wl_off rfl rfl rfl h20 (wl_pick_f rfl rfl h20 rfl (wl_assign rfl rfl (WL.nil ?_))))))))
  exact fun a ha => hJ13 (false) _ hF hB17 (hS18.sel [] rfl) a (ha.sub ⟨rfl, trivial⟩)
end Go.Proofs.Ytmkignciedkidaa
