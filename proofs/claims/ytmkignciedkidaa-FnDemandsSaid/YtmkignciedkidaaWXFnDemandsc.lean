/-
  THE WALKS of functions of this seat, by program (gen.py, prune.py).
-/
import Derived.Test.YtmkignciedkidaaWXFnDemandsb
set_option linter.unusedSimpArgs false
set_option linter.unusedVariables false
set_option maxRecDepth 100000
set_option maxHeartbeats 1600000
namespace Go.Proofs.Ytmkignciedkidaa
open Go Go.RowKit
theorem C_spec_l1Cur__showsTwo__mut__box (w0 : World) (x0 : ((List Int) × Int × Int)) (b0 : Nat) (v0_0 : Value) (h0_0 : rdS ty_5 (Out (fps [R.blk b0 131 [v0_0, (.int .i64 x0.2.1), (.int .u64 x0.2.2)]]) w0) w0 v0_0 x0.1) (hS0 : Sep 0 w0 [R.blk b0 131 [v0_0, (.int .i64 x0.2.1), (.int .u64 x0.2.2)]]) (r : (((List (List (Int × Int))) × (List Int) × Int × Int) × ((List (List (Int × Int))) × (List Int) × Int × Int) × ((List Int) × Int × Int))) (hF : F_spec_l1Cur__showsTwo__mut__box x0 = some r) :
  Calls Try.prog 213 [(.pointer (some ⟨b0, 0, none⟩))].toArray w0 fun e w' => ∃ (q0 : Value) (G0 : List Nat) (q1 : Value) (G1 : List Nat) (q2 : Value) (G2 : List Nat) (q3 : Value) (G3 : List Nat), e = .returned (.tuple #[(.agg #[q0, q1, (.int .i64 r.1.2.2.1), (.int .i64 r.1.2.2.2)]), (.agg #[q2, q3, (.int .i64 r.2.1.2.2.1), (.int .i64 r.2.1.2.2.2)])]) ∧ Below 0 (wE w0) w' ∧ Sep 0 w' [R.rest w0 (fps [R.blk b0 131 [v0_0, (.int .i64 x0.2.1), (.int .u64 x0.2.2)]]), R.blk b0 131 [v0_0, (.int .i64 r.2.2.2.1), (.int .u64 r.2.2.2.2)], R.own ty_63 G0 q0 r.1.1, R.own ty_3 G1 q1 r.1.2.1, R.own ty_63 G2 q2 r.2.1.1, R.own ty_3 G3 q3 r.2.1.2.1] := by
 refine calls_mk' Try.func213 rfl Try.ntmps213 rfl rfl fun Q hQ hP => ?_
 have hB : Below (wE w0).heap.size (wE w0) w0 := wE_below w0
 have hS : Sep (wE w0).heap.size w0 [R.rest w0 (fps [R.blk b0 131 [v0_0, (.int .i64 x0.2.1), (.int .u64 x0.2.2)]]), R.blk b0 131 [v0_0, (.int .i64 x0.2.1), (.int .u64 x0.2.2)]] := hS0.rest
 unfold F_spec_l1Cur__showsTwo__mut__box at hF
 refine W.seq fun K1 hK1 => W.region (wl_alloc (cs := [(.slice none 0 0), (.slice none 0 0), (.int .i64 0), (.int .i64 0)]) tf_53 rfl rfl hB hS ?_)
 intro b2 w3 hb4 hB5 hS6
 refine wl_alloc (cs := [(.slice none 0 0), (.slice none 0 0), (.int .i64 0), (.int .i64 0)]) tf_53 rfl rfl hB5 hS6 ?_
 intro b7 w8 hb9 hB10 hS11
 refine WL.nil fun a ha => hK1 _ _ (W.seq fun K12 hK12 => (W.region (wl_move rfl rfl ?_))) a ha
 obtain ⟨u13, hu13, hF⟩ := bindE hF
 refine wl_call rfl Try.call149 (C_spec_l1Cur__show__mut__box w8 x0 b0 v0_0 (h0_0.rsto (hS11.sel [2, 3] rfl)) (hS11.sel [3] rfl).base0 _ hu13) rfl ?_
 rintro _ w14 ⟨v19, F20, v21, F22, rfl, hE15, hM16⟩
 refine ⟨_, rfl, ?_⟩
 have hB17 := hS11.takeB [3] rfl (M := [R.blk b0 131 [v0_0, (.int .i64 x0.2.1), (.int .u64 x0.2.2)]]) rfl hB10 hE15 hM16
 have hS18 : Sep (wE w0).heap.size w14 [R.blk b0 131 [v0_0, (.int .i64 u13.2.2.1), (.int .u64 u13.2.2.2)], R.own ty_63 F20 v19 u13.1.1, R.own ty_3 F22 v21 u13.1.2.1, R.blk b7 53 [(.slice none 0 0), (.slice none 0 0), (.int .i64 0), (.int .i64 0)], R.blk b2 53 [(.slice none 0 0), (.slice none 0 0), (.int .i64 0), (.int .i64 0)], R.rest w0 (fps [R.blk b0 131 [v0_0, (.int .i64 x0.2.1), (.int .u64 x0.2.2)]])] := hS11.take [3] [0, 1, 2] rfl (M := [R.blk b0 131 [v0_0, (.int .i64 x0.2.1), (.int .u64 x0.2.2)]]) rfl hM16 hB10.size
 refine wl_alloc (cs := [(.slice none 0 0), (.slice none 0 0), (.int .i64 0), (.int .i64 0)]) tf_53 rfl rfl hB17 hS18 ?_
 intro b23 w24 hb25 hB26 hS27
 refine wl_store_blk (i := 0) (vs := [v19, v21, (.int .i64 u13.1.2.2.1), (.int .i64 u13.1.2.2.2)]) (cs' := [v19, v21, (.int .i64 u13.1.2.2.1), (.int .i64 u13.1.2.2.2)]) tf_53 rfl rfl rfl rfl hB26 hS27 rfl rfl ⟨(hS27.own_ro (i := 2) rfl).one, (hS27.own_ro (i := 3) rfl).one, rfl, rfl, trivial⟩ rfl ?_
 intro w28 hk31 hB29 hS30
 refine WL.nil fun a ha => hK12 _ _ (W.seq fun K32 hK32 => (W.seq fun K33 hK33 => ?_)) a ha
 obtain ⟨k40, hk40, hF⟩ := jE3 hF
 have hJ41 : ∀ (y37 : Int) (y38 : Int) (y39 : Bool) (w34 : World) (_ : k40 y37 y38 y39 = some r) (_ : Below (wE w0).heap.size (wE w0) w34) (_ : Sep (wE w0).heap.size w34 [R.rest w0 (fps [R.blk b0 131 [v0_0, (.int .i64 x0.2.1), (.int .u64 x0.2.2)]]), R.blk b0 131 [v0_0, (.int .i64 y37), (.int .u64 y38)], R.blk b2 53 [(.slice none 0 0), (.slice none 0 0), (.int .i64 0), (.int .i64 0)], R.blk b7 53 [(.slice none 0 0), (.slice none 0 0), (.int .i64 0), (.int .i64 0)], R.own ty_63 F20 v19 u13.1.1, R.own ty_3 F22 v21 u13.1.2.1, R.blk b23 53 [v19, v21, (.int .i64 u13.1.2.2.1), (.int .i64 u13.1.2.2.2)]]), ∀ a, St 96 [(0, (.pointer (some ⟨b0, 0, none⟩))), (2, (.pointer (some ⟨b2, 0, none⟩))), (3, (.pointer (some ⟨b7, 0, none⟩))), (4, (.pointer (some ⟨b23, 0, none⟩))), (18, (.bool y39))] a → K33 a w34 := by
  intro y37 y38 y39 w34 hF hB35 hS36
  subst hk40
  refine fun a ha => hK33 _ _ (W.cond rfl (fun h42 => ?_) (fun h42 => ?_)) a ha
  ·replace hF := ifP h42 hF
   refine W.seq fun K43 hK43 => W.regionH mixed_ (([b0] ++ [b2]) ++ [b7]) hB35 hS36 ?_
   intro w44 hb45 hB46 hS47
   have hSW48 := KeepX.refl w44 (([b0] ++ [b2]) ++ [b7])
   refine WH.tk 0 rfl hP hSW48 (pr_load_blk (i := 6) (vs := [v19, v21, (.int .i64 u13.1.2.2.1), (.int .i64 u13.1.2.2.2)]) (v := (.agg #[v19, v21, (.int .i64 u13.1.2.2.1), (.int .i64 u13.1.2.2.2)])) tf_53 rfl rfl hS47 rfl rfl rfl (fun hb => (List.mem_append.1 hb).elim (fun hb => (List.mem_append.1 hb).elim (hS47.disj (i := 6) (j := 1) rfl rfl rfl b23 (by simp [R.blk])) (hS47.disj (i := 6) (j := 2) rfl rfl rfl b23 (by simp [R.blk]))) (hS47.disj (i := 6) (j := 3) rfl rfl rfl b23 (by simp [R.blk]))) (WH.tk 1 rfl hP hSW48 (pr_move rfl rfl (WH.on1 2 rfl ?_))))
   obtain ⟨u49, hu49, hF⟩ := bindE hF
   refine wl_call rfl Try.call149 (C_spec_l1Cur__show__mut__box w44 (x0.1, y37, y38) b0 v0_0 (h0_0.rsto (hS47.sel [0, 1] rfl)) (hS47.sel [1] rfl).base0 _ hu49) rfl ?_
   rintro _ w50 ⟨v55, F56, v57, F58, rfl, hE51, hM52⟩
   refine ⟨_, rfl, ?_⟩
   have hB53 := hS47.takeB [1] rfl (M := [R.blk b0 131 [v0_0, (.int .i64 y37), (.int .u64 y38)]]) rfl hB46 hE51 hM52
   have hS54 : Sep (wE w0).heap.size w50 [R.blk b0 131 [v0_0, (.int .i64 u49.2.2.1), (.int .u64 u49.2.2.2)], R.own ty_63 F56 v55 u49.1.1, R.own ty_3 F58 v57 u49.1.2.1, R.rest w0 (fps [R.blk b0 131 [v0_0, (.int .i64 x0.2.1), (.int .u64 x0.2.2)]]), R.blk b2 53 [(.slice none 0 0), (.slice none 0 0), (.int .i64 0), (.int .i64 0)], R.blk b7 53 [(.slice none 0 0), (.slice none 0 0), (.int .i64 0), (.int .i64 0)], R.own ty_63 F20 v19 u13.1.1, R.own ty_3 F22 v21 u13.1.2.1, R.blk b23 53 [v19, v21, (.int .i64 u13.1.2.2.1), (.int .i64 u13.1.2.2.2)]] := hS47.take [1] [0, 2, 3, 4, 5, 6] rfl (M := [R.blk b0 131 [v0_0, (.int .i64 y37), (.int .u64 y38)]]) rfl hM52 hB46.size
   have hk59 := box_kept hM52
   have hSW62 := hSW48.wr' hk59.1 hk59.2.1 (fun _ _ h => List.mem_append_left _ (List.mem_append_left _ (h)))
   refine WL.nil (WH.ret hSW62 (WH.on1 3 rfl (wl_store_blk (i := 4) (vs := [v19, v21, (.int .i64 u13.1.2.2.1), (.int .i64 u13.1.2.2.2)]) (cs' := [v19, v21, (.int .i64 u13.1.2.2.1), (.int .i64 u13.1.2.2.2)]) tf_53 rfl rfl rfl rfl hB53 hS54 rfl rfl ⟨(hS54.own_ro (i := 6) rfl).one, (hS54.own_ro (i := 7) rfl).one, rfl, rfl, trivial⟩ rfl ?_)))
   intro w65 hk68 hB66 hS67
   have hSW69 := hSW62.wr' hk68.1 hk68.2.1 (fun _ _ h => List.mem_append_left _ (List.mem_append_right _ h))
   refine WL.nil (WH.ret hSW69 (WH.on1 4 rfl (wl_store_blk (i := 5) (vs := [v55, v57, (.int .i64 u49.1.2.2.1), (.int .i64 u49.1.2.2.2)]) (cs' := [v55, v57, (.int .i64 u49.1.2.2.1), (.int .i64 u49.1.2.2.2)]) tf_53 rfl rfl rfl rfl hB66 hS67 rfl rfl ⟨(hS67.own_ro (i := 1) rfl).one, (hS67.own_ro (i := 2) rfl).one, rfl, rfl, trivial⟩ rfl ?_)))
   intro w71 hk74 hB72 hS73
   have hSW75 := hSW69.wr' hk74.1 hk74.2.1 (fun _ _ h => List.mem_append_right _ h)
   refine WL.nil (WH.ret hSW75 (WH.done (by kernel_rfl) (fun a ha => hK43 _ _ (W.ret ?_) a ha)))
   have hr := Option.some.inj hF
   subst hr
   exact rets (vs := [(.agg #[v19, v21, (.int .i64 u13.1.2.2.1), (.int .i64 u13.1.2.2.2)]), (.agg #[v55, v57, (.int .i64 u49.1.2.2.1), (.int .i64 u49.1.2.2.2)])]) hQ rfl ⟨rv_cell (i := 4) tf_53 rfl hS73 rfl rfl rfl, rv_cell (i := 5) tf_53 rfl hS73 rfl rfl rfl, trivial⟩ ⟨v19, F20, v21, F22, v55, F56, v57, F58, rfl, hB72, hS73.sel [3, 0, 6, 7, 1, 2] rfl⟩
  ·replace hF := ifN h42 hF
   refine W.skip fun a ha => hK32 _ _ (W.seq fun K77 hK77 => ?_) a ha
   obtain ⟨k87, hk87, hF⟩ := jE3 hF
   have hJ88 : ∀ (l82 : (List Int)) (y85 : Int) (y86 : Int) (v83 : Value) (F84 : List Nat) (b81 : Nat) (w78 : World) (_ : k87 l82 y85 y86 = some r) (_ : Below (wE w0).heap.size (wE w0) w78) (_ : Sep (wE w0).heap.size w78 [R.rest w0 (fps [R.blk b0 131 [v0_0, (.int .i64 x0.2.1), (.int .u64 x0.2.2)]]), R.blk b0 131 [v0_0, (.int .i64 y37), (.int .u64 y38)], R.blk b2 53 [(.slice none 0 0), (.slice none 0 0), (.int .i64 0), (.int .i64 0)], R.blk b7 53 [(.slice none 0 0), (.slice none 0 0), (.int .i64 0), (.int .i64 0)], R.own ty_63 F20 v19 u13.1.1, R.own ty_3 F22 v21 u13.1.2.1, R.blk b23 53 [v19, v21, (.int .i64 u13.1.2.2.1), (.int .i64 u13.1.2.2.2)], R.own ty_3 F84 v83 l82, R.blk b81 53 [(.slice none 0 0), v83, (.int .i64 y85), (.int .i64 y86)]]), ∀ a, St 96 [(0, (.pointer (some ⟨b0, 0, none⟩))), (2, (.pointer (some ⟨b2, 0, none⟩))), (3, (.pointer (some ⟨b7, 0, none⟩))), (4, (.pointer (some ⟨b23, 0, none⟩))), (5, (.pointer (some ⟨b81, 0, none⟩)))] a → K77 a w78 := by
    intro l82 y85 y86 v83 F84 b81 w78 hF hB79 hS80
    subst hk87
    refine fun a ha => hK77 _ _ (W.seq fun K89 hK89 => (W.seq fun K90 hK90 => (W.region (wl_field (o := 0) (off' := 0) ff_53_0 rfl rfl rfl (wl_load_blk (i := 6) (vs := [v19]) (v := v19) tf_51 rfl rfl hS80 rfl rfl rfl (wl_lenr (e := ty_63) (l := u13.1.1) Try.underlying51 rfl rfl (hS80.own_ro (i := 4) rfl) (wl_move rfl rfl (WL.nil (fun a ha => hK90 _ _ (W.block ?_) a ha))))))))) a ha
    refine W.loopk (fun m a w91 => ∃ (l94 : (List (List (Int × Int)))) (y97 : Int) (v95 : Value) (F96 : List Nat), St 96 [(0, (.pointer (some ⟨b0, 0, none⟩))), (2, (.pointer (some ⟨b2, 0, none⟩))), (3, (.pointer (some ⟨b7, 0, none⟩))), (4, (.pointer (some ⟨b23, 0, none⟩))), (5, (.pointer (some ⟨b81, 0, none⟩))), (31, v19), (32, (.int .i64 (List.length u13.1.1 : Int))), (33, (.int .i64 y97))] a ∧ Below (wE w0).heap.size (wE w0) w91 ∧ Sep (wE w0).heap.size w91 [R.rest w0 (fps [R.blk b0 131 [v0_0, (.int .i64 x0.2.1), (.int .u64 x0.2.2)]]), R.blk b0 131 [v0_0, (.int .i64 y37), (.int .u64 y38)], R.blk b2 53 [(.slice none 0 0), (.slice none 0 0), (.int .i64 0), (.int .i64 0)], R.blk b7 53 [(.slice none 0 0), (.slice none 0 0), (.int .i64 0), (.int .i64 0)], R.own ty_63 F20 v19 u13.1.1, R.own ty_3 F22 v21 u13.1.2.1, R.blk b23 53 [v19, v21, (.int .i64 u13.1.2.2.1), (.int .i64 u13.1.2.2.2)], R.own ty_63 F96 v95 l94, R.own ty_3 F84 v83 l82, R.blk b81 53 [v95, v83, (.int .i64 y85), (.int .i64 y86)]] ∧ F_spec_l1Cur__showsTwo__mut__box_L1 u13 x0 y37 y38 l82 y85 y86 m l94 y97 = some r) FU ?_ ?_
    ·
     have hS99 := hS80.push0 (r := R.own ty_63 [] (.slice none 0 0) []) rfl fun _ => .inl ⟨rfl, rfl, rfl⟩
     exact fun a ha => ⟨[], 0, (.slice none 0 0), [], ha.sub ⟨rfl, rfl, rfl, rfl, rfl, rfl, rfl, rfl, trivial⟩, hB79, (hS99.sel [1, 2, 3, 4, 5, 6, 7, 0, 8, 9] rfl), hF⟩
    ·
     rintro m101 a w91 ⟨l94, y97, v95, F96, ha, hB92, hS93, hF⟩ KL100 hKL100
     refine W.at ?_ ha
     cases m101 with
     | zero => exact noneE hF
     | succ m101 =>
      obtain ⟨nx98, hnx98⟩ : ∃ k, k = F_spec_l1Cur__showsTwo__mut__box_L1 u13 x0 y37 y38 l82 y85 y86 m101 := ⟨_, rfl⟩
      rw [F_spec_l1Cur__showsTwo__mut__box_L1, ← hnx98] at hF
      refine W.seq fun K102 hK102 => W.region (wl_lss rfl rfl rfl (WL.nil (fun a ha => hK102 _ _ (W.seq fun K103 hK103 => (W.cond rfl (fun h104 => ?_) (fun h104 => ?_))) a ha)))
      ·replace hF := ifP h104 hF
       refine W.skip fun a ha => hK103 _ _ (W.seq fun K105 hK105 => ?_) a ha
       obtain ⟨k112, hk112, hF⟩ := jE1 hF
       have hJ113 : ∀ (l109 : (List (List (Int × Int)))) (v110 : Value) (F111 : List Nat) (w106 : World) (_ : k112 l109 = some r) (_ : Below (wE w0).heap.size (wE w0) w106) (_ : Sep (wE w0).heap.size w106 [R.rest w0 (fps [R.blk b0 131 [v0_0, (.int .i64 x0.2.1), (.int .u64 x0.2.2)]]), R.blk b0 131 [v0_0, (.int .i64 y37), (.int .u64 y38)], R.blk b2 53 [(.slice none 0 0), (.slice none 0 0), (.int .i64 0), (.int .i64 0)], R.blk b7 53 [(.slice none 0 0), (.slice none 0 0), (.int .i64 0), (.int .i64 0)], R.own ty_63 F20 v19 u13.1.1, R.own ty_3 F22 v21 u13.1.2.1, R.blk b23 53 [v19, v21, (.int .i64 u13.1.2.2.1), (.int .i64 u13.1.2.2.2)], R.own ty_63 F111 v110 l109, R.own ty_3 F84 v83 l82, R.blk b81 53 [v110, v83, (.int .i64 y85), (.int .i64 y86)]]), ∀ a, St 96 [(0, (.pointer (some ⟨b0, 0, none⟩))), (2, (.pointer (some ⟨b2, 0, none⟩))), (3, (.pointer (some ⟨b7, 0, none⟩))), (4, (.pointer (some ⟨b23, 0, none⟩))), (5, (.pointer (some ⟨b81, 0, none⟩))), (31, v19), (32, (.int .i64 (List.length u13.1.1 : Int))), (33, (.int .i64 y97))] a → K105 a w106 := by
        intro l109 v110 F111 w106 hF hB107 hS108
        subst hk112
        refine fun a ha => hK105 _ _ (W.region (wl_add rfl rfl rfl (wl_move rfl rfl (WL.nil ?_)))) a ha
        rw [hnx98] at hF
        exact fun a ha => hKL100 a _ m101 (Nat.lt_succ_self m101) ⟨l109, (w64 (y97 + 1)), v110, F111, ha.sub ⟨rfl, rfl, rfl, rfl, rfl, rfl, rfl, rfl, trivial⟩, hB107, (hS108.sel [0, 1, 2, 3, 4, 5, 6, 7, 8, 9] rfl), hF⟩
       refine W.block (W.seq fun K114 hK114 => (W.region ?_))
       obtain ⟨u115, hu115, hF⟩ := bindE hF
       refine wl_indexoF (e := ty_63) (i := 4) Try.underlying51 rfl rfl rfl hS93 rfl hu115 ?_
       rintro p116 _ ⟨v118, rfl, hv119⟩ hp117 ho120
       refine wl_load_p (vs := [v118]) (v := v118) tf_63 rfl rfl hp117 rfl rfl (wl_assign rfl rfl (WL.nil (fun a ha => hK114 _ _ (W.regionH mixed_ (F96 ++ [b81]) hB92 hS93 ?_) a ha)))
       intro w121 hb122 hB123 hS124
       have hp117 := hp117.keepS (fun b hb => hb122.block b (((hS93.get (i := 4) rfl).2.1 b hb).2)) (fun _ h => h)
       have hv119 := hv119.keep (fun b hb => hb122.block b (((hS93.get (i := 4) rfl).2.1 b hb).2))
       have hSW125 := KeepX.refl w121 (F96 ++ [b81])
       refine WH.tk 0 rfl hP hSW125 (pr_field (o := 0) (off' := 0) ff_53_0 rfl rfl rfl (WH.tk 2 rfl hP hSW125 (pr_move rfl rfl (WH.many (is := [1, 3]) (by kernel_rfl) rfl (List.forall_mem_cons.2 ⟨⟨_, rfl, ?_⟩, List.forall_mem_cons.2 ⟨⟨_, rfl, ?_⟩, fun _ h => by cases h⟩⟩)))))
       ·
        refine wl_load_blk (i := 9) (vs := [v95]) (v := v95) tf_51 rfl rfl hS124 rfl rfl rfl (WL.nil (WH.ret hSW125 (WH.on1 3 rfl ?_)))
        obtain ⟨u126, hu126, hF⟩ := bindE hF
        refine wl_call rfl Try.call171 (C_spec_chOwn w121 u115 v118 (hv119.mono (fun b hb => ((hS124.get (i := 4) rfl).2.1 b hb).2)) _ hu126) rfl ?_
        rintro _ w129 ⟨v127, F128, rfl, hb130, hM133⟩
        refine ⟨_, rfl, ?_⟩
        have hB131 := hB123.trans (hb130.mono hB123.size)
        have hS132 := hS124.join hb130 hM133 hB123.size
        have hpv135 := hp117.keepS (fun b hb => hb130.block b (((hS124.get (i := 4) rfl).2.1 b hb).2)) (fun _ h => h)
        have hpv136 := hv119.keep (fun b hb => hb130.block b (((hS124.get (i := 4) rfl).2.1 b hb).2))
        have hSW137 := hSW125.ext hb130
        refine WL.nil (WH.ret hSW137 (WH.on1 4 rfl ?_))
        have hq139 := hS132.sel [0, 1, 2, 3, 4, 5, 6, 7, 8, 9, 10] rfl
        have hq140 := hq139.head (r' := R.cel ty_63 F128 [v127] u126) (rfl) fun _ h0 => ⟨_, rfl, h0⟩
        refine wl_lit1 (e := ty_63) (vs := [v127]) Try.underlying51 rfl rfl (cells_one (hS132.own_ro (i := 0) rfl).one) rfl hB131 hq140 ?_
        intro v141 F142 w143 hb144 hf145 hB146 hS147
        have hpv149 := hpv135.keepS (fun b hb => hb144.block b (((hS132.get (i := 5) rfl).2.1 b hb).2)) (fun _ h => h)
        have hpv150 := hpv136.keep (fun b hb => hb144.block b (((hS132.get (i := 5) rfl).2.1 b hb).2))
        have hSW151 := hSW137.ext hb144
        refine WL.nil (WH.ret hSW151 (WH.on1 5 rfl ?_))
        obtain ⟨u153, hu153, hF⟩ := bindE hF
        refine wl_appendn (e := ty_63) Try.underlying51 rfl rfl rfl hB146 (hS147.sel [8, 0, 1, 2, 3, 4, 5, 6, 7, 9, 10] rfl) hu153 ?_
        intro v154 F155 w156 hk157 hB158 hS159
        have hpv160 := hpv149.keepS (fun b hb => hk157.2.1 b (((hS147.get (i := 5) rfl).2.1 b hb).2) (hS147.disj (i := 5) (j := 8) rfl rfl rfl b hb)) (fun _ h => h)
        have hpv161 := hpv150.keep (fun b hb => hk157.2.1 b (((hS147.get (i := 5) rfl).2.1 b hb).2) (hS147.disj (i := 5) (j := 8) rfl rfl rfl b hb))
        have hSW162 := hSW151.wr' hk157.1 hk157.2.1 (fun _ _ h => List.mem_append_left _ (h))
        refine WL.nil (WH.ret hSW162 (WH.tk 6 rfl hP hSW162 (pr_field (o := 0) (off' := 0) ff_53_0 rfl rfl rfl (WH.on1 7 rfl (wl_store_blk (i := 9) (vs := [v154]) (cs' := [v154, v83, (.int .i64 y85), (.int .i64 y86)]) tf_51 rfl rfl (cells_one (hS159.own_ro (i := 0) rfl).one) rfl hB158 hS159 rfl rfl ⟨(hS159.own_ro (i := 0) rfl).one, trivial⟩ rfl ?_)))))
        intro w164 hk167 hB165 hS166
        have hpv168 := hpv160.keepS (fun b hb => hk167.2.1 b (((hS159.get (i := 5) rfl).2.1 b hb).2) (hS159.disj (i := 5) (j := 9) rfl rfl rfl b hb)) (fun _ h => h)
        have hpv169 := hpv161.keep (fun b hb => hk167.2.1 b (((hS159.get (i := 5) rfl).2.1 b hb).2) (hS159.disj (i := 5) (j := 9) rfl rfl rfl b hb))
        have hSW170 := hSW162.wr' hk167.1 hk167.2.1 (fun _ _ h => List.mem_append_right _ h)
        refine WL.nil (WH.ret hSW170 (WH.done (by kernel_rfl) ?_))
        have hp117 := hpv168
        have hv119 := hpv169
        exact fun a ha => hJ113 (u153) (v154) (F155) _ hF hB165 (hS166.sel [1, 2, 3, 4, 5, 6, 7, 0, 8, 9] rfl) a (ha.sub ⟨rfl, rfl, rfl, rfl, rfl, rfl, rfl, rfl, trivial⟩)
       ·
        obtain ⟨u172, hu172, hF⟩ := bindE hF
        refine wl_call rfl Try.call171 (C_spec_chOwn w121 u115 v118 (hv119.mono (fun b hb => ((hS124.get (i := 4) rfl).2.1 b hb).2)) _ hu172) rfl ?_
        rintro _ w175 ⟨v173, F174, rfl, hb176, hM179⟩
        refine ⟨_, rfl, ?_⟩
        have hB177 := hB123.trans (hb176.mono hB123.size)
        have hS178 := hS124.join hb176 hM179 hB123.size
        have hpv181 := hp117.keepS (fun b hb => hb176.block b (((hS124.get (i := 4) rfl).2.1 b hb).2)) (fun _ h => h)
        have hpv182 := hv119.keep (fun b hb => hb176.block b (((hS124.get (i := 4) rfl).2.1 b hb).2))
        have hSW183 := hSW125.ext hb176
        refine WL.nil (WH.ret hSW183 (WH.many (is := [1, 4]) (by kernel_rfl) rfl (List.forall_mem_cons.2 ⟨⟨_, rfl, ?_⟩, List.forall_mem_cons.2 ⟨⟨_, rfl, ?_⟩, fun _ h => by cases h⟩⟩)))
        ·
         refine wl_load_blk (i := 10) (vs := [v95]) (v := v95) tf_51 rfl rfl hS178 rfl rfl rfl (WL.nil (WH.ret hSW183 (WH.on1 4 rfl ?_)))
         have hq185 := hS178.sel [0, 1, 2, 3, 4, 5, 6, 7, 8, 9, 10] rfl
         have hq186 := hq185.head (r' := R.cel ty_63 F174 [v173] u172) (rfl) fun _ h0 => ⟨_, rfl, h0⟩
         refine wl_lit1 (e := ty_63) (vs := [v173]) Try.underlying51 rfl rfl (cells_one (hS178.own_ro (i := 0) rfl).one) rfl hB177 hq186 ?_
         intro v187 F188 w189 hb190 hf191 hB192 hS193
         have hpv195 := hpv181.keepS (fun b hb => hb190.block b (((hS178.get (i := 5) rfl).2.1 b hb).2)) (fun _ h => h)
         have hpv196 := hpv182.keep (fun b hb => hb190.block b (((hS178.get (i := 5) rfl).2.1 b hb).2))
         have hSW197 := hSW183.ext hb190
         refine WL.nil (WH.ret hSW197 (WH.on1 5 rfl ?_))
         obtain ⟨u199, hu199, hF⟩ := bindE hF
         refine wl_appendn (e := ty_63) Try.underlying51 rfl rfl rfl hB192 (hS193.sel [8, 0, 1, 2, 3, 4, 5, 6, 7, 9, 10] rfl) hu199 ?_
         intro v200 F201 w202 hk203 hB204 hS205
         have hpv206 := hpv195.keepS (fun b hb => hk203.2.1 b (((hS193.get (i := 5) rfl).2.1 b hb).2) (hS193.disj (i := 5) (j := 8) rfl rfl rfl b hb)) (fun _ h => h)
         have hpv207 := hpv196.keep (fun b hb => hk203.2.1 b (((hS193.get (i := 5) rfl).2.1 b hb).2) (hS193.disj (i := 5) (j := 8) rfl rfl rfl b hb))
         have hSW208 := hSW197.wr' hk203.1 hk203.2.1 (fun _ _ h => List.mem_append_left _ (h))
         refine WL.nil (WH.ret hSW208 (WH.tk 6 rfl hP hSW208 (pr_field (o := 0) (off' := 0) ff_53_0 rfl rfl rfl (WH.on1 7 rfl (wl_store_blk (i := 9) (vs := [v200]) (cs' := [v200, v83, (.int .i64 y85), (.int .i64 y86)]) tf_51 rfl rfl (cells_one (hS205.own_ro (i := 0) rfl).one) rfl hB204 hS205 rfl rfl ⟨(hS205.own_ro (i := 0) rfl).one, trivial⟩ rfl ?_)))))
         intro w210 hk213 hB211 hS212
         have hpv214 := hpv206.keepS (fun b hb => hk213.2.1 b (((hS205.get (i := 5) rfl).2.1 b hb).2) (hS205.disj (i := 5) (j := 9) rfl rfl rfl b hb)) (fun _ h => h)
         have hpv215 := hpv207.keep (fun b hb => hk213.2.1 b (((hS205.get (i := 5) rfl).2.1 b hb).2) (hS205.disj (i := 5) (j := 9) rfl rfl rfl b hb))
         have hSW216 := hSW208.wr' hk213.1 hk213.2.1 (fun _ _ h => List.mem_append_right _ h)
         refine WL.nil (WH.ret hSW216 (WH.done (by kernel_rfl) ?_))
         have hp117 := hpv214
         have hv119 := hpv215
         exact fun a ha => hJ113 (u199) (v200) (F201) _ hF hB211 (hS212.sel [1, 2, 3, 4, 5, 6, 7, 0, 8, 9] rfl) a (ha.sub ⟨rfl, rfl, rfl, rfl, rfl, rfl, rfl, rfl, trivial⟩)
        ·
         have hq218 := hS178.sel [0, 1, 2, 3, 4, 5, 6, 7, 8, 9, 10] rfl
         have hq219 := hq218.head (r' := R.cel ty_63 F174 [v173] u172) (rfl) fun _ h0 => ⟨_, rfl, h0⟩
         refine wl_lit1 (e := ty_63) (vs := [v173]) Try.underlying51 rfl rfl (cells_one (hS178.own_ro (i := 0) rfl).one) rfl hB177 hq219 ?_
         intro v220 F221 w222 hb223 hf224 hB225 hS226
         have hpv228 := hpv181.keepS (fun b hb => hb223.block b (((hS178.get (i := 5) rfl).2.1 b hb).2)) (fun _ h => h)
         have hpv229 := hpv182.keep (fun b hb => hb223.block b (((hS178.get (i := 5) rfl).2.1 b hb).2))
         have hSW230 := hSW183.ext hb223
         refine WL.nil (WH.ret hSW230 (WH.on1 1 rfl (wl_load_blk (i := 10) (vs := [v95]) (v := v95) tf_51 rfl rfl hS226 rfl rfl rfl (WL.nil (WH.ret hSW230 (WH.on1 5 rfl ?_))))))
         obtain ⟨u232, hu232, hF⟩ := bindE hF
         refine wl_appendn (e := ty_63) Try.underlying51 rfl rfl rfl hB225 (hS226.sel [8, 0, 1, 2, 3, 4, 5, 6, 7, 9, 10] rfl) hu232 ?_
         intro v233 F234 w235 hk236 hB237 hS238
         have hpv239 := hpv228.keepS (fun b hb => hk236.2.1 b (((hS226.get (i := 5) rfl).2.1 b hb).2) (hS226.disj (i := 5) (j := 8) rfl rfl rfl b hb)) (fun _ h => h)
         have hpv240 := hpv229.keep (fun b hb => hk236.2.1 b (((hS226.get (i := 5) rfl).2.1 b hb).2) (hS226.disj (i := 5) (j := 8) rfl rfl rfl b hb))
         have hSW241 := hSW230.wr' hk236.1 hk236.2.1 (fun _ _ h => List.mem_append_left _ (h))
         refine WL.nil (WH.ret hSW241 (WH.tk 6 rfl hP hSW241 (pr_field (o := 0) (off' := 0) ff_53_0 rfl rfl rfl (WH.on1 7 rfl (wl_store_blk (i := 9) (vs := [v233]) (cs' := [v233, v83, (.int .i64 y85), (.int .i64 y86)]) tf_51 rfl rfl (cells_one (hS238.own_ro (i := 0) rfl).one) rfl hB237 hS238 rfl rfl ⟨(hS238.own_ro (i := 0) rfl).one, trivial⟩ rfl ?_)))))
         intro w243 hk246 hB244 hS245
         have hpv247 := hpv239.keepS (fun b hb => hk246.2.1 b (((hS238.get (i := 5) rfl).2.1 b hb).2) (hS238.disj (i := 5) (j := 9) rfl rfl rfl b hb)) (fun _ h => h)
         have hpv248 := hpv240.keep (fun b hb => hk246.2.1 b (((hS238.get (i := 5) rfl).2.1 b hb).2) (hS238.disj (i := 5) (j := 9) rfl rfl rfl b hb))
         have hSW249 := hSW241.wr' hk246.1 hk246.2.1 (fun _ _ h => List.mem_append_right _ h)
         refine WL.nil (WH.ret hSW249 (WH.done (by kernel_rfl) ?_))
         have hp117 := hpv247
         have hv119 := hpv248
         exact fun a ha => hJ113 (u232) (v233) (F234) _ hF hB244 (hS245.sel [1, 2, 3, 4, 5, 6, 7, 0, 8, 9] rfl) a (ha.sub ⟨rfl, rfl, rfl, rfl, rfl, rfl, rfl, rfl, trivial⟩)
      ·replace hF := ifN h104 hF
       refine W.exit fun a ha => hK89 _ _ (W.seq fun K251 hK251 => (W.seq fun K252 hK252 => (W.region (wl_move rfl rfl ?_)))) a ha
       obtain ⟨u253, hu253, hF⟩ := bindE hF
       refine wl_call rfl Try.call132 (C_spec_l1Cur__pick__mut__box w91 (x0.1, y37, y38) b0 v0_0 (h0_0.rsto (hS93.sel [0, 1] rfl)) 3 (hS93.sel [1] rfl).base0 _ hu253) rfl ?_
       rintro _ w254 ⟨rfl, hE255, hM256⟩
       refine ⟨_, rfl, ?_⟩
       have hB257 := hS93.takeB [1] rfl (M := [R.blk b0 131 [v0_0, (.int .i64 y37), (.int .u64 y38)]]) rfl hB92 hE255 hM256
       have hS258 : Sep (wE w0).heap.size w254 [R.blk b0 131 [v0_0, (.int .i64 u253.2.2.1), (.int .u64 u253.2.2.2)], R.rest w0 (fps [R.blk b0 131 [v0_0, (.int .i64 x0.2.1), (.int .u64 x0.2.2)]]), R.blk b2 53 [(.slice none 0 0), (.slice none 0 0), (.int .i64 0), (.int .i64 0)], R.blk b7 53 [(.slice none 0 0), (.slice none 0 0), (.int .i64 0), (.int .i64 0)], R.own ty_63 F20 v19 u13.1.1, R.own ty_3 F22 v21 u13.1.2.1, R.blk b23 53 [v19, v21, (.int .i64 u13.1.2.2.1), (.int .i64 u13.1.2.2.2)], R.own ty_63 F96 v95 l94, R.own ty_3 F84 v83 l82, R.blk b81 53 [v95, v83, (.int .i64 y85), (.int .i64 y86)]] := hS93.take [1] [0, 2, 3, 4, 5, 6, 7, 8, 9] rfl (M := [R.blk b0 131 [v0_0, (.int .i64 y37), (.int .u64 y38)]]) rfl hM256 hB92.size
       refine wl_assign rfl rfl (WL.nil (fun a ha => hK252 _ _ (W.block ?_) a ha))
       refine W.loopk (fun m a w259 => ∃ (y262 : Int) (y263 : Int) (l264 : (List (List (Int × Int)))) (y267 : Int) (v265 : Value) (F266 : List Nat), St 96 [(0, (.pointer (some ⟨b0, 0, none⟩))), (2, (.pointer (some ⟨b2, 0, none⟩))), (3, (.pointer (some ⟨b7, 0, none⟩))), (4, (.pointer (some ⟨b23, 0, none⟩))), (5, (.pointer (some ⟨b81, 0, none⟩))), (8, (.int .i64 y267))] a ∧ Below (wE w0).heap.size (wE w0) w259 ∧ Sep (wE w0).heap.size w259 [R.rest w0 (fps [R.blk b0 131 [v0_0, (.int .i64 x0.2.1), (.int .u64 x0.2.2)]]), R.blk b0 131 [v0_0, (.int .i64 y262), (.int .u64 y263)], R.blk b2 53 [(.slice none 0 0), (.slice none 0 0), (.int .i64 0), (.int .i64 0)], R.blk b7 53 [(.slice none 0 0), (.slice none 0 0), (.int .i64 0), (.int .i64 0)], R.own ty_63 F20 v19 u13.1.1, R.own ty_3 F22 v21 u13.1.2.1, R.blk b23 53 [v19, v21, (.int .i64 u13.1.2.2.1), (.int .i64 u13.1.2.2.2)], R.own ty_63 F266 v265 l264, R.own ty_3 F84 v83 l82, R.blk b81 53 [v265, v83, (.int .i64 y85), (.int .i64 y86)]] ∧ F_spec_l1Cur__showsTwo__mut__box_L2 x0 u13 l82 y85 y86 m y262 y263 l264 y267 = some r) FU ?_ ?_
       ·
        exact fun a ha => ⟨u253.2.2.1, u253.2.2.2, l94, u253.1, v95, F96, ha.sub ⟨rfl, rfl, rfl, rfl, rfl, rfl, trivial⟩, hB257, (hS258.sel [1, 0, 2, 3, 4, 5, 6, 7, 8, 9] rfl), hF⟩
       ·
        rintro m270 a w259 ⟨y262, y263, l264, y267, v265, F266, ha, hB260, hS261, hF⟩ KL269 hKL269
        refine W.at ?_ ha
        cases m270 with
        | zero => exact noneE hF
        | succ m270 =>
         obtain ⟨nx268, hnx268⟩ : ∃ k, k = F_spec_l1Cur__showsTwo__mut__box_L2 x0 u13 l82 y85 y86 m270 := ⟨_, rfl⟩
         rw [F_spec_l1Cur__showsTwo__mut__box_L2, ← hnx268] at hF
         refine W.seq fun K271 hK271 => W.seq fun K272 hK272 => W.region (wl_move rfl rfl (wl_gtr rfl rfl rfl (WL.nil (fun a ha => hK272 _ _ (W.cond rfl (fun h273 => ?_) (fun h273 => ?_)) a ha))))
         ·replace hF := ifP h273 hF
          refine W.skip fun a ha => hK271 _ _ (W.seq fun K274 hK274 => (W.block (W.seq fun K275 hK275 => (W.regionH mixed_ [b0] hB260 hS261 ?_)))) a ha
          intro w276 hb277 hB278 hS279
          have hSW280 := KeepX.refl w276 [b0]
          refine WH.tk 0 rfl hP hSW280 (pr_field (o := 0) (off' := 0) ff_53_0 rfl rfl rfl (WH.tk 1 rfl hP hSW280 (pr_load_blk (i := 9) (vs := [v265]) (v := v265) tf_51 rfl rfl hS279 rfl rfl rfl (hS279.disj (i := 9) (j := 1) rfl rfl rfl b81 (by simp [R.blk])) (WH.tk 2 rfl hP hSW280 (pr_move rfl rfl (WH.tk 3 rfl hP hSW280 (pr_field (o := 0) (off' := 0) ff_53_0 rfl rfl rfl (WH.tk 4 rfl hP hSW280 (pr_load_blk (i := 9) (vs := [v265]) (v := v265) tf_51 rfl rfl hS279 rfl rfl rfl (hS279.disj (i := 9) (j := 1) rfl rfl rfl b81 (by simp [R.blk])) (WH.tk 5 rfl hP hSW280 (pr_lenr (e := ty_63) (l := l264) Try.underlying51 rfl rfl (hS279.own_ro (i := 7) rfl) (WH.on1 6 rfl ?_))))))))))))
          obtain ⟨u281, hu281, hF⟩ := bindE hF
          refine wl_call rfl Try.call132 (C_spec_l1Cur__pick__mut__box w276 (x0.1, y262, y263) b0 v0_0 (h0_0.rsto (hS279.sel [0, 1] rfl)) (List.length l264 : Int) (hS279.sel [1] rfl).base0 _ hu281) rfl ?_
          rintro _ w282 ⟨rfl, hE283, hM284⟩
          refine ⟨_, rfl, ?_⟩
          have hB285 := hS279.takeB [1] rfl (M := [R.blk b0 131 [v0_0, (.int .i64 y262), (.int .u64 y263)]]) rfl hB278 hE283 hM284
          have hS286 : Sep (wE w0).heap.size w282 [R.blk b0 131 [v0_0, (.int .i64 u281.2.2.1), (.int .u64 u281.2.2.2)], R.rest w0 (fps [R.blk b0 131 [v0_0, (.int .i64 x0.2.1), (.int .u64 x0.2.2)]]), R.blk b2 53 [(.slice none 0 0), (.slice none 0 0), (.int .i64 0), (.int .i64 0)], R.blk b7 53 [(.slice none 0 0), (.slice none 0 0), (.int .i64 0), (.int .i64 0)], R.own ty_63 F20 v19 u13.1.1, R.own ty_3 F22 v21 u13.1.2.1, R.blk b23 53 [v19, v21, (.int .i64 u13.1.2.2.1), (.int .i64 u13.1.2.2.2)], R.own ty_63 F266 v265 l264, R.own ty_3 F84 v83 l82, R.blk b81 53 [v265, v83, (.int .i64 y85), (.int .i64 y86)]] := hS279.take [1] [0, 2, 3, 4, 5, 6, 7, 8, 9] rfl (M := [R.blk b0 131 [v0_0, (.int .i64 y262), (.int .u64 y263)]]) rfl hM284 hB278.size
          have hk287 := box_kept hM284
          have hSW288 := hSW280.wr' hk287.1 hk287.2.1 (fun _ _ h => h)
          refine WL.nil (WH.ret hSW288 (WH.on1 7 rfl ?_))
          obtain ⟨u290, hu290, hF⟩ := bindE hF
          refine wl_indexoF (e := ty_63) (i := 7) Try.underlying51 rfl rfl rfl hS286 rfl hu290 ?_
          rintro p291 _ ⟨v293, rfl, hv294⟩ hp292 ho295
          refine WL.nil (WH.ret hSW288 (WH.tk 8 rfl hP hSW288 (pr_load_p (vs := [v293]) (v := v293) tf_63 rfl rfl (fun w hw => hp292.keepS (fun b h0 => (hw.blk b (((hS279.get (i := 7) rfl).2.1 b h0).2) (hS279.disj (i := 7) (j := 1) rfl rfl rfl b h0)).trans (hSW288.blk b (((hS279.get (i := 7) rfl).2.1 b h0).2) (hS279.disj (i := 7) (j := 1) rfl rfl rfl b h0)).symm) (fun _ h => h)) rfl rfl (WH.tk 9 rfl hP hSW288 (pr_assign rfl rfl (WH.done (by kernel_rfl) (fun a ha => hK275 _ _ (W.region (wl_move rfl rfl (wl_move rfl rfl (wl_move rfl rfl (wl_lenr (e := ty_68) (l := u290) Try.underlying63 rfl rfl (hv294.mono (fun b hb => ((hS286.get (i := 7) rfl).2.1 b hb).2)) ?_))))) a ha)))))))
          obtain ⟨u296, hu296, hF⟩ := bindE hF
          refine wl_call rfl Try.call132 (C_spec_l1Cur__pick__mut__box w282 (x0.1, u281.2.2.1, u281.2.2.2) b0 v0_0 (h0_0.rsto (hS286.sel [1, 0] rfl)) (List.length u290 : Int) (hS286.sel [0] rfl).base0 _ hu296) rfl ?_
          rintro _ w297 ⟨rfl, hE298, hM299⟩
          refine ⟨_, rfl, ?_⟩
          have hB300 := hS286.takeB [0] rfl (M := [R.blk b0 131 [v0_0, (.int .i64 u281.2.2.1), (.int .u64 u281.2.2.2)]]) rfl hB285 hE298 hM299
          have hS301 : Sep (wE w0).heap.size w297 [R.blk b0 131 [v0_0, (.int .i64 u296.2.2.1), (.int .u64 u296.2.2.2)], R.rest w0 (fps [R.blk b0 131 [v0_0, (.int .i64 x0.2.1), (.int .u64 x0.2.2)]]), R.blk b2 53 [(.slice none 0 0), (.slice none 0 0), (.int .i64 0), (.int .i64 0)], R.blk b7 53 [(.slice none 0 0), (.slice none 0 0), (.int .i64 0), (.int .i64 0)], R.own ty_63 F20 v19 u13.1.1, R.own ty_3 F22 v21 u13.1.2.1, R.blk b23 53 [v19, v21, (.int .i64 u13.1.2.2.1), (.int .i64 u13.1.2.2.2)], R.own ty_63 F266 v265 l264, R.own ty_3 F84 v83 l82, R.blk b81 53 [v265, v83, (.int .i64 y85), (.int .i64 y86)]] := hS286.take [0] [1, 2, 3, 4, 5, 6, 7, 8, 9] rfl (M := [R.blk b0 131 [v0_0, (.int .i64 u281.2.2.1), (.int .u64 u281.2.2.2)]]) rfl hM299 hB285.size
          have hp292 := hp292.keepS (fun b hb => mut_kept hM299 b (((hS286.get (i := 7) rfl).2.1 b hb).2) (nf_cons (hS286.disj (i := 7) (j := 0) rfl rfl rfl b hb) nf_nil)) (fun _ h => h)
          have hv294 := hv294.keep (fun b hb => mut_kept hM299 b (((hS286.get (i := 7) rfl).2.1 b hb).2) (nf_cons (hS286.disj (i := 7) (j := 0) rfl rfl rfl b hb) nf_nil))
          refine wl_move rfl rfl ?_
          obtain ⟨u302, hu302, hF⟩ := bindE hF
          refine wl_call rfl Try.call239 (C_spec_l1Cur__spot__mut__box w297 (x0.1, u296.2.2.1, u296.2.2.2) b0 v0_0 (h0_0.rsto (hS301.sel [1, 0] rfl)) (hS301.sel [0] rfl).base0 _ hu302) rfl ?_
          rintro _ w303 ⟨rfl, hE304, hM305⟩
          refine ⟨_, rfl, ?_⟩
          have hB306 := hS301.takeB [0] rfl (M := [R.blk b0 131 [v0_0, (.int .i64 u296.2.2.1), (.int .u64 u296.2.2.2)]]) rfl hB300 hE304 hM305
          have hS307 : Sep (wE w0).heap.size w303 [R.blk b0 131 [v0_0, (.int .i64 u302.2.2.1), (.int .u64 u302.2.2.2)], R.rest w0 (fps [R.blk b0 131 [v0_0, (.int .i64 x0.2.1), (.int .u64 x0.2.2)]]), R.blk b2 53 [(.slice none 0 0), (.slice none 0 0), (.int .i64 0), (.int .i64 0)], R.blk b7 53 [(.slice none 0 0), (.slice none 0 0), (.int .i64 0), (.int .i64 0)], R.own ty_63 F20 v19 u13.1.1, R.own ty_3 F22 v21 u13.1.2.1, R.blk b23 53 [v19, v21, (.int .i64 u13.1.2.2.1), (.int .i64 u13.1.2.2.2)], R.own ty_63 F266 v265 l264, R.own ty_3 F84 v83 l82, R.blk b81 53 [v265, v83, (.int .i64 y85), (.int .i64 y86)]] := hS301.take [0] [1, 2, 3, 4, 5, 6, 7, 8, 9] rfl (M := [R.blk b0 131 [v0_0, (.int .i64 u296.2.2.1), (.int .u64 u296.2.2.2)]]) rfl hM305 hB300.size
          have hp292 := hp292.keepS (fun b hb => mut_kept hM305 b (((hS301.get (i := 7) rfl).2.1 b hb).2) (nf_cons (hS301.disj (i := 7) (j := 0) rfl rfl rfl b hb) nf_nil)) (fun _ h => h)
          have hv294 := hv294.keep (fun b hb => mut_kept hM305 b (((hS301.get (i := 7) rfl).2.1 b hb).2) (nf_cons (hS301.disj (i := 7) (j := 0) rfl rfl rfl b hb) nf_nil))
          obtain ⟨u308, hu308, hF⟩ := bindE hF
          refine wl_indexP (e := ty_68) Try.underlying63 rfl rfl rfl (hv294.mono (fun b hb => ((hS307.get (i := 7) rfl).2.1 b hb).2)) hu308 ?_
          rintro p309 _ rfl hp310 ho311
          obtain ⟨F315, hS316, hq317, hq318⟩ := (hS307.sel [7, 0, 1, 2, 3, 4, 5, 6, 8, 9] rfl).borrow (e := ty_63) (F := F266) (v := v265) (l := l264) hu290 ho295 (hp292.keepS (fun _ _ => rfl) (fun b hb => ((hS307.get (i := 7) rfl).2.1 b hb).2)) rfl
          have hS319 : Sep (wE w0).heap.size w303 [R.own ty_68 F315 v293 u290, R.hole ty_63 F266 F315 v265 l264 (u281.1 : Int).toNat [v293], R.blk b0 131 [v0_0, (.int .i64 u302.2.2.1), (.int .u64 u302.2.2.2)], R.rest w0 (fps [R.blk b0 131 [v0_0, (.int .i64 x0.2.1), (.int .u64 x0.2.2)]]), R.blk b2 53 [(.slice none 0 0), (.slice none 0 0), (.int .i64 0), (.int .i64 0)], R.blk b7 53 [(.slice none 0 0), (.slice none 0 0), (.int .i64 0), (.int .i64 0)], R.own ty_63 F20 v19 u13.1.1, R.own ty_3 F22 v21 u13.1.2.1, R.blk b23 53 [v19, v21, (.int .i64 u13.1.2.2.1), (.int .i64 u13.1.2.2.2)], R.own ty_3 F84 v83 l82, R.blk b81 53 [v265, v83, (.int .i64 y85), (.int .i64 y86)]] := hS316.head rfl fun _ h => by obtain ⟨_, h1, h2⟩ := h; cases h1; exact h2
          have ho320 := optr_of (hS319.ok (i := 0) rfl : ownS ty_68 F315 w303 v293 u290) ho311
          refine wl_storeo (i := 0) (o := 0) (vs := [(.int .i64 u302.1.1), (.int .i64 u302.1.2)]) (u' := u302.1) fl_68 tf_68 rfl rfl rfl rfl ho320 hu308 hB306 hS319 rfl rfl ⟨rfl, rfl, trivial⟩ rfl ?_
          intro w312 hk321 hB313 hS314
          have hS322 := hS314.head (r' := R.cel ty_63 F315 [v293] (seti u290 u296.1 u302.1)) rfl fun _ h => ⟨_, rfl, h⟩
          have hS323 : Sep (wE w0).heap.size w312 [R.own ty_63 F266 v265 (seti l264 u281.1 (seti u290 u296.1 u302.1)), R.blk b0 131 [v0_0, (.int .i64 u302.2.2.1), (.int .u64 u302.2.2.2)], R.rest w0 (fps [R.blk b0 131 [v0_0, (.int .i64 x0.2.1), (.int .u64 x0.2.2)]]), R.blk b2 53 [(.slice none 0 0), (.slice none 0 0), (.int .i64 0), (.int .i64 0)], R.blk b7 53 [(.slice none 0 0), (.slice none 0 0), (.int .i64 0), (.int .i64 0)], R.own ty_63 F20 v19 u13.1.1, R.own ty_3 F22 v21 u13.1.2.1, R.blk b23 53 [v19, v21, (.int .i64 u13.1.2.2.1), (.int .i64 u13.1.2.2.2)], R.own ty_3 F84 v83 l82, R.blk b81 53 [v265, v83, (.int .i64 y85), (.int .i64 y86)]] := hS322.unborrow hq317 hq318
          refine WL.nil fun a ha => hK274 _ _ (W.region (wl_move rfl rfl (wl_sub rfl rfl rfl (wl_assign rfl rfl (WL.nil ?_))))) a ha
          rw [hnx268] at hF
          exact fun a ha => hKL269 a _ m270 (Nat.lt_succ_self m270) ⟨u302.2.2.1, u302.2.2.2, (seti l264 u281.1 (seti u290 u296.1 u302.1)), (w64 (y267 - 1)), v265, F266, ha.sub ⟨rfl, rfl, rfl, rfl, rfl, rfl, trivial⟩, hB313, (hS323.sel [2, 1, 3, 4, 5, 6, 7, 0, 8, 9] rfl), hF⟩
         ·replace hF := ifN h273 hF
          refine W.exit fun a ha => hK251 _ _ (W.seq fun K324 hK324 => ?_) a ha
          obtain ⟨k335, hk335, hF⟩ := jE5 hF
          have hJ336 : ∀ (y328 : Int) (y329 : Int) (l330 : (List Int)) (y333 : Int) (y334 : Int) (v331 : Value) (F332 : List Nat) (w325 : World) (_ : k335 y328 y329 l330 y333 y334 = some r) (_ : Below (wE w0).heap.size (wE w0) w325) (_ : Sep (wE w0).heap.size w325 [R.rest w0 (fps [R.blk b0 131 [v0_0, (.int .i64 x0.2.1), (.int .u64 x0.2.2)]]), R.blk b0 131 [v0_0, (.int .i64 y328), (.int .u64 y329)], R.blk b2 53 [(.slice none 0 0), (.slice none 0 0), (.int .i64 0), (.int .i64 0)], R.blk b7 53 [(.slice none 0 0), (.slice none 0 0), (.int .i64 0), (.int .i64 0)], R.own ty_63 F20 v19 u13.1.1, R.own ty_3 F22 v21 u13.1.2.1, R.blk b23 53 [v19, v21, (.int .i64 u13.1.2.2.1), (.int .i64 u13.1.2.2.2)], R.own ty_63 F266 v265 l264, R.own ty_3 F332 v331 l330, R.blk b81 53 [v265, v331, (.int .i64 y333), (.int .i64 y334)]]), ∀ a, St 96 [(2, (.pointer (some ⟨b2, 0, none⟩))), (3, (.pointer (some ⟨b7, 0, none⟩))), (4, (.pointer (some ⟨b23, 0, none⟩))), (5, (.pointer (some ⟨b81, 0, none⟩)))] a → K324 a w325 := by
           intro y328 y329 l330 y333 y334 v331 F332 w325 hF hB326 hS327
           subst hk335
           refine fun a ha => hK324 _ _ (W.seq fun K337 hK337 => (W.regionH mixed_ ([b2] ++ [b7]) hB326 hS327 ?_)) a ha
           intro w338 hb339 hB340 hS341
           have hSW342 := KeepX.refl w338 ([b2] ++ [b7])
           refine WH.tk 0 rfl hP hSW342 (pr_load_blk (i := 6) (vs := [v19, v21, (.int .i64 u13.1.2.2.1), (.int .i64 u13.1.2.2.2)]) (v := (.agg #[v19, v21, (.int .i64 u13.1.2.2.1), (.int .i64 u13.1.2.2.2)])) tf_53 rfl rfl hS341 rfl rfl rfl (fun hb => (List.mem_append.1 hb).elim (hS341.disj (i := 6) (j := 2) rfl rfl rfl b23 (by simp [R.blk])) (hS341.disj (i := 6) (j := 3) rfl rfl rfl b23 (by simp [R.blk]))) (WH.tk 1 rfl hP hSW342 (pr_load_blk (i := 9) (vs := [v265, v331, (.int .i64 y333), (.int .i64 y334)]) (v := (.agg #[v265, v331, (.int .i64 y333), (.int .i64 y334)])) tf_53 rfl rfl hS341 rfl rfl rfl (fun hb => (List.mem_append.1 hb).elim (hS341.disj (i := 9) (j := 2) rfl rfl rfl b81 (by simp [R.blk])) (hS341.disj (i := 9) (j := 3) rfl rfl rfl b81 (by simp [R.blk]))) (WH.on1 2 rfl ?_))))
           refine wl_store_blk (i := 2) (vs := [v19, v21, (.int .i64 u13.1.2.2.1), (.int .i64 u13.1.2.2.2)]) (cs' := [v19, v21, (.int .i64 u13.1.2.2.1), (.int .i64 u13.1.2.2.2)]) tf_53 rfl rfl rfl rfl hB340 hS341 rfl rfl ⟨(hS341.own_ro (i := 4) rfl).one, (hS341.own_ro (i := 5) rfl).one, rfl, rfl, trivial⟩ rfl ?_
           intro w343 hk346 hB344 hS345
           have hSW347 := hSW342.wr' hk346.1 hk346.2.1 (fun _ _ h => List.mem_append_left _ (h))
           refine WL.nil (WH.ret hSW347 (WH.on1 3 rfl (wl_store_blk (i := 3) (vs := [v265, v331, (.int .i64 y333), (.int .i64 y334)]) (cs' := [v265, v331, (.int .i64 y333), (.int .i64 y334)]) tf_53 rfl rfl rfl rfl hB344 hS345 rfl rfl ⟨(hS345.own_ro (i := 7) rfl).one, (hS345.own_ro (i := 8) rfl).one, rfl, rfl, trivial⟩ rfl ?_)))
           intro w349 hk352 hB350 hS351
           have hSW353 := hSW347.wr' hk352.1 hk352.2.1 (fun _ _ h => List.mem_append_right _ h)
           refine WL.nil (WH.ret hSW353 (WH.done (by kernel_rfl) (fun a ha => hK337 _ _ (W.ret ?_) a ha)))
           have hr := Option.some.inj hF
           subst hr
           exact rets (vs := [(.agg #[v19, v21, (.int .i64 u13.1.2.2.1), (.int .i64 u13.1.2.2.2)]), (.agg #[v265, v331, (.int .i64 y333), (.int .i64 y334)])]) hQ rfl ⟨rv_cell (i := 2) tf_53 rfl hS351 rfl rfl rfl, rv_cell (i := 3) tf_53 rfl hS351 rfl rfl rfl, trivial⟩ ⟨v19, F20, v21, F22, v265, F266, v331, F332, rfl, hB350, hS351.sel [0, 1, 4, 5, 7, 8] rfl⟩
          refine W.seq fun K355 hK355 => W.region (wl_move rfl rfl ?_)
          obtain ⟨u356, hu356, hF⟩ := bindE hF
          refine wl_call rfl Try.call132 (C_spec_l1Cur__pick__mut__box w259 (x0.1, y262, y263) b0 v0_0 (h0_0.rsto (hS261.sel [0, 1] rfl)) 5 (hS261.sel [1] rfl).base0 _ hu356) rfl ?_
          rintro _ w357 ⟨rfl, hE358, hM359⟩
          refine ⟨_, rfl, ?_⟩
          have hB360 := hS261.takeB [1] rfl (M := [R.blk b0 131 [v0_0, (.int .i64 y262), (.int .u64 y263)]]) rfl hB260 hE358 hM359
          have hS361 : Sep (wE w0).heap.size w357 [R.blk b0 131 [v0_0, (.int .i64 u356.2.2.1), (.int .u64 u356.2.2.2)], R.rest w0 (fps [R.blk b0 131 [v0_0, (.int .i64 x0.2.1), (.int .u64 x0.2.2)]]), R.blk b2 53 [(.slice none 0 0), (.slice none 0 0), (.int .i64 0), (.int .i64 0)], R.blk b7 53 [(.slice none 0 0), (.slice none 0 0), (.int .i64 0), (.int .i64 0)], R.own ty_63 F20 v19 u13.1.1, R.own ty_3 F22 v21 u13.1.2.1, R.blk b23 53 [v19, v21, (.int .i64 u13.1.2.2.1), (.int .i64 u13.1.2.2.2)], R.own ty_63 F266 v265 l264, R.own ty_3 F84 v83 l82, R.blk b81 53 [v265, v83, (.int .i64 y85), (.int .i64 y86)]] := hS261.take [1] [0, 2, 3, 4, 5, 6, 7, 8, 9] rfl (M := [R.blk b0 131 [v0_0, (.int .i64 y262), (.int .u64 y263)]]) rfl hM359 hB260.size
          refine WL.nil fun a ha => hK355 _ _ (W.block (W.seq fun K362 hK362 => (W.region (wl_eql rfl rfl rfl (wl_assign rfl rfl (WL.nil (fun a ha => hK362 _ _ (W.cond rfl (fun h363 => ?_) (fun h363 => ?_)) a ha))))))) a ha
          ·replace hF := ifP h363 hF
           refine W.regionH mixed_ (([b0] ++ F84) ++ [b81]) hB360 hS361 ?_
           intro w364 hb365 hB366 hS367
           have hSW368 := KeepX.refl w364 (([b0] ++ F84) ++ [b81])
           refine WH.tk 0 rfl hP hSW368 (pr_field (o := 1) (off' := 1) ff_53_1 rfl rfl rfl (WH.tk 2 rfl hP hSW368 (pr_move rfl rfl (WH.tk 3 rfl hP hSW368 (pr_field (o := 1) (off' := 1) ff_53_1 rfl rfl rfl (WH.tk 7 rfl hP hSW368 (pr_move rfl rfl (WH.many (is := [1, 4]) (by kernel_rfl) rfl (List.forall_mem_cons.2 ⟨⟨_, rfl, ?_⟩, List.forall_mem_cons.2 ⟨⟨_, rfl, ?_⟩, fun _ h => by cases h⟩⟩)))))))))
           ·
            refine wl_load_blk (i := 9) (vs := [v83]) (v := v83) tf_29 rfl rfl hS367 rfl rfl rfl (WL.nil (WH.ret hSW368 (WH.on1 4 rfl (wl_load_blk (i := 9) (vs := [v83]) (v := v83) tf_29 rfl rfl hS367 rfl rfl rfl (WL.nil (WH.ret hSW368 (WH.tk 5 rfl hP hSW368 (pr_lenr (e := ty_3) (l := l82) Try.underlying29 rfl rfl (hS367.own_ro (i := 8) rfl) (WH.on1 6 rfl ?_)))))))))
            obtain ⟨u369, hu369, hF⟩ := bindE hF
            refine wl_call rfl Try.call132 (C_spec_l1Cur__pick__mut__box w364 (x0.1, u356.2.2.1, u356.2.2.2) b0 v0_0 (h0_0.rsto (hS367.sel [1, 0] rfl)) (List.length l82 : Int) (hS367.sel [0] rfl).base0 _ hu369) rfl ?_
            rintro _ w370 ⟨rfl, hE371, hM372⟩
            refine ⟨_, rfl, ?_⟩
            have hB373 := hS367.takeB [0] rfl (M := [R.blk b0 131 [v0_0, (.int .i64 u356.2.2.1), (.int .u64 u356.2.2.2)]]) rfl hB366 hE371 hM372
            have hS374 : Sep (wE w0).heap.size w370 [R.blk b0 131 [v0_0, (.int .i64 u369.2.2.1), (.int .u64 u369.2.2.2)], R.rest w0 (fps [R.blk b0 131 [v0_0, (.int .i64 x0.2.1), (.int .u64 x0.2.2)]]), R.blk b2 53 [(.slice none 0 0), (.slice none 0 0), (.int .i64 0), (.int .i64 0)], R.blk b7 53 [(.slice none 0 0), (.slice none 0 0), (.int .i64 0), (.int .i64 0)], R.own ty_63 F20 v19 u13.1.1, R.own ty_3 F22 v21 u13.1.2.1, R.blk b23 53 [v19, v21, (.int .i64 u13.1.2.2.1), (.int .i64 u13.1.2.2.2)], R.own ty_63 F266 v265 l264, R.own ty_3 F84 v83 l82, R.blk b81 53 [v265, v83, (.int .i64 y85), (.int .i64 y86)]] := hS367.take [0] [1, 2, 3, 4, 5, 6, 7, 8, 9] rfl (M := [R.blk b0 131 [v0_0, (.int .i64 u356.2.2.1), (.int .u64 u356.2.2.2)]]) rfl hM372 hB366.size
            have hk375 := box_kept hM372
            have hSW376 := hSW368.wr' hk375.1 hk375.2.1 (fun _ _ h => List.mem_append_left _ (List.mem_append_left _ (h)))
            have hbs377 : ∀ b, b < w364.heap.size → b ∈ [b0] → b ∈ (([b0] ++ F84) ++ [b81]) := fun b hlt hb => (hk375.2.2 b hb).elim ((fun _ _ h => List.mem_append_left _ (List.mem_append_left _ (h))) b hlt) (fun h => absurd hlt (Nat.not_lt.2 (Nat.le_trans hSW368.size h)))
            refine WL.nil (WH.ret hSW376 (WH.on1 8 rfl ?_))
            obtain ⟨u378, hu378, hF⟩ := bindE hF
            refine wl_call rfl Try.call132 (C_spec_l1Cur__pick__mut__box w370 (x0.1, u369.2.2.1, u369.2.2.2) b0 v0_0 (h0_0.rsto (hS374.sel [1, 0] rfl)) 20 (hS374.sel [0] rfl).base0 _ hu378) rfl ?_
            rintro _ w379 ⟨rfl, hE380, hM381⟩
            refine ⟨_, rfl, ?_⟩
            have hB382 := hS374.takeB [0] rfl (M := [R.blk b0 131 [v0_0, (.int .i64 u369.2.2.1), (.int .u64 u369.2.2.2)]]) rfl hB373 hE380 hM381
            have hS383 : Sep (wE w0).heap.size w379 [R.blk b0 131 [v0_0, (.int .i64 u378.2.2.1), (.int .u64 u378.2.2.2)], R.rest w0 (fps [R.blk b0 131 [v0_0, (.int .i64 x0.2.1), (.int .u64 x0.2.2)]]), R.blk b2 53 [(.slice none 0 0), (.slice none 0 0), (.int .i64 0), (.int .i64 0)], R.blk b7 53 [(.slice none 0 0), (.slice none 0 0), (.int .i64 0), (.int .i64 0)], R.own ty_63 F20 v19 u13.1.1, R.own ty_3 F22 v21 u13.1.2.1, R.blk b23 53 [v19, v21, (.int .i64 u13.1.2.2.1), (.int .i64 u13.1.2.2.2)], R.own ty_63 F266 v265 l264, R.own ty_3 F84 v83 l82, R.blk b81 53 [v265, v83, (.int .i64 y85), (.int .i64 y86)]] := hS374.take [0] [1, 2, 3, 4, 5, 6, 7, 8, 9] rfl (M := [R.blk b0 131 [v0_0, (.int .i64 u369.2.2.1), (.int .u64 u369.2.2.2)]]) rfl hM381 hB373.size
            have hk384 := box_kept hM381
            have hSW385 := hSW376.wr' hk384.1 hk384.2.1 (hbs377)
            refine WL.nil (WH.ret hSW385 (WH.tk 9 rfl hP hSW385 (pr_add rfl rfl rfl (WH.on1 10 rfl ?_))))
            obtain ⟨u387, hu387, hF⟩ := bindE hF
            refine wl_indexoF (e := ty_3) (i := 8) Try.underlying29 rfl rfl rfl hS383 rfl hu387 ?_
            rintro p388 _ rfl hp389 ho390
            refine WL.nil (WH.ret hSW385 (WH.on1 11 rfl (wl_storeo (i := 8) (o := 0) (vs := [(.int .i64 (w64 (1 + u378.1)))]) (u' := (w64 (1 + u378.1))) fl_3 tf_3 rfl rfl rfl rfl ho390 hu387 hB382 hS383 rfl rfl ⟨rfl, trivial⟩ rfl ?_)))
            intro w391 hk394 hB392 hS393
            have hSW395 := hSW385.wr' hk394.1 hk394.2.1 (fun _ _ h => List.mem_append_left _ (List.mem_append_right _ h))
            refine WL.nil (WH.ret hSW395 (WH.done (by kernel_rfl) ?_))
            exact fun a ha => hJ336 (u378.2.2.1) (u378.2.2.2) ((seti l82 u369.1 (w64 (1 + u378.1)))) (y85) (y86) (v83) (F84) _ hF hB392 (hS393.sel [1, 0, 2, 3, 4, 5, 6, 7, 8, 9] rfl) a (ha.sub ⟨rfl, rfl, rfl, rfl, trivial⟩)
           ·
            refine wl_load_blk (i := 9) (vs := [v83]) (v := v83) tf_29 rfl rfl hS367 rfl rfl rfl (WL.nil (WH.ret hSW368 (WH.tk 5 rfl hP hSW368 (pr_lenr (e := ty_3) (l := l82) Try.underlying29 rfl rfl (hS367.own_ro (i := 8) rfl) (WH.many (is := [1, 6]) (by kernel_rfl) rfl (List.forall_mem_cons.2 ⟨⟨_, rfl, ?_⟩, List.forall_mem_cons.2 ⟨⟨_, rfl, ?_⟩, fun _ h => by cases h⟩⟩))))))
            ·
             refine wl_load_blk (i := 9) (vs := [v83]) (v := v83) tf_29 rfl rfl hS367 rfl rfl rfl (WL.nil (WH.ret hSW368 (WH.on1 6 rfl ?_)))
             obtain ⟨u397, hu397, hF⟩ := bindE hF
             refine wl_call rfl Try.call132 (C_spec_l1Cur__pick__mut__box w364 (x0.1, u356.2.2.1, u356.2.2.2) b0 v0_0 (h0_0.rsto (hS367.sel [1, 0] rfl)) (List.length l82 : Int) (hS367.sel [0] rfl).base0 _ hu397) rfl ?_
             rintro _ w398 ⟨rfl, hE399, hM400⟩
             refine ⟨_, rfl, ?_⟩
             have hB401 := hS367.takeB [0] rfl (M := [R.blk b0 131 [v0_0, (.int .i64 u356.2.2.1), (.int .u64 u356.2.2.2)]]) rfl hB366 hE399 hM400
             have hS402 : Sep (wE w0).heap.size w398 [R.blk b0 131 [v0_0, (.int .i64 u397.2.2.1), (.int .u64 u397.2.2.2)], R.rest w0 (fps [R.blk b0 131 [v0_0, (.int .i64 x0.2.1), (.int .u64 x0.2.2)]]), R.blk b2 53 [(.slice none 0 0), (.slice none 0 0), (.int .i64 0), (.int .i64 0)], R.blk b7 53 [(.slice none 0 0), (.slice none 0 0), (.int .i64 0), (.int .i64 0)], R.own ty_63 F20 v19 u13.1.1, R.own ty_3 F22 v21 u13.1.2.1, R.blk b23 53 [v19, v21, (.int .i64 u13.1.2.2.1), (.int .i64 u13.1.2.2.2)], R.own ty_63 F266 v265 l264, R.own ty_3 F84 v83 l82, R.blk b81 53 [v265, v83, (.int .i64 y85), (.int .i64 y86)]] := hS367.take [0] [1, 2, 3, 4, 5, 6, 7, 8, 9] rfl (M := [R.blk b0 131 [v0_0, (.int .i64 u356.2.2.1), (.int .u64 u356.2.2.2)]]) rfl hM400 hB366.size
             have hk403 := box_kept hM400
             have hSW404 := hSW368.wr' hk403.1 hk403.2.1 (fun _ _ h => List.mem_append_left _ (List.mem_append_left _ (h)))
             have hbs405 : ∀ b, b < w364.heap.size → b ∈ [b0] → b ∈ (([b0] ++ F84) ++ [b81]) := fun b hlt hb => (hk403.2.2 b hb).elim ((fun _ _ h => List.mem_append_left _ (List.mem_append_left _ (h))) b hlt) (fun h => absurd hlt (Nat.not_lt.2 (Nat.le_trans hSW368.size h)))
             refine WL.nil (WH.ret hSW404 (WH.on1 8 rfl ?_))
             obtain ⟨u406, hu406, hF⟩ := bindE hF
             refine wl_call rfl Try.call132 (C_spec_l1Cur__pick__mut__box w398 (x0.1, u397.2.2.1, u397.2.2.2) b0 v0_0 (h0_0.rsto (hS402.sel [1, 0] rfl)) 20 (hS402.sel [0] rfl).base0 _ hu406) rfl ?_
             rintro _ w407 ⟨rfl, hE408, hM409⟩
             refine ⟨_, rfl, ?_⟩
             have hB410 := hS402.takeB [0] rfl (M := [R.blk b0 131 [v0_0, (.int .i64 u397.2.2.1), (.int .u64 u397.2.2.2)]]) rfl hB401 hE408 hM409
             have hS411 : Sep (wE w0).heap.size w407 [R.blk b0 131 [v0_0, (.int .i64 u406.2.2.1), (.int .u64 u406.2.2.2)], R.rest w0 (fps [R.blk b0 131 [v0_0, (.int .i64 x0.2.1), (.int .u64 x0.2.2)]]), R.blk b2 53 [(.slice none 0 0), (.slice none 0 0), (.int .i64 0), (.int .i64 0)], R.blk b7 53 [(.slice none 0 0), (.slice none 0 0), (.int .i64 0), (.int .i64 0)], R.own ty_63 F20 v19 u13.1.1, R.own ty_3 F22 v21 u13.1.2.1, R.blk b23 53 [v19, v21, (.int .i64 u13.1.2.2.1), (.int .i64 u13.1.2.2.2)], R.own ty_63 F266 v265 l264, R.own ty_3 F84 v83 l82, R.blk b81 53 [v265, v83, (.int .i64 y85), (.int .i64 y86)]] := hS402.take [0] [1, 2, 3, 4, 5, 6, 7, 8, 9] rfl (M := [R.blk b0 131 [v0_0, (.int .i64 u397.2.2.1), (.int .u64 u397.2.2.2)]]) rfl hM409 hB401.size
             have hk412 := box_kept hM409
             have hSW413 := hSW404.wr' hk412.1 hk412.2.1 (hbs405)
             refine WL.nil (WH.ret hSW413 (WH.tk 9 rfl hP hSW413 (pr_add rfl rfl rfl (WH.on1 10 rfl ?_))))
             obtain ⟨u415, hu415, hF⟩ := bindE hF
             refine wl_indexoF (e := ty_3) (i := 8) Try.underlying29 rfl rfl rfl hS411 rfl hu415 ?_
             rintro p416 _ rfl hp417 ho418
             refine WL.nil (WH.ret hSW413 (WH.on1 11 rfl (wl_storeo (i := 8) (o := 0) (vs := [(.int .i64 (w64 (1 + u406.1)))]) (u' := (w64 (1 + u406.1))) fl_3 tf_3 rfl rfl rfl rfl ho418 hu415 hB410 hS411 rfl rfl ⟨rfl, trivial⟩ rfl ?_)))
             intro w419 hk422 hB420 hS421
             have hSW423 := hSW413.wr' hk422.1 hk422.2.1 (fun _ _ h => List.mem_append_left _ (List.mem_append_right _ h))
             refine WL.nil (WH.ret hSW423 (WH.done (by kernel_rfl) ?_))
             exact fun a ha => hJ336 (u406.2.2.1) (u406.2.2.2) ((seti l82 u397.1 (w64 (1 + u406.1)))) (y85) (y86) (v83) (F84) _ hF hB420 (hS421.sel [1, 0, 2, 3, 4, 5, 6, 7, 8, 9] rfl) a (ha.sub ⟨rfl, rfl, rfl, rfl, trivial⟩)
            ·
             obtain ⟨u425, hu425, hF⟩ := bindE hF
             refine wl_call rfl Try.call132 (C_spec_l1Cur__pick__mut__box w364 (x0.1, u356.2.2.1, u356.2.2.2) b0 v0_0 (h0_0.rsto (hS367.sel [1, 0] rfl)) (List.length l82 : Int) (hS367.sel [0] rfl).base0 _ hu425) rfl ?_
             rintro _ w426 ⟨rfl, hE427, hM428⟩
             refine ⟨_, rfl, ?_⟩
             have hB429 := hS367.takeB [0] rfl (M := [R.blk b0 131 [v0_0, (.int .i64 u356.2.2.1), (.int .u64 u356.2.2.2)]]) rfl hB366 hE427 hM428
             have hS430 : Sep (wE w0).heap.size w426 [R.blk b0 131 [v0_0, (.int .i64 u425.2.2.1), (.int .u64 u425.2.2.2)], R.rest w0 (fps [R.blk b0 131 [v0_0, (.int .i64 x0.2.1), (.int .u64 x0.2.2)]]), R.blk b2 53 [(.slice none 0 0), (.slice none 0 0), (.int .i64 0), (.int .i64 0)], R.blk b7 53 [(.slice none 0 0), (.slice none 0 0), (.int .i64 0), (.int .i64 0)], R.own ty_63 F20 v19 u13.1.1, R.own ty_3 F22 v21 u13.1.2.1, R.blk b23 53 [v19, v21, (.int .i64 u13.1.2.2.1), (.int .i64 u13.1.2.2.2)], R.own ty_63 F266 v265 l264, R.own ty_3 F84 v83 l82, R.blk b81 53 [v265, v83, (.int .i64 y85), (.int .i64 y86)]] := hS367.take [0] [1, 2, 3, 4, 5, 6, 7, 8, 9] rfl (M := [R.blk b0 131 [v0_0, (.int .i64 u356.2.2.1), (.int .u64 u356.2.2.2)]]) rfl hM428 hB366.size
             have hk431 := box_kept hM428
             have hSW432 := hSW368.wr' hk431.1 hk431.2.1 (fun _ _ h => List.mem_append_left _ (List.mem_append_left _ (h)))
             have hbs433 : ∀ b, b < w364.heap.size → b ∈ [b0] → b ∈ (([b0] ++ F84) ++ [b81]) := fun b hlt hb => (hk431.2.2 b hb).elim ((fun _ _ h => List.mem_append_left _ (List.mem_append_left _ (h))) b hlt) (fun h => absurd hlt (Nat.not_lt.2 (Nat.le_trans hSW368.size h)))
             refine WL.nil (WH.ret hSW432 (WH.many (is := [1, 8]) (by kernel_rfl) rfl (List.forall_mem_cons.2 ⟨⟨_, rfl, ?_⟩, List.forall_mem_cons.2 ⟨⟨_, rfl, ?_⟩, fun _ h => by cases h⟩⟩)))
             ·
              refine wl_load_blk (i := 9) (vs := [v83]) (v := v83) tf_29 rfl rfl hS430 rfl rfl rfl (WL.nil (WH.ret hSW432 (WH.on1 8 rfl ?_)))
              obtain ⟨u434, hu434, hF⟩ := bindE hF
              refine wl_call rfl Try.call132 (C_spec_l1Cur__pick__mut__box w426 (x0.1, u425.2.2.1, u425.2.2.2) b0 v0_0 (h0_0.rsto (hS430.sel [1, 0] rfl)) 20 (hS430.sel [0] rfl).base0 _ hu434) rfl ?_
              rintro _ w435 ⟨rfl, hE436, hM437⟩
              refine ⟨_, rfl, ?_⟩
              have hB438 := hS430.takeB [0] rfl (M := [R.blk b0 131 [v0_0, (.int .i64 u425.2.2.1), (.int .u64 u425.2.2.2)]]) rfl hB429 hE436 hM437
              have hS439 : Sep (wE w0).heap.size w435 [R.blk b0 131 [v0_0, (.int .i64 u434.2.2.1), (.int .u64 u434.2.2.2)], R.rest w0 (fps [R.blk b0 131 [v0_0, (.int .i64 x0.2.1), (.int .u64 x0.2.2)]]), R.blk b2 53 [(.slice none 0 0), (.slice none 0 0), (.int .i64 0), (.int .i64 0)], R.blk b7 53 [(.slice none 0 0), (.slice none 0 0), (.int .i64 0), (.int .i64 0)], R.own ty_63 F20 v19 u13.1.1, R.own ty_3 F22 v21 u13.1.2.1, R.blk b23 53 [v19, v21, (.int .i64 u13.1.2.2.1), (.int .i64 u13.1.2.2.2)], R.own ty_63 F266 v265 l264, R.own ty_3 F84 v83 l82, R.blk b81 53 [v265, v83, (.int .i64 y85), (.int .i64 y86)]] := hS430.take [0] [1, 2, 3, 4, 5, 6, 7, 8, 9] rfl (M := [R.blk b0 131 [v0_0, (.int .i64 u425.2.2.1), (.int .u64 u425.2.2.2)]]) rfl hM437 hB429.size
              have hk440 := box_kept hM437
              have hSW441 := hSW432.wr' hk440.1 hk440.2.1 (hbs433)
              refine WL.nil (WH.ret hSW441 (WH.tk 9 rfl hP hSW441 (pr_add rfl rfl rfl (WH.on1 10 rfl ?_))))
              obtain ⟨u443, hu443, hF⟩ := bindE hF
              refine wl_indexoF (e := ty_3) (i := 8) Try.underlying29 rfl rfl rfl hS439 rfl hu443 ?_
              rintro p444 _ rfl hp445 ho446
              refine WL.nil (WH.ret hSW441 (WH.on1 11 rfl (wl_storeo (i := 8) (o := 0) (vs := [(.int .i64 (w64 (1 + u434.1)))]) (u' := (w64 (1 + u434.1))) fl_3 tf_3 rfl rfl rfl rfl ho446 hu443 hB438 hS439 rfl rfl ⟨rfl, trivial⟩ rfl ?_)))
              intro w447 hk450 hB448 hS449
              have hSW451 := hSW441.wr' hk450.1 hk450.2.1 (fun _ _ h => List.mem_append_left _ (List.mem_append_right _ h))
              refine WL.nil (WH.ret hSW451 (WH.done (by kernel_rfl) ?_))
              exact fun a ha => hJ336 (u434.2.2.1) (u434.2.2.2) ((seti l82 u425.1 (w64 (1 + u434.1)))) (y85) (y86) (v83) (F84) _ hF hB448 (hS449.sel [1, 0, 2, 3, 4, 5, 6, 7, 8, 9] rfl) a (ha.sub ⟨rfl, rfl, rfl, rfl, trivial⟩)
             ·
              obtain ⟨u453, hu453, hF⟩ := bindE hF
              refine wl_call rfl Try.call132 (C_spec_l1Cur__pick__mut__box w426 (x0.1, u425.2.2.1, u425.2.2.2) b0 v0_0 (h0_0.rsto (hS430.sel [1, 0] rfl)) 20 (hS430.sel [0] rfl).base0 _ hu453) rfl ?_
              rintro _ w454 ⟨rfl, hE455, hM456⟩
              refine ⟨_, rfl, ?_⟩
              have hB457 := hS430.takeB [0] rfl (M := [R.blk b0 131 [v0_0, (.int .i64 u425.2.2.1), (.int .u64 u425.2.2.2)]]) rfl hB429 hE455 hM456
              have hS458 : Sep (wE w0).heap.size w454 [R.blk b0 131 [v0_0, (.int .i64 u453.2.2.1), (.int .u64 u453.2.2.2)], R.rest w0 (fps [R.blk b0 131 [v0_0, (.int .i64 x0.2.1), (.int .u64 x0.2.2)]]), R.blk b2 53 [(.slice none 0 0), (.slice none 0 0), (.int .i64 0), (.int .i64 0)], R.blk b7 53 [(.slice none 0 0), (.slice none 0 0), (.int .i64 0), (.int .i64 0)], R.own ty_63 F20 v19 u13.1.1, R.own ty_3 F22 v21 u13.1.2.1, R.blk b23 53 [v19, v21, (.int .i64 u13.1.2.2.1), (.int .i64 u13.1.2.2.2)], R.own ty_63 F266 v265 l264, R.own ty_3 F84 v83 l82, R.blk b81 53 [v265, v83, (.int .i64 y85), (.int .i64 y86)]] := hS430.take [0] [1, 2, 3, 4, 5, 6, 7, 8, 9] rfl (M := [R.blk b0 131 [v0_0, (.int .i64 u425.2.2.1), (.int .u64 u425.2.2.2)]]) rfl hM456 hB429.size
              have hk459 := box_kept hM456
              have hSW460 := hSW432.wr' hk459.1 hk459.2.1 (hbs433)
              refine WL.nil (WH.ret hSW460 (WH.tk 9 rfl hP hSW460 (pr_add rfl rfl rfl (WH.on1 1 rfl (wl_load_blk (i := 9) (vs := [v83]) (v := v83) tf_29 rfl rfl hS458 rfl rfl rfl (WL.nil (WH.ret hSW460 (WH.on1 10 rfl ?_))))))))
              obtain ⟨u462, hu462, hF⟩ := bindE hF
              refine wl_indexoF (e := ty_3) (i := 8) Try.underlying29 rfl rfl rfl hS458 rfl hu462 ?_
              rintro p463 _ rfl hp464 ho465
              refine WL.nil (WH.ret hSW460 (WH.on1 11 rfl (wl_storeo (i := 8) (o := 0) (vs := [(.int .i64 (w64 (1 + u453.1)))]) (u' := (w64 (1 + u453.1))) fl_3 tf_3 rfl rfl rfl rfl ho465 hu462 hB457 hS458 rfl rfl ⟨rfl, trivial⟩ rfl ?_)))
              intro w466 hk469 hB467 hS468
              have hSW470 := hSW460.wr' hk469.1 hk469.2.1 (fun _ _ h => List.mem_append_left _ (List.mem_append_right _ h))
              refine WL.nil (WH.ret hSW470 (WH.done (by kernel_rfl) ?_))
              exact fun a ha => hJ336 (u453.2.2.1) (u453.2.2.2) ((seti l82 u425.1 (w64 (1 + u453.1)))) (y85) (y86) (v83) (F84) _ hF hB467 (hS468.sel [1, 0, 2, 3, 4, 5, 6, 7, 8, 9] rfl) a (ha.sub ⟨rfl, rfl, rfl, rfl, trivial⟩)
          ·replace hF := ifN h363 hF
           refine W.seq fun K472 hK472 => W.region (wl_eql rfl rfl rfl (wl_assign rfl rfl (WL.nil (fun a ha => hK472 _ _ (W.cond rfl (fun h473 => ?_) (fun h473 => ?_)) a ha))))
           ·replace hF := ifP h473 hF
            refine W.region (wl_move rfl rfl ?_)
            obtain ⟨u474, hu474, hF⟩ := bindE hF
            refine wl_call rfl Try.call132 (C_spec_l1Cur__pick__mut__box w357 (x0.1, u356.2.2.1, u356.2.2.2) b0 v0_0 (h0_0.rsto (hS361.sel [1, 0] rfl)) 20 (hS361.sel [0] rfl).base0 _ hu474) rfl ?_
            rintro _ w475 ⟨rfl, hE476, hM477⟩
            refine ⟨_, rfl, ?_⟩
            have hB478 := hS361.takeB [0] rfl (M := [R.blk b0 131 [v0_0, (.int .i64 u356.2.2.1), (.int .u64 u356.2.2.2)]]) rfl hB360 hE476 hM477
            have hS479 : Sep (wE w0).heap.size w475 [R.blk b0 131 [v0_0, (.int .i64 u474.2.2.1), (.int .u64 u474.2.2.2)], R.rest w0 (fps [R.blk b0 131 [v0_0, (.int .i64 x0.2.1), (.int .u64 x0.2.2)]]), R.blk b2 53 [(.slice none 0 0), (.slice none 0 0), (.int .i64 0), (.int .i64 0)], R.blk b7 53 [(.slice none 0 0), (.slice none 0 0), (.int .i64 0), (.int .i64 0)], R.own ty_63 F20 v19 u13.1.1, R.own ty_3 F22 v21 u13.1.2.1, R.blk b23 53 [v19, v21, (.int .i64 u13.1.2.2.1), (.int .i64 u13.1.2.2.2)], R.own ty_63 F266 v265 l264, R.own ty_3 F84 v83 l82, R.blk b81 53 [v265, v83, (.int .i64 y85), (.int .i64 y86)]] := hS361.take [0] [1, 2, 3, 4, 5, 6, 7, 8, 9] rfl (M := [R.blk b0 131 [v0_0, (.int .i64 u356.2.2.1), (.int .u64 u356.2.2.2)]]) rfl hM477 hB360.size
            refine wl_field (o := 2) (off' := 2) ff_53_2 rfl rfl rfl (wl_store_blk (i := 9) (vs := [(.int .i64 u474.1)]) (cs' := [v265, v83, (.int .i64 u474.1), (.int .i64 y86)]) tf_3 rfl rfl rfl rfl hB478 hS479 rfl rfl ⟨rfl, trivial⟩ rfl ?_)
            intro w480 hk483 hB481 hS482
            refine WL.nil ?_
            exact fun a ha => hJ336 (u474.2.2.1) (u474.2.2.2) (l82) (u474.1) (y86) (v83) (F84) _ hF hB481 (hS482.sel [1, 0, 2, 3, 4, 5, 6, 7, 8, 9] rfl) a (ha.sub ⟨rfl, rfl, rfl, rfl, trivial⟩)
           ·replace hF := ifN h473 hF
            refine W.seq fun K484 hK484 => W.region (wl_eql rfl rfl rfl (wl_assign rfl rfl (WL.nil (fun a ha => hK484 _ _ (W.cond rfl (fun h485 => ?_) (fun h485 => ?_)) a ha))))
            ·replace hF := ifP h485 hF
             refine W.region (wl_move rfl rfl ?_)
             obtain ⟨u486, hu486, hF⟩ := bindE hF
             refine wl_call rfl Try.call132 (C_spec_l1Cur__pick__mut__box w357 (x0.1, u356.2.2.1, u356.2.2.2) b0 v0_0 (h0_0.rsto (hS361.sel [1, 0] rfl)) 24 (hS361.sel [0] rfl).base0 _ hu486) rfl ?_
             rintro _ w487 ⟨rfl, hE488, hM489⟩
             refine ⟨_, rfl, ?_⟩
             have hB490 := hS361.takeB [0] rfl (M := [R.blk b0 131 [v0_0, (.int .i64 u356.2.2.1), (.int .u64 u356.2.2.2)]]) rfl hB360 hE488 hM489
             have hS491 : Sep (wE w0).heap.size w487 [R.blk b0 131 [v0_0, (.int .i64 u486.2.2.1), (.int .u64 u486.2.2.2)], R.rest w0 (fps [R.blk b0 131 [v0_0, (.int .i64 x0.2.1), (.int .u64 x0.2.2)]]), R.blk b2 53 [(.slice none 0 0), (.slice none 0 0), (.int .i64 0), (.int .i64 0)], R.blk b7 53 [(.slice none 0 0), (.slice none 0 0), (.int .i64 0), (.int .i64 0)], R.own ty_63 F20 v19 u13.1.1, R.own ty_3 F22 v21 u13.1.2.1, R.blk b23 53 [v19, v21, (.int .i64 u13.1.2.2.1), (.int .i64 u13.1.2.2.2)], R.own ty_63 F266 v265 l264, R.own ty_3 F84 v83 l82, R.blk b81 53 [v265, v83, (.int .i64 y85), (.int .i64 y86)]] := hS361.take [0] [1, 2, 3, 4, 5, 6, 7, 8, 9] rfl (M := [R.blk b0 131 [v0_0, (.int .i64 u356.2.2.1), (.int .u64 u356.2.2.2)]]) rfl hM489 hB360.size
             refine wl_add rfl rfl rfl (wl_field (o := 3) (off' := 3) ff_53_3 rfl rfl rfl (wl_store_blk (i := 9) (vs := [(.int .i64 (w64 (1 + u486.1)))]) (cs' := [v265, v83, (.int .i64 y85), (.int .i64 (w64 (1 + u486.1)))]) tf_3 rfl rfl rfl rfl hB490 hS491 rfl rfl ⟨rfl, trivial⟩ rfl ?_))
             intro w492 hk495 hB493 hS494
             refine WL.nil ?_
             exact fun a ha => hJ336 (u486.2.2.1) (u486.2.2.2) (l82) (y85) ((w64 (1 + u486.1))) (v83) (F84) _ hF hB493 (hS494.sel [1, 0, 2, 3, 4, 5, 6, 7, 8, 9] rfl) a (ha.sub ⟨rfl, rfl, rfl, rfl, trivial⟩)
            ·replace hF := ifN h485 hF
             refine W.skip ?_
             exact fun a ha => hJ336 (u356.2.2.1) (u356.2.2.2) (l82) (y85) (y86) (v83) (F84) _ hF hB360 (hS361.sel [1, 0, 2, 3, 4, 5, 6, 7, 8, 9] rfl) a (ha.sub ⟨rfl, rfl, rfl, rfl, trivial⟩)
   refine W.regionH mixed_ [] hB35 hS36 ?_
   intro w496 hb497 hB498 hS499
   have hSW500 := KeepX.refl w496 []
   refine WH.tk 0 rfl hP hSW500 (pr_field (o := 1) (off' := 1) ff_53_1 rfl rfl rfl (WH.tk 1 rfl hP hSW500 (pr_load_blk (i := 6) (vs := [v21]) (v := v21) tf_29 rfl rfl hS499 rfl rfl rfl (by simp) (WH.tk 3 rfl hP hSW500 (pr_field (o := 2) (off' := 2) ff_53_2 rfl rfl rfl (WH.tk 4 rfl hP hSW500 (pr_load_blk (i := 6) (vs := [(.int .i64 u13.1.2.2.1)]) (v := (.int .i64 u13.1.2.2.1)) tf_3 rfl rfl hS499 rfl rfl rfl (by simp) (WH.tk 5 rfl hP hSW500 (pr_field (o := 3) (off' := 3) ff_53_3 rfl rfl rfl (WH.tk 6 rfl hP hSW500 (pr_load_blk (i := 6) (vs := [(.int .i64 u13.1.2.2.2)]) (v := (.int .i64 u13.1.2.2.2)) tf_3 rfl rfl hS499 rfl rfl rfl (by simp) (WH.many (is := [2, 8]) (by kernel_rfl) rfl (List.forall_mem_cons.2 ⟨⟨_, rfl, ?_⟩, List.forall_mem_cons.2 ⟨⟨_, rfl, ?_⟩, fun _ h => by cases h⟩⟩)))))))))))))
   ·
    obtain ⟨u501, hu501, hF⟩ := bindE hF
    refine wl_call rfl Try.call216 (C_spec_l1Own w496 u13.1.2.1 v21 (hS499.own_ro (i := 5) rfl) _ hu501) rfl ?_
    rintro _ w504 ⟨v502, F503, rfl, hb505, hM508⟩
    refine ⟨_, rfl, ?_⟩
    have hB506 := hB498.trans (hb505.mono hB498.size)
    have hS507 := hS499.join hb505 hM508 hB498.size
    have hSW510 := hSW500.ext hb505
    refine WL.nil (WH.ret hSW510 (WH.tk 7 rfl hP hSW510 (pr_build (zs := [(.slice none 0 0), (.slice none 0 0), (.int .i64 0), (.int .i64 0)]) (out := [(.slice none 0 0), v502, (.int .i64 u13.1.2.2.1), (.int .i64 u13.1.2.2.2)]) (vs := [v502, (.int .i64 u13.1.2.2.1), (.int .i64 u13.1.2.2.2)]) (css := [[v502], [(.int .i64 u13.1.2.2.1)], [(.int .i64 u13.1.2.2.2)]]) tf_53 pl_53 rfl rfl (by simp only [List.map_cons, List.map_nil, cells_one ((hS507.own_ro (i := 0) rfl).one)] <;> rfl) rfl rfl (WH.on1 8 rfl (wl_alloc (cs := [(.slice none 0 0), (.slice none 0 0), (.int .i64 0), (.int .i64 0)]) tf_53 rfl rfl (Below.self w504) (Sep.nil _ _) ?_)))))
    intro b511 w512 hb513 hB516 hM517
    have hB514 := hB506.trans (hb513.mono hB506.size)
    have hS515 := hS507.join hb513 hM517 hB506.size
    have hn518 : ∀ b ∈ [b511], w496.heap.size ≤ b := fun b hb => Nat.le_trans hSW510.size ((hM517.1 _ (List.mem_cons_self ..)).2.1 b hb).1
    have hSW519 := hSW510.ext hb513
    refine WL.nil (WH.ret hSW519 (WH.on1 9 rfl (wl_store_blk (i := 0) (vs := [(.slice none 0 0), v502, (.int .i64 u13.1.2.2.1), (.int .i64 u13.1.2.2.2)]) (cs' := [(.slice none 0 0), v502, (.int .i64 u13.1.2.2.1), (.int .i64 u13.1.2.2.2)]) tf_53 rfl rfl rfl rfl hB514 hS515 rfl rfl ⟨rfl, (hS515.own_ro (i := 1) rfl).one, rfl, rfl, trivial⟩ rfl ?_)))
    intro w520 hk523 hB521 hS522
    have hSW524 := hSW519.wr' hk523.1 hk523.2.1 (fun b hlt hb => absurd hlt (Nat.not_lt.2 (hn518 b hb)))
    refine WL.nil (WH.ret hSW524 (WH.done (by kernel_rfl) ?_))
    exact fun a ha => hJ88 (u501) (u13.1.2.2.1) (u13.1.2.2.2) (v502) (F503) (b511) _ hF hB521 (hS522.sel [2, 3, 4, 5, 6, 7, 8, 1, 0] rfl) a (ha.sub ⟨rfl, rfl, rfl, rfl, rfl, trivial⟩)
   ·
    refine wl_alloc (cs := [(.slice none 0 0), (.slice none 0 0), (.int .i64 0), (.int .i64 0)]) tf_53 rfl rfl (Below.self w496) (Sep.nil _ _) ?_
    intro b526 w527 hb528 hB531 hM532
    have hB529 := hB498.trans (hb528.mono hB498.size)
    have hS530 := hS499.join hb528 hM532 hB498.size
    have hn533 : ∀ b ∈ [b526], w496.heap.size ≤ b := fun b hb => Nat.le_trans hSW500.size ((hM532.1 _ (List.mem_cons_self ..)).2.1 b hb).1
    have hSW534 := hSW500.ext hb528
    refine WL.nil (WH.ret hSW534 (WH.on1 2 rfl ?_))
    obtain ⟨u535, hu535, hF⟩ := bindE hF
    refine wl_call rfl Try.call216 (C_spec_l1Own w527 u13.1.2.1 v21 (hS530.own_ro (i := 6) rfl) _ hu535) rfl ?_
    rintro _ w538 ⟨v536, F537, rfl, hb539, hM542⟩
    refine ⟨_, rfl, ?_⟩
    have hB540 := hB529.trans (hb539.mono hB529.size)
    have hS541 := hS530.join hb539 hM542 hB529.size
    have hSW544 := hSW534.ext hb539
    refine WL.nil (WH.ret hSW544 (WH.tk 7 rfl hP hSW544 (pr_build (zs := [(.slice none 0 0), (.slice none 0 0), (.int .i64 0), (.int .i64 0)]) (out := [(.slice none 0 0), v536, (.int .i64 u13.1.2.2.1), (.int .i64 u13.1.2.2.2)]) (vs := [v536, (.int .i64 u13.1.2.2.1), (.int .i64 u13.1.2.2.2)]) (css := [[v536], [(.int .i64 u13.1.2.2.1)], [(.int .i64 u13.1.2.2.2)]]) tf_53 pl_53 rfl rfl (by simp only [List.map_cons, List.map_nil, cells_one ((hS541.own_ro (i := 0) rfl).one)] <;> rfl) rfl rfl (WH.on1 9 rfl (wl_store_blk (i := 1) (vs := [(.slice none 0 0), v536, (.int .i64 u13.1.2.2.1), (.int .i64 u13.1.2.2.2)]) (cs' := [(.slice none 0 0), v536, (.int .i64 u13.1.2.2.1), (.int .i64 u13.1.2.2.2)]) tf_53 rfl rfl rfl rfl hB540 hS541 rfl rfl ⟨rfl, (hS541.own_ro (i := 0) rfl).one, rfl, rfl, trivial⟩ rfl ?_)))))
    intro w545 hk548 hB546 hS547
    have hSW549 := hSW544.wr' hk548.1 hk548.2.1 (fun b hlt hb => absurd hlt (Nat.not_lt.2 (hn533 b hb)))
    refine WL.nil (WH.ret hSW549 (WH.done (by kernel_rfl) ?_))
    exact fun a ha => hJ88 (u535) (u13.1.2.2.1) (u13.1.2.2.2) (v536) (F537) (b526) _ hF hB546 (hS547.sel [2, 3, 4, 5, 6, 7, 8, 0, 1] rfl) a (ha.sub ⟨rfl, rfl, rfl, rfl, rfl, trivial⟩)
 refine W.region (wl_load_blk (i := 0) (vs := [v19, v21, (.int .i64 u13.1.2.2.1), (.int .i64 u13.1.2.2.2)]) (v := (.agg #[v19, v21, (.int .i64 u13.1.2.2.1), (.int .i64 u13.1.2.2.2)])) tf_53 rfl rfl hS30 rfl rfl rfl ?_)
 obtain ⟨u551, hu551, hF⟩ := bindE hF
 refine wl_call rfl Try.call145 (C_spec_swGood w28 u13.1 v19 (hS30.own_ro (i := 2) rfl) v21 (hS30.own_ro (i := 3) rfl) _ hu551) rfl ?_
 rintro _ w552 ⟨rfl, hb553⟩
 refine ⟨_, rfl, ?_⟩
 have hB554 := hB29.trans (hb553.mono hB29.size)
 have hS555 := hS30.below hb553
 refine wl_not rfl rfl (wl_move rfl rfl ?_)
 rcases bE (!u551) with h557 | h557
 ·replace hF := ifP h557 hF
  refine wl_off rfl rfl rfl h557 (wl_off rfl rfl rfl h557 (wl_pick_t rfl rfl h557 rfl (WL.nil ?_)))
  exact fun a ha => hJ41 (u13.2.2.1) (u13.2.2.2) (true) _ hF hB554 (hS555.sel [6, 1, 5, 4, 2, 3, 0] rfl) a (ha.sub ⟨rfl, rfl, rfl, rfl, rfl, trivial⟩)
 ·replace hF := ifN h557 hF
  refine wl_on rfl rfl h557 (wl_move rfl rfl (wl_on rfl rfl h557 ?_))
  obtain ⟨u558, hu558, hF⟩ := bindE hF
  refine wl_call rfl Try.call130 (C_spec_l1Cur__one__mut__box w552 (x0.1, u13.2.2.1, u13.2.2.2) b0 v0_0 (h0_0.rsto (hS555.sel [6, 1] rfl)) 4 (hS555.sel [1] rfl).base0 _ hu558) rfl ?_
  rintro _ w559 ⟨rfl, hE560, hM561⟩
  refine ⟨_, rfl, ?_⟩
  have hB562 := hS555.takeB [1] rfl (M := [R.blk b0 131 [v0_0, (.int .i64 u13.2.2.1), (.int .u64 u13.2.2.2)]]) rfl hB554 hE560 hM561
  have hS563 : Sep (wE w0).heap.size w559 [R.blk b0 131 [v0_0, (.int .i64 u558.2.2.1), (.int .u64 u558.2.2.2)], R.blk b23 53 [v19, v21, (.int .i64 u13.1.2.2.1), (.int .i64 u13.1.2.2.2)], R.own ty_63 F20 v19 u13.1.1, R.own ty_3 F22 v21 u13.1.2.1, R.blk b7 53 [(.slice none 0 0), (.slice none 0 0), (.int .i64 0), (.int .i64 0)], R.blk b2 53 [(.slice none 0 0), (.slice none 0 0), (.int .i64 0), (.int .i64 0)], R.rest w0 (fps [R.blk b0 131 [v0_0, (.int .i64 x0.2.1), (.int .u64 x0.2.2)]])] := hS555.take [1] [0, 2, 3, 4, 5, 6] rfl (M := [R.blk b0 131 [v0_0, (.int .i64 u13.2.2.1), (.int .u64 u13.2.2.2)]]) rfl hM561 hB554.size
  refine wl_pick_f rfl rfl h557 rfl (WL.nil ?_)
  exact fun a ha => hJ41 (u558.2.2.1) (u558.2.2.2) (u558.1) _ hF hB562 (hS563.sel [6, 0, 5, 4, 2, 3, 1] rfl) a (ha.sub ⟨rfl, rfl, rfl, rfl, rfl, trivial⟩)
theorem C_spec_DrawSameShows (w0 : World) (x0 : (List Int)) (v0_0 : Value) (h0_0 : rdS ty_5 (· < w0.heap.size) w0 v0_0 x0) (r : (((List (List (Int × Int))) × (List Int) × Int × Int) × ((List (List (Int × Int))) × (List Int) × Int × Int))) (hF : F_spec_DrawSameShows x0 = some r) :
  Calls Try.prog 143 [v0_0].toArray w0 fun e w' => ∃ (q0 : Value) (G0 : List Nat) (q1 : Value) (G1 : List Nat) (q2 : Value) (G2 : List Nat) (q3 : Value) (G3 : List Nat), e = .returned (.tuple #[(.agg #[q0, q1, (.int .i64 r.1.2.2.1), (.int .i64 r.1.2.2.2)]), (.agg #[q2, q3, (.int .i64 r.2.2.2.1), (.int .i64 r.2.2.2.2)])]) ∧ Below w0.heap.size w0 w' ∧ Sep w0.heap.size w' [R.own ty_63 G0 q0 r.1.1, R.own ty_3 G1 q1 r.1.2.1, R.own ty_63 G2 q2 r.2.1, R.own ty_3 G3 q3 r.2.2.1] := by
 refine calls_mk' Try.func143 rfl Try.ntmps143 rfl rfl fun Q hQ hP => ?_
 have hB : Below w0.heap.size w0 w0 := Below.refl _ _
 have hS : Sep w0.heap.size w0 [] := Sep.nil _ _
 unfold F_spec_DrawSameShows at hF
 refine W.seq fun K1 hK1 => W.region (wl_alloc (cs := [(.slice none 0 0), (.slice none 0 0), (.int .i64 0), (.int .i64 0)]) tf_53 rfl rfl hB hS ?_)
 intro b2 w3 hb4 hB5 hS6
 refine wl_alloc (cs := [(.slice none 0 0), (.slice none 0 0), (.int .i64 0), (.int .i64 0)]) tf_53 rfl rfl hB5 hS6 ?_
 intro b7 w8 hb9 hB10 hS11
 refine WL.nil fun a ha => hK1 _ _ (W.seq fun K12 hK12 => (W.region (wl_move rfl rfl (wl_build (zs := [(.slice none 0 0), (.int .i64 0), (.int .u64 0)]) (out := [v0_0, (.int .i64 0), (.int .u64 0)]) (vs := [v0_0]) (css := [[v0_0]]) tf_131 pl_131 rfl rfl (by simp only [List.map_cons, List.map_nil, cells_one ((h0_0.ro hB10).one)] <;> rfl) rfl rfl (wl_box (cs := [v0_0, (.int .i64 0), (.int .u64 0)]) rfl rfl rfl hB10 hS11 ?_))))) a ha
 intro b13 w14 hb15 hB16 hS17
 refine wl_assign rfl rfl (WL.nil (fun a ha => hK12 _ _ (W.seq fun K18 hK18 => (W.region (wl_move rfl rfl ?_))) a ha))
 obtain ⟨u19, hu19, hF⟩ := bindE hF
 refine wl_call rfl Try.call213 (C_spec_l1Cur__showsTwo__mut__box w14 (x0, 0, 0) b13 v0_0 (h0_0.oldo hB16 (hS17.sel [0] rfl)) (hS17.sel [0] rfl).base0 _ hu19) rfl ?_
 rintro _ w20 ⟨v25, F26, v27, F28, v29, F30, v31, F32, rfl, hE21, hM22⟩
 refine ⟨_, rfl, ?_⟩
 have hB23 := hS17.takeB [0] rfl (M := [R.blk b13 131 [v0_0, (.int .i64 0), (.int .u64 0)]]) rfl hB16 hE21 hM22
 have hS24 : Sep w0.heap.size w20 [R.blk b13 131 [v0_0, (.int .i64 u19.2.2.2.1), (.int .u64 u19.2.2.2.2)], R.own ty_63 F26 v25 u19.1.1, R.own ty_3 F28 v27 u19.1.2.1, R.own ty_63 F30 v29 u19.2.1.1, R.own ty_3 F32 v31 u19.2.1.2.1, R.blk b7 53 [(.slice none 0 0), (.slice none 0 0), (.int .i64 0), (.int .i64 0)], R.blk b2 53 [(.slice none 0 0), (.slice none 0 0), (.int .i64 0), (.int .i64 0)]] := hS17.take [0] [1, 2] rfl (M := [R.blk b13 131 [v0_0, (.int .i64 0), (.int .u64 0)]]) rfl hM22 hB16.size
 refine wl_extract rfl rfl rfl (wl_extract rfl rfl rfl (wl_store_blk (i := 6) (vs := [v25, v27, (.int .i64 u19.1.2.2.1), (.int .i64 u19.1.2.2.2)]) (cs' := [v25, v27, (.int .i64 u19.1.2.2.1), (.int .i64 u19.1.2.2.2)]) tf_53 rfl rfl rfl rfl hB23 hS24 rfl rfl ⟨(hS24.own_ro (i := 1) rfl).one, (hS24.own_ro (i := 2) rfl).one, rfl, rfl, trivial⟩ rfl ?_))
 intro w33 hk36 hB34 hS35
 refine wl_store_blk (i := 5) (vs := [v29, v31, (.int .i64 u19.2.1.2.2.1), (.int .i64 u19.2.1.2.2.2)]) (cs' := [v29, v31, (.int .i64 u19.2.1.2.2.1), (.int .i64 u19.2.1.2.2.2)]) tf_53 rfl rfl rfl rfl hB34 hS35 rfl rfl ⟨(hS35.own_ro (i := 3) rfl).one, (hS35.own_ro (i := 4) rfl).one, rfl, rfl, trivial⟩ rfl ?_
 intro w37 hk40 hB38 hS39
 refine WL.nil fun a ha => hK18 _ _ (W.ret ?_) a ha
 have hr := Option.some.inj hF
 subst hr
 exact rets (vs := [(.agg #[v25, v27, (.int .i64 u19.1.2.2.1), (.int .i64 u19.1.2.2.2)]), (.agg #[v29, v31, (.int .i64 u19.2.1.2.2.1), (.int .i64 u19.2.1.2.2.2)])]) hQ rfl ⟨rv_cell (i := 6) tf_53 rfl hS39 rfl rfl rfl, rv_cell (i := 5) tf_53 rfl hS39 rfl rfl rfl, trivial⟩ ⟨v25, F26, v27, F28, v29, F30, v31, F32, rfl, hB38, hS39.sel [1, 2, 3, 4] rfl⟩
theorem C_spec_DrawWaySums (w0 : World) (x0 : (List Int)) (v0_0 : Value) (h0_0 : rdS ty_5 (· < w0.heap.size) w0 v0_0 x0) (r : ((List (List (Int × Int))) × (List Int) × Int × Int)) (hF : F_spec_DrawWaySums x0 = some r) :
  Calls Try.prog 39 [v0_0].toArray w0 fun e w' => ∃ (q0 : Value) (G0 : List Nat) (q1 : Value) (G1 : List Nat), e = .returned (.agg #[q0, q1, (.int .i64 r.2.2.1), (.int .i64 r.2.2.2)]) ∧ Below w0.heap.size w0 w' ∧ Sep w0.heap.size w' [R.own ty_63 G0 q0 r.1, R.own ty_3 G1 q1 r.2.1] := by
 refine calls_mk' Try.func39 rfl Try.ntmps39 rfl rfl fun Q hQ hP => ?_
 have hB : Below w0.heap.size w0 w0 := Below.refl _ _
 have hS : Sep w0.heap.size w0 [] := Sep.nil _ _
 unfold F_spec_DrawWaySums at hF
 refine W.seq fun K1 hK1 => W.region (wl_alloc (cs := [(.slice none 0 0), (.slice none 0 0), (.int .i64 0), (.int .i64 0)]) tf_53 rfl rfl hB hS ?_)
 intro b2 w3 hb4 hB5 hS6
 refine WL.nil fun a ha => hK1 _ _ (W.seq fun K7 hK7 => (W.region (wl_move rfl rfl (wl_build (zs := [(.slice none 0 0), (.int .i64 0), (.int .u64 0)]) (out := [v0_0, (.int .i64 0), (.int .u64 0)]) (vs := [v0_0]) (css := [[v0_0]]) tf_131 pl_131 rfl rfl (by simp only [List.map_cons, List.map_nil, cells_one ((h0_0.ro hB5).one)] <;> rfl) rfl rfl (wl_box (cs := [v0_0, (.int .i64 0), (.int .u64 0)]) rfl rfl rfl hB5 hS6 ?_))))) a ha
 intro b8 w9 hb10 hB11 hS12
 refine wl_assign rfl rfl (WL.nil (fun a ha => hK7 _ _ (W.seq fun K13 hK13 => (W.region (wl_move rfl rfl ?_))) a ha))
 obtain ⟨u14, hu14, hF⟩ := bindE hF
 refine wl_call rfl Try.call149 (C_spec_l1Cur__show__mut__box w9 (x0, 0, 0) b8 v0_0 (h0_0.oldo hB11 (hS12.sel [0] rfl)) (hS12.sel [0] rfl).base0 _ hu14) rfl ?_
 rintro _ w15 ⟨v20, F21, v22, F23, rfl, hE16, hM17⟩
 refine ⟨_, rfl, ?_⟩
 have hB18 := hS12.takeB [0] rfl (M := [R.blk b8 131 [v0_0, (.int .i64 0), (.int .u64 0)]]) rfl hB11 hE16 hM17
 have hS19 : Sep w0.heap.size w15 [R.blk b8 131 [v0_0, (.int .i64 u14.2.2.1), (.int .u64 u14.2.2.2)], R.own ty_63 F21 v20 u14.1.1, R.own ty_3 F23 v22 u14.1.2.1, R.blk b2 53 [(.slice none 0 0), (.slice none 0 0), (.int .i64 0), (.int .i64 0)]] := hS12.take [0] [1] rfl (M := [R.blk b8 131 [v0_0, (.int .i64 0), (.int .u64 0)]]) rfl hM17 hB11.size
 refine wl_store_blk (i := 3) (vs := [v20, v22, (.int .i64 u14.1.2.2.1), (.int .i64 u14.1.2.2.2)]) (cs' := [v20, v22, (.int .i64 u14.1.2.2.1), (.int .i64 u14.1.2.2.2)]) tf_53 rfl rfl rfl rfl hB18 hS19 rfl rfl ⟨(hS19.own_ro (i := 1) rfl).one, (hS19.own_ro (i := 2) rfl).one, rfl, rfl, trivial⟩ rfl ?_
 intro w24 hk27 hB25 hS26
 refine WL.nil fun a ha => hK13 _ _ (W.ret ?_) a ha
 have hr := Option.some.inj hF
 subst hr
 exact rets (vs := [(.agg #[v20, v22, (.int .i64 u14.1.2.2.1), (.int .i64 u14.1.2.2.2)])]) hQ rfl ⟨rv_cell (i := 3) tf_53 rfl hS26 rfl rfl rfl, trivial⟩ ⟨v20, F21, v22, F23, rfl, hB25, hS26.sel [1, 2] rfl⟩
theorem C_impl_waySums (w0 : World) (x0 : ((List (List (Int × Int))) × (List Int) × Int × Int)) (v0_0 : Value) (h0_0 : rdS ty_63 (· < w0.heap.size) w0 v0_0 x0.1) (v0_1 : Value) (h0_1 : rdS ty_3 (· < w0.heap.size) w0 v0_1 x0.2.1) (r : (List Int)) (hF : F_impl_waySums x0 = some r) :
  Calls Try.prog 150 [(.agg #[v0_0, v0_1, (.int .i64 x0.2.2.1), (.int .i64 x0.2.2.2)])].toArray w0 fun e w' => ∃ (q0 : Value) (G0 : List Nat), e = .returned q0 ∧ Below w0.heap.size w0 w' ∧ Sep w0.heap.size w' [R.own ty_3 G0 q0 r] := by
 refine calls_mk' Try.func150 rfl Try.ntmps150 rfl rfl fun Q hQ hP => ?_
 have hB : Below w0.heap.size w0 w0 := Below.refl _ _
 have hS : Sep w0.heap.size w0 [] := Sep.nil _ _
 unfold F_impl_waySums at hF
 refine W.seq fun K1 hK1 => W.region (wl_box (cs := [v0_0, v0_1, (.int .i64 x0.2.2.1), (.int .i64 x0.2.2.2)]) rfl rfl rfl hB hS ?_)
 intro b2 w3 hb4 hB5 hS6
 refine wl_assign rfl rfl (WL.nil (fun a ha => hK1 _ _ (W.seq fun K7 hK7 => (W.region (wl_field (o := 0) (off' := 0) ff_53_0 rfl rfl rfl (wl_load_blk (i := 0) (vs := [v0_0]) (v := v0_0) tf_51 rfl rfl hS6 rfl rfl rfl ?_)))) a ha))
 obtain ⟨u8, hu8, hF⟩ := bindE hF
 refine wl_index (e := ty_63) Try.underlying51 rfl rfl rfl h0_0 hu8 ?_
 rintro p9 _ ⟨v11, rfl, hv12⟩ hp10
 refine wl_load_p (vs := [v11]) (v := v11) tf_63 rfl rfl (hp10.ro hB5) rfl rfl (wl_lenr (e := ty_68) (l := u8) Try.underlying63 rfl rfl hv12 ?_)
 obtain ⟨u13, hu13, hF⟩ := bindE hF
 refine wl_make (e := ty_3) Try.underlying29 rfl rfl hu13 hB5 hS6 ?_
 intro v14 F15 w16 hb17 hB18 hS19
 refine wl_assign rfl rfl (WL.nil (fun a ha => hK7 _ _ (W.seq fun K20 hK20 => (W.seq fun K21 hK21 => (W.region (wl_field (o := 1) (off' := 1) ff_53_1 rfl rfl rfl (wl_load_blk (i := 1) (vs := [v0_1]) (v := v0_1) tf_29 rfl rfl hS19 rfl rfl rfl (wl_lenr (e := ty_3) (l := x0.2.1) Try.underlying29 rfl rfl h0_1 (wl_move rfl rfl (WL.nil (fun a ha => hK21 _ _ (W.block (W.loopk (fun m a w22 => ∃ (l25 : (List Int)) (y28 : Int) (v26 : Value) (F27 : List Nat), St 42 [(1, (.pointer (some ⟨b2, 0, none⟩))), (3, v26), (15, (.int .i64 (List.length x0.2.1 : Int))), (16, (.int .i64 y28))] a ∧ Below w0.heap.size w0 w22 ∧ Sep w0.heap.size w22 [R.blk b2 53 [v0_0, v0_1, (.int .i64 x0.2.2.1), (.int .i64 x0.2.2.2)], R.own ty_3 F27 v26 l25] ∧ F_impl_waySums_L1 x0 m l25 y28 = some r) FU ?_ ?_)) a ha))))))))) a ha))
 ·
  exact fun a ha => ⟨u13, 0, v14, F15, ha.sub ⟨rfl, rfl, rfl, rfl, trivial⟩, hB18, (hS19.sel [1, 0] rfl), hF⟩
 ·
  rintro m31 a w22 ⟨l25, y28, v26, F27, ha, hB23, hS24, hF⟩ KL30 hKL30
  refine W.at ?_ ha
  cases m31 with
  | zero => exact noneE hF
  | succ m31 =>
   obtain ⟨nx29, hnx29⟩ : ∃ k, k = F_impl_waySums_L1 x0 m31 := ⟨_, rfl⟩
   rw [F_impl_waySums_L1, ← hnx29] at hF
   refine W.seq fun K32 hK32 => W.region (wl_lss rfl rfl rfl (WL.nil (fun a ha => hK32 _ _ (W.seq fun K33 hK33 => (W.cond rfl (fun h34 => ?_) (fun h34 => ?_))) a ha)))
   ·replace hF := ifP h34 hF
    refine W.skip fun a ha => hK33 _ _ (W.seq fun K35 hK35 => (W.block (W.seq fun K36 hK36 => (W.region (wl_move rfl rfl (wl_assign rfl rfl (WL.nil (fun a ha => hK36 _ _ (W.seq fun K37 hK37 => (W.region (wl_load_blk (i := 0) (vs := [v0_0, v0_1, (.int .i64 x0.2.2.1), (.int .i64 x0.2.2.2)]) (v := (.agg #[v0_0, v0_1, (.int .i64 x0.2.2.1), (.int .i64 x0.2.2.2)])) tf_53 rfl rfl hS24 rfl rfl rfl (wl_move rfl rfl ?_)))) a ha)))))))) a ha
    obtain ⟨u38, hu38, hF⟩ := bindE hF
    refine wl_call rfl Try.call152 (C_impl_showMoves w22 x0 v0_0 (h0_0.ro hB23) v0_1 (h0_1.ro hB23) y28 _ hu38) rfl ?_
    rintro _ w41 ⟨v39, F40, rfl, hb42, hM45⟩
    refine ⟨_, rfl, ?_⟩
    have hB43 := hB23.trans (hb42.mono hB23.size)
    have hS44 := hS24.join hb42 hM45 hB23.size
    refine wl_lenr (e := ty_70) (l := u38) Try.underlying64 rfl rfl (hS44.own_ro (i := 0) rfl) (wl_move rfl rfl (WL.nil (fun a ha => hK37 _ _ (W.block (W.loopk (fun m a w46 => ∃ (l49 : (List Int)) (y52 : Int) (v50 : Value) (F51 : List Nat), St 42 [(1, (.pointer (some ⟨b2, 0, none⟩))), (3, v50), (15, (.int .i64 (List.length x0.2.1 : Int))), (16, (.int .i64 y28)), (21, v39), (22, (.int .i64 (List.length u38 : Int))), (23, (.int .i64 y52))] a ∧ Below w0.heap.size w0 w46 ∧ Sep w0.heap.size w46 [R.blk b2 53 [v0_0, v0_1, (.int .i64 x0.2.2.1), (.int .i64 x0.2.2.2)], R.own ty_3 F51 v50 l49, R.own ty_70 F40 v39 u38] ∧ F_impl_waySums_L2 u38 nx29 y28 m l49 y52 = some r) FU ?_ ?_)) a ha)))
    ·
     exact fun a ha => ⟨l25, 0, v26, F27, ha.sub ⟨rfl, rfl, rfl, rfl, rfl, rfl, rfl, trivial⟩, hB43, (hS44.sel [1, 2, 0] rfl), hF⟩
    ·
     rintro m55 a w46 ⟨l49, y52, v50, F51, ha, hB47, hS48, hF⟩ KL54 hKL54
     refine W.at ?_ ha
     cases m55 with
     | zero => exact noneE hF
     | succ m55 =>
      obtain ⟨nx53, hnx53⟩ : ∃ k, k = F_impl_waySums_L2 u38 nx29 y28 m55 := ⟨_, rfl⟩
      rw [F_impl_waySums_L2, ← hnx53] at hF
      refine W.seq fun K56 hK56 => W.region (wl_lss rfl rfl rfl (WL.nil (fun a ha => hK56 _ _ (W.seq fun K57 hK57 => (W.cond rfl (fun h58 => ?_) (fun h58 => ?_))) a ha)))
      ·replace hF := ifP h58 hF
       refine W.skip fun a ha => hK57 _ _ (W.seq fun K59 hK59 => ?_) a ha
       obtain ⟨k66, hk66, hF⟩ := jE1 hF
       have hJ67 : ∀ (l63 : (List Int)) (v64 : Value) (F65 : List Nat) (w60 : World) (_ : k66 l63 = some r) (_ : Below w0.heap.size w0 w60) (_ : Sep w0.heap.size w60 [R.blk b2 53 [v0_0, v0_1, (.int .i64 x0.2.2.1), (.int .i64 x0.2.2.2)], R.own ty_3 F65 v64 l63, R.own ty_70 F40 v39 u38]), ∀ a, St 42 [(1, (.pointer (some ⟨b2, 0, none⟩))), (3, v64), (15, (.int .i64 (List.length x0.2.1 : Int))), (16, (.int .i64 y28)), (21, v39), (22, (.int .i64 (List.length u38 : Int))), (23, (.int .i64 y52))] a → K59 a w60 := by
        intro l63 v64 F65 w60 hF hB61 hS62
        subst hk66
        refine fun a ha => hK59 _ _ (W.region (wl_add rfl rfl rfl (wl_move rfl rfl (WL.nil ?_)))) a ha
        rw [hnx53] at hF
        exact fun a ha => hKL54 a _ m55 (Nat.lt_succ_self m55) ⟨l63, (w64 (y52 + 1)), v64, F65, ha.sub ⟨rfl, rfl, rfl, rfl, rfl, rfl, rfl, trivial⟩, hB61, (hS62.sel [0, 1, 2] rfl), hF⟩
       refine W.block (W.seq fun K68 hK68 => (W.region (wl_move rfl rfl ?_)))
       obtain ⟨u69, hu69, hF⟩ := bindE hF
       refine wl_indexo (e := ty_70) (i := 2) Try.underlying64 rfl rfl rfl hS48 rfl hu69 ?_
       rintro p70 _ rfl hp71 ho72
       refine wl_load_p (vs := [(.int .i64 u69.1.1), (.int .i64 u69.1.2), (.int .i64 u69.2.1.1), (.int .i64 u69.2.1.2), (.int .i64 u69.2.2)]) (v := (.agg #[(.int .i64 u69.1.1), (.int .i64 u69.1.2), (.int .i64 u69.2.1.1), (.int .i64 u69.2.1.2), (.int .i64 u69.2.2)])) tf_70 rfl rfl hp71 rfl rfl (wl_alloc (cs := [(.int .i64 0), (.int .i64 0), (.int .i64 0), (.int .i64 0), (.int .i64 0)]) tf_70 rfl rfl hB47 hS48 ?_)
       intro b73 w74 hb75 hB76 hS77
       refine wl_assign rfl rfl (wl_store_blk (i := 0) (vs := [(.int .i64 u69.1.1), (.int .i64 u69.1.2), (.int .i64 u69.2.1.1), (.int .i64 u69.2.1.2), (.int .i64 u69.2.2)]) (cs' := [(.int .i64 u69.1.1), (.int .i64 u69.1.2), (.int .i64 u69.2.1.1), (.int .i64 u69.2.1.2), (.int .i64 u69.2.2)]) tf_70 rfl rfl rfl rfl hB76 hS77 rfl rfl ⟨rfl, rfl, rfl, rfl, rfl, trivial⟩ rfl ?_)
       intro w78 hk81 hB79 hS80
       refine WL.nil fun a ha => hK68 _ _ (W.regionH mixed_ F51 hB79 hS80 ?_) a ha
       intro w82 hb83 hB84 hS85
       have hSW86 := KeepX.refl w82 F51
       refine WH.tk 0 rfl hP hSW86 (pr_move rfl rfl (WH.tk 1 rfl hP hSW86 (pr_move rfl rfl ?_)))
       obtain ⟨u87, hu87, hF⟩ := bindE hF
       refine WH.tk 2 rfl hP hSW86 (pr_indexo (e := ty_3) (i := 2) Try.underlying29 rfl rfl rfl hS85 rfl hu87 ?_)
       rintro p88 _ rfl hp89 ho90
       refine WH.tk 4 rfl hP hSW86 (pr_field (o := 0) (off' := 0) ff_70_0 rfl rfl rfl (WH.tk 5 rfl hP hSW86 (pr_load_blk (i := 0) (vs := [(.int .i64 u69.1.1), (.int .i64 u69.1.2)]) (v := (.agg #[(.int .i64 u69.1.1), (.int .i64 u69.1.2)])) tf_68 rfl rfl hS85 rfl rfl rfl (hS85.disj (i := 0) (j := 2) rfl rfl rfl b73 (by simp [R.blk])) (WH.tk 6 rfl hP hSW86 (pr_field (o := 2) (off' := 2) ff_70_1 rfl rfl rfl (WH.tk 7 rfl hP hSW86 (pr_load_blk (i := 0) (vs := [(.int .i64 u69.2.1.1), (.int .i64 u69.2.1.2)]) (v := (.agg #[(.int .i64 u69.2.1.1), (.int .i64 u69.2.1.2)])) tf_68 rfl rfl hS85 rfl rfl rfl (hS85.disj (i := 0) (j := 2) rfl rfl rfl b73 (by simp [R.blk])) (WH.many (is := [3, 8]) (by kernel_rfl) rfl (List.forall_mem_cons.2 ⟨⟨_, rfl, ?_⟩, List.forall_mem_cons.2 ⟨⟨_, rfl, ?_⟩, fun _ h => by cases h⟩⟩)))))))))
       ·
        refine wl_load_p (vs := [(.int .i64 u87)]) (v := (.int .i64 u87)) tf_3 rfl rfl hp89 rfl rfl (WL.nil (WH.ret hSW86 (WH.on1 8 rfl ?_)))
        obtain ⟨u91, hu91, hF⟩ := bindE hF
        refine wl_call rfl Try.call153 (C_impl_squareOf w82 u69.1 u69.2.1 _ hu91) rfl ?_
        rintro _ w92 ⟨rfl, hb93⟩
        refine ⟨_, rfl, ?_⟩
        have hB94 := hB84.trans (hb93.mono hB84.size)
        have hS95 := hS85.below hb93
        have hSW97 := hSW86.ext hb93
        refine WL.nil (WH.ret hSW97 (WH.tk 9 rfl hP hSW97 (pr_add rfl rfl rfl (WH.on1 10 rfl ?_))))
        obtain ⟨u99, hu99, hF⟩ := bindE hF
        refine wl_indexo (e := ty_3) (i := 2) Try.underlying29 rfl rfl rfl hS95 rfl hu99 ?_
        rintro p100 _ rfl hp101 ho102
        refine WL.nil (WH.ret hSW97 (WH.on1 11 rfl (wl_storeo (i := 2) (o := 0) (vs := [(.int .i64 (w64 (u87 + u91)))]) (u' := (w64 (u87 + u91))) fl_3 tf_3 rfl rfl rfl rfl ho102 hu99 hB94 hS95 rfl rfl ⟨rfl, trivial⟩ rfl ?_)))
        intro w103 hk106 hB104 hS105
        have hSW107 := hSW97.wr' hk106.1 hk106.2.1 (fun _ _ h => h)
        refine WL.nil (WH.ret hSW107 (WH.done (by kernel_rfl) ?_))
        exact fun a ha => hJ67 ((seti l49 y52 (w64 (u87 + u91)))) (v50) (F51) _ hF hB104 (hS105.sel [1, 2, 3] rfl) a (ha.sub ⟨rfl, rfl, rfl, rfl, rfl, rfl, rfl, trivial⟩)
       ·
        obtain ⟨u109, hu109, hF⟩ := bindE hF
        refine wl_call rfl Try.call153 (C_impl_squareOf w82 u69.1 u69.2.1 _ hu109) rfl ?_
        rintro _ w110 ⟨rfl, hb111⟩
        refine ⟨_, rfl, ?_⟩
        have hB112 := hB84.trans (hb111.mono hB84.size)
        have hS113 := hS85.below hb111
        have hSW115 := hSW86.ext hb111
        have hbS116 : Below w82.heap.size w82 w110 := hb111
        refine WL.nil (WH.ret hSW115 (WH.on1 3 rfl (wl_load_p (vs := [(.int .i64 u87)]) (v := (.int .i64 u87)) tf_3 rfl rfl (hp89.ro hbS116) rfl rfl (WL.nil (WH.ret hSW115 (WH.tk 9 rfl hP hSW115 (pr_add rfl rfl rfl (WH.on1 10 rfl ?_))))))))
        obtain ⟨u117, hu117, hF⟩ := bindE hF
        refine wl_indexo (e := ty_3) (i := 2) Try.underlying29 rfl rfl rfl hS113 rfl hu117 ?_
        rintro p118 _ rfl hp119 ho120
        refine WL.nil (WH.ret hSW115 (WH.on1 11 rfl (wl_storeo (i := 2) (o := 0) (vs := [(.int .i64 (w64 (u87 + u109)))]) (u' := (w64 (u87 + u109))) fl_3 tf_3 rfl rfl rfl rfl ho120 hu117 hB112 hS113 rfl rfl ⟨rfl, trivial⟩ rfl ?_)))
        intro w121 hk124 hB122 hS123
        have hSW125 := hSW115.wr' hk124.1 hk124.2.1 (fun _ _ h => h)
        refine WL.nil (WH.ret hSW125 (WH.done (by kernel_rfl) ?_))
        exact fun a ha => hJ67 ((seti l49 y52 (w64 (u87 + u109)))) (v50) (F51) _ hF hB122 (hS123.sel [1, 2, 3] rfl) a (ha.sub ⟨rfl, rfl, rfl, rfl, rfl, rfl, rfl, trivial⟩)
      ·replace hF := ifN h58 hF
       refine W.exit fun a ha => hK35 _ _ (W.region (wl_add rfl rfl rfl (wl_move rfl rfl (WL.nil ?_)))) a ha
       rw [hnx29] at hF
       exact fun a ha => hKL30 a _ m31 (Nat.lt_succ_self m31) ⟨l49, (w64 (y28 + 1)), v50, F51, ha.sub ⟨rfl, rfl, rfl, rfl, trivial⟩, hB47, (hS48.sel [0, 1] rfl), hF⟩
   ·replace hF := ifN h34 hF
    refine W.exit fun a ha => hK20 _ _ (W.seq fun K127 hK127 => (W.region (wl_move rfl rfl (wl_assign rfl rfl (WL.nil (fun a ha => hK127 _ _ (W.ret ?_) a ha)))))) a ha
    have hr := Option.some.inj hF
    subst hr
    exact rets (vs := [v26]) hQ rfl ⟨rv_tmp rfl, trivial⟩ ⟨v26, F27, rfl, hB23, hS24.sel [1] rfl⟩
theorem C_spec_cpSquares (w0 : World) (x0 : ((List (List (Int × Int))) × (List Int) × Int × Int)) (v0_0 : Value) (h0_0 : rdS ty_63 (· < w0.heap.size) w0 v0_0 x0.1) (v0_1 : Value) (h0_1 : rdS ty_3 (· < w0.heap.size) w0 v0_1 x0.2.1) (x1 : Int) (r : (List Int)) (hF : F_spec_cpSquares x0 x1 = some r) :
  Calls Try.prog 155 [(.agg #[v0_0, v0_1, (.int .i64 x0.2.2.1), (.int .i64 x0.2.2.2)]), (.int .i64 x1)].toArray w0 fun e w' => ∃ (q0 : Value) (G0 : List Nat), e = .returned q0 ∧ Below w0.heap.size w0 w' ∧ Sep w0.heap.size w' [R.own ty_3 G0 q0 r] := by
 refine calls_mk' Try.func155 rfl Try.ntmps155 rfl rfl fun Q hQ hP => ?_
 have hB : Below w0.heap.size w0 w0 := Below.refl _ _
 have hS : Sep w0.heap.size w0 [] := Sep.nil _ _
 unfold F_spec_cpSquares at hF
 refine W.seq fun K1 hK1 => W.region (wl_box (cs := [v0_0, v0_1, (.int .i64 x0.2.2.1), (.int .i64 x0.2.2.2)]) rfl rfl rfl hB hS ?_)
 intro b2 w3 hb4 hB5 hS6
 refine wl_assign rfl rfl (WL.nil (fun a ha => hK1 _ _ (W.seq fun K7 hK7 => (W.region (wl_assign rfl rfl (WL.nil (fun a ha => hK7 _ _ (W.seq fun K8 hK8 => (W.seq fun K9 hK9 => (W.region (wl_load_blk (i := 0) (vs := [v0_0, v0_1, (.int .i64 x0.2.2.1), (.int .i64 x0.2.2.2)]) (v := (.agg #[v0_0, v0_1, (.int .i64 x0.2.2.1), (.int .i64 x0.2.2.2)])) tf_53 rfl rfl hS6 rfl rfl rfl (wl_move rfl rfl ?_))))) a ha))))) a ha))
 obtain ⟨u10, hu10, hF⟩ := bindE hF
 refine wl_call rfl Try.call160 (C_spec_swMoves w3 x0 v0_0 (h0_0.ro hB5) v0_1 (h0_1.ro hB5) x1 _ hu10) rfl ?_
 rintro _ w13 ⟨v11, F12, rfl, hb14, hM17⟩
 refine ⟨_, rfl, ?_⟩
 have hB15 := hB5.trans (hb14.mono hB5.size)
 have hS16 := hS6.join hb14 hM17 hB5.size
 refine wl_lenr (e := ty_70) (l := u10) Try.underlying64 rfl rfl (hS16.own_ro (i := 0) rfl) (wl_move rfl rfl (WL.nil (fun a ha => hK9 _ _ (W.block (W.loopk (fun m a w18 => ∃ (l21 : (List Int)) (y24 : Int) (v22 : Value) (F23 : List Nat), St 26 [(5, v22), (10, v11), (11, (.int .i64 (List.length u10 : Int))), (12, (.int .i64 y24))] a ∧ Below w0.heap.size w0 w18 ∧ Sep w0.heap.size w18 [R.own ty_3 F23 v22 l21, R.own ty_70 F12 v11 u10] ∧ F_spec_cpSquares_L1 u10 m l21 y24 = some r) FU ?_ ?_)) a ha)))
 ·
  have hS26 := hS16.push0 (r := R.own ty_3 [] (.slice none 0 0) []) rfl fun _ => .inl ⟨rfl, rfl, rfl⟩
  exact fun a ha => ⟨[], 0, (.slice none 0 0), [], ha.sub ⟨rfl, rfl, rfl, rfl, trivial⟩, hB15, (hS26.sel [0, 1] rfl), hF⟩
 ·
  rintro m28 a w18 ⟨l21, y24, v22, F23, ha, hB19, hS20, hF⟩ KL27 hKL27
  refine W.at ?_ ha
  cases m28 with
  | zero => exact noneE hF
  | succ m28 =>
   obtain ⟨nx25, hnx25⟩ : ∃ k, k = F_spec_cpSquares_L1 u10 m28 := ⟨_, rfl⟩
   rw [F_spec_cpSquares_L1, ← hnx25] at hF
   refine W.seq fun K29 hK29 => W.region (wl_lss rfl rfl rfl (WL.nil (fun a ha => hK29 _ _ (W.seq fun K30 hK30 => (W.cond rfl (fun h31 => ?_) (fun h31 => ?_))) a ha)))
   ·replace hF := ifP h31 hF
    refine W.skip fun a ha => hK30 _ _ (W.seq fun K32 hK32 => (W.block (W.seq fun K33 hK33 => (W.region ?_)))) a ha
    obtain ⟨u34, hu34, hF⟩ := bindE hF
    refine wl_indexo (e := ty_70) (i := 1) Try.underlying64 rfl rfl rfl hS20 rfl hu34 ?_
    rintro p35 _ rfl hp36 ho37
    refine wl_load_p (vs := [(.int .i64 u34.1.1), (.int .i64 u34.1.2), (.int .i64 u34.2.1.1), (.int .i64 u34.2.1.2), (.int .i64 u34.2.2)]) (v := (.agg #[(.int .i64 u34.1.1), (.int .i64 u34.1.2), (.int .i64 u34.2.1.1), (.int .i64 u34.2.1.2), (.int .i64 u34.2.2)])) tf_70 rfl rfl hp36 rfl rfl (wl_alloc (cs := [(.int .i64 0), (.int .i64 0), (.int .i64 0), (.int .i64 0), (.int .i64 0)]) tf_70 rfl rfl hB19 hS20 ?_)
    intro b38 w39 hb40 hB41 hS42
    refine wl_store_blk (i := 0) (vs := [(.int .i64 u34.1.1), (.int .i64 u34.1.2), (.int .i64 u34.2.1.1), (.int .i64 u34.2.1.2), (.int .i64 u34.2.2)]) (cs' := [(.int .i64 u34.1.1), (.int .i64 u34.1.2), (.int .i64 u34.2.1.1), (.int .i64 u34.2.1.2), (.int .i64 u34.2.2)]) tf_70 rfl rfl rfl rfl hB41 hS42 rfl rfl ⟨rfl, rfl, rfl, rfl, rfl, trivial⟩ rfl ?_
    intro w43 hk46 hB44 hS45
    refine WL.nil fun a ha => hK33 _ _ (W.region (wl_move rfl rfl (wl_field (o := 0) (off' := 0) ff_70_0 rfl rfl rfl (wl_load_blk (i := 0) (vs := [(.int .i64 u34.1.1), (.int .i64 u34.1.2)]) (v := (.agg #[(.int .i64 u34.1.1), (.int .i64 u34.1.2)])) tf_68 rfl rfl hS45 rfl rfl rfl (wl_field (o := 2) (off' := 2) ff_70_1 rfl rfl rfl (wl_load_blk (i := 0) (vs := [(.int .i64 u34.2.1.1), (.int .i64 u34.2.1.2)]) (v := (.agg #[(.int .i64 u34.2.1.1), (.int .i64 u34.2.1.2)])) tf_68 rfl rfl hS45 rfl rfl rfl ?_)))))) a ha
    obtain ⟨u47, hu47, hF⟩ := bindE hF
    refine wl_call rfl Try.call197 (C_spec_stSquare w43 u34.1 u34.2.1 _ hu47) rfl ?_
    rintro _ w48 ⟨rfl, hb49⟩
    refine ⟨_, rfl, ?_⟩
    have hB50 := hB44.trans (hb49.mono hB44.size)
    have hS51 := hS45.below hb49
    refine wl_lit (vs := [(.int .i64 u47)]) (l := [u47]) fl_3 Try.underlying29 rfl rfl rfl rfl rfl rfl hB50 hS51 ?_
    intro v53 F54 w55 hb56 hB57 hS58
    obtain ⟨u59, hu59, hF⟩ := bindE hF
    refine wl_append (i := 2) (S := (· < w55.heap.size)) fl_3 Try.underlying29 rfl rfl rfl hB57 hS58 rfl (hS58.own_ro (i := 0) rfl) hu59 ?_
    intro v60 F61 w62 hk63 hB64 hS65
    refine wl_assign rfl rfl (WL.nil (fun a ha => hK32 _ _ (W.region (wl_add rfl rfl rfl (wl_move rfl rfl (WL.nil ?_)))) a ha))
    rw [hnx25] at hF
    exact fun a ha => hKL27 a _ m28 (Nat.lt_succ_self m28) ⟨u59, (w64 (y24 + 1)), v60, F61, ha.sub ⟨rfl, rfl, rfl, rfl, trivial⟩, hB64, (hS65.sel [2, 3] rfl), hF⟩
   ·replace hF := ifN h31 hF
    refine W.exit fun a ha => hK8 _ _ (W.seq fun K66 hK66 => (W.region (wl_move rfl rfl (wl_assign rfl rfl (WL.nil (fun a ha => hK66 _ _ (W.ret ?_) a ha)))))) a ha
    have hr := Option.some.inj hF
    subst hr
    exact rets (vs := [v22]) hQ rfl ⟨rv_tmp rfl, trivial⟩ ⟨v22, F23, rfl, hB19, hS20.sel [0] rfl⟩
theorem C_spec_cpWays (w0 : World) (x0 : ((List (List (Int × Int))) × (List Int) × Int × Int)) (v0_0 : Value) (h0_0 : rdS ty_63 (· < w0.heap.size) w0 v0_0 x0.1) (v0_1 : Value) (h0_1 : rdS ty_3 (· < w0.heap.size) w0 v0_1 x0.2.1) (r : (List Int)) (hF : F_spec_cpWays x0 = some r) :
  Calls Try.prog 151 [(.agg #[v0_0, v0_1, (.int .i64 x0.2.2.1), (.int .i64 x0.2.2.2)])].toArray w0 fun e w' => ∃ (q0 : Value) (G0 : List Nat), e = .returned q0 ∧ Below w0.heap.size w0 w' ∧ Sep w0.heap.size w' [R.own ty_3 G0 q0 r] := by
 refine calls_mk' Try.func151 rfl Try.ntmps151 rfl rfl fun Q hQ hP => ?_
 have hB : Below w0.heap.size w0 w0 := Below.refl _ _
 have hS : Sep w0.heap.size w0 [] := Sep.nil _ _
 unfold F_spec_cpWays at hF
 refine W.seq fun K1 hK1 => W.region (wl_box (cs := [v0_0, v0_1, (.int .i64 x0.2.2.1), (.int .i64 x0.2.2.2)]) rfl rfl rfl hB hS ?_)
 intro b2 w3 hb4 hB5 hS6
 refine wl_assign rfl rfl (WL.nil (fun a ha => hK1 _ _ (W.seq fun K7 hK7 => (W.region (wl_field (o := 0) (off' := 0) ff_53_0 rfl rfl rfl (wl_load_blk (i := 0) (vs := [v0_0]) (v := v0_0) tf_51 rfl rfl hS6 rfl rfl rfl ?_)))) a ha))
 obtain ⟨u8, hu8, hF⟩ := bindE hF
 refine wl_index (e := ty_63) Try.underlying51 rfl rfl rfl h0_0 hu8 ?_
 rintro p9 _ ⟨v11, rfl, hv12⟩ hp10
 refine wl_load_p (vs := [v11]) (v := v11) tf_63 rfl rfl (hp10.ro hB5) rfl rfl (wl_lenr (e := ty_68) (l := u8) Try.underlying63 rfl rfl hv12 ?_)
 obtain ⟨u13, hu13, hF⟩ := bindE hF
 refine wl_make (e := ty_3) Try.underlying29 rfl rfl hu13 hB5 hS6 ?_
 intro v14 F15 w16 hb17 hB18 hS19
 refine wl_assign rfl rfl (WL.nil (fun a ha => hK7 _ _ (W.seq fun K20 hK20 => (W.seq fun K21 hK21 => (W.region (wl_field (o := 1) (off' := 1) ff_53_1 rfl rfl rfl (wl_load_blk (i := 1) (vs := [v0_1]) (v := v0_1) tf_29 rfl rfl hS19 rfl rfl rfl (wl_lenr (e := ty_3) (l := x0.2.1) Try.underlying29 rfl rfl h0_1 (wl_move rfl rfl (WL.nil (fun a ha => hK21 _ _ (W.block (W.loopk (fun m a w22 => ∃ (l25 : (List Int)) (y28 : Int) (v26 : Value) (F27 : List Nat), St 38 [(1, (.pointer (some ⟨b2, 0, none⟩))), (3, v26), (15, (.int .i64 (List.length x0.2.1 : Int))), (16, (.int .i64 y28))] a ∧ Below w0.heap.size w0 w22 ∧ Sep w0.heap.size w22 [R.blk b2 53 [v0_0, v0_1, (.int .i64 x0.2.2.1), (.int .i64 x0.2.2.2)], R.own ty_3 F27 v26 l25] ∧ F_spec_cpWays_L1 x0 m l25 y28 = some r) FU ?_ ?_)) a ha))))))))) a ha))
 ·
  exact fun a ha => ⟨u13, 0, v14, F15, ha.sub ⟨rfl, rfl, rfl, rfl, trivial⟩, hB18, (hS19.sel [1, 0] rfl), hF⟩
 ·
  rintro m31 a w22 ⟨l25, y28, v26, F27, ha, hB23, hS24, hF⟩ KL30 hKL30
  refine W.at ?_ ha
  cases m31 with
  | zero => exact noneE hF
  | succ m31 =>
   obtain ⟨nx29, hnx29⟩ : ∃ k, k = F_spec_cpWays_L1 x0 m31 := ⟨_, rfl⟩
   rw [F_spec_cpWays_L1, ← hnx29] at hF
   refine W.seq fun K32 hK32 => W.region (wl_lss rfl rfl rfl (WL.nil (fun a ha => hK32 _ _ (W.seq fun K33 hK33 => (W.cond rfl (fun h34 => ?_) (fun h34 => ?_))) a ha)))
   ·replace hF := ifP h34 hF
    refine W.skip fun a ha => hK33 _ _ (W.seq fun K35 hK35 => (W.block (W.seq fun K36 hK36 => (W.region (wl_move rfl rfl (wl_assign rfl rfl (WL.nil (fun a ha => hK36 _ _ (W.seq fun K37 hK37 => (W.region (wl_load_blk (i := 0) (vs := [v0_0, v0_1, (.int .i64 x0.2.2.1), (.int .i64 x0.2.2.2)]) (v := (.agg #[v0_0, v0_1, (.int .i64 x0.2.2.1), (.int .i64 x0.2.2.2)])) tf_53 rfl rfl hS24 rfl rfl rfl (wl_move rfl rfl ?_)))) a ha)))))))) a ha
    obtain ⟨u38, hu38, hF⟩ := bindE hF
    refine wl_call rfl Try.call155 (C_spec_cpSquares w22 x0 v0_0 (h0_0.ro hB23) v0_1 (h0_1.ro hB23) y28 _ hu38) rfl ?_
    rintro _ w41 ⟨v39, F40, rfl, hb42, hM45⟩
    refine ⟨_, rfl, ?_⟩
    have hB43 := hB23.trans (hb42.mono hB23.size)
    have hS44 := hS24.join hb42 hM45 hB23.size
    refine wl_lenr (e := ty_3) (l := u38) Try.underlying29 rfl rfl (hS44.own_ro (i := 0) rfl) (wl_move rfl rfl (WL.nil (fun a ha => hK37 _ _ (W.block (W.loopk (fun m a w46 => ∃ (l49 : (List Int)) (y52 : Int) (v50 : Value) (F51 : List Nat), St 38 [(1, (.pointer (some ⟨b2, 0, none⟩))), (3, v50), (15, (.int .i64 (List.length x0.2.1 : Int))), (16, (.int .i64 y28)), (21, v39), (22, (.int .i64 (List.length u38 : Int))), (23, (.int .i64 y52))] a ∧ Below w0.heap.size w0 w46 ∧ Sep w0.heap.size w46 [R.blk b2 53 [v0_0, v0_1, (.int .i64 x0.2.2.1), (.int .i64 x0.2.2.2)], R.own ty_3 F51 v50 l49, R.own ty_3 F40 v39 u38] ∧ F_spec_cpWays_L2 u38 nx29 y28 m l49 y52 = some r) FU ?_ ?_)) a ha)))
    ·
     exact fun a ha => ⟨l25, 0, v26, F27, ha.sub ⟨rfl, rfl, rfl, rfl, rfl, rfl, rfl, trivial⟩, hB43, (hS44.sel [1, 2, 0] rfl), hF⟩
    ·
     rintro m55 a w46 ⟨l49, y52, v50, F51, ha, hB47, hS48, hF⟩ KL54 hKL54
     refine W.at ?_ ha
     cases m55 with
     | zero => exact noneE hF
     | succ m55 =>
      obtain ⟨nx53, hnx53⟩ : ∃ k, k = F_spec_cpWays_L2 u38 nx29 y28 m55 := ⟨_, rfl⟩
      rw [F_spec_cpWays_L2, ← hnx53] at hF
      refine W.seq fun K56 hK56 => W.region (wl_lss rfl rfl rfl (WL.nil (fun a ha => hK56 _ _ (W.seq fun K57 hK57 => (W.cond rfl (fun h58 => ?_) (fun h58 => ?_))) a ha)))
      ·replace hF := ifP h58 hF
       refine W.skip fun a ha => hK57 _ _ (W.seq fun K59 hK59 => (W.block (W.seq fun K60 hK60 => (W.region (wl_move rfl rfl ?_))))) a ha
       obtain ⟨u61, hu61, hF⟩ := bindE hF
       refine wl_indexo (e := ty_3) (i := 2) Try.underlying29 rfl rfl rfl hS48 rfl hu61 ?_
       rintro p62 _ rfl hp63 ho64
       refine wl_load_p (vs := [(.int .i64 u61)]) (v := (.int .i64 u61)) tf_3 rfl rfl hp63 rfl rfl (wl_assign rfl rfl (wl_assign rfl rfl (WL.nil (fun a ha => hK60 _ _ (W.region (wl_move rfl rfl (wl_move rfl rfl ?_))) a ha))))
       obtain ⟨u65, hu65, hF⟩ := bindE hF
       refine wl_indexo (e := ty_3) (i := 1) Try.underlying29 rfl rfl rfl hS48 rfl hu65 ?_
       rintro p66 _ rfl hp67 ho68
       refine wl_load_p (vs := [(.int .i64 u65)]) (v := (.int .i64 u65)) tf_3 rfl rfl hp67 rfl rfl (wl_move rfl rfl (wl_add rfl rfl rfl ?_))
       obtain ⟨u69, hu69, hF⟩ := bindE hF
       refine wl_indexo (e := ty_3) (i := 1) Try.underlying29 rfl rfl rfl hS48 rfl hu69 ?_
       rintro p70 _ rfl hp71 ho72
       refine wl_storeo (i := 1) (o := 0) (vs := [(.int .i64 (w64 (u65 + u61)))]) (u' := (w64 (u65 + u61))) fl_3 tf_3 rfl rfl rfl rfl ho72 hu69 hB47 hS48 rfl rfl ⟨rfl, trivial⟩ rfl ?_
       intro w73 hk76 hB74 hS75
       refine WL.nil fun a ha => hK59 _ _ (W.region (wl_add rfl rfl rfl (wl_move rfl rfl (WL.nil ?_)))) a ha
       rw [hnx53] at hF
       exact fun a ha => hKL54 a _ m55 (Nat.lt_succ_self m55) ⟨(seti l49 y52 (w64 (u65 + u61))), (w64 (y52 + 1)), v50, F51, ha.sub ⟨rfl, rfl, rfl, rfl, rfl, rfl, rfl, trivial⟩, hB74, (hS75.sel [0, 1, 2] rfl), hF⟩
      ·replace hF := ifN h58 hF
       refine W.exit fun a ha => hK35 _ _ (W.region (wl_add rfl rfl rfl (wl_move rfl rfl (WL.nil ?_)))) a ha
       rw [hnx29] at hF
       exact fun a ha => hKL30 a _ m31 (Nat.lt_succ_self m31) ⟨l49, (w64 (y28 + 1)), v50, F51, ha.sub ⟨rfl, rfl, rfl, rfl, trivial⟩, hB47, (hS48.sel [0, 1] rfl), hF⟩
   ·replace hF := ifN h34 hF
    refine W.exit fun a ha => hK20 _ _ (W.seq fun K77 hK77 => (W.region (wl_move rfl rfl (wl_assign rfl rfl (WL.nil (fun a ha => hK77 _ _ (W.ret ?_) a ha)))))) a ha
    have hr := Option.some.inj hF
    subst hr
    exact rets (vs := [v26]) hQ rfl ⟨rv_tmp rfl, trivial⟩ ⟨v26, F27, rfl, hB23, hS24.sel [1] rfl⟩
theorem C_spec_cpSum (w0 : World) (x0 : (List Int)) (v0_0 : Value) (h0_0 : rdS ty_3 (· < w0.heap.size) w0 v0_0 x0) (r : Int) (hF : F_spec_cpSum x0 = some r) :
  Calls Try.prog 154 [v0_0].toArray w0 fun e w' => e = .returned (.int .i64 r) ∧ Below w0.heap.size w0 w' := by
 refine calls_mk' Try.func154 rfl Try.ntmps154 rfl rfl fun Q hQ hP => ?_
 have hB : Below w0.heap.size w0 w0 := Below.refl _ _
 have hS : Sep w0.heap.size w0 [] := Sep.nil _ _
 unfold F_spec_cpSum at hF
 refine W.seq fun K1 hK1 => W.region (wl_assign rfl rfl (WL.nil (fun a ha => hK1 _ _ (W.seq fun K2 hK2 => (W.region (wl_assign rfl rfl (WL.nil (fun a ha => hK2 _ _ (W.seq fun K3 hK3 => (W.seq fun K4 hK4 => (W.region (wl_move rfl rfl ?_)))) a ha))))) a ha)))
 refine wl_lenr (e := ty_3) (l := x0) Try.underlying29 rfl rfl h0_0 (wl_move rfl rfl (WL.nil (fun a ha => hK4 _ _ (W.block (W.loopk (fun m a w5 => ∃ (y8 : Int) (y9 : Int), St 17 [(3, (.int .i64 y8)), (6, v0_0), (7, (.int .i64 (List.length x0 : Int))), (8, (.int .i64 y9))] a ∧ Below w0.heap.size w0 w5 ∧ Sep w0.heap.size w5 [] ∧ F_spec_cpSum_L1 x0 m y8 y9 = some r) FU ?_ ?_)) a ha)))
 ·
  exact fun a ha => ⟨0, 0, ha.sub ⟨rfl, rfl, rfl, rfl, trivial⟩, hB, (hS.sel [] rfl), hF⟩
 ·
  rintro m12 a w5 ⟨y8, y9, ha, hB6, hS7, hF⟩ KL11 hKL11
  refine W.at ?_ ha
  cases m12 with
  | zero => exact noneE hF
  | succ m12 =>
   obtain ⟨nx10, hnx10⟩ : ∃ k, k = F_spec_cpSum_L1 x0 m12 := ⟨_, rfl⟩
   rw [F_spec_cpSum_L1, ← hnx10] at hF
   refine W.seq fun K13 hK13 => W.region (wl_lss rfl rfl rfl (WL.nil (fun a ha => hK13 _ _ (W.seq fun K14 hK14 => (W.cond rfl (fun h15 => ?_) (fun h15 => ?_))) a ha)))
   ·replace hF := ifP h15 hF
    refine W.skip fun a ha => hK14 _ _ (W.seq fun K16 hK16 => (W.block (W.seq fun K17 hK17 => (W.region ?_)))) a ha
    obtain ⟨u18, hu18, hF⟩ := bindE hF
    refine wl_index (e := ty_3) Try.underlying29 rfl rfl rfl h0_0 hu18 ?_
    rintro p19 _ rfl hp20
    refine wl_load_p (vs := [(.int .i64 u18)]) (v := (.int .i64 u18)) tf_3 rfl rfl (hp20.ro hB6) rfl rfl (wl_assign rfl rfl (WL.nil (fun a ha => hK17 _ _ (W.region (wl_move rfl rfl (wl_move rfl rfl (wl_add rfl rfl rfl (wl_assign rfl rfl (WL.nil (fun a ha => hK16 _ _ (W.region (wl_add rfl rfl rfl (wl_move rfl rfl ?_))) a ha))))))) a ha)))
    refine WL.nil ?_
    rw [hnx10] at hF
    exact fun a ha => hKL11 a _ m12 (Nat.lt_succ_self m12) ⟨(w64 (y8 + u18)), (w64 (y9 + 1)), ha.sub ⟨rfl, rfl, rfl, rfl, trivial⟩, hB6, (hS7.sel [] rfl), hF⟩
   ·replace hF := ifN h15 hF
    refine W.exit fun a ha => hK3 _ _ (W.seq fun K21 hK21 => (W.region (wl_move rfl rfl (wl_assign rfl rfl (WL.nil (fun a ha => hK21 _ _ (W.ret ?_) a ha)))))) a ha
    have hr := Option.some.inj hF
    subst hr
    exact rets (vs := [(.int .i64 y8)]) hQ rfl ⟨rv_tmp rfl, trivial⟩ ⟨rfl, hB6⟩
theorem C_spec_swTotal (w0 : World) (x0 : ((List (List (Int × Int))) × (List Int) × Int × Int)) (v0_0 : Value) (h0_0 : rdS ty_63 (· < w0.heap.size) w0 v0_0 x0.1) (v0_1 : Value) (h0_1 : rdS ty_3 (· < w0.heap.size) w0 v0_1 x0.2.1) (r : Int) (hF : F_spec_swTotal x0 = some r) :
  Calls Try.prog 188 [(.agg #[v0_0, v0_1, (.int .i64 x0.2.2.1), (.int .i64 x0.2.2.2)])].toArray w0 fun e w' => e = .returned (.int .i64 r) ∧ Below w0.heap.size w0 w' := by
 refine calls_mk' Try.func188 rfl Try.ntmps188 rfl rfl fun Q hQ hP => ?_
 have hB : Below w0.heap.size w0 w0 := Below.refl _ _
 have hS : Sep w0.heap.size w0 [] := Sep.nil _ _
 unfold F_spec_swTotal at hF
 refine W.seq fun K1 hK1 => W.region (wl_box (cs := [v0_0, v0_1, (.int .i64 x0.2.2.1), (.int .i64 x0.2.2.2)]) rfl rfl rfl hB hS ?_)
 intro b2 w3 hb4 hB5 hS6
 refine wl_assign rfl rfl (WL.nil (fun a ha => hK1 _ _ (W.seq fun K7 hK7 => (W.region (wl_assign rfl rfl (WL.nil (fun a ha => hK7 _ _ (W.seq fun K8 hK8 => (W.seq fun K9 hK9 => (W.region (wl_field (o := 1) (off' := 1) ff_53_1 rfl rfl rfl (wl_load_blk (i := 0) (vs := [v0_1]) (v := v0_1) tf_29 rfl rfl hS6 rfl rfl rfl (wl_lenr (e := ty_3) (l := x0.2.1) Try.underlying29 rfl rfl h0_1 ?_)))))) a ha))))) a ha))
 refine wl_move rfl rfl (WL.nil (fun a ha => hK9 _ _ (W.block (W.loopk (fun m a w10 => ∃ (y13 : Int) (y14 : Int), St 18 [(3, (.int .i64 y13)), (7, v0_1), (8, (.int .i64 (List.length x0.2.1 : Int))), (9, (.int .i64 y14))] a ∧ Below w0.heap.size w0 w10 ∧ Sep w0.heap.size w10 [] ∧ F_spec_swTotal_L1 x0 m y13 y14 = some r) FU ?_ ?_)) a ha))
 ·
  exact fun a ha => ⟨0, 0, ha.sub ⟨rfl, rfl, rfl, rfl, trivial⟩, hB5, (hS6.sel [] rfl), hF⟩
 ·
  rintro m17 a w10 ⟨y13, y14, ha, hB11, hS12, hF⟩ KL16 hKL16
  refine W.at ?_ ha
  cases m17 with
  | zero => exact noneE hF
  | succ m17 =>
   obtain ⟨nx15, hnx15⟩ : ∃ k, k = F_spec_swTotal_L1 x0 m17 := ⟨_, rfl⟩
   rw [F_spec_swTotal_L1, ← hnx15] at hF
   refine W.seq fun K18 hK18 => W.region (wl_lss rfl rfl rfl (WL.nil (fun a ha => hK18 _ _ (W.seq fun K19 hK19 => (W.cond rfl (fun h20 => ?_) (fun h20 => ?_))) a ha)))
   ·replace hF := ifP h20 hF
    refine W.skip fun a ha => hK19 _ _ (W.seq fun K21 hK21 => (W.block (W.seq fun K22 hK22 => (W.region ?_)))) a ha
    obtain ⟨u23, hu23, hF⟩ := bindE hF
    refine wl_index (e := ty_3) Try.underlying29 rfl rfl rfl h0_1 hu23 ?_
    rintro p24 _ rfl hp25
    refine wl_load_p (vs := [(.int .i64 u23)]) (v := (.int .i64 u23)) tf_3 rfl rfl (hp25.ro hB11) rfl rfl (wl_assign rfl rfl (WL.nil (fun a ha => hK22 _ _ (W.region (wl_move rfl rfl (wl_move rfl rfl (wl_add rfl rfl rfl (wl_assign rfl rfl (WL.nil (fun a ha => hK21 _ _ (W.region (wl_add rfl rfl rfl (wl_move rfl rfl ?_))) a ha))))))) a ha)))
    refine WL.nil ?_
    rw [hnx15] at hF
    exact fun a ha => hKL16 a _ m17 (Nat.lt_succ_self m17) ⟨(w64 (y13 + u23)), (w64 (y14 + 1)), ha.sub ⟨rfl, rfl, rfl, rfl, trivial⟩, hB11, (hS12.sel [] rfl), hF⟩
   ·replace hF := ifN h20 hF
    refine W.exit fun a ha => hK8 _ _ (W.seq fun K26 hK26 => (W.region (wl_move rfl rfl (wl_assign rfl rfl (WL.nil (fun a ha => hK26 _ _ (W.ret ?_) a ha)))))) a ha
    have hr := Option.some.inj hF
    subst hr
    exact rets (vs := [(.int .i64 y13)]) hQ rfl ⟨rv_tmp rfl, trivial⟩ ⟨rfl, hB11⟩
theorem C_impl_totalCounts (w0 : World) (x0 : ((List (List (Int × Int))) × (List Int) × Int × Int)) (v0_0 : Value) (h0_0 : rdS ty_63 (· < w0.heap.size) w0 v0_0 x0.1) (v0_1 : Value) (h0_1 : rdS ty_3 (· < w0.heap.size) w0 v0_1 x0.2.1) (r : Int) (hF : F_impl_totalCounts x0 = some r) :
  Calls Try.prog 177 [(.agg #[v0_0, v0_1, (.int .i64 x0.2.2.1), (.int .i64 x0.2.2.2)])].toArray w0 fun e w' => e = .returned (.int .i64 r) ∧ Below w0.heap.size w0 w' := by
 refine calls_mk' Try.func177 rfl Try.ntmps177 rfl rfl fun Q hQ hP => ?_
 have hB : Below w0.heap.size w0 w0 := Below.refl _ _
 have hS : Sep w0.heap.size w0 [] := Sep.nil _ _
 unfold F_impl_totalCounts at hF
 refine W.seq fun K1 hK1 => W.region (wl_box (cs := [v0_0, v0_1, (.int .i64 x0.2.2.1), (.int .i64 x0.2.2.2)]) rfl rfl rfl hB hS ?_)
 intro b2 w3 hb4 hB5 hS6
 refine wl_assign rfl rfl (WL.nil (fun a ha => hK1 _ _ (W.seq fun K7 hK7 => (W.region (wl_assign rfl rfl (WL.nil (fun a ha => hK7 _ _ (W.seq fun K8 hK8 => (W.seq fun K9 hK9 => (W.region (wl_field (o := 1) (off' := 1) ff_53_1 rfl rfl rfl (wl_load_blk (i := 0) (vs := [v0_1]) (v := v0_1) tf_29 rfl rfl hS6 rfl rfl rfl (wl_lenr (e := ty_3) (l := x0.2.1) Try.underlying29 rfl rfl h0_1 ?_)))))) a ha))))) a ha))
 refine wl_move rfl rfl (WL.nil (fun a ha => hK9 _ _ (W.block (W.loopk (fun m a w10 => ∃ (y13 : Int) (y14 : Int), St 18 [(3, (.int .i64 y13)), (7, v0_1), (8, (.int .i64 (List.length x0.2.1 : Int))), (9, (.int .i64 y14))] a ∧ Below w0.heap.size w0 w10 ∧ Sep w0.heap.size w10 [] ∧ F_impl_totalCounts_L1 x0 m y13 y14 = some r) FU ?_ ?_)) a ha))
 ·
  exact fun a ha => ⟨0, 0, ha.sub ⟨rfl, rfl, rfl, rfl, trivial⟩, hB5, (hS6.sel [] rfl), hF⟩
 ·
  rintro m17 a w10 ⟨y13, y14, ha, hB11, hS12, hF⟩ KL16 hKL16
  refine W.at ?_ ha
  cases m17 with
  | zero => exact noneE hF
  | succ m17 =>
   obtain ⟨nx15, hnx15⟩ : ∃ k, k = F_impl_totalCounts_L1 x0 m17 := ⟨_, rfl⟩
   rw [F_impl_totalCounts_L1, ← hnx15] at hF
   refine W.seq fun K18 hK18 => W.region (wl_lss rfl rfl rfl (WL.nil (fun a ha => hK18 _ _ (W.seq fun K19 hK19 => (W.cond rfl (fun h20 => ?_) (fun h20 => ?_))) a ha)))
   ·replace hF := ifP h20 hF
    refine W.skip fun a ha => hK19 _ _ (W.seq fun K21 hK21 => (W.block (W.seq fun K22 hK22 => (W.region ?_)))) a ha
    obtain ⟨u23, hu23, hF⟩ := bindE hF
    refine wl_index (e := ty_3) Try.underlying29 rfl rfl rfl h0_1 hu23 ?_
    rintro p24 _ rfl hp25
    refine wl_load_p (vs := [(.int .i64 u23)]) (v := (.int .i64 u23)) tf_3 rfl rfl (hp25.ro hB11) rfl rfl (wl_assign rfl rfl (WL.nil (fun a ha => hK22 _ _ (W.region (wl_move rfl rfl (wl_move rfl rfl (wl_add rfl rfl rfl (wl_assign rfl rfl (WL.nil (fun a ha => hK21 _ _ (W.region (wl_add rfl rfl rfl (wl_move rfl rfl ?_))) a ha))))))) a ha)))
    refine WL.nil ?_
    rw [hnx15] at hF
    exact fun a ha => hKL16 a _ m17 (Nat.lt_succ_self m17) ⟨(w64 (y13 + u23)), (w64 (y14 + 1)), ha.sub ⟨rfl, rfl, rfl, rfl, trivial⟩, hB11, (hS12.sel [] rfl), hF⟩
   ·replace hF := ifN h20 hF
    refine W.exit fun a ha => hK8 _ _ (W.seq fun K26 hK26 => (W.region (wl_move rfl rfl (wl_assign rfl rfl (WL.nil (fun a ha => hK26 _ _ (W.ret ?_) a ha)))))) a ha
    have hr := Option.some.inj hF
    subst hr
    exact rets (vs := [(.int .i64 y13)]) hQ rfl ⟨rv_tmp rfl, trivial⟩ ⟨rfl, hB11⟩
theorem C_spec_swHas (w0 : World) (x0 : ((List (List (Int × Int))) × (List Int) × Int × Int)) (v0_0 : Value) (h0_0 : rdS ty_63 (· < w0.heap.size) w0 v0_0 x0.1) (v0_1 : Value) (h0_1 : rdS ty_3 (· < w0.heap.size) w0 v0_1 x0.2.1) (x1 : Int) (r : Bool) (hF : F_spec_swHas x0 x1 = some r) :
  Calls Try.prog 179 [(.agg #[v0_0, v0_1, (.int .i64 x0.2.2.1), (.int .i64 x0.2.2.2)]), (.int .i64 x1)].toArray w0 fun e w' => e = .returned (.bool r) ∧ Below w0.heap.size w0 w' := by
 refine calls_mk' Try.func179 rfl Try.ntmps179 rfl rfl fun Q hQ hP => ?_
 have hB : Below w0.heap.size w0 w0 := Below.refl _ _
 have hS : Sep w0.heap.size w0 [] := Sep.nil _ _
 unfold F_spec_swHas at hF
 refine W.seq fun K1 hK1 => W.region (wl_box (cs := [v0_0, v0_1, (.int .i64 x0.2.2.1), (.int .i64 x0.2.2.2)]) rfl rfl rfl hB hS ?_)
 intro b2 w3 hb4 hB5 hS6
 refine wl_assign rfl rfl (WL.nil (fun a ha => hK1 _ _ (W.seq fun K7 hK7 => ?_) a ha))
 obtain ⟨k12, hk12, hF⟩ := jE1 hF
 have hJ13 : ∀ (y11 : Bool) (w8 : World) (_ : k12 y11 = some r) (_ : Below w0.heap.size w0 w8) (_ : Sep w0.heap.size w8 []), ∀ a, St 15 [(4, (.bool y11))] a → K7 a w8 := by
  intro y11 w8 hF hB9 hS10
  subst hk12
  refine fun a ha => hK7 _ _ (W.ret ?_) a ha
  have hr := Option.some.inj hF
  subst hr
  exact rets (vs := [(.bool y11)]) hQ rfl ⟨rv_tmp rfl, trivial⟩ ⟨rfl, hB9⟩
 refine W.region (wl_load_blk (i := 0) (vs := [v0_0, v0_1, (.int .i64 x0.2.2.1), (.int .i64 x0.2.2.2)]) (v := (.agg #[v0_0, v0_1, (.int .i64 x0.2.2.1), (.int .i64 x0.2.2.2)])) tf_53 rfl rfl hS6 rfl rfl rfl ?_)
 obtain ⟨u14, hu14, hF⟩ := bindE hF
 refine wl_call rfl Try.call145 (C_spec_swGood w3 x0 v0_0 (h0_0.ro hB5) v0_1 (h0_1.ro hB5) _ hu14) rfl ?_
 rintro _ w15 ⟨rfl, hb16⟩
 refine ⟨_, rfl, ?_⟩
 have hB17 := hB5.trans (hb16.mono hB5.size)
 have hS18 := hS6.below hb16
 refine wl_move rfl rfl ?_
 rcases bE u14 with h20 | h20
 ·replace hF := ifP h20 hF
  refine wl_on rfl rfl h20 (wl_move rfl rfl (wl_on rfl rfl h20 (wl_field (o := 1) (off' := 1) ff_53_1 rfl rfl rfl (wl_on rfl rfl h20 (wl_load_blk (i := 0) (vs := [v0_1]) (v := v0_1) tf_29 rfl rfl hS18 rfl rfl rfl (wl_on rfl rfl h20 (wl_lenr (e := ty_3) (l := x0.2.1) Try.underlying29 rfl rfl h0_1 (wl_on rfl rfl h20 (wl_sub rfl rfl rfl (wl_on rfl rfl h20 ?_))))))))))
  obtain ⟨u21, hu21, hF⟩ := bindE hF
  refine wl_call rfl Try.call138 (C_spec_l1In w15 x1 0 (w64 ((List.length x0.2.1 : Int) - 1)) _ hu21) rfl ?_
  rintro _ w22 ⟨rfl, hb23⟩
  refine ⟨_, rfl, ?_⟩
  have hB24 := hB17.trans (hb23.mono hB17.size)
  have hS25 := hS18.below hb23
  refine wl_pick_t rfl rfl h20 rfl (wl_assign rfl rfl (WL.nil ?_))
  exact fun a ha => hJ13 (u21) _ hF hB24 (hS25.sel [] rfl) a (ha.sub ⟨rfl, trivial⟩)
 ·replace hF := ifN h20 hF
  refine wl_off rfl rfl rfl h20 (wl_off rfl rfl rfl h20 (wl_off rfl rfl rfl h20 (wl_off rfl rfl rfl h20 (wl_off rfl rfl rfl h20 (wl_off rfl rfl rfl h20 (wl_pick_f rfl rfl h20 rfl (wl_assign rfl rfl (WL.nil ?_))))))))
  exact fun a ha => hJ13 (false) _ hF hB17 (hS18.sel [] rfl) a (ha.sub ⟨rfl, trivial⟩)
theorem C_spec_apStay (w0 : World) (x0 : ((Int × Int) × (Int × Int) × Int)) (x1 : ((Int × Int) × (Int × Int) × Int)) (x2 : Int) (r : Bool) (hF : F_spec_apStay x0 x1 x2 = some r) :
  Calls Try.prog 243 [(.agg #[(.int .i64 x0.1.1), (.int .i64 x0.1.2), (.int .i64 x0.2.1.1), (.int .i64 x0.2.1.2), (.int .i64 x0.2.2)]), (.agg #[(.int .i64 x1.1.1), (.int .i64 x1.1.2), (.int .i64 x1.2.1.1), (.int .i64 x1.2.1.2), (.int .i64 x1.2.2)]), (.int .i64 x2)].toArray w0 fun e w' => e = .returned (.bool r) ∧ Below w0.heap.size w0 w' := by
 refine calls_mk' Try.func243 rfl Try.ntmps243 rfl rfl fun Q hQ hP => ?_
 have hB : Below w0.heap.size w0 w0 := Below.refl _ _
 have hS : Sep w0.heap.size w0 [] := Sep.nil _ _
 unfold F_spec_apStay at hF
 refine W.seq fun K1 hK1 => W.region (wl_box (cs := [(.int .i64 x0.1.1), (.int .i64 x0.1.2), (.int .i64 x0.2.1.1), (.int .i64 x0.2.1.2), (.int .i64 x0.2.2)]) rfl rfl rfl hB hS ?_)
 intro b2 w3 hb4 hB5 hS6
 refine wl_box (cs := [(.int .i64 x1.1.1), (.int .i64 x1.1.2), (.int .i64 x1.2.1.1), (.int .i64 x1.2.1.2), (.int .i64 x1.2.2)]) rfl rfl rfl hB5 hS6 ?_
 intro b7 w8 hb9 hB10 hS11
 refine wl_assign rfl rfl (WL.nil (fun a ha => hK1 _ _ (W.seq fun K12 hK12 => (W.region (wl_load_blk (i := 1) (vs := [(.int .i64 x0.1.1), (.int .i64 x0.1.2), (.int .i64 x0.2.1.1), (.int .i64 x0.2.1.2), (.int .i64 x0.2.2)]) (v := (.agg #[(.int .i64 x0.1.1), (.int .i64 x0.1.2), (.int .i64 x0.2.1.1), (.int .i64 x0.2.1.2), (.int .i64 x0.2.2)])) tf_70 rfl rfl hS11 rfl rfl rfl (wl_load_blk (i := 0) (vs := [(.int .i64 x1.1.1), (.int .i64 x1.1.2), (.int .i64 x1.2.1.1), (.int .i64 x1.2.1.2), (.int .i64 x1.2.2)]) (v := (.agg #[(.int .i64 x1.1.1), (.int .i64 x1.1.2), (.int .i64 x1.2.1.1), (.int .i64 x1.2.1.2), (.int .i64 x1.2.2)])) tf_70 rfl rfl hS11 rfl rfl rfl ?_)))) a ha))
 obtain ⟨u13, hu13, hF⟩ := bindE hF
 refine wl_call rfl Try.call237 (C_spec_apLeast w8 x0 x1 _ hu13) rfl ?_
 rintro _ w14 ⟨rfl, hb15⟩
 refine ⟨_, rfl, ?_⟩
 have hB16 := hB10.trans (hb15.mono hB10.size)
 refine wl_move rfl rfl (wl_extract rfl rfl rfl (wl_extract rfl rfl rfl (wl_assign rfl rfl (wl_assign rfl rfl (WL.nil (fun a ha => hK12 _ _ (W.seq fun K19 hK19 => (W.region (wl_move rfl rfl (wl_move rfl rfl (wl_move rfl rfl (wl_mul rfl rfl rfl (wl_move rfl rfl ?_))))))) a ha))))))
 refine wl_mul rfl rfl rfl (wl_geq rfl rfl rfl (wl_assign rfl rfl (WL.nil (fun a ha => hK19 _ _ (W.ret ?_) a ha))))
 have hr := Option.some.inj hF
 subst hr
 exact rets (vs := [(.bool (decide ((w64 ((w64 (x2 * x2)) * u13.2)) ≤ u13.1)))]) hQ rfl ⟨rv_tmp rfl, trivial⟩ ⟨rfl, hB16⟩
theorem C_spec_swClose (w0 : World) (x0 : ((List (List (Int × Int))) × (List Int) × Int × Int)) (v0_0 : Value) (h0_0 : rdS ty_63 (· < w0.heap.size) w0 v0_0 x0.1) (v0_1 : Value) (h0_1 : rdS ty_3 (· < w0.heap.size) w0 v0_1 x0.2.1) (x1 : Int) (r : (List (List Int))) (hF : F_spec_swClose x0 x1 = some r) :
  Calls Try.prog 180 [(.agg #[v0_0, v0_1, (.int .i64 x0.2.2.1), (.int .i64 x0.2.2.2)]), (.int .i64 x1)].toArray w0 fun e w' => ∃ (q0 : Value) (G0 : List Nat), e = .returned q0 ∧ Below w0.heap.size w0 w' ∧ Sep w0.heap.size w' [R.own ty_29 G0 q0 r] := by
 refine calls_mk' Try.func180 rfl Try.ntmps180 rfl rfl fun Q hQ hP => ?_
 have hB : Below w0.heap.size w0 w0 := Below.refl _ _
 have hS : Sep w0.heap.size w0 [] := Sep.nil _ _
 unfold F_spec_swClose at hF
 refine W.seq fun K1 hK1 => W.region (wl_box (cs := [v0_0, v0_1, (.int .i64 x0.2.2.1), (.int .i64 x0.2.2.2)]) rfl rfl rfl hB hS ?_)
 intro b2 w3 hb4 hB5 hS6
 refine wl_assign rfl rfl (WL.nil (fun a ha => hK1 _ _ (W.seq fun K7 hK7 => (W.region (wl_load_blk (i := 0) (vs := [v0_0, v0_1, (.int .i64 x0.2.2.1), (.int .i64 x0.2.2.2)]) (v := (.agg #[v0_0, v0_1, (.int .i64 x0.2.2.1), (.int .i64 x0.2.2.2)])) tf_53 rfl rfl hS6 rfl rfl rfl (wl_move rfl rfl ?_)))) a ha))
 obtain ⟨u8, hu8, hF⟩ := bindE hF
 refine wl_call rfl Try.call160 (C_spec_swMoves w3 x0 v0_0 (h0_0.ro hB5) v0_1 (h0_1.ro hB5) x1 _ hu8) rfl ?_
 rintro _ w11 ⟨v9, F10, rfl, hb12, hM15⟩
 refine ⟨_, rfl, ?_⟩
 have hB13 := hB5.trans (hb12.mono hB5.size)
 have hS14 := hS6.join hb12 hM15 hB5.size
 refine wl_assign rfl rfl (WL.nil (fun a ha => hK7 _ _ (W.seq fun K16 hK16 => (W.region (wl_assign rfl rfl (WL.nil (fun a ha => hK16 _ _ (W.seq fun K17 hK17 => (W.seq fun K18 hK18 => (W.region (wl_move rfl rfl (wl_lenr (e := ty_70) (l := u8) Try.underlying64 rfl rfl (hS14.own_ro (i := 0) rfl) (wl_move rfl rfl ?_)))))) a ha))))) a ha))
 refine WL.nil fun a ha => hK18 _ _ (W.block (W.loopk (fun m a w19 => ∃ (l22 : (List (List Int))) (y25 : Int) (v23 : Value) (F24 : List Nat), St 45 [(2, (.pointer (some ⟨b2, 0, none⟩))), (5, v9), (6, v23), (13, v9), (14, (.int .i64 (List.length u8 : Int))), (15, (.int .i64 y25))] a ∧ Below w0.heap.size w0 w19 ∧ Sep w0.heap.size w19 [R.blk b2 53 [v0_0, v0_1, (.int .i64 x0.2.2.1), (.int .i64 x0.2.2.2)], R.own ty_70 F10 v9 u8, R.own ty_29 F24 v23 l22] ∧ F_spec_swClose_L1 u8 x0 m l22 y25 = some r) FU ?_ ?_)) a ha
 ·
  have hS27 := hS14.push0 (r := R.own ty_29 [] (.slice none 0 0) []) rfl fun _ => .inl ⟨rfl, rfl, rfl⟩
  exact fun a ha => ⟨[], 0, (.slice none 0 0), [], ha.sub ⟨rfl, rfl, rfl, rfl, rfl, rfl, trivial⟩, hB13, (hS27.sel [2, 1, 0] rfl), hF⟩
 ·
  rintro m29 a w19 ⟨l22, y25, v23, F24, ha, hB20, hS21, hF⟩ KL28 hKL28
  refine W.at ?_ ha
  cases m29 with
  | zero => exact noneE hF
  | succ m29 =>
   obtain ⟨nx26, hnx26⟩ : ∃ k, k = F_spec_swClose_L1 u8 x0 m29 := ⟨_, rfl⟩
   rw [F_spec_swClose_L1, ← hnx26] at hF
   refine W.seq fun K30 hK30 => W.region (wl_lss rfl rfl rfl (WL.nil (fun a ha => hK30 _ _ (W.seq fun K31 hK31 => (W.cond rfl (fun h32 => ?_) (fun h32 => ?_))) a ha)))
   ·replace hF := ifP h32 hF
    refine W.skip fun a ha => hK31 _ _ (W.seq fun K33 hK33 => (W.block (W.seq fun K34 hK34 => (W.region (wl_move rfl rfl ?_))))) a ha
    obtain ⟨u35, hu35, hF⟩ := bindE hF
    refine wl_indexo (e := ty_70) (i := 1) Try.underlying64 rfl rfl rfl hS21 rfl hu35 ?_
    rintro p36 _ rfl hp37 ho38
    refine wl_load_p (vs := [(.int .i64 u35.1.1), (.int .i64 u35.1.2), (.int .i64 u35.2.1.1), (.int .i64 u35.2.1.2), (.int .i64 u35.2.2)]) (v := (.agg #[(.int .i64 u35.1.1), (.int .i64 u35.1.2), (.int .i64 u35.2.1.1), (.int .i64 u35.2.1.2), (.int .i64 u35.2.2)])) tf_70 rfl rfl hp37 rfl rfl (wl_alloc (cs := [(.int .i64 0), (.int .i64 0), (.int .i64 0), (.int .i64 0), (.int .i64 0)]) tf_70 rfl rfl hB20 hS21 ?_)
    intro b39 w40 hb41 hB42 hS43
    refine wl_assign rfl rfl (wl_store_blk (i := 0) (vs := [(.int .i64 u35.1.1), (.int .i64 u35.1.2), (.int .i64 u35.2.1.1), (.int .i64 u35.2.1.2), (.int .i64 u35.2.2)]) (cs' := [(.int .i64 u35.1.1), (.int .i64 u35.1.2), (.int .i64 u35.2.1.1), (.int .i64 u35.2.1.2), (.int .i64 u35.2.2)]) tf_70 rfl rfl rfl rfl hB42 hS43 rfl rfl ⟨rfl, rfl, rfl, rfl, rfl, trivial⟩ rfl ?_)
    intro w44 hk47 hB45 hS46
    refine WL.nil fun a ha => hK34 _ _ (W.seq fun K48 hK48 => (W.region (wl_move rfl rfl (wl_add rfl rfl rfl (wl_assign rfl rfl (WL.nil (fun a ha => hK48 _ _ (W.block (W.loopk (fun m a w49 => ∃ (l52 : (List (List Int))) (y55 : Int) (v53 : Value) (F54 : List Nat), St 45 [(2, (.pointer (some ⟨b2, 0, none⟩))), (5, v9), (6, v53), (7, (.int .i64 y25)), (8, (.pointer (some ⟨b39, 0, none⟩))), (9, (.int .i64 y55)), (13, v9), (14, (.int .i64 (List.length u8 : Int))), (15, (.int .i64 y25))] a ∧ Below w0.heap.size w0 w49 ∧ Sep w0.heap.size w49 [R.blk b2 53 [v0_0, v0_1, (.int .i64 x0.2.2.1), (.int .i64 x0.2.2.2)], R.own ty_70 F10 v9 u8, R.own ty_29 F54 v53 l52, R.blk b39 70 [(.int .i64 u35.1.1), (.int .i64 u35.1.2), (.int .i64 u35.2.1.1), (.int .i64 u35.2.1.2), (.int .i64 u35.2.2)]] ∧ F_spec_swClose_L2 u8 u35 x0 y25 nx26 m l52 y55 = some r) FU ?_ ?_)) a ha))))))) a ha
    ·
     exact fun a ha => ⟨l22, (w64 (y25 + 1)), v23, F24, ha.sub ⟨rfl, rfl, rfl, rfl, rfl, rfl, rfl, rfl, rfl, trivial⟩, hB45, (hS46.sel [1, 2, 3, 0] rfl), hF⟩
    ·
     rintro m58 a w49 ⟨l52, y55, v53, F54, ha, hB50, hS51, hF⟩ KL57 hKL57
     refine W.at ?_ ha
     cases m58 with
     | zero => exact noneE hF
     | succ m58 =>
      obtain ⟨nx56, hnx56⟩ : ∃ k, k = F_spec_swClose_L2 u8 u35 x0 y25 nx26 m58 := ⟨_, rfl⟩
      rw [F_spec_swClose_L2, ← hnx56] at hF
      refine W.seq fun K59 hK59 => W.seq fun K60 hK60 => W.region (wl_move rfl rfl (wl_move rfl rfl (wl_lenr (e := ty_70) (l := u8) Try.underlying64 rfl rfl (hS51.own_ro (i := 1) rfl) (wl_lss rfl rfl rfl (WL.nil (fun a ha => hK60 _ _ (W.cond rfl (fun h61 => ?_) (fun h61 => ?_)) a ha))))))
      ·replace hF := ifP h61 hF
       refine W.skip fun a ha => hK59 _ _ (W.seq fun K62 hK62 => ?_) a ha
       obtain ⟨k69, hk69, hF⟩ := jE1 hF
       have hJ70 : ∀ (l66 : (List (List Int))) (v67 : Value) (F68 : List Nat) (w63 : World) (_ : k69 l66 = some r) (_ : Below w0.heap.size w0 w63) (_ : Sep w0.heap.size w63 [R.blk b2 53 [v0_0, v0_1, (.int .i64 x0.2.2.1), (.int .i64 x0.2.2.2)], R.own ty_70 F10 v9 u8, R.own ty_29 F68 v67 l66, R.blk b39 70 [(.int .i64 u35.1.1), (.int .i64 u35.1.2), (.int .i64 u35.2.1.1), (.int .i64 u35.2.1.2), (.int .i64 u35.2.2)]]), ∀ a, St 45 [(2, (.pointer (some ⟨b2, 0, none⟩))), (5, v9), (6, v67), (7, (.int .i64 y25)), (8, (.pointer (some ⟨b39, 0, none⟩))), (9, (.int .i64 y55)), (13, v9), (14, (.int .i64 (List.length u8 : Int))), (15, (.int .i64 y25))] a → K62 a w63 := by
        intro l66 v67 F68 w63 hF hB64 hS65
        subst hk69
        refine fun a ha => hK62 _ _ (W.region (wl_move rfl rfl (wl_add rfl rfl rfl (wl_assign rfl rfl (WL.nil ?_))))) a ha
        rw [hnx56] at hF
        exact fun a ha => hKL57 a _ m58 (Nat.lt_succ_self m58) ⟨l66, (w64 (y55 + 1)), v67, F68, ha.sub ⟨rfl, rfl, rfl, rfl, rfl, rfl, rfl, rfl, rfl, trivial⟩, hB64, (hS65.sel [0, 1, 2, 3] rfl), hF⟩
       refine W.block (W.seq fun K71 hK71 => (W.regionH mixed_ [] hB50 hS51 ?_))
       intro w72 hb73 hB74 hS75
       have hSW76 := KeepX.refl w72 []
       refine WH.tk 0 rfl hP hSW76 (pr_load_blk (i := 3) (vs := [(.int .i64 u35.1.1), (.int .i64 u35.1.2), (.int .i64 u35.2.1.1), (.int .i64 u35.2.1.2), (.int .i64 u35.2.2)]) (v := (.agg #[(.int .i64 u35.1.1), (.int .i64 u35.1.2), (.int .i64 u35.2.1.1), (.int .i64 u35.2.1.2), (.int .i64 u35.2.2)])) tf_70 rfl rfl hS75 rfl rfl rfl (by simp) (WH.tk 1 rfl hP hSW76 (pr_move rfl rfl (WH.tk 2 rfl hP hSW76 (pr_move rfl rfl ?_)))))
       obtain ⟨u77, hu77, hF⟩ := bindE hF
       refine WH.tk 3 rfl hP hSW76 (pr_indexo (e := ty_70) (i := 1) Try.underlying64 rfl rfl rfl hS75 rfl hu77 ?_)
       rintro p78 _ rfl hp79 ho80
       refine WH.tk 4 rfl hP hSW76 (pr_load_p (vs := [(.int .i64 u77.1.1), (.int .i64 u77.1.2), (.int .i64 u77.2.1.1), (.int .i64 u77.2.1.2), (.int .i64 u77.2.2)]) (v := (.agg #[(.int .i64 u77.1.1), (.int .i64 u77.1.2), (.int .i64 u77.2.1.1), (.int .i64 u77.2.1.2), (.int .i64 u77.2.2)])) tf_70 rfl rfl (hp79.kx0) rfl rfl (WH.tk 5 rfl hP hSW76 (pr_field (o := 2) (off' := 2) ff_53_2 rfl rfl rfl (WH.tk 6 rfl hP hSW76 (pr_load_blk (i := 0) (vs := [(.int .i64 x0.2.2.1)]) (v := (.int .i64 x0.2.2.1)) tf_3 rfl rfl hS75 rfl rfl rfl (by simp) (WH.on1 7 rfl ?_))))))
       obtain ⟨u81, hu81, hF⟩ := bindE hF
       refine wl_call rfl Try.call243 (C_spec_apStay w72 u35 u77 x0.2.2.1 _ hu81) rfl ?_
       rintro _ w82 ⟨rfl, hb83⟩
       refine ⟨_, rfl, ?_⟩
       have hB84 := hB74.trans (hb83.mono hB74.size)
       have hS85 := hS75.below hb83
       have hSW87 := hSW76.ext hb83
       refine WL.nil (WH.ret hSW87 (WH.tk 8 rfl hP hSW87 (pr_not rfl rfl (WH.done (by kernel_rfl) (fun a ha => hK71 _ _ (W.cond rfl (fun h88 => ?_) (fun h88 => ?_)) a ha)))))
       ·replace hF := ifP h88 hF
        refine W.region (wl_move rfl rfl (wl_move rfl rfl (wl_move rfl rfl (wl_lit (vs := [(.int .i64 y25), (.int .i64 y55)]) (l := [y25, y55]) fl_3 Try.underlying29 rfl rfl rfl rfl rfl rfl hB84 hS85 ?_))))
        intro v89 F90 w91 hb92 hB93 hS94
        have hq95 := hS94.sel [0, 1, 2, 3, 4] rfl
        have hq96 := hq95.head (r' := R.cel ty_29 F90 [v89] [y25, y55]) (rfl) fun _ h0 => ⟨_, rfl, h0⟩
        refine wl_lit1 (e := ty_29) (vs := [v89]) Try.underlying72 rfl rfl (cells_one (hS94.own_ro (i := 0) rfl).one) rfl hB93 hq96 ?_
        intro v97 F98 w99 hb100 hf101 hB102 hS103
        obtain ⟨u104, hu104, hF⟩ := bindE hF
        refine wl_appendn (e := ty_29) Try.underlying72 rfl rfl rfl hB102 (hS103.sel [3, 0, 1, 2, 4] rfl) hu104 ?_
        intro v105 F106 w107 hk108 hB109 hS110
        refine wl_assign rfl rfl (WL.nil ?_)
        exact fun a ha => hJ70 (u104) (v105) (F106) _ hF hB109 (hS110.sel [1, 2, 0, 3] rfl) a (ha.sub ⟨rfl, rfl, rfl, rfl, rfl, rfl, rfl, rfl, rfl, trivial⟩)
       ·replace hF := ifN h88 hF
        refine W.skip ?_
        exact fun a ha => hJ70 (l52) (v53) (F54) _ hF hB84 (hS85.sel [0, 1, 2, 3] rfl) a (ha.sub ⟨rfl, rfl, rfl, rfl, rfl, rfl, rfl, rfl, rfl, trivial⟩)
      ·replace hF := ifN h61 hF
       refine W.exit fun a ha => hK33 _ _ (W.region (wl_add rfl rfl rfl (wl_move rfl rfl (WL.nil ?_)))) a ha
       rw [hnx26] at hF
       exact fun a ha => hKL28 a _ m29 (Nat.lt_succ_self m29) ⟨l52, (w64 (y25 + 1)), v53, F54, ha.sub ⟨rfl, rfl, rfl, rfl, rfl, rfl, trivial⟩, hB50, (hS51.sel [0, 1, 2] rfl), hF⟩
   ·replace hF := ifN h32 hF
    refine W.exit fun a ha => hK17 _ _ (W.seq fun K111 hK111 => (W.region (wl_move rfl rfl (wl_assign rfl rfl (WL.nil (fun a ha => hK111 _ _ (W.ret ?_) a ha)))))) a ha
    have hr := Option.some.inj hF
    subst hr
    exact rets (vs := [v23]) hQ rfl ⟨rv_tmp rfl, trivial⟩ ⟨v23, F24, rfl, hB20, hS21.sel [2] rfl⟩
theorem C_impl_withinStep (w0 : World) (x0 : ((Int × Int) × (Int × Int) × Int)) (x1 : Int) (r : Bool) (hF : F_impl_withinStep x0 x1 = some r) :
  Calls Try.prog 244 [(.agg #[(.int .i64 x0.1.1), (.int .i64 x0.1.2), (.int .i64 x0.2.1.1), (.int .i64 x0.2.1.2), (.int .i64 x0.2.2)]), (.int .i64 x1)].toArray w0 fun e w' => e = .returned (.bool r) ∧ Below w0.heap.size w0 w' := by
 refine calls_mk' Try.func244 rfl Try.ntmps244 rfl rfl fun Q hQ hP => ?_
 have hB : Below w0.heap.size w0 w0 := Below.refl _ _
 have hS : Sep w0.heap.size w0 [] := Sep.nil _ _
 unfold F_impl_withinStep at hF
 refine W.seq fun K1 hK1 => W.region (wl_box (cs := [(.int .i64 x0.1.1), (.int .i64 x0.1.2), (.int .i64 x0.2.1.1), (.int .i64 x0.2.1.2), (.int .i64 x0.2.2)]) rfl rfl rfl hB hS ?_)
 intro b2 w3 hb4 hB5 hS6
 refine wl_assign rfl rfl (WL.nil (fun a ha => hK1 _ _ (W.seq fun K7 hK7 => (W.regionH mixed_ [] hB5 hS6 ?_)) a ha))
 intro w8 hb9 hB10 hS11
 have hSW12 := KeepX.refl w8 []
 refine WH.tk 0 rfl hP hSW12 (pr_field (o := 0) (off' := 0) ff_70_0 rfl rfl rfl (WH.tk 1 rfl hP hSW12 (pr_load_blk (i := 0) (vs := [(.int .i64 x0.1.1), (.int .i64 x0.1.2)]) (v := (.agg #[(.int .i64 x0.1.1), (.int .i64 x0.1.2)])) tf_68 rfl rfl hS11 rfl rfl rfl (by simp) (WH.tk 2 rfl hP hSW12 (pr_field (o := 2) (off' := 2) ff_70_1 rfl rfl rfl (WH.tk 3 rfl hP hSW12 (pr_load_blk (i := 0) (vs := [(.int .i64 x0.2.1.1), (.int .i64 x0.2.1.2)]) (v := (.agg #[(.int .i64 x0.2.1.1), (.int .i64 x0.2.1.2)])) tf_68 rfl rfl hS11 rfl rfl rfl (by simp) (WH.tk 5 rfl hP hSW12 (pr_move rfl rfl (WH.tk 6 rfl hP hSW12 (pr_move rfl rfl (WH.tk 7 rfl hP hSW12 (pr_mul rfl rfl rfl ?_)))))))))))))
 refine WH.tk 8 rfl hP hSW12 (pr_field (o := 4) (off' := 4) ff_70_2 rfl rfl rfl (WH.tk 9 rfl hP hSW12 (pr_load_blk (i := 0) (vs := [(.int .i64 x0.2.2)]) (v := (.int .i64 x0.2.2)) tf_3 rfl rfl hS11 rfl rfl rfl (by simp) (WH.tk 10 rfl hP hSW12 (pr_mul rfl rfl rfl (WH.tk 11 rfl hP hSW12 (pr_field (o := 4) (off' := 4) ff_70_2 rfl rfl rfl (WH.tk 12 rfl hP hSW12 (pr_load_blk (i := 0) (vs := [(.int .i64 x0.2.2)]) (v := (.int .i64 x0.2.2)) tf_3 rfl rfl hS11 rfl rfl rfl (by simp) (WH.tk 13 rfl hP hSW12 (pr_mul rfl rfl rfl (WH.on1 4 rfl ?_))))))))))))
 obtain ⟨u13, hu13, hF⟩ := bindE hF
 refine wl_call rfl Try.call153 (C_impl_squareOf w8 x0.1 x0.2.1 _ hu13) rfl ?_
 rintro _ w14 ⟨rfl, hb15⟩
 refine ⟨_, rfl, ?_⟩
 have hB16 := hB10.trans (hb15.mono hB10.size)
 have hSW19 := hSW12.ext hb15
 refine WL.nil (WH.ret hSW19 (WH.tk 14 rfl hP hSW19 (pr_leq rfl rfl rfl (WH.tk 15 rfl hP hSW19 (pr_assign rfl rfl (WH.done (by kernel_rfl) (fun a ha => hK7 _ _ (W.ret ?_) a ha)))))))
 have hr := Option.some.inj hF
 subst hr
 exact rets (vs := [(.bool (decide (u13 ≤ (w64 ((w64 ((w64 (x1 * x1)) * x0.2.2)) * x0.2.2)))))]) hQ rfl ⟨rv_tmp rfl, trivial⟩ ⟨rfl, hB16⟩
theorem C_impl_wideSteps (w0 : World) (x0 : ((List (List (Int × Int))) × (List Int) × Int × Int)) (v0_0 : Value) (h0_0 : rdS ty_63 (· < w0.heap.size) w0 v0_0 x0.1) (v0_1 : Value) (h0_1 : rdS ty_3 (· < w0.heap.size) w0 v0_1 x0.2.1) (x1 : Int) (r : (List Int)) (hF : F_impl_wideSteps x0 x1 = some r) :
  Calls Try.prog 181 [(.agg #[v0_0, v0_1, (.int .i64 x0.2.2.1), (.int .i64 x0.2.2.2)]), (.int .i64 x1)].toArray w0 fun e w' => ∃ (q0 : Value) (G0 : List Nat), e = .returned q0 ∧ Below w0.heap.size w0 w' ∧ Sep w0.heap.size w' [R.own ty_3 G0 q0 r] := by
 refine calls_mk' Try.func181 rfl Try.ntmps181 rfl rfl fun Q hQ hP => ?_
 have hB : Below w0.heap.size w0 w0 := Below.refl _ _
 have hS : Sep w0.heap.size w0 [] := Sep.nil _ _
 unfold F_impl_wideSteps at hF
 refine W.seq fun K1 hK1 => W.region (wl_box (cs := [v0_0, v0_1, (.int .i64 x0.2.2.1), (.int .i64 x0.2.2.2)]) rfl rfl rfl hB hS ?_)
 intro b2 w3 hb4 hB5 hS6
 refine wl_assign rfl rfl (WL.nil (fun a ha => hK1 _ _ (W.seq fun K7 hK7 => (W.region (wl_lit (vs := []) (l := []) fl_3 Try.underlying29 rfl rfl rfl rfl rfl rfl hB5 hS6 ?_))) a ha))
 intro v8 F9 w10 hb11 hB12 hS13
 refine wl_assign rfl rfl (WL.nil (fun a ha => hK7 _ _ (W.seq fun K14 hK14 => (W.seq fun K15 hK15 => (W.region (wl_load_blk (i := 1) (vs := [v0_0, v0_1, (.int .i64 x0.2.2.1), (.int .i64 x0.2.2.2)]) (v := (.agg #[v0_0, v0_1, (.int .i64 x0.2.2.1), (.int .i64 x0.2.2.2)])) tf_53 rfl rfl hS13 rfl rfl rfl (wl_move rfl rfl ?_))))) a ha))
 obtain ⟨u16, hu16, hF⟩ := bindE hF
 refine wl_call rfl Try.call152 (C_impl_showMoves w10 x0 v0_0 (h0_0.ro hB12) v0_1 (h0_1.ro hB12) x1 _ hu16) rfl ?_
 rintro _ w19 ⟨v17, F18, rfl, hb20, hM23⟩
 refine ⟨_, rfl, ?_⟩
 have hB21 := hB12.trans (hb20.mono hB12.size)
 have hS22 := hS13.join hb20 hM23 hB12.size
 refine wl_lenr (e := ty_70) (l := u16) Try.underlying64 rfl rfl (hS22.own_ro (i := 0) rfl) (wl_move rfl rfl (WL.nil (fun a ha => hK15 _ _ (W.block (W.loopk (fun m a w24 => ∃ (l27 : (List Int)) (y30 : Int) (v28 : Value) (F29 : List Nat), St 29 [(2, (.pointer (some ⟨b2, 0, none⟩))), (5, v28), (11, v17), (12, (.int .i64 (List.length u16 : Int))), (13, (.int .i64 y30))] a ∧ Below w0.heap.size w0 w24 ∧ Sep w0.heap.size w24 [R.blk b2 53 [v0_0, v0_1, (.int .i64 x0.2.2.1), (.int .i64 x0.2.2.2)], R.own ty_3 F29 v28 l27, R.own ty_70 F18 v17 u16] ∧ F_impl_wideSteps_L1 u16 x0 m l27 y30 = some r) FU ?_ ?_)) a ha)))
 ·
  exact fun a ha => ⟨[], 0, v8, F9, ha.sub ⟨rfl, rfl, rfl, rfl, rfl, trivial⟩, hB21, (hS22.sel [2, 1, 0] rfl), hF⟩
 ·
  rintro m33 a w24 ⟨l27, y30, v28, F29, ha, hB25, hS26, hF⟩ KL32 hKL32
  refine W.at ?_ ha
  cases m33 with
  | zero => exact noneE hF
  | succ m33 =>
   obtain ⟨nx31, hnx31⟩ : ∃ k, k = F_impl_wideSteps_L1 u16 x0 m33 := ⟨_, rfl⟩
   rw [F_impl_wideSteps_L1, ← hnx31] at hF
   refine W.seq fun K34 hK34 => W.region (wl_lss rfl rfl rfl (WL.nil (fun a ha => hK34 _ _ (W.seq fun K35 hK35 => (W.cond rfl (fun h36 => ?_) (fun h36 => ?_))) a ha)))
   ·replace hF := ifP h36 hF
    refine W.skip fun a ha => hK35 _ _ (W.seq fun K37 hK37 => ?_) a ha
    obtain ⟨k44, hk44, hF⟩ := jE1 hF
    have hJ45 : ∀ (l41 : (List Int)) (v42 : Value) (F43 : List Nat) (w38 : World) (_ : k44 l41 = some r) (_ : Below w0.heap.size w0 w38) (_ : Sep w0.heap.size w38 [R.blk b2 53 [v0_0, v0_1, (.int .i64 x0.2.2.1), (.int .i64 x0.2.2.2)], R.own ty_3 F43 v42 l41, R.own ty_70 F18 v17 u16]), ∀ a, St 29 [(2, (.pointer (some ⟨b2, 0, none⟩))), (5, v42), (11, v17), (12, (.int .i64 (List.length u16 : Int))), (13, (.int .i64 y30))] a → K37 a w38 := by
     intro l41 v42 F43 w38 hF hB39 hS40
     subst hk44
     refine fun a ha => hK37 _ _ (W.region (wl_add rfl rfl rfl (wl_move rfl rfl (WL.nil ?_)))) a ha
     rw [hnx31] at hF
     exact fun a ha => hKL32 a _ m33 (Nat.lt_succ_self m33) ⟨l41, (w64 (y30 + 1)), v42, F43, ha.sub ⟨rfl, rfl, rfl, rfl, rfl, trivial⟩, hB39, (hS40.sel [0, 1, 2] rfl), hF⟩
    refine W.block (W.seq fun K46 hK46 => (W.region (wl_move rfl rfl ?_)))
    obtain ⟨u47, hu47, hF⟩ := bindE hF
    refine wl_indexo (e := ty_70) (i := 2) Try.underlying64 rfl rfl rfl hS26 rfl hu47 ?_
    rintro p48 _ rfl hp49 ho50
    refine wl_load_p (vs := [(.int .i64 u47.1.1), (.int .i64 u47.1.2), (.int .i64 u47.2.1.1), (.int .i64 u47.2.1.2), (.int .i64 u47.2.2)]) (v := (.agg #[(.int .i64 u47.1.1), (.int .i64 u47.1.2), (.int .i64 u47.2.1.1), (.int .i64 u47.2.1.2), (.int .i64 u47.2.2)])) tf_70 rfl rfl hp49 rfl rfl (wl_alloc (cs := [(.int .i64 0), (.int .i64 0), (.int .i64 0), (.int .i64 0), (.int .i64 0)]) tf_70 rfl rfl hB25 hS26 ?_)
    intro b51 w52 hb53 hB54 hS55
    refine wl_assign rfl rfl (wl_store_blk (i := 0) (vs := [(.int .i64 u47.1.1), (.int .i64 u47.1.2), (.int .i64 u47.2.1.1), (.int .i64 u47.2.1.2), (.int .i64 u47.2.2)]) (cs' := [(.int .i64 u47.1.1), (.int .i64 u47.1.2), (.int .i64 u47.2.1.1), (.int .i64 u47.2.1.2), (.int .i64 u47.2.2)]) tf_70 rfl rfl rfl rfl hB54 hS55 rfl rfl ⟨rfl, rfl, rfl, rfl, rfl, trivial⟩ rfl ?_)
    intro w56 hk59 hB57 hS58
    refine WL.nil fun a ha => hK46 _ _ (W.seq fun K60 hK60 => (W.region (wl_load_blk (i := 0) (vs := [(.int .i64 u47.1.1), (.int .i64 u47.1.2), (.int .i64 u47.2.1.1), (.int .i64 u47.2.1.2), (.int .i64 u47.2.2)]) (v := (.agg #[(.int .i64 u47.1.1), (.int .i64 u47.1.2), (.int .i64 u47.2.1.1), (.int .i64 u47.2.1.2), (.int .i64 u47.2.2)])) tf_70 rfl rfl hS58 rfl rfl rfl (wl_field (o := 3) (off' := 3) ff_53_3 rfl rfl rfl (wl_load_blk (i := 1) (vs := [(.int .i64 x0.2.2.2)]) (v := (.int .i64 x0.2.2.2)) tf_3 rfl rfl hS58 rfl rfl rfl ?_))))) a ha
    obtain ⟨u61, hu61, hF⟩ := bindE hF
    refine wl_call rfl Try.call244 (C_impl_withinStep w56 u47 x0.2.2.2 _ hu61) rfl ?_
    rintro _ w62 ⟨rfl, hb63⟩
    refine ⟨_, rfl, ?_⟩
    have hB64 := hB57.trans (hb63.mono hB57.size)
    have hS65 := hS58.below hb63
    refine wl_not rfl rfl (WL.nil (fun a ha => hK60 _ _ (W.cond rfl (fun h67 => ?_) (fun h67 => ?_)) a ha))
    ·replace hF := ifP h67 hF
     refine W.region (wl_move rfl rfl (wl_move rfl rfl (wl_lit (vs := [(.int .i64 y30)]) (l := [y30]) fl_3 Try.underlying29 rfl rfl rfl rfl rfl rfl hB64 hS65 ?_)))
     intro v68 F69 w70 hb71 hB72 hS73
     obtain ⟨u74, hu74, hF⟩ := bindE hF
     refine wl_append (i := 3) (S := (· < w70.heap.size)) fl_3 Try.underlying29 rfl rfl rfl hB72 hS73 rfl (hS73.own_ro (i := 0) rfl) hu74 ?_
     intro v75 F76 w77 hk78 hB79 hS80
     refine wl_assign rfl rfl (WL.nil ?_)
     exact fun a ha => hJ45 (u74) (v75) (F76) _ hF hB79 (hS80.sel [2, 3, 4] rfl) a (ha.sub ⟨rfl, rfl, rfl, rfl, rfl, trivial⟩)
    ·replace hF := ifN h67 hF
     refine W.skip ?_
     exact fun a ha => hJ45 (l27) (v28) (F29) _ hF hB64 (hS65.sel [1, 2, 3] rfl) a (ha.sub ⟨rfl, rfl, rfl, rfl, rfl, trivial⟩)
   ·replace hF := ifN h36 hF
    refine W.exit fun a ha => hK14 _ _ (W.seq fun K81 hK81 => (W.region (wl_move rfl rfl (wl_assign rfl rfl (WL.nil (fun a ha => hK81 _ _ (W.ret ?_) a ha)))))) a ha
    have hr := Option.some.inj hF
    subst hr
    exact rets (vs := [v28]) hQ rfl ⟨rv_tmp rfl, trivial⟩ ⟨v28, F29, rfl, hB25, hS26.sel [1] rfl⟩
theorem C_impl_WideSteps (w0 : World) (x0 : ((List (List (Int × Int))) × (List Int) × Int × Int)) (v0_0 : Value) (h0_0 : rdS ty_63 (· < w0.heap.size) w0 v0_0 x0.1) (v0_1 : Value) (h0_1 : rdS ty_3 (· < w0.heap.size) w0 v0_1 x0.2.1) (x1 : Int) (r : ((List Int) × Bool)) (hF : F_impl_WideSteps x0 x1 = some r) :
  Calls Try.prog 69 [(.agg #[v0_0, v0_1, (.int .i64 x0.2.2.1), (.int .i64 x0.2.2.2)]), (.int .i64 x1)].toArray w0 fun e w' => ∃ (q0 : Value) (G0 : List Nat), e = .returned (.tuple #[q0, (.bool r.2)]) ∧ Below w0.heap.size w0 w' ∧ Sep w0.heap.size w' [R.own ty_3 G0 q0 r.1] := by
 refine calls_mk' Try.func69 rfl Try.ntmps69 rfl rfl fun Q hQ hP => ?_
 have hB : Below w0.heap.size w0 w0 := Below.refl _ _
 have hS : Sep w0.heap.size w0 [] := Sep.nil _ _
 unfold F_impl_WideSteps at hF
 refine W.seq fun K1 hK1 => W.region (wl_box (cs := [v0_0, v0_1, (.int .i64 x0.2.2.1), (.int .i64 x0.2.2.2)]) rfl rfl rfl hB hS ?_)
 intro b2 w3 hb4 hB5 hS6
 refine wl_assign rfl rfl (wl_assign rfl rfl (WL.nil (fun a ha => hK1 _ _ (W.seq fun K7 hK7 => (W.seq fun K8 hK8 => (W.region (wl_load_blk (i := 0) (vs := [v0_0, v0_1, (.int .i64 x0.2.2.1), (.int .i64 x0.2.2.2)]) (v := (.agg #[v0_0, v0_1, (.int .i64 x0.2.2.1), (.int .i64 x0.2.2.2)])) tf_53 rfl rfl hS6 rfl rfl rfl (wl_move rfl rfl ?_))))) a ha)))
 obtain ⟨u9, hu9, hF⟩ := bindE hF
 refine wl_call rfl Try.call163 (C_impl_isPart w3 x0 v0_0 (h0_0.ro hB5) v0_1 (h0_1.ro hB5) x1 _ hu9) rfl ?_
 rintro _ w10 ⟨rfl, hb11⟩
 refine ⟨_, rfl, ?_⟩
 have hB12 := hB5.trans (hb11.mono hB5.size)
 have hS13 := hS6.below hb11
 refine wl_not rfl rfl (WL.nil (fun a ha => hK8 _ _ (W.cond rfl (fun h15 => ?_) (fun h15 => ?_)) a ha))
 ·replace hF := ifP h15 hF
  refine W.seq fun K16 hK16 => W.region (wl_assign rfl rfl (wl_assign rfl rfl (WL.nil (fun a ha => hK16 _ _ (W.ret ?_) a ha))))
  have hS17 := hS13.push0 (r := R.own ty_3 [] (.slice none 0 0) []) rfl fun _ => .inl ⟨rfl, rfl, rfl⟩
  have hr := Option.some.inj hF
  subst hr
  exact rets (vs := [(.slice none 0 0), (.bool false)]) hQ rfl ⟨rv_tmp rfl, rv_tmp rfl, trivial⟩ ⟨(.slice none 0 0), [], rfl, hB12, hS17.sel [0] rfl⟩
 ·replace hF := ifN h15 hF
  refine W.skip fun a ha => hK7 _ _ (W.seq fun K18 hK18 => (W.region (wl_load_blk (i := 0) (vs := [v0_0, v0_1, (.int .i64 x0.2.2.1), (.int .i64 x0.2.2.2)]) (v := (.agg #[v0_0, v0_1, (.int .i64 x0.2.2.1), (.int .i64 x0.2.2.2)])) tf_53 rfl rfl hS13 rfl rfl rfl (wl_move rfl rfl ?_)))) a ha
  obtain ⟨u19, hu19, hF⟩ := bindE hF
  refine wl_call rfl Try.call181 (C_impl_wideSteps w10 x0 v0_0 (h0_0.ro hB12) v0_1 (h0_1.ro hB12) x1 _ hu19) rfl ?_
  rintro _ w22 ⟨v20, F21, rfl, hb23, hM26⟩
  refine ⟨_, rfl, ?_⟩
  have hB24 := hB12.trans (hb23.mono hB12.size)
  have hS25 := hS13.join hb23 hM26 hB12.size
  refine wl_assign rfl rfl (wl_assign rfl rfl (WL.nil (fun a ha => hK18 _ _ (W.ret ?_) a ha)))
  have hr := Option.some.inj hF
  subst hr
  exact rets (vs := [v20, (.bool true)]) hQ rfl ⟨rv_tmp rfl, rv_tmp rfl, trivial⟩ ⟨v20, F21, rfl, hB24, hS25.sel [0] rfl⟩
theorem C_spec_mvWithin (w0 : World) (x0 : ((Int × Int) × (Int × Int) × Int)) (x1 : Int) (r : Bool) (hF : F_spec_mvWithin x0 x1 = some r) :
  Calls Try.prog 210 [(.agg #[(.int .i64 x0.1.1), (.int .i64 x0.1.2), (.int .i64 x0.2.1.1), (.int .i64 x0.2.1.2), (.int .i64 x0.2.2)]), (.int .i64 x1)].toArray w0 fun e w' => e = .returned (.bool r) ∧ Below w0.heap.size w0 w' := by
 refine calls_mk' Try.func210 rfl Try.ntmps210 rfl rfl fun Q hQ hP => ?_
 have hB : Below w0.heap.size w0 w0 := Below.refl _ _
 have hS : Sep w0.heap.size w0 [] := Sep.nil _ _
 unfold F_spec_mvWithin at hF
 refine W.seq fun K1 hK1 => W.region (wl_box (cs := [(.int .i64 x0.1.1), (.int .i64 x0.1.2), (.int .i64 x0.2.1.1), (.int .i64 x0.2.1.2), (.int .i64 x0.2.2)]) rfl rfl rfl hB hS ?_)
 intro b2 w3 hb4 hB5 hS6
 refine wl_assign rfl rfl (WL.nil (fun a ha => hK1 _ _ (W.seq fun K7 hK7 => (W.regionH mixed_ [] hB5 hS6 ?_)) a ha))
 intro w8 hb9 hB10 hS11
 have hSW12 := KeepX.refl w8 []
 refine WH.tk 0 rfl hP hSW12 (pr_field (o := 0) (off' := 0) ff_70_0 rfl rfl rfl (WH.tk 1 rfl hP hSW12 (pr_load_blk (i := 0) (vs := [(.int .i64 x0.1.1), (.int .i64 x0.1.2)]) (v := (.agg #[(.int .i64 x0.1.1), (.int .i64 x0.1.2)])) tf_68 rfl rfl hS11 rfl rfl rfl (by simp) (WH.tk 2 rfl hP hSW12 (pr_field (o := 2) (off' := 2) ff_70_1 rfl rfl rfl (WH.tk 3 rfl hP hSW12 (pr_load_blk (i := 0) (vs := [(.int .i64 x0.2.1.1), (.int .i64 x0.2.1.2)]) (v := (.agg #[(.int .i64 x0.2.1.1), (.int .i64 x0.2.1.2)])) tf_68 rfl rfl hS11 rfl rfl rfl (by simp) (WH.tk 5 rfl hP hSW12 (pr_move rfl rfl (WH.tk 6 rfl hP hSW12 (pr_move rfl rfl (WH.tk 7 rfl hP hSW12 (pr_mul rfl rfl rfl ?_)))))))))))))
 refine WH.tk 8 rfl hP hSW12 (pr_field (o := 4) (off' := 4) ff_70_2 rfl rfl rfl (WH.tk 9 rfl hP hSW12 (pr_load_blk (i := 0) (vs := [(.int .i64 x0.2.2)]) (v := (.int .i64 x0.2.2)) tf_3 rfl rfl hS11 rfl rfl rfl (by simp) (WH.tk 10 rfl hP hSW12 (pr_mul rfl rfl rfl (WH.tk 11 rfl hP hSW12 (pr_field (o := 4) (off' := 4) ff_70_2 rfl rfl rfl (WH.tk 12 rfl hP hSW12 (pr_load_blk (i := 0) (vs := [(.int .i64 x0.2.2)]) (v := (.int .i64 x0.2.2)) tf_3 rfl rfl hS11 rfl rfl rfl (by simp) (WH.tk 13 rfl hP hSW12 (pr_mul rfl rfl rfl (WH.on1 4 rfl ?_))))))))))))
 obtain ⟨u13, hu13, hF⟩ := bindE hF
 refine wl_call rfl Try.call197 (C_spec_stSquare w8 x0.1 x0.2.1 _ hu13) rfl ?_
 rintro _ w14 ⟨rfl, hb15⟩
 refine ⟨_, rfl, ?_⟩
 have hB16 := hB10.trans (hb15.mono hB10.size)
 have hSW19 := hSW12.ext hb15
 refine WL.nil (WH.ret hSW19 (WH.tk 14 rfl hP hSW19 (pr_leq rfl rfl rfl (WH.tk 15 rfl hP hSW19 (pr_assign rfl rfl (WH.done (by kernel_rfl) (fun a ha => hK7 _ _ (W.ret ?_) a ha)))))))
 have hr := Option.some.inj hF
 subst hr
 exact rets (vs := [(.bool (decide (u13 ≤ (w64 ((w64 ((w64 (x1 * x1)) * x0.2.2)) * x0.2.2)))))]) hQ rfl ⟨rv_tmp rfl, trivial⟩ ⟨rfl, hB16⟩
theorem C_spec_swWide (w0 : World) (x0 : ((List (List (Int × Int))) × (List Int) × Int × Int)) (v0_0 : Value) (h0_0 : rdS ty_63 (· < w0.heap.size) w0 v0_0 x0.1) (v0_1 : Value) (h0_1 : rdS ty_3 (· < w0.heap.size) w0 v0_1 x0.2.1) (x1 : Int) (r : (List Int)) (hF : F_spec_swWide x0 x1 = some r) :
  Calls Try.prog 182 [(.agg #[v0_0, v0_1, (.int .i64 x0.2.2.1), (.int .i64 x0.2.2.2)]), (.int .i64 x1)].toArray w0 fun e w' => ∃ (q0 : Value) (G0 : List Nat), e = .returned q0 ∧ Below w0.heap.size w0 w' ∧ Sep w0.heap.size w' [R.own ty_3 G0 q0 r] := by
 refine calls_mk' Try.func182 rfl Try.ntmps182 rfl rfl fun Q hQ hP => ?_
 have hB : Below w0.heap.size w0 w0 := Below.refl _ _
 have hS : Sep w0.heap.size w0 [] := Sep.nil _ _
 unfold F_spec_swWide at hF
 refine W.seq fun K1 hK1 => W.region (wl_box (cs := [v0_0, v0_1, (.int .i64 x0.2.2.1), (.int .i64 x0.2.2.2)]) rfl rfl rfl hB hS ?_)
 intro b2 w3 hb4 hB5 hS6
 refine wl_assign rfl rfl (WL.nil (fun a ha => hK1 _ _ (W.seq fun K7 hK7 => (W.region (wl_assign rfl rfl (WL.nil (fun a ha => hK7 _ _ (W.seq fun K8 hK8 => (W.seq fun K9 hK9 => (W.region (wl_load_blk (i := 0) (vs := [v0_0, v0_1, (.int .i64 x0.2.2.1), (.int .i64 x0.2.2.2)]) (v := (.agg #[v0_0, v0_1, (.int .i64 x0.2.2.1), (.int .i64 x0.2.2.2)])) tf_53 rfl rfl hS6 rfl rfl rfl (wl_move rfl rfl ?_))))) a ha))))) a ha))
 obtain ⟨u10, hu10, hF⟩ := bindE hF
 refine wl_call rfl Try.call160 (C_spec_swMoves w3 x0 v0_0 (h0_0.ro hB5) v0_1 (h0_1.ro hB5) x1 _ hu10) rfl ?_
 rintro _ w13 ⟨v11, F12, rfl, hb14, hM17⟩
 refine ⟨_, rfl, ?_⟩
 have hB15 := hB5.trans (hb14.mono hB5.size)
 have hS16 := hS6.join hb14 hM17 hB5.size
 refine wl_lenr (e := ty_70) (l := u10) Try.underlying64 rfl rfl (hS16.own_ro (i := 0) rfl) (wl_move rfl rfl (WL.nil (fun a ha => hK9 _ _ (W.block (W.loopk (fun m a w18 => ∃ (l21 : (List Int)) (y24 : Int) (v22 : Value) (F23 : List Nat), St 28 [(2, (.pointer (some ⟨b2, 0, none⟩))), (5, v22), (10, v11), (11, (.int .i64 (List.length u10 : Int))), (12, (.int .i64 y24))] a ∧ Below w0.heap.size w0 w18 ∧ Sep w0.heap.size w18 [R.blk b2 53 [v0_0, v0_1, (.int .i64 x0.2.2.1), (.int .i64 x0.2.2.2)], R.own ty_3 F23 v22 l21, R.own ty_70 F12 v11 u10] ∧ F_spec_swWide_L1 u10 x0 m l21 y24 = some r) FU ?_ ?_)) a ha)))
 ·
  have hS26 := hS16.push0 (r := R.own ty_3 [] (.slice none 0 0) []) rfl fun _ => .inl ⟨rfl, rfl, rfl⟩
  exact fun a ha => ⟨[], 0, (.slice none 0 0), [], ha.sub ⟨rfl, rfl, rfl, rfl, rfl, trivial⟩, hB15, (hS26.sel [2, 0, 1] rfl), hF⟩
 ·
  rintro m28 a w18 ⟨l21, y24, v22, F23, ha, hB19, hS20, hF⟩ KL27 hKL27
  refine W.at ?_ ha
  cases m28 with
  | zero => exact noneE hF
  | succ m28 =>
   obtain ⟨nx25, hnx25⟩ : ∃ k, k = F_spec_swWide_L1 u10 x0 m28 := ⟨_, rfl⟩
   rw [F_spec_swWide_L1, ← hnx25] at hF
   refine W.seq fun K29 hK29 => W.region (wl_lss rfl rfl rfl (WL.nil (fun a ha => hK29 _ _ (W.seq fun K30 hK30 => (W.cond rfl (fun h31 => ?_) (fun h31 => ?_))) a ha)))
   ·replace hF := ifP h31 hF
    refine W.skip fun a ha => hK30 _ _ (W.seq fun K32 hK32 => ?_) a ha
    obtain ⟨k39, hk39, hF⟩ := jE1 hF
    have hJ40 : ∀ (l36 : (List Int)) (v37 : Value) (F38 : List Nat) (w33 : World) (_ : k39 l36 = some r) (_ : Below w0.heap.size w0 w33) (_ : Sep w0.heap.size w33 [R.blk b2 53 [v0_0, v0_1, (.int .i64 x0.2.2.1), (.int .i64 x0.2.2.2)], R.own ty_3 F38 v37 l36, R.own ty_70 F12 v11 u10]), ∀ a, St 28 [(2, (.pointer (some ⟨b2, 0, none⟩))), (5, v37), (10, v11), (11, (.int .i64 (List.length u10 : Int))), (12, (.int .i64 y24))] a → K32 a w33 := by
     intro l36 v37 F38 w33 hF hB34 hS35
     subst hk39
     refine fun a ha => hK32 _ _ (W.region (wl_add rfl rfl rfl (wl_move rfl rfl (WL.nil ?_)))) a ha
     rw [hnx25] at hF
     exact fun a ha => hKL27 a _ m28 (Nat.lt_succ_self m28) ⟨l36, (w64 (y24 + 1)), v37, F38, ha.sub ⟨rfl, rfl, rfl, rfl, rfl, trivial⟩, hB34, (hS35.sel [0, 1, 2] rfl), hF⟩
    refine W.block (W.seq fun K41 hK41 => (W.region (wl_move rfl rfl ?_)))
    obtain ⟨u42, hu42, hF⟩ := bindE hF
    refine wl_indexo (e := ty_70) (i := 2) Try.underlying64 rfl rfl rfl hS20 rfl hu42 ?_
    rintro p43 _ rfl hp44 ho45
    refine wl_load_p (vs := [(.int .i64 u42.1.1), (.int .i64 u42.1.2), (.int .i64 u42.2.1.1), (.int .i64 u42.2.1.2), (.int .i64 u42.2.2)]) (v := (.agg #[(.int .i64 u42.1.1), (.int .i64 u42.1.2), (.int .i64 u42.2.1.1), (.int .i64 u42.2.1.2), (.int .i64 u42.2.2)])) tf_70 rfl rfl hp44 rfl rfl (wl_alloc (cs := [(.int .i64 0), (.int .i64 0), (.int .i64 0), (.int .i64 0), (.int .i64 0)]) tf_70 rfl rfl hB19 hS20 ?_)
    intro b46 w47 hb48 hB49 hS50
    refine wl_assign rfl rfl (wl_store_blk (i := 0) (vs := [(.int .i64 u42.1.1), (.int .i64 u42.1.2), (.int .i64 u42.2.1.1), (.int .i64 u42.2.1.2), (.int .i64 u42.2.2)]) (cs' := [(.int .i64 u42.1.1), (.int .i64 u42.1.2), (.int .i64 u42.2.1.1), (.int .i64 u42.2.1.2), (.int .i64 u42.2.2)]) tf_70 rfl rfl rfl rfl hB49 hS50 rfl rfl ⟨rfl, rfl, rfl, rfl, rfl, trivial⟩ rfl ?_)
    intro w51 hk54 hB52 hS53
    refine WL.nil fun a ha => hK41 _ _ (W.seq fun K55 hK55 => (W.region (wl_load_blk (i := 0) (vs := [(.int .i64 u42.1.1), (.int .i64 u42.1.2), (.int .i64 u42.2.1.1), (.int .i64 u42.2.1.2), (.int .i64 u42.2.2)]) (v := (.agg #[(.int .i64 u42.1.1), (.int .i64 u42.1.2), (.int .i64 u42.2.1.1), (.int .i64 u42.2.1.2), (.int .i64 u42.2.2)])) tf_70 rfl rfl hS53 rfl rfl rfl (wl_field (o := 3) (off' := 3) ff_53_3 rfl rfl rfl (wl_load_blk (i := 1) (vs := [(.int .i64 x0.2.2.2)]) (v := (.int .i64 x0.2.2.2)) tf_3 rfl rfl hS53 rfl rfl rfl ?_))))) a ha
    obtain ⟨u56, hu56, hF⟩ := bindE hF
    refine wl_call rfl Try.call210 (C_spec_mvWithin w51 u42 x0.2.2.2 _ hu56) rfl ?_
    rintro _ w57 ⟨rfl, hb58⟩
    refine ⟨_, rfl, ?_⟩
    have hB59 := hB52.trans (hb58.mono hB52.size)
    have hS60 := hS53.below hb58
    refine wl_not rfl rfl (WL.nil (fun a ha => hK55 _ _ (W.cond rfl (fun h62 => ?_) (fun h62 => ?_)) a ha))
    ·replace hF := ifP h62 hF
     refine W.region (wl_move rfl rfl (wl_move rfl rfl (wl_lit (vs := [(.int .i64 y24)]) (l := [y24]) fl_3 Try.underlying29 rfl rfl rfl rfl rfl rfl hB59 hS60 ?_)))
     intro v63 F64 w65 hb66 hB67 hS68
     obtain ⟨u69, hu69, hF⟩ := bindE hF
     refine wl_append (i := 3) (S := (· < w65.heap.size)) fl_3 Try.underlying29 rfl rfl rfl hB67 hS68 rfl (hS68.own_ro (i := 0) rfl) hu69 ?_
     intro v70 F71 w72 hk73 hB74 hS75
     refine wl_assign rfl rfl (WL.nil ?_)
     exact fun a ha => hJ40 (u69) (v70) (F71) _ hF hB74 (hS75.sel [2, 3, 4] rfl) a (ha.sub ⟨rfl, rfl, rfl, rfl, rfl, trivial⟩)
    ·replace hF := ifN h62 hF
     refine W.skip ?_
     exact fun a ha => hJ40 (l21) (v22) (F23) _ hF hB59 (hS60.sel [1, 2, 3] rfl) a (ha.sub ⟨rfl, rfl, rfl, rfl, rfl, trivial⟩)
   ·replace hF := ifN h31 hF
    refine W.exit fun a ha => hK8 _ _ (W.seq fun K76 hK76 => (W.region (wl_move rfl rfl (wl_assign rfl rfl (WL.nil (fun a ha => hK76 _ _ (W.ret ?_) a ha)))))) a ha
    have hr := Option.some.inj hF
    subst hr
    exact rets (vs := [v22]) hQ rfl ⟨rv_tmp rfl, trivial⟩ ⟨v22, F23, rfl, hB19, hS20.sel [1] rfl⟩
theorem C_spec_WideSteps (w0 : World) (x0 : ((List (List (Int × Int))) × (List Int) × Int × Int)) (v0_0 : Value) (h0_0 : rdS ty_63 (· < w0.heap.size) w0 v0_0 x0.1) (v0_1 : Value) (h0_1 : rdS ty_3 (· < w0.heap.size) w0 v0_1 x0.2.1) (x1 : Int) (r : ((List Int) × Bool)) (hF : F_spec_WideSteps x0 x1 = some r) :
  Calls Try.prog 70 [(.agg #[v0_0, v0_1, (.int .i64 x0.2.2.1), (.int .i64 x0.2.2.2)]), (.int .i64 x1)].toArray w0 fun e w' => ∃ (q0 : Value) (G0 : List Nat), e = .returned (.tuple #[q0, (.bool r.2)]) ∧ Below w0.heap.size w0 w' ∧ Sep w0.heap.size w' [R.own ty_3 G0 q0 r.1] := by
 refine calls_mk' Try.func70 rfl Try.ntmps70 rfl rfl fun Q hQ hP => ?_
 have hB : Below w0.heap.size w0 w0 := Below.refl _ _
 have hS : Sep w0.heap.size w0 [] := Sep.nil _ _
 unfold F_spec_WideSteps at hF
 refine W.seq fun K1 hK1 => W.region (wl_box (cs := [v0_0, v0_1, (.int .i64 x0.2.2.1), (.int .i64 x0.2.2.2)]) rfl rfl rfl hB hS ?_)
 intro b2 w3 hb4 hB5 hS6
 refine wl_assign rfl rfl (wl_assign rfl rfl (WL.nil (fun a ha => hK1 _ _ (W.seq fun K7 hK7 => (W.seq fun K8 hK8 => (W.region (wl_load_blk (i := 0) (vs := [v0_0, v0_1, (.int .i64 x0.2.2.1), (.int .i64 x0.2.2.2)]) (v := (.agg #[v0_0, v0_1, (.int .i64 x0.2.2.1), (.int .i64 x0.2.2.2)])) tf_53 rfl rfl hS6 rfl rfl rfl (wl_move rfl rfl ?_))))) a ha)))
 obtain ⟨u9, hu9, hF⟩ := bindE hF
 refine wl_call rfl Try.call179 (C_spec_swHas w3 x0 v0_0 (h0_0.ro hB5) v0_1 (h0_1.ro hB5) x1 _ hu9) rfl ?_
 rintro _ w10 ⟨rfl, hb11⟩
 refine ⟨_, rfl, ?_⟩
 have hB12 := hB5.trans (hb11.mono hB5.size)
 have hS13 := hS6.below hb11
 refine wl_not rfl rfl (WL.nil (fun a ha => hK8 _ _ (W.cond rfl (fun h15 => ?_) (fun h15 => ?_)) a ha))
 ·replace hF := ifP h15 hF
  refine W.seq fun K16 hK16 => W.region (wl_assign rfl rfl (wl_assign rfl rfl (WL.nil (fun a ha => hK16 _ _ (W.ret ?_) a ha))))
  have hS17 := hS13.push0 (r := R.own ty_3 [] (.slice none 0 0) []) rfl fun _ => .inl ⟨rfl, rfl, rfl⟩
  have hr := Option.some.inj hF
  subst hr
  exact rets (vs := [(.slice none 0 0), (.bool false)]) hQ rfl ⟨rv_tmp rfl, rv_tmp rfl, trivial⟩ ⟨(.slice none 0 0), [], rfl, hB12, hS17.sel [0] rfl⟩
 ·replace hF := ifN h15 hF
  refine W.skip fun a ha => hK7 _ _ (W.seq fun K18 hK18 => (W.region (wl_load_blk (i := 0) (vs := [v0_0, v0_1, (.int .i64 x0.2.2.1), (.int .i64 x0.2.2.2)]) (v := (.agg #[v0_0, v0_1, (.int .i64 x0.2.2.1), (.int .i64 x0.2.2.2)])) tf_53 rfl rfl hS13 rfl rfl rfl (wl_move rfl rfl ?_)))) a ha
  obtain ⟨u19, hu19, hF⟩ := bindE hF
  refine wl_call rfl Try.call182 (C_spec_swWide w10 x0 v0_0 (h0_0.ro hB12) v0_1 (h0_1.ro hB12) x1 _ hu19) rfl ?_
  rintro _ w22 ⟨v20, F21, rfl, hb23, hM26⟩
  refine ⟨_, rfl, ?_⟩
  have hB24 := hB12.trans (hb23.mono hB12.size)
  have hS25 := hS13.join hb23 hM26 hB12.size
  refine wl_assign rfl rfl (wl_assign rfl rfl (WL.nil (fun a ha => hK18 _ _ (W.ret ?_) a ha)))
  have hr := Option.some.inj hF
  subst hr
  exact rets (vs := [v20, (.bool true)]) hQ rfl ⟨rv_tmp rfl, rv_tmp rfl, trivial⟩ ⟨v20, F21, rfl, hB24, hS25.sel [0] rfl⟩
theorem C_impl_unsafParts (w0 : World) (x0 : ((List (List (Int × Int))) × (List Int) × Int × Int)) (v0_0 : Value) (h0_0 : rdS ty_63 (· < w0.heap.size) w0 v0_0 x0.1) (v0_1 : Value) (h0_1 : rdS ty_3 (· < w0.heap.size) w0 v0_1 x0.2.1) (r : (List Int)) (hF : F_impl_unsafParts x0 = some r) :
  Calls Try.prog 184 [(.agg #[v0_0, v0_1, (.int .i64 x0.2.2.1), (.int .i64 x0.2.2.2)])].toArray w0 fun e w' => ∃ (q0 : Value) (G0 : List Nat), e = .returned q0 ∧ Below w0.heap.size w0 w' ∧ Sep w0.heap.size w' [R.own ty_3 G0 q0 r] := by
 refine calls_mk' Try.func184 rfl Try.ntmps184 rfl rfl fun Q hQ hP => ?_
 have hB : Below w0.heap.size w0 w0 := Below.refl _ _
 have hS : Sep w0.heap.size w0 [] := Sep.nil _ _
 unfold F_impl_unsafParts at hF
 refine W.seq fun K1 hK1 => W.region (wl_box (cs := [v0_0, v0_1, (.int .i64 x0.2.2.1), (.int .i64 x0.2.2.2)]) rfl rfl rfl hB hS ?_)
 intro b2 w3 hb4 hB5 hS6
 refine wl_assign rfl rfl (WL.nil (fun a ha => hK1 _ _ (W.seq fun K7 hK7 => (W.region (wl_lit (vs := []) (l := []) fl_3 Try.underlying29 rfl rfl rfl rfl rfl rfl hB5 hS6 ?_))) a ha))
 intro v8 F9 w10 hb11 hB12 hS13
 refine wl_assign rfl rfl (WL.nil (fun a ha => hK7 _ _ (W.seq fun K14 hK14 => (W.seq fun K15 hK15 => (W.region (wl_field (o := 1) (off' := 1) ff_53_1 rfl rfl rfl (wl_load_blk (i := 1) (vs := [v0_1]) (v := v0_1) tf_29 rfl rfl hS13 rfl rfl rfl (wl_lenr (e := ty_3) (l := x0.2.1) Try.underlying29 rfl rfl h0_1 (wl_move rfl rfl (WL.nil (fun a ha => hK15 _ _ (W.block (W.loopk (fun m a w16 => ∃ (l19 : (List Int)) (y22 : Int) (v20 : Value) (F21 : List Nat), St 33 [(1, (.pointer (some ⟨b2, 0, none⟩))), (3, v20), (8, (.int .i64 (List.length x0.2.1 : Int))), (9, (.int .i64 y22))] a ∧ Below w0.heap.size w0 w16 ∧ Sep w0.heap.size w16 [R.blk b2 53 [v0_0, v0_1, (.int .i64 x0.2.2.1), (.int .i64 x0.2.2.2)], R.own ty_3 F21 v20 l19] ∧ F_impl_unsafParts_L1 x0 m l19 y22 = some r) FU ?_ ?_)) a ha))))))))) a ha))
 ·
  exact fun a ha => ⟨[], 0, v8, F9, ha.sub ⟨rfl, rfl, rfl, rfl, trivial⟩, hB12, (hS13.sel [1, 0] rfl), hF⟩
 ·
  rintro m25 a w16 ⟨l19, y22, v20, F21, ha, hB17, hS18, hF⟩ KL24 hKL24
  refine W.at ?_ ha
  cases m25 with
  | zero => exact noneE hF
  | succ m25 =>
   obtain ⟨nx23, hnx23⟩ : ∃ k, k = F_impl_unsafParts_L1 x0 m25 := ⟨_, rfl⟩
   rw [F_impl_unsafParts_L1, ← hnx23] at hF
   refine W.seq fun K26 hK26 => W.region (wl_lss rfl rfl rfl (WL.nil (fun a ha => hK26 _ _ (W.seq fun K27 hK27 => (W.cond rfl (fun h28 => ?_) (fun h28 => ?_))) a ha)))
   ·replace hF := ifP h28 hF
    refine W.skip fun a ha => hK27 _ _ (W.seq fun K29 hK29 => ?_) a ha
    obtain ⟨k36, hk36, hF⟩ := jE1 hF
    have hJ37 : ∀ (l33 : (List Int)) (v34 : Value) (F35 : List Nat) (w30 : World) (_ : k36 l33 = some r) (_ : Below w0.heap.size w0 w30) (_ : Sep w0.heap.size w30 [R.blk b2 53 [v0_0, v0_1, (.int .i64 x0.2.2.1), (.int .i64 x0.2.2.2)], R.own ty_3 F35 v34 l33]), ∀ a, St 33 [(1, (.pointer (some ⟨b2, 0, none⟩))), (3, v34), (8, (.int .i64 (List.length x0.2.1 : Int))), (9, (.int .i64 y22))] a → K29 a w30 := by
     intro l33 v34 F35 w30 hF hB31 hS32
     subst hk36
     refine fun a ha => hK29 _ _ (W.region (wl_add rfl rfl rfl (wl_move rfl rfl (WL.nil ?_)))) a ha
     rw [hnx23] at hF
     exact fun a ha => hKL24 a _ m25 (Nat.lt_succ_self m25) ⟨l33, (w64 (y22 + 1)), v34, F35, ha.sub ⟨rfl, rfl, rfl, rfl, trivial⟩, hB31, (hS32.sel [0, 1] rfl), hF⟩
    refine W.block (W.seq fun K38 hK38 => (W.region (wl_move rfl rfl (wl_assign rfl rfl (WL.nil (fun a ha => hK38 _ _ (W.seq fun K39 hK39 => ?_) a ha))))))
    obtain ⟨k44, hk44, hF⟩ := jE1 hF
    have hJ45 : ∀ (y43 : Bool) (w40 : World) (_ : k44 y43 = some r) (_ : Below w0.heap.size w0 w40) (_ : Sep w0.heap.size w40 [R.blk b2 53 [v0_0, v0_1, (.int .i64 x0.2.2.1), (.int .i64 x0.2.2.2)], R.own ty_3 F21 v20 l19]), ∀ a, St 33 [(1, (.pointer (some ⟨b2, 0, none⟩))), (3, v20), (4, (.int .i64 y22)), (8, (.int .i64 (List.length x0.2.1 : Int))), (9, (.int .i64 y22)), (26, (.bool y43))] a → K39 a w40 := by
     intro y43 w40 hF hB41 hS42
     subst hk44
     refine fun a ha => hK39 _ _ (W.cond rfl (fun h46 => ?_) (fun h46 => ?_)) a ha
     ·replace hF := ifP h46 hF
      refine W.region (wl_move rfl rfl (wl_move rfl rfl (wl_lit (vs := [(.int .i64 y22)]) (l := [y22]) fl_3 Try.underlying29 rfl rfl rfl rfl rfl rfl hB41 hS42 ?_)))
      intro v47 F48 w49 hb50 hB51 hS52
      obtain ⟨u53, hu53, hF⟩ := bindE hF
      refine wl_append (i := 2) (S := (· < w49.heap.size)) fl_3 Try.underlying29 rfl rfl rfl hB51 hS52 rfl (hS52.own_ro (i := 0) rfl) hu53 ?_
      intro v54 F55 w56 hk57 hB58 hS59
      refine wl_assign rfl rfl (WL.nil ?_)
      exact fun a ha => hJ37 (u53) (v54) (F55) _ hF hB58 (hS59.sel [1, 2] rfl) a (ha.sub ⟨rfl, rfl, rfl, rfl, trivial⟩)
     ·replace hF := ifN h46 hF
      refine W.skip ?_
      exact fun a ha => hJ37 (l19) (v20) (F21) _ hF hB41 (hS42.sel [0, 1] rfl) a (ha.sub ⟨rfl, rfl, rfl, rfl, trivial⟩)
    refine W.regionH mixed_ [] hB17 hS18 ?_
    intro w60 hb61 hB62 hS63
    have hSW64 := KeepX.refl w60 []
    refine WH.tk 0 rfl hP hSW64 (pr_load_blk (i := 0) (vs := [v0_0, v0_1, (.int .i64 x0.2.2.1), (.int .i64 x0.2.2.2)]) (v := (.agg #[v0_0, v0_1, (.int .i64 x0.2.2.1), (.int .i64 x0.2.2.2)])) tf_53 rfl rfl hS63 rfl rfl rfl (by simp) (WH.tk 1 rfl hP hSW64 (pr_move rfl rfl (WH.on1 2 rfl ?_))))
    obtain ⟨u65, hu65, hF⟩ := bindE hF
    refine wl_call rfl Try.call181 (C_impl_wideSteps w60 x0 v0_0 (h0_0.ro hB62) v0_1 (h0_1.ro hB62) y22 _ hu65) rfl ?_
    rintro _ w68 ⟨v66, F67, rfl, hb69, hM72⟩
    refine ⟨_, rfl, ?_⟩
    have hB70 := hB62.trans (hb69.mono hB62.size)
    have hS71 := hS63.join hb69 hM72 hB62.size
    have hSW74 := hSW64.ext hb69
    refine WL.nil (WH.ret hSW74 (WH.tk 3 rfl hP hSW74 (pr_lenr (e := ty_3) (l := u65) Try.underlying29 rfl rfl (hS71.own_ro (i := 0) rfl) (WH.tk 4 rfl hP hSW74 (pr_gtr rfl rfl rfl (WH.tk 5 rfl hP hSW74 (pr_move rfl rfl ?_)))))))
    rcases bE (decide (0 < (List.length u65 : Int))) with h75 | h75
    ·replace hF := ifP h75 hF
     refine WH.off (i := 6) rfl (by kernel_rfl) (by kernel_rfl) (by kernel_rfl) hP rfl rfl h75 rfl hSW74 (WH.off (i := 7) rfl (by kernel_rfl) (by kernel_rfl) (by kernel_rfl) hP rfl rfl h75 rfl hSW74 (WH.off (i := 8) rfl (by kernel_rfl) (by kernel_rfl) (by kernel_rfl) hP rfl rfl h75 rfl hSW74 (WH.off (i := 9) rfl (by kernel_rfl) (by kernel_rfl) (by kernel_rfl) hP rfl rfl h75 rfl hSW74 (WH.off (i := 10) rfl (by kernel_rfl) (by kernel_rfl) (by kernel_rfl) hP rfl rfl h75 rfl hSW74 (WH.off (i := 11) rfl (by kernel_rfl) (by kernel_rfl) (by kernel_rfl) hP rfl rfl h75 rfl hSW74 (WH.off (i := 12) rfl (by kernel_rfl) (by kernel_rfl) (by kernel_rfl) hP rfl rfl h75 rfl hSW74 (WH.off (i := 13) rfl (by kernel_rfl) (by kernel_rfl) (by kernel_rfl) hP rfl rfl h75 rfl hSW74 (WH.tk 14 rfl hP hSW74 (pr_pick_t rfl rfl h75 rfl (WH.done (by kernel_rfl) ?_))))))))))
     exact fun a ha => hJ45 (true) _ hF hB70 (hS71.sel [1, 2] rfl) a (ha.sub ⟨rfl, rfl, rfl, rfl, rfl, rfl, trivial⟩)
    ·replace hF := ifN h75 hF
     refine WH.takexg (i := 6) rfl (by kernel_rfl) (by kernel_rfl) (by kernel_rfl) hP rfl rfl h75 hSW74 (pr_load_blk (i := 0) (vs := [v0_0, v0_1, (.int .i64 x0.2.2.1), (.int .i64 x0.2.2.2)]) (v := (.agg #[v0_0, v0_1, (.int .i64 x0.2.2.1), (.int .i64 x0.2.2.2)])) tf_53 rfl rfl hS63 rfl rfl rfl (by simp) (WH.takexg (i := 7) rfl (by kernel_rfl) (by kernel_rfl) (by kernel_rfl) hP rfl rfl h75 hSW74 (pr_move rfl rfl (WH.takexg (i := 9) rfl (by kernel_rfl) (by kernel_rfl) (by kernel_rfl) hP rfl rfl h75 hSW74 (pr_field (o := 2) (off' := 2) ff_53_2 rfl rfl rfl (WH.takexg (i := 10) rfl (by kernel_rfl) (by kernel_rfl) (by kernel_rfl) hP rfl rfl h75 hSW74 (pr_load_blk (i := 0) (vs := [(.int .i64 x0.2.2.1)]) (v := (.int .i64 x0.2.2.1)) tf_3 rfl rfl hS63 rfl rfl rfl (by simp) (WH.on1 8 rfl (wl_on rfl rfl h75 ?_)))))))))
     obtain ⟨u76, hu76, hF⟩ := bindE hF
     refine wl_call rfl Try.call152 (C_impl_showMoves w68 x0 v0_0 (h0_0.ro hB70) v0_1 (h0_1.ro hB70) y22 _ hu76) rfl ?_
     rintro _ w79 ⟨v77, F78, rfl, hb80, hM83⟩
     refine ⟨_, rfl, ?_⟩
     have hB81 := hB70.trans (hb80.mono hB70.size)
     have hS82 := hS71.join hb80 hM83 hB70.size
     have hSW85 := hSW74.ext hb80
     refine WL.nil (WH.ret hSW85 (WH.on1 11 rfl (wl_on rfl rfl h75 ?_)))
     obtain ⟨u86, hu86, hF⟩ := bindE hF
     refine wl_call rfl Try.call162 (C_impl_pairsTooClose w79 u76 v77 (hS82.own_ro (i := 0) rfl) x0.2.2.1 _ hu86) rfl ?_
     rintro _ w89 ⟨v87, F88, rfl, hb90, hM93⟩
     refine ⟨_, rfl, ?_⟩
     have hB91 := hB81.trans (hb90.mono hB81.size)
     have hS92 := hS82.join hb90 hM93 hB81.size
     have hSW95 := hSW85.ext hb90
     refine WL.nil (WH.ret hSW95 (WH.takexg (i := 12) rfl (by kernel_rfl) (by kernel_rfl) (by kernel_rfl) hP rfl rfl h75 hSW95 (pr_lenr (e := ty_29) (l := u86) Try.underlying72 rfl rfl (hS92.own_ro (i := 0) rfl) (WH.takexg (i := 13) rfl (by kernel_rfl) (by kernel_rfl) (by kernel_rfl) hP rfl rfl h75 hSW95 (pr_gtr rfl rfl rfl (WH.tk 14 rfl hP hSW95 (pr_pick_f rfl rfl h75 rfl (WH.done (by kernel_rfl) ?_))))))))
     exact fun a ha => hJ45 ((decide (0 < (List.length u86 : Int)))) _ hF hB91 (hS92.sel [3, 4] rfl) a (ha.sub ⟨rfl, rfl, rfl, rfl, rfl, rfl, trivial⟩)
   ·replace hF := ifN h28 hF
    refine W.exit fun a ha => hK14 _ _ (W.seq fun K96 hK96 => (W.region (wl_move rfl rfl (wl_assign rfl rfl (WL.nil (fun a ha => hK96 _ _ (W.ret ?_) a ha)))))) a ha
    have hr := Option.some.inj hF
    subst hr
    exact rets (vs := [v20]) hQ rfl ⟨rv_tmp rfl, trivial⟩ ⟨v20, F21, rfl, hB17, hS18.sel [1] rfl⟩
theorem C_spec_swUnsafe (w0 : World) (x0 : ((List (List (Int × Int))) × (List Int) × Int × Int)) (v0_0 : Value) (h0_0 : rdS ty_63 (· < w0.heap.size) w0 v0_0 x0.1) (v0_1 : Value) (h0_1 : rdS ty_3 (· < w0.heap.size) w0 v0_1 x0.2.1) (r : (List Int)) (hF : F_spec_swUnsafe x0 = some r) :
  Calls Try.prog 186 [(.agg #[v0_0, v0_1, (.int .i64 x0.2.2.1), (.int .i64 x0.2.2.2)])].toArray w0 fun e w' => ∃ (q0 : Value) (G0 : List Nat), e = .returned q0 ∧ Below w0.heap.size w0 w' ∧ Sep w0.heap.size w' [R.own ty_3 G0 q0 r] := by
 refine calls_mk' Try.func186 rfl Try.ntmps186 rfl rfl fun Q hQ hP => ?_
 have hB : Below w0.heap.size w0 w0 := Below.refl _ _
 have hS : Sep w0.heap.size w0 [] := Sep.nil _ _
 unfold F_spec_swUnsafe at hF
 refine W.seq fun K1 hK1 => W.region (wl_box (cs := [v0_0, v0_1, (.int .i64 x0.2.2.1), (.int .i64 x0.2.2.2)]) rfl rfl rfl hB hS ?_)
 intro b2 w3 hb4 hB5 hS6
 refine wl_assign rfl rfl (WL.nil (fun a ha => hK1 _ _ (W.seq fun K7 hK7 => (W.region (wl_assign rfl rfl (WL.nil (fun a ha => hK7 _ _ (W.seq fun K8 hK8 => (W.seq fun K9 hK9 => (W.region (wl_field (o := 1) (off' := 1) ff_53_1 rfl rfl rfl (wl_load_blk (i := 0) (vs := [v0_1]) (v := v0_1) tf_29 rfl rfl hS6 rfl rfl rfl (wl_lenr (e := ty_3) (l := x0.2.1) Try.underlying29 rfl rfl h0_1 ?_)))))) a ha))))) a ha))
 refine wl_move rfl rfl (WL.nil (fun a ha => hK9 _ _ (W.block (W.loopk (fun m a w10 => ∃ (l13 : (List Int)) (y16 : Int) (v14 : Value) (F15 : List Nat), St 27 [(1, (.pointer (some ⟨b2, 0, none⟩))), (3, v14), (7, (.int .i64 (List.length x0.2.1 : Int))), (8, (.int .i64 y16))] a ∧ Below w0.heap.size w0 w10 ∧ Sep w0.heap.size w10 [R.blk b2 53 [v0_0, v0_1, (.int .i64 x0.2.2.1), (.int .i64 x0.2.2.2)], R.own ty_3 F15 v14 l13] ∧ F_spec_swUnsafe_L1 x0 m l13 y16 = some r) FU ?_ ?_)) a ha))
 ·
  have hS18 := hS6.push0 (r := R.own ty_3 [] (.slice none 0 0) []) rfl fun _ => .inl ⟨rfl, rfl, rfl⟩
  exact fun a ha => ⟨[], 0, (.slice none 0 0), [], ha.sub ⟨rfl, rfl, rfl, rfl, trivial⟩, hB5, (hS18.sel [1, 0] rfl), hF⟩
 ·
  rintro m20 a w10 ⟨l13, y16, v14, F15, ha, hB11, hS12, hF⟩ KL19 hKL19
  refine W.at ?_ ha
  cases m20 with
  | zero => exact noneE hF
  | succ m20 =>
   obtain ⟨nx17, hnx17⟩ : ∃ k, k = F_spec_swUnsafe_L1 x0 m20 := ⟨_, rfl⟩
   rw [F_spec_swUnsafe_L1, ← hnx17] at hF
   refine W.seq fun K21 hK21 => W.region (wl_lss rfl rfl rfl (WL.nil (fun a ha => hK21 _ _ (W.seq fun K22 hK22 => (W.cond rfl (fun h23 => ?_) (fun h23 => ?_))) a ha)))
   ·replace hF := ifP h23 hF
    refine W.skip fun a ha => hK22 _ _ (W.seq fun K24 hK24 => ?_) a ha
    obtain ⟨k31, hk31, hF⟩ := jE1 hF
    have hJ32 : ∀ (l28 : (List Int)) (v29 : Value) (F30 : List Nat) (w25 : World) (_ : k31 l28 = some r) (_ : Below w0.heap.size w0 w25) (_ : Sep w0.heap.size w25 [R.blk b2 53 [v0_0, v0_1, (.int .i64 x0.2.2.1), (.int .i64 x0.2.2.2)], R.own ty_3 F30 v29 l28]), ∀ a, St 27 [(1, (.pointer (some ⟨b2, 0, none⟩))), (3, v29), (7, (.int .i64 (List.length x0.2.1 : Int))), (8, (.int .i64 y16))] a → K24 a w25 := by
     intro l28 v29 F30 w25 hF hB26 hS27
     subst hk31
     refine fun a ha => hK24 _ _ (W.region (wl_add rfl rfl rfl (wl_move rfl rfl (WL.nil ?_)))) a ha
     rw [hnx17] at hF
     exact fun a ha => hKL19 a _ m20 (Nat.lt_succ_self m20) ⟨l28, (w64 (y16 + 1)), v29, F30, ha.sub ⟨rfl, rfl, rfl, rfl, trivial⟩, hB26, (hS27.sel [0, 1] rfl), hF⟩
    refine W.block (W.seq fun K33 hK33 => (W.region (wl_move rfl rfl (wl_assign rfl rfl (WL.nil (fun a ha => hK33 _ _ (W.seq fun K34 hK34 => (W.regionH mixed_ [] hB11 hS12 ?_)) a ha))))))
    intro w35 hb36 hB37 hS38
    have hSW39 := KeepX.refl w35 []
    refine WH.tk 0 rfl hP hSW39 (pr_load_blk (i := 0) (vs := [v0_0, v0_1, (.int .i64 x0.2.2.1), (.int .i64 x0.2.2.2)]) (v := (.agg #[v0_0, v0_1, (.int .i64 x0.2.2.1), (.int .i64 x0.2.2.2)])) tf_53 rfl rfl hS38 rfl rfl rfl (by simp) (WH.tk 1 rfl hP hSW39 (pr_move rfl rfl (WH.tk 4 rfl hP hSW39 (pr_load_blk (i := 0) (vs := [v0_0, v0_1, (.int .i64 x0.2.2.1), (.int .i64 x0.2.2.2)]) (v := (.agg #[v0_0, v0_1, (.int .i64 x0.2.2.1), (.int .i64 x0.2.2.2)])) tf_53 rfl rfl hS38 rfl rfl rfl (by simp) (WH.tk 5 rfl hP hSW39 (pr_move rfl rfl (WH.on1 2 rfl ?_))))))))
    obtain ⟨u40, hu40, hF⟩ := bindE hF
    refine wl_call rfl Try.call180 (C_spec_swClose w35 x0 v0_0 (h0_0.ro hB37) v0_1 (h0_1.ro hB37) y16 _ hu40) rfl ?_
    rintro _ w43 ⟨v41, F42, rfl, hb44, hM47⟩
    refine ⟨_, rfl, ?_⟩
    have hB45 := hB37.trans (hb44.mono hB37.size)
    have hS46 := hS38.join hb44 hM47 hB37.size
    have hSW49 := hSW39.ext hb44
    refine WL.nil (WH.ret hSW49 (WH.tk 3 rfl hP hSW49 (pr_lenr (e := ty_29) (l := u40) Try.underlying72 rfl rfl (hS46.own_ro (i := 0) rfl) (WH.on1 6 rfl ?_))))
    obtain ⟨u50, hu50, hF⟩ := bindE hF
    refine wl_call rfl Try.call182 (C_spec_swWide w43 x0 v0_0 (h0_0.ro hB45) v0_1 (h0_1.ro hB45) y16 _ hu50) rfl ?_
    rintro _ w53 ⟨v51, F52, rfl, hb54, hM57⟩
    refine ⟨_, rfl, ?_⟩
    have hB55 := hB45.trans (hb54.mono hB45.size)
    have hS56 := hS46.join hb54 hM57 hB45.size
    have hSW59 := hSW49.ext hb54
    refine WL.nil (WH.ret hSW59 (WH.tk 7 rfl hP hSW59 (pr_lenr (e := ty_3) (l := u50) Try.underlying29 rfl rfl (hS56.own_ro (i := 0) rfl) (WH.tk 8 rfl hP hSW59 (pr_add rfl rfl rfl (WH.tk 9 rfl hP hSW59 (pr_gtr rfl rfl rfl (WH.done (by kernel_rfl) (fun a ha => hK34 _ _ (W.cond rfl (fun h60 => ?_) (fun h60 => ?_)) a ha)))))))))
    ·replace hF := ifP h60 hF
     refine W.region (wl_move rfl rfl (wl_move rfl rfl (wl_lit (vs := [(.int .i64 y16)]) (l := [y16]) fl_3 Try.underlying29 rfl rfl rfl rfl rfl rfl hB55 hS56 ?_)))
     intro v61 F62 w63 hb64 hB65 hS66
     obtain ⟨u67, hu67, hF⟩ := bindE hF
     refine wl_append (i := 4) (S := (· < w63.heap.size)) fl_3 Try.underlying29 rfl rfl rfl hB65 hS66 rfl (hS66.own_ro (i := 0) rfl) hu67 ?_
     intro v68 F69 w70 hk71 hB72 hS73
     refine wl_assign rfl rfl (WL.nil ?_)
     exact fun a ha => hJ32 (u67) (v68) (F69) _ hF hB72 (hS73.sel [3, 4] rfl) a (ha.sub ⟨rfl, rfl, rfl, rfl, trivial⟩)
    ·replace hF := ifN h60 hF
     refine W.skip ?_
     exact fun a ha => hJ32 (l13) (v14) (F15) _ hF hB55 (hS56.sel [2, 3] rfl) a (ha.sub ⟨rfl, rfl, rfl, rfl, trivial⟩)
   ·replace hF := ifN h23 hF
    refine W.exit fun a ha => hK8 _ _ (W.seq fun K74 hK74 => (W.region (wl_move rfl rfl (wl_assign rfl rfl (WL.nil (fun a ha => hK74 _ _ (W.ret ?_) a ha)))))) a ha
    have hr := Option.some.inj hF
    subst hr
    exact rets (vs := [v14]) hQ rfl ⟨rv_tmp rfl, trivial⟩ ⟨v14, F15, rfl, hB11, hS12.sel [1] rfl⟩
theorem C_spec_UnsafeParts (w0 : World) (x0 : ((List (List (Int × Int))) × (List Int) × Int × Int)) (v0_0 : Value) (h0_0 : rdS ty_63 (· < w0.heap.size) w0 v0_0 x0.1) (v0_1 : Value) (h0_1 : rdS ty_3 (· < w0.heap.size) w0 v0_1 x0.2.1) (r : ((List Int) × Bool)) (hF : F_spec_UnsafeParts x0 = some r) :
  Calls Try.prog 77 [(.agg #[v0_0, v0_1, (.int .i64 x0.2.2.1), (.int .i64 x0.2.2.2)])].toArray w0 fun e w' => ∃ (q0 : Value) (G0 : List Nat), e = .returned (.tuple #[q0, (.bool r.2)]) ∧ Below w0.heap.size w0 w' ∧ Sep w0.heap.size w' [R.own ty_3 G0 q0 r.1] := by
 refine calls_mk' Try.func77 rfl Try.ntmps77 rfl rfl fun Q hQ hP => ?_
 have hB : Below w0.heap.size w0 w0 := Below.refl _ _
 have hS : Sep w0.heap.size w0 [] := Sep.nil _ _
 unfold F_spec_UnsafeParts at hF
 refine W.seq fun K1 hK1 => W.region (wl_box (cs := [v0_0, v0_1, (.int .i64 x0.2.2.1), (.int .i64 x0.2.2.2)]) rfl rfl rfl hB hS ?_)
 intro b2 w3 hb4 hB5 hS6
 refine wl_assign rfl rfl (wl_assign rfl rfl (WL.nil (fun a ha => hK1 _ _ (W.seq fun K7 hK7 => (W.seq fun K8 hK8 => (W.region (wl_load_blk (i := 0) (vs := [v0_0, v0_1, (.int .i64 x0.2.2.1), (.int .i64 x0.2.2.2)]) (v := (.agg #[v0_0, v0_1, (.int .i64 x0.2.2.1), (.int .i64 x0.2.2.2)])) tf_53 rfl rfl hS6 rfl rfl rfl ?_)))) a ha)))
 obtain ⟨u9, hu9, hF⟩ := bindE hF
 refine wl_call rfl Try.call145 (C_spec_swGood w3 x0 v0_0 (h0_0.ro hB5) v0_1 (h0_1.ro hB5) _ hu9) rfl ?_
 rintro _ w10 ⟨rfl, hb11⟩
 refine ⟨_, rfl, ?_⟩
 have hB12 := hB5.trans (hb11.mono hB5.size)
 have hS13 := hS6.below hb11
 refine wl_not rfl rfl (WL.nil (fun a ha => hK8 _ _ (W.cond rfl (fun h15 => ?_) (fun h15 => ?_)) a ha))
 ·replace hF := ifP h15 hF
  refine W.seq fun K16 hK16 => W.region (wl_assign rfl rfl (wl_assign rfl rfl (WL.nil (fun a ha => hK16 _ _ (W.ret ?_) a ha))))
  have hS17 := hS13.push0 (r := R.own ty_3 [] (.slice none 0 0) []) rfl fun _ => .inl ⟨rfl, rfl, rfl⟩
  have hr := Option.some.inj hF
  subst hr
  exact rets (vs := [(.slice none 0 0), (.bool false)]) hQ rfl ⟨rv_tmp rfl, rv_tmp rfl, trivial⟩ ⟨(.slice none 0 0), [], rfl, hB12, hS17.sel [0] rfl⟩
 ·replace hF := ifN h15 hF
  refine W.skip fun a ha => hK7 _ _ (W.seq fun K18 hK18 => (W.region (wl_load_blk (i := 0) (vs := [v0_0, v0_1, (.int .i64 x0.2.2.1), (.int .i64 x0.2.2.2)]) (v := (.agg #[v0_0, v0_1, (.int .i64 x0.2.2.1), (.int .i64 x0.2.2.2)])) tf_53 rfl rfl hS13 rfl rfl rfl ?_))) a ha
  obtain ⟨u19, hu19, hF⟩ := bindE hF
  refine wl_call rfl Try.call186 (C_spec_swUnsafe w10 x0 v0_0 (h0_0.ro hB12) v0_1 (h0_1.ro hB12) _ hu19) rfl ?_
  rintro _ w22 ⟨v20, F21, rfl, hb23, hM26⟩
  refine ⟨_, rfl, ?_⟩
  have hB24 := hB12.trans (hb23.mono hB12.size)
  have hS25 := hS13.join hb23 hM26 hB12.size
  refine wl_assign rfl rfl (wl_assign rfl rfl (WL.nil (fun a ha => hK18 _ _ (W.ret ?_) a ha)))
  have hr := Option.some.inj hF
  subst hr
  exact rets (vs := [v20, (.bool true)]) hQ rfl ⟨rv_tmp rfl, rv_tmp rfl, trivial⟩ ⟨v20, F21, rfl, hB24, hS25.sel [0] rfl⟩
theorem C_spec_DrawLeastCountsOf (w0 : World) (x0 : (List Int)) (v0_0 : Value) (h0_0 : rdS ty_5 (· < w0.heap.size) w0 v0_0 x0) (r : ((List (List (Int × Int))) × (List Int) × Int × Int)) (hF : F_spec_DrawLeastCountsOf x0 = some r) :
  Calls Try.prog 106 [v0_0].toArray w0 fun e w' => ∃ (q0 : Value) (G0 : List Nat) (q1 : Value) (G1 : List Nat), e = .returned (.agg #[q0, q1, (.int .i64 r.2.2.1), (.int .i64 r.2.2.2)]) ∧ Below w0.heap.size w0 w' ∧ Sep w0.heap.size w' [R.own ty_63 G0 q0 r.1, R.own ty_3 G1 q1 r.2.1] := by
 refine calls_mk' Try.func106 rfl Try.ntmps106 rfl rfl fun Q hQ hP => ?_
 have hB : Below w0.heap.size w0 w0 := Below.refl _ _
 have hS : Sep w0.heap.size w0 [] := Sep.nil _ _
 unfold F_spec_DrawLeastCountsOf at hF
 refine W.seq fun K1 hK1 => W.region (wl_alloc (cs := [(.slice none 0 0), (.slice none 0 0), (.int .i64 0), (.int .i64 0)]) tf_53 rfl rfl hB hS ?_)
 intro b2 w3 hb4 hB5 hS6
 refine WL.nil fun a ha => hK1 _ _ (W.seq fun K7 hK7 => (W.region (wl_move rfl rfl ?_))) a ha
 obtain ⟨u8, hu8, hF⟩ := bindE hF
 refine wl_call rfl Try.call39 (C_spec_DrawWaySums w3 x0 v0_0 (h0_0.ro hB5) _ hu8) rfl ?_
 rintro _ w13 ⟨v9, F10, v11, F12, rfl, hb14, hM17⟩
 refine ⟨_, rfl, ?_⟩
 have hB15 := hB5.trans (hb14.mono hB5.size)
 have hS16 := hS6.join hb14 hM17 hB5.size
 refine wl_store_blk (i := 2) (vs := [v9, v11, (.int .i64 u8.2.2.1), (.int .i64 u8.2.2.2)]) (cs' := [v9, v11, (.int .i64 u8.2.2.1), (.int .i64 u8.2.2.2)]) tf_53 rfl rfl rfl rfl hB15 hS16 rfl rfl ⟨(hS16.own_ro (i := 0) rfl).one, (hS16.own_ro (i := 1) rfl).one, rfl, rfl, trivial⟩ rfl ?_
 intro w18 hk21 hB19 hS20
 refine WL.nil fun a ha => hK7 _ _ (W.ret ?_) a ha
 have hr := Option.some.inj hF
 subst hr
 exact rets (vs := [(.agg #[v9, v11, (.int .i64 u8.2.2.1), (.int .i64 u8.2.2.2)])]) hQ rfl ⟨rv_cell (i := 2) tf_53 rfl hS20 rfl rfl rfl, trivial⟩ ⟨v9, F10, v11, F12, rfl, hB19, hS20.sel [0, 1] rfl⟩
theorem C_impl_LeastCounts (w0 : World) (x0 : (Int × Int)) (x1 : (Int × Int)) (x2 : Int) (r : (Int × Bool)) (hF : F_impl_LeastCounts x0 x1 x2 = some r) :
  Calls Try.prog 208 [(.agg #[(.int .i64 x0.1), (.int .i64 x0.2)]), (.agg #[(.int .i64 x1.1), (.int .i64 x1.2)]), (.int .i64 x2)].toArray w0 fun e w' => e = .returned (.tuple #[(.int .i64 r.1), (.bool r.2)]) ∧ Below w0.heap.size w0 w' := by
 refine calls_mk' Try.func208 rfl Try.ntmps208 rfl rfl fun Q hQ hP => ?_
 have hB : Below w0.heap.size w0 w0 := Below.refl _ _
 have hS : Sep w0.heap.size w0 [] := Sep.nil _ _
 unfold F_impl_LeastCounts at hF
 refine W.seq fun K1 hK1 => W.region (wl_box (cs := [(.int .i64 x0.1), (.int .i64 x0.2)]) rfl rfl rfl hB hS ?_)
 intro b2 w3 hb4 hB5 hS6
 refine wl_box (cs := [(.int .i64 x1.1), (.int .i64 x1.2)]) rfl rfl rfl hB5 hS6 ?_
 intro b7 w8 hb9 hB10 hS11
 refine wl_assign rfl rfl (wl_assign rfl rfl (WL.nil (fun a ha => hK1 _ _ (W.seq fun K12 hK12 => (W.seq fun K13 hK13 => ?_)) a ha)))
 obtain ⟨k18, hk18, hF⟩ := jE1 hF
 have hJ19 : ∀ (y17 : Bool) (w14 : World) (_ : k18 y17 = some r) (_ : Below w0.heap.size w0 w14) (_ : Sep w0.heap.size w14 [R.blk b2 68 [(.int .i64 x0.1), (.int .i64 x0.2)], R.blk b7 68 [(.int .i64 x1.1), (.int .i64 x1.2)]]), ∀ a, St 33 [(2, (.int .i64 x2)), (3, (.pointer (some ⟨b2, 0, none⟩))), (4, (.pointer (some ⟨b7, 0, none⟩))), (21, (.bool y17))] a → K13 a w14 := by
  intro y17 w14 hF hB15 hS16
  subst hk18
  refine fun a ha => hK13 _ _ (W.cond rfl (fun h20 => ?_) (fun h20 => ?_)) a ha
  ·replace hF := ifP h20 hF
   refine W.seq fun K21 hK21 => W.region (wl_assign rfl rfl (wl_assign rfl rfl (WL.nil (fun a ha => hK21 _ _ (W.ret ?_) a ha))))
   have hr := Option.some.inj hF
   subst hr
   exact rets (vs := [(.int .i64 0), (.bool false)]) hQ rfl ⟨rv_tmp rfl, rv_tmp rfl, trivial⟩ ⟨rfl, hB15⟩
  ·replace hF := ifN h20 hF
   refine W.skip fun a ha => hK12 _ _ (W.seq fun K22 hK22 => (W.seq fun K23 hK23 => (W.region (wl_assign rfl rfl (WL.nil (fun a ha => hK23 _ _ (W.block (W.loopk (fun m a w24 => ∃ (y27 : Int), St 33 [(2, (.int .i64 x2)), (3, (.pointer (some ⟨b2, 0, none⟩))), (4, (.pointer (some ⟨b7, 0, none⟩))), (8, (.int .i64 y27))] a ∧ Below w0.heap.size w0 w24 ∧ Sep w0.heap.size w24 [R.blk b2 68 [(.int .i64 x0.1), (.int .i64 x0.2)], R.blk b7 68 [(.int .i64 x1.1), (.int .i64 x1.2)]] ∧ F_impl_LeastCounts_L1 x0 x1 x2 m y27 = some r) FU ?_ ?_)) a ha)))))) a ha
   ·
    exact fun a ha => ⟨1, ha.sub ⟨rfl, rfl, rfl, rfl, trivial⟩, hB15, (hS16.sel [0, 1] rfl), hF⟩
   ·
    rintro m30 a w24 ⟨y27, ha, hB25, hS26, hF⟩ KL29 hKL29
    refine W.at ?_ ha
    cases m30 with
    | zero => exact noneE hF
    | succ m30 =>
     obtain ⟨nx28, hnx28⟩ : ∃ k, k = F_impl_LeastCounts_L1 x0 x1 x2 m30 := ⟨_, rfl⟩
     rw [F_impl_LeastCounts_L1, ← hnx28] at hF
     refine W.seq fun K31 hK31 => W.seq fun K32 hK32 => W.region (wl_move rfl rfl (wl_leq rfl rfl rfl (WL.nil (fun a ha => hK32 _ _ (W.cond rfl (fun h33 => ?_) (fun h33 => ?_)) a ha))))
     ·replace hF := ifP h33 hF
      refine W.skip fun a ha => hK31 _ _ (W.seq fun K34 hK34 => (W.block (W.seq fun K35 hK35 => (W.region (wl_load_blk (i := 0) (vs := [(.int .i64 x0.1), (.int .i64 x0.2)]) (v := (.agg #[(.int .i64 x0.1), (.int .i64 x0.2)])) tf_68 rfl rfl hS26 rfl rfl rfl (wl_load_blk (i := 1) (vs := [(.int .i64 x1.1), (.int .i64 x1.2)]) (v := (.agg #[(.int .i64 x1.1), (.int .i64 x1.2)])) tf_68 rfl rfl hS26 rfl rfl rfl (wl_move rfl rfl (wl_build (zs := [(.int .i64 0), (.int .i64 0), (.int .i64 0), (.int .i64 0), (.int .i64 0)]) (out := [(.int .i64 x0.1), (.int .i64 x0.2), (.int .i64 x1.1), (.int .i64 x1.2), (.int .i64 y27)]) (vs := [(.agg #[(.int .i64 x0.1), (.int .i64 x0.2)]), (.agg #[(.int .i64 x1.1), (.int .i64 x1.2)]), (.int .i64 y27)]) (css := [[(.int .i64 x0.1), (.int .i64 x0.2)], [(.int .i64 x1.1), (.int .i64 x1.2)], [(.int .i64 y27)]]) tf_70 pl_70 rfl rfl rfl rfl rfl (wl_move rfl rfl ?_))))))))) a ha
      obtain ⟨u36, hu36, hF⟩ := bindE hF
      refine wl_call rfl Try.call244 (C_impl_withinStep w24 (x0, x1, y27) x2 _ hu36) rfl ?_
      rintro _ w37 ⟨rfl, hb38⟩
      refine ⟨_, rfl, ?_⟩
      have hB39 := hB25.trans (hb38.mono hB25.size)
      have hS40 := hS26.below hb38
      refine WL.nil fun a ha => hK35 _ _ (W.cond rfl (fun h42 => ?_) (fun h42 => ?_)) a ha
      ·replace hF := ifP h42 hF
       refine W.seq fun K43 hK43 => W.region (wl_move rfl rfl (wl_assign rfl rfl (wl_assign rfl rfl (WL.nil (fun a ha => hK43 _ _ (W.ret ?_) a ha)))))
       have hr := Option.some.inj hF
       subst hr
       exact rets (vs := [(.int .i64 y27), (.bool true)]) hQ rfl ⟨rv_tmp rfl, rv_tmp rfl, trivial⟩ ⟨rfl, hB39⟩
      ·replace hF := ifN h42 hF
       refine W.skip fun a ha => hK34 _ _ (W.region (wl_move rfl rfl (wl_add rfl rfl rfl (wl_assign rfl rfl (WL.nil ?_))))) a ha
       rw [hnx28] at hF
       exact fun a ha => hKL29 a _ m30 (Nat.lt_succ_self m30) ⟨(w64 (y27 + 1)), ha.sub ⟨rfl, rfl, rfl, rfl, trivial⟩, hB39, (hS40.sel [0, 1] rfl), hF⟩
     ·replace hF := ifN h33 hF
      refine W.exit fun a ha => hK22 _ _ (W.seq fun K44 hK44 => (W.region (wl_assign rfl rfl (wl_assign rfl rfl (WL.nil (fun a ha => hK44 _ _ (W.ret ?_) a ha)))))) a ha
      have hr := Option.some.inj hF
      subst hr
      exact rets (vs := [(.int .i64 0), (.bool false)]) hQ rfl ⟨rv_tmp rfl, rv_tmp rfl, trivial⟩ ⟨rfl, hB25⟩
 refine W.region (wl_load_blk (i := 1) (vs := [(.int .i64 x0.1), (.int .i64 x0.2)]) (v := (.agg #[(.int .i64 x0.1), (.int .i64 x0.2)])) tf_68 rfl rfl hS11 rfl rfl rfl ?_)
 obtain ⟨u45, hu45, hF⟩ := bindE hF
 refine wl_call rfl Try.call164 (C_impl_IsSpot w8 x0 _ hu45) rfl ?_
 rintro _ w46 ⟨rfl, hb47⟩
 refine ⟨_, rfl, ?_⟩
 have hB48 := hB10.trans (hb47.mono hB10.size)
 have hS49 := hS11.below hb47
 refine wl_not rfl rfl (wl_move rfl rfl ?_)
 rcases bE (!u45) with h51 | h51
 ·replace hF := ifP h51 hF
  refine wl_off rfl rfl rfl h51 (wl_off rfl rfl rfl h51 (wl_off rfl rfl rfl h51 (wl_pick_t rfl rfl h51 rfl (wl_move rfl rfl (wl_off rfl rfl rfl rfl (wl_off rfl rfl rfl rfl (wl_off rfl rfl rfl rfl (wl_pick_t rfl rfl rfl rfl (WL.nil ?_)))))))))
  exact fun a ha => hJ19 (true) _ hF hB48 (hS49.sel [1, 0] rfl) a (ha.sub ⟨rfl, rfl, rfl, rfl, trivial⟩)
 ·replace hF := ifN h51 hF
  refine wl_on rfl rfl h51 (wl_load_blk (i := 0) (vs := [(.int .i64 x1.1), (.int .i64 x1.2)]) (v := (.agg #[(.int .i64 x1.1), (.int .i64 x1.2)])) tf_68 rfl rfl hS49 rfl rfl rfl (wl_on rfl rfl h51 ?_))
  obtain ⟨u52, hu52, hF⟩ := bindE hF
  refine wl_call rfl Try.call164 (C_impl_IsSpot w46 x1 _ hu52) rfl ?_
  rintro _ w53 ⟨rfl, hb54⟩
  refine ⟨_, rfl, ?_⟩
  have hB55 := hB48.trans (hb54.mono hB48.size)
  have hS56 := hS49.below hb54
  refine wl_on rfl rfl h51 (wl_not rfl rfl (wl_pick_f rfl rfl h51 rfl (wl_move rfl rfl ?_)))
  rcases bE (!u52) with h58 | h58
  ·replace hF := ifP h58 hF
   refine wl_off rfl rfl rfl h58 (wl_off rfl rfl rfl h58 (wl_off rfl rfl rfl h58 (wl_pick_t rfl rfl h58 rfl (WL.nil ?_))))
   exact fun a ha => hJ19 (true) _ hF hB55 (hS56.sel [1, 0] rfl) a (ha.sub ⟨rfl, rfl, rfl, rfl, trivial⟩)
  ·replace hF := ifN h58 hF
   refine wl_on rfl rfl h58 (wl_move rfl rfl (wl_on rfl rfl h58 ?_))
   obtain ⟨u59, hu59, hF⟩ := bindE hF
   refine wl_call rfl Try.call128 (C_impl_within w53 x2 1 24 _ hu59) rfl ?_
   rintro _ w60 ⟨rfl, hb61⟩
   refine ⟨_, rfl, ?_⟩
   have hB62 := hB55.trans (hb61.mono hB55.size)
   have hS63 := hS56.below hb61
   refine wl_on rfl rfl h58 (wl_not rfl rfl (wl_pick_f rfl rfl h58 rfl (WL.nil ?_)))
   exact fun a ha => hJ19 ((!u59)) _ hF hB62 (hS63.sel [1, 0] rfl) a (ha.sub ⟨rfl, rfl, rfl, rfl, trivial⟩)
theorem C_impl_LeastCountsOf (w0 : World) (x0 : ((List (List (Int × Int))) × (List Int) × Int × Int)) (v0_0 : Value) (h0_0 : rdS ty_63 (· < w0.heap.size) w0 v0_0 x0.1) (v0_1 : Value) (h0_1 : rdS ty_3 (· < w0.heap.size) w0 v0_1 x0.2.1) (r : ((List Int) × Bool)) (hF : F_impl_LeastCountsOf x0 = some r) :
  Calls Try.prog 107 [(.agg #[v0_0, v0_1, (.int .i64 x0.2.2.1), (.int .i64 x0.2.2.2)])].toArray w0 fun e w' => ∃ (q0 : Value) (G0 : List Nat), e = .returned (.tuple #[q0, (.bool r.2)]) ∧ Below w0.heap.size w0 w' ∧ Sep w0.heap.size w' [R.own ty_3 G0 q0 r.1] := by
 refine calls_mk' Try.func107 rfl Try.ntmps107 rfl rfl fun Q hQ hP => ?_
 have hB : Below w0.heap.size w0 w0 := Below.refl _ _
 have hS : Sep w0.heap.size w0 [] := Sep.nil _ _
 unfold F_impl_LeastCountsOf at hF
 refine W.seq fun K1 hK1 => W.region (wl_box (cs := [v0_0, v0_1, (.int .i64 x0.2.2.1), (.int .i64 x0.2.2.2)]) rfl rfl rfl hB hS ?_)
 intro b2 w3 hb4 hB5 hS6
 refine wl_assign rfl rfl (wl_assign rfl rfl (WL.nil (fun a ha => hK1 _ _ (W.seq fun K7 hK7 => (W.seq fun K8 hK8 => (W.region (wl_load_blk (i := 0) (vs := [v0_0, v0_1, (.int .i64 x0.2.2.1), (.int .i64 x0.2.2.2)]) (v := (.agg #[v0_0, v0_1, (.int .i64 x0.2.2.1), (.int .i64 x0.2.2.2)])) tf_53 rfl rfl hS6 rfl rfl rfl ?_)))) a ha)))
 obtain ⟨u9, hu9, hF⟩ := bindE hF
 refine wl_call rfl Try.call60 (C_impl_IsShow w3 x0 v0_0 (h0_0.ro hB5) v0_1 (h0_1.ro hB5) _ hu9) rfl ?_
 rintro _ w10 ⟨rfl, hb11⟩
 refine ⟨_, rfl, ?_⟩
 have hB12 := hB5.trans (hb11.mono hB5.size)
 have hS13 := hS6.below hb11
 refine wl_not rfl rfl (WL.nil (fun a ha => hK8 _ _ (W.cond rfl (fun h15 => ?_) (fun h15 => ?_)) a ha))
 ·replace hF := ifP h15 hF
  refine W.seq fun K16 hK16 => W.region (wl_assign rfl rfl (wl_assign rfl rfl (WL.nil (fun a ha => hK16 _ _ (W.ret ?_) a ha))))
  have hS17 := hS13.push0 (r := R.own ty_3 [] (.slice none 0 0) []) rfl fun _ => .inl ⟨rfl, rfl, rfl⟩
  have hr := Option.some.inj hF
  subst hr
  exact rets (vs := [(.slice none 0 0), (.bool false)]) hQ rfl ⟨rv_tmp rfl, rv_tmp rfl, trivial⟩ ⟨(.slice none 0 0), [], rfl, hB12, hS17.sel [0] rfl⟩
 ·replace hF := ifN h15 hF
  refine W.skip fun a ha => hK7 _ _ (W.seq fun K18 hK18 => (W.region (wl_lit (vs := []) (l := []) fl_3 Try.underlying29 rfl rfl rfl rfl rfl rfl hB12 hS13 ?_))) a ha
  intro v19 F20 w21 hb22 hB23 hS24
  refine wl_assign rfl rfl (WL.nil (fun a ha => hK18 _ _ (W.seq fun K25 hK25 => (W.seq fun K26 hK26 => (W.region (wl_field (o := 1) (off' := 1) ff_53_1 rfl rfl rfl (wl_load_blk (i := 1) (vs := [v0_1]) (v := v0_1) tf_29 rfl rfl hS24 rfl rfl rfl (wl_lenr (e := ty_3) (l := x0.2.1) Try.underlying29 rfl rfl h0_1 (wl_move rfl rfl (WL.nil (fun a ha => hK26 _ _ (W.block (W.loopk (fun m a w27 => ∃ (l30 : (List Int)) (y33 : Int) (v31 : Value) (F32 : List Nat), St 51 [(1, (.pointer (some ⟨b2, 0, none⟩))), (4, v31), (17, (.int .i64 (List.length x0.2.1 : Int))), (18, (.int .i64 y33))] a ∧ Below w0.heap.size w0 w27 ∧ Sep w0.heap.size w27 [R.blk b2 53 [v0_0, v0_1, (.int .i64 x0.2.2.1), (.int .i64 x0.2.2.2)], R.own ty_3 F32 v31 l30] ∧ F_impl_LeastCountsOf_L1 x0 m l30 y33 = some r) FU ?_ ?_)) a ha))))))))) a ha))
  ·
   exact fun a ha => ⟨[], 0, v19, F20, ha.sub ⟨rfl, rfl, rfl, rfl, trivial⟩, hB23, (hS24.sel [1, 0] rfl), hF⟩
  ·
   rintro m36 a w27 ⟨l30, y33, v31, F32, ha, hB28, hS29, hF⟩ KL35 hKL35
   refine W.at ?_ ha
   cases m36 with
   | zero => exact noneE hF
   | succ m36 =>
    obtain ⟨nx34, hnx34⟩ : ∃ k, k = F_impl_LeastCountsOf_L1 x0 m36 := ⟨_, rfl⟩
    rw [F_impl_LeastCountsOf_L1, ← hnx34] at hF
    refine W.seq fun K37 hK37 => W.region (wl_lss rfl rfl rfl (WL.nil (fun a ha => hK37 _ _ (W.seq fun K38 hK38 => (W.cond rfl (fun h39 => ?_) (fun h39 => ?_))) a ha)))
    ·replace hF := ifP h39 hF
     refine W.skip fun a ha => hK38 _ _ (W.seq fun K40 hK40 => (W.block (W.seq fun K41 hK41 => (W.region (wl_move rfl rfl (wl_assign rfl rfl (WL.nil (fun a ha => hK41 _ _ (W.seq fun K42 hK42 => (W.region (wl_assign rfl rfl (WL.nil ?_)))) a ha)))))))) a ha
     refine fun a ha => hK42 _ _ (W.seq fun K43 hK43 => (W.seq fun K44 hK44 => (W.region (wl_load_blk (i := 0) (vs := [v0_0, v0_1, (.int .i64 x0.2.2.1), (.int .i64 x0.2.2.2)]) (v := (.agg #[v0_0, v0_1, (.int .i64 x0.2.2.1), (.int .i64 x0.2.2.2)])) tf_53 rfl rfl hS29 rfl rfl rfl (wl_move rfl rfl ?_))))) a ha
     obtain ⟨u45, hu45, hF⟩ := bindE hF
     refine wl_call rfl Try.call152 (C_impl_showMoves w27 x0 v0_0 (h0_0.ro hB28) v0_1 (h0_1.ro hB28) y33 _ hu45) rfl ?_
     rintro _ w48 ⟨v46, F47, rfl, hb49, hM52⟩
     refine ⟨_, rfl, ?_⟩
     have hB50 := hB28.trans (hb49.mono hB28.size)
     have hS51 := hS29.join hb49 hM52 hB28.size
     refine wl_lenr (e := ty_70) (l := u45) Try.underlying64 rfl rfl (hS51.own_ro (i := 0) rfl) (wl_move rfl rfl (WL.nil (fun a ha => hK44 _ _ (W.block (W.loopk (fun m a w53 => ∃ (y56 : Int) (y57 : Int), St 51 [(1, (.pointer (some ⟨b2, 0, none⟩))), (4, v31), (6, (.int .i64 y56)), (17, (.int .i64 (List.length x0.2.1 : Int))), (18, (.int .i64 y33)), (23, v46), (24, (.int .i64 (List.length u45 : Int))), (25, (.int .i64 y57))] a ∧ Below w0.heap.size w0 w53 ∧ Sep w0.heap.size w53 [R.blk b2 53 [v0_0, v0_1, (.int .i64 x0.2.2.1), (.int .i64 x0.2.2.2)], R.own ty_3 F32 v31 l30, R.own ty_70 F47 v46 u45] ∧ F_impl_LeastCountsOf_L2 u45 x0 l30 nx34 y33 m y56 y57 = some r) FU ?_ ?_)) a ha)))
     ·
      exact fun a ha => ⟨0, 0, ha.sub ⟨rfl, rfl, rfl, rfl, rfl, rfl, rfl, rfl, trivial⟩, hB50, (hS51.sel [1, 2, 0] rfl), hF⟩
     ·
      rintro m60 a w53 ⟨y56, y57, ha, hB54, hS55, hF⟩ KL59 hKL59
      refine W.at ?_ ha
      cases m60 with
      | zero => exact noneE hF
      | succ m60 =>
       obtain ⟨nx58, hnx58⟩ : ∃ k, k = F_impl_LeastCountsOf_L2 u45 x0 l30 nx34 y33 m60 := ⟨_, rfl⟩
       rw [F_impl_LeastCountsOf_L2, ← hnx58] at hF
       refine W.seq fun K61 hK61 => W.region (wl_lss rfl rfl rfl (WL.nil (fun a ha => hK61 _ _ (W.seq fun K62 hK62 => (W.cond rfl (fun h63 => ?_) (fun h63 => ?_))) a ha)))
       ·replace hF := ifP h63 hF
        refine W.skip fun a ha => hK62 _ _ (W.seq fun K64 hK64 => (W.block (W.seq fun K65 hK65 => (W.region ?_)))) a ha
        obtain ⟨u66, hu66, hF⟩ := bindE hF
        refine wl_indexo (e := ty_70) (i := 2) Try.underlying64 rfl rfl rfl hS55 rfl hu66 ?_
        rintro p67 _ rfl hp68 ho69
        refine wl_load_p (vs := [(.int .i64 u66.1.1), (.int .i64 u66.1.2), (.int .i64 u66.2.1.1), (.int .i64 u66.2.1.2), (.int .i64 u66.2.2)]) (v := (.agg #[(.int .i64 u66.1.1), (.int .i64 u66.1.2), (.int .i64 u66.2.1.1), (.int .i64 u66.2.1.2), (.int .i64 u66.2.2)])) tf_70 rfl rfl hp68 rfl rfl (wl_alloc (cs := [(.int .i64 0), (.int .i64 0), (.int .i64 0), (.int .i64 0), (.int .i64 0)]) tf_70 rfl rfl hB54 hS55 ?_)
        intro b70 w71 hb72 hB73 hS74
        refine wl_store_blk (i := 0) (vs := [(.int .i64 u66.1.1), (.int .i64 u66.1.2), (.int .i64 u66.2.1.1), (.int .i64 u66.2.1.2), (.int .i64 u66.2.2)]) (cs' := [(.int .i64 u66.1.1), (.int .i64 u66.1.2), (.int .i64 u66.2.1.1), (.int .i64 u66.2.1.2), (.int .i64 u66.2.2)]) tf_70 rfl rfl rfl rfl hB73 hS74 rfl rfl ⟨rfl, rfl, rfl, rfl, rfl, trivial⟩ rfl ?_
        intro w75 hk78 hB76 hS77
        refine WL.nil fun a ha => hK65 _ _ (W.seq fun K79 hK79 => (W.region (wl_field (o := 0) (off' := 0) ff_70_0 rfl rfl rfl (wl_load_blk (i := 0) (vs := [(.int .i64 u66.1.1), (.int .i64 u66.1.2)]) (v := (.agg #[(.int .i64 u66.1.1), (.int .i64 u66.1.2)])) tf_68 rfl rfl hS77 rfl rfl rfl (wl_field (o := 2) (off' := 2) ff_70_1 rfl rfl rfl (wl_load_blk (i := 0) (vs := [(.int .i64 u66.2.1.1), (.int .i64 u66.2.1.2)]) (v := (.agg #[(.int .i64 u66.2.1.1), (.int .i64 u66.2.1.2)])) tf_68 rfl rfl hS77 rfl rfl rfl (wl_field (o := 3) (off' := 3) ff_53_3 rfl rfl rfl (wl_load_blk (i := 1) (vs := [(.int .i64 x0.2.2.2)]) (v := (.int .i64 x0.2.2.2)) tf_3 rfl rfl hS77 rfl rfl rfl ?_)))))))) a ha
        obtain ⟨u80, hu80, hF⟩ := bindE hF
        refine wl_call rfl Try.call208 (C_impl_LeastCounts w75 u66.1 u66.2.1 x0.2.2.2 _ hu80) rfl ?_
        rintro _ w81 ⟨rfl, hb82⟩
        refine ⟨_, rfl, ?_⟩
        have hB83 := hB76.trans (hb82.mono hB76.size)
        have hS84 := hS77.below hb82
        refine wl_move rfl rfl (wl_extract rfl rfl rfl (wl_extract rfl rfl rfl (wl_assign rfl rfl (wl_assign rfl rfl (WL.nil (fun a ha => hK79 _ _ (W.seq fun K86 hK86 => (W.seq fun K87 hK87 => (W.region (wl_move rfl rfl (wl_not rfl rfl (WL.nil (fun a ha => hK87 _ _ ?_ a ha))))))) a ha))))))
        refine W.cond rfl (fun h88 => ?_) (fun h88 => ?_)
        ·replace hF := ifP h88 hF
         refine W.seq fun K89 hK89 => W.region (wl_assign rfl rfl (wl_assign rfl rfl (WL.nil (fun a ha => hK89 _ _ (W.ret ?_) a ha))))
         have hS90 := hS84.push0 (r := R.own ty_3 [] (.slice none 0 0) []) rfl fun _ => .inl ⟨rfl, rfl, rfl⟩
         have hr := Option.some.inj hF
         subst hr
         exact rets (vs := [(.slice none 0 0), (.bool false)]) hQ rfl ⟨rv_tmp rfl, rv_tmp rfl, trivial⟩ ⟨(.slice none 0 0), [], rfl, hB83, hS90.sel [0] rfl⟩
        ·replace hF := ifN h88 hF
         refine W.skip fun a ha => hK86 _ _ (W.region (wl_move rfl rfl (wl_move rfl rfl (wl_max rfl rfl rfl (wl_assign rfl rfl (WL.nil (fun a ha => hK64 _ _ (W.region (wl_add rfl rfl rfl (wl_move rfl rfl (WL.nil ?_)))) a ha))))))) a ha
         rw [hnx58] at hF
         exact fun a ha => hKL59 a _ m60 (Nat.lt_succ_self m60) ⟨(maxI y56 u80.1), (w64 (y57 + 1)), ha.sub ⟨rfl, rfl, rfl, rfl, rfl, rfl, rfl, rfl, trivial⟩, hB83, (hS84.sel [1, 2, 3] rfl), hF⟩
       ·replace hF := ifN h63 hF
        refine W.exit fun a ha => hK43 _ _ (W.region (wl_move rfl rfl (wl_move rfl rfl (wl_lit (vs := [(.int .i64 y56)]) (l := [y56]) fl_3 Try.underlying29 rfl rfl rfl rfl rfl rfl hB54 hS55 ?_)))) a ha
        intro v91 F92 w93 hb94 hB95 hS96
        obtain ⟨u97, hu97, hF⟩ := bindE hF
        refine wl_append (i := 2) (S := (· < w93.heap.size)) fl_3 Try.underlying29 rfl rfl rfl hB95 hS96 rfl (hS96.own_ro (i := 0) rfl) hu97 ?_
        intro v98 F99 w100 hk101 hB102 hS103
        refine wl_assign rfl rfl (WL.nil (fun a ha => hK40 _ _ (W.region (wl_add rfl rfl rfl (wl_move rfl rfl (WL.nil ?_)))) a ha))
        rw [hnx34] at hF
        exact fun a ha => hKL35 a _ m36 (Nat.lt_succ_self m36) ⟨u97, (w64 (y33 + 1)), v98, F99, ha.sub ⟨rfl, rfl, rfl, rfl, trivial⟩, hB102, (hS103.sel [1, 2] rfl), hF⟩
    ·replace hF := ifN h39 hF
     refine W.exit fun a ha => hK25 _ _ (W.seq fun K104 hK104 => (W.region (wl_move rfl rfl (wl_assign rfl rfl (wl_assign rfl rfl (WL.nil (fun a ha => hK104 _ _ (W.ret ?_) a ha))))))) a ha
     have hr := Option.some.inj hF
     subst hr
     exact rets (vs := [v31, (.bool true)]) hQ rfl ⟨rv_tmp rfl, rv_tmp rfl, trivial⟩ ⟨v31, F32, rfl, hB28, hS29.sel [1] rfl⟩
theorem C_spec_stTwo (w0 : World) (x0 : (Int × Int)) (x1 : (Int × Int)) (r : Bool) (hF : F_spec_stTwo x0 x1 = some r) :
  Calls Try.prog 250 [(.agg #[(.int .i64 x0.1), (.int .i64 x0.2)]), (.agg #[(.int .i64 x1.1), (.int .i64 x1.2)])].toArray w0 fun e w' => e = .returned (.bool r) ∧ Below w0.heap.size w0 w' := by
 refine calls_mk' Try.func250 rfl Try.ntmps250 rfl rfl fun Q hQ hP => ?_
 have hB : Below w0.heap.size w0 w0 := Below.refl _ _
 have hS : Sep w0.heap.size w0 [] := Sep.nil _ _
 unfold F_spec_stTwo at hF
 refine W.seq fun K1 hK1 => W.region (wl_box (cs := [(.int .i64 x0.1), (.int .i64 x0.2)]) rfl rfl rfl hB hS ?_)
 intro b2 w3 hb4 hB5 hS6
 refine wl_box (cs := [(.int .i64 x1.1), (.int .i64 x1.2)]) rfl rfl rfl hB5 hS6 ?_
 intro b7 w8 hb9 hB10 hS11
 refine wl_assign rfl rfl (WL.nil (fun a ha => hK1 _ _ (W.seq fun K12 hK12 => ?_) a ha))
 obtain ⟨k17, hk17, hF⟩ := jE1 hF
 have hJ18 : ∀ (y16 : Bool) (w13 : World) (_ : k17 y16 = some r) (_ : Below w0.heap.size w0 w13) (_ : Sep w0.heap.size w13 []), ∀ a, St 11 [(4, (.bool y16))] a → K12 a w13 := by
  intro y16 w13 hF hB14 hS15
  subst hk17
  refine fun a ha => hK12 _ _ (W.ret ?_) a ha
  have hr := Option.some.inj hF
  subst hr
  exact rets (vs := [(.bool y16)]) hQ rfl ⟨rv_tmp rfl, trivial⟩ ⟨rfl, hB14⟩
 refine W.region (wl_load_blk (i := 1) (vs := [(.int .i64 x0.1), (.int .i64 x0.2)]) (v := (.agg #[(.int .i64 x0.1), (.int .i64 x0.2)])) tf_68 rfl rfl hS11 rfl rfl rfl ?_)
 obtain ⟨u19, hu19, hF⟩ := bindE hF
 refine wl_call rfl Try.call257 (C_spec_stGood w8 x0 _ hu19) rfl ?_
 rintro _ w20 ⟨rfl, hb21⟩
 refine ⟨_, rfl, ?_⟩
 have hB22 := hB10.trans (hb21.mono hB10.size)
 have hS23 := hS11.below hb21
 refine wl_move rfl rfl ?_
 rcases bE u19 with h25 | h25
 ·replace hF := ifP h25 hF
  refine wl_on rfl rfl h25 (wl_load_blk (i := 0) (vs := [(.int .i64 x1.1), (.int .i64 x1.2)]) (v := (.agg #[(.int .i64 x1.1), (.int .i64 x1.2)])) tf_68 rfl rfl hS23 rfl rfl rfl (wl_on rfl rfl h25 ?_))
  obtain ⟨u26, hu26, hF⟩ := bindE hF
  refine wl_call rfl Try.call257 (C_spec_stGood w20 x1 _ hu26) rfl ?_
  rintro _ w27 ⟨rfl, hb28⟩
  refine ⟨_, rfl, ?_⟩
  have hB29 := hB22.trans (hb28.mono hB22.size)
  have hS30 := hS23.below hb28
  refine wl_pick_t rfl rfl h25 rfl (wl_assign rfl rfl (WL.nil ?_))
  exact fun a ha => hJ18 (u26) _ hF hB29 (hS30.sel [] rfl) a (ha.sub ⟨rfl, trivial⟩)
 ·replace hF := ifN h25 hF
  refine wl_off rfl rfl rfl h25 (wl_off rfl rfl rfl h25 (wl_pick_f rfl rfl h25 rfl (wl_assign rfl rfl (WL.nil ?_))))
  exact fun a ha => hJ18 (false) _ hF hB22 (hS23.sel [] rfl) a (ha.sub ⟨rfl, trivial⟩)
end Go.Proofs.Ytmkignciedkidaa
