/-
  THE WALKS of functions of this seat, by program (gen.py, prune.py).
-/
import Derived.Test.YtmkignciedkidaaGreatWXFnMarchesb
set_option linter.unusedSimpArgs false
set_option linter.unusedVariables false
set_option maxRecDepth 100000
set_option maxHeartbeats 1600000
namespace Go.Proofs.YtmkignciedkidaaGreat
open Go Go.RowKit
theorem C_spec_DrawRunBeats (w0 : World) (x0 : (List Int)) (v0_0 : Value) (h0_0 : rdS ty_5 (· < w0.heap.size) w0 v0_0 x0) (r : ((((List (List (Int × Int))) × (List Int) × Int × Int) × Int × (List Int) × (List Int)) × (List (Int × Int)))) (hF : F_spec_DrawRunBeats x0 = some r) :
  Calls Tryz.prog 5 [v0_0].toArray w0 fun e w' => ∃ (q0 : Value) (G0 : List Nat) (q1 : Value) (G1 : List Nat) (q2 : Value) (G2 : List Nat) (q3 : Value) (G3 : List Nat) (q4 : Value) (G4 : List Nat), e = .returned (.tuple #[(.agg #[q0, q1, (.int .i64 r.1.1.2.2.1), (.int .i64 r.1.1.2.2.2), (.int .i64 r.1.2.1), q2, q3]), q4]) ∧ Below w0.heap.size w0 w' ∧ Sep w0.heap.size w' [R.own ty_66 G0 q0 r.1.1.1, R.own ty_3 G1 q1 r.1.1.2.1, R.own ty_3 G2 q2 r.1.2.2.1, R.own ty_3 G3 q3 r.1.2.2.2, R.own ty_59 G4 q4 r.2] := by
 refine calls_mk' Tryz.func5 rfl Tryz.ntmps5 rfl rfl fun Q hQ hP => ?_
 have hB : Below w0.heap.size w0 w0 := Below.refl _ _
 have hS : Sep w0.heap.size w0 [] := Sep.nil _ _
 unfold F_spec_DrawRunBeats at hF
 refine W.seq fun K1 hK1 => W.region (wl_alloc (cs := [(.slice none 0 0), (.slice none 0 0), (.int .i64 0), (.int .i64 0), (.int .i64 0), (.slice none 0 0), (.slice none 0 0)]) tf_29 rfl rfl hB hS ?_)
 intro b2 w3 hb4 hB5 hS6
 refine wl_assign rfl rfl (WL.nil (fun a ha => hK1 _ _ (W.seq fun K7 hK7 => (W.region (wl_move rfl rfl (wl_build (zs := [(.slice none 0 0), (.int .i64 0), (.int .u64 0)]) (out := [v0_0, (.int .i64 0), (.int .u64 0)]) (vs := [v0_0]) (css := [[v0_0]]) tf_53 pl_53 rfl rfl (by simp only [List.map_cons, List.map_nil, cells_one ((h0_0.ro hB5).one)] <;> rfl) rfl rfl (wl_box (cs := [v0_0, (.int .i64 0), (.int .u64 0)]) rfl rfl rfl hB5 hS6 ?_))))) a ha))
 intro b8 w9 hb10 hB11 hS12
 refine wl_assign rfl rfl (WL.nil (fun a ha => hK7 _ _ (W.seq fun K13 hK13 => (W.region (wl_move rfl rfl ?_))) a ha))
 obtain ⟨u14, hu14, hF⟩ := bindE hF
 refine wl_call rfl Tryz.call25 (C_spec_l1Cur__march__mut__box w9 (x0, 0, 0) b8 v0_0 (h0_0.oldo hB11 (hS12.sel [0] rfl)) (hS12.sel [0] rfl).base0 _ hu14) rfl ?_
 rintro _ w15 ⟨v20, F21, v22, F23, v24, F25, v26, F27, rfl, hE16, hM17⟩
 refine ⟨_, rfl, ?_⟩
 have hB18 := hS12.takeB [0] rfl (M := [R.blk b8 53 [v0_0, (.int .i64 0), (.int .u64 0)]]) rfl hB11 hE16 hM17
 have hS19 : Sep w0.heap.size w15 [R.blk b8 53 [v0_0, (.int .i64 u14.2.2.1), (.int .u64 u14.2.2.2)], R.own ty_66 F21 v20 u14.1.1.1, R.own ty_3 F23 v22 u14.1.1.2.1, R.own ty_3 F25 v24 u14.1.2.2.1, R.own ty_3 F27 v26 u14.1.2.2.2, R.blk b2 29 [(.slice none 0 0), (.slice none 0 0), (.int .i64 0), (.int .i64 0), (.int .i64 0), (.slice none 0 0), (.slice none 0 0)]] := hS12.take [0] [1] rfl (M := [R.blk b8 53 [v0_0, (.int .i64 0), (.int .u64 0)]]) rfl hM17 hB11.size
 refine wl_alloc (cs := [(.slice none 0 0), (.slice none 0 0), (.int .i64 0), (.int .i64 0), (.int .i64 0), (.slice none 0 0), (.slice none 0 0)]) tf_29 rfl rfl hB18 hS19 ?_
 intro b28 w29 hb30 hB31 hS32
 refine wl_store_blk (i := 0) (vs := [v20, v22, (.int .i64 u14.1.1.2.2.1), (.int .i64 u14.1.1.2.2.2), (.int .i64 u14.1.2.1), v24, v26]) (cs' := [v20, v22, (.int .i64 u14.1.1.2.2.1), (.int .i64 u14.1.1.2.2.2), (.int .i64 u14.1.2.1), v24, v26]) tf_29 rfl rfl rfl rfl hB31 hS32 rfl rfl ⟨(hS32.own_ro (i := 2) rfl).one, (hS32.own_ro (i := 3) rfl).one, rfl, rfl, rfl, (hS32.own_ro (i := 4) rfl).one, (hS32.own_ro (i := 5) rfl).one, trivial⟩ rfl ?_
 intro w33 hk36 hB34 hS35
 refine WL.nil fun a ha => hK13 _ _ (W.seq fun K37 hK37 => (W.region (wl_move rfl rfl (wl_field (o := 6) (off' := 6) ff_29_3 rfl rfl rfl (wl_load_blk (i := 0) (vs := [v26]) (v := v26) tf_25 rfl rfl hS35 rfl rfl rfl (wl_lenr (e := ty_3) (l := u14.1.2.2.2) Tryz.underlying25 rfl rfl (hS35.own_ro (i := 5) rfl) ?_)))))) a ha
 obtain ⟨u38, hu38, hF⟩ := bindE hF
 refine wl_call rfl Tryz.call26 (C_spec_l1Cur__beats__mut__box w33 (x0, u14.2.2.1, u14.2.2.2) b8 v0_0 (h0_0.oldo hB34 (hS35.sel [1] rfl)) (List.length u14.1.2.2.2 : Int) (hS35.sel [1] rfl).base0 _ hu38) rfl ?_
 rintro _ w39 ⟨v44, F45, rfl, hE40, hM41⟩
 refine ⟨_, rfl, ?_⟩
 have hB42 := hS35.takeB [1] rfl (M := [R.blk b8 53 [v0_0, (.int .i64 u14.2.2.1), (.int .u64 u14.2.2.2)]]) rfl hB34 hE40 hM41
 have hS43 : Sep w0.heap.size w39 [R.blk b8 53 [v0_0, (.int .i64 u38.2.2.1), (.int .u64 u38.2.2.2)], R.own ty_59 F45 v44 u38.1, R.blk b28 29 [v20, v22, (.int .i64 u14.1.1.2.2.1), (.int .i64 u14.1.1.2.2.2), (.int .i64 u14.1.2.1), v24, v26], R.own ty_66 F21 v20 u14.1.1.1, R.own ty_3 F23 v22 u14.1.1.2.1, R.own ty_3 F25 v24 u14.1.2.2.1, R.own ty_3 F27 v26 u14.1.2.2.2, R.blk b2 29 [(.slice none 0 0), (.slice none 0 0), (.int .i64 0), (.int .i64 0), (.int .i64 0), (.slice none 0 0), (.slice none 0 0)]] := hS35.take [1] [0, 2, 3, 4, 5, 6] rfl (M := [R.blk b8 53 [v0_0, (.int .i64 u14.2.2.1), (.int .u64 u14.2.2.2)]]) rfl hM41 hB34.size
 refine wl_assign rfl rfl (WL.nil (fun a ha => hK37 _ _ (W.seq fun K46 hK46 => ?_) a ha))
 obtain ⟨k53, hk53, hF⟩ := jE1 hF
 have hJ54 : ∀ (l50 : (List (Int × Int))) (v51 : Value) (F52 : List Nat) (w47 : World) (_ : k53 l50 = some r) (_ : Below w0.heap.size w0 w47) (_ : Sep w0.heap.size w47 [R.blk b2 29 [(.slice none 0 0), (.slice none 0 0), (.int .i64 0), (.int .i64 0), (.int .i64 0), (.slice none 0 0), (.slice none 0 0)], R.own ty_66 F21 v20 u14.1.1.1, R.own ty_3 F23 v22 u14.1.1.2.1, R.own ty_3 F25 v24 u14.1.2.2.1, R.own ty_3 F27 v26 u14.1.2.2.2, R.blk b28 29 [v20, v22, (.int .i64 u14.1.1.2.2.1), (.int .i64 u14.1.1.2.2.2), (.int .i64 u14.1.2.1), v24, v26], R.own ty_59 F52 v51 l50]), ∀ a, St 33 [(2, (.pointer (some ⟨b2, 0, none⟩))), (5, (.pointer (some ⟨b28, 0, none⟩))), (6, v51)] a → K46 a w47 := by
  intro l50 v51 F52 w47 hF hB48 hS49
  subst hk53
  refine fun a ha => hK46 _ _ (W.seq fun K55 hK55 => (W.region (wl_load_blk (i := 5) (vs := [v20, v22, (.int .i64 u14.1.1.2.2.1), (.int .i64 u14.1.1.2.2.2), (.int .i64 u14.1.2.1), v24, v26]) (v := (.agg #[v20, v22, (.int .i64 u14.1.1.2.2.1), (.int .i64 u14.1.1.2.2.2), (.int .i64 u14.1.2.1), v24, v26])) tf_29 rfl rfl hS49 rfl rfl rfl (wl_move rfl rfl (wl_store_blk (i := 0) (vs := [v20, v22, (.int .i64 u14.1.1.2.2.1), (.int .i64 u14.1.1.2.2.2), (.int .i64 u14.1.2.1), v24, v26]) (cs' := [v20, v22, (.int .i64 u14.1.1.2.2.1), (.int .i64 u14.1.1.2.2.2), (.int .i64 u14.1.2.1), v24, v26]) tf_29 rfl rfl rfl rfl hB48 hS49 rfl rfl ⟨(hS49.own_ro (i := 1) rfl).one, (hS49.own_ro (i := 2) rfl).one, rfl, rfl, rfl, (hS49.own_ro (i := 3) rfl).one, (hS49.own_ro (i := 4) rfl).one, trivial⟩ rfl ?_))))) a ha
  intro w56 hk59 hB57 hS58
  refine wl_assign rfl rfl (WL.nil (fun a ha => hK55 _ _ (W.ret ?_) a ha))
  have hr := Option.some.inj hF
  subst hr
  exact rets (vs := [(.agg #[v20, v22, (.int .i64 u14.1.1.2.2.1), (.int .i64 u14.1.1.2.2.2), (.int .i64 u14.1.2.1), v24, v26]), v51]) hQ rfl ⟨rv_cell (i := 0) tf_29 rfl hS58 rfl rfl rfl, rv_tmp rfl, trivial⟩ ⟨v20, F21, v22, F23, v24, F25, v26, F27, v51, F52, rfl, hB57, hS58.sel [1, 2, 3, 4, 6] rfl⟩
 refine W.seq fun K60 hK60 => W.region (wl_move rfl rfl ?_)
 obtain ⟨u61, hu61, hF⟩ := bindE hF
 refine wl_call rfl Tryz.call27 (C_spec_l1Cur__one__mut__box w39 (x0, u38.2.2.1, u38.2.2.2) b8 v0_0 (h0_0.oldo hB42 (hS43.sel [0] rfl)) 24 (hS43.sel [0] rfl).base0 _ hu61) rfl ?_
 rintro _ w62 ⟨rfl, hE63, hM64⟩
 refine ⟨_, rfl, ?_⟩
 have hB65 := hS43.takeB [0] rfl (M := [R.blk b8 53 [v0_0, (.int .i64 u38.2.2.1), (.int .u64 u38.2.2.2)]]) rfl hB42 hE63 hM64
 have hS66 : Sep w0.heap.size w62 [R.blk b8 53 [v0_0, (.int .i64 u61.2.2.1), (.int .u64 u61.2.2.2)], R.own ty_59 F45 v44 u38.1, R.blk b28 29 [v20, v22, (.int .i64 u14.1.1.2.2.1), (.int .i64 u14.1.1.2.2.2), (.int .i64 u14.1.2.1), v24, v26], R.own ty_66 F21 v20 u14.1.1.1, R.own ty_3 F23 v22 u14.1.1.2.1, R.own ty_3 F25 v24 u14.1.2.2.1, R.own ty_3 F27 v26 u14.1.2.2.2, R.blk b2 29 [(.slice none 0 0), (.slice none 0 0), (.int .i64 0), (.int .i64 0), (.int .i64 0), (.slice none 0 0), (.slice none 0 0)]] := hS43.take [0] [1, 2, 3, 4, 5, 6, 7] rfl (M := [R.blk b8 53 [v0_0, (.int .i64 u38.2.2.1), (.int .u64 u38.2.2.2)]]) rfl hM64 hB42.size
 refine WL.nil fun a ha => hK60 _ _ (W.cond rfl (fun h67 => ?_) (fun h67 => ?_)) a ha
 ·replace hF := ifP h67 hF
  refine W.seq fun K68 hK68 => W.region (wl_move rfl rfl ?_)
  obtain ⟨u69, hu69, hF⟩ := bindE hF
  refine wl_call rfl Tryz.call28 (C_spec_l1Cur__pick__mut__box w62 (x0, u61.2.2.1, u61.2.2.2) b8 v0_0 (h0_0.oldo hB65 (hS66.sel [0] rfl)) 2 (hS66.sel [0] rfl).base0 _ hu69) rfl ?_
  rintro _ w70 ⟨rfl, hE71, hM72⟩
  refine ⟨_, rfl, ?_⟩
  have hB73 := hS66.takeB [0] rfl (M := [R.blk b8 53 [v0_0, (.int .i64 u61.2.2.1), (.int .u64 u61.2.2.2)]]) rfl hB65 hE71 hM72
  have hS74 : Sep w0.heap.size w70 [R.blk b8 53 [v0_0, (.int .i64 u69.2.2.1), (.int .u64 u69.2.2.2)], R.own ty_59 F45 v44 u38.1, R.blk b28 29 [v20, v22, (.int .i64 u14.1.1.2.2.1), (.int .i64 u14.1.1.2.2.2), (.int .i64 u14.1.2.1), v24, v26], R.own ty_66 F21 v20 u14.1.1.1, R.own ty_3 F23 v22 u14.1.1.2.1, R.own ty_3 F25 v24 u14.1.2.2.1, R.own ty_3 F27 v26 u14.1.2.2.2, R.blk b2 29 [(.slice none 0 0), (.slice none 0 0), (.int .i64 0), (.int .i64 0), (.int .i64 0), (.slice none 0 0), (.slice none 0 0)]] := hS66.take [0] [1, 2, 3, 4, 5, 6, 7] rfl (M := [R.blk b8 53 [v0_0, (.int .i64 u61.2.2.1), (.int .u64 u61.2.2.2)]]) rfl hM72 hB65.size
  refine wl_add rfl rfl rfl (wl_assign rfl rfl (WL.nil (fun a ha => hK68 _ _ (W.block (W.loopk (fun m a w75 => ∃ (l78 : (List (Int × Int))) (v79 : Value) (F80 : List Nat), St 33 [(2, (.pointer (some ⟨b2, 0, none⟩))), (5, (.pointer (some ⟨b28, 0, none⟩))), (6, v79), (7, (.int .i64 (w64 (100 + u69.1))))] a ∧ Below w0.heap.size w0 w75 ∧ Sep w0.heap.size w75 [R.blk b2 29 [(.slice none 0 0), (.slice none 0 0), (.int .i64 0), (.int .i64 0), (.int .i64 0), (.slice none 0 0), (.slice none 0 0)], R.own ty_66 F21 v20 u14.1.1.1, R.own ty_3 F23 v22 u14.1.1.2.1, R.own ty_3 F25 v24 u14.1.2.2.1, R.own ty_3 F27 v26 u14.1.2.2.2, R.blk b28 29 [v20, v22, (.int .i64 u14.1.1.2.2.1), (.int .i64 u14.1.1.2.2.2), (.int .i64 u14.1.2.1), v24, v26], R.own ty_59 F80 v79 l78] ∧ F_spec_DrawRunBeats_L1 u69 k53 m l78 = some r) FU ?_ ?_)) a ha)))
  ·
   exact fun a ha => ⟨u38.1, v44, F45, ha.sub ⟨rfl, rfl, rfl, rfl, trivial⟩, hB73, (hS74.sel [7, 3, 4, 5, 6, 2, 1] rfl), hF⟩
  ·
   rintro m83 a w75 ⟨l78, v79, F80, ha, hB76, hS77, hF⟩ KL82 hKL82
   refine W.at ?_ ha
   cases m83 with
   | zero => exact noneE hF
   | succ m83 =>
    obtain ⟨nx81, hnx81⟩ : ∃ k, k = F_spec_DrawRunBeats_L1 u69 k53 m83 := ⟨_, rfl⟩
    rw [F_spec_DrawRunBeats_L1, ← hnx81] at hF
    refine W.seq fun K84 hK84 => W.seq fun K85 hK85 => W.region (wl_move rfl rfl (wl_lenr (e := ty_59) (l := l78) Tryz.underlying30 rfl rfl (hS77.own_ro (i := 6) rfl) (wl_move rfl rfl (wl_lss rfl rfl rfl (WL.nil (fun a ha => hK85 _ _ (W.cond rfl (fun h86 => ?_) (fun h86 => ?_)) a ha))))))
    ·replace hF := ifP h86 hF
     refine W.skip fun a ha => hK84 _ _ (W.block (W.region (wl_move rfl rfl (wl_build (zs := [(.int .i64 0), (.int .i64 0)]) (out := [(.int .i64 1), (.int .i64 0)]) (vs := [(.int .i64 1)]) (css := [[(.int .i64 1)]]) tf_59 pl_59 rfl rfl rfl rfl rfl (wl_lit (vs := [(.agg #[(.int .i64 1), (.int .i64 0)])]) (l := [(1, 0)]) fl_59 Tryz.underlying30 rfl rfl rfl rfl rfl rfl hB76 hS77 ?_))))) a ha
     intro v87 F88 w89 hb90 hB91 hS92
     obtain ⟨u93, hu93, hF⟩ := bindE hF
     refine wl_append (i := 7) (S := (· < w89.heap.size)) fl_59 Tryz.underlying30 rfl rfl rfl hB91 hS92 rfl (hS92.own_ro (i := 0) rfl) hu93 ?_
     intro v94 F95 w96 hk97 hB98 hS99
     refine wl_assign rfl rfl (WL.nil ?_)
     rw [hnx81] at hF
     exact fun a ha => hKL82 a _ m83 (Nat.lt_succ_self m83) ⟨u93, v94, F95, ha.sub ⟨rfl, rfl, rfl, rfl, trivial⟩, hB98, (hS99.sel [1, 2, 3, 4, 5, 6, 7] rfl), hF⟩
    ·replace hF := ifN h86 hF
     refine W.exit ?_
     exact fun a ha => hJ54 (l78) (v79) (F80) _ hF hB76 (hS77.sel [0, 1, 2, 3, 4, 5, 6] rfl) a (ha.sub ⟨rfl, rfl, rfl, trivial⟩)
 ·replace hF := ifN h67 hF
  refine W.skip ?_
  exact fun a ha => hJ54 (u38.1) (v44) (F45) _ hF hB65 (hS66.sel [7, 3, 4, 5, 6, 2, 1] rfl) a (ha.sub ⟨rfl, rfl, rfl, trivial⟩)
theorem C_impl_within (w0 : World) (x0 : Int) (x1 : Int) (x2 : Int) (r : Bool) (hF : F_impl_within x0 x1 x2 = some r) :
  Calls Tryz.prog 37 [(.int .i64 x0), (.int .i64 x1), (.int .i64 x2)].toArray w0 fun e w' => e = .returned (.bool r) ∧ Below w0.heap.size w0 w' := by
 refine calls_mk' Tryz.func37 rfl Tryz.ntmps37 rfl rfl fun Q hQ hP => ?_
 have hB : Below w0.heap.size w0 w0 := Below.refl _ _
 have hS : Sep w0.heap.size w0 [] := Sep.nil _ _
 unfold F_impl_within at hF
 refine W.seq fun K1 hK1 => W.region (wl_assign rfl rfl (WL.nil (fun a ha => hK1 _ _ (W.seq fun K2 hK2 => ?_) a ha)))
 obtain ⟨k7, hk7, hF⟩ := jE1 hF
 have hJ8 : ∀ (y6 : Bool) (w3 : World) (_ : k7 y6 = some r) (_ : Below w0.heap.size w0 w3) (_ : Sep w0.heap.size w3 []), ∀ a, St 15 [(6, (.bool y6))] a → K2 a w3 := by
  intro y6 w3 hF hB4 hS5
  subst hk7
  refine fun a ha => hK2 _ _ (W.ret ?_) a ha
  have hr := Option.some.inj hF
  subst hr
  exact rets (vs := [(.bool y6)]) hQ rfl ⟨rv_tmp rfl, trivial⟩ ⟨rfl, hB4⟩
 refine W.region (wl_move rfl rfl (wl_move rfl rfl (wl_geq rfl rfl rfl (wl_move rfl rfl ?_))))
 rcases bE (decide (x1 ≤ x0)) with h9 | h9
 ·replace hF := ifP h9 hF
  refine wl_on rfl rfl h9 (wl_move rfl rfl (wl_on rfl rfl h9 (wl_move rfl rfl (wl_on rfl rfl h9 (wl_leq rfl rfl rfl (wl_pick_t rfl rfl h9 rfl (wl_assign rfl rfl (WL.nil ?_))))))))
  exact fun a ha => hJ8 ((decide (x0 ≤ x2))) _ hF hB (hS.sel [] rfl) a (ha.sub ⟨rfl, trivial⟩)
 ·replace hF := ifN h9 hF
  refine wl_off rfl rfl rfl h9 (wl_off rfl rfl rfl h9 (wl_off rfl rfl rfl h9 (wl_pick_f rfl rfl h9 rfl (wl_assign rfl rfl (WL.nil ?_)))))
  exact fun a ha => hJ8 (false) _ hF hB (hS.sel [] rfl) a (ha.sub ⟨rfl, trivial⟩)
theorem C_impl_IsSpot (w0 : World) (x0 : (Int × Int)) (r : Bool) (hF : F_impl_IsSpot x0 = some r) :
  Calls Tryz.prog 107 [(.agg #[(.int .i64 x0.1), (.int .i64 x0.2)])].toArray w0 fun e w' => e = .returned (.bool r) ∧ Below w0.heap.size w0 w' := by
 refine calls_mk' Tryz.func107 rfl Tryz.ntmps107 rfl rfl fun Q hQ hP => ?_
 have hB : Below w0.heap.size w0 w0 := Below.refl _ _
 have hS : Sep w0.heap.size w0 [] := Sep.nil _ _
 unfold F_impl_IsSpot at hF
 refine W.seq fun K1 hK1 => W.region (wl_box (cs := [(.int .i64 x0.1), (.int .i64 x0.2)]) rfl rfl rfl hB hS ?_)
 intro b2 w3 hb4 hB5 hS6
 refine wl_assign rfl rfl (WL.nil (fun a ha => hK1 _ _ (W.seq fun K7 hK7 => ?_) a ha))
 obtain ⟨k12, hk12, hF⟩ := jE1 hF
 have hJ13 : ∀ (y11 : Bool) (w8 : World) (_ : k12 y11 = some r) (_ : Below w0.heap.size w0 w8) (_ : Sep w0.heap.size w8 []), ∀ a, St 11 [(2, (.bool y11))] a → K7 a w8 := by
  intro y11 w8 hF hB9 hS10
  subst hk12
  refine fun a ha => hK7 _ _ (W.ret ?_) a ha
  have hr := Option.some.inj hF
  subst hr
  exact rets (vs := [(.bool y11)]) hQ rfl ⟨rv_tmp rfl, trivial⟩ ⟨rfl, hB9⟩
 refine W.region (wl_field (o := 0) (off' := 0) ff_42_0 rfl rfl rfl (wl_load_blk (i := 0) (vs := [(.int .i64 x0.1)]) (v := (.int .i64 x0.1)) tf_3 rfl rfl hS6 rfl rfl rfl ?_))
 obtain ⟨u14, hu14, hF⟩ := bindE hF
 refine wl_call rfl Tryz.call37 (C_impl_within w3 x0.1 0 1280 _ hu14) rfl ?_
 rintro _ w15 ⟨rfl, hb16⟩
 refine ⟨_, rfl, ?_⟩
 have hB17 := hB5.trans (hb16.mono hB5.size)
 have hS18 := hS6.below hb16
 refine wl_move rfl rfl ?_
 rcases bE u14 with h20 | h20
 ·replace hF := ifP h20 hF
  refine wl_on rfl rfl h20 (wl_field (o := 1) (off' := 1) ff_42_1 rfl rfl rfl (wl_on rfl rfl h20 (wl_load_blk (i := 0) (vs := [(.int .i64 x0.2)]) (v := (.int .i64 x0.2)) tf_3 rfl rfl hS18 rfl rfl rfl (wl_on rfl rfl h20 ?_))))
  obtain ⟨u21, hu21, hF⟩ := bindE hF
  refine wl_call rfl Tryz.call37 (C_impl_within w15 x0.2 0 672 _ hu21) rfl ?_
  rintro _ w22 ⟨rfl, hb23⟩
  refine ⟨_, rfl, ?_⟩
  have hB24 := hB17.trans (hb23.mono hB17.size)
  have hS25 := hS18.below hb23
  refine wl_pick_t rfl rfl h20 rfl (wl_assign rfl rfl (WL.nil ?_))
  exact fun a ha => hJ13 (u21) _ hF hB24 (hS25.sel [] rfl) a (ha.sub ⟨rfl, trivial⟩)
 ·replace hF := ifN h20 hF
  refine wl_off rfl rfl rfl h20 (wl_off rfl rfl rfl h20 (wl_off rfl rfl rfl h20 (wl_pick_f rfl rfl h20 rfl (wl_assign rfl rfl (WL.nil ?_)))))
  exact fun a ha => hJ13 (false) _ hF hB17 (hS18.sel [] rfl) a (ha.sub ⟨rfl, trivial⟩)
theorem C_slices_Index_impl_Spot_impl_Spot (w0 : World) (x0 : (List (Int × Int))) (v0_0 : Value) (h0_0 : rdS ty_42 (· < w0.heap.size) w0 v0_0 x0) (x1 : (Int × Int)) (r : Int) (hF : F_slices_Index_impl_Spot_impl_Spot x0 x1 = some r) :
  Calls Tryz.prog 118 [v0_0, (.agg #[(.int .i64 x1.1), (.int .i64 x1.2)])].toArray w0 fun e w' => e = .returned (.int .i64 r) ∧ Below w0.heap.size w0 w' := by
 refine calls_mk' Tryz.func118 rfl Tryz.ntmps118 rfl rfl fun Q hQ hP => ?_
 have hB : Below w0.heap.size w0 w0 := Below.refl _ _
 have hS : Sep w0.heap.size w0 [] := Sep.nil _ _
 unfold F_slices_Index_impl_Spot_impl_Spot at hF
 refine W.seq fun K1 hK1 => W.region (wl_box (cs := [(.int .i64 x1.1), (.int .i64 x1.2)]) rfl rfl rfl hB hS ?_)
 intro b2 w3 hb4 hB5 hS6
 refine wl_assign rfl rfl (WL.nil (fun a ha => hK1 _ _ (W.seq fun K7 hK7 => (W.seq fun K8 hK8 => (W.region (wl_move rfl rfl (wl_lenr (e := ty_42) (l := x0) Tryz.underlying66 rfl rfl h0_0 (wl_move rfl rfl (WL.nil (fun a ha => hK8 _ _ (W.block (W.loopk (fun m a w9 => ∃ (y12 : Int), St 19 [(0, v0_0), (3, (.pointer (some ⟨b2, 0, none⟩))), (7, (.int .i64 (List.length x0 : Int))), (8, (.int .i64 y12))] a ∧ Below w0.heap.size w0 w9 ∧ Sep w0.heap.size w9 [R.blk b2 42 [(.int .i64 x1.1), (.int .i64 x1.2)]] ∧ F_slices_Index_impl_Spot_impl_Spot_L1 x0 x1 m y12 = some r) FU ?_ ?_)) a ha)))))))) a ha))
 ·
  exact fun a ha => ⟨0, ha.sub ⟨rfl, rfl, rfl, rfl, trivial⟩, hB5, (hS6.sel [0] rfl), hF⟩
 ·
  rintro m15 a w9 ⟨y12, ha, hB10, hS11, hF⟩ KL14 hKL14
  refine W.at ?_ ha
  cases m15 with
  | zero => exact noneE hF
  | succ m15 =>
   obtain ⟨nx13, hnx13⟩ : ∃ k, k = F_slices_Index_impl_Spot_impl_Spot_L1 x0 x1 m15 := ⟨_, rfl⟩
   rw [F_slices_Index_impl_Spot_impl_Spot_L1, ← hnx13] at hF
   refine W.seq fun K16 hK16 => W.region (wl_lss rfl rfl rfl (WL.nil (fun a ha => hK16 _ _ (W.seq fun K17 hK17 => (W.cond rfl (fun h18 => ?_) (fun h18 => ?_))) a ha)))
   ·replace hF := ifP h18 hF
    refine W.skip fun a ha => hK17 _ _ (W.seq fun K19 hK19 => (W.block (W.seq fun K20 hK20 => (W.region (wl_move rfl rfl (wl_assign rfl rfl (WL.nil (fun a ha => hK20 _ _ (W.seq fun K21 hK21 => (W.regionH mixed_ [] hB10 hS11 ?_)) a ha)))))))) a ha
    intro w22 hb23 hB24 hS25
    have hSW26 := KeepX.refl w22 []
    refine WH.tk 0 rfl hP hSW26 (pr_load_blk (i := 0) (vs := [(.int .i64 x1.1), (.int .i64 x1.2)]) (v := (.agg #[(.int .i64 x1.1), (.int .i64 x1.2)])) tf_42 rfl rfl hS25 rfl rfl rfl (by simp) (WH.tk 1 rfl hP hSW26 (pr_move rfl rfl (WH.tk 2 rfl hP hSW26 (pr_move rfl rfl ?_)))))
    obtain ⟨u27, hu27, hF⟩ := bindE hF
    refine WH.tk 3 rfl hP hSW26 (pr_index (e := ty_42) Tryz.underlying66 rfl rfl rfl h0_0 hu27 ?_)
    rintro p28 _ rfl hp29
    refine WH.tk 4 rfl hP hSW26 (pr_load_p (vs := [(.int .i64 u27.1), (.int .i64 u27.2)]) (v := (.agg #[(.int .i64 u27.1), (.int .i64 u27.2)])) tf_42 rfl rfl (hp29.kx hB24 (by simp)) rfl rfl (WH.tk 5 rfl hP hSW26 (pr_eqs Tryz.eqGuardType42 (eq_42 x1 u27) rfl rfl rfl (WH.done (by kernel_rfl) (fun a ha => hK21 _ _ (W.cond rfl (fun h30 => ?_) (fun h30 => ?_)) a ha)))))
    ·replace hF := ifP h30 hF
     refine W.seq fun K31 hK31 => W.region (wl_move rfl rfl (wl_assign rfl rfl (WL.nil (fun a ha => hK31 _ _ (W.ret ?_) a ha))))
     have hr := Option.some.inj hF
     subst hr
     exact rets (vs := [(.int .i64 y12)]) hQ rfl ⟨rv_tmp rfl, trivial⟩ ⟨rfl, hB24⟩
    ·replace hF := ifN h30 hF
     refine W.skip fun a ha => hK19 _ _ (W.region (wl_add rfl rfl rfl (wl_move rfl rfl (WL.nil ?_)))) a ha
     rw [hnx13] at hF
     exact fun a ha => hKL14 a _ m15 (Nat.lt_succ_self m15) ⟨(w64 (y12 + 1)), ha.sub ⟨rfl, rfl, rfl, rfl, trivial⟩, hB24, (hS25.sel [0] rfl), hF⟩
   ·replace hF := ifN h18 hF
    refine W.exit fun a ha => hK7 _ _ (W.seq fun K32 hK32 => (W.region (wl_assign rfl rfl (WL.nil (fun a ha => hK32 _ _ (W.ret ?_) a ha))))) a ha
    have hr := Option.some.inj hF
    subst hr
    exact rets (vs := [(.int .i64 (-1))]) hQ rfl ⟨rv_tmp rfl, trivial⟩ ⟨rfl, hB10⟩
theorem C_slices_Contains_impl_Spot_impl_Spot (w0 : World) (x0 : (List (Int × Int))) (v0_0 : Value) (h0_0 : rdS ty_42 (· < w0.heap.size) w0 v0_0 x0) (x1 : (Int × Int)) (r : Bool) (hF : F_slices_Contains_impl_Spot_impl_Spot x0 x1 = some r) :
  Calls Tryz.prog 108 [v0_0, (.agg #[(.int .i64 x1.1), (.int .i64 x1.2)])].toArray w0 fun e w' => e = .returned (.bool r) ∧ Below w0.heap.size w0 w' := by
 refine calls_mk' Tryz.func108 rfl Tryz.ntmps108 rfl rfl fun Q hQ hP => ?_
 have hB : Below w0.heap.size w0 w0 := Below.refl _ _
 have hS : Sep w0.heap.size w0 [] := Sep.nil _ _
 unfold F_slices_Contains_impl_Spot_impl_Spot at hF
 refine W.seq fun K1 hK1 => W.region (wl_box (cs := [(.int .i64 x1.1), (.int .i64 x1.2)]) rfl rfl rfl hB hS ?_)
 intro b2 w3 hb4 hB5 hS6
 refine wl_assign rfl rfl (WL.nil (fun a ha => hK1 _ _ (W.seq fun K7 hK7 => (W.region (wl_move rfl rfl (wl_load_blk (i := 0) (vs := [(.int .i64 x1.1), (.int .i64 x1.2)]) (v := (.agg #[(.int .i64 x1.1), (.int .i64 x1.2)])) tf_42 rfl rfl hS6 rfl rfl rfl ?_)))) a ha))
 obtain ⟨u8, hu8, hF⟩ := bindE hF
 refine wl_call rfl Tryz.call118 (C_slices_Index_impl_Spot_impl_Spot w3 x0 v0_0 (h0_0.ro hB5) x1 _ hu8) rfl ?_
 rintro _ w9 ⟨rfl, hb10⟩
 refine ⟨_, rfl, ?_⟩
 have hB11 := hB5.trans (hb10.mono hB5.size)
 refine wl_geq rfl rfl rfl (wl_assign rfl rfl (WL.nil (fun a ha => hK7 _ _ (W.ret ?_) a ha)))
 have hr := Option.some.inj hF
 subst hr
 exact rets (vs := [(.bool (decide (0 ≤ u8)))]) hQ rfl ⟨rv_tmp rfl, trivial⟩ ⟨rfl, hB11⟩
theorem C_impl_IsChart (w0 : World) (x0 : (List (Int × Int))) (v0_0 : Value) (h0_0 : rdS ty_42 (· < w0.heap.size) w0 v0_0 x0) (r : Bool) (hF : F_impl_IsChart x0 = some r) :
  Calls Tryz.prog 82 [v0_0].toArray w0 fun e w' => e = .returned (.bool r) ∧ Below w0.heap.size w0 w' := by
 refine calls_mk' Tryz.func82 rfl Tryz.ntmps82 rfl rfl fun Q hQ hP => ?_
 have hB : Below w0.heap.size w0 w0 := Below.refl _ _
 have hS : Sep w0.heap.size w0 [] := Sep.nil _ _
 unfold F_impl_IsChart at hF
 refine W.seq fun K1 hK1 => W.region (wl_assign rfl rfl (WL.nil (fun a ha => hK1 _ _ (W.seq fun K2 hK2 => (W.seq fun K3 hK3 => (W.region (wl_move rfl rfl (wl_lenr (e := ty_42) (l := x0) Tryz.underlying66 rfl rfl h0_0 ?_))))) a ha)))
 obtain ⟨u4, hu4, hF⟩ := bindE hF
 refine wl_call rfl Tryz.call37 (C_impl_within w0 (List.length x0 : Int) 1 12 _ hu4) rfl ?_
 rintro _ w5 ⟨rfl, hb6⟩
 refine ⟨_, rfl, ?_⟩
 have hB7 := hB.trans (hb6.mono hB.size)
 have hS8 := hS.below hb6
 refine wl_not rfl rfl (WL.nil (fun a ha => hK3 _ _ (W.cond rfl (fun h10 => ?_) (fun h10 => ?_)) a ha))
 ·replace hF := ifP h10 hF
  refine W.seq fun K11 hK11 => W.region (wl_assign rfl rfl (WL.nil (fun a ha => hK11 _ _ (W.ret ?_) a ha)))
  have hr := Option.some.inj hF
  subst hr
  exact rets (vs := [(.bool false)]) hQ rfl ⟨rv_tmp rfl, trivial⟩ ⟨rfl, hB7⟩
 ·replace hF := ifN h10 hF
  refine W.skip fun a ha => hK2 _ _ (W.seq fun K12 hK12 => (W.seq fun K13 hK13 => (W.region (wl_move rfl rfl (wl_lenr (e := ty_42) (l := x0) Tryz.underlying66 rfl rfl h0_0 (wl_move rfl rfl (WL.nil (fun a ha => hK13 _ _ (W.block (W.loopk (fun m a w14 => ∃ (y17 : Int), St 27 [(0, v0_0), (9, v0_0), (10, (.int .i64 (List.length x0 : Int))), (11, (.int .i64 y17))] a ∧ Below w0.heap.size w0 w14 ∧ Sep w0.heap.size w14 [] ∧ F_impl_IsChart_L1 x0 m y17 = some r) FU ?_ ?_)) a ha)))))))) a ha
  ·
   exact fun a ha => ⟨0, ha.sub ⟨rfl, rfl, rfl, rfl, trivial⟩, hB7, (hS8.sel [] rfl), hF⟩
  ·
   rintro m20 a w14 ⟨y17, ha, hB15, hS16, hF⟩ KL19 hKL19
   refine W.at ?_ ha
   cases m20 with
   | zero => exact noneE hF
   | succ m20 =>
    obtain ⟨nx18, hnx18⟩ : ∃ k, k = F_impl_IsChart_L1 x0 m20 := ⟨_, rfl⟩
    rw [F_impl_IsChart_L1, ← hnx18] at hF
    refine W.seq fun K21 hK21 => W.region (wl_lss rfl rfl rfl (WL.nil (fun a ha => hK21 _ _ (W.seq fun K22 hK22 => (W.cond rfl (fun h23 => ?_) (fun h23 => ?_))) a ha)))
    ·replace hF := ifP h23 hF
     refine W.skip fun a ha => hK22 _ _ (W.seq fun K24 hK24 => (W.block (W.seq fun K25 hK25 => (W.region (wl_move rfl rfl ?_))))) a ha
     obtain ⟨u26, hu26, hF⟩ := bindE hF
     refine wl_index (e := ty_42) Tryz.underlying66 rfl rfl rfl h0_0 hu26 ?_
     rintro p27 _ rfl hp28
     refine wl_load_p (vs := [(.int .i64 u26.1), (.int .i64 u26.2)]) (v := (.agg #[(.int .i64 u26.1), (.int .i64 u26.2)])) tf_42 rfl rfl (hp28.ro hB15) rfl rfl (wl_alloc (cs := [(.int .i64 0), (.int .i64 0)]) tf_42 rfl rfl hB15 hS16 ?_)
     intro b29 w30 hb31 hB32 hS33
     refine wl_assign rfl rfl (wl_store_blk (i := 0) (vs := [(.int .i64 u26.1), (.int .i64 u26.2)]) (cs' := [(.int .i64 u26.1), (.int .i64 u26.2)]) tf_42 rfl rfl rfl rfl hB32 hS33 rfl rfl ⟨rfl, rfl, trivial⟩ rfl ?_)
     intro w34 hk37 hB35 hS36
     refine WL.nil fun a ha => hK25 _ _ (W.seq fun K38 hK38 => ?_) a ha
     obtain ⟨k43, hk43, hF⟩ := jE1 hF
     have hJ44 : ∀ (y42 : Bool) (w39 : World) (_ : k43 y42 = some r) (_ : Below w0.heap.size w0 w39) (_ : Sep w0.heap.size w39 []), ∀ a, St 27 [(0, v0_0), (9, v0_0), (10, (.int .i64 (List.length x0 : Int))), (11, (.int .i64 y17)), (25, (.bool y42))] a → K38 a w39 := by
      intro y42 w39 hF hB40 hS41
      subst hk43
      refine fun a ha => hK38 _ _ (W.cond rfl (fun h45 => ?_) (fun h45 => ?_)) a ha
      ·replace hF := ifP h45 hF
       refine W.seq fun K46 hK46 => W.region (wl_assign rfl rfl (WL.nil (fun a ha => hK46 _ _ (W.ret ?_) a ha)))
       have hr := Option.some.inj hF
       subst hr
       exact rets (vs := [(.bool false)]) hQ rfl ⟨rv_tmp rfl, trivial⟩ ⟨rfl, hB40⟩
      ·replace hF := ifN h45 hF
       refine W.skip fun a ha => hK24 _ _ (W.region (wl_add rfl rfl rfl (wl_move rfl rfl (WL.nil ?_)))) a ha
       rw [hnx18] at hF
       exact fun a ha => hKL19 a _ m20 (Nat.lt_succ_self m20) ⟨(w64 (y17 + 1)), ha.sub ⟨rfl, rfl, rfl, rfl, trivial⟩, hB40, (hS41.sel [] rfl), hF⟩
     refine W.regionH mixed_ [] hB35 hS36 ?_
     intro w47 hb48 hB49 hS50
     have hSW51 := KeepX.refl w47 []
     refine WH.tk 0 rfl hP hSW51 (pr_load_blk (i := 0) (vs := [(.int .i64 u26.1), (.int .i64 u26.2)]) (v := (.agg #[(.int .i64 u26.1), (.int .i64 u26.2)])) tf_42 rfl rfl hS50 rfl rfl rfl (by simp) (WH.on1 1 rfl ?_))
     obtain ⟨u52, hu52, hF⟩ := bindE hF
     refine wl_call rfl Tryz.call107 (C_impl_IsSpot w47 u26 _ hu52) rfl ?_
     rintro _ w53 ⟨rfl, hb54⟩
     refine ⟨_, rfl, ?_⟩
     have hB55 := hB49.trans (hb54.mono hB49.size)
     have hS56 := hS50.below hb54
     have hSW58 := hSW51.ext hb54
     refine WL.nil (WH.ret hSW58 (WH.tk 2 rfl hP hSW58 (pr_not rfl rfl (WH.tk 3 rfl hP hSW58 (pr_move rfl rfl ?_)))))
     rcases bE (!u52) with h59 | h59
     ·replace hF := ifP h59 hF
      refine WH.off (i := 4) rfl (by kernel_rfl) (by kernel_rfl) (by kernel_rfl) hP rfl rfl h59 rfl hSW58 (WH.off (i := 5) rfl (by kernel_rfl) (by kernel_rfl) (by kernel_rfl) hP rfl rfl h59 rfl hSW58 (WH.off (i := 6) rfl (by kernel_rfl) (by kernel_rfl) (by kernel_rfl) hP rfl rfl h59 rfl hSW58 (WH.off (i := 7) rfl (by kernel_rfl) (by kernel_rfl) (by kernel_rfl) hP rfl rfl h59 rfl hSW58 (WH.off (i := 8) rfl (by kernel_rfl) (by kernel_rfl) (by kernel_rfl) hP rfl rfl h59 rfl hSW58 (WH.tk 9 rfl hP hSW58 (pr_pick_t rfl rfl h59 rfl (WH.done (by kernel_rfl) ?_)))))))
      exact fun a ha => hJ44 (true) _ hF hB55 (hS56.sel [] rfl) a (ha.sub ⟨rfl, rfl, rfl, rfl, rfl, trivial⟩)
     ·replace hF := ifN h59 hF
      refine WH.takexg (i := 4) rfl (by kernel_rfl) (by kernel_rfl) (by kernel_rfl) hP rfl rfl h59 hSW58 (pr_move rfl rfl (WH.takexg (i := 5) rfl (by kernel_rfl) (by kernel_rfl) (by kernel_rfl) hP rfl rfl h59 hSW58 (pr_move rfl rfl ?_)))
      obtain ⟨u60, hu60, hF⟩ := bindE hF
      refine WH.takexg (i := 6) rfl (by kernel_rfl) (by kernel_rfl) (by kernel_rfl) hP rfl rfl h59 hSW58 (pr_slice (e := ty_42) Tryz.underlying66 rfl rfl h0_0 hu60 (.inl ⟨rfl, rfl⟩) (.inr ⟨_, _, rfl, rfl⟩) ?_)
      intro v61 hv62
      refine WH.takexg (i := 7) rfl (by kernel_rfl) (by kernel_rfl) (by kernel_rfl) hP rfl rfl h59 hSW58 (pr_load_blk (i := 0) (vs := [(.int .i64 u26.1), (.int .i64 u26.2)]) (v := (.agg #[(.int .i64 u26.1), (.int .i64 u26.2)])) tf_42 rfl rfl hS50 rfl rfl rfl (by simp) (WH.on1 8 rfl (wl_on rfl rfl h59 ?_)))
      obtain ⟨u63, hu63, hF⟩ := bindE hF
      refine wl_call rfl Tryz.call108 (C_slices_Contains_impl_Spot_impl_Spot w53 u60 v61 (hv62.ro hB55) u26 _ hu63) rfl ?_
      rintro _ w65 ⟨rfl, hb66⟩
      refine ⟨_, rfl, ?_⟩
      have hB67 := hB55.trans (hb66.mono hB55.size)
      have hS68 := hS56.below hb66
      have hSW70 := hSW58.ext hb66
      refine WL.nil (WH.ret hSW70 (WH.tk 9 rfl hP hSW70 (pr_pick_f rfl rfl h59 rfl (WH.done (by kernel_rfl) ?_))))
      exact fun a ha => hJ44 (u63) _ hF hB67 (hS68.sel [] rfl) a (ha.sub ⟨rfl, rfl, rfl, rfl, rfl, trivial⟩)
    ·replace hF := ifN h23 hF
     refine W.exit fun a ha => hK12 _ _ (W.seq fun K71 hK71 => (W.region (wl_assign rfl rfl (WL.nil (fun a ha => hK71 _ _ (W.ret ?_) a ha))))) a ha
     have hr := Option.some.inj hF
     subst hr
     exact rets (vs := [(.bool true)]) hQ rfl ⟨rv_tmp rfl, trivial⟩ ⟨rfl, hB15⟩
theorem C_impl_areCharts (w0 : World) (x0 : (List (List (Int × Int)))) (v0_0 : Value) (h0_0 : rdS ty_66 (· < w0.heap.size) w0 v0_0 x0) (x1 : (List Int)) (v1_0 : Value) (h1_0 : rdS ty_3 (· < w0.heap.size) w0 v1_0 x1) (r : Bool) (hF : F_impl_areCharts x0 x1 = some r) :
  Calls Tryz.prog 64 [v0_0, v1_0].toArray w0 fun e w' => e = .returned (.bool r) ∧ Below w0.heap.size w0 w' := by
 refine calls_mk' Tryz.func64 rfl Tryz.ntmps64 rfl rfl fun Q hQ hP => ?_
 have hB : Below w0.heap.size w0 w0 := Below.refl _ _
 have hS : Sep w0.heap.size w0 [] := Sep.nil _ _
 unfold F_impl_areCharts at hF
 refine W.seq fun K1 hK1 => W.region (wl_assign rfl rfl (WL.nil (fun a ha => hK1 _ _ (W.seq fun K2 hK2 => (W.seq fun K3 hK3 => ?_)) a ha)))
 obtain ⟨k8, hk8, hF⟩ := jE1 hF
 have hJ9 : ∀ (y7 : Bool) (w4 : World) (_ : k8 y7 = some r) (_ : Below w0.heap.size w0 w4) (_ : Sep w0.heap.size w4 []), ∀ a, St 50 [(0, v0_0), (1, v1_0), (20, (.bool y7))] a → K3 a w4 := by
  intro y7 w4 hF hB5 hS6
  subst hk8
  refine fun a ha => hK3 _ _ (W.cond rfl (fun h10 => ?_) (fun h10 => ?_)) a ha
  ·replace hF := ifP h10 hF
   refine W.seq fun K11 hK11 => W.region (wl_assign rfl rfl (WL.nil (fun a ha => hK11 _ _ (W.ret ?_) a ha)))
   have hr := Option.some.inj hF
   subst hr
   exact rets (vs := [(.bool false)]) hQ rfl ⟨rv_tmp rfl, trivial⟩ ⟨rfl, hB5⟩
  ·replace hF := ifN h10 hF
   refine W.skip fun a ha => hK2 _ _ (W.seq fun K12 hK12 => (W.seq fun K13 hK13 => (W.region (wl_move rfl rfl (wl_lenr (e := ty_66) (l := x0) Tryz.underlying24 rfl rfl h0_0 (wl_move rfl rfl (WL.nil (fun a ha => hK13 _ _ (W.block (W.loopk (fun m a w14 => ∃ (y17 : Int), St 50 [(0, v0_0), (1, v1_0), (21, v0_0), (22, (.int .i64 (List.length x0 : Int))), (23, (.int .i64 y17))] a ∧ Below w0.heap.size w0 w14 ∧ Sep w0.heap.size w14 [] ∧ F_impl_areCharts_L1 x0 x1 m y17 = some r) FU ?_ ?_)) a ha)))))))) a ha
   ·
    exact fun a ha => ⟨0, ha.sub ⟨rfl, rfl, rfl, rfl, rfl, trivial⟩, hB5, (hS6.sel [] rfl), hF⟩
   ·
    rintro m20 a w14 ⟨y17, ha, hB15, hS16, hF⟩ KL19 hKL19
    refine W.at ?_ ha
    cases m20 with
    | zero => exact noneE hF
    | succ m20 =>
     obtain ⟨nx18, hnx18⟩ : ∃ k, k = F_impl_areCharts_L1 x0 x1 m20 := ⟨_, rfl⟩
     rw [F_impl_areCharts_L1, ← hnx18] at hF
     refine W.seq fun K21 hK21 => W.region (wl_lss rfl rfl rfl (WL.nil (fun a ha => hK21 _ _ (W.seq fun K22 hK22 => (W.cond rfl (fun h23 => ?_) (fun h23 => ?_))) a ha)))
     ·replace hF := ifP h23 hF
      refine W.skip fun a ha => hK22 _ _ (W.seq fun K24 hK24 => (W.block (W.seq fun K25 hK25 => (W.region ?_)))) a ha
      obtain ⟨u26, hu26, hF⟩ := bindE hF
      refine wl_index (e := ty_66) Tryz.underlying24 rfl rfl rfl h0_0 hu26 ?_
      rintro p27 _ ⟨v29, rfl, hv30⟩ hp28
      refine wl_load_p (vs := [v29]) (v := v29) tf_66 rfl rfl (hp28.ro hB15) rfl rfl (wl_assign rfl rfl (WL.nil (fun a ha => hK25 _ _ (W.seq fun K31 hK31 => ?_) a ha)))
      obtain ⟨k36, hk36, hF⟩ := jE1 hF
      have hJ37 : ∀ (y35 : Bool) (w32 : World) (_ : k36 y35 = some r) (_ : Below w0.heap.size w0 w32) (_ : Sep w0.heap.size w32 []), ∀ a, St 50 [(0, v0_0), (1, v1_0), (21, v0_0), (22, (.int .i64 (List.length x0 : Int))), (23, (.int .i64 y17)), (38, (.bool y35))] a → K31 a w32 := by
       intro y35 w32 hF hB33 hS34
       subst hk36
       refine fun a ha => hK31 _ _ (W.cond rfl (fun h38 => ?_) (fun h38 => ?_)) a ha
       ·replace hF := ifP h38 hF
        refine W.seq fun K39 hK39 => W.region (wl_assign rfl rfl (WL.nil (fun a ha => hK39 _ _ (W.ret ?_) a ha)))
        have hr := Option.some.inj hF
        subst hr
        exact rets (vs := [(.bool false)]) hQ rfl ⟨rv_tmp rfl, trivial⟩ ⟨rfl, hB33⟩
       ·replace hF := ifN h38 hF
        refine W.skip fun a ha => hK24 _ _ (W.region (wl_add rfl rfl rfl (wl_move rfl rfl (WL.nil ?_)))) a ha
        rw [hnx18] at hF
        exact fun a ha => hKL19 a _ m20 (Nat.lt_succ_self m20) ⟨(w64 (y17 + 1)), ha.sub ⟨rfl, rfl, rfl, rfl, rfl, trivial⟩, hB33, (hS34.sel [] rfl), hF⟩
      refine W.region (wl_move rfl rfl ?_)
      obtain ⟨u40, hu40, hF⟩ := bindE hF
      refine wl_call rfl Tryz.call82 (C_impl_IsChart w14 u26 v29 (hv30.ro hB15) _ hu40) rfl ?_
      rintro _ w41 ⟨rfl, hb42⟩
      refine ⟨_, rfl, ?_⟩
      have hB43 := hB15.trans (hb42.mono hB15.size)
      have hS44 := hS16.below hb42
      refine wl_not rfl rfl (wl_move rfl rfl ?_)
      rcases bE (!u40) with h46 | h46
      ·replace hF := ifP h46 hF
       refine wl_off rfl rfl rfl h46 (wl_off rfl rfl rfl h46 (wl_off rfl rfl rfl h46 (wl_off rfl rfl rfl h46 (wl_off rfl rfl rfl h46 (wl_off rfl rfl rfl h46 (wl_off rfl rfl rfl h46 (wl_pick_t rfl rfl h46 rfl (WL.nil ?_))))))))
       exact fun a ha => hJ37 (true) _ hF hB43 (hS44.sel [] rfl) a (ha.sub ⟨rfl, rfl, rfl, rfl, rfl, rfl, trivial⟩)
      ·replace hF := ifN h46 hF
       refine wl_on rfl rfl h46 (wl_move rfl rfl (wl_on rfl rfl h46 (wl_lenr (e := ty_42) (l := u26) Tryz.underlying66 rfl rfl hv30 (wl_on rfl rfl h46 (wl_move rfl rfl (wl_on rfl rfl h46 ?_))))))
       obtain ⟨u47, hu47, hF⟩ := bindE hF
       refine wl_index (e := ty_66) Tryz.underlying24 rfl rfl rfl h0_0 hu47 ?_
       rintro p48 _ ⟨v50, rfl, hv51⟩ hp49
       refine wl_on rfl rfl h46 (wl_load_p (vs := [v50]) (v := v50) tf_66 rfl rfl (hp49.ro hB43) rfl rfl (wl_on rfl rfl h46 (wl_lenr (e := ty_42) (l := u47) Tryz.underlying66 rfl rfl hv51 (wl_on rfl rfl h46 (wl_neq rfl rfl rfl (wl_pick_f rfl rfl h46 rfl (WL.nil ?_)))))))
       exact fun a ha => hJ37 (((List.length u26 : Int) != (List.length u47 : Int))) _ hF hB43 (hS44.sel [] rfl) a (ha.sub ⟨rfl, rfl, rfl, rfl, rfl, rfl, trivial⟩)
     ·replace hF := ifN h23 hF
      refine W.exit fun a ha => hK12 _ _ (W.seq fun K52 hK52 => (W.seq fun K53 hK53 => (W.region (wl_move rfl rfl (wl_lenr (e := ty_3) (l := x1) Tryz.underlying25 rfl rfl h1_0 (wl_move rfl rfl (WL.nil (fun a ha => hK53 _ _ (W.block (W.loopk (fun m a w54 => ∃ (y57 : Int), St 50 [(40, v1_0), (41, (.int .i64 (List.length x1 : Int))), (42, (.int .i64 y57))] a ∧ Below w0.heap.size w0 w54 ∧ Sep w0.heap.size w54 [] ∧ F_impl_areCharts_L2 x1 m y57 = some r) FU ?_ ?_)) a ha)))))))) a ha
      ·
       exact fun a ha => ⟨0, ha.sub ⟨rfl, rfl, rfl, trivial⟩, hB15, (hS16.sel [] rfl), hF⟩
      ·
       rintro m60 a w54 ⟨y57, ha, hB55, hS56, hF⟩ KL59 hKL59
       refine W.at ?_ ha
       cases m60 with
       | zero => exact noneE hF
       | succ m60 =>
        obtain ⟨nx58, hnx58⟩ : ∃ k, k = F_impl_areCharts_L2 x1 m60 := ⟨_, rfl⟩
        rw [F_impl_areCharts_L2, ← hnx58] at hF
        refine W.seq fun K61 hK61 => W.region (wl_lss rfl rfl rfl (WL.nil (fun a ha => hK61 _ _ (W.seq fun K62 hK62 => (W.cond rfl (fun h63 => ?_) (fun h63 => ?_))) a ha)))
        ·replace hF := ifP h63 hF
         refine W.skip fun a ha => hK62 _ _ (W.seq fun K64 hK64 => (W.block (W.seq fun K65 hK65 => (W.region ?_)))) a ha
         obtain ⟨u66, hu66, hF⟩ := bindE hF
         refine wl_index (e := ty_3) Tryz.underlying25 rfl rfl rfl h1_0 hu66 ?_
         rintro p67 _ rfl hp68
         refine wl_load_p (vs := [(.int .i64 u66)]) (v := (.int .i64 u66)) tf_3 rfl rfl (hp68.ro hB55) rfl rfl (wl_assign rfl rfl (WL.nil (fun a ha => hK65 _ _ (W.seq fun K69 hK69 => (W.region (wl_move rfl rfl ?_))) a ha)))
         obtain ⟨u70, hu70, hF⟩ := bindE hF
         refine wl_call rfl Tryz.call37 (C_impl_within w54 u66 1 64 _ hu70) rfl ?_
         rintro _ w71 ⟨rfl, hb72⟩
         refine ⟨_, rfl, ?_⟩
         have hB73 := hB55.trans (hb72.mono hB55.size)
         have hS74 := hS56.below hb72
         refine wl_not rfl rfl (WL.nil (fun a ha => hK69 _ _ (W.cond rfl (fun h76 => ?_) (fun h76 => ?_)) a ha))
         ·replace hF := ifP h76 hF
          refine W.seq fun K77 hK77 => W.region (wl_assign rfl rfl (WL.nil (fun a ha => hK77 _ _ (W.ret ?_) a ha)))
          have hr := Option.some.inj hF
          subst hr
          exact rets (vs := [(.bool false)]) hQ rfl ⟨rv_tmp rfl, trivial⟩ ⟨rfl, hB73⟩
         ·replace hF := ifN h76 hF
          refine W.skip fun a ha => hK64 _ _ (W.region (wl_add rfl rfl rfl (wl_move rfl rfl (WL.nil ?_)))) a ha
          rw [hnx58] at hF
          exact fun a ha => hKL59 a _ m60 (Nat.lt_succ_self m60) ⟨(w64 (y57 + 1)), ha.sub ⟨rfl, rfl, rfl, trivial⟩, hB73, (hS74.sel [] rfl), hF⟩
        ·replace hF := ifN h63 hF
         refine W.exit fun a ha => hK52 _ _ (W.seq fun K78 hK78 => (W.region (wl_assign rfl rfl (WL.nil (fun a ha => hK78 _ _ (W.ret ?_) a ha))))) a ha
         have hr := Option.some.inj hF
         subst hr
         exact rets (vs := [(.bool true)]) hQ rfl ⟨rv_tmp rfl, trivial⟩ ⟨rfl, hB55⟩
 refine W.region (wl_move rfl rfl (wl_lenr (e := ty_66) (l := x0) Tryz.underlying24 rfl rfl h0_0 ?_))
 obtain ⟨u79, hu79, hF⟩ := bindE hF
 refine wl_call rfl Tryz.call37 (C_impl_within w0 (List.length x0 : Int) 1 9 _ hu79) rfl ?_
 rintro _ w80 ⟨rfl, hb81⟩
 refine ⟨_, rfl, ?_⟩
 have hB82 := hB.trans (hb81.mono hB.size)
 have hS83 := hS.below hb81
 refine wl_not rfl rfl (wl_move rfl rfl ?_)
 rcases bE (!u79) with h85 | h85
 ·replace hF := ifP h85 hF
  refine wl_off rfl rfl rfl h85 (wl_off rfl rfl rfl h85 (wl_off rfl rfl rfl h85 (wl_off rfl rfl rfl h85 (wl_off rfl rfl rfl h85 (wl_off rfl rfl rfl h85 (wl_pick_t rfl rfl h85 rfl (WL.nil ?_)))))))
  exact fun a ha => hJ9 (true) _ hF hB82 (hS83.sel [] rfl) a (ha.sub ⟨rfl, rfl, rfl, trivial⟩)
 ·replace hF := ifN h85 hF
  refine wl_on rfl rfl h85 (wl_move rfl rfl (wl_on rfl rfl h85 (wl_lenr (e := ty_3) (l := x1) Tryz.underlying25 rfl rfl h1_0 (wl_on rfl rfl h85 (wl_move rfl rfl (wl_on rfl rfl h85 (wl_lenr (e := ty_66) (l := x0) Tryz.underlying24 rfl rfl h0_0 (wl_on rfl rfl h85 (wl_sub rfl rfl rfl (wl_on rfl rfl h85 (wl_neq rfl rfl rfl (wl_pick_f rfl rfl h85 rfl (WL.nil ?_)))))))))))))
  exact fun a ha => hJ9 (((List.length x1 : Int) != (w64 ((List.length x0 : Int) - 1)))) _ hF hB82 (hS83.sel [] rfl) a (ha.sub ⟨rfl, rfl, rfl, trivial⟩)
theorem C_impl_isLeast (w0 : World) (x0 : Int) (r : Bool) (hF : F_impl_isLeast x0 = some r) :
  Calls Tryz.prog 65 [(.int .i64 x0)].toArray w0 fun e w' => e = .returned (.bool r) ∧ Below w0.heap.size w0 w' := by
 refine calls_mk' Tryz.func65 rfl Tryz.ntmps65 rfl rfl fun Q hQ hP => ?_
 have hB : Below w0.heap.size w0 w0 := Below.refl _ _
 unfold F_impl_isLeast at hF
 refine W.seq fun K1 hK1 => W.region (wl_assign rfl rfl (WL.nil (fun a ha => hK1 _ _ (W.seq fun K2 hK2 => (W.region (wl_move rfl rfl ?_))) a ha)))
 obtain ⟨u3, hu3, hF⟩ := bindE hF
 refine wl_call rfl Tryz.call37 (C_impl_within w0 x0 0 80 _ hu3) rfl ?_
 rintro _ w4 ⟨rfl, hb5⟩
 refine ⟨_, rfl, ?_⟩
 have hB6 := hB.trans (hb5.mono hB.size)
 refine wl_assign rfl rfl (WL.nil (fun a ha => hK2 _ _ (W.ret ?_) a ha))
 have hr := Option.some.inj hF
 subst hr
 exact rets (vs := [(.bool u3)]) hQ rfl ⟨rv_tmp rfl, trivial⟩ ⟨rfl, hB6⟩
theorem C_impl_IsShow (w0 : World) (x0 : ((List (List (Int × Int))) × (List Int) × Int × Int)) (v0_0 : Value) (h0_0 : rdS ty_66 (· < w0.heap.size) w0 v0_0 x0.1) (v0_1 : Value) (h0_1 : rdS ty_3 (· < w0.heap.size) w0 v0_1 x0.2.1) (r : Bool) (hF : F_impl_IsShow x0 = some r) :
  Calls Tryz.prog 36 [(.agg #[v0_0, v0_1, (.int .i64 x0.2.2.1), (.int .i64 x0.2.2.2)])].toArray w0 fun e w' => e = .returned (.bool r) ∧ Below w0.heap.size w0 w' := by
 refine calls_mk' Tryz.func36 rfl Tryz.ntmps36 rfl rfl fun Q hQ hP => ?_
 have hB : Below w0.heap.size w0 w0 := Below.refl _ _
 have hS : Sep w0.heap.size w0 [] := Sep.nil _ _
 unfold F_impl_IsShow at hF
 refine W.seq fun K1 hK1 => W.region (wl_box (cs := [v0_0, v0_1, (.int .i64 x0.2.2.1), (.int .i64 x0.2.2.2)]) rfl rfl rfl hB hS ?_)
 intro b2 w3 hb4 hB5 hS6
 refine wl_assign rfl rfl (WL.nil (fun a ha => hK1 _ _ (W.seq fun K7 hK7 => ?_) a ha))
 obtain ⟨k12, hk12, hF⟩ := jE1 hF
 have hJ13 : ∀ (y11 : Bool) (w8 : World) (_ : k12 y11 = some r) (_ : Below w0.heap.size w0 w8) (_ : Sep w0.heap.size w8 []), ∀ a, St 24 [(2, (.bool y11))] a → K7 a w8 := by
  intro y11 w8 hF hB9 hS10
  subst hk12
  refine fun a ha => hK7 _ _ (W.ret ?_) a ha
  have hr := Option.some.inj hF
  subst hr
  exact rets (vs := [(.bool y11)]) hQ rfl ⟨rv_tmp rfl, trivial⟩ ⟨rfl, hB9⟩
 refine W.region (wl_field (o := 0) (off' := 0) ff_27_0 rfl rfl rfl (wl_load_blk (i := 0) (vs := [v0_0]) (v := v0_0) tf_24 rfl rfl hS6 rfl rfl rfl (wl_lenr (e := ty_66) (l := x0.1) Tryz.underlying24 rfl rfl h0_0 ?_)))
 obtain ⟨u14, hu14, hF⟩ := bindE hF
 refine wl_call rfl Tryz.call37 (C_impl_within w3 (List.length x0.1 : Int) 2 8 _ hu14) rfl ?_
 rintro _ w15 ⟨rfl, hb16⟩
 refine ⟨_, rfl, ?_⟩
 have hB17 := hB5.trans (hb16.mono hB5.size)
 have hS18 := hS6.below hb16
 refine wl_move rfl rfl ?_
 rcases bE u14 with h20 | h20
 ·replace hF := ifP h20 hF
  refine wl_on rfl rfl h20 (wl_field (o := 0) (off' := 0) ff_27_0 rfl rfl rfl (wl_on rfl rfl h20 (wl_load_blk (i := 0) (vs := [v0_0]) (v := v0_0) tf_24 rfl rfl hS18 rfl rfl rfl (wl_on rfl rfl h20 (wl_field (o := 1) (off' := 1) ff_27_1 rfl rfl rfl (wl_on rfl rfl h20 (wl_load_blk (i := 0) (vs := [v0_1]) (v := v0_1) tf_25 rfl rfl hS18 rfl rfl rfl (wl_on rfl rfl h20 ?_))))))))
  obtain ⟨u21, hu21, hF⟩ := bindE hF
  refine wl_call rfl Tryz.call64 (C_impl_areCharts w15 x0.1 v0_0 (h0_0.ro hB17) x0.2.1 v0_1 (h0_1.ro hB17) _ hu21) rfl ?_
  rintro _ w22 ⟨rfl, hb23⟩
  refine ⟨_, rfl, ?_⟩
  have hB24 := hB17.trans (hb23.mono hB17.size)
  have hS25 := hS18.below hb23
  refine wl_pick_t rfl rfl h20 rfl (wl_move rfl rfl ?_)
  rcases bE u21 with h27 | h27
  ·replace hF := ifP h27 hF
   refine wl_on rfl rfl h27 (wl_field (o := 2) (off' := 2) ff_27_2 rfl rfl rfl (wl_on rfl rfl h27 (wl_load_blk (i := 0) (vs := [(.int .i64 x0.2.2.1)]) (v := (.int .i64 x0.2.2.1)) tf_3 rfl rfl hS25 rfl rfl rfl (wl_on rfl rfl h27 ?_))))
   obtain ⟨u28, hu28, hF⟩ := bindE hF
   refine wl_call rfl Tryz.call65 (C_impl_isLeast w22 x0.2.2.1 _ hu28) rfl ?_
   rintro _ w29 ⟨rfl, hb30⟩
   refine ⟨_, rfl, ?_⟩
   have hB31 := hB24.trans (hb30.mono hB24.size)
   have hS32 := hS25.below hb30
   refine wl_pick_t rfl rfl h27 rfl (wl_move rfl rfl ?_)
   rcases bE u28 with h34 | h34
   ·replace hF := ifP h34 hF
    refine wl_on rfl rfl h34 (wl_field (o := 3) (off' := 3) ff_27_3 rfl rfl rfl (wl_on rfl rfl h34 (wl_load_blk (i := 0) (vs := [(.int .i64 x0.2.2.2)]) (v := (.int .i64 x0.2.2.2)) tf_3 rfl rfl hS32 rfl rfl rfl (wl_on rfl rfl h34 ?_))))
    obtain ⟨u35, hu35, hF⟩ := bindE hF
    refine wl_call rfl Tryz.call37 (C_impl_within w29 x0.2.2.2 1 24 _ hu35) rfl ?_
    rintro _ w36 ⟨rfl, hb37⟩
    refine ⟨_, rfl, ?_⟩
    have hB38 := hB31.trans (hb37.mono hB31.size)
    have hS39 := hS32.below hb37
    refine wl_pick_t rfl rfl h34 rfl (wl_assign rfl rfl (WL.nil ?_))
    exact fun a ha => hJ13 (u35) _ hF hB38 (hS39.sel [] rfl) a (ha.sub ⟨rfl, trivial⟩)
   ·replace hF := ifN h34 hF
    refine wl_off rfl rfl rfl h34 (wl_off rfl rfl rfl h34 (wl_off rfl rfl rfl h34 (wl_pick_f rfl rfl h34 rfl (wl_assign rfl rfl (WL.nil ?_)))))
    exact fun a ha => hJ13 (false) _ hF hB31 (hS32.sel [] rfl) a (ha.sub ⟨rfl, trivial⟩)
  ·replace hF := ifN h27 hF
   refine wl_off rfl rfl rfl h27 (wl_off rfl rfl rfl h27 (wl_off rfl rfl rfl h27 (wl_pick_f rfl rfl h27 rfl (wl_move rfl rfl (wl_off rfl rfl rfl rfl (wl_off rfl rfl rfl rfl (wl_off rfl rfl rfl rfl (wl_pick_f rfl rfl rfl rfl (wl_assign rfl rfl (WL.nil ?_))))))))))
   exact fun a ha => hJ13 (false) _ hF hB24 (hS25.sel [] rfl) a (ha.sub ⟨rfl, trivial⟩)
 ·replace hF := ifN h20 hF
  refine wl_off rfl rfl rfl h20 (wl_off rfl rfl rfl h20 (wl_off rfl rfl rfl h20 (wl_off rfl rfl rfl h20 (wl_off rfl rfl rfl h20 (wl_pick_f rfl rfl h20 rfl (wl_move rfl rfl (wl_off rfl rfl rfl rfl (wl_off rfl rfl rfl rfl (wl_off rfl rfl rfl rfl (wl_pick_f rfl rfl rfl rfl (wl_move rfl rfl (wl_off rfl rfl rfl rfl (wl_off rfl rfl rfl rfl ?_)))))))))))))
  refine wl_off rfl rfl rfl rfl (wl_pick_f rfl rfl rfl rfl (wl_assign rfl rfl (WL.nil ?_)))
  exact fun a ha => hJ13 (false) _ hF hB17 (hS18.sel [] rfl) a (ha.sub ⟨rfl, trivial⟩)
theorem C_impl_arePerformers (w0 : World) (x0 : (List Int)) (v0_0 : Value) (h0_0 : rdS ty_3 (· < w0.heap.size) w0 v0_0 x0) (x1 : Int) (r : Bool) (hF : F_impl_arePerformers x0 x1 = some r) :
  Calls Tryz.prog 38 [v0_0, (.int .i64 x1)].toArray w0 fun e w' => e = .returned (.bool r) ∧ Below w0.heap.size w0 w' := by
 refine calls_mk' Tryz.func38 rfl Tryz.ntmps38 rfl rfl fun Q hQ hP => ?_
 have hB : Below w0.heap.size w0 w0 := Below.refl _ _
 have hS : Sep w0.heap.size w0 [] := Sep.nil _ _
 unfold F_impl_arePerformers at hF
 refine W.seq fun K1 hK1 => W.region (wl_assign rfl rfl (WL.nil (fun a ha => hK1 _ _ (W.seq fun K2 hK2 => (W.seq fun K3 hK3 => (W.region (wl_move rfl rfl (wl_lenr (e := ty_3) (l := x0) Tryz.underlying25 rfl rfl h0_0 (wl_move rfl rfl (WL.nil (fun a ha => hK3 _ _ (W.block ?_) a ha)))))))) a ha)))
 refine W.loopk (fun m a w4 => ∃ (y7 : Int), St 33 [(0, v0_0), (1, (.int .i64 x1)), (7, v0_0), (8, (.int .i64 (List.length x0 : Int))), (9, (.int .i64 y7))] a ∧ Below w0.heap.size w0 w4 ∧ Sep w0.heap.size w4 [] ∧ F_impl_arePerformers_L1 x0 x1 m y7 = some r) FU ?_ ?_
 ·
  exact fun a ha => ⟨0, ha.sub ⟨rfl, rfl, rfl, rfl, rfl, trivial⟩, hB, (hS.sel [] rfl), hF⟩
 ·
  rintro m10 a w4 ⟨y7, ha, hB5, hS6, hF⟩ KL9 hKL9
  refine W.at ?_ ha
  cases m10 with
  | zero => exact noneE hF
  | succ m10 =>
   obtain ⟨nx8, hnx8⟩ : ∃ k, k = F_impl_arePerformers_L1 x0 x1 m10 := ⟨_, rfl⟩
   rw [F_impl_arePerformers_L1, ← hnx8] at hF
   refine W.seq fun K11 hK11 => W.region (wl_lss rfl rfl rfl (WL.nil (fun a ha => hK11 _ _ (W.seq fun K12 hK12 => (W.cond rfl (fun h13 => ?_) (fun h13 => ?_))) a ha)))
   ·replace hF := ifP h13 hF
    refine W.skip fun a ha => hK12 _ _ (W.seq fun K14 hK14 => (W.block (W.seq fun K15 hK15 => (W.region (wl_move rfl rfl ?_))))) a ha
    obtain ⟨u16, hu16, hF⟩ := bindE hF
    refine wl_index (e := ty_3) Tryz.underlying25 rfl rfl rfl h0_0 hu16 ?_
    rintro p17 _ rfl hp18
    refine wl_load_p (vs := [(.int .i64 u16)]) (v := (.int .i64 u16)) tf_3 rfl rfl (hp18.ro hB5) rfl rfl (wl_assign rfl rfl (wl_assign rfl rfl (WL.nil (fun a ha => hK15 _ _ (W.seq fun K19 hK19 => ?_) a ha))))
    obtain ⟨k24, hk24, hF⟩ := jE1 hF
    have hJ25 : ∀ (y23 : Bool) (w20 : World) (_ : k24 y23 = some r) (_ : Below w0.heap.size w0 w20) (_ : Sep w0.heap.size w20 []), ∀ a, St 33 [(0, v0_0), (1, (.int .i64 x1)), (7, v0_0), (8, (.int .i64 (List.length x0 : Int))), (9, (.int .i64 y7)), (31, (.bool y23))] a → K19 a w20 := by
     intro y23 w20 hF hB21 hS22
     subst hk24
     refine fun a ha => hK19 _ _ (W.cond rfl (fun h26 => ?_) (fun h26 => ?_)) a ha
     ·replace hF := ifP h26 hF
      refine W.seq fun K27 hK27 => W.region (wl_assign rfl rfl (WL.nil (fun a ha => hK27 _ _ (W.ret ?_) a ha)))
      have hr := Option.some.inj hF
      subst hr
      exact rets (vs := [(.bool false)]) hQ rfl ⟨rv_tmp rfl, trivial⟩ ⟨rfl, hB21⟩
     ·replace hF := ifN h26 hF
      refine W.skip fun a ha => hK14 _ _ (W.region (wl_add rfl rfl rfl (wl_move rfl rfl (WL.nil ?_)))) a ha
      rw [hnx8] at hF
      exact fun a ha => hKL9 a _ m10 (Nat.lt_succ_self m10) ⟨(w64 (y7 + 1)), ha.sub ⟨rfl, rfl, rfl, rfl, rfl, trivial⟩, hB21, (hS22.sel [] rfl), hF⟩
    refine W.region (wl_move rfl rfl (wl_move rfl rfl (wl_sub rfl rfl rfl ?_)))
    obtain ⟨u28, hu28, hF⟩ := bindE hF
    refine wl_call rfl Tryz.call37 (C_impl_within w4 u16 0 (w64 (x1 - 1)) _ hu28) rfl ?_
    rintro _ w29 ⟨rfl, hb30⟩
    refine ⟨_, rfl, ?_⟩
    have hB31 := hB5.trans (hb30.mono hB5.size)
    have hS32 := hS6.below hb30
    refine wl_not rfl rfl (wl_move rfl rfl ?_)
    rcases bE (!u28) with h34 | h34
    ·replace hF := ifP h34 hF
     refine wl_off rfl rfl rfl h34 (wl_off rfl rfl rfl h34 (wl_off rfl rfl rfl h34 (wl_offu rfl rfl rfl (wl_offu rfl rfl rfl (wl_offu rfl rfl rfl (wl_offu rfl rfl rfl (wl_offu rfl rfl rfl (wl_offu rfl rfl rfl (wl_offu rfl rfl rfl (wl_off rfl rfl rfl h34 (wl_pick_t rfl rfl h34 rfl (WL.nil ?_))))))))))))
     exact fun a ha => hJ25 (true) _ hF hB31 (hS32.sel [] rfl) a (ha.sub ⟨rfl, rfl, rfl, rfl, rfl, rfl, trivial⟩)
    ·replace hF := ifN h34 hF
     refine wl_on rfl rfl h34 (wl_move rfl rfl (wl_on rfl rfl h34 (wl_gtr rfl rfl rfl (wl_on rfl rfl h34 (wl_move rfl rfl ?_)))))
     rcases bE (decide (0 < y7)) with h35 | h35
     ·replace hF := ifP h35 hF
      refine wl_on rfl rfl h35 (wl_move rfl rfl (wl_on rfl rfl h35 (wl_move rfl rfl (wl_on rfl rfl h35 (wl_sub rfl rfl rfl (wl_on rfl rfl h35 ?_))))))
      obtain ⟨u36, hu36, hF⟩ := bindE hF
      refine wl_index (e := ty_3) Tryz.underlying25 rfl rfl rfl h0_0 hu36 ?_
      rintro p37 _ rfl hp38
      refine wl_on rfl rfl h35 (wl_load_p (vs := [(.int .i64 u36)]) (v := (.int .i64 u36)) tf_3 rfl rfl (hp38.ro hB31) rfl rfl (wl_on rfl rfl h35 (wl_move rfl rfl (wl_on rfl rfl h35 (wl_geq rfl rfl rfl (wl_on rfl rfl h34 (wl_pick_t rfl rfl h35 rfl (wl_pick_f rfl rfl h34 rfl (WL.nil ?_)))))))))
      exact fun a ha => hJ25 ((decide (u16 ≤ u36))) _ hF hB31 (hS32.sel [] rfl) a (ha.sub ⟨rfl, rfl, rfl, rfl, rfl, rfl, trivial⟩)
     ·replace hF := ifN h35 hF
      refine wl_off rfl rfl rfl h35 (wl_off rfl rfl rfl h35 (wl_off rfl rfl rfl h35 (wl_off rfl rfl rfl h35 (wl_off rfl rfl rfl h35 (wl_off rfl rfl rfl h35 (wl_off rfl rfl rfl h35 (wl_on rfl rfl h34 (wl_pick_f rfl rfl h35 rfl (wl_pick_f rfl rfl h34 rfl (WL.nil ?_))))))))))
      exact fun a ha => hJ25 (false) _ hF hB31 (hS32.sel [] rfl) a (ha.sub ⟨rfl, rfl, rfl, rfl, rfl, rfl, trivial⟩)
   ·replace hF := ifN h13 hF
    refine W.exit fun a ha => hK2 _ _ (W.seq fun K39 hK39 => (W.region (wl_assign rfl rfl (WL.nil (fun a ha => hK39 _ _ (W.ret ?_) a ha))))) a ha
    have hr := Option.some.inj hF
    subst hr
    exact rets (vs := [(.bool true)]) hQ rfl ⟨rv_tmp rfl, trivial⟩ ⟨rfl, hB5⟩
theorem C_impl_IsMarch (w0 : World) (x0 : (((List (List (Int × Int))) × (List Int) × Int × Int) × Int × (List Int) × (List Int))) (v0_0 : Value) (h0_0 : rdS ty_66 (· < w0.heap.size) w0 v0_0 x0.1.1) (v0_1 : Value) (h0_1 : rdS ty_3 (· < w0.heap.size) w0 v0_1 x0.1.2.1) (v0_2 : Value) (h0_2 : rdS ty_3 (· < w0.heap.size) w0 v0_2 x0.2.2.1) (v0_3 : Value) (h0_3 : rdS ty_3 (· < w0.heap.size) w0 v0_3 x0.2.2.2) (r : Bool) (hF : F_impl_IsMarch x0 = some r) :
  Calls Tryz.prog 9 [(.agg #[v0_0, v0_1, (.int .i64 x0.1.2.2.1), (.int .i64 x0.1.2.2.2), (.int .i64 x0.2.1), v0_2, v0_3])].toArray w0 fun e w' => e = .returned (.bool r) ∧ Below w0.heap.size w0 w' := by
 refine calls_mk' Tryz.func9 rfl Tryz.ntmps9 rfl rfl fun Q hQ hP => ?_
 have hB : Below w0.heap.size w0 w0 := Below.refl _ _
 have hS : Sep w0.heap.size w0 [] := Sep.nil _ _
 unfold F_impl_IsMarch at hF
 refine W.seq fun K1 hK1 => W.region (wl_box (cs := [v0_0, v0_1, (.int .i64 x0.1.2.2.1), (.int .i64 x0.1.2.2.2), (.int .i64 x0.2.1), v0_2, v0_3]) rfl rfl rfl hB hS ?_)
 intro b2 w3 hb4 hB5 hS6
 refine wl_assign rfl rfl (WL.nil (fun a ha => hK1 _ _ (W.seq fun K7 hK7 => (W.seq fun K8 hK8 => ?_)) a ha))
 obtain ⟨k13, hk13, hF⟩ := jE1 hF
 have hJ14 : ∀ (y12 : Bool) (w9 : World) (_ : k13 y12 = some r) (_ : Below w0.heap.size w0 w9) (_ : Sep w0.heap.size w9 [R.blk b2 29 [v0_0, v0_1, (.int .i64 x0.1.2.2.1), (.int .i64 x0.1.2.2.2), (.int .i64 x0.2.1), v0_2, v0_3]]), ∀ a, St 52 [(1, (.pointer (some ⟨b2, 0, none⟩))), (38, (.bool y12))] a → K8 a w9 := by
  intro y12 w9 hF hB10 hS11
  subst hk13
  refine fun a ha => hK8 _ _ (W.cond rfl (fun h15 => ?_) (fun h15 => ?_)) a ha
  ·replace hF := ifP h15 hF
   refine W.seq fun K16 hK16 => W.region (wl_assign rfl rfl (WL.nil (fun a ha => hK16 _ _ (W.ret ?_) a ha)))
   have hr := Option.some.inj hF
   subst hr
   exact rets (vs := [(.bool false)]) hQ rfl ⟨rv_tmp rfl, trivial⟩ ⟨rfl, hB10⟩
  ·replace hF := ifN h15 hF
   refine W.skip fun a ha => hK7 _ _ (W.seq fun K17 hK17 => (W.seq fun K18 hK18 => (W.region (wl_field (o := 6) (off' := 6) ff_29_3 rfl rfl rfl (wl_load_blk (i := 0) (vs := [v0_3]) (v := v0_3) tf_25 rfl rfl hS11 rfl rfl rfl (wl_lenr (e := ty_3) (l := x0.2.2.2) Tryz.underlying25 rfl rfl h0_3 (wl_move rfl rfl (WL.nil (fun a ha => hK18 _ _ (W.block (W.loopk (fun m a w19 => ∃ (y22 : Int), St 52 [(1, (.pointer (some ⟨b2, 0, none⟩))), (40, v0_3), (41, (.int .i64 (List.length x0.2.2.2 : Int))), (42, (.int .i64 y22))] a ∧ Below w0.heap.size w0 w19 ∧ Sep w0.heap.size w19 [R.blk b2 29 [v0_0, v0_1, (.int .i64 x0.1.2.2.1), (.int .i64 x0.1.2.2.2), (.int .i64 x0.2.1), v0_2, v0_3]] ∧ F_impl_IsMarch_L1 x0 m y22 = some r) FU ?_ ?_)) a ha))))))))) a ha
   ·
    exact fun a ha => ⟨0, ha.sub ⟨rfl, rfl, rfl, rfl, trivial⟩, hB10, (hS11.sel [0] rfl), hF⟩
   ·
    rintro m25 a w19 ⟨y22, ha, hB20, hS21, hF⟩ KL24 hKL24
    refine W.at ?_ ha
    cases m25 with
    | zero => exact noneE hF
    | succ m25 =>
     obtain ⟨nx23, hnx23⟩ : ∃ k, k = F_impl_IsMarch_L1 x0 m25 := ⟨_, rfl⟩
     rw [F_impl_IsMarch_L1, ← hnx23] at hF
     refine W.seq fun K26 hK26 => W.region (wl_lss rfl rfl rfl (WL.nil (fun a ha => hK26 _ _ (W.seq fun K27 hK27 => (W.cond rfl (fun h28 => ?_) (fun h28 => ?_))) a ha)))
     ·replace hF := ifP h28 hF
      refine W.skip fun a ha => hK27 _ _ (W.seq fun K29 hK29 => (W.block (W.seq fun K30 hK30 => (W.region ?_)))) a ha
      obtain ⟨u31, hu31, hF⟩ := bindE hF
      refine wl_index (e := ty_3) Tryz.underlying25 rfl rfl rfl h0_3 hu31 ?_
      rintro p32 _ rfl hp33
      refine wl_load_p (vs := [(.int .i64 u31)]) (v := (.int .i64 u31)) tf_3 rfl rfl (hp33.ro hB20) rfl rfl (wl_assign rfl rfl (WL.nil (fun a ha => hK30 _ _ (W.seq fun K34 hK34 => (W.region (wl_move rfl rfl (wl_field (o := 4) (off' := 4) ff_29_1 rfl rfl rfl (wl_load_blk (i := 0) (vs := [(.int .i64 x0.2.1)]) (v := (.int .i64 x0.2.1)) tf_3 rfl rfl hS21 rfl rfl rfl ?_))))) a ha)))
      obtain ⟨u35, hu35, hF⟩ := bindE hF
      refine wl_call rfl Tryz.call37 (C_impl_within w19 u31 0 x0.2.1 _ hu35) rfl ?_
      rintro _ w36 ⟨rfl, hb37⟩
      refine ⟨_, rfl, ?_⟩
      have hB38 := hB20.trans (hb37.mono hB20.size)
      have hS39 := hS21.below hb37
      refine wl_not rfl rfl (WL.nil (fun a ha => hK34 _ _ (W.cond rfl (fun h41 => ?_) (fun h41 => ?_)) a ha))
      ·replace hF := ifP h41 hF
       refine W.seq fun K42 hK42 => W.region (wl_assign rfl rfl (WL.nil (fun a ha => hK42 _ _ (W.ret ?_) a ha)))
       have hr := Option.some.inj hF
       subst hr
       exact rets (vs := [(.bool false)]) hQ rfl ⟨rv_tmp rfl, trivial⟩ ⟨rfl, hB38⟩
      ·replace hF := ifN h41 hF
       refine W.skip fun a ha => hK29 _ _ (W.region (wl_add rfl rfl rfl (wl_move rfl rfl (WL.nil ?_)))) a ha
       rw [hnx23] at hF
       exact fun a ha => hKL24 a _ m25 (Nat.lt_succ_self m25) ⟨(w64 (y22 + 1)), ha.sub ⟨rfl, rfl, rfl, rfl, trivial⟩, hB38, (hS39.sel [0] rfl), hF⟩
     ·replace hF := ifN h28 hF
      refine W.exit fun a ha => hK17 _ _ (W.seq fun K43 hK43 => (W.region (wl_assign rfl rfl (WL.nil (fun a ha => hK43 _ _ (W.ret ?_) a ha))))) a ha
      have hr := Option.some.inj hF
      subst hr
      exact rets (vs := [(.bool true)]) hQ rfl ⟨rv_tmp rfl, trivial⟩ ⟨rfl, hB20⟩
 refine W.regionH mixed_ [] hB5 hS6 ?_
 intro w44 hb45 hB46 hS47
 have hSW48 := KeepX.refl w44 []
 refine WH.tk 0 rfl hP hSW48 (pr_field (o := 0) (off' := 0) ff_29_0 rfl rfl rfl (WH.tk 1 rfl hP hSW48 (pr_load_blk (i := 0) (vs := [v0_0, v0_1, (.int .i64 x0.1.2.2.1), (.int .i64 x0.1.2.2.2)]) (v := (.agg #[v0_0, v0_1, (.int .i64 x0.1.2.2.1), (.int .i64 x0.1.2.2.2)])) tf_27 rfl rfl hS47 rfl rfl rfl (by simp) (WH.on1 2 rfl ?_))))
 obtain ⟨u49, hu49, hF⟩ := bindE hF
 refine wl_call rfl Tryz.call36 (C_impl_IsShow w44 x0.1 v0_0 (h0_0.ro hB46) v0_1 (h0_1.ro hB46) _ hu49) rfl ?_
 rintro _ w50 ⟨rfl, hb51⟩
 refine ⟨_, rfl, ?_⟩
 have hB52 := hB46.trans (hb51.mono hB46.size)
 have hS53 := hS47.below hb51
 have hSW55 := hSW48.ext hb51
 refine WL.nil (WH.ret hSW55 (WH.tk 3 rfl hP hSW55 (pr_not rfl rfl (WH.tk 4 rfl hP hSW55 (pr_move rfl rfl ?_)))))
 rcases bE (!u49) with h56 | h56
 ·replace hF := ifP h56 hF
  refine WH.off (i := 5) rfl (by kernel_rfl) (by kernel_rfl) (by kernel_rfl) hP rfl rfl h56 rfl hSW55 (WH.off (i := 6) rfl (by kernel_rfl) (by kernel_rfl) (by kernel_rfl) hP rfl rfl h56 rfl hSW55 (WH.off (i := 7) rfl (by kernel_rfl) (by kernel_rfl) (by kernel_rfl) hP rfl rfl h56 rfl hSW55 (WH.off (i := 8) rfl (by kernel_rfl) (by kernel_rfl) (by kernel_rfl) hP rfl rfl h56 rfl hSW55 (WH.tk 9 rfl hP hSW55 (pr_pick_t rfl rfl h56 rfl (WH.tk 10 rfl hP hSW55 (pr_move rfl rfl (WH.off (i := 11) rfl (by kernel_rfl) (by kernel_rfl) (by kernel_rfl) hP rfl rfl rfl rfl hSW55 (WH.off (i := 12) rfl (by kernel_rfl) (by kernel_rfl) (by kernel_rfl) hP rfl rfl rfl rfl hSW55 (WH.off (i := 13) rfl (by kernel_rfl) (by kernel_rfl) (by kernel_rfl) hP rfl rfl rfl rfl hSW55 (WH.off (i := 14) rfl (by kernel_rfl) (by kernel_rfl) (by kernel_rfl) hP rfl rfl rfl rfl hSW55 ?_)))))))))))
  refine WH.off (i := 15) rfl (by kernel_rfl) (by kernel_rfl) (by kernel_rfl) hP rfl rfl rfl rfl hSW55 (WH.off (i := 16) rfl (by kernel_rfl) (by kernel_rfl) (by kernel_rfl) hP rfl rfl rfl rfl hSW55 (WH.off (i := 17) rfl (by kernel_rfl) (by kernel_rfl) (by kernel_rfl) hP rfl rfl rfl rfl hSW55 (WH.off (i := 18) rfl (by kernel_rfl) (by kernel_rfl) (by kernel_rfl) hP rfl rfl rfl rfl hSW55 (WH.off (i := 19) rfl (by kernel_rfl) (by kernel_rfl) (by kernel_rfl) hP rfl rfl rfl rfl hSW55 (WH.off (i := 20) rfl (by kernel_rfl) (by kernel_rfl) (by kernel_rfl) hP rfl rfl rfl rfl hSW55 (WH.tk 21 rfl hP hSW55 (pr_pick_t rfl rfl rfl rfl (WH.tk 22 rfl hP hSW55 (pr_move rfl rfl (WH.off (i := 23) rfl (by kernel_rfl) (by kernel_rfl) (by kernel_rfl) hP rfl rfl rfl rfl hSW55 (WH.off (i := 24) rfl (by kernel_rfl) (by kernel_rfl) (by kernel_rfl) hP rfl rfl rfl rfl hSW55 ?_)))))))))))
  refine WH.off (i := 25) rfl (by kernel_rfl) (by kernel_rfl) (by kernel_rfl) hP rfl rfl rfl rfl hSW55 (WH.off (i := 26) rfl (by kernel_rfl) (by kernel_rfl) (by kernel_rfl) hP rfl rfl rfl rfl hSW55 (WH.off (i := 27) rfl (by kernel_rfl) (by kernel_rfl) (by kernel_rfl) hP rfl rfl rfl rfl hSW55 (WH.off (i := 28) rfl (by kernel_rfl) (by kernel_rfl) (by kernel_rfl) hP rfl rfl rfl rfl hSW55 (WH.off (i := 29) rfl (by kernel_rfl) (by kernel_rfl) (by kernel_rfl) hP rfl rfl rfl rfl hSW55 (WH.off (i := 30) rfl (by kernel_rfl) (by kernel_rfl) (by kernel_rfl) hP rfl rfl rfl rfl hSW55 (WH.off (i := 31) rfl (by kernel_rfl) (by kernel_rfl) (by kernel_rfl) hP rfl rfl rfl rfl hSW55 (WH.off (i := 32) rfl (by kernel_rfl) (by kernel_rfl) (by kernel_rfl) hP rfl rfl rfl rfl hSW55 (WH.tk 33 rfl hP hSW55 (pr_pick_t rfl rfl rfl rfl (WH.done (by kernel_rfl) ?_))))))))))
  exact fun a ha => hJ14 (true) _ hF hB52 (hS53.sel [0] rfl) a (ha.sub ⟨rfl, rfl, trivial⟩)
 ·replace hF := ifN h56 hF
  refine WH.takexg (i := 5) rfl (by kernel_rfl) (by kernel_rfl) (by kernel_rfl) hP rfl rfl h56 hSW55 (pr_field (o := 4) (off' := 4) ff_29_1 rfl rfl rfl (WH.takexg (i := 6) rfl (by kernel_rfl) (by kernel_rfl) (by kernel_rfl) hP rfl rfl h56 hSW55 (pr_load_blk (i := 0) (vs := [(.int .i64 x0.2.1)]) (v := (.int .i64 x0.2.1)) tf_3 rfl rfl hS47 rfl rfl rfl (by simp) (WH.on1 7 rfl (wl_on rfl rfl h56 ?_)))))
  obtain ⟨u57, hu57, hF⟩ := bindE hF
  refine wl_call rfl Tryz.call37 (C_impl_within w50 x0.2.1 0 1000 _ hu57) rfl ?_
  rintro _ w58 ⟨rfl, hb59⟩
  refine ⟨_, rfl, ?_⟩
  have hB60 := hB52.trans (hb59.mono hB52.size)
  have hS61 := hS53.below hb59
  have hSW63 := hSW55.ext hb59
  refine WL.nil (WH.ret hSW63 (WH.takexg (i := 8) rfl (by kernel_rfl) (by kernel_rfl) (by kernel_rfl) hP rfl rfl h56 hSW63 (pr_not rfl rfl (WH.tk 9 rfl hP hSW63 (pr_pick_f rfl rfl h56 rfl (WH.tk 10 rfl hP hSW63 (pr_move rfl rfl ?_)))))))
  rcases bE (!u57) with h64 | h64
  ·replace hF := ifP h64 hF
   refine WH.off (i := 11) rfl (by kernel_rfl) (by kernel_rfl) (by kernel_rfl) hP rfl rfl h64 rfl hSW63 (WH.off (i := 12) rfl (by kernel_rfl) (by kernel_rfl) (by kernel_rfl) hP rfl rfl h64 rfl hSW63 (WH.off (i := 13) rfl (by kernel_rfl) (by kernel_rfl) (by kernel_rfl) hP rfl rfl h64 rfl hSW63 (WH.off (i := 14) rfl (by kernel_rfl) (by kernel_rfl) (by kernel_rfl) hP rfl rfl h64 rfl hSW63 (WH.off (i := 15) rfl (by kernel_rfl) (by kernel_rfl) (by kernel_rfl) hP rfl rfl h64 rfl hSW63 (WH.off (i := 16) rfl (by kernel_rfl) (by kernel_rfl) (by kernel_rfl) hP rfl rfl h64 rfl hSW63 (WH.off (i := 17) rfl (by kernel_rfl) (by kernel_rfl) (by kernel_rfl) hP rfl rfl h64 rfl hSW63 (WH.off (i := 18) rfl (by kernel_rfl) (by kernel_rfl) (by kernel_rfl) hP rfl rfl h64 rfl hSW63 (WH.off (i := 19) rfl (by kernel_rfl) (by kernel_rfl) (by kernel_rfl) hP rfl rfl h64 rfl hSW63 ?_))))))))
   refine WH.off (i := 20) rfl (by kernel_rfl) (by kernel_rfl) (by kernel_rfl) hP rfl rfl h64 rfl hSW63 (WH.tk 21 rfl hP hSW63 (pr_pick_t rfl rfl h64 rfl (WH.tk 22 rfl hP hSW63 (pr_move rfl rfl (WH.off (i := 23) rfl (by kernel_rfl) (by kernel_rfl) (by kernel_rfl) hP rfl rfl rfl rfl hSW63 (WH.off (i := 24) rfl (by kernel_rfl) (by kernel_rfl) (by kernel_rfl) hP rfl rfl rfl rfl hSW63 (WH.off (i := 25) rfl (by kernel_rfl) (by kernel_rfl) (by kernel_rfl) hP rfl rfl rfl rfl hSW63 (WH.off (i := 26) rfl (by kernel_rfl) (by kernel_rfl) (by kernel_rfl) hP rfl rfl rfl rfl hSW63 (WH.off (i := 27) rfl (by kernel_rfl) (by kernel_rfl) (by kernel_rfl) hP rfl rfl rfl rfl hSW63 (WH.off (i := 28) rfl (by kernel_rfl) (by kernel_rfl) (by kernel_rfl) hP rfl rfl rfl rfl hSW63 (WH.off (i := 29) rfl (by kernel_rfl) (by kernel_rfl) (by kernel_rfl) hP rfl rfl rfl rfl hSW63 ?_)))))))))))
   refine WH.off (i := 30) rfl (by kernel_rfl) (by kernel_rfl) (by kernel_rfl) hP rfl rfl rfl rfl hSW63 (WH.off (i := 31) rfl (by kernel_rfl) (by kernel_rfl) (by kernel_rfl) hP rfl rfl rfl rfl hSW63 (WH.off (i := 32) rfl (by kernel_rfl) (by kernel_rfl) (by kernel_rfl) hP rfl rfl rfl rfl hSW63 (WH.tk 33 rfl hP hSW63 (pr_pick_t rfl rfl rfl rfl (WH.done (by kernel_rfl) ?_)))))
   exact fun a ha => hJ14 (true) _ hF hB60 (hS61.sel [0] rfl) a (ha.sub ⟨rfl, rfl, trivial⟩)
  ·replace hF := ifN h64 hF
   refine WH.takexg (i := 11) rfl (by kernel_rfl) (by kernel_rfl) (by kernel_rfl) hP rfl rfl h64 hSW63 (pr_field (o := 5) (off' := 5) ff_29_2 rfl rfl rfl (WH.takexg (i := 12) rfl (by kernel_rfl) (by kernel_rfl) (by kernel_rfl) hP rfl rfl h64 hSW63 (pr_load_blk (i := 0) (vs := [v0_2]) (v := v0_2) tf_25 rfl rfl hS47 rfl rfl rfl (by simp) (WH.takexg (i := 13) rfl (by kernel_rfl) (by kernel_rfl) (by kernel_rfl) hP rfl rfl h64 hSW63 (pr_field (o := 0) (off' := 0) ff_29_0 rfl rfl rfl (WH.takexg (i := 14) rfl (by kernel_rfl) (by kernel_rfl) (by kernel_rfl) hP rfl rfl h64 hSW63 (pr_field (o := 0) (off' := 0) ff_27_0 rfl rfl rfl (WH.takexg (i := 15) rfl (by kernel_rfl) (by kernel_rfl) (by kernel_rfl) hP rfl rfl h64 hSW63 (pr_load_blk (i := 0) (vs := [v0_0]) (v := v0_0) tf_24 rfl rfl hS47 rfl rfl rfl (by simp) ?_)))))))))
   obtain ⟨u65, hu65, hF⟩ := bindE hF
   refine WH.takexg (i := 16) rfl (by kernel_rfl) (by kernel_rfl) (by kernel_rfl) hP rfl rfl h64 hSW63 (pr_index (e := ty_66) Tryz.underlying24 rfl rfl rfl h0_0 hu65 ?_)
   rintro p66 _ ⟨v68, rfl, hv69⟩ hp67
   refine WH.takexg (i := 17) rfl (by kernel_rfl) (by kernel_rfl) (by kernel_rfl) hP rfl rfl h64 hSW63 (pr_load_p (vs := [v68]) (v := v68) tf_66 rfl rfl (hp67.kx hB46 (by simp)) rfl rfl (WH.takexg (i := 18) rfl (by kernel_rfl) (by kernel_rfl) (by kernel_rfl) hP rfl rfl h64 hSW63 (pr_lenr (e := ty_42) (l := u65) Tryz.underlying66 rfl rfl hv69 (WH.on1 19 rfl (wl_on rfl rfl h64 ?_)))))
   obtain ⟨u70, hu70, hF⟩ := bindE hF
   refine wl_call rfl Tryz.call38 (C_impl_arePerformers w58 x0.2.2.1 v0_2 (h0_2.ro hB60) (List.length u65 : Int) _ hu70) rfl ?_
   rintro _ w71 ⟨rfl, hb72⟩
   refine ⟨_, rfl, ?_⟩
   have hB73 := hB60.trans (hb72.mono hB60.size)
   have hS74 := hS61.below hb72
   have hSW76 := hSW63.ext hb72
   refine WL.nil (WH.ret hSW76 (WH.takexg (i := 20) rfl (by kernel_rfl) (by kernel_rfl) (by kernel_rfl) hP rfl rfl h64 hSW76 (pr_not rfl rfl (WH.tk 21 rfl hP hSW76 (pr_pick_f rfl rfl h64 rfl (WH.tk 22 rfl hP hSW76 (pr_move rfl rfl ?_)))))))
   rcases bE (!u70) with h77 | h77
   ·replace hF := ifP h77 hF
    refine WH.off (i := 23) rfl (by kernel_rfl) (by kernel_rfl) (by kernel_rfl) hP rfl rfl h77 rfl hSW76 (WH.off (i := 24) rfl (by kernel_rfl) (by kernel_rfl) (by kernel_rfl) hP rfl rfl h77 rfl hSW76 (WH.off (i := 25) rfl (by kernel_rfl) (by kernel_rfl) (by kernel_rfl) hP rfl rfl h77 rfl hSW76 (WH.off (i := 26) rfl (by kernel_rfl) (by kernel_rfl) (by kernel_rfl) hP rfl rfl h77 rfl hSW76 (WH.off (i := 27) rfl (by kernel_rfl) (by kernel_rfl) (by kernel_rfl) hP rfl rfl h77 rfl hSW76 (WH.off (i := 28) rfl (by kernel_rfl) (by kernel_rfl) (by kernel_rfl) hP rfl rfl h77 rfl hSW76 (WH.off (i := 29) rfl (by kernel_rfl) (by kernel_rfl) (by kernel_rfl) hP rfl rfl h77 rfl hSW76 (WH.off (i := 30) rfl (by kernel_rfl) (by kernel_rfl) (by kernel_rfl) hP rfl rfl h77 rfl hSW76 (WH.off (i := 31) rfl (by kernel_rfl) (by kernel_rfl) (by kernel_rfl) hP rfl rfl h77 rfl hSW76 ?_))))))))
    refine WH.off (i := 32) rfl (by kernel_rfl) (by kernel_rfl) (by kernel_rfl) hP rfl rfl h77 rfl hSW76 (WH.tk 33 rfl hP hSW76 (pr_pick_t rfl rfl h77 rfl (WH.done (by kernel_rfl) ?_)))
    exact fun a ha => hJ14 (true) _ hF hB73 (hS74.sel [0] rfl) a (ha.sub ⟨rfl, rfl, trivial⟩)
   ·replace hF := ifN h77 hF
    refine WH.takexg (i := 23) rfl (by kernel_rfl) (by kernel_rfl) (by kernel_rfl) hP rfl rfl h77 hSW76 (pr_field (o := 6) (off' := 6) ff_29_3 rfl rfl rfl (WH.takexg (i := 24) rfl (by kernel_rfl) (by kernel_rfl) (by kernel_rfl) hP rfl rfl h77 hSW76 (pr_load_blk (i := 0) (vs := [v0_3]) (v := v0_3) tf_25 rfl rfl hS47 rfl rfl rfl (by simp) (WH.takexg (i := 25) rfl (by kernel_rfl) (by kernel_rfl) (by kernel_rfl) hP rfl rfl h77 hSW76 (pr_lenr (e := ty_3) (l := x0.2.2.2) Tryz.underlying25 rfl rfl h0_3 (WH.takexg (i := 26) rfl (by kernel_rfl) (by kernel_rfl) (by kernel_rfl) hP rfl rfl h77 hSW76 (pr_field (o := 0) (off' := 0) ff_29_0 rfl rfl rfl (WH.takexg (i := 27) rfl (by kernel_rfl) (by kernel_rfl) (by kernel_rfl) hP rfl rfl h77 hSW76 (pr_field (o := 0) (off' := 0) ff_27_0 rfl rfl rfl (WH.takexg (i := 28) rfl (by kernel_rfl) (by kernel_rfl) (by kernel_rfl) hP rfl rfl h77 hSW76 ?_))))))))))
    refine pr_load_blk (i := 0) (vs := [v0_0]) (v := v0_0) tf_24 rfl rfl hS47 rfl rfl rfl (by simp) ?_
    obtain ⟨u78, hu78, hF⟩ := bindE hF
    refine WH.takexg (i := 29) rfl (by kernel_rfl) (by kernel_rfl) (by kernel_rfl) hP rfl rfl h77 hSW76 (pr_index (e := ty_66) Tryz.underlying24 rfl rfl rfl h0_0 hu78 ?_)
    rintro p79 _ ⟨v81, rfl, hv82⟩ hp80
    refine WH.takexg (i := 30) rfl (by kernel_rfl) (by kernel_rfl) (by kernel_rfl) hP rfl rfl h77 hSW76 (pr_load_p (vs := [v81]) (v := v81) tf_66 rfl rfl (hp80.kx hB46 (by simp)) rfl rfl (WH.takexg (i := 31) rfl (by kernel_rfl) (by kernel_rfl) (by kernel_rfl) hP rfl rfl h77 hSW76 (pr_lenr (e := ty_42) (l := u78) Tryz.underlying66 rfl rfl hv82 (WH.takexg (i := 32) rfl (by kernel_rfl) (by kernel_rfl) (by kernel_rfl) hP rfl rfl h77 hSW76 (pr_neq rfl rfl rfl (WH.tk 33 rfl hP hSW76 (pr_pick_f rfl rfl h77 rfl (WH.done (by kernel_rfl) ?_))))))))
    exact fun a ha => hJ14 (((List.length x0.2.2.2 : Int) != (List.length u78 : Int))) _ hF hB73 (hS74.sel [0] rfl) a (ha.sub ⟨rfl, rfl, trivial⟩)
theorem C_impl_copyInts (w0 : World) (x0 : (List Int)) (v0_0 : Value) (h0_0 : rdS ty_3 (· < w0.heap.size) w0 v0_0 x0) (r : (List Int)) (hF : F_impl_copyInts x0 = some r) :
  Calls Tryz.prog 56 [v0_0].toArray w0 fun e w' => ∃ (q0 : Value) (G0 : List Nat), e = .returned q0 ∧ Below w0.heap.size w0 w' ∧ Sep w0.heap.size w' [R.own ty_3 G0 q0 r] := by
 refine calls_mk' Tryz.func56 rfl Tryz.ntmps56 rfl rfl fun Q hQ hP => ?_
 have hB : Below w0.heap.size w0 w0 := Below.refl _ _
 have hS : Sep w0.heap.size w0 [] := Sep.nil _ _
 unfold F_impl_copyInts at hF
 refine W.seq fun K1 hK1 => W.region (wl_assign rfl rfl (WL.nil (fun a ha => hK1 _ _ (W.seq fun K2 hK2 => (W.region (wl_lit (vs := []) (l := []) fl_3 Tryz.underlying25 rfl rfl rfl rfl rfl rfl hB hS ?_))) a ha)))
 intro v3 F4 w5 hb6 hB7 hS8
 refine wl_move rfl rfl ?_
 obtain ⟨u9, hu9, hF⟩ := bindE hF
 refine wl_append (i := 0) (S := (· < w5.heap.size)) fl_3 Tryz.underlying25 rfl rfl rfl hB7 hS8 rfl (h0_0.ro hB7) hu9 ?_
 intro v10 F11 w12 hk13 hB14 hS15
 refine wl_assign rfl rfl (WL.nil (fun a ha => hK2 _ _ (W.ret ?_) a ha))
 have hr := Option.some.inj hF
 subst hr
 exact rets (vs := [v10]) hQ rfl ⟨rv_tmp rfl, trivial⟩ ⟨v10, F11, rfl, hB14, hS15.sel [0] rfl⟩
theorem C_impl_copyShow (w0 : World) (x0 : ((List (List (Int × Int))) × (List Int) × Int × Int)) (v0_0 : Value) (h0_0 : rdS ty_66 (· < w0.heap.size) w0 v0_0 x0.1) (v0_1 : Value) (h0_1 : rdS ty_3 (· < w0.heap.size) w0 v0_1 x0.2.1) (r : ((List (List (Int × Int))) × (List Int) × Int × Int)) (hF : F_impl_copyShow x0 = some r) :
  Calls Tryz.prog 50 [(.agg #[v0_0, v0_1, (.int .i64 x0.2.2.1), (.int .i64 x0.2.2.2)])].toArray w0 fun e w' => ∃ (q0 : Value) (G0 : List Nat) (q1 : Value) (G1 : List Nat), e = .returned (.agg #[q0, q1, (.int .i64 r.2.2.1), (.int .i64 r.2.2.2)]) ∧ Below w0.heap.size w0 w' ∧ Sep w0.heap.size w' [R.own ty_66 G0 q0 r.1, R.own ty_3 G1 q1 r.2.1] := by
 refine calls_mk' Tryz.func50 rfl Tryz.ntmps50 rfl rfl fun Q hQ hP => ?_
 have hB : Below w0.heap.size w0 w0 := Below.refl _ _
 have hS : Sep w0.heap.size w0 [] := Sep.nil _ _
 unfold F_impl_copyShow at hF
 refine W.seq fun K1 hK1 => W.region (wl_box (cs := [v0_0, v0_1, (.int .i64 x0.2.2.1), (.int .i64 x0.2.2.2)]) rfl rfl rfl hB hS ?_)
 intro b2 w3 hb4 hB5 hS6
 refine wl_alloc (cs := [(.slice none 0 0), (.slice none 0 0), (.int .i64 0), (.int .i64 0)]) tf_27 rfl rfl hB5 hS6 ?_
 intro b7 w8 hb9 hB10 hS11
 refine WL.nil fun a ha => hK1 _ _ (W.seq fun K12 hK12 => ?_) a ha
 obtain ⟨k25, hk25, hF⟩ := jE4 hF
 have hJ26 : ∀ (l17 : (List (List (Int × Int)))) (l20 : (List Int)) (y23 : Int) (y24 : Int) (v18 : Value) (F19 : List Nat) (v21 : Value) (F22 : List Nat) (b16 : Nat) (w13 : World) (_ : k25 l17 l20 y23 y24 = some r) (_ : Below w0.heap.size w0 w13) (_ : Sep w0.heap.size w13 [R.blk b2 27 [v0_0, v0_1, (.int .i64 x0.2.2.1), (.int .i64 x0.2.2.2)], R.blk b7 27 [(.slice none 0 0), (.slice none 0 0), (.int .i64 0), (.int .i64 0)], R.own ty_66 F19 v18 l17, R.own ty_3 F22 v21 l20, R.blk b16 27 [v18, v21, (.int .i64 y23), (.int .i64 y24)]]), ∀ a, St 32 [(1, (.pointer (some ⟨b2, 0, none⟩))), (2, (.pointer (some ⟨b7, 0, none⟩))), (3, (.pointer (some ⟨b16, 0, none⟩)))] a → K12 a w13 := by
  intro l17 l20 y23 y24 v18 F19 v21 F22 b16 w13 hF hB14 hS15
  subst hk25
  refine fun a ha => hK12 _ _ (W.seq fun K27 hK27 => (W.seq fun K28 hK28 => (W.region (wl_field (o := 0) (off' := 0) ff_27_0 rfl rfl rfl (wl_load_blk (i := 0) (vs := [v0_0]) (v := v0_0) tf_24 rfl rfl hS15 rfl rfl rfl (wl_lenr (e := ty_66) (l := x0.1) Tryz.underlying24 rfl rfl h0_0 (wl_move rfl rfl (WL.nil (fun a ha => hK28 _ _ (W.block ?_) a ha))))))))) a ha
  refine W.loopk (fun m a w29 => ∃ (l32 : (List (List (Int × Int)))) (y35 : Int) (v33 : Value) (F34 : List Nat), St 32 [(2, (.pointer (some ⟨b7, 0, none⟩))), (3, (.pointer (some ⟨b16, 0, none⟩))), (16, v0_0), (17, (.int .i64 (List.length x0.1 : Int))), (18, (.int .i64 y35))] a ∧ Below w0.heap.size w0 w29 ∧ Sep w0.heap.size w29 [R.blk b7 27 [(.slice none 0 0), (.slice none 0 0), (.int .i64 0), (.int .i64 0)], R.own ty_66 F34 v33 l32, R.own ty_3 F22 v21 l20, R.blk b16 27 [v33, v21, (.int .i64 y23), (.int .i64 y24)]] ∧ F_impl_copyShow_L1 x0 l20 y23 y24 m l32 y35 = some r) FU ?_ ?_
  ·
   exact fun a ha => ⟨l17, 0, v18, F19, ha.sub ⟨rfl, rfl, rfl, rfl, rfl, trivial⟩, hB14, (hS15.sel [1, 2, 3, 4] rfl), hF⟩
  ·
   rintro m38 a w29 ⟨l32, y35, v33, F34, ha, hB30, hS31, hF⟩ KL37 hKL37
   refine W.at ?_ ha
   cases m38 with
   | zero => exact noneE hF
   | succ m38 =>
    obtain ⟨nx36, hnx36⟩ : ∃ k, k = F_impl_copyShow_L1 x0 l20 y23 y24 m38 := ⟨_, rfl⟩
    rw [F_impl_copyShow_L1, ← hnx36] at hF
    refine W.seq fun K39 hK39 => W.region (wl_lss rfl rfl rfl (WL.nil (fun a ha => hK39 _ _ (W.seq fun K40 hK40 => (W.cond rfl (fun h41 => ?_) (fun h41 => ?_))) a ha)))
    ·replace hF := ifP h41 hF
     refine W.skip fun a ha => hK40 _ _ (W.seq fun K42 hK42 => ?_) a ha
     obtain ⟨k49, hk49, hF⟩ := jE1 hF
     have hJ50 : ∀ (l46 : (List (List (Int × Int)))) (v47 : Value) (F48 : List Nat) (w43 : World) (_ : k49 l46 = some r) (_ : Below w0.heap.size w0 w43) (_ : Sep w0.heap.size w43 [R.blk b7 27 [(.slice none 0 0), (.slice none 0 0), (.int .i64 0), (.int .i64 0)], R.own ty_66 F48 v47 l46, R.own ty_3 F22 v21 l20, R.blk b16 27 [v47, v21, (.int .i64 y23), (.int .i64 y24)]]), ∀ a, St 32 [(2, (.pointer (some ⟨b7, 0, none⟩))), (3, (.pointer (some ⟨b16, 0, none⟩))), (16, v0_0), (17, (.int .i64 (List.length x0.1 : Int))), (18, (.int .i64 y35))] a → K42 a w43 := by
      intro l46 v47 F48 w43 hF hB44 hS45
      subst hk49
      refine fun a ha => hK42 _ _ (W.region (wl_add rfl rfl rfl (wl_move rfl rfl (WL.nil ?_)))) a ha
      rw [hnx36] at hF
      exact fun a ha => hKL37 a _ m38 (Nat.lt_succ_self m38) ⟨l46, (w64 (y35 + 1)), v47, F48, ha.sub ⟨rfl, rfl, rfl, rfl, rfl, trivial⟩, hB44, (hS45.sel [0, 1, 2, 3] rfl), hF⟩
     refine W.block (W.seq fun K51 hK51 => (W.region ?_))
     obtain ⟨u52, hu52, hF⟩ := bindE hF
     refine wl_index (e := ty_66) Tryz.underlying24 rfl rfl rfl h0_0 hu52 ?_
     rintro p53 _ ⟨v55, rfl, hv56⟩ hp54
     refine wl_load_p (vs := [v55]) (v := v55) tf_66 rfl rfl (hp54.ro hB30) rfl rfl (wl_assign rfl rfl (WL.nil (fun a ha => hK51 _ _ (W.regionH mixed_ (F34 ++ [b16]) hB30 hS31 ?_) a ha)))
     intro w57 hb58 hB59 hS60
     have hSW61 := KeepX.refl w57 (F34 ++ [b16])
     refine WH.tk 0 rfl hP hSW61 (pr_field (o := 0) (off' := 0) ff_27_0 rfl rfl rfl (WH.tk 3 rfl hP hSW61 (pr_move rfl rfl (WH.many (is := [1, 2]) (by kernel_rfl) rfl (List.forall_mem_cons.2 ⟨⟨_, rfl, ?_⟩, List.forall_mem_cons.2 ⟨⟨_, rfl, ?_⟩, fun _ h => by cases h⟩⟩)))))
     ·
      refine wl_load_blk (i := 3) (vs := [v33]) (v := v33) tf_24 rfl rfl hS60 rfl rfl rfl (WL.nil (WH.ret hSW61 (WH.on1 2 rfl (wl_lit (vs := []) (l := []) fl_42 Tryz.underlying66 rfl rfl rfl rfl rfl rfl (Below.self w57) (Sep.nil _ _) ?_))))
      intro v62 F63 w65 hb66 hB69 hM70
      have hB67 := hB59.trans (hb66.mono hB59.size)
      have hS68 := hS60.join hb66 hM70 hB59.size
      have hn71 : ∀ b ∈ F63, w57.heap.size ≤ b := fun b hb => Nat.le_trans hSW61.size ((hM70.1 _ (List.mem_cons_self ..)).2.1 b hb).1
      have hSW72 := hSW61.ext hb66
      refine WL.nil (WH.ret hSW72 (WH.on1 4 rfl ?_))
      obtain ⟨u74, hu74, hF⟩ := bindE hF
      refine wl_append (i := 0) (S := (· < w65.heap.size)) fl_42 Tryz.underlying66 rfl rfl rfl hB67 hS68 rfl (hv56.ro hB67) hu74 ?_
      intro v75 F76 w77 hk78 hB79 hS80
      have hSW81 := hSW72.wr' hk78.1 hk78.2.1 (fun b hlt hb => absurd hlt (Nat.not_lt.2 (hn71 b hb)))
      refine WL.nil (WH.ret hSW81 (WH.on1 5 rfl ?_))
      have hq83 := hS80.sel [0, 1, 2, 3, 4] rfl
      have hq84 := hq83.head (r' := R.cel ty_66 F76 [v75] u74) (rfl) fun _ h0 => ⟨_, rfl, h0⟩
      refine wl_lit1 (e := ty_66) (vs := [v75]) Tryz.underlying24 rfl rfl (cells_one (hS80.own_ro (i := 0) rfl).one) rfl hB79 hq84 ?_
      intro v85 F86 w87 hb88 hf89 hB90 hS91
      have hSW93 := hSW81.ext hb88
      refine WL.nil (WH.ret hSW93 (WH.on1 6 rfl ?_))
      obtain ⟨u94, hu94, hF⟩ := bindE hF
      refine wl_appendn (e := ty_66) Tryz.underlying24 rfl rfl rfl hB90 (hS91.sel [2, 0, 1, 3, 4] rfl) hu94 ?_
      intro v95 F96 w97 hk98 hB99 hS100
      have hSW101 := hSW93.wr' hk98.1 hk98.2.1 (fun _ _ h => List.mem_append_left _ (h))
      refine WL.nil (WH.ret hSW101 (WH.tk 7 rfl hP hSW101 (pr_field (o := 0) (off' := 0) ff_27_0 rfl rfl rfl (WH.on1 8 rfl (wl_store_blk (i := 3) (vs := [v95]) (cs' := [v95, v21, (.int .i64 y23), (.int .i64 y24)]) tf_24 rfl rfl (cells_one (hS100.own_ro (i := 0) rfl).one) rfl hB99 hS100 rfl rfl ⟨(hS100.own_ro (i := 0) rfl).one, trivial⟩ rfl ?_)))))
      intro w103 hk106 hB104 hS105
      have hSW107 := hSW101.wr' hk106.1 hk106.2.1 (fun _ _ h => List.mem_append_right _ h)
      refine WL.nil (WH.ret hSW107 (WH.done (by kernel_rfl) ?_))
      exact fun a ha => hJ50 (u94) (v95) (F96) _ hF hB104 (hS105.sel [1, 0, 2, 3] rfl) a (ha.sub ⟨rfl, rfl, rfl, rfl, rfl, trivial⟩)
     ·
      refine wl_lit (vs := []) (l := []) fl_42 Tryz.underlying66 rfl rfl rfl rfl rfl rfl (Below.self w57) (Sep.nil _ _) ?_
      intro v109 F110 w111 hb112 hB115 hM116
      have hB113 := hB59.trans (hb112.mono hB59.size)
      have hS114 := hS60.join hb112 hM116 hB59.size
      have hn117 : ∀ b ∈ F110, w57.heap.size ≤ b := fun b hb => Nat.le_trans hSW61.size ((hM116.1 _ (List.mem_cons_self ..)).2.1 b hb).1
      have hSW118 := hSW61.ext hb112
      refine WL.nil (WH.ret hSW118 (WH.many (is := [1, 4]) (by kernel_rfl) rfl (List.forall_mem_cons.2 ⟨⟨_, rfl, ?_⟩, List.forall_mem_cons.2 ⟨⟨_, rfl, ?_⟩, fun _ h => by cases h⟩⟩)))
      ·
       refine wl_load_blk (i := 4) (vs := [v33]) (v := v33) tf_24 rfl rfl hS114 rfl rfl rfl (WL.nil (WH.ret hSW118 (WH.on1 4 rfl ?_)))
       obtain ⟨u120, hu120, hF⟩ := bindE hF
       refine wl_append (i := 0) (S := (· < w111.heap.size)) fl_42 Tryz.underlying66 rfl rfl rfl hB113 hS114 rfl (hv56.ro hB113) hu120 ?_
       intro v121 F122 w123 hk124 hB125 hS126
       have hSW127 := hSW118.wr' hk124.1 hk124.2.1 (fun b hlt hb => absurd hlt (Nat.not_lt.2 (hn117 b hb)))
       refine WL.nil (WH.ret hSW127 (WH.on1 5 rfl ?_))
       have hq129 := hS126.sel [0, 1, 2, 3, 4] rfl
       have hq130 := hq129.head (r' := R.cel ty_66 F122 [v121] u120) (rfl) fun _ h0 => ⟨_, rfl, h0⟩
       refine wl_lit1 (e := ty_66) (vs := [v121]) Tryz.underlying24 rfl rfl (cells_one (hS126.own_ro (i := 0) rfl).one) rfl hB125 hq130 ?_
       intro v131 F132 w133 hb134 hf135 hB136 hS137
       have hSW139 := hSW127.ext hb134
       refine WL.nil (WH.ret hSW139 (WH.on1 6 rfl ?_))
       obtain ⟨u140, hu140, hF⟩ := bindE hF
       refine wl_appendn (e := ty_66) Tryz.underlying24 rfl rfl rfl hB136 (hS137.sel [2, 0, 1, 3, 4] rfl) hu140 ?_
       intro v141 F142 w143 hk144 hB145 hS146
       have hSW147 := hSW139.wr' hk144.1 hk144.2.1 (fun _ _ h => List.mem_append_left _ (h))
       refine WL.nil (WH.ret hSW147 (WH.tk 7 rfl hP hSW147 (pr_field (o := 0) (off' := 0) ff_27_0 rfl rfl rfl (WH.on1 8 rfl (wl_store_blk (i := 3) (vs := [v141]) (cs' := [v141, v21, (.int .i64 y23), (.int .i64 y24)]) tf_24 rfl rfl (cells_one (hS146.own_ro (i := 0) rfl).one) rfl hB145 hS146 rfl rfl ⟨(hS146.own_ro (i := 0) rfl).one, trivial⟩ rfl ?_)))))
       intro w149 hk152 hB150 hS151
       have hSW153 := hSW147.wr' hk152.1 hk152.2.1 (fun _ _ h => List.mem_append_right _ h)
       refine WL.nil (WH.ret hSW153 (WH.done (by kernel_rfl) ?_))
       exact fun a ha => hJ50 (u140) (v141) (F142) _ hF hB150 (hS151.sel [1, 0, 2, 3] rfl) a (ha.sub ⟨rfl, rfl, rfl, rfl, rfl, trivial⟩)
      ·
       obtain ⟨u155, hu155, hF⟩ := bindE hF
       refine wl_append (i := 0) (S := (· < w111.heap.size)) fl_42 Tryz.underlying66 rfl rfl rfl hB113 hS114 rfl (hv56.ro hB113) hu155 ?_
       intro v156 F157 w158 hk159 hB160 hS161
       have hSW162 := hSW118.wr' hk159.1 hk159.2.1 (fun b hlt hb => absurd hlt (Nat.not_lt.2 (hn117 b hb)))
       refine WL.nil (WH.ret hSW162 (WH.many (is := [1, 5]) (by kernel_rfl) rfl (List.forall_mem_cons.2 ⟨⟨_, rfl, ?_⟩, List.forall_mem_cons.2 ⟨⟨_, rfl, ?_⟩, fun _ h => by cases h⟩⟩)))
       ·
        refine wl_load_blk (i := 4) (vs := [v33]) (v := v33) tf_24 rfl rfl hS161 rfl rfl rfl (WL.nil (WH.ret hSW162 (WH.on1 5 rfl ?_)))
        have hq164 := hS161.sel [0, 1, 2, 3, 4] rfl
        have hq165 := hq164.head (r' := R.cel ty_66 F157 [v156] u155) (rfl) fun _ h0 => ⟨_, rfl, h0⟩
        refine wl_lit1 (e := ty_66) (vs := [v156]) Tryz.underlying24 rfl rfl (cells_one (hS161.own_ro (i := 0) rfl).one) rfl hB160 hq165 ?_
        intro v166 F167 w168 hb169 hf170 hB171 hS172
        have hSW174 := hSW162.ext hb169
        refine WL.nil (WH.ret hSW174 (WH.on1 6 rfl ?_))
        obtain ⟨u175, hu175, hF⟩ := bindE hF
        refine wl_appendn (e := ty_66) Tryz.underlying24 rfl rfl rfl hB171 (hS172.sel [2, 0, 1, 3, 4] rfl) hu175 ?_
        intro v176 F177 w178 hk179 hB180 hS181
        have hSW182 := hSW174.wr' hk179.1 hk179.2.1 (fun _ _ h => List.mem_append_left _ (h))
        refine WL.nil (WH.ret hSW182 (WH.tk 7 rfl hP hSW182 (pr_field (o := 0) (off' := 0) ff_27_0 rfl rfl rfl (WH.on1 8 rfl (wl_store_blk (i := 3) (vs := [v176]) (cs' := [v176, v21, (.int .i64 y23), (.int .i64 y24)]) tf_24 rfl rfl (cells_one (hS181.own_ro (i := 0) rfl).one) rfl hB180 hS181 rfl rfl ⟨(hS181.own_ro (i := 0) rfl).one, trivial⟩ rfl ?_)))))
        intro w184 hk187 hB185 hS186
        have hSW188 := hSW182.wr' hk187.1 hk187.2.1 (fun _ _ h => List.mem_append_right _ h)
        refine WL.nil (WH.ret hSW188 (WH.done (by kernel_rfl) ?_))
        exact fun a ha => hJ50 (u175) (v176) (F177) _ hF hB185 (hS186.sel [1, 0, 2, 3] rfl) a (ha.sub ⟨rfl, rfl, rfl, rfl, rfl, trivial⟩)
       ·
        have hq190 := hS161.sel [0, 1, 2, 3, 4] rfl
        have hq191 := hq190.head (r' := R.cel ty_66 F157 [v156] u155) (rfl) fun _ h0 => ⟨_, rfl, h0⟩
        refine wl_lit1 (e := ty_66) (vs := [v156]) Tryz.underlying24 rfl rfl (cells_one (hS161.own_ro (i := 0) rfl).one) rfl hB160 hq191 ?_
        intro v192 F193 w194 hb195 hf196 hB197 hS198
        have hSW200 := hSW162.ext hb195
        refine WL.nil (WH.ret hSW200 (WH.on1 1 rfl (wl_load_blk (i := 4) (vs := [v33]) (v := v33) tf_24 rfl rfl hS198 rfl rfl rfl (WL.nil (WH.ret hSW200 (WH.on1 6 rfl ?_))))))
        obtain ⟨u201, hu201, hF⟩ := bindE hF
        refine wl_appendn (e := ty_66) Tryz.underlying24 rfl rfl rfl hB197 (hS198.sel [2, 0, 1, 3, 4] rfl) hu201 ?_
        intro v202 F203 w204 hk205 hB206 hS207
        have hSW208 := hSW200.wr' hk205.1 hk205.2.1 (fun _ _ h => List.mem_append_left _ (h))
        refine WL.nil (WH.ret hSW208 (WH.tk 7 rfl hP hSW208 (pr_field (o := 0) (off' := 0) ff_27_0 rfl rfl rfl (WH.on1 8 rfl (wl_store_blk (i := 3) (vs := [v202]) (cs' := [v202, v21, (.int .i64 y23), (.int .i64 y24)]) tf_24 rfl rfl (cells_one (hS207.own_ro (i := 0) rfl).one) rfl hB206 hS207 rfl rfl ⟨(hS207.own_ro (i := 0) rfl).one, trivial⟩ rfl ?_)))))
        intro w210 hk213 hB211 hS212
        have hSW214 := hSW208.wr' hk213.1 hk213.2.1 (fun _ _ h => List.mem_append_right _ h)
        refine WL.nil (WH.ret hSW214 (WH.done (by kernel_rfl) ?_))
        exact fun a ha => hJ50 (u201) (v202) (F203) _ hF hB211 (hS212.sel [1, 0, 2, 3] rfl) a (ha.sub ⟨rfl, rfl, rfl, rfl, rfl, trivial⟩)
    ·replace hF := ifN h41 hF
     refine W.exit fun a ha => hK27 _ _ (W.seq fun K216 hK216 => (W.region (wl_load_blk (i := 3) (vs := [v33, v21, (.int .i64 y23), (.int .i64 y24)]) (v := (.agg #[v33, v21, (.int .i64 y23), (.int .i64 y24)])) tf_27 rfl rfl hS31 rfl rfl rfl (wl_store_blk (i := 0) (vs := [v33, v21, (.int .i64 y23), (.int .i64 y24)]) (cs' := [v33, v21, (.int .i64 y23), (.int .i64 y24)]) tf_27 rfl rfl rfl rfl hB30 hS31 rfl rfl ⟨(hS31.own_ro (i := 1) rfl).one, (hS31.own_ro (i := 2) rfl).one, rfl, rfl, trivial⟩ rfl ?_)))) a ha
     intro w217 hk220 hB218 hS219
     refine WL.nil fun a ha => hK216 _ _ (W.ret ?_) a ha
     have hr := Option.some.inj hF
     subst hr
     exact rets (vs := [(.agg #[v33, v21, (.int .i64 y23), (.int .i64 y24)])]) hQ rfl ⟨rv_cell (i := 0) tf_27 rfl hS219 rfl rfl rfl, trivial⟩ ⟨v33, F34, v21, F22, rfl, hB218, hS219.sel [1, 2] rfl⟩
 refine W.regionH mixed_ [] hB10 hS11 ?_
 intro w221 hb222 hB223 hS224
 have hSW225 := KeepX.refl w221 []
 refine WH.tk 1 rfl hP hSW225 (pr_field (o := 1) (off' := 1) ff_27_1 rfl rfl rfl (WH.tk 2 rfl hP hSW225 (pr_load_blk (i := 1) (vs := [v0_1]) (v := v0_1) tf_25 rfl rfl hS224 rfl rfl rfl (by simp) (WH.tk 4 rfl hP hSW225 (pr_field (o := 2) (off' := 2) ff_27_2 rfl rfl rfl (WH.tk 5 rfl hP hSW225 (pr_load_blk (i := 1) (vs := [(.int .i64 x0.2.2.1)]) (v := (.int .i64 x0.2.2.1)) tf_3 rfl rfl hS224 rfl rfl rfl (by simp) (WH.tk 6 rfl hP hSW225 (pr_field (o := 3) (off' := 3) ff_27_3 rfl rfl rfl (WH.tk 7 rfl hP hSW225 (pr_load_blk (i := 1) (vs := [(.int .i64 x0.2.2.2)]) (v := (.int .i64 x0.2.2.2)) tf_3 rfl rfl hS224 rfl rfl rfl (by simp) (WH.many (is := [0, 3, 9]) (by kernel_rfl) rfl (List.forall_mem_cons.2 ⟨⟨_, rfl, ?_⟩, List.forall_mem_cons.2 ⟨⟨_, rfl, ?_⟩, List.forall_mem_cons.2 ⟨⟨_, rfl, ?_⟩, fun _ h => by cases h⟩⟩⟩)))))))))))))
 ·
  refine wl_lit0 (e := ty_66) Tryz.underlying24 rfl (Below.self w221) (Sep.nil _ _) ?_
  intro v226 F227 w228 hb229 hB232 hM233
  have hB230 := hB223.trans (hb229.mono hB223.size)
  have hS231 := hS224.join hb229 hM233 hB223.size
  have hSW235 := hSW225.ext hb229
  refine WL.nil (WH.ret hSW235 (WH.many (is := [3, 9]) (by kernel_rfl) rfl (List.forall_mem_cons.2 ⟨⟨_, rfl, ?_⟩, List.forall_mem_cons.2 ⟨⟨_, rfl, ?_⟩, fun _ h => by cases h⟩⟩)))
  ·
   obtain ⟨u236, hu236, hF⟩ := bindE hF
   refine wl_call rfl Tryz.call56 (C_impl_copyInts w228 x0.2.1 v0_1 (h0_1.ro hB230) _ hu236) rfl ?_
   rintro _ w239 ⟨v237, F238, rfl, hb240, hM243⟩
   refine ⟨_, rfl, ?_⟩
   have hB241 := hB230.trans (hb240.mono hB230.size)
   have hS242 := hS231.join hb240 hM243 hB230.size
   have hSW245 := hSW235.ext hb240
   refine WL.nil (WH.ret hSW245 (WH.tk 8 rfl hP hSW245 (pr_build (zs := [(.slice none 0 0), (.slice none 0 0), (.int .i64 0), (.int .i64 0)]) (out := [v226, v237, (.int .i64 x0.2.2.1), (.int .i64 x0.2.2.2)]) (vs := [v226, v237, (.int .i64 x0.2.2.1), (.int .i64 x0.2.2.2)]) (css := [[v226], [v237], [(.int .i64 x0.2.2.1)], [(.int .i64 x0.2.2.2)]]) tf_27 pl_27 rfl rfl (by simp only [List.map_cons, List.map_nil, cells_one ((hS242.own_ro (i := 1) rfl).one), cells_one ((hS242.own_ro (i := 0) rfl).one)] <;> rfl) rfl rfl (WH.on1 9 rfl (wl_alloc (cs := [(.slice none 0 0), (.slice none 0 0), (.int .i64 0), (.int .i64 0)]) tf_27 rfl rfl (Below.self w239) (Sep.nil _ _) ?_)))))
   intro b246 w247 hb248 hB251 hM252
   have hB249 := hB241.trans (hb248.mono hB241.size)
   have hS250 := hS242.join hb248 hM252 hB241.size
   have hn253 : ∀ b ∈ [b246], w221.heap.size ≤ b := fun b hb => Nat.le_trans hSW245.size ((hM252.1 _ (List.mem_cons_self ..)).2.1 b hb).1
   have hSW254 := hSW245.ext hb248
   refine WL.nil (WH.ret hSW254 (WH.on1 10 rfl (wl_store_blk (i := 0) (vs := [v226, v237, (.int .i64 x0.2.2.1), (.int .i64 x0.2.2.2)]) (cs' := [v226, v237, (.int .i64 x0.2.2.1), (.int .i64 x0.2.2.2)]) tf_27 rfl rfl rfl rfl hB249 hS250 rfl rfl ⟨(hS250.own_ro (i := 2) rfl).one, (hS250.own_ro (i := 1) rfl).one, rfl, rfl, trivial⟩ rfl ?_)))
   intro w255 hk258 hB256 hS257
   have hSW259 := hSW254.wr' hk258.1 hk258.2.1 (fun b hlt hb => absurd hlt (Nat.not_lt.2 (hn253 b hb)))
   refine WL.nil (WH.ret hSW259 (WH.done (by kernel_rfl) ?_))
   exact fun a ha => hJ26 ([]) (u236) (x0.2.2.1) (x0.2.2.2) (v226) (F227) (v237) (F238) (b246) _ hF hB256 (hS257.sel [4, 3, 2, 1, 0] rfl) a (ha.sub ⟨rfl, rfl, rfl, trivial⟩)
  ·
   refine wl_alloc (cs := [(.slice none 0 0), (.slice none 0 0), (.int .i64 0), (.int .i64 0)]) tf_27 rfl rfl (Below.self w228) (Sep.nil _ _) ?_
   intro b261 w262 hb263 hB266 hM267
   have hB264 := hB230.trans (hb263.mono hB230.size)
   have hS265 := hS231.join hb263 hM267 hB230.size
   have hn268 : ∀ b ∈ [b261], w221.heap.size ≤ b := fun b hb => Nat.le_trans hSW235.size ((hM267.1 _ (List.mem_cons_self ..)).2.1 b hb).1
   have hSW269 := hSW235.ext hb263
   refine WL.nil (WH.ret hSW269 (WH.on1 3 rfl ?_))
   obtain ⟨u270, hu270, hF⟩ := bindE hF
   refine wl_call rfl Tryz.call56 (C_impl_copyInts w262 x0.2.1 v0_1 (h0_1.ro hB264) _ hu270) rfl ?_
   rintro _ w273 ⟨v271, F272, rfl, hb274, hM277⟩
   refine ⟨_, rfl, ?_⟩
   have hB275 := hB264.trans (hb274.mono hB264.size)
   have hS276 := hS265.join hb274 hM277 hB264.size
   have hSW279 := hSW269.ext hb274
   refine WL.nil (WH.ret hSW279 (WH.tk 8 rfl hP hSW279 (pr_build (zs := [(.slice none 0 0), (.slice none 0 0), (.int .i64 0), (.int .i64 0)]) (out := [v226, v271, (.int .i64 x0.2.2.1), (.int .i64 x0.2.2.2)]) (vs := [v226, v271, (.int .i64 x0.2.2.1), (.int .i64 x0.2.2.2)]) (css := [[v226], [v271], [(.int .i64 x0.2.2.1)], [(.int .i64 x0.2.2.2)]]) tf_27 pl_27 rfl rfl (by simp only [List.map_cons, List.map_nil, cells_one ((hS276.own_ro (i := 2) rfl).one), cells_one ((hS276.own_ro (i := 0) rfl).one)] <;> rfl) rfl rfl (WH.on1 10 rfl (wl_store_blk (i := 1) (vs := [v226, v271, (.int .i64 x0.2.2.1), (.int .i64 x0.2.2.2)]) (cs' := [v226, v271, (.int .i64 x0.2.2.1), (.int .i64 x0.2.2.2)]) tf_27 rfl rfl rfl rfl hB275 hS276 rfl rfl ⟨(hS276.own_ro (i := 2) rfl).one, (hS276.own_ro (i := 0) rfl).one, rfl, rfl, trivial⟩ rfl ?_)))))
   intro w280 hk283 hB281 hS282
   have hSW284 := hSW279.wr' hk283.1 hk283.2.1 (fun b hlt hb => absurd hlt (Nat.not_lt.2 (hn268 b hb)))
   refine WL.nil (WH.ret hSW284 (WH.done (by kernel_rfl) ?_))
   exact fun a ha => hJ26 ([]) (u270) (x0.2.2.1) (x0.2.2.2) (v226) (F227) (v271) (F272) (b261) _ hF hB281 (hS282.sel [4, 3, 2, 0, 1] rfl) a (ha.sub ⟨rfl, rfl, rfl, trivial⟩)
 ·
  obtain ⟨u286, hu286, hF⟩ := bindE hF
  refine wl_call rfl Tryz.call56 (C_impl_copyInts w221 x0.2.1 v0_1 (h0_1.ro hB223) _ hu286) rfl ?_
  rintro _ w289 ⟨v287, F288, rfl, hb290, hM293⟩
  refine ⟨_, rfl, ?_⟩
  have hB291 := hB223.trans (hb290.mono hB223.size)
  have hS292 := hS224.join hb290 hM293 hB223.size
  have hSW295 := hSW225.ext hb290
  refine WL.nil (WH.ret hSW295 (WH.many (is := [0, 9]) (by kernel_rfl) rfl (List.forall_mem_cons.2 ⟨⟨_, rfl, ?_⟩, List.forall_mem_cons.2 ⟨⟨_, rfl, ?_⟩, fun _ h => by cases h⟩⟩)))
  ·
   refine wl_lit0 (e := ty_66) Tryz.underlying24 rfl (Below.self w289) (Sep.nil _ _) ?_
   intro v296 F297 w298 hb299 hB302 hM303
   have hB300 := hB291.trans (hb299.mono hB291.size)
   have hS301 := hS292.join hb299 hM303 hB291.size
   have hSW305 := hSW295.ext hb299
   refine WL.nil (WH.ret hSW305 (WH.tk 8 rfl hP hSW305 (pr_build (zs := [(.slice none 0 0), (.slice none 0 0), (.int .i64 0), (.int .i64 0)]) (out := [v296, v287, (.int .i64 x0.2.2.1), (.int .i64 x0.2.2.2)]) (vs := [v296, v287, (.int .i64 x0.2.2.1), (.int .i64 x0.2.2.2)]) (css := [[v296], [v287], [(.int .i64 x0.2.2.1)], [(.int .i64 x0.2.2.2)]]) tf_27 pl_27 rfl rfl (by simp only [List.map_cons, List.map_nil, cells_one ((hS301.own_ro (i := 0) rfl).one), cells_one ((hS301.own_ro (i := 1) rfl).one)] <;> rfl) rfl rfl (WH.on1 9 rfl (wl_alloc (cs := [(.slice none 0 0), (.slice none 0 0), (.int .i64 0), (.int .i64 0)]) tf_27 rfl rfl (Below.self w298) (Sep.nil _ _) ?_)))))
   intro b306 w307 hb308 hB311 hM312
   have hB309 := hB300.trans (hb308.mono hB300.size)
   have hS310 := hS301.join hb308 hM312 hB300.size
   have hn313 : ∀ b ∈ [b306], w221.heap.size ≤ b := fun b hb => Nat.le_trans hSW305.size ((hM312.1 _ (List.mem_cons_self ..)).2.1 b hb).1
   have hSW314 := hSW305.ext hb308
   refine WL.nil (WH.ret hSW314 (WH.on1 10 rfl (wl_store_blk (i := 0) (vs := [v296, v287, (.int .i64 x0.2.2.1), (.int .i64 x0.2.2.2)]) (cs' := [v296, v287, (.int .i64 x0.2.2.1), (.int .i64 x0.2.2.2)]) tf_27 rfl rfl rfl rfl hB309 hS310 rfl rfl ⟨(hS310.own_ro (i := 1) rfl).one, (hS310.own_ro (i := 2) rfl).one, rfl, rfl, trivial⟩ rfl ?_)))
   intro w315 hk318 hB316 hS317
   have hSW319 := hSW314.wr' hk318.1 hk318.2.1 (fun b hlt hb => absurd hlt (Nat.not_lt.2 (hn313 b hb)))
   refine WL.nil (WH.ret hSW319 (WH.done (by kernel_rfl) ?_))
   exact fun a ha => hJ26 ([]) (u286) (x0.2.2.1) (x0.2.2.2) (v296) (F297) (v287) (F288) (b306) _ hF hB316 (hS317.sel [4, 3, 1, 2, 0] rfl) a (ha.sub ⟨rfl, rfl, rfl, trivial⟩)
  ·
   refine wl_alloc (cs := [(.slice none 0 0), (.slice none 0 0), (.int .i64 0), (.int .i64 0)]) tf_27 rfl rfl (Below.self w289) (Sep.nil _ _) ?_
   intro b321 w322 hb323 hB326 hM327
   have hB324 := hB291.trans (hb323.mono hB291.size)
   have hS325 := hS292.join hb323 hM327 hB291.size
   have hn328 : ∀ b ∈ [b321], w221.heap.size ≤ b := fun b hb => Nat.le_trans hSW295.size ((hM327.1 _ (List.mem_cons_self ..)).2.1 b hb).1
   have hSW329 := hSW295.ext hb323
   refine WL.nil (WH.ret hSW329 (WH.on1 0 rfl (wl_lit0 (e := ty_66) Tryz.underlying24 rfl (Below.self w322) (Sep.nil _ _) ?_)))
   intro v330 F331 w332 hb333 hB336 hM337
   have hB334 := hB324.trans (hb333.mono hB324.size)
   have hS335 := hS325.join hb333 hM337 hB324.size
   have hSW339 := hSW329.ext hb333
   refine WL.nil (WH.ret hSW339 (WH.tk 8 rfl hP hSW339 (pr_build (zs := [(.slice none 0 0), (.slice none 0 0), (.int .i64 0), (.int .i64 0)]) (out := [v330, v287, (.int .i64 x0.2.2.1), (.int .i64 x0.2.2.2)]) (vs := [v330, v287, (.int .i64 x0.2.2.1), (.int .i64 x0.2.2.2)]) (css := [[v330], [v287], [(.int .i64 x0.2.2.1)], [(.int .i64 x0.2.2.2)]]) tf_27 pl_27 rfl rfl (by simp only [List.map_cons, List.map_nil, cells_one ((hS335.own_ro (i := 0) rfl).one), cells_one ((hS335.own_ro (i := 2) rfl).one)] <;> rfl) rfl rfl (WH.on1 10 rfl (wl_store_blk (i := 1) (vs := [v330, v287, (.int .i64 x0.2.2.1), (.int .i64 x0.2.2.2)]) (cs' := [v330, v287, (.int .i64 x0.2.2.1), (.int .i64 x0.2.2.2)]) tf_27 rfl rfl rfl rfl hB334 hS335 rfl rfl ⟨(hS335.own_ro (i := 0) rfl).one, (hS335.own_ro (i := 2) rfl).one, rfl, rfl, trivial⟩ rfl ?_)))))
   intro w340 hk343 hB341 hS342
   have hSW344 := hSW339.wr' hk343.1 hk343.2.1 (fun b hlt hb => absurd hlt (Nat.not_lt.2 (hn328 b hb)))
   refine WL.nil (WH.ret hSW344 (WH.done (by kernel_rfl) ?_))
   exact fun a ha => hJ26 ([]) (u286) (x0.2.2.1) (x0.2.2.2) (v330) (F331) (v287) (F288) (b321) _ hF hB341 (hS342.sel [4, 3, 0, 2, 1] rfl) a (ha.sub ⟨rfl, rfl, rfl, trivial⟩)
 ·
  refine wl_alloc (cs := [(.slice none 0 0), (.slice none 0 0), (.int .i64 0), (.int .i64 0)]) tf_27 rfl rfl (Below.self w221) (Sep.nil _ _) ?_
  intro b346 w347 hb348 hB351 hM352
  have hB349 := hB223.trans (hb348.mono hB223.size)
  have hS350 := hS224.join hb348 hM352 hB223.size
  have hn353 : ∀ b ∈ [b346], w221.heap.size ≤ b := fun b hb => Nat.le_trans hSW225.size ((hM352.1 _ (List.mem_cons_self ..)).2.1 b hb).1
  have hSW354 := hSW225.ext hb348
  refine WL.nil (WH.ret hSW354 (WH.many (is := [0, 3]) (by kernel_rfl) rfl (List.forall_mem_cons.2 ⟨⟨_, rfl, ?_⟩, List.forall_mem_cons.2 ⟨⟨_, rfl, ?_⟩, fun _ h => by cases h⟩⟩)))
  ·
   refine wl_lit0 (e := ty_66) Tryz.underlying24 rfl (Below.self w347) (Sep.nil _ _) ?_
   intro v355 F356 w357 hb358 hB361 hM362
   have hB359 := hB349.trans (hb358.mono hB349.size)
   have hS360 := hS350.join hb358 hM362 hB349.size
   have hSW364 := hSW354.ext hb358
   refine WL.nil (WH.ret hSW364 (WH.on1 3 rfl ?_))
   obtain ⟨u365, hu365, hF⟩ := bindE hF
   refine wl_call rfl Tryz.call56 (C_impl_copyInts w357 x0.2.1 v0_1 (h0_1.ro hB359) _ hu365) rfl ?_
   rintro _ w368 ⟨v366, F367, rfl, hb369, hM372⟩
   refine ⟨_, rfl, ?_⟩
   have hB370 := hB359.trans (hb369.mono hB359.size)
   have hS371 := hS360.join hb369 hM372 hB359.size
   have hSW374 := hSW364.ext hb369
   refine WL.nil (WH.ret hSW374 (WH.tk 8 rfl hP hSW374 (pr_build (zs := [(.slice none 0 0), (.slice none 0 0), (.int .i64 0), (.int .i64 0)]) (out := [v355, v366, (.int .i64 x0.2.2.1), (.int .i64 x0.2.2.2)]) (vs := [v355, v366, (.int .i64 x0.2.2.1), (.int .i64 x0.2.2.2)]) (css := [[v355], [v366], [(.int .i64 x0.2.2.1)], [(.int .i64 x0.2.2.2)]]) tf_27 pl_27 rfl rfl (by simp only [List.map_cons, List.map_nil, cells_one ((hS371.own_ro (i := 1) rfl).one), cells_one ((hS371.own_ro (i := 0) rfl).one)] <;> rfl) rfl rfl (WH.on1 10 rfl (wl_store_blk (i := 2) (vs := [v355, v366, (.int .i64 x0.2.2.1), (.int .i64 x0.2.2.2)]) (cs' := [v355, v366, (.int .i64 x0.2.2.1), (.int .i64 x0.2.2.2)]) tf_27 rfl rfl rfl rfl hB370 hS371 rfl rfl ⟨(hS371.own_ro (i := 1) rfl).one, (hS371.own_ro (i := 0) rfl).one, rfl, rfl, trivial⟩ rfl ?_)))))
   intro w375 hk378 hB376 hS377
   have hSW379 := hSW374.wr' hk378.1 hk378.2.1 (fun b hlt hb => absurd hlt (Nat.not_lt.2 (hn353 b hb)))
   refine WL.nil (WH.ret hSW379 (WH.done (by kernel_rfl) ?_))
   exact fun a ha => hJ26 ([]) (u365) (x0.2.2.1) (x0.2.2.2) (v355) (F356) (v366) (F367) (b346) _ hF hB376 (hS377.sel [4, 3, 1, 0, 2] rfl) a (ha.sub ⟨rfl, rfl, rfl, trivial⟩)
  ·
   obtain ⟨u381, hu381, hF⟩ := bindE hF
   refine wl_call rfl Tryz.call56 (C_impl_copyInts w347 x0.2.1 v0_1 (h0_1.ro hB349) _ hu381) rfl ?_
   rintro _ w384 ⟨v382, F383, rfl, hb385, hM388⟩
   refine ⟨_, rfl, ?_⟩
   have hB386 := hB349.trans (hb385.mono hB349.size)
   have hS387 := hS350.join hb385 hM388 hB349.size
   have hSW390 := hSW354.ext hb385
   refine WL.nil (WH.ret hSW390 (WH.on1 0 rfl (wl_lit0 (e := ty_66) Tryz.underlying24 rfl (Below.self w384) (Sep.nil _ _) ?_)))
   intro v391 F392 w393 hb394 hB397 hM398
   have hB395 := hB386.trans (hb394.mono hB386.size)
   have hS396 := hS387.join hb394 hM398 hB386.size
   have hSW400 := hSW390.ext hb394
   refine WL.nil (WH.ret hSW400 (WH.tk 8 rfl hP hSW400 (pr_build (zs := [(.slice none 0 0), (.slice none 0 0), (.int .i64 0), (.int .i64 0)]) (out := [v391, v382, (.int .i64 x0.2.2.1), (.int .i64 x0.2.2.2)]) (vs := [v391, v382, (.int .i64 x0.2.2.1), (.int .i64 x0.2.2.2)]) (css := [[v391], [v382], [(.int .i64 x0.2.2.1)], [(.int .i64 x0.2.2.2)]]) tf_27 pl_27 rfl rfl (by simp only [List.map_cons, List.map_nil, cells_one ((hS396.own_ro (i := 0) rfl).one), cells_one ((hS396.own_ro (i := 1) rfl).one)] <;> rfl) rfl rfl (WH.on1 10 rfl (wl_store_blk (i := 2) (vs := [v391, v382, (.int .i64 x0.2.2.1), (.int .i64 x0.2.2.2)]) (cs' := [v391, v382, (.int .i64 x0.2.2.1), (.int .i64 x0.2.2.2)]) tf_27 rfl rfl rfl rfl hB395 hS396 rfl rfl ⟨(hS396.own_ro (i := 0) rfl).one, (hS396.own_ro (i := 1) rfl).one, rfl, rfl, trivial⟩ rfl ?_)))))
   intro w401 hk404 hB402 hS403
   have hSW405 := hSW400.wr' hk404.1 hk404.2.1 (fun b hlt hb => absurd hlt (Nat.not_lt.2 (hn353 b hb)))
   refine WL.nil (WH.ret hSW405 (WH.done (by kernel_rfl) ?_))
   exact fun a ha => hJ26 ([]) (u381) (x0.2.2.1) (x0.2.2.2) (v391) (F392) (v382) (F383) (b346) _ hF hB402 (hS403.sel [4, 3, 0, 1, 2] rfl) a (ha.sub ⟨rfl, rfl, rfl, trivial⟩)
theorem C_impl_copyMarch (w0 : World) (x0 : (((List (List (Int × Int))) × (List Int) × Int × Int) × Int × (List Int) × (List Int))) (v0_0 : Value) (h0_0 : rdS ty_66 (· < w0.heap.size) w0 v0_0 x0.1.1) (v0_1 : Value) (h0_1 : rdS ty_3 (· < w0.heap.size) w0 v0_1 x0.1.2.1) (v0_2 : Value) (h0_2 : rdS ty_3 (· < w0.heap.size) w0 v0_2 x0.2.2.1) (v0_3 : Value) (h0_3 : rdS ty_3 (· < w0.heap.size) w0 v0_3 x0.2.2.2) (r : (((List (List (Int × Int))) × (List Int) × Int × Int) × Int × (List Int) × (List Int))) (hF : F_impl_copyMarch x0 = some r) :
  Calls Tryz.prog 29 [(.agg #[v0_0, v0_1, (.int .i64 x0.1.2.2.1), (.int .i64 x0.1.2.2.2), (.int .i64 x0.2.1), v0_2, v0_3])].toArray w0 fun e w' => ∃ (q0 : Value) (G0 : List Nat) (q1 : Value) (G1 : List Nat) (q2 : Value) (G2 : List Nat) (q3 : Value) (G3 : List Nat), e = .returned (.agg #[q0, q1, (.int .i64 r.1.2.2.1), (.int .i64 r.1.2.2.2), (.int .i64 r.2.1), q2, q3]) ∧ Below w0.heap.size w0 w' ∧ Sep w0.heap.size w' [R.own ty_66 G0 q0 r.1.1, R.own ty_3 G1 q1 r.1.2.1, R.own ty_3 G2 q2 r.2.2.1, R.own ty_3 G3 q3 r.2.2.2] := by
 refine calls_mk' Tryz.func29 rfl Tryz.ntmps29 rfl rfl fun Q hQ hP => ?_
 have hB : Below w0.heap.size w0 w0 := Below.refl _ _
 have hS : Sep w0.heap.size w0 [] := Sep.nil _ _
 unfold F_impl_copyMarch at hF
 refine W.seq fun K1 hK1 => W.region (wl_box (cs := [v0_0, v0_1, (.int .i64 x0.1.2.2.1), (.int .i64 x0.1.2.2.2), (.int .i64 x0.2.1), v0_2, v0_3]) rfl rfl rfl hB hS ?_)
 intro b2 w3 hb4 hB5 hS6
 refine wl_alloc (cs := [(.slice none 0 0), (.slice none 0 0), (.int .i64 0), (.int .i64 0), (.int .i64 0), (.slice none 0 0), (.slice none 0 0)]) tf_29 rfl rfl hB5 hS6 ?_
 intro b7 w8 hb9 hB10 hS11
 refine WL.nil fun a ha => hK1 _ _ (W.seq fun K12 hK12 => (W.regionH mixed_ [b7] hB10 hS11 ?_)) a ha
 intro w13 hb14 hB15 hS16
 have hSW17 := KeepX.refl w13 [b7]
 refine WH.tk 0 rfl hP hSW17 (pr_field (o := 0) (off' := 0) ff_29_0 rfl rfl rfl (WH.tk 1 rfl hP hSW17 (pr_load_blk (i := 1) (vs := [v0_0, v0_1, (.int .i64 x0.1.2.2.1), (.int .i64 x0.1.2.2.2)]) (v := (.agg #[v0_0, v0_1, (.int .i64 x0.1.2.2.1), (.int .i64 x0.1.2.2.2)])) tf_27 rfl rfl hS16 rfl rfl rfl (hS16.disj (i := 1) (j := 0) rfl rfl rfl b2 (by simp [R.blk])) (WH.tk 3 rfl hP hSW17 (pr_field (o := 4) (off' := 4) ff_29_1 rfl rfl rfl (WH.tk 4 rfl hP hSW17 (pr_load_blk (i := 1) (vs := [(.int .i64 x0.2.1)]) (v := (.int .i64 x0.2.1)) tf_3 rfl rfl hS16 rfl rfl rfl (hS16.disj (i := 1) (j := 0) rfl rfl rfl b2 (by simp [R.blk])) (WH.tk 5 rfl hP hSW17 (pr_field (o := 5) (off' := 5) ff_29_2 rfl rfl rfl (WH.tk 6 rfl hP hSW17 (pr_load_blk (i := 1) (vs := [v0_2]) (v := v0_2) tf_25 rfl rfl hS16 rfl rfl rfl (hS16.disj (i := 1) (j := 0) rfl rfl rfl b2 (by simp [R.blk])) (WH.tk 8 rfl hP hSW17 ?_))))))))))))
 refine pr_field (o := 6) (off' := 6) ff_29_3 rfl rfl rfl (WH.tk 9 rfl hP hSW17 (pr_load_blk (i := 1) (vs := [v0_3]) (v := v0_3) tf_25 rfl rfl hS16 rfl rfl rfl (hS16.disj (i := 1) (j := 0) rfl rfl rfl b2 (by simp [R.blk])) (WH.on1 2 rfl ?_)))
 obtain ⟨u18, hu18, hF⟩ := bindE hF
 refine wl_call rfl Tryz.call50 (C_impl_copyShow w13 x0.1 v0_0 (h0_0.ro hB15) v0_1 (h0_1.ro hB15) _ hu18) rfl ?_
 rintro _ w23 ⟨v19, F20, v21, F22, rfl, hb24, hM27⟩
 refine ⟨_, rfl, ?_⟩
 have hB25 := hB15.trans (hb24.mono hB15.size)
 have hS26 := hS16.join hb24 hM27 hB15.size
 have hSW30 := hSW17.ext hb24
 refine WL.nil (WH.ret hSW30 (WH.on1 7 rfl ?_))
 obtain ⟨u32, hu32, hF⟩ := bindE hF
 refine wl_call rfl Tryz.call56 (C_impl_copyInts w23 x0.2.2.1 v0_2 (h0_2.ro hB25) _ hu32) rfl ?_
 rintro _ w35 ⟨v33, F34, rfl, hb36, hM39⟩
 refine ⟨_, rfl, ?_⟩
 have hB37 := hB25.trans (hb36.mono hB25.size)
 have hS38 := hS26.join hb36 hM39 hB25.size
 have hSW41 := hSW30.ext hb36
 refine WL.nil (WH.ret hSW41 (WH.on1 10 rfl ?_))
 obtain ⟨u43, hu43, hF⟩ := bindE hF
 refine wl_call rfl Tryz.call56 (C_impl_copyInts w35 x0.2.2.2 v0_3 (h0_3.ro hB37) _ hu43) rfl ?_
 rintro _ w46 ⟨v44, F45, rfl, hb47, hM50⟩
 refine ⟨_, rfl, ?_⟩
 have hB48 := hB37.trans (hb47.mono hB37.size)
 have hS49 := hS38.join hb47 hM50 hB37.size
 have hSW52 := hSW41.ext hb47
 refine WL.nil (WH.ret hSW52 (WH.tk 11 rfl hP hSW52 (pr_build (zs := [(.slice none 0 0), (.slice none 0 0), (.int .i64 0), (.int .i64 0), (.int .i64 0), (.slice none 0 0), (.slice none 0 0)]) (out := [v19, v21, (.int .i64 u18.2.2.1), (.int .i64 u18.2.2.2), (.int .i64 x0.2.1), v33, v44]) (vs := [(.agg #[v19, v21, (.int .i64 u18.2.2.1), (.int .i64 u18.2.2.2)]), (.int .i64 x0.2.1), v33, v44]) (css := [[v19, v21, (.int .i64 u18.2.2.1), (.int .i64 u18.2.2.2)], [(.int .i64 x0.2.1)], [v33], [v44]]) tf_29 pl_29 rfl rfl (by simp only [List.map_cons, List.map_nil, cells_one ((hS49.own_ro (i := 1) rfl).one), cells_one ((hS49.own_ro (i := 0) rfl).one)] <;> rfl) rfl rfl (WH.on1 12 rfl ?_))))
 refine wl_store_blk (i := 4) (vs := [v19, v21, (.int .i64 u18.2.2.1), (.int .i64 u18.2.2.2), (.int .i64 x0.2.1), v33, v44]) (cs' := [v19, v21, (.int .i64 u18.2.2.1), (.int .i64 u18.2.2.2), (.int .i64 x0.2.1), v33, v44]) tf_29 rfl rfl rfl rfl hB48 hS49 rfl rfl ⟨(hS49.own_ro (i := 2) rfl).one, (hS49.own_ro (i := 3) rfl).one, rfl, rfl, rfl, (hS49.own_ro (i := 1) rfl).one, (hS49.own_ro (i := 0) rfl).one, trivial⟩ rfl ?_
 intro w54 hk57 hB55 hS56
 have hSW58 := hSW52.wr' hk57.1 hk57.2.1 (fun _ _ h => h)
 refine WL.nil (WH.ret hSW58 (WH.done (by kernel_rfl) (fun a ha => hK12 _ _ (W.ret ?_) a ha)))
 have hr := Option.some.inj hF
 subst hr
 exact rets (vs := [(.agg #[v19, v21, (.int .i64 u18.2.2.1), (.int .i64 u18.2.2.2), (.int .i64 x0.2.1), v33, v44])]) hQ rfl ⟨rv_cell (i := 4) tf_29 rfl hS56 rfl rfl rfl, trivial⟩ ⟨v19, F20, v21, F22, v33, F34, v44, F45, rfl, hB55, hS56.sel [2, 3, 1, 0] rfl⟩
theorem C_impl_BeatOnce (w0 : World) (x0 : (((List (List (Int × Int))) × (List Int) × Int × Int) × Int × (List Int) × (List Int))) (v0_0 : Value) (h0_0 : rdS ty_66 (· < w0.heap.size) w0 v0_0 x0.1.1) (v0_1 : Value) (h0_1 : rdS ty_3 (· < w0.heap.size) w0 v0_1 x0.1.2.1) (v0_2 : Value) (h0_2 : rdS ty_3 (· < w0.heap.size) w0 v0_2 x0.2.2.1) (v0_3 : Value) (h0_3 : rdS ty_3 (· < w0.heap.size) w0 v0_3 x0.2.2.2) (r : ((((List (List (Int × Int))) × (List Int) × Int × Int) × Int × (List Int) × (List Int)) × Bool)) (hF : F_impl_BeatOnce x0 = some r) :
  Calls Tryz.prog 11 [(.agg #[v0_0, v0_1, (.int .i64 x0.1.2.2.1), (.int .i64 x0.1.2.2.2), (.int .i64 x0.2.1), v0_2, v0_3])].toArray w0 fun e w' => ∃ (q0 : Value) (G0 : List Nat) (q1 : Value) (G1 : List Nat) (q2 : Value) (G2 : List Nat) (q3 : Value) (G3 : List Nat), e = .returned (.tuple #[(.agg #[q0, q1, (.int .i64 r.1.1.2.2.1), (.int .i64 r.1.1.2.2.2), (.int .i64 r.1.2.1), q2, q3]), (.bool r.2)]) ∧ Below w0.heap.size w0 w' ∧ Sep w0.heap.size w' [R.own ty_66 G0 q0 r.1.1.1, R.own ty_3 G1 q1 r.1.1.2.1, R.own ty_3 G2 q2 r.1.2.2.1, R.own ty_3 G3 q3 r.1.2.2.2] := by
 refine calls_mk' Tryz.func11 rfl Tryz.ntmps11 rfl rfl fun Q hQ hP => ?_
 have hB : Below w0.heap.size w0 w0 := Below.refl _ _
 have hS : Sep w0.heap.size w0 [] := Sep.nil _ _
 unfold F_impl_BeatOnce at hF
 refine W.seq fun K1 hK1 => W.region (wl_box (cs := [v0_0, v0_1, (.int .i64 x0.1.2.2.1), (.int .i64 x0.1.2.2.2), (.int .i64 x0.2.1), v0_2, v0_3]) rfl rfl rfl hB hS ?_)
 intro b2 w3 hb4 hB5 hS6
 refine wl_alloc (cs := [(.slice none 0 0), (.slice none 0 0), (.int .i64 0), (.int .i64 0), (.int .i64 0), (.slice none 0 0), (.slice none 0 0)]) tf_29 rfl rfl hB5 hS6 ?_
 intro b7 w8 hb9 hB10 hS11
 refine wl_assign rfl rfl (WL.nil (fun a ha => hK1 _ _ (W.seq fun K12 hK12 => (W.seq fun K13 hK13 => ?_)) a ha))
 obtain ⟨k18, hk18, hF⟩ := jE1 hF
 have hJ19 : ∀ (y17 : Bool) (w14 : World) (_ : k18 y17 = some r) (_ : Below w0.heap.size w0 w14) (_ : Sep w0.heap.size w14 [R.blk b2 29 [v0_0, v0_1, (.int .i64 x0.1.2.2.1), (.int .i64 x0.1.2.2.2), (.int .i64 x0.2.1), v0_2, v0_3], R.blk b7 29 [(.slice none 0 0), (.slice none 0 0), (.int .i64 0), (.int .i64 0), (.int .i64 0), (.slice none 0 0), (.slice none 0 0)]]), ∀ a, St 38 [(1, (.pointer (some ⟨b2, 0, none⟩))), (2, (.pointer (some ⟨b7, 0, none⟩))), (14, (.bool y17))] a → K13 a w14 := by
  intro y17 w14 hF hB15 hS16
  subst hk18
  refine fun a ha => hK13 _ _ (W.cond rfl (fun h20 => ?_) (fun h20 => ?_)) a ha
  ·replace hF := ifP h20 hF
   refine W.seq fun K21 hK21 => W.region (wl_build (zs := [(.slice none 0 0), (.slice none 0 0), (.int .i64 0), (.int .i64 0), (.int .i64 0), (.slice none 0 0), (.slice none 0 0)]) (out := [(.slice none 0 0), (.slice none 0 0), (.int .i64 0), (.int .i64 0), (.int .i64 0), (.slice none 0 0), (.slice none 0 0)]) (vs := []) (css := []) tf_29 pl_29 rfl rfl rfl rfl rfl (wl_store_blk (i := 1) (vs := [(.slice none 0 0), (.slice none 0 0), (.int .i64 0), (.int .i64 0), (.int .i64 0), (.slice none 0 0), (.slice none 0 0)]) (cs' := [(.slice none 0 0), (.slice none 0 0), (.int .i64 0), (.int .i64 0), (.int .i64 0), (.slice none 0 0), (.slice none 0 0)]) tf_29 rfl rfl rfl rfl hB15 hS16 rfl rfl ⟨rfl, rfl, rfl, rfl, rfl, rfl, rfl, trivial⟩ rfl ?_))
   intro w22 hk25 hB23 hS24
   refine wl_assign rfl rfl (WL.nil (fun a ha => hK21 _ _ (W.ret ?_) a ha))
   have hS26 := hS24.push0 (r := R.own ty_66 [] (.slice none 0 0) []) rfl fun _ => .inl ⟨rfl, rfl, rfl⟩
   have hS27 := hS26.push0 (r := R.own ty_3 [] (.slice none 0 0) []) rfl fun _ => .inl ⟨rfl, rfl, rfl⟩
   have hS28 := hS27.push0 (r := R.own ty_3 [] (.slice none 0 0) []) rfl fun _ => .inl ⟨rfl, rfl, rfl⟩
   have hS29 := hS28.push0 (r := R.own ty_3 [] (.slice none 0 0) []) rfl fun _ => .inl ⟨rfl, rfl, rfl⟩
   have hr := Option.some.inj hF
   subst hr
   exact rets (vs := [(.agg #[(.slice none 0 0), (.slice none 0 0), (.int .i64 0), (.int .i64 0), (.int .i64 0), (.slice none 0 0), (.slice none 0 0)]), (.bool false)]) hQ rfl ⟨rv_cell (i := 1) tf_29 rfl hS24 rfl rfl rfl, rv_tmp rfl, trivial⟩ ⟨(.slice none 0 0), [], (.slice none 0 0), [], (.slice none 0 0), [], (.slice none 0 0), [], rfl, hB23, hS29.sel [3, 2, 1, 0] rfl⟩
  ·replace hF := ifN h20 hF
   refine W.skip fun a ha => hK12 _ _ (W.seq fun K30 hK30 => (W.region (wl_load_blk (i := 0) (vs := [v0_0, v0_1, (.int .i64 x0.1.2.2.1), (.int .i64 x0.1.2.2.2), (.int .i64 x0.2.1), v0_2, v0_3]) (v := (.agg #[v0_0, v0_1, (.int .i64 x0.1.2.2.1), (.int .i64 x0.1.2.2.2), (.int .i64 x0.2.1), v0_2, v0_3])) tf_29 rfl rfl hS16 rfl rfl rfl ?_))) a ha
   obtain ⟨u31, hu31, hF⟩ := bindE hF
   refine wl_call rfl Tryz.call29 (C_impl_copyMarch w14 x0 v0_0 (h0_0.ro hB15) v0_1 (h0_1.ro hB15) v0_2 (h0_2.ro hB15) v0_3 (h0_3.ro hB15) _ hu31) rfl ?_
   rintro _ w40 ⟨v32, F33, v34, F35, v36, F37, v38, F39, rfl, hb41, hM44⟩
   refine ⟨_, rfl, ?_⟩
   have hB42 := hB15.trans (hb41.mono hB15.size)
   have hS43 := hS16.join hb41 hM44 hB15.size
   refine wl_alloc (cs := [(.slice none 0 0), (.slice none 0 0), (.int .i64 0), (.int .i64 0), (.int .i64 0), (.slice none 0 0), (.slice none 0 0)]) tf_29 rfl rfl hB42 hS43 ?_
   intro b45 w46 hb47 hB48 hS49
   refine wl_store_blk (i := 0) (vs := [v32, v34, (.int .i64 u31.1.2.2.1), (.int .i64 u31.1.2.2.2), (.int .i64 u31.2.1), v36, v38]) (cs' := [v32, v34, (.int .i64 u31.1.2.2.1), (.int .i64 u31.1.2.2.2), (.int .i64 u31.2.1), v36, v38]) tf_29 rfl rfl rfl rfl hB48 hS49 rfl rfl ⟨(hS49.own_ro (i := 1) rfl).one, (hS49.own_ro (i := 2) rfl).one, rfl, rfl, rfl, (hS49.own_ro (i := 3) rfl).one, (hS49.own_ro (i := 4) rfl).one, trivial⟩ rfl ?_
   intro w50 hk53 hB51 hS52
   refine WL.nil fun a ha => hK30 _ _ (W.seq fun K54 hK54 => (W.region (wl_field (o := 4) (off' := 4) ff_29_1 rfl rfl rfl (wl_load_blk (i := 0) (vs := [(.int .i64 u31.2.1)]) (v := (.int .i64 u31.2.1)) tf_3 rfl rfl hS52 rfl rfl rfl (wl_add rfl rfl rfl (wl_field (o := 4) (off' := 4) ff_29_1 rfl rfl rfl (wl_store_blk (i := 0) (vs := [(.int .i64 (w64 (u31.2.1 + 1)))]) (cs' := [v32, v34, (.int .i64 u31.1.2.2.1), (.int .i64 u31.1.2.2.2), (.int .i64 (w64 (u31.2.1 + 1))), v36, v38]) tf_3 rfl rfl rfl rfl hB51 hS52 rfl rfl ⟨rfl, trivial⟩ rfl ?_))))))) a ha
   intro w55 hk58 hB56 hS57
   refine WL.nil fun a ha => hK54 _ _ (W.seq fun K59 hK59 => (W.seq fun K60 hK60 => (W.region (wl_field (o := 5) (off' := 5) ff_29_2 rfl rfl rfl (wl_load_blk (i := 0) (vs := [v36]) (v := v36) tf_25 rfl rfl hS57 rfl rfl rfl (wl_lenr (e := ty_3) (l := u31.2.2.1) Tryz.underlying25 rfl rfl (hS57.own_ro (i := 3) rfl) (wl_move rfl rfl (WL.nil (fun a ha => hK60 _ _ (W.block ?_) a ha))))))))) a ha
   refine W.loopk (fun m a w61 => ∃ (l64 : (List Int)) (y67 : Int) (v65 : Value) (F66 : List Nat), St 38 [(2, (.pointer (some ⟨b7, 0, none⟩))), (4, (.pointer (some ⟨b45, 0, none⟩))), (23, v36), (24, (.int .i64 (List.length u31.2.2.1 : Int))), (25, (.int .i64 y67))] a ∧ Below w0.heap.size w0 w61 ∧ Sep w0.heap.size w61 [R.blk b7 29 [(.slice none 0 0), (.slice none 0 0), (.int .i64 0), (.int .i64 0), (.int .i64 0), (.slice none 0 0), (.slice none 0 0)], R.own ty_66 F33 v32 u31.1.1, R.own ty_3 F35 v34 u31.1.2.1, R.own ty_3 F37 v36 u31.2.2.1, R.own ty_3 F66 v65 l64, R.blk b45 29 [v32, v34, (.int .i64 u31.1.2.2.1), (.int .i64 u31.1.2.2.2), (.int .i64 (w64 (u31.2.1 + 1))), v36, v65]] ∧ F_impl_BeatOnce_L1 u31 m l64 y67 = some r) FU ?_ ?_
   ·
    exact fun a ha => ⟨u31.2.2.2, 0, v38, F39, ha.sub ⟨rfl, rfl, rfl, rfl, rfl, trivial⟩, hB56, (hS57.sel [6, 1, 2, 3, 4, 0] rfl), hF⟩
   ·
    rintro m70 a w61 ⟨l64, y67, v65, F66, ha, hB62, hS63, hF⟩ KL69 hKL69
    refine W.at ?_ ha
    cases m70 with
    | zero => exact noneE hF
    | succ m70 =>
     obtain ⟨nx68, hnx68⟩ : ∃ k, k = F_impl_BeatOnce_L1 u31 m70 := ⟨_, rfl⟩
     rw [F_impl_BeatOnce_L1, ← hnx68] at hF
     refine W.seq fun K71 hK71 => W.region (wl_lss rfl rfl rfl (WL.nil (fun a ha => hK71 _ _ (W.seq fun K72 hK72 => (W.cond rfl (fun h73 => ?_) (fun h73 => ?_))) a ha)))
     ·replace hF := ifP h73 hF
      refine W.skip fun a ha => hK72 _ _ (W.seq fun K74 hK74 => (W.block (W.seq fun K75 hK75 => (W.region ?_)))) a ha
      obtain ⟨u76, hu76, hF⟩ := bindE hF
      refine wl_indexo (e := ty_3) (i := 3) Tryz.underlying25 rfl rfl rfl hS63 rfl hu76 ?_
      rintro p77 _ rfl hp78 ho79
      refine wl_load_p (vs := [(.int .i64 u76)]) (v := (.int .i64 u76)) tf_3 rfl rfl hp78 rfl rfl (wl_assign rfl rfl (WL.nil (fun a ha => hK75 _ _ (W.region (wl_field (o := 6) (off' := 6) ff_29_3 rfl rfl rfl (wl_load_blk (i := 5) (vs := [v65]) (v := v65) tf_25 rfl rfl hS63 rfl rfl rfl (wl_move rfl rfl ?_)))) a ha)))
      obtain ⟨u80, hu80, hF⟩ := bindE hF
      refine wl_indexo (e := ty_3) (i := 4) Tryz.underlying25 rfl rfl rfl hS63 rfl hu80 ?_
      rintro p81 _ rfl hp82 ho83
      refine wl_load_p (vs := [(.int .i64 u80)]) (v := (.int .i64 u80)) tf_3 rfl rfl hp82 rfl rfl (wl_add rfl rfl rfl ?_)
      obtain ⟨u84, hu84, hF⟩ := bindE hF
      refine wl_indexo (e := ty_3) (i := 4) Tryz.underlying25 rfl rfl rfl hS63 rfl hu84 ?_
      rintro p85 _ rfl hp86 ho87
      refine wl_storeo (i := 4) (o := 0) (vs := [(.int .i64 (w64 (u80 + 1)))]) (u' := (w64 (u80 + 1))) fl_3 tf_3 rfl rfl rfl rfl ho87 hu84 hB62 hS63 rfl rfl ⟨rfl, trivial⟩ rfl ?_
      intro w88 hk91 hB89 hS90
      refine WL.nil fun a ha => hK74 _ _ (W.region (wl_add rfl rfl rfl (wl_move rfl rfl (WL.nil ?_)))) a ha
      rw [hnx68] at hF
      exact fun a ha => hKL69 a _ m70 (Nat.lt_succ_self m70) ⟨(seti l64 u76 (w64 (u80 + 1))), (w64 (y67 + 1)), v65, F66, ha.sub ⟨rfl, rfl, rfl, rfl, rfl, trivial⟩, hB89, (hS90.sel [0, 1, 2, 3, 4, 5] rfl), hF⟩
     ·replace hF := ifN h73 hF
      refine W.exit fun a ha => hK59 _ _ (W.seq fun K92 hK92 => (W.region (wl_load_blk (i := 5) (vs := [v32, v34, (.int .i64 u31.1.2.2.1), (.int .i64 u31.1.2.2.2), (.int .i64 (w64 (u31.2.1 + 1))), v36, v65]) (v := (.agg #[v32, v34, (.int .i64 u31.1.2.2.1), (.int .i64 u31.1.2.2.2), (.int .i64 (w64 (u31.2.1 + 1))), v36, v65])) tf_29 rfl rfl hS63 rfl rfl rfl (wl_store_blk (i := 0) (vs := [v32, v34, (.int .i64 u31.1.2.2.1), (.int .i64 u31.1.2.2.2), (.int .i64 (w64 (u31.2.1 + 1))), v36, v65]) (cs' := [v32, v34, (.int .i64 u31.1.2.2.1), (.int .i64 u31.1.2.2.2), (.int .i64 (w64 (u31.2.1 + 1))), v36, v65]) tf_29 rfl rfl rfl rfl hB62 hS63 rfl rfl ⟨(hS63.own_ro (i := 1) rfl).one, (hS63.own_ro (i := 2) rfl).one, rfl, rfl, rfl, (hS63.own_ro (i := 3) rfl).one, (hS63.own_ro (i := 4) rfl).one, trivial⟩ rfl ?_)))) a ha
      intro w93 hk96 hB94 hS95
      refine wl_assign rfl rfl (WL.nil (fun a ha => hK92 _ _ (W.ret ?_) a ha))
      have hr := Option.some.inj hF
      subst hr
      exact rets (vs := [(.agg #[v32, v34, (.int .i64 u31.1.2.2.1), (.int .i64 u31.1.2.2.2), (.int .i64 (w64 (u31.2.1 + 1))), v36, v65]), (.bool true)]) hQ rfl ⟨rv_cell (i := 0) tf_29 rfl hS95 rfl rfl rfl, rv_tmp rfl, trivial⟩ ⟨v32, F33, v34, F35, v36, F37, v65, F66, rfl, hB94, hS95.sel [1, 2, 3, 4] rfl⟩
 refine W.region (wl_load_blk (i := 1) (vs := [v0_0, v0_1, (.int .i64 x0.1.2.2.1), (.int .i64 x0.1.2.2.2), (.int .i64 x0.2.1), v0_2, v0_3]) (v := (.agg #[v0_0, v0_1, (.int .i64 x0.1.2.2.1), (.int .i64 x0.1.2.2.2), (.int .i64 x0.2.1), v0_2, v0_3])) tf_29 rfl rfl hS11 rfl rfl rfl ?_)
 obtain ⟨u97, hu97, hF⟩ := bindE hF
 refine wl_call rfl Tryz.call9 (C_impl_IsMarch w8 x0 v0_0 (h0_0.ro hB10) v0_1 (h0_1.ro hB10) v0_2 (h0_2.ro hB10) v0_3 (h0_3.ro hB10) _ hu97) rfl ?_
 rintro _ w98 ⟨rfl, hb99⟩
 refine ⟨_, rfl, ?_⟩
 have hB100 := hB10.trans (hb99.mono hB10.size)
 have hS101 := hS11.below hb99
 refine wl_not rfl rfl (wl_move rfl rfl ?_)
 rcases bE (!u97) with h103 | h103
 ·replace hF := ifP h103 hF
  refine wl_off rfl rfl rfl h103 (wl_off rfl rfl rfl h103 (wl_off rfl rfl rfl h103 (wl_pick_t rfl rfl h103 rfl (WL.nil ?_))))
  exact fun a ha => hJ19 (true) _ hF hB100 (hS101.sel [1, 0] rfl) a (ha.sub ⟨rfl, rfl, rfl, trivial⟩)
 ·replace hF := ifN h103 hF
  refine wl_on rfl rfl h103 (wl_field (o := 4) (off' := 4) ff_29_1 rfl rfl rfl (wl_on rfl rfl h103 (wl_load_blk (i := 1) (vs := [(.int .i64 x0.2.1)]) (v := (.int .i64 x0.2.1)) tf_3 rfl rfl hS101 rfl rfl rfl (wl_on rfl rfl h103 (wl_eql rfl rfl rfl (wl_pick_f rfl rfl h103 rfl (WL.nil ?_)))))))
  exact fun a ha => hJ19 ((x0.2.1 == 1000)) _ hF hB100 (hS101.sel [1, 0] rfl) a (ha.sub ⟨rfl, rfl, rfl, trivial⟩)
theorem C_impl_hasPerformer (w0 : World) (x0 : (((List (List (Int × Int))) × (List Int) × Int × Int) × Int × (List Int) × (List Int))) (v0_0 : Value) (h0_0 : rdS ty_66 (· < w0.heap.size) w0 v0_0 x0.1.1) (v0_1 : Value) (h0_1 : rdS ty_3 (· < w0.heap.size) w0 v0_1 x0.1.2.1) (v0_2 : Value) (h0_2 : rdS ty_3 (· < w0.heap.size) w0 v0_2 x0.2.2.1) (v0_3 : Value) (h0_3 : rdS ty_3 (· < w0.heap.size) w0 v0_3 x0.2.2.2) (x1 : Int) (r : Bool) (hF : F_impl_hasPerformer x0 x1 = some r) :
  Calls Tryz.prog 41 [(.agg #[v0_0, v0_1, (.int .i64 x0.1.2.2.1), (.int .i64 x0.1.2.2.2), (.int .i64 x0.2.1), v0_2, v0_3]), (.int .i64 x1)].toArray w0 fun e w' => e = .returned (.bool r) ∧ Below w0.heap.size w0 w' := by
 refine calls_mk' Tryz.func41 rfl Tryz.ntmps41 rfl rfl fun Q hQ hP => ?_
 have hB : Below w0.heap.size w0 w0 := Below.refl _ _
 have hS : Sep w0.heap.size w0 [] := Sep.nil _ _
 unfold F_impl_hasPerformer at hF
 refine W.seq fun K1 hK1 => W.region (wl_box (cs := [v0_0, v0_1, (.int .i64 x0.1.2.2.1), (.int .i64 x0.1.2.2.2), (.int .i64 x0.2.1), v0_2, v0_3]) rfl rfl rfl hB hS ?_)
 intro b2 w3 hb4 hB5 hS6
 refine wl_assign rfl rfl (WL.nil (fun a ha => hK1 _ _ (W.seq fun K7 hK7 => ?_) a ha))
 obtain ⟨k12, hk12, hF⟩ := jE1 hF
 have hJ13 : ∀ (y11 : Bool) (w8 : World) (_ : k12 y11 = some r) (_ : Below w0.heap.size w0 w8) (_ : Sep w0.heap.size w8 []), ∀ a, St 15 [(4, (.bool y11))] a → K7 a w8 := by
  intro y11 w8 hF hB9 hS10
  subst hk12
  refine fun a ha => hK7 _ _ (W.ret ?_) a ha
  have hr := Option.some.inj hF
  subst hr
  exact rets (vs := [(.bool y11)]) hQ rfl ⟨rv_tmp rfl, trivial⟩ ⟨rfl, hB9⟩
 refine W.region (wl_load_blk (i := 0) (vs := [v0_0, v0_1, (.int .i64 x0.1.2.2.1), (.int .i64 x0.1.2.2.2), (.int .i64 x0.2.1), v0_2, v0_3]) (v := (.agg #[v0_0, v0_1, (.int .i64 x0.1.2.2.1), (.int .i64 x0.1.2.2.2), (.int .i64 x0.2.1), v0_2, v0_3])) tf_29 rfl rfl hS6 rfl rfl rfl ?_)
 obtain ⟨u14, hu14, hF⟩ := bindE hF
 refine wl_call rfl Tryz.call9 (C_impl_IsMarch w3 x0 v0_0 (h0_0.ro hB5) v0_1 (h0_1.ro hB5) v0_2 (h0_2.ro hB5) v0_3 (h0_3.ro hB5) _ hu14) rfl ?_
 rintro _ w15 ⟨rfl, hb16⟩
 refine ⟨_, rfl, ?_⟩
 have hB17 := hB5.trans (hb16.mono hB5.size)
 have hS18 := hS6.below hb16
 refine wl_move rfl rfl ?_
 rcases bE u14 with h20 | h20
 ·replace hF := ifP h20 hF
  refine wl_on rfl rfl h20 (wl_move rfl rfl (wl_on rfl rfl h20 (wl_field (o := 6) (off' := 6) ff_29_3 rfl rfl rfl (wl_on rfl rfl h20 (wl_load_blk (i := 0) (vs := [v0_3]) (v := v0_3) tf_25 rfl rfl hS18 rfl rfl rfl (wl_on rfl rfl h20 (wl_lenr (e := ty_3) (l := x0.2.2.2) Tryz.underlying25 rfl rfl h0_3 (wl_on rfl rfl h20 (wl_sub rfl rfl rfl (wl_on rfl rfl h20 ?_))))))))))
  obtain ⟨u21, hu21, hF⟩ := bindE hF
  refine wl_call rfl Tryz.call37 (C_impl_within w15 x1 0 (w64 ((List.length x0.2.2.2 : Int) - 1)) _ hu21) rfl ?_
  rintro _ w22 ⟨rfl, hb23⟩
  refine ⟨_, rfl, ?_⟩
  have hB24 := hB17.trans (hb23.mono hB17.size)
  have hS25 := hS18.below hb23
  refine wl_pick_t rfl rfl h20 rfl (wl_assign rfl rfl (WL.nil ?_))
  exact fun a ha => hJ13 (u21) _ hF hB24 (hS25.sel [] rfl) a (ha.sub ⟨rfl, trivial⟩)
 ·replace hF := ifN h20 hF
  refine wl_off rfl rfl rfl h20 (wl_off rfl rfl rfl h20 (wl_off rfl rfl rfl h20 (wl_off rfl rfl rfl h20 (wl_off rfl rfl rfl h20 (wl_off rfl rfl rfl h20 (wl_pick_f rfl rfl h20 rfl (wl_assign rfl rfl (WL.nil ?_))))))))
  exact fun a ha => hJ13 (false) _ hF hB17 (hS18.sel [] rfl) a (ha.sub ⟨rfl, trivial⟩)
theorem C_slices_Index_int_int (w0 : World) (x0 : (List Int)) (v0_0 : Value) (h0_0 : rdS ty_3 (· < w0.heap.size) w0 v0_0 x0) (x1 : Int) (r : Int) (hF : F_slices_Index_int_int x0 x1 = some r) :
  Calls Tryz.prog 47 [v0_0, (.int .i64 x1)].toArray w0 fun e w' => e = .returned (.int .i64 r) ∧ Below w0.heap.size w0 w' := by
 refine calls_mk' Tryz.func47 rfl Tryz.ntmps47 rfl rfl fun Q hQ hP => ?_
 have hB : Below w0.heap.size w0 w0 := Below.refl _ _
 have hS : Sep w0.heap.size w0 [] := Sep.nil _ _
 unfold F_slices_Index_int_int at hF
 refine W.seq fun K1 hK1 => W.region (wl_assign rfl rfl (WL.nil (fun a ha => hK1 _ _ (W.seq fun K2 hK2 => (W.seq fun K3 hK3 => (W.region (wl_move rfl rfl (wl_lenr (e := ty_3) (l := x0) Tryz.underlying25 rfl rfl h0_0 (wl_move rfl rfl (WL.nil (fun a ha => hK3 _ _ (W.block ?_) a ha)))))))) a ha)))
 refine W.loopk (fun m a w4 => ∃ (y7 : Int), St 19 [(0, v0_0), (1, (.int .i64 x1)), (7, (.int .i64 (List.length x0 : Int))), (8, (.int .i64 y7))] a ∧ Below w0.heap.size w0 w4 ∧ Sep w0.heap.size w4 [] ∧ F_slices_Index_int_int_L1 x0 x1 m y7 = some r) FU ?_ ?_
 ·
  exact fun a ha => ⟨0, ha.sub ⟨rfl, rfl, rfl, rfl, trivial⟩, hB, (hS.sel [] rfl), hF⟩
 ·
  rintro m10 a w4 ⟨y7, ha, hB5, hS6, hF⟩ KL9 hKL9
  refine W.at ?_ ha
  cases m10 with
  | zero => exact noneE hF
  | succ m10 =>
   obtain ⟨nx8, hnx8⟩ : ∃ k, k = F_slices_Index_int_int_L1 x0 x1 m10 := ⟨_, rfl⟩
   rw [F_slices_Index_int_int_L1, ← hnx8] at hF
   refine W.seq fun K11 hK11 => W.region (wl_lss rfl rfl rfl (WL.nil (fun a ha => hK11 _ _ (W.seq fun K12 hK12 => (W.cond rfl (fun h13 => ?_) (fun h13 => ?_))) a ha)))
   ·replace hF := ifP h13 hF
    refine W.skip fun a ha => hK12 _ _ (W.seq fun K14 hK14 => (W.block (W.seq fun K15 hK15 => (W.region (wl_move rfl rfl (wl_assign rfl rfl (WL.nil (fun a ha => hK15 _ _ (W.seq fun K16 hK16 => (W.region (wl_move rfl rfl (wl_move rfl rfl ?_)))) a ha)))))))) a ha
    refine wl_move rfl rfl ?_
    obtain ⟨u17, hu17, hF⟩ := bindE hF
    refine wl_index (e := ty_3) Tryz.underlying25 rfl rfl rfl h0_0 hu17 ?_
    rintro p18 _ rfl hp19
    refine wl_load_p (vs := [(.int .i64 u17)]) (v := (.int .i64 u17)) tf_3 rfl rfl (hp19.ro hB5) rfl rfl (wl_eql rfl rfl rfl (WL.nil (fun a ha => hK16 _ _ (W.cond rfl (fun h20 => ?_) (fun h20 => ?_)) a ha)))
    ·replace hF := ifP h20 hF
     refine W.seq fun K21 hK21 => W.region (wl_move rfl rfl (wl_assign rfl rfl (WL.nil (fun a ha => hK21 _ _ (W.ret ?_) a ha))))
     have hr := Option.some.inj hF
     subst hr
     exact rets (vs := [(.int .i64 y7)]) hQ rfl ⟨rv_tmp rfl, trivial⟩ ⟨rfl, hB5⟩
    ·replace hF := ifN h20 hF
     refine W.skip fun a ha => hK14 _ _ (W.region (wl_add rfl rfl rfl (wl_move rfl rfl (WL.nil ?_)))) a ha
     rw [hnx8] at hF
     exact fun a ha => hKL9 a _ m10 (Nat.lt_succ_self m10) ⟨(w64 (y7 + 1)), ha.sub ⟨rfl, rfl, rfl, rfl, trivial⟩, hB5, (hS6.sel [] rfl), hF⟩
   ·replace hF := ifN h13 hF
    refine W.exit fun a ha => hK2 _ _ (W.seq fun K22 hK22 => (W.region (wl_assign rfl rfl (WL.nil (fun a ha => hK22 _ _ (W.ret ?_) a ha))))) a ha
    have hr := Option.some.inj hF
    subst hr
    exact rets (vs := [(.int .i64 (-1))]) hQ rfl ⟨rv_tmp rfl, trivial⟩ ⟨rfl, hB5⟩
theorem C_slices_Contains_int_int (w0 : World) (x0 : (List Int)) (v0_0 : Value) (h0_0 : rdS ty_3 (· < w0.heap.size) w0 v0_0 x0) (x1 : Int) (r : Bool) (hF : F_slices_Contains_int_int x0 x1 = some r) :
  Calls Tryz.prog 45 [v0_0, (.int .i64 x1)].toArray w0 fun e w' => e = .returned (.bool r) ∧ Below w0.heap.size w0 w' := by
 refine calls_mk' Tryz.func45 rfl Tryz.ntmps45 rfl rfl fun Q hQ hP => ?_
 have hB : Below w0.heap.size w0 w0 := Below.refl _ _
 unfold F_slices_Contains_int_int at hF
 refine W.seq fun K1 hK1 => W.region (wl_assign rfl rfl (WL.nil (fun a ha => hK1 _ _ (W.seq fun K2 hK2 => (W.region (wl_move rfl rfl (wl_move rfl rfl ?_)))) a ha)))
 obtain ⟨u3, hu3, hF⟩ := bindE hF
 refine wl_call rfl Tryz.call47 (C_slices_Index_int_int w0 x0 v0_0 (h0_0.ro hB) x1 _ hu3) rfl ?_
 rintro _ w4 ⟨rfl, hb5⟩
 refine ⟨_, rfl, ?_⟩
 have hB6 := hB.trans (hb5.mono hB.size)
 refine wl_geq rfl rfl rfl (wl_assign rfl rfl (WL.nil (fun a ha => hK2 _ _ (W.ret ?_) a ha)))
 have hr := Option.some.inj hF
 subst hr
 exact rets (vs := [(.bool (decide (0 ≤ u3)))]) hQ rfl ⟨rv_tmp rfl, trivial⟩ ⟨rfl, hB6⟩
theorem C_bits_Len64 (w0 : World) (x0 : Int) (r : Int) (hF : F_bits_Len64 x0 = some r) :
  Calls Tryz.prog 101 [(.int .u64 x0)].toArray w0 fun e w' => e = .returned (.int .i64 r) ∧ Below w0.heap.size w0 w' := by
 refine calls_mk' Tryz.func101 rfl Tryz.ntmps101 rfl rfl fun Q hQ hP => ?_
 have hB : Below w0.heap.size w0 w0 := Below.refl _ _
 have hS : Sep w0.heap.size w0 [] := Sep.nil _ _
 unfold F_bits_Len64 at hF
 refine W.seq fun K1 hK1 => W.region (wl_assign rfl rfl (WL.nil (fun a ha => hK1 _ _ (W.seq fun K2 hK2 => ?_) a ha)))
 obtain ⟨k8, hk8, hF⟩ := jE2 hF
 have hJ9 : ∀ (y6 : Int) (y7 : Int) (w3 : World) (_ : k8 y6 y7 = some r) (_ : Below w0.heap.size w0 w3) (_ : Sep w0.heap.size w3 []), ∀ a, St 25 [(0, (.int .u64 y6)), (2, (.int .i64 y7))] a → K2 a w3 := by
  intro y6 y7 w3 hF hB4 hS5
  subst hk8
  refine fun a ha => hK2 _ _ (W.seq fun K10 hK10 => ?_) a ha
  obtain ⟨k16, hk16, hF⟩ := jE2 hF
  have hJ17 : ∀ (y14 : Int) (y15 : Int) (w11 : World) (_ : k16 y14 y15 = some r) (_ : Below w0.heap.size w0 w11) (_ : Sep w0.heap.size w11 []), ∀ a, St 25 [(0, (.int .u64 y14)), (2, (.int .i64 y15))] a → K10 a w11 := by
   intro y14 y15 w11 hF hB12 hS13
   subst hk16
   refine fun a ha => hK10 _ _ (W.seq fun K18 hK18 => ?_) a ha
   obtain ⟨k24, hk24, hF⟩ := jE2 hF
   have hJ25 : ∀ (y22 : Int) (y23 : Int) (w19 : World) (_ : k24 y22 y23 = some r) (_ : Below w0.heap.size w0 w19) (_ : Sep w0.heap.size w19 []), ∀ a, St 25 [(0, (.int .u64 y22)), (2, (.int .i64 y23))] a → K18 a w19 := by
    intro y22 y23 w19 hF hB20 hS21
    subst hk24
    refine fun a ha => hK18 _ _ (W.seq fun K26 hK26 => (W.region (wl_move rfl rfl (wl_move rfl rfl (wl_convi Tryz.underlying51 Tryz.underlying5 rfl rfl ?_))))) a ha
    obtain ⟨u27, hu27, hF⟩ := bindE hF
    refine wl_strindex Tryz.underlying9 rfl rfl rfl hu27 (wl_convi Tryz.underlying5 Tryz.underlying3 rfl rfl (wl_add rfl rfl rfl (wl_assign rfl rfl (WL.nil (fun a ha => hK26 _ _ (W.ret ?_) a ha)))))
    have hr := Option.some.inj hF
    subst hr
    exact rets (vs := [(.int .i64 (w64 (y23 + (w64 (UInt8.toNat u27 : Int)))))]) hQ rfl ⟨rv_tmp rfl, trivial⟩ ⟨rfl, hB20⟩
   refine W.seq fun K28 hK28 => W.region (wl_move rfl rfl (wl_geq rfl rfl rfl (WL.nil (fun a ha => hK28 _ _ (W.cond rfl (fun h29 => ?_) (fun h29 => ?_)) a ha))))
   ·replace hF := ifP h29 hF
    refine W.seq fun K30 hK30 => W.region (wl_move rfl rfl (wl_shr rfl rfl rfl rfl (wl_assign rfl rfl (WL.nil (fun a ha => hK30 _ _ (W.region (wl_move rfl rfl (wl_add rfl rfl rfl (wl_assign rfl rfl (WL.nil ?_))))) a ha)))))
    exact fun a ha => hJ25 ((shrK .u64 y14 8)) ((w64 (y15 + 8))) _ hF hB12 (hS13.sel [] rfl) a (ha.sub ⟨rfl, rfl, trivial⟩)
   ·replace hF := ifN h29 hF
    refine W.skip ?_
    exact fun a ha => hJ25 (y14) (y15) _ hF hB12 (hS13.sel [] rfl) a (ha.sub ⟨rfl, rfl, trivial⟩)
  refine W.seq fun K31 hK31 => W.region (wl_move rfl rfl (wl_geq rfl rfl rfl (WL.nil (fun a ha => hK31 _ _ (W.cond rfl (fun h32 => ?_) (fun h32 => ?_)) a ha))))
  ·replace hF := ifP h32 hF
   refine W.seq fun K33 hK33 => W.region (wl_move rfl rfl (wl_shr rfl rfl rfl rfl (wl_assign rfl rfl (WL.nil (fun a ha => hK33 _ _ (W.region (wl_move rfl rfl (wl_add rfl rfl rfl (wl_assign rfl rfl (WL.nil ?_))))) a ha)))))
   exact fun a ha => hJ17 ((shrK .u64 y6 16)) ((w64 (y7 + 16))) _ hF hB4 (hS5.sel [] rfl) a (ha.sub ⟨rfl, rfl, trivial⟩)
  ·replace hF := ifN h32 hF
   refine W.skip ?_
   exact fun a ha => hJ17 (y6) (y7) _ hF hB4 (hS5.sel [] rfl) a (ha.sub ⟨rfl, rfl, trivial⟩)
 refine W.seq fun K34 hK34 => W.region (wl_move rfl rfl (wl_geq rfl rfl rfl (WL.nil (fun a ha => hK34 _ _ (W.cond rfl (fun h35 => ?_) (fun h35 => ?_)) a ha))))
 ·replace hF := ifP h35 hF
  refine W.seq fun K36 hK36 => W.region (wl_move rfl rfl (wl_shr rfl rfl rfl rfl (wl_assign rfl rfl (WL.nil (fun a ha => hK36 _ _ (W.region (wl_assign rfl rfl (WL.nil ?_))) a ha)))))
  exact fun a ha => hJ9 ((shrK .u64 x0 32)) (32) _ hF hB (hS.sel [] rfl) a (ha.sub ⟨rfl, rfl, trivial⟩)
 ·replace hF := ifN h35 hF
  refine W.skip ?_
  exact fun a ha => hJ9 (x0) (0) _ hF hB (hS.sel [] rfl) a (ha.sub ⟨rfl, rfl, trivial⟩)
theorem C_bits_Len (w0 : World) (x0 : Int) (r : Int) (hF : F_bits_Len x0 = some r) :
  Calls Tryz.prog 73 [(.int .u64 x0)].toArray w0 fun e w' => e = .returned (.int .i64 r) ∧ Below w0.heap.size w0 w' := by
 refine calls_mk' Tryz.func73 rfl Tryz.ntmps73 rfl rfl fun Q hQ hP => ?_
 have hB : Below w0.heap.size w0 w0 := Below.refl _ _
 unfold F_bits_Len at hF
 refine W.seq fun K1 hK1 => W.region (wl_assign rfl rfl (WL.nil (fun a ha => hK1 _ _ (W.seq fun K2 hK2 => (W.cond_f rfl rfl (W.skip (fun a ha => hK2 _ _ (W.seq fun K3 hK3 => (W.region (wl_move rfl rfl ?_))) a ha)))) a ha)))
 obtain ⟨u4, hu4, hF⟩ := bindE hF
 refine wl_call rfl Tryz.call101 (C_bits_Len64 w0 x0 _ hu4) rfl ?_
 rintro _ w5 ⟨rfl, hb6⟩
 refine ⟨_, rfl, ?_⟩
 have hB7 := hB.trans (hb6.mono hB.size)
 refine wl_assign rfl rfl (WL.nil (fun a ha => hK3 _ _ (W.ret ?_) a ha))
 have hr := Option.some.inj hF
 subst hr
 exact rets (vs := [(.int .i64 u4)]) hQ rfl ⟨rv_tmp rfl, trivial⟩ ⟨rfl, hB7⟩
theorem C_cmp_isNaN_int (w0 : World) (x0 : Int) (r : Bool) (hF : F_cmp_isNaN_int x0 = some r) :
  Calls Tryz.prog 117 [(.int .i64 x0)].toArray w0 fun e w' => e = .returned (.bool r) ∧ Below w0.heap.size w0 w' := by
 refine calls_mk' Tryz.func117 rfl Tryz.ntmps117 rfl rfl fun Q hQ hP => ?_
 have hB : Below w0.heap.size w0 w0 := Below.refl _ _
 unfold F_cmp_isNaN_int at hF
 refine W.seq fun K1 hK1 => W.region (wl_assign rfl rfl (WL.nil (fun a ha => hK1 _ _ (W.seq fun K2 hK2 => (W.region (wl_move rfl rfl (wl_move rfl rfl (wl_neq rfl rfl rfl (wl_assign rfl rfl (WL.nil (fun a ha => hK2 _ _ (W.ret ?_) a ha)))))))) a ha)))
 have hr := Option.some.inj hF
 subst hr
 exact rets (vs := [(.bool (x0 != x0))]) hQ rfl ⟨rv_tmp rfl, trivial⟩ ⟨rfl, hB⟩
theorem C_cmp_Less_int (w0 : World) (x0 : Int) (x1 : Int) (r : Bool) (hF : F_cmp_Less_int x0 x1 = some r) :
  Calls Tryz.prog 97 [(.int .i64 x0), (.int .i64 x1)].toArray w0 fun e w' => e = .returned (.bool r) ∧ Below w0.heap.size w0 w' := by
 refine calls_mk' Tryz.func97 rfl Tryz.ntmps97 rfl rfl fun Q hQ hP => ?_
 have hB : Below w0.heap.size w0 w0 := Below.refl _ _
 have hS : Sep w0.heap.size w0 [] := Sep.nil _ _
 unfold F_cmp_Less_int at hF
 refine W.seq fun K1 hK1 => W.region (wl_assign rfl rfl (WL.nil (fun a ha => hK1 _ _ (W.seq fun K2 hK2 => ?_) a ha)))
 obtain ⟨k7, hk7, hF⟩ := jE1 hF
 have hJ8 : ∀ (y6 : Bool) (w3 : World) (_ : k7 y6 = some r) (_ : Below w0.heap.size w0 w3) (_ : Sep w0.heap.size w3 []), ∀ a, St 17 [(4, (.bool y6))] a → K2 a w3 := by
  intro y6 w3 hF hB4 hS5
  subst hk7
  refine fun a ha => hK2 _ _ (W.ret ?_) a ha
  have hr := Option.some.inj hF
  subst hr
  exact rets (vs := [(.bool y6)]) hQ rfl ⟨rv_tmp rfl, trivial⟩ ⟨rfl, hB4⟩
 refine W.region (wl_move rfl rfl ?_)
 obtain ⟨u9, hu9, hF⟩ := bindE hF
 refine wl_call rfl Tryz.call117 (C_cmp_isNaN_int w0 x0 _ hu9) rfl ?_
 rintro _ w10 ⟨rfl, hb11⟩
 refine ⟨_, rfl, ?_⟩
 have hB12 := hB.trans (hb11.mono hB.size)
 have hS13 := hS.below hb11
 refine wl_move rfl rfl ?_
 rcases bE u9 with h15 | h15
 ·replace hF := ifP h15 hF
  refine wl_on rfl rfl h15 (wl_move rfl rfl (wl_on rfl rfl h15 ?_))
  obtain ⟨u16, hu16, hF⟩ := bindE hF
  refine wl_call rfl Tryz.call117 (C_cmp_isNaN_int w10 x1 _ hu16) rfl ?_
  rintro _ w17 ⟨rfl, hb18⟩
  refine ⟨_, rfl, ?_⟩
  have hB19 := hB12.trans (hb18.mono hB12.size)
  have hS20 := hS13.below hb18
  refine wl_on rfl rfl h15 (wl_not rfl rfl (wl_pick_t rfl rfl h15 rfl (wl_move rfl rfl ?_)))
  rcases bE (!u16) with h22 | h22
  ·replace hF := ifP h22 hF
   refine wl_off rfl rfl rfl h22 (wl_off rfl rfl rfl h22 (wl_off rfl rfl rfl h22 (wl_pick_t rfl rfl h22 rfl (wl_assign rfl rfl (WL.nil ?_)))))
   exact fun a ha => hJ8 (true) _ hF hB19 (hS20.sel [] rfl) a (ha.sub ⟨rfl, trivial⟩)
  ·replace hF := ifN h22 hF
   refine wl_on rfl rfl h22 (wl_move rfl rfl (wl_on rfl rfl h22 (wl_move rfl rfl (wl_on rfl rfl h22 (wl_lss rfl rfl rfl (wl_pick_f rfl rfl h22 rfl (wl_assign rfl rfl (WL.nil ?_))))))))
   exact fun a ha => hJ8 ((decide (x0 < x1))) _ hF hB19 (hS20.sel [] rfl) a (ha.sub ⟨rfl, trivial⟩)
 ·replace hF := ifN h15 hF
  refine wl_off rfl rfl rfl h15 (wl_off rfl rfl rfl h15 (wl_off rfl rfl rfl h15 (wl_pick_f rfl rfl h15 rfl (wl_move rfl rfl (wl_on rfl rfl rfl (wl_move rfl rfl (wl_on rfl rfl rfl (wl_move rfl rfl (wl_on rfl rfl rfl (wl_lss rfl rfl rfl (wl_pick_f rfl rfl rfl rfl (wl_assign rfl rfl (WL.nil ?_)))))))))))))
  exact fun a ha => hJ8 ((decide (x0 < x1))) _ hF hB12 (hS13.sel [] rfl) a (ha.sub ⟨rfl, trivial⟩)
theorem C_slices_insertionSortOrdered_int__mut (w0 : World) (x0 : (List Int)) (v0_0 : Value) (B0_0 : List Nat) (x1 : Int) (x2 : Int) (hS0 : Sep 0 w0 [R.own ty_3 B0_0 v0_0 x0]) (r : (List Int)) (hF : F_slices_insertionSortOrdered_int__mut x0 x1 x2 = some r) :
  Calls Tryz.prog 91 [v0_0, (.int .i64 x1), (.int .i64 x2)].toArray w0 fun e w' => e = .returned (.tuple #[]) ∧ Below 0 (wE w0) w' ∧ Sep 0 w' [R.rest w0 (fps [R.own ty_3 B0_0 v0_0 x0]), R.own ty_3 B0_0 v0_0 r] := by
 refine calls_mkn' Tryz.func91 rfl Tryz.ntmps91 rfl rfl fun Q hQn hQ hP => ?_
 have hB : Below (wE w0).heap.size (wE w0) w0 := wE_below w0
 have hS : Sep (wE w0).heap.size w0 [R.rest w0 (fps [R.own ty_3 B0_0 v0_0 x0]), R.own ty_3 B0_0 v0_0 x0] := hS0.rest
 unfold F_slices_insertionSortOrdered_int__mut at hF
 refine W.seq fun K1 hK1 => W.region (wl_move rfl rfl (wl_add rfl rfl rfl (wl_assign rfl rfl (WL.nil (fun a ha => hK1 _ _ (W.block (W.loopk (fun m a w2 => ∃ (l5 : (List Int)) (y6 : Int), St 49 [(0, v0_0), (1, (.int .i64 x1)), (2, (.int .i64 x2)), (6, (.int .i64 y6))] a ∧ Below (wE w0).heap.size (wE w0) w2 ∧ Sep (wE w0).heap.size w2 [R.rest w0 (fps [R.own ty_3 B0_0 v0_0 x0]), R.own ty_3 B0_0 v0_0 l5] ∧ F_slices_insertionSortOrdered_int__mut_L1 x2 x1 m l5 y6 = some r) FU ?_ ?_)) a ha)))))
 ·
  exact fun a ha => ⟨x0, (w64 (x1 + 1)), ha.sub ⟨rfl, rfl, rfl, rfl, trivial⟩, hB, (hS.sel [0, 1] rfl), hF⟩
 ·
  rintro m9 a w2 ⟨l5, y6, ha, hB3, hS4, hF⟩ KL8 hKL8
  refine W.at ?_ ha
  cases m9 with
  | zero => exact noneE hF
  | succ m9 =>
   obtain ⟨nx7, hnx7⟩ : ∃ k, k = F_slices_insertionSortOrdered_int__mut_L1 x2 x1 m9 := ⟨_, rfl⟩
   rw [F_slices_insertionSortOrdered_int__mut_L1, ← hnx7] at hF
   refine W.seq fun K10 hK10 => W.seq fun K11 hK11 => W.region (wl_move rfl rfl (wl_move rfl rfl (wl_lss rfl rfl rfl (WL.nil (fun a ha => hK11 _ _ (W.cond rfl (fun h12 => ?_) (fun h12 => ?_)) a ha)))))
   ·replace hF := ifP h12 hF
    refine W.skip fun a ha => hK10 _ _ (W.seq fun K13 hK13 => (W.block (W.seq fun K14 hK14 => (W.region (wl_move rfl rfl (wl_assign rfl rfl (WL.nil (fun a ha => hK14 _ _ (W.block (W.loopk (fun m a w15 => ∃ (l18 : (List Int)) (y19 : Int), St 49 [(0, v0_0), (1, (.int .i64 x1)), (2, (.int .i64 x2)), (6, (.int .i64 y6)), (7, (.int .i64 y19))] a ∧ Below (wE w0).heap.size (wE w0) w15 ∧ Sep (wE w0).heap.size w15 [R.rest w0 (fps [R.own ty_3 B0_0 v0_0 x0]), R.own ty_3 B0_0 v0_0 l18] ∧ F_slices_insertionSortOrdered_int__mut_L2 nx7 y6 x1 m l18 y19 = some r) FU ?_ ?_)) a ha)))))))) a ha
    ·
     exact fun a ha => ⟨l5, y6, ha.sub ⟨rfl, rfl, rfl, rfl, rfl, trivial⟩, hB3, (hS4.sel [0, 1] rfl), hF⟩
    ·
     rintro m22 a w15 ⟨l18, y19, ha, hB16, hS17, hF⟩ KL21 hKL21
     refine W.at ?_ ha
     cases m22 with
     | zero => exact noneE hF
     | succ m22 =>
      obtain ⟨nx20, hnx20⟩ : ∃ k, k = F_slices_insertionSortOrdered_int__mut_L2 nx7 y6 x1 m22 := ⟨_, rfl⟩
      rw [F_slices_insertionSortOrdered_int__mut_L2, ← hnx20] at hF
      refine W.seq fun K23 hK23 => W.seq fun K24 hK24 => ?_
      obtain ⟨k29, hk29, hF⟩ := jE1 hF
      have hJ30 : ∀ (y28 : Bool) (w25 : World) (_ : k29 y28 = some r) (_ : Below (wE w0).heap.size (wE w0) w25) (_ : Sep (wE w0).heap.size w25 [R.rest w0 (fps [R.own ty_3 B0_0 v0_0 x0]), R.own ty_3 B0_0 v0_0 l18]), ∀ a, St 49 [(0, v0_0), (1, (.int .i64 x1)), (2, (.int .i64 x2)), (6, (.int .i64 y6)), (7, (.int .i64 y19)), (30, (.bool y28))] a → K24 a w25 := by
       intro y28 w25 hF hB26 hS27
       subst hk29
       refine fun a ha => hK24 _ _ (W.cond rfl (fun h31 => ?_) (fun h31 => ?_)) a ha
       ·replace hF := ifP h31 hF
        refine W.skip fun a ha => hK23 _ _ (W.seq fun K32 hK32 => ?_) a ha
        obtain ⟨k37, hk37, hF⟩ := jE1 hF
        have hJ38 : ∀ (l36 : (List Int)) (w33 : World) (_ : k37 l36 = some r) (_ : Below (wE w0).heap.size (wE w0) w33) (_ : Sep (wE w0).heap.size w33 [R.rest w0 (fps [R.own ty_3 B0_0 v0_0 x0]), R.own ty_3 B0_0 v0_0 l36]), ∀ a, St 49 [(0, v0_0), (1, (.int .i64 x1)), (2, (.int .i64 x2)), (6, (.int .i64 y6)), (7, (.int .i64 y19))] a → K32 a w33 := by
         intro l36 w33 hF hB34 hS35
         subst hk37
         refine fun a ha => hK32 _ _ (W.region (wl_move rfl rfl (wl_sub rfl rfl rfl (wl_assign rfl rfl (WL.nil ?_))))) a ha
         rw [hnx20] at hF
         exact fun a ha => hKL21 a _ m22 (Nat.lt_succ_self m22) ⟨l36, (w64 (y19 - 1)), ha.sub ⟨rfl, rfl, rfl, rfl, rfl, trivial⟩, hB34, (hS35.sel [0, 1] rfl), hF⟩
        refine W.block (W.regionH mixed_ B0_0 hB26 hS27 ?_)
        intro w39 hb40 hB41 hS42
        have hSW43 := KeepX.refl w39 B0_0
        refine WH.tk 0 rfl hP hSW43 (pr_move rfl rfl (WH.tk 1 rfl hP hSW43 (pr_move rfl rfl (WH.tk 2 rfl hP hSW43 (pr_move rfl rfl (WH.tk 3 rfl hP hSW43 (pr_move rfl rfl (WH.tk 4 rfl hP hSW43 (pr_sub rfl rfl rfl (WH.tk 5 rfl hP hSW43 (pr_move rfl rfl (WH.tk 6 rfl hP hSW43 (pr_move rfl rfl ?_)))))))))))))
        refine WH.tk 7 rfl hP hSW43 (pr_sub rfl rfl rfl ?_)
        obtain ⟨u44, hu44, hF⟩ := bindE hF
        refine WH.tk 8 rfl hP hSW43 (pr_indexo (e := ty_3) (i := 1) Tryz.underlying25 rfl rfl rfl hS42 rfl hu44 ?_)
        rintro p45 _ rfl hp46 ho47
        refine WH.tk 10 rfl hP hSW43 (pr_move rfl rfl (WH.tk 11 rfl hP hSW43 (pr_move rfl rfl ?_)))
        obtain ⟨u48, hu48, hF⟩ := bindE hF
        refine WH.tk 12 rfl hP hSW43 (pr_indexo (e := ty_3) (i := 1) Tryz.underlying25 rfl rfl rfl hS42 rfl hu48 ?_)
        rintro p49 _ rfl hp50 ho51
        refine WH.many (is := [9, 13]) (by kernel_rfl) rfl (List.forall_mem_cons.2 ⟨⟨_, rfl, ?_⟩, List.forall_mem_cons.2 ⟨⟨_, rfl, ?_⟩, fun _ h => by cases h⟩⟩)
        ·
         refine wl_load_p (vs := [(.int .i64 u44)]) (v := (.int .i64 u44)) tf_3 rfl rfl hp46 rfl rfl (WL.nil (WH.ret hSW43 (WH.on1 13 rfl (wl_load_p (vs := [(.int .i64 u48)]) (v := (.int .i64 u48)) tf_3 rfl rfl hp50 rfl rfl (WL.nil (WH.ret hSW43 ?_))))))
         obtain ⟨u52, hu52, hF⟩ := bindE hF
         refine WH.tk 14 rfl hP hSW43 (pr_indexo (e := ty_3) (i := 1) Tryz.underlying25 rfl rfl rfl hS42 rfl hu52 ?_)
         rintro p53 _ rfl hp54 ho55
         refine WH.on1 15 rfl (wl_storeo (i := 1) (o := 0) (vs := [(.int .i64 u44)]) (u' := u44) fl_3 tf_3 rfl rfl rfl rfl ho55 hu52 hB41 hS42 rfl rfl ⟨rfl, trivial⟩ rfl ?_)
         intro w56 hk59 hB57 hS58
         have hSW60 := hSW43.wr' hk59.1 hk59.2.1 (fun _ _ h => h)
         have hbs61 : ∀ b, b < w39.heap.size → b ∈ B0_0 → b ∈ B0_0 := fun b hlt hb => (hk59.2.2 b hb).elim ((fun _ _ h => h) b hlt) (fun h => absurd hlt (Nat.not_lt.2 (Nat.le_trans hSW43.size h)))
         refine WL.nil (WH.ret hSW60 (WH.on1 16 rfl ?_))
         obtain ⟨u62, hu62, hF⟩ := bindE hF
         refine wl_indexo (e := ty_3) (i := 1) Tryz.underlying25 rfl rfl rfl hS58 rfl hu62 ?_
         rintro p63 _ rfl hp64 ho65
         refine WL.nil (WH.ret hSW60 (WH.on1 17 rfl (wl_storeo (i := 1) (o := 0) (vs := [(.int .i64 u48)]) (u' := u48) fl_3 tf_3 rfl rfl rfl rfl ho65 hu62 hB57 hS58 rfl rfl ⟨rfl, trivial⟩ rfl ?_)))
         intro w66 hk69 hB67 hS68
         have hSW70 := hSW60.wr' hk69.1 hk69.2.1 (hbs61)
         refine WL.nil (WH.ret hSW70 (WH.done (by kernel_rfl) ?_))
         exact fun a ha => hJ38 ((seti (seti l18 y19 u44) (w64 (y19 - 1)) u48)) _ hF hB67 (hS68.sel [0, 1] rfl) a (ha.sub ⟨rfl, rfl, rfl, rfl, rfl, trivial⟩)
        ·
         refine wl_load_p (vs := [(.int .i64 u48)]) (v := (.int .i64 u48)) tf_3 rfl rfl hp50 rfl rfl (WL.nil (WH.ret hSW43 (WH.on1 9 rfl (wl_load_p (vs := [(.int .i64 u44)]) (v := (.int .i64 u44)) tf_3 rfl rfl hp46 rfl rfl (WL.nil (WH.ret hSW43 ?_))))))
         obtain ⟨u72, hu72, hF⟩ := bindE hF
         refine WH.tk 14 rfl hP hSW43 (pr_indexo (e := ty_3) (i := 1) Tryz.underlying25 rfl rfl rfl hS42 rfl hu72 ?_)
         rintro p73 _ rfl hp74 ho75
         refine WH.on1 15 rfl (wl_storeo (i := 1) (o := 0) (vs := [(.int .i64 u44)]) (u' := u44) fl_3 tf_3 rfl rfl rfl rfl ho75 hu72 hB41 hS42 rfl rfl ⟨rfl, trivial⟩ rfl ?_)
         intro w76 hk79 hB77 hS78
         have hSW80 := hSW43.wr' hk79.1 hk79.2.1 (fun _ _ h => h)
         have hbs81 : ∀ b, b < w39.heap.size → b ∈ B0_0 → b ∈ B0_0 := fun b hlt hb => (hk79.2.2 b hb).elim ((fun _ _ h => h) b hlt) (fun h => absurd hlt (Nat.not_lt.2 (Nat.le_trans hSW43.size h)))
         refine WL.nil (WH.ret hSW80 (WH.on1 16 rfl ?_))
         obtain ⟨u82, hu82, hF⟩ := bindE hF
         refine wl_indexo (e := ty_3) (i := 1) Tryz.underlying25 rfl rfl rfl hS78 rfl hu82 ?_
         rintro p83 _ rfl hp84 ho85
         refine WL.nil (WH.ret hSW80 (WH.on1 17 rfl (wl_storeo (i := 1) (o := 0) (vs := [(.int .i64 u48)]) (u' := u48) fl_3 tf_3 rfl rfl rfl rfl ho85 hu82 hB77 hS78 rfl rfl ⟨rfl, trivial⟩ rfl ?_)))
         intro w86 hk89 hB87 hS88
         have hSW90 := hSW80.wr' hk89.1 hk89.2.1 (hbs81)
         refine WL.nil (WH.ret hSW90 (WH.done (by kernel_rfl) ?_))
         exact fun a ha => hJ38 ((seti (seti l18 y19 u44) (w64 (y19 - 1)) u48)) _ hF hB87 (hS88.sel [0, 1] rfl) a (ha.sub ⟨rfl, rfl, rfl, rfl, rfl, trivial⟩)
       ·replace hF := ifN h31 hF
        refine W.exit fun a ha => hK13 _ _ (W.region (wl_move rfl rfl (wl_add rfl rfl rfl (wl_assign rfl rfl (WL.nil ?_))))) a ha
        rw [hnx7] at hF
        exact fun a ha => hKL8 a _ m9 (Nat.lt_succ_self m9) ⟨l18, (w64 (y6 + 1)), ha.sub ⟨rfl, rfl, rfl, rfl, trivial⟩, hB26, (hS27.sel [0, 1] rfl), hF⟩
      refine W.regionH mixed_ [] hB16 hS17 ?_
      intro w92 hb93 hB94 hS95
      have hSW96 := KeepX.refl w92 []
      refine WH.tk 0 rfl hP hSW96 (pr_move rfl rfl (WH.tk 1 rfl hP hSW96 (pr_move rfl rfl (WH.tk 2 rfl hP hSW96 (pr_gtr rfl rfl rfl (WH.tk 3 rfl hP hSW96 (pr_move rfl rfl ?_)))))))
      rcases bE (decide (x1 < y19)) with h97 | h97
      ·replace hF := ifP h97 hF
       refine WH.takexg (i := 4) rfl (by kernel_rfl) (by kernel_rfl) (by kernel_rfl) hP rfl rfl h97 hSW96 (pr_move rfl rfl (WH.takexg (i := 5) rfl (by kernel_rfl) (by kernel_rfl) (by kernel_rfl) hP rfl rfl h97 hSW96 (pr_move rfl rfl ?_)))
       obtain ⟨u98, hu98, hF⟩ := bindE hF
       refine WH.takexg (i := 6) rfl (by kernel_rfl) (by kernel_rfl) (by kernel_rfl) hP rfl rfl h97 hSW96 (pr_indexo (e := ty_3) (i := 1) Tryz.underlying25 rfl rfl rfl hS95 rfl hu98 ?_)
       rintro p99 _ rfl hp100 ho101
       refine WH.takexg (i := 7) rfl (by kernel_rfl) (by kernel_rfl) (by kernel_rfl) hP rfl rfl h97 hSW96 (pr_load_p (vs := [(.int .i64 u98)]) (v := (.int .i64 u98)) tf_3 rfl rfl (hp100.kx0) rfl rfl (WH.takexg (i := 8) rfl (by kernel_rfl) (by kernel_rfl) (by kernel_rfl) hP rfl rfl h97 hSW96 (pr_move rfl rfl (WH.takexg (i := 9) rfl (by kernel_rfl) (by kernel_rfl) (by kernel_rfl) hP rfl rfl h97 hSW96 (pr_move rfl rfl (WH.takexg (i := 10) rfl (by kernel_rfl) (by kernel_rfl) (by kernel_rfl) hP rfl rfl h97 hSW96 (pr_sub rfl rfl rfl ?_)))))))
       obtain ⟨u102, hu102, hF⟩ := bindE hF
       refine WH.takexg (i := 11) rfl (by kernel_rfl) (by kernel_rfl) (by kernel_rfl) hP rfl rfl h97 hSW96 (pr_indexo (e := ty_3) (i := 1) Tryz.underlying25 rfl rfl rfl hS95 rfl hu102 ?_)
       rintro p103 _ rfl hp104 ho105
       refine WH.takexg (i := 12) rfl (by kernel_rfl) (by kernel_rfl) (by kernel_rfl) hP rfl rfl h97 hSW96 (pr_load_p (vs := [(.int .i64 u102)]) (v := (.int .i64 u102)) tf_3 rfl rfl (hp104.kx0) rfl rfl (WH.on1 13 rfl (wl_on rfl rfl h97 ?_)))
       obtain ⟨u106, hu106, hF⟩ := bindE hF
       refine wl_call rfl Tryz.call97 (C_cmp_Less_int w92 u98 u102 _ hu106) rfl ?_
       rintro _ w107 ⟨rfl, hb108⟩
       refine ⟨_, rfl, ?_⟩
       have hB109 := hB94.trans (hb108.mono hB94.size)
       have hS110 := hS95.below hb108
       have hSW112 := hSW96.ext hb108
       refine WL.nil (WH.ret hSW112 (WH.tk 14 rfl hP hSW112 (pr_pick_t rfl rfl h97 rfl (WH.done (by kernel_rfl) ?_))))
       exact fun a ha => hJ30 (u106) _ hF hB109 (hS110.sel [0, 1] rfl) a (ha.sub ⟨rfl, rfl, rfl, rfl, rfl, rfl, trivial⟩)
      ·replace hF := ifN h97 hF
       refine WH.off (i := 4) rfl (by kernel_rfl) (by kernel_rfl) (by kernel_rfl) hP rfl rfl h97 rfl hSW96 (WH.off (i := 5) rfl (by kernel_rfl) (by kernel_rfl) (by kernel_rfl) hP rfl rfl h97 rfl hSW96 (WH.off (i := 6) rfl (by kernel_rfl) (by kernel_rfl) (by kernel_rfl) hP rfl rfl h97 rfl hSW96 (WH.off (i := 7) rfl (by kernel_rfl) (by kernel_rfl) (by kernel_rfl) hP rfl rfl h97 rfl hSW96 (WH.off (i := 8) rfl (by kernel_rfl) (by kernel_rfl) (by kernel_rfl) hP rfl rfl h97 rfl hSW96 (WH.off (i := 9) rfl (by kernel_rfl) (by kernel_rfl) (by kernel_rfl) hP rfl rfl h97 rfl hSW96 (WH.off (i := 10) rfl (by kernel_rfl) (by kernel_rfl) (by kernel_rfl) hP rfl rfl h97 rfl hSW96 (WH.off (i := 11) rfl (by kernel_rfl) (by kernel_rfl) (by kernel_rfl) hP rfl rfl h97 rfl hSW96 (WH.off (i := 12) rfl (by kernel_rfl) (by kernel_rfl) (by kernel_rfl) hP rfl rfl h97 rfl hSW96 ?_))))))))
       refine WH.off (i := 13) rfl (by kernel_rfl) (by kernel_rfl) (by kernel_rfl) hP rfl rfl h97 rfl hSW96 (WH.tk 14 rfl hP hSW96 (pr_pick_f rfl rfl h97 rfl (WH.done (by kernel_rfl) ?_)))
       exact fun a ha => hJ30 (false) _ hF hB94 (hS95.sel [0, 1] rfl) a (ha.sub ⟨rfl, rfl, rfl, rfl, rfl, rfl, trivial⟩)
   ·replace hF := ifN h12 hF
    refine W.exit ?_
    have hr := Option.some.inj hF
    subst hr
    exact retsn (vs := []) hQn rfl trivial ⟨rfl, hB3, hS4.sel [0, 1] rfl⟩
theorem C_slices_pdqsortOrdered_int__mut (w0 : World) (x0 : (List Int)) (v0_0 : Value) (B0_0 : List Nat) (x1 : Int) (x2 : Int) (x3 : Int) (hS0 : Sep 0 w0 [R.own ty_3 B0_0 v0_0 x0]) (r : (List Int)) (hF : F_slices_pdqsortOrdered_int__mut x0 x1 x2 x3 = some r) :
  Calls Tryz.prog 72 [v0_0, (.int .i64 x1), (.int .i64 x2), (.int .i64 x3)].toArray w0 fun e w' => e = .returned (.tuple #[]) ∧ Below 0 (wE w0) w' ∧ Sep 0 w' [R.rest w0 (fps [R.own ty_3 B0_0 v0_0 x0]), R.own ty_3 B0_0 v0_0 r] := by
 refine calls_mkn' Tryz.func72 rfl Tryz.ntmps72 rfl rfl fun Q hQn hQ hP => ?_
 have hB : Below (wE w0).heap.size (wE w0) w0 := wE_below w0
 have hS : Sep (wE w0).heap.size w0 [R.rest w0 (fps [R.own ty_3 B0_0 v0_0 x0]), R.own ty_3 B0_0 v0_0 x0] := hS0.rest
 unfold F_slices_pdqsortOrdered_int__mut at hF
 refine W.seq fun K1 hK1 => W.region (wl_assign rfl rfl (WL.nil (fun a ha => hK1 _ _ (W.seq fun K2 hK2 => (W.region (wl_assign rfl rfl (WL.nil (fun a ha => hK2 _ _ (W.block (W.loopk (fun m a w3 => St 134 [(0, v0_0), (1, (.int .i64 x1)), (2, (.int .i64 x2)), (3, (.int .i64 x3)), (8, (.bool true)), (9, (.bool true))] a ∧ Below (wE w0).heap.size (wE w0) w3 ∧ Sep (wE w0).heap.size w3 [R.rest w0 (fps [R.own ty_3 B0_0 v0_0 x0]), R.own ty_3 B0_0 v0_0 x0] ∧ F_slices_pdqsortOrdered_int__mut_L1 x2 x1 x0 m  = some r) FU ?_ ?_)) a ha))))) a ha)))
 ·
  exact fun a ha => ⟨ha.sub ⟨rfl, rfl, rfl, rfl, rfl, rfl, trivial⟩, hB, (hS.sel [0, 1] rfl), hF⟩
 ·
  rintro m8 a w3 ⟨ha, hB4, hS5, hF⟩ KL7 hKL7
  refine W.at ?_ ha
  cases m8 with
  | zero => exact noneE hF
  | succ m8 =>
   obtain ⟨nx6, hnx6⟩ : ∃ k, k = F_slices_pdqsortOrdered_int__mut_L1 x2 x1 x0 m8 := ⟨_, rfl⟩
   rw [F_slices_pdqsortOrdered_int__mut_L1] at hF; try rw [← hnx6] at hF
   refine W.block (W.seq fun K9 hK9 => (W.region (wl_move rfl rfl (wl_move rfl rfl (wl_sub rfl rfl rfl (wl_assign rfl rfl (WL.nil (fun a ha => hK9 _ _ (W.seq fun K10 hK10 => (W.seq fun K11 hK11 => (W.region (wl_move rfl rfl (wl_leq rfl rfl rfl ?_))))) a ha))))))))
   refine WL.nil fun a ha => hK11 _ _ (W.cond rfl (fun h12 => ?_) (fun h12 => ?_)) a ha
   ·replace hF := ifP h12 hF
    refine W.seq fun K13 hK13 => W.region (wl_move rfl rfl (wl_move rfl rfl (wl_move rfl rfl ?_)))
    obtain ⟨u14, hu14, hF⟩ := bindE hF
    refine wl_call rfl Tryz.call91 (C_slices_insertionSortOrdered_int__mut w3 x0 v0_0 B0_0 x1 x2 (hS5.sel [1] rfl).base0 _ hu14) rfl ?_
    rintro _ w15 ⟨rfl, hE16, hM17⟩
    refine ⟨_, rfl, ?_⟩
    have hB18 := hS5.mutB [1] rfl (M := [R.own ty_3 B0_0 v0_0 x0]) rfl (M' := [R.own ty_3 B0_0 v0_0 u14]) rfl hB4 hB4.size hE16 hM17
    have hS19 : Sep (wE w0).heap.size w15 [R.own ty_3 B0_0 v0_0 u14, R.rest w0 (fps [R.own ty_3 B0_0 v0_0 x0])] := hS5.mut [1] [0] rfl (M := [R.own ty_3 B0_0 v0_0 x0]) rfl (M' := [R.own ty_3 B0_0 v0_0 u14]) rfl hM17
    refine WL.nil fun a ha => hK13 _ _ (W.ret ?_) a ha
    have hr := Option.some.inj hF
    subst hr
    exact rets (vs := []) hQ rfl trivial ⟨rfl, hB18, hS19.sel [1, 0] rfl⟩
   ·replace hF := ifN h12 hF
    exact noneE hF
theorem C_slices_Sort_int_int__mut (w0 : World) (x0 : (List Int)) (v0_0 : Value) (B0_0 : List Nat) (hS0 : Sep 0 w0 [R.own ty_3 B0_0 v0_0 x0]) (r : (List Int)) (hF : F_slices_Sort_int_int__mut x0 = some r) :
  Calls Tryz.prog 46 [v0_0].toArray w0 fun e w' => e = .returned (.tuple #[]) ∧ Below 0 (wE w0) w' ∧ Sep 0 w' [R.rest w0 (fps [R.own ty_3 B0_0 v0_0 x0]), R.own ty_3 B0_0 v0_0 r] := by
 refine calls_mkn' Tryz.func46 rfl Tryz.ntmps46 rfl rfl fun Q hQn hQ hP => ?_
 have hB : Below (wE w0).heap.size (wE w0) w0 := wE_below w0
 have hS : Sep (wE w0).heap.size w0 [R.rest w0 (fps [R.own ty_3 B0_0 v0_0 x0]), R.own ty_3 B0_0 v0_0 x0] := hS0.rest
 unfold F_slices_Sort_int_int__mut at hF
 refine W.seq fun K1 hK1 => W.region (wl_move rfl rfl (wl_lenr (e := ty_3) (l := x0) Tryz.underlying25 rfl rfl (hS.own_ro (i := 1) rfl) (wl_assign rfl rfl (WL.nil (fun a ha => hK1 _ _ (W.region (wl_move rfl rfl (wl_move rfl rfl (wl_move rfl rfl (wl_convi Tryz.underlying3 Tryz.underlying91 rfl rfl ?_))))) a ha)))))
 obtain ⟨u2, hu2, hF⟩ := bindE hF
 refine wl_call rfl Tryz.call73 (C_bits_Len w0 (wu64 (List.length x0 : Int)) _ hu2) rfl ?_
 rintro _ w3 ⟨rfl, hb4⟩
 refine ⟨_, rfl, ?_⟩
 have hB5 := hB.trans (hb4.mono hB.size)
 have hS6 := hS.below hb4
 obtain ⟨u8, hu8, hF⟩ := bindE hF
 refine wl_call rfl Tryz.call72 (C_slices_pdqsortOrdered_int__mut w3 x0 v0_0 B0_0 0 (List.length x0 : Int) u2 (hS6.sel [1] rfl).base0 _ hu8) rfl ?_
 rintro _ w9 ⟨rfl, hE10, hM11⟩
 refine ⟨_, rfl, ?_⟩
 have hB12 := hS6.mutB [1] rfl (M := [R.own ty_3 B0_0 v0_0 x0]) rfl (M' := [R.own ty_3 B0_0 v0_0 u8]) rfl hB5 hB5.size hE10 hM11
 have hS13 : Sep (wE w0).heap.size w9 [R.own ty_3 B0_0 v0_0 u8, R.rest w0 (fps [R.own ty_3 B0_0 v0_0 x0])] := hS6.mut [1] [0] rfl (M := [R.own ty_3 B0_0 v0_0 x0]) rfl (M' := [R.own ty_3 B0_0 v0_0 u8]) rfl hM11
 refine WL.nil ?_
 have hr := Option.some.inj hF
 subst hr
 exact retsn (vs := []) hQn rfl trivial ⟨rfl, hB12, hS13.sel [1, 0] rfl⟩
theorem C_impl_HaltPerformer (w0 : World) (x0 : (((List (List (Int × Int))) × (List Int) × Int × Int) × Int × (List Int) × (List Int))) (v0_0 : Value) (h0_0 : rdS ty_66 (· < w0.heap.size) w0 v0_0 x0.1.1) (v0_1 : Value) (h0_1 : rdS ty_3 (· < w0.heap.size) w0 v0_1 x0.1.2.1) (v0_2 : Value) (h0_2 : rdS ty_3 (· < w0.heap.size) w0 v0_2 x0.2.2.1) (v0_3 : Value) (h0_3 : rdS ty_3 (· < w0.heap.size) w0 v0_3 x0.2.2.2) (x1 : Int) (r : ((((List (List (Int × Int))) × (List Int) × Int × Int) × Int × (List Int) × (List Int)) × Bool)) (hF : F_impl_HaltPerformer x0 x1 = some r) :
  Calls Tryz.prog 17 [(.agg #[v0_0, v0_1, (.int .i64 x0.1.2.2.1), (.int .i64 x0.1.2.2.2), (.int .i64 x0.2.1), v0_2, v0_3]), (.int .i64 x1)].toArray w0 fun e w' => ∃ (q0 : Value) (G0 : List Nat) (q1 : Value) (G1 : List Nat) (q2 : Value) (G2 : List Nat) (q3 : Value) (G3 : List Nat), e = .returned (.tuple #[(.agg #[q0, q1, (.int .i64 r.1.1.2.2.1), (.int .i64 r.1.1.2.2.2), (.int .i64 r.1.2.1), q2, q3]), (.bool r.2)]) ∧ Below w0.heap.size w0 w' ∧ Sep w0.heap.size w' [R.own ty_66 G0 q0 r.1.1.1, R.own ty_3 G1 q1 r.1.1.2.1, R.own ty_3 G2 q2 r.1.2.2.1, R.own ty_3 G3 q3 r.1.2.2.2] := by
 refine calls_mk' Tryz.func17 rfl Tryz.ntmps17 rfl rfl fun Q hQ hP => ?_
 have hB : Below w0.heap.size w0 w0 := Below.refl _ _
 have hS : Sep w0.heap.size w0 [] := Sep.nil _ _
 unfold F_impl_HaltPerformer at hF
 refine W.seq fun K1 hK1 => W.region (wl_box (cs := [v0_0, v0_1, (.int .i64 x0.1.2.2.1), (.int .i64 x0.1.2.2.2), (.int .i64 x0.2.1), v0_2, v0_3]) rfl rfl rfl hB hS ?_)
 intro b2 w3 hb4 hB5 hS6
 refine wl_alloc (cs := [(.slice none 0 0), (.slice none 0 0), (.int .i64 0), (.int .i64 0), (.int .i64 0), (.slice none 0 0), (.slice none 0 0)]) tf_29 rfl rfl hB5 hS6 ?_
 intro b7 w8 hb9 hB10 hS11
 refine wl_assign rfl rfl (WL.nil (fun a ha => hK1 _ _ (W.seq fun K12 hK12 => (W.seq fun K13 hK13 => ?_)) a ha))
 obtain ⟨k18, hk18, hF⟩ := jE1 hF
 have hJ19 : ∀ (y17 : Bool) (w14 : World) (_ : k18 y17 = some r) (_ : Below w0.heap.size w0 w14) (_ : Sep w0.heap.size w14 [R.blk b2 29 [v0_0, v0_1, (.int .i64 x0.1.2.2.1), (.int .i64 x0.1.2.2.2), (.int .i64 x0.2.1), v0_2, v0_3], R.blk b7 29 [(.slice none 0 0), (.slice none 0 0), (.int .i64 0), (.int .i64 0), (.int .i64 0), (.slice none 0 0), (.slice none 0 0)]]), ∀ a, St 30 [(1, (.int .i64 x1)), (2, (.pointer (some ⟨b2, 0, none⟩))), (4, (.pointer (some ⟨b7, 0, none⟩))), (16, (.bool y17))] a → K13 a w14 := by
  intro y17 w14 hF hB15 hS16
  subst hk18
  refine fun a ha => hK13 _ _ (W.cond rfl (fun h20 => ?_) (fun h20 => ?_)) a ha
  ·replace hF := ifP h20 hF
   refine W.seq fun K21 hK21 => W.region (wl_build (zs := [(.slice none 0 0), (.slice none 0 0), (.int .i64 0), (.int .i64 0), (.int .i64 0), (.slice none 0 0), (.slice none 0 0)]) (out := [(.slice none 0 0), (.slice none 0 0), (.int .i64 0), (.int .i64 0), (.int .i64 0), (.slice none 0 0), (.slice none 0 0)]) (vs := []) (css := []) tf_29 pl_29 rfl rfl rfl rfl rfl (wl_store_blk (i := 1) (vs := [(.slice none 0 0), (.slice none 0 0), (.int .i64 0), (.int .i64 0), (.int .i64 0), (.slice none 0 0), (.slice none 0 0)]) (cs' := [(.slice none 0 0), (.slice none 0 0), (.int .i64 0), (.int .i64 0), (.int .i64 0), (.slice none 0 0), (.slice none 0 0)]) tf_29 rfl rfl rfl rfl hB15 hS16 rfl rfl ⟨rfl, rfl, rfl, rfl, rfl, rfl, rfl, trivial⟩ rfl ?_))
   intro w22 hk25 hB23 hS24
   refine wl_assign rfl rfl (WL.nil (fun a ha => hK21 _ _ (W.ret ?_) a ha))
   have hS26 := hS24.push0 (r := R.own ty_66 [] (.slice none 0 0) []) rfl fun _ => .inl ⟨rfl, rfl, rfl⟩
   have hS27 := hS26.push0 (r := R.own ty_3 [] (.slice none 0 0) []) rfl fun _ => .inl ⟨rfl, rfl, rfl⟩
   have hS28 := hS27.push0 (r := R.own ty_3 [] (.slice none 0 0) []) rfl fun _ => .inl ⟨rfl, rfl, rfl⟩
   have hS29 := hS28.push0 (r := R.own ty_3 [] (.slice none 0 0) []) rfl fun _ => .inl ⟨rfl, rfl, rfl⟩
   have hr := Option.some.inj hF
   subst hr
   exact rets (vs := [(.agg #[(.slice none 0 0), (.slice none 0 0), (.int .i64 0), (.int .i64 0), (.int .i64 0), (.slice none 0 0), (.slice none 0 0)]), (.bool false)]) hQ rfl ⟨rv_cell (i := 1) tf_29 rfl hS24 rfl rfl rfl, rv_tmp rfl, trivial⟩ ⟨(.slice none 0 0), [], (.slice none 0 0), [], (.slice none 0 0), [], (.slice none 0 0), [], rfl, hB23, hS29.sel [3, 2, 1, 0] rfl⟩
  ·replace hF := ifN h20 hF
   refine W.skip fun a ha => hK12 _ _ (W.seq fun K30 hK30 => (W.region (wl_load_blk (i := 0) (vs := [v0_0, v0_1, (.int .i64 x0.1.2.2.1), (.int .i64 x0.1.2.2.2), (.int .i64 x0.2.1), v0_2, v0_3]) (v := (.agg #[v0_0, v0_1, (.int .i64 x0.1.2.2.1), (.int .i64 x0.1.2.2.2), (.int .i64 x0.2.1), v0_2, v0_3])) tf_29 rfl rfl hS16 rfl rfl rfl ?_))) a ha
   obtain ⟨u31, hu31, hF⟩ := bindE hF
   refine wl_call rfl Tryz.call29 (C_impl_copyMarch w14 x0 v0_0 (h0_0.ro hB15) v0_1 (h0_1.ro hB15) v0_2 (h0_2.ro hB15) v0_3 (h0_3.ro hB15) _ hu31) rfl ?_
   rintro _ w40 ⟨v32, F33, v34, F35, v36, F37, v38, F39, rfl, hb41, hM44⟩
   refine ⟨_, rfl, ?_⟩
   have hB42 := hB15.trans (hb41.mono hB15.size)
   have hS43 := hS16.join hb41 hM44 hB15.size
   refine wl_alloc (cs := [(.slice none 0 0), (.slice none 0 0), (.int .i64 0), (.int .i64 0), (.int .i64 0), (.slice none 0 0), (.slice none 0 0)]) tf_29 rfl rfl hB42 hS43 ?_
   intro b45 w46 hb47 hB48 hS49
   refine wl_store_blk (i := 0) (vs := [v32, v34, (.int .i64 u31.1.2.2.1), (.int .i64 u31.1.2.2.2), (.int .i64 u31.2.1), v36, v38]) (cs' := [v32, v34, (.int .i64 u31.1.2.2.1), (.int .i64 u31.1.2.2.2), (.int .i64 u31.2.1), v36, v38]) tf_29 rfl rfl rfl rfl hB48 hS49 rfl rfl ⟨(hS49.own_ro (i := 1) rfl).one, (hS49.own_ro (i := 2) rfl).one, rfl, rfl, rfl, (hS49.own_ro (i := 3) rfl).one, (hS49.own_ro (i := 4) rfl).one, trivial⟩ rfl ?_
   intro w50 hk53 hB51 hS52
   refine WL.nil fun a ha => hK30 _ _ (W.seq fun K54 hK54 => (W.region (wl_field (o := 5) (off' := 5) ff_29_2 rfl rfl rfl (wl_load_blk (i := 0) (vs := [v36]) (v := v36) tf_25 rfl rfl hS52 rfl rfl rfl (wl_move rfl rfl (wl_lit (vs := [(.int .i64 x1)]) (l := [x1]) fl_3 Tryz.underlying25 rfl rfl rfl rfl rfl rfl hB51 hS52 ?_)))))) a ha
   intro v55 F56 w57 hb58 hB59 hS60
   obtain ⟨u61, hu61, hF⟩ := bindE hF
   refine wl_append (i := 4) (S := (· < w57.heap.size)) fl_3 Tryz.underlying25 rfl rfl rfl hB59 hS60 rfl (hS60.own_ro (i := 0) rfl) hu61 ?_
   intro v62 F63 w65 hk66 hB67 hS68
   refine wl_field (o := 5) (off' := 5) ff_29_2 rfl rfl rfl (wl_store_blk (i := 1) (vs := [v62]) (cs' := [v32, v34, (.int .i64 u31.1.2.2.1), (.int .i64 u31.1.2.2.2), (.int .i64 u31.2.1), v62, v38]) tf_25 rfl rfl (cells_one (hS68.own_ro (i := 4) rfl).one) rfl hB67 hS68 rfl rfl ⟨(hS68.own_ro (i := 4) rfl).one, trivial⟩ rfl ?_)
   intro w69 hk72 hB70 hS71
   refine WL.nil fun a ha => hK54 _ _ (W.seq fun K73 hK73 => (W.region (wl_field (o := 5) (off' := 5) ff_29_2 rfl rfl rfl (wl_load_blk (i := 1) (vs := [v62]) (v := v62) tf_25 rfl rfl hS71 rfl rfl rfl ?_)))) a ha
   obtain ⟨u74, hu74, hF⟩ := bindE hF
   refine wl_call rfl Tryz.call46 (C_slices_Sort_int_int__mut w69 u61 v62 F63 (hS71.sel [4] rfl).base0 _ hu74) rfl ?_
   rintro _ w75 ⟨rfl, hE76, hM77⟩
   refine ⟨_, rfl, ?_⟩
   have hB78 := hS71.mutB [4] rfl (M := [R.own ty_3 F63 v62 u61]) rfl (M' := [R.own ty_3 F63 v62 u74]) rfl hB70 hB70.size hE76 hM77
   have hS79 : Sep w0.heap.size w75 [R.own ty_3 F63 v62 u74, R.own ty_3 F56 v55 [x1], R.blk b45 29 [v32, v34, (.int .i64 u31.1.2.2.1), (.int .i64 u31.1.2.2.2), (.int .i64 u31.2.1), v62, v38], R.own ty_66 F33 v32 u31.1.1, R.own ty_3 F35 v34 u31.1.2.1, R.own ty_3 F39 v38 u31.2.2.2, R.blk b2 29 [v0_0, v0_1, (.int .i64 x0.1.2.2.1), (.int .i64 x0.1.2.2.2), (.int .i64 x0.2.1), v0_2, v0_3], R.blk b7 29 [(.slice none 0 0), (.slice none 0 0), (.int .i64 0), (.int .i64 0), (.int .i64 0), (.slice none 0 0), (.slice none 0 0)]] := hS71.mut [4] [0, 1, 2, 3, 5, 6, 7] rfl (M := [R.own ty_3 F63 v62 u61]) rfl (M' := [R.own ty_3 F63 v62 u74]) rfl hM77
   refine WL.nil fun a ha => hK73 _ _ (W.seq fun K80 hK80 => (W.region (wl_load_blk (i := 2) (vs := [v32, v34, (.int .i64 u31.1.2.2.1), (.int .i64 u31.1.2.2.2), (.int .i64 u31.2.1), v62, v38]) (v := (.agg #[v32, v34, (.int .i64 u31.1.2.2.1), (.int .i64 u31.1.2.2.2), (.int .i64 u31.2.1), v62, v38])) tf_29 rfl rfl hS79 rfl rfl rfl (wl_store_blk (i := 7) (vs := [v32, v34, (.int .i64 u31.1.2.2.1), (.int .i64 u31.1.2.2.2), (.int .i64 u31.2.1), v62, v38]) (cs' := [v32, v34, (.int .i64 u31.1.2.2.1), (.int .i64 u31.1.2.2.2), (.int .i64 u31.2.1), v62, v38]) tf_29 rfl rfl rfl rfl hB78 hS79 rfl rfl ⟨(hS79.own_ro (i := 3) rfl).one, (hS79.own_ro (i := 4) rfl).one, rfl, rfl, rfl, (hS79.own_ro (i := 0) rfl).one, (hS79.own_ro (i := 5) rfl).one, trivial⟩ rfl ?_)))) a ha
   intro w81 hk84 hB82 hS83
   refine wl_assign rfl rfl (WL.nil (fun a ha => hK80 _ _ (W.ret ?_) a ha))
   have hr := Option.some.inj hF
   subst hr
   exact rets (vs := [(.agg #[v32, v34, (.int .i64 u31.1.2.2.1), (.int .i64 u31.1.2.2.2), (.int .i64 u31.2.1), v62, v38]), (.bool true)]) hQ rfl ⟨rv_cell (i := 7) tf_29 rfl hS83 rfl rfl rfl, rv_tmp rfl, trivial⟩ ⟨v32, F33, v34, F35, v62, F63, v38, F39, rfl, hB82, hS83.sel [3, 4, 0, 5] rfl⟩
 refine W.region (wl_load_blk (i := 1) (vs := [v0_0, v0_1, (.int .i64 x0.1.2.2.1), (.int .i64 x0.1.2.2.2), (.int .i64 x0.2.1), v0_2, v0_3]) (v := (.agg #[v0_0, v0_1, (.int .i64 x0.1.2.2.1), (.int .i64 x0.1.2.2.2), (.int .i64 x0.2.1), v0_2, v0_3])) tf_29 rfl rfl hS11 rfl rfl rfl (wl_move rfl rfl ?_))
 obtain ⟨u85, hu85, hF⟩ := bindE hF
 refine wl_call rfl Tryz.call41 (C_impl_hasPerformer w8 x0 v0_0 (h0_0.ro hB10) v0_1 (h0_1.ro hB10) v0_2 (h0_2.ro hB10) v0_3 (h0_3.ro hB10) x1 _ hu85) rfl ?_
 rintro _ w86 ⟨rfl, hb87⟩
 refine ⟨_, rfl, ?_⟩
 have hB88 := hB10.trans (hb87.mono hB10.size)
 have hS89 := hS11.below hb87
 refine wl_not rfl rfl (wl_move rfl rfl ?_)
 rcases bE (!u85) with h91 | h91
 ·replace hF := ifP h91 hF
  refine wl_off rfl rfl rfl h91 (wl_off rfl rfl rfl h91 (wl_off rfl rfl rfl h91 (wl_off rfl rfl rfl h91 (wl_pick_t rfl rfl h91 rfl (WL.nil ?_)))))
  exact fun a ha => hJ19 (true) _ hF hB88 (hS89.sel [1, 0] rfl) a (ha.sub ⟨rfl, rfl, rfl, rfl, trivial⟩)
 ·replace hF := ifN h91 hF
  refine wl_on rfl rfl h91 (wl_field (o := 5) (off' := 5) ff_29_2 rfl rfl rfl (wl_on rfl rfl h91 (wl_load_blk (i := 1) (vs := [v0_2]) (v := v0_2) tf_25 rfl rfl hS89 rfl rfl rfl (wl_on rfl rfl h91 (wl_move rfl rfl (wl_on rfl rfl h91 ?_))))))
  obtain ⟨u92, hu92, hF⟩ := bindE hF
  refine wl_call rfl Tryz.call45 (C_slices_Contains_int_int w86 x0.2.2.1 v0_2 (h0_2.ro hB88) x1 _ hu92) rfl ?_
  rintro _ w93 ⟨rfl, hb94⟩
  refine ⟨_, rfl, ?_⟩
  have hB95 := hB88.trans (hb94.mono hB88.size)
  have hS96 := hS89.below hb94
  refine wl_pick_f rfl rfl h91 rfl (WL.nil ?_)
  exact fun a ha => hJ19 (u92) _ hF hB95 (hS96.sel [1, 0] rfl) a (ha.sub ⟨rfl, rfl, rfl, rfl, trivial⟩)
theorem C_slices_Delete_int_int__take (w0 : World) (x0 : (List Int)) (v0_0 : Value) (B0_0 : List Nat) (x1 : Int) (x2 : Int) (hS0 : Sep 0 w0 [R.own ty_3 B0_0 v0_0 x0]) (r : (List Int)) (hF : F_slices_Delete_int_int__take x0 x1 x2 = some r) :
  Calls Tryz.prog 48 [v0_0, (.int .i64 x1), (.int .i64 x2)].toArray w0 fun e w' => ∃ (q0 : Value) (G0 : List Nat), e = .returned q0 ∧ Below 0 (wE w0) w' ∧ Sep 0 w' [R.rest w0 (fps [R.own ty_3 B0_0 v0_0 x0]), R.own ty_3 G0 q0 r] := by
 refine calls_mk' Tryz.func48 rfl Tryz.ntmps48 rfl rfl fun Q hQ hP => ?_
 have hB : Below (wE w0).heap.size (wE w0) w0 := wE_below w0
 have hS : Sep (wE w0).heap.size w0 [R.rest w0 (fps [R.own ty_3 B0_0 v0_0 x0]), R.own ty_3 B0_0 v0_0 x0] := hS0.rest
 unfold F_slices_Delete_int_int__take at hF
 refine W.seq fun K1 hK1 => W.region (wl_assign rfl rfl (WL.nil (fun a ha => hK1 _ _ (W.seq fun K2 hK2 => (W.region (wl_move rfl rfl (wl_move rfl rfl (wl_move rfl rfl (wl_move rfl rfl (wl_lenr (e := ty_3) (l := x0) Tryz.underlying25 rfl rfl (hS.own_ro (i := 1) rfl) ?_))))))) a ha)))
 obtain ⟨u3, hu3, hF⟩ := bindE hF
 refine wl_slice3 (e := ty_3) Tryz.underlying25 rfl rfl (hS.own_ro (i := 1) rfl) rfl rfl rfl hu3 ?_
 intro v4
 refine WL.nil fun a ha => hK2 _ _ (W.seq fun K5 hK5 => (W.seq fun K6 hK6 => (W.region (wl_move rfl rfl (wl_move rfl rfl (wl_eql rfl rfl rfl (WL.nil (fun a ha => hK6 _ _ (W.cond rfl (fun h7 => ?_) (fun h7 => ?_)) a ha)))))))) a ha
 ·replace hF := ifP h7 hF
  refine W.seq fun K8 hK8 => W.region (wl_move rfl rfl (wl_assign rfl rfl (WL.nil (fun a ha => hK8 _ _ (W.ret ?_) a ha))))
  have hr := Option.some.inj hF
  subst hr
  exact rets (vs := [v0_0]) hQ rfl ⟨rv_tmp rfl, trivial⟩ ⟨v0_0, B0_0, rfl, hB, hS.sel [0, 1] rfl⟩
 ·replace hF := ifN h7 hF
  refine W.skip fun a ha => hK5 _ _ (W.seq fun K9 hK9 => (W.region (wl_move rfl rfl (wl_lenr (e := ty_3) (l := x0) Tryz.underlying25 rfl rfl (hS.own_ro (i := 1) rfl) (wl_assign rfl rfl (WL.nil (fun a ha => hK9 _ _ (W.seq fun K10 hK10 => (W.regionH mixed_ B0_0 hB hS ?_)) a ha))))))) a ha
  intro w11 hb12 hB13 hS14
  have hSW15 := KeepX.refl w11 B0_0
  refine WH.tk 0 rfl hP hSW15 (pr_move rfl rfl (WH.tk 1 rfl hP hSW15 (pr_move rfl rfl ?_)))
  obtain ⟨u16, hu16, hF⟩ := bindE hF
  refine WH.tk 2 rfl hP hSW15 (pr_sliceof (e := ty_3) Tryz.underlying25 rfl rfl (hS14.ok (i := 1) rfl : ownS ty_3 _ _ _ _).rd hu16 (.inl ⟨rfl, rfl⟩) (.inr ⟨_, _, rfl, rfl⟩) ?_)
  intro v17 hv20 hs19
  refine WH.tk 3 rfl hP hSW15 (pr_move rfl rfl (WH.tk 4 rfl hP hSW15 (pr_move rfl rfl ?_)))
  obtain ⟨u21, hu21, hF⟩ := bindE hF
  refine WH.tk 5 rfl hP hSW15 (pr_sliceof (e := ty_3) Tryz.underlying25 rfl rfl (hS14.ok (i := 1) rfl : ownS ty_3 _ _ _ _).rd hu21 (.inr ⟨_, _, rfl, rfl⟩) (.inl ⟨rfl, rfl⟩) ?_)
  intro v22 hv25 hs24
  refine WH.on1 6 rfl ?_
  obtain ⟨u26, hu26, hF⟩ := bindE hF
  obtain ⟨hc27, hc28, hc29, hc30⟩ := cutL_some hu26
  refine wl_appendcut (e := ty_3) Tryz.underlying25 rfl rfl rfl hB13 (hS14.sel [1, 0] rfl) hs19 hs24 hc28 hc29 ?_
  intro v31 F32 w33 hk34 hcap35 hB36 hS37
  have hS38 : Sep (wE w0).heap.size w33 [R.own ty_3 F32 v31 u26, R.rest w0 (fps [R.own ty_3 B0_0 v0_0 x0])] := by rw [hc27]; exact hS37
  have hSW39 := hSW15.wr' hk34.1 hk34.2.1 (fun _ _ h => h)
  refine WL.nil (WH.ret hSW39 (WH.tk 7 rfl hP hSW39 (pr_assign rfl rfl (WH.done (by kernel_rfl) (fun a ha => hK10 _ _ (W.seq fun K41 hK41 => (W.region (wl_move rfl rfl (wl_move rfl rfl (wl_lenr (e := ty_3) (l := u26) Tryz.underlying25 rfl rfl (hS38.own_ro (i := 0) rfl) (wl_move rfl rfl (wl_slicetail (e := ty_3) Tryz.underlying25 rfl rfl (hS38.own_ro (i := 0) rfl) rfl rfl (Int.natCast_nonneg _) (Int.ofNat_le.2 hc30) hcap35 ?_))))))) a ha)))))
  intro v42 hs43
  refine wl_clear (e := ty_3) Tryz.underlying25 rfl hB36 (hS38.sel [0, 1] rfl) hs43 hc30 hcap35 ?_
  intro w44 hk45 hB46 hS47
  refine WL.nil fun a ha => hK41 _ _ (W.seq fun K48 hK48 => (W.region (wl_move rfl rfl (wl_assign rfl rfl (WL.nil (fun a ha => hK48 _ _ (W.ret ?_) a ha)))))) a ha
  have hr := Option.some.inj hF
  subst hr
  exact rets (vs := [v31]) hQ rfl ⟨rv_tmp rfl, trivial⟩ ⟨v31, F32, rfl, hB46, hS47.sel [1, 0] rfl⟩
theorem C_impl_GoOn (w0 : World) (x0 : (((List (List (Int × Int))) × (List Int) × Int × Int) × Int × (List Int) × (List Int))) (v0_0 : Value) (h0_0 : rdS ty_66 (· < w0.heap.size) w0 v0_0 x0.1.1) (v0_1 : Value) (h0_1 : rdS ty_3 (· < w0.heap.size) w0 v0_1 x0.1.2.1) (v0_2 : Value) (h0_2 : rdS ty_3 (· < w0.heap.size) w0 v0_2 x0.2.2.1) (v0_3 : Value) (h0_3 : rdS ty_3 (· < w0.heap.size) w0 v0_3 x0.2.2.2) (x1 : Int) (r : ((((List (List (Int × Int))) × (List Int) × Int × Int) × Int × (List Int) × (List Int)) × Bool)) (hF : F_impl_GoOn x0 x1 = some r) :
  Calls Tryz.prog 19 [(.agg #[v0_0, v0_1, (.int .i64 x0.1.2.2.1), (.int .i64 x0.1.2.2.2), (.int .i64 x0.2.1), v0_2, v0_3]), (.int .i64 x1)].toArray w0 fun e w' => ∃ (q0 : Value) (G0 : List Nat) (q1 : Value) (G1 : List Nat) (q2 : Value) (G2 : List Nat) (q3 : Value) (G3 : List Nat), e = .returned (.tuple #[(.agg #[q0, q1, (.int .i64 r.1.1.2.2.1), (.int .i64 r.1.1.2.2.2), (.int .i64 r.1.2.1), q2, q3]), (.bool r.2)]) ∧ Below w0.heap.size w0 w' ∧ Sep w0.heap.size w' [R.own ty_66 G0 q0 r.1.1.1, R.own ty_3 G1 q1 r.1.1.2.1, R.own ty_3 G2 q2 r.1.2.2.1, R.own ty_3 G3 q3 r.1.2.2.2] := by
 refine calls_mk' Tryz.func19 rfl Tryz.ntmps19 rfl rfl fun Q hQ hP => ?_
 have hB : Below w0.heap.size w0 w0 := Below.refl _ _
 have hS : Sep w0.heap.size w0 [] := Sep.nil _ _
 unfold F_impl_GoOn at hF
 refine W.seq fun K1 hK1 => W.region (wl_box (cs := [v0_0, v0_1, (.int .i64 x0.1.2.2.1), (.int .i64 x0.1.2.2.2), (.int .i64 x0.2.1), v0_2, v0_3]) rfl rfl rfl hB hS ?_)
 intro b2 w3 hb4 hB5 hS6
 refine wl_alloc (cs := [(.slice none 0 0), (.slice none 0 0), (.int .i64 0), (.int .i64 0), (.int .i64 0), (.slice none 0 0), (.slice none 0 0)]) tf_29 rfl rfl hB5 hS6 ?_
 intro b7 w8 hb9 hB10 hS11
 refine wl_assign rfl rfl (WL.nil (fun a ha => hK1 _ _ (W.seq fun K12 hK12 => (W.seq fun K13 hK13 => ?_)) a ha))
 obtain ⟨k18, hk18, hF⟩ := jE1 hF
 have hJ19 : ∀ (y17 : Bool) (w14 : World) (_ : k18 y17 = some r) (_ : Below w0.heap.size w0 w14) (_ : Sep w0.heap.size w14 [R.blk b2 29 [v0_0, v0_1, (.int .i64 x0.1.2.2.1), (.int .i64 x0.1.2.2.2), (.int .i64 x0.2.1), v0_2, v0_3], R.blk b7 29 [(.slice none 0 0), (.slice none 0 0), (.int .i64 0), (.int .i64 0), (.int .i64 0), (.slice none 0 0), (.slice none 0 0)]]), ∀ a, St 34 [(1, (.int .i64 x1)), (2, (.pointer (some ⟨b2, 0, none⟩))), (4, (.pointer (some ⟨b7, 0, none⟩))), (18, (.bool y17))] a → K13 a w14 := by
  intro y17 w14 hF hB15 hS16
  subst hk18
  refine fun a ha => hK13 _ _ (W.cond rfl (fun h20 => ?_) (fun h20 => ?_)) a ha
  ·replace hF := ifP h20 hF
   refine W.seq fun K21 hK21 => W.region (wl_build (zs := [(.slice none 0 0), (.slice none 0 0), (.int .i64 0), (.int .i64 0), (.int .i64 0), (.slice none 0 0), (.slice none 0 0)]) (out := [(.slice none 0 0), (.slice none 0 0), (.int .i64 0), (.int .i64 0), (.int .i64 0), (.slice none 0 0), (.slice none 0 0)]) (vs := []) (css := []) tf_29 pl_29 rfl rfl rfl rfl rfl (wl_store_blk (i := 1) (vs := [(.slice none 0 0), (.slice none 0 0), (.int .i64 0), (.int .i64 0), (.int .i64 0), (.slice none 0 0), (.slice none 0 0)]) (cs' := [(.slice none 0 0), (.slice none 0 0), (.int .i64 0), (.int .i64 0), (.int .i64 0), (.slice none 0 0), (.slice none 0 0)]) tf_29 rfl rfl rfl rfl hB15 hS16 rfl rfl ⟨rfl, rfl, rfl, rfl, rfl, rfl, rfl, trivial⟩ rfl ?_))
   intro w22 hk25 hB23 hS24
   refine wl_assign rfl rfl (WL.nil (fun a ha => hK21 _ _ (W.ret ?_) a ha))
   have hS26 := hS24.push0 (r := R.own ty_66 [] (.slice none 0 0) []) rfl fun _ => .inl ⟨rfl, rfl, rfl⟩
   have hS27 := hS26.push0 (r := R.own ty_3 [] (.slice none 0 0) []) rfl fun _ => .inl ⟨rfl, rfl, rfl⟩
   have hS28 := hS27.push0 (r := R.own ty_3 [] (.slice none 0 0) []) rfl fun _ => .inl ⟨rfl, rfl, rfl⟩
   have hS29 := hS28.push0 (r := R.own ty_3 [] (.slice none 0 0) []) rfl fun _ => .inl ⟨rfl, rfl, rfl⟩
   have hr := Option.some.inj hF
   subst hr
   exact rets (vs := [(.agg #[(.slice none 0 0), (.slice none 0 0), (.int .i64 0), (.int .i64 0), (.int .i64 0), (.slice none 0 0), (.slice none 0 0)]), (.bool false)]) hQ rfl ⟨rv_cell (i := 1) tf_29 rfl hS24 rfl rfl rfl, rv_tmp rfl, trivial⟩ ⟨(.slice none 0 0), [], (.slice none 0 0), [], (.slice none 0 0), [], (.slice none 0 0), [], rfl, hB23, hS29.sel [3, 2, 1, 0] rfl⟩
  ·replace hF := ifN h20 hF
   refine W.skip fun a ha => hK12 _ _ (W.seq fun K30 hK30 => (W.region (wl_load_blk (i := 0) (vs := [v0_0, v0_1, (.int .i64 x0.1.2.2.1), (.int .i64 x0.1.2.2.2), (.int .i64 x0.2.1), v0_2, v0_3]) (v := (.agg #[v0_0, v0_1, (.int .i64 x0.1.2.2.1), (.int .i64 x0.1.2.2.2), (.int .i64 x0.2.1), v0_2, v0_3])) tf_29 rfl rfl hS16 rfl rfl rfl ?_))) a ha
   obtain ⟨u31, hu31, hF⟩ := bindE hF
   refine wl_call rfl Tryz.call29 (C_impl_copyMarch w14 x0 v0_0 (h0_0.ro hB15) v0_1 (h0_1.ro hB15) v0_2 (h0_2.ro hB15) v0_3 (h0_3.ro hB15) _ hu31) rfl ?_
   rintro _ w40 ⟨v32, F33, v34, F35, v36, F37, v38, F39, rfl, hb41, hM44⟩
   refine ⟨_, rfl, ?_⟩
   have hB42 := hB15.trans (hb41.mono hB15.size)
   have hS43 := hS16.join hb41 hM44 hB15.size
   refine wl_alloc (cs := [(.slice none 0 0), (.slice none 0 0), (.int .i64 0), (.int .i64 0), (.int .i64 0), (.slice none 0 0), (.slice none 0 0)]) tf_29 rfl rfl hB42 hS43 ?_
   intro b45 w46 hb47 hB48 hS49
   refine wl_store_blk (i := 0) (vs := [v32, v34, (.int .i64 u31.1.2.2.1), (.int .i64 u31.1.2.2.2), (.int .i64 u31.2.1), v36, v38]) (cs' := [v32, v34, (.int .i64 u31.1.2.2.1), (.int .i64 u31.1.2.2.2), (.int .i64 u31.2.1), v36, v38]) tf_29 rfl rfl rfl rfl hB48 hS49 rfl rfl ⟨(hS49.own_ro (i := 1) rfl).one, (hS49.own_ro (i := 2) rfl).one, rfl, rfl, rfl, (hS49.own_ro (i := 3) rfl).one, (hS49.own_ro (i := 4) rfl).one, trivial⟩ rfl ?_
   intro w50 hk53 hB51 hS52
   refine WL.nil fun a ha => hK30 _ _ (W.seq fun K54 hK54 => (W.region (wl_field (o := 5) (off' := 5) ff_29_2 rfl rfl rfl (wl_load_blk (i := 0) (vs := [v36]) (v := v36) tf_25 rfl rfl hS52 rfl rfl rfl (wl_move rfl rfl ?_))))) a ha
   obtain ⟨u55, hu55, hF⟩ := bindE hF
   refine wl_call rfl Tryz.call47 (C_slices_Index_int_int w50 u31.2.2.1 v36 (hS52.own_ro (i := 3) rfl) x1 _ hu55) rfl ?_
   rintro _ w56 ⟨rfl, hb57⟩
   refine ⟨_, rfl, ?_⟩
   have hB58 := hB51.trans (hb57.mono hB51.size)
   have hS59 := hS52.below hb57
   refine wl_assign rfl rfl (WL.nil (fun a ha => hK54 _ _ (W.seq fun K61 hK61 => (W.region (wl_field (o := 5) (off' := 5) ff_29_2 rfl rfl rfl (wl_load_blk (i := 0) (vs := [v36]) (v := v36) tf_25 rfl rfl hS59 rfl rfl rfl (wl_move rfl rfl (wl_move rfl rfl (wl_add rfl rfl rfl ?_))))))) a ha))
   obtain ⟨u62, hu62, hF⟩ := bindE hF
   refine wl_call rfl Tryz.call48 (C_slices_Delete_int_int__take w56 u31.2.2.1 v36 F37 u55 (w64 (u55 + 1)) (hS59.sel [3] rfl).base0 _ hu62) rfl ?_
   rintro _ w63 ⟨v68, F69, rfl, hE64, hM65⟩
   refine ⟨_, rfl, ?_⟩
   have hB66 := hS59.takeB [3] rfl (M := [R.own ty_3 F37 v36 u31.2.2.1]) rfl hB58 hE64 hM65
   have hS67 : Sep w0.heap.size w63 [R.own ty_3 F69 v68 u62, R.blk b45 29 [v32, v34, (.int .i64 u31.1.2.2.1), (.int .i64 u31.1.2.2.2), (.int .i64 u31.2.1), v36, v38], R.own ty_66 F33 v32 u31.1.1, R.own ty_3 F35 v34 u31.1.2.1, R.own ty_3 F39 v38 u31.2.2.2, R.blk b2 29 [v0_0, v0_1, (.int .i64 x0.1.2.2.1), (.int .i64 x0.1.2.2.2), (.int .i64 x0.2.1), v0_2, v0_3], R.blk b7 29 [(.slice none 0 0), (.slice none 0 0), (.int .i64 0), (.int .i64 0), (.int .i64 0), (.slice none 0 0), (.slice none 0 0)]] := hS59.take [3] [0, 1, 2, 4, 5, 6] rfl (M := [R.own ty_3 F37 v36 u31.2.2.1]) rfl hM65 hB58.size
   refine wl_field (o := 5) (off' := 5) ff_29_2 rfl rfl rfl (wl_store_blk (i := 1) (vs := [v68]) (cs' := [v32, v34, (.int .i64 u31.1.2.2.1), (.int .i64 u31.1.2.2.2), (.int .i64 u31.2.1), v68, v38]) tf_25 rfl rfl (cells_one (hS67.own_ro (i := 0) rfl).one) rfl hB66 hS67 rfl rfl ⟨(hS67.own_ro (i := 0) rfl).one, trivial⟩ rfl ?_)
   intro w70 hk73 hB71 hS72
   refine WL.nil fun a ha => hK61 _ _ (W.seq fun K74 hK74 => (W.region (wl_load_blk (i := 1) (vs := [v32, v34, (.int .i64 u31.1.2.2.1), (.int .i64 u31.1.2.2.2), (.int .i64 u31.2.1), v68, v38]) (v := (.agg #[v32, v34, (.int .i64 u31.1.2.2.1), (.int .i64 u31.1.2.2.2), (.int .i64 u31.2.1), v68, v38])) tf_29 rfl rfl hS72 rfl rfl rfl (wl_store_blk (i := 6) (vs := [v32, v34, (.int .i64 u31.1.2.2.1), (.int .i64 u31.1.2.2.2), (.int .i64 u31.2.1), v68, v38]) (cs' := [v32, v34, (.int .i64 u31.1.2.2.1), (.int .i64 u31.1.2.2.2), (.int .i64 u31.2.1), v68, v38]) tf_29 rfl rfl rfl rfl hB71 hS72 rfl rfl ⟨(hS72.own_ro (i := 2) rfl).one, (hS72.own_ro (i := 3) rfl).one, rfl, rfl, rfl, (hS72.own_ro (i := 0) rfl).one, (hS72.own_ro (i := 4) rfl).one, trivial⟩ rfl ?_)))) a ha
   intro w75 hk78 hB76 hS77
   refine wl_assign rfl rfl (WL.nil (fun a ha => hK74 _ _ (W.ret ?_) a ha))
   have hr := Option.some.inj hF
   subst hr
   exact rets (vs := [(.agg #[v32, v34, (.int .i64 u31.1.2.2.1), (.int .i64 u31.1.2.2.2), (.int .i64 u31.2.1), v68, v38]), (.bool true)]) hQ rfl ⟨rv_cell (i := 6) tf_29 rfl hS77 rfl rfl rfl, rv_tmp rfl, trivial⟩ ⟨v32, F33, v34, F35, v68, F69, v38, F39, rfl, hB76, hS77.sel [2, 3, 0, 4] rfl⟩
 refine W.region (wl_load_blk (i := 1) (vs := [v0_0, v0_1, (.int .i64 x0.1.2.2.1), (.int .i64 x0.1.2.2.2), (.int .i64 x0.2.1), v0_2, v0_3]) (v := (.agg #[v0_0, v0_1, (.int .i64 x0.1.2.2.1), (.int .i64 x0.1.2.2.2), (.int .i64 x0.2.1), v0_2, v0_3])) tf_29 rfl rfl hS11 rfl rfl rfl (wl_move rfl rfl ?_))
 obtain ⟨u79, hu79, hF⟩ := bindE hF
 refine wl_call rfl Tryz.call41 (C_impl_hasPerformer w8 x0 v0_0 (h0_0.ro hB10) v0_1 (h0_1.ro hB10) v0_2 (h0_2.ro hB10) v0_3 (h0_3.ro hB10) x1 _ hu79) rfl ?_
 rintro _ w80 ⟨rfl, hb81⟩
 refine ⟨_, rfl, ?_⟩
 have hB82 := hB10.trans (hb81.mono hB10.size)
 have hS83 := hS11.below hb81
 refine wl_not rfl rfl (wl_move rfl rfl ?_)
 rcases bE (!u79) with h85 | h85
 ·replace hF := ifP h85 hF
  refine wl_off rfl rfl rfl h85 (wl_off rfl rfl rfl h85 (wl_off rfl rfl rfl h85 (wl_off rfl rfl rfl h85 (wl_off rfl rfl rfl h85 (wl_pick_t rfl rfl h85 rfl (WL.nil ?_))))))
  exact fun a ha => hJ19 (true) _ hF hB82 (hS83.sel [1, 0] rfl) a (ha.sub ⟨rfl, rfl, rfl, rfl, trivial⟩)
 ·replace hF := ifN h85 hF
  refine wl_on rfl rfl h85 (wl_field (o := 5) (off' := 5) ff_29_2 rfl rfl rfl (wl_on rfl rfl h85 (wl_load_blk (i := 1) (vs := [v0_2]) (v := v0_2) tf_25 rfl rfl hS83 rfl rfl rfl (wl_on rfl rfl h85 (wl_move rfl rfl (wl_on rfl rfl h85 ?_))))))
  obtain ⟨u86, hu86, hF⟩ := bindE hF
  refine wl_call rfl Tryz.call45 (C_slices_Contains_int_int w80 x0.2.2.1 v0_2 (h0_2.ro hB82) x1 _ hu86) rfl ?_
  rintro _ w87 ⟨rfl, hb88⟩
  refine ⟨_, rfl, ?_⟩
  have hB89 := hB82.trans (hb88.mono hB82.size)
  have hS90 := hS83.below hb88
  refine wl_on rfl rfl h85 (wl_not rfl rfl (wl_pick_f rfl rfl h85 rfl (WL.nil ?_)))
  exact fun a ha => hJ19 ((!u86)) _ hF hB89 (hS90.sel [1, 0] rfl) a (ha.sub ⟨rfl, rfl, rfl, rfl, trivial⟩)
theorem C_impl_doBeat (w0 : World) (x0 : (((List (List (Int × Int))) × (List Int) × Int × Int) × Int × (List Int) × (List Int))) (v0_0 : Value) (h0_0 : rdS ty_66 (· < w0.heap.size) w0 v0_0 x0.1.1) (v0_1 : Value) (h0_1 : rdS ty_3 (· < w0.heap.size) w0 v0_1 x0.1.2.1) (v0_2 : Value) (h0_2 : rdS ty_3 (· < w0.heap.size) w0 v0_2 x0.2.2.1) (v0_3 : Value) (h0_3 : rdS ty_3 (· < w0.heap.size) w0 v0_3 x0.2.2.2) (x1 : (Int × Int)) (r : ((((List (List (Int × Int))) × (List Int) × Int × Int) × Int × (List Int) × (List Int)) × Bool)) (hF : F_impl_doBeat x0 x1 = some r) :
  Calls Tryz.prog 30 [(.agg #[v0_0, v0_1, (.int .i64 x0.1.2.2.1), (.int .i64 x0.1.2.2.2), (.int .i64 x0.2.1), v0_2, v0_3]), (.agg #[(.int .i64 x1.1), (.int .i64 x1.2)])].toArray w0 fun e w' => ∃ (q0 : Value) (G0 : List Nat) (q1 : Value) (G1 : List Nat) (q2 : Value) (G2 : List Nat) (q3 : Value) (G3 : List Nat), e = .returned (.tuple #[(.agg #[q0, q1, (.int .i64 r.1.1.2.2.1), (.int .i64 r.1.1.2.2.2), (.int .i64 r.1.2.1), q2, q3]), (.bool r.2)]) ∧ Below w0.heap.size w0 w' ∧ Sep w0.heap.size w' [R.own ty_66 G0 q0 r.1.1.1, R.own ty_3 G1 q1 r.1.1.2.1, R.own ty_3 G2 q2 r.1.2.2.1, R.own ty_3 G3 q3 r.1.2.2.2] := by
 refine calls_mk' Tryz.func30 rfl Tryz.ntmps30 rfl rfl fun Q hQ hP => ?_
 have hB : Below w0.heap.size w0 w0 := Below.refl _ _
 have hS : Sep w0.heap.size w0 [] := Sep.nil _ _
 unfold F_impl_doBeat at hF
 refine W.seq fun K1 hK1 => W.region (wl_box (cs := [v0_0, v0_1, (.int .i64 x0.1.2.2.1), (.int .i64 x0.1.2.2.2), (.int .i64 x0.2.1), v0_2, v0_3]) rfl rfl rfl hB hS ?_)
 intro b2 w3 hb4 hB5 hS6
 refine wl_box (cs := [(.int .i64 x1.1), (.int .i64 x1.2)]) rfl rfl rfl hB5 hS6 ?_
 intro b7 w8 hb9 hB10 hS11
 refine wl_alloc (cs := [(.slice none 0 0), (.slice none 0 0), (.int .i64 0), (.int .i64 0), (.int .i64 0), (.slice none 0 0), (.slice none 0 0)]) tf_29 rfl rfl hB10 hS11 ?_
 intro b12 w13 hb14 hB15 hS16
 refine wl_assign rfl rfl (WL.nil (fun a ha => hK1 _ _ (W.seq fun K17 hK17 => (W.block (W.seq fun K18 hK18 => ?_))) a ha))
 obtain ⟨k23, hk23, hF⟩ := jE1 hF
 have hJ24 : ∀ (y22 : Bool) (w19 : World) (_ : k23 y22 = some r) (_ : Below w0.heap.size w0 w19) (_ : Sep w0.heap.size w19 [R.blk b2 29 [v0_0, v0_1, (.int .i64 x0.1.2.2.1), (.int .i64 x0.1.2.2.2), (.int .i64 x0.2.1), v0_2, v0_3], R.blk b7 59 [(.int .i64 x1.1), (.int .i64 x1.2)], R.blk b12 29 [(.slice none 0 0), (.slice none 0 0), (.int .i64 0), (.int .i64 0), (.int .i64 0), (.slice none 0 0), (.slice none 0 0)]]), ∀ a, St 40 [(2, (.pointer (some ⟨b2, 0, none⟩))), (3, (.pointer (some ⟨b7, 0, none⟩))), (4, (.pointer (some ⟨b12, 0, none⟩))), (6, (.bool y22))] a → K18 a w19 := by
  intro y22 w19 hF hB20 hS21
  subst hk23
  refine fun a ha => hK18 _ _ (W.cond rfl (fun h25 => ?_) (fun h25 => ?_)) a ha
  ·replace hF := ifP h25 hF
   refine W.seq fun K26 hK26 => W.region (wl_load_blk (i := 0) (vs := [v0_0, v0_1, (.int .i64 x0.1.2.2.1), (.int .i64 x0.1.2.2.2), (.int .i64 x0.2.1), v0_2, v0_3]) (v := (.agg #[v0_0, v0_1, (.int .i64 x0.1.2.2.1), (.int .i64 x0.1.2.2.2), (.int .i64 x0.2.1), v0_2, v0_3])) tf_29 rfl rfl hS21 rfl rfl rfl ?_)
   obtain ⟨u27, hu27, hF⟩ := bindE hF
   refine wl_call rfl Tryz.call11 (C_impl_BeatOnce w19 x0 v0_0 (h0_0.ro hB20) v0_1 (h0_1.ro hB20) v0_2 (h0_2.ro hB20) v0_3 (h0_3.ro hB20) _ hu27) rfl ?_
   rintro _ w36 ⟨v28, F29, v30, F31, v32, F33, v34, F35, rfl, hb37, hM40⟩
   refine ⟨_, rfl, ?_⟩
   have hB38 := hB20.trans (hb37.mono hB20.size)
   have hS39 := hS21.join hb37 hM40 hB20.size
   refine wl_extract rfl rfl rfl (wl_extract rfl rfl rfl (wl_store_blk (i := 6) (vs := [v28, v30, (.int .i64 u27.1.1.2.2.1), (.int .i64 u27.1.1.2.2.2), (.int .i64 u27.1.2.1), v32, v34]) (cs' := [v28, v30, (.int .i64 u27.1.1.2.2.1), (.int .i64 u27.1.1.2.2.2), (.int .i64 u27.1.2.1), v32, v34]) tf_29 rfl rfl rfl rfl hB38 hS39 rfl rfl ⟨(hS39.own_ro (i := 0) rfl).one, (hS39.own_ro (i := 1) rfl).one, rfl, rfl, rfl, (hS39.own_ro (i := 2) rfl).one, (hS39.own_ro (i := 3) rfl).one, trivial⟩ rfl ?_))
   intro w41 hk44 hB42 hS43
   refine wl_assign rfl rfl (WL.nil (fun a ha => hK26 _ _ (W.ret ?_) a ha))
   have hr := Option.some.inj hF
   subst hr
   exact rets (vs := [(.agg #[v28, v30, (.int .i64 u27.1.1.2.2.1), (.int .i64 u27.1.1.2.2.2), (.int .i64 u27.1.2.1), v32, v34]), (.bool u27.2)]) hQ rfl ⟨rv_cell (i := 6) tf_29 rfl hS43 rfl rfl rfl, rv_tmp rfl, trivial⟩ ⟨v28, F29, v30, F31, v32, F33, v34, F35, rfl, hB42, hS43.sel [0, 1, 2, 3] rfl⟩
  ·replace hF := ifN h25 hF
   refine W.seq fun K45 hK45 => W.region (wl_field (o := 0) (off' := 0) ff_59_0 rfl rfl rfl (wl_load_blk (i := 1) (vs := [(.int .i64 x1.1)]) (v := (.int .i64 x1.1)) tf_3 rfl rfl hS21 rfl rfl rfl (wl_eql rfl rfl rfl (wl_assign rfl rfl (WL.nil (fun a ha => hK45 _ _ (W.cond rfl (fun h46 => ?_) (fun h46 => ?_)) a ha))))))
   ·replace hF := ifP h46 hF
    refine W.seq fun K47 hK47 => W.region (wl_load_blk (i := 0) (vs := [v0_0, v0_1, (.int .i64 x0.1.2.2.1), (.int .i64 x0.1.2.2.2), (.int .i64 x0.2.1), v0_2, v0_3]) (v := (.agg #[v0_0, v0_1, (.int .i64 x0.1.2.2.1), (.int .i64 x0.1.2.2.2), (.int .i64 x0.2.1), v0_2, v0_3])) tf_29 rfl rfl hS21 rfl rfl rfl (wl_field (o := 1) (off' := 1) ff_59_1 rfl rfl rfl (wl_load_blk (i := 1) (vs := [(.int .i64 x1.2)]) (v := (.int .i64 x1.2)) tf_3 rfl rfl hS21 rfl rfl rfl ?_)))
    obtain ⟨u48, hu48, hF⟩ := bindE hF
    refine wl_call rfl Tryz.call17 (C_impl_HaltPerformer w19 x0 v0_0 (h0_0.ro hB20) v0_1 (h0_1.ro hB20) v0_2 (h0_2.ro hB20) v0_3 (h0_3.ro hB20) x1.2 _ hu48) rfl ?_
    rintro _ w57 ⟨v49, F50, v51, F52, v53, F54, v55, F56, rfl, hb58, hM61⟩
    refine ⟨_, rfl, ?_⟩
    have hB59 := hB20.trans (hb58.mono hB20.size)
    have hS60 := hS21.join hb58 hM61 hB20.size
    refine wl_extract rfl rfl rfl (wl_extract rfl rfl rfl (wl_store_blk (i := 6) (vs := [v49, v51, (.int .i64 u48.1.1.2.2.1), (.int .i64 u48.1.1.2.2.2), (.int .i64 u48.1.2.1), v53, v55]) (cs' := [v49, v51, (.int .i64 u48.1.1.2.2.1), (.int .i64 u48.1.1.2.2.2), (.int .i64 u48.1.2.1), v53, v55]) tf_29 rfl rfl rfl rfl hB59 hS60 rfl rfl ⟨(hS60.own_ro (i := 0) rfl).one, (hS60.own_ro (i := 1) rfl).one, rfl, rfl, rfl, (hS60.own_ro (i := 2) rfl).one, (hS60.own_ro (i := 3) rfl).one, trivial⟩ rfl ?_))
    intro w62 hk65 hB63 hS64
    refine wl_assign rfl rfl (WL.nil (fun a ha => hK47 _ _ (W.ret ?_) a ha))
    have hr := Option.some.inj hF
    subst hr
    exact rets (vs := [(.agg #[v49, v51, (.int .i64 u48.1.1.2.2.1), (.int .i64 u48.1.1.2.2.2), (.int .i64 u48.1.2.1), v53, v55]), (.bool u48.2)]) hQ rfl ⟨rv_cell (i := 6) tf_29 rfl hS64 rfl rfl rfl, rv_tmp rfl, trivial⟩ ⟨v49, F50, v51, F52, v53, F54, v55, F56, rfl, hB63, hS64.sel [0, 1, 2, 3] rfl⟩
   ·replace hF := ifN h46 hF
    refine W.seq fun K66 hK66 => W.region (wl_field (o := 0) (off' := 0) ff_59_0 rfl rfl rfl (wl_load_blk (i := 1) (vs := [(.int .i64 x1.1)]) (v := (.int .i64 x1.1)) tf_3 rfl rfl hS21 rfl rfl rfl (wl_eql rfl rfl rfl (wl_assign rfl rfl (WL.nil (fun a ha => hK66 _ _ (W.cond rfl (fun h67 => ?_) (fun h67 => ?_)) a ha))))))
    ·replace hF := ifP h67 hF
     refine W.seq fun K68 hK68 => W.region (wl_load_blk (i := 0) (vs := [v0_0, v0_1, (.int .i64 x0.1.2.2.1), (.int .i64 x0.1.2.2.2), (.int .i64 x0.2.1), v0_2, v0_3]) (v := (.agg #[v0_0, v0_1, (.int .i64 x0.1.2.2.1), (.int .i64 x0.1.2.2.2), (.int .i64 x0.2.1), v0_2, v0_3])) tf_29 rfl rfl hS21 rfl rfl rfl (wl_field (o := 1) (off' := 1) ff_59_1 rfl rfl rfl (wl_load_blk (i := 1) (vs := [(.int .i64 x1.2)]) (v := (.int .i64 x1.2)) tf_3 rfl rfl hS21 rfl rfl rfl ?_)))
     obtain ⟨u69, hu69, hF⟩ := bindE hF
     refine wl_call rfl Tryz.call19 (C_impl_GoOn w19 x0 v0_0 (h0_0.ro hB20) v0_1 (h0_1.ro hB20) v0_2 (h0_2.ro hB20) v0_3 (h0_3.ro hB20) x1.2 _ hu69) rfl ?_
     rintro _ w78 ⟨v70, F71, v72, F73, v74, F75, v76, F77, rfl, hb79, hM82⟩
     refine ⟨_, rfl, ?_⟩
     have hB80 := hB20.trans (hb79.mono hB20.size)
     have hS81 := hS21.join hb79 hM82 hB20.size
     refine wl_extract rfl rfl rfl (wl_extract rfl rfl rfl (wl_store_blk (i := 6) (vs := [v70, v72, (.int .i64 u69.1.1.2.2.1), (.int .i64 u69.1.1.2.2.2), (.int .i64 u69.1.2.1), v74, v76]) (cs' := [v70, v72, (.int .i64 u69.1.1.2.2.1), (.int .i64 u69.1.1.2.2.2), (.int .i64 u69.1.2.1), v74, v76]) tf_29 rfl rfl rfl rfl hB80 hS81 rfl rfl ⟨(hS81.own_ro (i := 0) rfl).one, (hS81.own_ro (i := 1) rfl).one, rfl, rfl, rfl, (hS81.own_ro (i := 2) rfl).one, (hS81.own_ro (i := 3) rfl).one, trivial⟩ rfl ?_))
     intro w83 hk86 hB84 hS85
     refine wl_assign rfl rfl (WL.nil (fun a ha => hK68 _ _ (W.ret ?_) a ha))
     have hr := Option.some.inj hF
     subst hr
     exact rets (vs := [(.agg #[v70, v72, (.int .i64 u69.1.1.2.2.1), (.int .i64 u69.1.1.2.2.2), (.int .i64 u69.1.2.1), v74, v76]), (.bool u69.2)]) hQ rfl ⟨rv_cell (i := 6) tf_29 rfl hS85 rfl rfl rfl, rv_tmp rfl, trivial⟩ ⟨v70, F71, v72, F73, v74, F75, v76, F77, rfl, hB84, hS85.sel [0, 1, 2, 3] rfl⟩
    ·replace hF := ifN h67 hF
     refine W.skip fun a ha => hK17 _ _ (W.seq fun K87 hK87 => (W.region (wl_build (zs := [(.slice none 0 0), (.slice none 0 0), (.int .i64 0), (.int .i64 0), (.int .i64 0), (.slice none 0 0), (.slice none 0 0)]) (out := [(.slice none 0 0), (.slice none 0 0), (.int .i64 0), (.int .i64 0), (.int .i64 0), (.slice none 0 0), (.slice none 0 0)]) (vs := []) (css := []) tf_29 pl_29 rfl rfl rfl rfl rfl (wl_store_blk (i := 2) (vs := [(.slice none 0 0), (.slice none 0 0), (.int .i64 0), (.int .i64 0), (.int .i64 0), (.slice none 0 0), (.slice none 0 0)]) (cs' := [(.slice none 0 0), (.slice none 0 0), (.int .i64 0), (.int .i64 0), (.int .i64 0), (.slice none 0 0), (.slice none 0 0)]) tf_29 rfl rfl rfl rfl hB20 hS21 rfl rfl ⟨rfl, rfl, rfl, rfl, rfl, rfl, rfl, trivial⟩ rfl ?_)))) a ha
     intro w88 hk91 hB89 hS90
     refine wl_assign rfl rfl (WL.nil (fun a ha => hK87 _ _ (W.ret ?_) a ha))
     have hS92 := hS90.push0 (r := R.own ty_66 [] (.slice none 0 0) []) rfl fun _ => .inl ⟨rfl, rfl, rfl⟩
     have hS93 := hS92.push0 (r := R.own ty_3 [] (.slice none 0 0) []) rfl fun _ => .inl ⟨rfl, rfl, rfl⟩
     have hS94 := hS93.push0 (r := R.own ty_3 [] (.slice none 0 0) []) rfl fun _ => .inl ⟨rfl, rfl, rfl⟩
     have hS95 := hS94.push0 (r := R.own ty_3 [] (.slice none 0 0) []) rfl fun _ => .inl ⟨rfl, rfl, rfl⟩
     have hr := Option.some.inj hF
     subst hr
     exact rets (vs := [(.agg #[(.slice none 0 0), (.slice none 0 0), (.int .i64 0), (.int .i64 0), (.int .i64 0), (.slice none 0 0), (.slice none 0 0)]), (.bool false)]) hQ rfl ⟨rv_cell (i := 2) tf_29 rfl hS90 rfl rfl rfl, rv_tmp rfl, trivial⟩ ⟨(.slice none 0 0), [], (.slice none 0 0), [], (.slice none 0 0), [], (.slice none 0 0), [], rfl, hB89, hS95.sel [3, 2, 1, 0] rfl⟩
 refine W.region (wl_field (o := 0) (off' := 0) ff_59_0 rfl rfl rfl (wl_load_blk (i := 1) (vs := [(.int .i64 x1.1)]) (v := (.int .i64 x1.1)) tf_3 rfl rfl hS16 rfl rfl rfl (wl_eql rfl rfl rfl (wl_move rfl rfl ?_))))
 rcases bE (x1.1 == 1) with h96 | h96
 ·replace hF := ifP h96 hF
  refine wl_on rfl rfl h96 (wl_field (o := 1) (off' := 1) ff_59_1 rfl rfl rfl (wl_on rfl rfl h96 (wl_load_blk (i := 1) (vs := [(.int .i64 x1.2)]) (v := (.int .i64 x1.2)) tf_3 rfl rfl hS16 rfl rfl rfl (wl_on rfl rfl h96 (wl_eql rfl rfl rfl (wl_pick_t rfl rfl h96 rfl (wl_assign rfl rfl (WL.nil ?_))))))))
  exact fun a ha => hJ24 ((x1.2 == 0)) _ hF hB15 (hS16.sel [2, 1, 0] rfl) a (ha.sub ⟨rfl, rfl, rfl, rfl, trivial⟩)
 ·replace hF := ifN h96 hF
  refine wl_off rfl rfl rfl h96 (wl_off rfl rfl rfl h96 (wl_off rfl rfl rfl h96 (wl_pick_f rfl rfl h96 rfl (wl_assign rfl rfl (WL.nil ?_)))))
  exact fun a ha => hJ24 (false) _ hF hB15 (hS16.sel [2, 1, 0] rfl) a (ha.sub ⟨rfl, rfl, rfl, rfl, trivial⟩)
end Go.Proofs.YtmkignciedkidaaGreat
