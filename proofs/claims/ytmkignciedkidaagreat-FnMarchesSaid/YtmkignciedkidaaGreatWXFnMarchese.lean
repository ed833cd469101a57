/-
  THE WALKS of functions of this seat, by program (gen.py, prune.py).
-/
import Derived.Test.YtmkignciedkidaaGreatWXFnMarchesd
set_option linter.unusedSimpArgs false
set_option linter.unusedVariables false
set_option maxRecDepth 100000
set_option maxHeartbeats 1600000
namespace Go.Proofs.YtmkignciedkidaaGreat
open Go Go.RowKit
theorem C_spec_shRows (w0 : World) (x0 : (Int × (Int × Int) × (List (Int × (Int × Int))))) (v0_0 : Value) (h0_0 : rdS ty_104 (· < w0.heap.size) w0 v0_0 x0.2.2) (r : (List ((Int × Int) × (Int × Int) × Int))) (hF : F_spec_shRows x0 = some r) :
  Calls Tryz.prog 88 [(.agg #[(.int .i64 x0.1), (.int .i64 x0.2.1.1), (.int .i64 x0.2.1.2), v0_0])].toArray w0 fun e w' => ∃ (q0 : Value) (G0 : List Nat), e = .returned q0 ∧ Below w0.heap.size w0 w' ∧ Sep w0.heap.size w' [R.own ty_101 G0 q0 r] := by
 refine calls_mk' Tryz.func88 rfl Tryz.ntmps88 rfl rfl fun Q hQ hP => ?_
 have hB : Below w0.heap.size w0 w0 := Below.refl _ _
 have hS : Sep w0.heap.size w0 [] := Sep.nil _ _
 unfold F_spec_shRows at hF
 refine W.seq fun K1 hK1 => W.region (wl_box (cs := [(.int .i64 x0.1), (.int .i64 x0.2.1.1), (.int .i64 x0.2.1.2), v0_0]) rfl rfl rfl hB hS ?_)
 intro b2 w3 hb4 hB5 hS6
 refine wl_assign rfl rfl (WL.nil (fun a ha => hK1 _ _ (W.seq fun K7 hK7 => (W.region (wl_assign rfl rfl (WL.nil (fun a ha => hK7 _ _ (W.seq fun K8 hK8 => (W.region (wl_field (o := 1) (off' := 1) ff_86_1 rfl rfl rfl (wl_load_blk (i := 0) (vs := [(.int .i64 x0.2.1.1), (.int .i64 x0.2.1.2)]) (v := (.agg #[(.int .i64 x0.2.1.1), (.int .i64 x0.2.1.2)])) tf_42 rfl rfl hS6 rfl rfl rfl (wl_alloc (cs := [(.int .i64 0), (.int .i64 0)]) tf_42 rfl rfl hB5 hS6 ?_))))) a ha))))) a ha))
 intro b9 w10 hb11 hB12 hS13
 refine wl_store_blk (i := 0) (vs := [(.int .i64 x0.2.1.1), (.int .i64 x0.2.1.2)]) (cs' := [(.int .i64 x0.2.1.1), (.int .i64 x0.2.1.2)]) tf_42 rfl rfl rfl rfl hB12 hS13 rfl rfl ⟨rfl, rfl, trivial⟩ rfl ?_
 intro w14 hk17 hB15 hS16
 refine WL.nil fun a ha => hK8 _ _ (W.seq fun K18 hK18 => (W.seq fun K19 hK19 => (W.region (wl_field (o := 3) (off' := 3) ff_86_2 rfl rfl rfl (wl_load_blk (i := 1) (vs := [v0_0]) (v := v0_0) tf_84 rfl rfl hS16 rfl rfl rfl (wl_lenr (e := ty_104) (l := x0.2.2) Tryz.underlying84 rfl rfl h0_0 (wl_move rfl rfl (WL.nil (fun a ha => hK19 _ _ (W.block (W.loopk (fun m a w20 => ∃ (l23 : (List ((Int × Int) × (Int × Int) × Int))) (y26 : Int) (y27 : Int) (y28 : Int) (v24 : Value) (F25 : List Nat), St 29 [(3, v24), (4, (.pointer (some ⟨b9, 0, none⟩))), (10, v0_0), (11, (.int .i64 (List.length x0.2.2 : Int))), (12, (.int .i64 y28))] a ∧ Below w0.heap.size w0 w20 ∧ Sep w0.heap.size w20 [R.own ty_101 F25 v24 l23, R.blk b9 42 [(.int .i64 y26), (.int .i64 y27)]] ∧ F_spec_shRows_L1 x0 m l23 y26 y27 y28 = some r) FU ?_ ?_)) a ha))))))))) a ha
 ·
  have hS30 := hS16.push0 (r := R.own ty_101 [] (.slice none 0 0) []) rfl fun _ => .inl ⟨rfl, rfl, rfl⟩
  exact fun a ha => ⟨[], x0.2.1.1, x0.2.1.2, 0, (.slice none 0 0), [], ha.sub ⟨rfl, rfl, rfl, rfl, rfl, trivial⟩, hB15, (hS30.sel [0, 1] rfl), hF⟩
 ·
  rintro m32 a w20 ⟨l23, y26, y27, y28, v24, F25, ha, hB21, hS22, hF⟩ KL31 hKL31
  refine W.at ?_ ha
  cases m32 with
  | zero => exact noneE hF
  | succ m32 =>
   obtain ⟨nx29, hnx29⟩ : ∃ k, k = F_spec_shRows_L1 x0 m32 := ⟨_, rfl⟩
   rw [F_spec_shRows_L1, ← hnx29] at hF
   refine W.seq fun K33 hK33 => W.region (wl_lss rfl rfl rfl (WL.nil (fun a ha => hK33 _ _ (W.seq fun K34 hK34 => (W.cond rfl (fun h35 => ?_) (fun h35 => ?_))) a ha)))
   ·replace hF := ifP h35 hF
    refine W.skip fun a ha => hK34 _ _ (W.seq fun K36 hK36 => (W.block (W.seq fun K37 hK37 => (W.region ?_)))) a ha
    obtain ⟨u38, hu38, hF⟩ := bindE hF
    refine wl_index (e := ty_104) Tryz.underlying84 rfl rfl rfl h0_0 hu38 ?_
    rintro p39 _ rfl hp40
    refine wl_load_p (vs := [(.int .i64 u38.1), (.int .i64 u38.2.1), (.int .i64 u38.2.2)]) (v := (.agg #[(.int .i64 u38.1), (.int .i64 u38.2.1), (.int .i64 u38.2.2)])) tf_104 rfl rfl (hp40.ro hB21) rfl rfl (wl_alloc (cs := [(.int .i64 0), (.int .i64 0), (.int .i64 0)]) tf_104 rfl rfl hB21 hS22 ?_)
    intro b41 w42 hb43 hB44 hS45
    refine wl_store_blk (i := 0) (vs := [(.int .i64 u38.1), (.int .i64 u38.2.1), (.int .i64 u38.2.2)]) (cs' := [(.int .i64 u38.1), (.int .i64 u38.2.1), (.int .i64 u38.2.2)]) tf_104 rfl rfl rfl rfl hB44 hS45 rfl rfl ⟨rfl, rfl, rfl, trivial⟩ rfl ?_
    intro w46 hk49 hB47 hS48
    refine WL.nil fun a ha => hK37 _ _ (W.seq fun K50 hK50 => (W.region (wl_move rfl rfl (wl_load_blk (i := 2) (vs := [(.int .i64 y26), (.int .i64 y27)]) (v := (.agg #[(.int .i64 y26), (.int .i64 y27)])) tf_42 rfl rfl hS48 rfl rfl rfl (wl_field (o := 1) (off' := 1) ff_104_1 rfl rfl rfl (wl_load_blk (i := 0) (vs := [(.int .i64 u38.2.1), (.int .i64 u38.2.2)]) (v := (.agg #[(.int .i64 u38.2.1), (.int .i64 u38.2.2)])) tf_42 rfl rfl hS48 rfl rfl rfl (wl_field (o := 0) (off' := 0) ff_104_0 rfl rfl rfl (wl_load_blk (i := 0) (vs := [(.int .i64 u38.1)]) (v := (.int .i64 u38.1)) tf_3 rfl rfl hS48 rfl rfl rfl ?_)))))))) a ha
    refine wl_build (zs := [(.int .i64 0), (.int .i64 0), (.int .i64 0), (.int .i64 0), (.int .i64 0)]) (out := [(.int .i64 y26), (.int .i64 y27), (.int .i64 u38.2.1), (.int .i64 u38.2.2), (.int .i64 u38.1)]) (vs := [(.agg #[(.int .i64 y26), (.int .i64 y27)]), (.agg #[(.int .i64 u38.2.1), (.int .i64 u38.2.2)]), (.int .i64 u38.1)]) (css := [[(.int .i64 y26), (.int .i64 y27)], [(.int .i64 u38.2.1), (.int .i64 u38.2.2)], [(.int .i64 u38.1)]]) tf_101 pl_101 rfl rfl rfl rfl rfl (wl_lit (vs := [(.agg #[(.int .i64 y26), (.int .i64 y27), (.int .i64 u38.2.1), (.int .i64 u38.2.2), (.int .i64 u38.1)])]) (l := [((y26, y27), u38.2, u38.1)]) fl_101 Tryz.underlying98 rfl rfl rfl rfl rfl rfl hB47 hS48 ?_)
    intro v51 F52 w53 hb54 hB55 hS56
    obtain ⟨u57, hu57, hF⟩ := bindE hF
    refine wl_append (i := 2) (S := (· < w53.heap.size)) fl_101 Tryz.underlying98 rfl rfl rfl hB55 hS56 rfl (hS56.own_ro (i := 0) rfl) hu57 ?_
    intro v58 F59 w60 hk61 hB62 hS63
    refine wl_assign rfl rfl (WL.nil (fun a ha => hK50 _ _ (W.region (wl_field (o := 1) (off' := 1) ff_104_1 rfl rfl rfl (wl_load_blk (i := 1) (vs := [(.int .i64 u38.2.1), (.int .i64 u38.2.2)]) (v := (.agg #[(.int .i64 u38.2.1), (.int .i64 u38.2.2)])) tf_42 rfl rfl hS63 rfl rfl rfl (wl_store_blk (i := 3) (vs := [(.int .i64 u38.2.1), (.int .i64 u38.2.2)]) (cs' := [(.int .i64 u38.2.1), (.int .i64 u38.2.2)]) tf_42 rfl rfl rfl rfl hB62 hS63 rfl rfl ⟨rfl, rfl, trivial⟩ rfl ?_)))) a ha))
    intro w65 hk68 hB66 hS67
    refine WL.nil fun a ha => hK36 _ _ (W.region (wl_add rfl rfl rfl (wl_move rfl rfl (WL.nil ?_)))) a ha
    rw [hnx29] at hF
    exact fun a ha => hKL31 a _ m32 (Nat.lt_succ_self m32) ⟨u57, u38.2.1, u38.2.2, (w64 (y28 + 1)), v58, F59, ha.sub ⟨rfl, rfl, rfl, rfl, rfl, trivial⟩, hB66, (hS67.sel [2, 3] rfl), hF⟩
   ·replace hF := ifN h35 hF
    refine W.exit fun a ha => hK18 _ _ (W.seq fun K69 hK69 => (W.region (wl_move rfl rfl (wl_assign rfl rfl (WL.nil (fun a ha => hK69 _ _ (W.ret ?_) a ha)))))) a ha
    have hr := Option.some.inj hF
    subst hr
    exact rets (vs := [v24]) hQ rfl ⟨rv_tmp rfl, trivial⟩ ⟨v24, F25, rfl, hB21, hS22.sel [0] rfl⟩
theorem C_spec_mvAt (w0 : World) (x0 : ((Int × Int) × (Int × Int) × Int)) (x1 : Int) (r : (Int × Int)) (hF : F_spec_mvAt x0 x1 = some r) :
  Calls Tryz.prog 111 [(.agg #[(.int .i64 x0.1.1), (.int .i64 x0.1.2), (.int .i64 x0.2.1.1), (.int .i64 x0.2.1.2), (.int .i64 x0.2.2)]), (.int .i64 x1)].toArray w0 fun e w' => e = .returned (.tuple #[(.int .i64 r.1), (.int .i64 r.2)]) ∧ Below w0.heap.size w0 w' := by
 refine calls_mk' Tryz.func111 rfl Tryz.ntmps111 rfl rfl fun Q hQ hP => ?_
 have hB : Below w0.heap.size w0 w0 := Below.refl _ _
 have hS : Sep w0.heap.size w0 [] := Sep.nil _ _
 unfold F_spec_mvAt at hF
 refine W.seq fun K1 hK1 => W.region (wl_box (cs := [(.int .i64 x0.1.1), (.int .i64 x0.1.2), (.int .i64 x0.2.1.1), (.int .i64 x0.2.1.2), (.int .i64 x0.2.2)]) rfl rfl rfl hB hS ?_)
 intro b2 w3 hb4 hB5 hS6
 refine wl_assign rfl rfl (wl_assign rfl rfl (WL.nil (fun a ha => hK1 _ _ (W.seq fun K7 hK7 => (W.regionH mixed_ [] hB5 hS6 ?_)) a ha)))
 intro w8 hb9 hB10 hS11
 have hSW12 := KeepX.refl w8 []
 refine WH.tk 0 rfl hP hSW12 (pr_field (o := 0) (off' := 0) ff_101_0 rfl rfl rfl (WH.tk 1 rfl hP hSW12 (pr_field (o := 0) (off' := 0) ff_42_0 rfl rfl rfl (WH.tk 2 rfl hP hSW12 (pr_load_blk (i := 0) (vs := [(.int .i64 x0.1.1)]) (v := (.int .i64 x0.1.1)) tf_3 rfl rfl hS11 rfl rfl rfl (by simp) (WH.tk 3 rfl hP hSW12 (pr_field (o := 4) (off' := 4) ff_101_2 rfl rfl rfl (WH.tk 4 rfl hP hSW12 (pr_load_blk (i := 0) (vs := [(.int .i64 x0.2.2)]) (v := (.int .i64 x0.2.2)) tf_3 rfl rfl hS11 rfl rfl rfl (by simp) (WH.tk 5 rfl hP hSW12 (pr_mul rfl rfl rfl (WH.tk 6 rfl hP hSW12 (pr_field (o := 2) (off' := 2) ff_101_1 rfl rfl rfl ?_)))))))))))))
 refine WH.tk 7 rfl hP hSW12 (pr_field (o := 0) (off' := 2) ff_42_0 rfl rfl rfl (WH.tk 8 rfl hP hSW12 (pr_load_blk (i := 0) (vs := [(.int .i64 x0.2.1.1)]) (v := (.int .i64 x0.2.1.1)) tf_3 rfl rfl hS11 rfl rfl rfl (by simp) (WH.tk 9 rfl hP hSW12 (pr_field (o := 0) (off' := 0) ff_101_0 rfl rfl rfl (WH.tk 10 rfl hP hSW12 (pr_field (o := 0) (off' := 0) ff_42_0 rfl rfl rfl (WH.tk 11 rfl hP hSW12 (pr_load_blk (i := 0) (vs := [(.int .i64 x0.1.1)]) (v := (.int .i64 x0.1.1)) tf_3 rfl rfl hS11 rfl rfl rfl (by simp) (WH.tk 12 rfl hP hSW12 (pr_sub rfl rfl rfl (WH.tk 13 rfl hP hSW12 (pr_move rfl rfl ?_)))))))))))))
 refine WH.tk 14 rfl hP hSW12 (pr_mul rfl rfl rfl (WH.tk 15 rfl hP hSW12 (pr_add rfl rfl rfl (WH.tk 16 rfl hP hSW12 (pr_field (o := 0) (off' := 0) ff_101_0 rfl rfl rfl (WH.tk 17 rfl hP hSW12 (pr_field (o := 1) (off' := 1) ff_42_1 rfl rfl rfl (WH.tk 18 rfl hP hSW12 (pr_load_blk (i := 0) (vs := [(.int .i64 x0.1.2)]) (v := (.int .i64 x0.1.2)) tf_3 rfl rfl hS11 rfl rfl rfl (by simp) (WH.tk 19 rfl hP hSW12 (pr_field (o := 4) (off' := 4) ff_101_2 rfl rfl rfl (WH.tk 20 rfl hP hSW12 (pr_load_blk (i := 0) (vs := [(.int .i64 x0.2.2)]) (v := (.int .i64 x0.2.2)) tf_3 rfl rfl hS11 rfl rfl rfl (by simp) ?_)))))))))))))
 refine WH.tk 21 rfl hP hSW12 (pr_mul rfl rfl rfl (WH.tk 22 rfl hP hSW12 (pr_field (o := 2) (off' := 2) ff_101_1 rfl rfl rfl (WH.tk 23 rfl hP hSW12 (pr_field (o := 1) (off' := 3) ff_42_1 rfl rfl rfl (WH.tk 24 rfl hP hSW12 (pr_load_blk (i := 0) (vs := [(.int .i64 x0.2.1.2)]) (v := (.int .i64 x0.2.1.2)) tf_3 rfl rfl hS11 rfl rfl rfl (by simp) (WH.tk 25 rfl hP hSW12 (pr_field (o := 0) (off' := 0) ff_101_0 rfl rfl rfl (WH.tk 26 rfl hP hSW12 (pr_field (o := 1) (off' := 1) ff_42_1 rfl rfl rfl (WH.tk 27 rfl hP hSW12 (pr_load_blk (i := 0) (vs := [(.int .i64 x0.1.2)]) (v := (.int .i64 x0.1.2)) tf_3 rfl rfl hS11 rfl rfl rfl (by simp) ?_)))))))))))))
 refine WH.tk 28 rfl hP hSW12 (pr_sub rfl rfl rfl (WH.tk 29 rfl hP hSW12 (pr_move rfl rfl (WH.tk 30 rfl hP hSW12 (pr_mul rfl rfl rfl (WH.tk 31 rfl hP hSW12 (pr_add rfl rfl rfl (WH.tk 32 rfl hP hSW12 (pr_assign rfl rfl (WH.tk 33 rfl hP hSW12 (pr_assign rfl rfl (WH.done (by kernel_rfl) (fun a ha => hK7 _ _ ?_ a ha)))))))))))))
 refine W.ret ?_
 have hr := Option.some.inj hF
 subst hr
 exact rets (vs := [(.int .i64 (w64 ((w64 (x0.1.1 * x0.2.2)) + (w64 ((w64 (x0.2.1.1 - x0.1.1)) * x1))))), (.int .i64 (w64 ((w64 (x0.1.2 * x0.2.2)) + (w64 ((w64 (x0.2.1.2 - x0.1.2)) * x1)))))]) hQ rfl ⟨rv_tmp rfl, rv_tmp rfl, trivial⟩ ⟨rfl, hB10⟩
theorem C_spec_mvRound (w0 : World) (x0 : ((Int × Int) × (Int × Int) × Int)) (x1 : Int) (r : (Int × Int)) (hF : F_spec_mvRound x0 x1 = some r) :
  Calls Tryz.prog 89 [(.agg #[(.int .i64 x0.1.1), (.int .i64 x0.1.2), (.int .i64 x0.2.1.1), (.int .i64 x0.2.1.2), (.int .i64 x0.2.2)]), (.int .i64 x1)].toArray w0 fun e w' => e = .returned (.agg #[(.int .i64 r.1), (.int .i64 r.2)]) ∧ Below w0.heap.size w0 w' := by
 refine calls_mk' Tryz.func89 rfl Tryz.ntmps89 rfl rfl fun Q hQ hP => ?_
 have hB : Below w0.heap.size w0 w0 := Below.refl _ _
 have hS : Sep w0.heap.size w0 [] := Sep.nil _ _
 unfold F_spec_mvRound at hF
 refine W.seq fun K1 hK1 => W.region (wl_box (cs := [(.int .i64 x0.1.1), (.int .i64 x0.1.2), (.int .i64 x0.2.1.1), (.int .i64 x0.2.1.2), (.int .i64 x0.2.2)]) rfl rfl rfl hB hS ?_)
 intro b2 w3 hb4 hB5 hS6
 refine wl_alloc (cs := [(.int .i64 0), (.int .i64 0)]) tf_42 rfl rfl hB5 hS6 ?_
 intro b7 w8 hb9 hB10 hS11
 refine WL.nil fun a ha => hK1 _ _ (W.seq fun K12 hK12 => (W.region (wl_load_blk (i := 1) (vs := [(.int .i64 x0.1.1), (.int .i64 x0.1.2), (.int .i64 x0.2.1.1), (.int .i64 x0.2.1.2), (.int .i64 x0.2.2)]) (v := (.agg #[(.int .i64 x0.1.1), (.int .i64 x0.1.2), (.int .i64 x0.2.1.1), (.int .i64 x0.2.1.2), (.int .i64 x0.2.2)])) tf_101 rfl rfl hS11 rfl rfl rfl (wl_move rfl rfl ?_)))) a ha
 obtain ⟨u13, hu13, hF⟩ := bindE hF
 refine wl_call rfl Tryz.call111 (C_spec_mvAt w8 x0 x1 _ hu13) rfl ?_
 rintro _ w14 ⟨rfl, hb15⟩
 refine ⟨_, rfl, ?_⟩
 have hB16 := hB10.trans (hb15.mono hB10.size)
 have hS17 := hS11.below hb15
 refine wl_move rfl rfl (wl_extract rfl rfl rfl (wl_extract rfl rfl rfl (wl_assign rfl rfl (wl_assign rfl rfl (WL.nil (fun a ha => hK12 _ _ (W.seq fun K19 hK19 => (W.regionH mixed_ [b7] hB16 hS17 ?_)) a ha))))))
 intro w20 hb21 hB22 hS23
 have hSW24 := KeepX.refl w20 [b7]
 refine WH.tk 0 rfl hP hSW24 (pr_move rfl rfl (WH.tk 1 rfl hP hSW24 (pr_mul rfl rfl rfl (WH.tk 2 rfl hP hSW24 (pr_field (o := 4) (off' := 4) ff_101_2 rfl rfl rfl (WH.tk 3 rfl hP hSW24 (pr_load_blk (i := 1) (vs := [(.int .i64 x0.2.2)]) (v := (.int .i64 x0.2.2)) tf_3 rfl rfl hS23 rfl rfl rfl (hS23.disj (i := 1) (j := 0) rfl rfl rfl b2 (by simp [R.blk])) (WH.tk 4 rfl hP hSW24 (pr_add rfl rfl rfl (WH.tk 5 rfl hP hSW24 (pr_field (o := 4) (off' := 4) ff_101_2 rfl rfl rfl (WH.tk 6 rfl hP hSW24 (pr_load_blk (i := 1) (vs := [(.int .i64 x0.2.2)]) (v := (.int .i64 x0.2.2)) tf_3 rfl rfl hS23 rfl rfl rfl (hS23.disj (i := 1) (j := 0) rfl rfl rfl b2 (by simp [R.blk])) ?_)))))))))))))
 refine WH.tk 7 rfl hP hSW24 (pr_mul rfl rfl rfl ?_)
 have h25 : (w64 (2 * x0.2.2)) ≠ 0 := fun h25 => noneE (ifP h25 hF)
 replace hF := ifNP h25 hF
 refine WH.tk 8 rfl hP hSW24 (pr_quo rfl rfl rfl h25 (WH.tk 9 rfl hP hSW24 (pr_move rfl rfl (WH.tk 10 rfl hP hSW24 (pr_mul rfl rfl rfl (WH.tk 11 rfl hP hSW24 (pr_field (o := 4) (off' := 4) ff_101_2 rfl rfl rfl (WH.tk 12 rfl hP hSW24 (pr_load_blk (i := 1) (vs := [(.int .i64 x0.2.2)]) (v := (.int .i64 x0.2.2)) tf_3 rfl rfl hS23 rfl rfl rfl (hS23.disj (i := 1) (j := 0) rfl rfl rfl b2 (by simp [R.blk])) (WH.tk 13 rfl hP hSW24 (pr_add rfl rfl rfl (WH.tk 14 rfl hP hSW24 (pr_field (o := 4) (off' := 4) ff_101_2 rfl rfl rfl ?_)))))))))))))
 refine WH.tk 15 rfl hP hSW24 (pr_load_blk (i := 1) (vs := [(.int .i64 x0.2.2)]) (v := (.int .i64 x0.2.2)) tf_3 rfl rfl hS23 rfl rfl rfl (hS23.disj (i := 1) (j := 0) rfl rfl rfl b2 (by simp [R.blk])) (WH.tk 16 rfl hP hSW24 (pr_mul rfl rfl rfl ?_)))
 have h26 : (w64 (2 * x0.2.2)) ≠ 0 := fun h26 => noneE (ifP h26 hF)
 replace hF := ifNP h26 hF
 refine WH.tk 17 rfl hP hSW24 (pr_quo rfl rfl rfl h26 (WH.tk 18 rfl hP hSW24 (pr_build (zs := [(.int .i64 0), (.int .i64 0)]) (out := [(.int .i64 (w64 (Int.tdiv (w64 ((w64 (2 * u13.1)) + x0.2.2)) (w64 (2 * x0.2.2))))), (.int .i64 (w64 (Int.tdiv (w64 ((w64 (2 * u13.2)) + x0.2.2)) (w64 (2 * x0.2.2)))))]) (vs := [(.int .i64 (w64 (Int.tdiv (w64 ((w64 (2 * u13.1)) + x0.2.2)) (w64 (2 * x0.2.2))))), (.int .i64 (w64 (Int.tdiv (w64 ((w64 (2 * u13.2)) + x0.2.2)) (w64 (2 * x0.2.2)))))]) (css := [[(.int .i64 (w64 (Int.tdiv (w64 ((w64 (2 * u13.1)) + x0.2.2)) (w64 (2 * x0.2.2)))))], [(.int .i64 (w64 (Int.tdiv (w64 ((w64 (2 * u13.2)) + x0.2.2)) (w64 (2 * x0.2.2)))))]]) tf_42 pl_42 rfl rfl rfl rfl rfl (WH.on1 19 rfl ?_))))
 refine wl_store_blk (i := 0) (vs := [(.int .i64 (w64 (Int.tdiv (w64 ((w64 (2 * u13.1)) + x0.2.2)) (w64 (2 * x0.2.2))))), (.int .i64 (w64 (Int.tdiv (w64 ((w64 (2 * u13.2)) + x0.2.2)) (w64 (2 * x0.2.2)))))]) (cs' := [(.int .i64 (w64 (Int.tdiv (w64 ((w64 (2 * u13.1)) + x0.2.2)) (w64 (2 * x0.2.2))))), (.int .i64 (w64 (Int.tdiv (w64 ((w64 (2 * u13.2)) + x0.2.2)) (w64 (2 * x0.2.2)))))]) tf_42 rfl rfl rfl rfl hB22 hS23 rfl rfl ⟨rfl, rfl, trivial⟩ rfl ?_
 intro w27 hk30 hB28 hS29
 have hSW31 := hSW24.wr' hk30.1 hk30.2.1 (fun _ _ h => h)
 refine WL.nil (WH.ret hSW31 (WH.done (by kernel_rfl) (fun a ha => hK19 _ _ (W.ret ?_) a ha)))
 have hr := Option.some.inj hF
 subst hr
 exact rets (vs := [(.agg #[(.int .i64 (w64 (Int.tdiv (w64 ((w64 (2 * u13.1)) + x0.2.2)) (w64 (2 * x0.2.2))))), (.int .i64 (w64 (Int.tdiv (w64 ((w64 (2 * u13.2)) + x0.2.2)) (w64 (2 * x0.2.2)))))])]) hQ rfl ⟨rv_cell (i := 0) tf_42 rfl hS29 rfl rfl rfl, trivial⟩ ⟨rfl, hB28⟩
theorem C_spec_SpotAfter (w0 : World) (x0 : (Int × (Int × Int) × (List (Int × (Int × Int))))) (v0_0 : Value) (h0_0 : rdS ty_104 (· < w0.heap.size) w0 v0_0 x0.2.2) (x1 : Int) (r : ((Int × Int) × Bool)) (hF : F_spec_SpotAfter x0 x1 = some r) :
  Calls Tryz.prog 69 [(.agg #[(.int .i64 x0.1), (.int .i64 x0.2.1.1), (.int .i64 x0.2.1.2), v0_0]), (.int .i64 x1)].toArray w0 fun e w' => e = .returned (.tuple #[(.agg #[(.int .i64 r.1.1), (.int .i64 r.1.2)]), (.bool r.2)]) ∧ Below w0.heap.size w0 w' := by
 refine calls_mk' Tryz.func69 rfl Tryz.ntmps69 rfl rfl fun Q hQ hP => ?_
 have hB : Below w0.heap.size w0 w0 := Below.refl _ _
 have hS : Sep w0.heap.size w0 [] := Sep.nil _ _
 unfold F_spec_SpotAfter at hF
 refine W.seq fun K1 hK1 => W.region (wl_box (cs := [(.int .i64 x0.1), (.int .i64 x0.2.1.1), (.int .i64 x0.2.1.2), v0_0]) rfl rfl rfl hB hS ?_)
 intro b2 w3 hb4 hB5 hS6
 refine wl_alloc (cs := [(.int .i64 0), (.int .i64 0)]) tf_42 rfl rfl hB5 hS6 ?_
 intro b7 w8 hb9 hB10 hS11
 refine wl_assign rfl rfl (WL.nil (fun a ha => hK1 _ _ (W.seq fun K12 hK12 => (W.seq fun K13 hK13 => ?_)) a ha))
 obtain ⟨k18, hk18, hF⟩ := jE1 hF
 have hJ19 : ∀ (y17 : Bool) (w14 : World) (_ : k18 y17 = some r) (_ : Below w0.heap.size w0 w14) (_ : Sep w0.heap.size w14 [R.blk b2 86 [(.int .i64 x0.1), (.int .i64 x0.2.1.1), (.int .i64 x0.2.1.2), v0_0], R.blk b7 42 [(.int .i64 0), (.int .i64 0)]]), ∀ a, St 40 [(1, (.int .i64 x1)), (2, (.pointer (some ⟨b2, 0, none⟩))), (4, (.pointer (some ⟨b7, 0, none⟩))), (14, (.bool y17))] a → K13 a w14 := by
  intro y17 w14 hF hB15 hS16
  subst hk18
  refine fun a ha => hK13 _ _ (W.cond rfl (fun h20 => ?_) (fun h20 => ?_)) a ha
  ·replace hF := ifP h20 hF
   refine W.seq fun K21 hK21 => W.region (wl_build (zs := [(.int .i64 0), (.int .i64 0)]) (out := [(.int .i64 0), (.int .i64 0)]) (vs := []) (css := []) tf_42 pl_42 rfl rfl rfl rfl rfl (wl_store_blk (i := 1) (vs := [(.int .i64 0), (.int .i64 0)]) (cs' := [(.int .i64 0), (.int .i64 0)]) tf_42 rfl rfl rfl rfl hB15 hS16 rfl rfl ⟨rfl, rfl, trivial⟩ rfl ?_))
   intro w22 hk25 hB23 hS24
   refine wl_assign rfl rfl (WL.nil (fun a ha => hK21 _ _ (W.ret ?_) a ha))
   have hr := Option.some.inj hF
   subst hr
   exact rets (vs := [(.agg #[(.int .i64 0), (.int .i64 0)]), (.bool false)]) hQ rfl ⟨rv_cell (i := 1) tf_42 rfl hS24 rfl rfl rfl, rv_tmp rfl, trivial⟩ ⟨rfl, hB23⟩
  ·replace hF := ifN h20 hF
   refine W.skip fun a ha => hK12 _ _ (W.seq fun K26 hK26 => (W.seq fun K27 hK27 => (W.region (wl_move rfl rfl (wl_eql rfl rfl rfl (WL.nil (fun a ha => hK27 _ _ (W.cond rfl (fun h28 => ?_) (fun h28 => ?_)) a ha))))))) a ha
   ·replace hF := ifP h28 hF
    refine W.seq fun K29 hK29 => W.region (wl_field (o := 1) (off' := 1) ff_86_1 rfl rfl rfl (wl_load_blk (i := 0) (vs := [(.int .i64 x0.2.1.1), (.int .i64 x0.2.1.2)]) (v := (.agg #[(.int .i64 x0.2.1.1), (.int .i64 x0.2.1.2)])) tf_42 rfl rfl hS16 rfl rfl rfl (wl_store_blk (i := 1) (vs := [(.int .i64 x0.2.1.1), (.int .i64 x0.2.1.2)]) (cs' := [(.int .i64 x0.2.1.1), (.int .i64 x0.2.1.2)]) tf_42 rfl rfl rfl rfl hB15 hS16 rfl rfl ⟨rfl, rfl, trivial⟩ rfl ?_)))
    intro w30 hk33 hB31 hS32
    refine wl_assign rfl rfl (WL.nil (fun a ha => hK29 _ _ (W.ret ?_) a ha))
    have hr := Option.some.inj hF
    subst hr
    exact rets (vs := [(.agg #[(.int .i64 x0.2.1.1), (.int .i64 x0.2.1.2)]), (.bool true)]) hQ rfl ⟨rv_cell (i := 1) tf_42 rfl hS32 rfl rfl rfl, rv_tmp rfl, trivial⟩ ⟨rfl, hB31⟩
   ·replace hF := ifN h28 hF
    refine W.skip fun a ha => hK26 _ _ (W.seq fun K34 hK34 => (W.seq fun K35 hK35 => (W.region (wl_load_blk (i := 0) (vs := [(.int .i64 x0.1), (.int .i64 x0.2.1.1), (.int .i64 x0.2.1.2), v0_0]) (v := (.agg #[(.int .i64 x0.1), (.int .i64 x0.2.1.1), (.int .i64 x0.2.1.2), v0_0])) tf_86 rfl rfl hS16 rfl rfl rfl ?_)))) a ha
    obtain ⟨u36, hu36, hF⟩ := bindE hF
    refine wl_call rfl Tryz.call88 (C_spec_shRows w14 x0 v0_0 (h0_0.ro hB15) _ hu36) rfl ?_
    rintro _ w39 ⟨v37, F38, rfl, hb40, hM43⟩
    refine ⟨_, rfl, ?_⟩
    have hB41 := hB15.trans (hb40.mono hB15.size)
    have hS42 := hS16.join hb40 hM43 hB15.size
    refine wl_lenr (e := ty_101) (l := u36) Tryz.underlying98 rfl rfl (hS42.own_ro (i := 0) rfl) (wl_move rfl rfl (WL.nil (fun a ha => hK35 _ _ (W.block (W.loopk (fun m a w44 => ∃ (y47 : Int) (y48 : Int), St 40 [(1, (.int .i64 y47)), (4, (.pointer (some ⟨b7, 0, none⟩))), (21, v37), (22, (.int .i64 (List.length u36 : Int))), (23, (.int .i64 y48))] a ∧ Below w0.heap.size w0 w44 ∧ Sep w0.heap.size w44 [R.blk b7 42 [(.int .i64 0), (.int .i64 0)], R.own ty_101 F38 v37 u36] ∧ F_spec_SpotAfter_L1 u36 m y47 y48 = some r) FU ?_ ?_)) a ha)))
    ·
     exact fun a ha => ⟨x1, 0, ha.sub ⟨rfl, rfl, rfl, rfl, rfl, trivial⟩, hB41, (hS42.sel [2, 0] rfl), hF⟩
    ·
     rintro m51 a w44 ⟨y47, y48, ha, hB45, hS46, hF⟩ KL50 hKL50
     refine W.at ?_ ha
     cases m51 with
     | zero => exact noneE hF
     | succ m51 =>
      obtain ⟨nx49, hnx49⟩ : ∃ k, k = F_spec_SpotAfter_L1 u36 m51 := ⟨_, rfl⟩
      rw [F_spec_SpotAfter_L1, ← hnx49] at hF
      refine W.seq fun K52 hK52 => W.region (wl_lss rfl rfl rfl (WL.nil (fun a ha => hK52 _ _ (W.seq fun K53 hK53 => (W.cond rfl (fun h54 => ?_) (fun h54 => ?_))) a ha)))
      ·replace hF := ifP h54 hF
       refine W.skip fun a ha => hK53 _ _ (W.seq fun K55 hK55 => (W.block (W.seq fun K56 hK56 => (W.region ?_)))) a ha
       obtain ⟨u57, hu57, hF⟩ := bindE hF
       refine wl_indexo (e := ty_101) (i := 1) Tryz.underlying98 rfl rfl rfl hS46 rfl hu57 ?_
       rintro p58 _ rfl hp59 ho60
       refine wl_load_p (vs := [(.int .i64 u57.1.1), (.int .i64 u57.1.2), (.int .i64 u57.2.1.1), (.int .i64 u57.2.1.2), (.int .i64 u57.2.2)]) (v := (.agg #[(.int .i64 u57.1.1), (.int .i64 u57.1.2), (.int .i64 u57.2.1.1), (.int .i64 u57.2.1.2), (.int .i64 u57.2.2)])) tf_101 rfl rfl hp59 rfl rfl (wl_alloc (cs := [(.int .i64 0), (.int .i64 0), (.int .i64 0), (.int .i64 0), (.int .i64 0)]) tf_101 rfl rfl hB45 hS46 ?_)
       intro b61 w62 hb63 hB64 hS65
       refine wl_store_blk (i := 0) (vs := [(.int .i64 u57.1.1), (.int .i64 u57.1.2), (.int .i64 u57.2.1.1), (.int .i64 u57.2.1.2), (.int .i64 u57.2.2)]) (cs' := [(.int .i64 u57.1.1), (.int .i64 u57.1.2), (.int .i64 u57.2.1.1), (.int .i64 u57.2.1.2), (.int .i64 u57.2.2)]) tf_101 rfl rfl rfl rfl hB64 hS65 rfl rfl ⟨rfl, rfl, rfl, rfl, rfl, trivial⟩ rfl ?_
       intro w66 hk69 hB67 hS68
       refine WL.nil fun a ha => hK56 _ _ (W.seq fun K70 hK70 => (W.seq fun K71 hK71 => (W.region (wl_move rfl rfl (wl_field (o := 4) (off' := 4) ff_101_2 rfl rfl rfl (wl_load_blk (i := 0) (vs := [(.int .i64 u57.2.2)]) (v := (.int .i64 u57.2.2)) tf_3 rfl rfl hS68 rfl rfl rfl (wl_leq rfl rfl rfl (WL.nil (fun a ha => hK71 _ _ (W.cond rfl (fun h72 => ?_) (fun h72 => ?_)) a ha))))))))) a ha
       ·replace hF := ifP h72 hF
        refine W.seq fun K73 hK73 => W.region (wl_load_blk (i := 0) (vs := [(.int .i64 u57.1.1), (.int .i64 u57.1.2), (.int .i64 u57.2.1.1), (.int .i64 u57.2.1.2), (.int .i64 u57.2.2)]) (v := (.agg #[(.int .i64 u57.1.1), (.int .i64 u57.1.2), (.int .i64 u57.2.1.1), (.int .i64 u57.2.1.2), (.int .i64 u57.2.2)])) tf_101 rfl rfl hS68 rfl rfl rfl (wl_move rfl rfl ?_))
        obtain ⟨u74, hu74, hF⟩ := bindE hF
        refine wl_call rfl Tryz.call89 (C_spec_mvRound w66 u57 y47 _ hu74) rfl ?_
        rintro _ w75 ⟨rfl, hb76⟩
        refine ⟨_, rfl, ?_⟩
        have hB77 := hB67.trans (hb76.mono hB67.size)
        have hS78 := hS68.below hb76
        refine wl_store_blk (i := 1) (vs := [(.int .i64 u74.1), (.int .i64 u74.2)]) (cs' := [(.int .i64 u74.1), (.int .i64 u74.2)]) tf_42 rfl rfl rfl rfl hB77 hS78 rfl rfl ⟨rfl, rfl, trivial⟩ rfl ?_
        intro w80 hk83 hB81 hS82
        refine wl_assign rfl rfl (WL.nil (fun a ha => hK73 _ _ (W.ret ?_) a ha))
        have hr := Option.some.inj hF
        subst hr
        exact rets (vs := [(.agg #[(.int .i64 u74.1), (.int .i64 u74.2)]), (.bool true)]) hQ rfl ⟨rv_cell (i := 1) tf_42 rfl hS82 rfl rfl rfl, rv_tmp rfl, trivial⟩ ⟨rfl, hB81⟩
       ·replace hF := ifN h72 hF
        refine W.skip fun a ha => hK70 _ _ (W.region (wl_move rfl rfl (wl_field (o := 4) (off' := 4) ff_101_2 rfl rfl rfl (wl_load_blk (i := 0) (vs := [(.int .i64 u57.2.2)]) (v := (.int .i64 u57.2.2)) tf_3 rfl rfl hS68 rfl rfl rfl (wl_sub rfl rfl rfl (wl_assign rfl rfl (WL.nil (fun a ha => hK55 _ _ (W.region (wl_add rfl rfl rfl (wl_move rfl rfl (WL.nil ?_)))) a ha)))))))) a ha
        rw [hnx49] at hF
        exact fun a ha => hKL50 a _ m51 (Nat.lt_succ_self m51) ⟨(w64 (y47 - u57.2.2)), (w64 (y48 + 1)), ha.sub ⟨rfl, rfl, rfl, rfl, rfl, trivial⟩, hB67, (hS68.sel [1, 2] rfl), hF⟩
      ·replace hF := ifN h54 hF
       refine W.exit fun a ha => hK34 _ _ (W.seq fun K84 hK84 => (W.region (wl_build (zs := [(.int .i64 0), (.int .i64 0)]) (out := [(.int .i64 0), (.int .i64 0)]) (vs := []) (css := []) tf_42 pl_42 rfl rfl rfl rfl rfl (wl_store_blk (i := 0) (vs := [(.int .i64 0), (.int .i64 0)]) (cs' := [(.int .i64 0), (.int .i64 0)]) tf_42 rfl rfl rfl rfl hB45 hS46 rfl rfl ⟨rfl, rfl, trivial⟩ rfl ?_)))) a ha
       intro w85 hk88 hB86 hS87
       refine wl_assign rfl rfl (WL.nil (fun a ha => hK84 _ _ (W.ret ?_) a ha))
       have hr := Option.some.inj hF
       subst hr
       exact rets (vs := [(.agg #[(.int .i64 0), (.int .i64 0)]), (.bool false)]) hQ rfl ⟨rv_cell (i := 0) tf_42 rfl hS87 rfl rfl rfl, rv_tmp rfl, trivial⟩ ⟨rfl, hB86⟩
 refine W.region (wl_load_blk (i := 1) (vs := [(.int .i64 x0.1), (.int .i64 x0.2.1.1), (.int .i64 x0.2.1.2), v0_0]) (v := (.agg #[(.int .i64 x0.1), (.int .i64 x0.2.1.1), (.int .i64 x0.2.1.2), v0_0])) tf_86 rfl rfl hS11 rfl rfl rfl ?_)
 obtain ⟨u89, hu89, hF⟩ := bindE hF
 refine wl_call rfl Tryz.call87 (C_spec_shGood w8 x0 v0_0 (h0_0.ro hB10) _ hu89) rfl ?_
 rintro _ w90 ⟨rfl, hb91⟩
 refine ⟨_, rfl, ?_⟩
 have hB92 := hB10.trans (hb91.mono hB10.size)
 have hS93 := hS11.below hb91
 refine wl_not rfl rfl (wl_move rfl rfl ?_)
 rcases bE (!u89) with h95 | h95
 ·replace hF := ifP h95 hF
  refine wl_off rfl rfl rfl h95 (wl_off rfl rfl rfl h95 (wl_pick_t rfl rfl h95 rfl (WL.nil ?_)))
  exact fun a ha => hJ19 (true) _ hF hB92 (hS93.sel [1, 0] rfl) a (ha.sub ⟨rfl, rfl, rfl, rfl, trivial⟩)
 ·replace hF := ifN h95 hF
  refine wl_on rfl rfl h95 (wl_move rfl rfl (wl_on rfl rfl h95 (wl_lss rfl rfl rfl (wl_pick_f rfl rfl h95 rfl (WL.nil ?_)))))
  exact fun a ha => hJ19 ((decide (x1 < 0))) _ hF hB92 (hS93.sel [1, 0] rfl) a (ha.sub ⟨rfl, rfl, rfl, rfl, trivial⟩)
theorem C_spec_mnWhere (w0 : World) (x0 : (((List (List (Int × Int))) × (List Int) × Int × Int) × Int × (List Int) × (List Int))) (v0_0 : Value) (h0_0 : rdS ty_66 (· < w0.heap.size) w0 v0_0 x0.1.1) (v0_1 : Value) (h0_1 : rdS ty_3 (· < w0.heap.size) w0 v0_1 x0.1.2.1) (v0_2 : Value) (h0_2 : rdS ty_3 (· < w0.heap.size) w0 v0_2 x0.2.2.1) (v0_3 : Value) (h0_3 : rdS ty_3 (· < w0.heap.size) w0 v0_3 x0.2.2.2) (x1 : Int) (r : (Int × Int)) (hF : F_spec_mnWhere x0 x1 = some r) :
  Calls Tryz.prog 44 [(.agg #[v0_0, v0_1, (.int .i64 x0.1.2.2.1), (.int .i64 x0.1.2.2.2), (.int .i64 x0.2.1), v0_2, v0_3]), (.int .i64 x1)].toArray w0 fun e w' => e = .returned (.agg #[(.int .i64 r.1), (.int .i64 r.2)]) ∧ Below w0.heap.size w0 w' := by
 refine calls_mk' Tryz.func44 rfl Tryz.ntmps44 rfl rfl fun Q hQ hP => ?_
 have hB : Below w0.heap.size w0 w0 := Below.refl _ _
 have hS : Sep w0.heap.size w0 [] := Sep.nil _ _
 unfold F_spec_mnWhere at hF
 refine W.seq fun K1 hK1 => W.region (wl_box (cs := [v0_0, v0_1, (.int .i64 x0.1.2.2.1), (.int .i64 x0.1.2.2.2), (.int .i64 x0.2.1), v0_2, v0_3]) rfl rfl rfl hB hS ?_)
 intro b2 w3 hb4 hB5 hS6
 refine wl_alloc (cs := [(.int .i64 0), (.int .i64 0)]) tf_42 rfl rfl hB5 hS6 ?_
 intro b7 w8 hb9 hB10 hS11
 refine WL.nil fun a ha => hK1 _ _ (W.seq fun K12 hK12 => ?_) a ha
 obtain ⟨k19, hk19, hF⟩ := jE2 hF
 have hJ20 : ∀ (y17 : Int) (y18 : Int) (b16 : Nat) (w13 : World) (_ : k19 y17 y18 = some r) (_ : Below w0.heap.size w0 w13) (_ : Sep w0.heap.size w13 [R.blk b7 42 [(.int .i64 0), (.int .i64 0)], R.blk b16 42 [(.int .i64 y17), (.int .i64 y18)]]), ∀ a, St 23 [(4, (.pointer (some ⟨b7, 0, none⟩))), (5, (.pointer (some ⟨b16, 0, none⟩)))] a → K12 a w13 := by
  intro y17 y18 b16 w13 hF hB14 hS15
  subst hk19
  refine fun a ha => hK12 _ _ (W.seq fun K21 hK21 => (W.region (wl_load_blk (i := 1) (vs := [(.int .i64 y17), (.int .i64 y18)]) (v := (.agg #[(.int .i64 y17), (.int .i64 y18)])) tf_42 rfl rfl hS15 rfl rfl rfl (wl_store_blk (i := 0) (vs := [(.int .i64 y17), (.int .i64 y18)]) (cs' := [(.int .i64 y17), (.int .i64 y18)]) tf_42 rfl rfl rfl rfl hB14 hS15 rfl rfl ⟨rfl, rfl, trivial⟩ rfl ?_)))) a ha
  intro w22 hk25 hB23 hS24
  refine WL.nil fun a ha => hK21 _ _ (W.ret ?_) a ha
  have hr := Option.some.inj hF
  subst hr
  exact rets (vs := [(.agg #[(.int .i64 y17), (.int .i64 y18)])]) hQ rfl ⟨rv_cell (i := 0) tf_42 rfl hS24 rfl rfl rfl, trivial⟩ ⟨rfl, hB23⟩
 refine W.regionH mixed_ [] hB10 hS11 ?_
 intro w26 hb27 hB28 hS29
 have hSW30 := KeepX.refl w26 []
 refine WH.tk 0 rfl hP hSW30 (pr_field (o := 0) (off' := 0) ff_29_0 rfl rfl rfl (WH.tk 1 rfl hP hSW30 (pr_field (o := 0) (off' := 0) ff_27_0 rfl rfl rfl (WH.tk 2 rfl hP hSW30 (pr_load_blk (i := 1) (vs := [v0_0]) (v := v0_0) tf_24 rfl rfl hS29 rfl rfl rfl (by simp) (WH.tk 3 rfl hP hSW30 (pr_field (o := 0) (off' := 0) ff_29_0 rfl rfl rfl (WH.tk 4 rfl hP hSW30 (pr_field (o := 1) (off' := 1) ff_27_1 rfl rfl rfl (WH.tk 5 rfl hP hSW30 (pr_load_blk (i := 1) (vs := [v0_1]) (v := v0_1) tf_25 rfl rfl hS29 rfl rfl rfl (by simp) (WH.tk 6 rfl hP hSW30 (pr_move rfl rfl ?_)))))))))))))
 refine WH.tk 8 rfl hP hSW30 (pr_load_blk (i := 1) (vs := [v0_0, v0_1, (.int .i64 x0.1.2.2.1), (.int .i64 x0.1.2.2.2), (.int .i64 x0.2.1), v0_2, v0_3]) (v := (.agg #[v0_0, v0_1, (.int .i64 x0.1.2.2.1), (.int .i64 x0.1.2.2.2), (.int .i64 x0.2.1), v0_2, v0_3])) tf_29 rfl rfl hS29 rfl rfl rfl (by simp) (WH.tk 9 rfl hP hSW30 (pr_move rfl rfl (WH.many (is := [7, 15]) (by kernel_rfl) rfl (List.forall_mem_cons.2 ⟨⟨_, rfl, ?_⟩, List.forall_mem_cons.2 ⟨⟨_, rfl, ?_⟩, fun _ h => by cases h⟩⟩)))))
 ·
  obtain ⟨u31, hu31, hF⟩ := bindE hF
  refine wl_call rfl Tryz.call70 (C_spec_shOf w26 x0.1.1 v0_0 (h0_0.ro hB28) x0.1.2.1 v0_1 (h0_1.ro hB28) x1 _ hu31) rfl ?_
  rintro _ w34 ⟨v32, F33, rfl, hb35, hM38⟩
  refine ⟨_, rfl, ?_⟩
  have hB36 := hB28.trans (hb35.mono hB28.size)
  have hS37 := hS29.join hb35 hM38 hB28.size
  have hSW40 := hSW30.ext hb35
  refine WL.nil (WH.ret hSW40 (WH.many (is := [10, 15]) (by kernel_rfl) rfl (List.forall_mem_cons.2 ⟨⟨_, rfl, ?_⟩, List.forall_mem_cons.2 ⟨⟨_, rfl, ?_⟩, fun _ h => by cases h⟩⟩)))
  ·
   obtain ⟨u41, hu41, hF⟩ := bindE hF
   refine wl_call rfl Tryz.call71 (C_spec_mnCount w34 x0 v0_0 (h0_0.ro hB36) v0_1 (h0_1.ro hB36) v0_2 (h0_2.ro hB36) v0_3 (h0_3.ro hB36) x1 _ hu41) rfl ?_
   rintro _ w42 ⟨rfl, hb43⟩
   refine ⟨_, rfl, ?_⟩
   have hB44 := hB36.trans (hb43.mono hB36.size)
   have hS45 := hS37.below hb43
   have hSW47 := hSW40.ext hb43
   refine WL.nil (WH.ret hSW47 (WH.many (is := [11, 15]) (by kernel_rfl) rfl (List.forall_mem_cons.2 ⟨⟨_, rfl, ?_⟩, List.forall_mem_cons.2 ⟨⟨_, rfl, ?_⟩, fun _ h => by cases h⟩⟩)))
   ·
    obtain ⟨u48, hu48, hF⟩ := bindE hF
    refine wl_call rfl Tryz.call69 (C_spec_SpotAfter w42 u31 v32 (hS45.own_ro (i := 0) rfl) u41 _ hu48) rfl ?_
    rintro _ w49 ⟨rfl, hb50⟩
    refine ⟨_, rfl, ?_⟩
    have hB51 := hB44.trans (hb50.mono hB44.size)
    have hS52 := hS45.below hb50
    have hSW54 := hSW47.ext hb50
    refine WL.nil (WH.ret hSW54 (WH.tk 12 rfl hP hSW54 (pr_move rfl rfl (WH.tk 13 rfl hP hSW54 (pr_extract rfl rfl rfl (WH.tk 14 rfl hP hSW54 (pr_extract rfl rfl rfl (WH.on1 15 rfl (wl_alloc (cs := [(.int .i64 0), (.int .i64 0)]) tf_42 rfl rfl (Below.self w49) (Sep.nil _ _) ?_)))))))))
    intro b55 w56 hb57 hB60 hM61
    have hB58 := hB51.trans (hb57.mono hB51.size)
    have hS59 := hS52.join hb57 hM61 hB51.size
    have hn62 : ∀ b ∈ [b55], w26.heap.size ≤ b := fun b hb => Nat.le_trans hSW54.size ((hM61.1 _ (List.mem_cons_self ..)).2.1 b hb).1
    have hSW63 := hSW54.ext hb57
    refine WL.nil (WH.ret hSW63 (WH.on1 16 rfl (wl_store_blk (i := 0) (vs := [(.int .i64 u48.1.1), (.int .i64 u48.1.2)]) (cs' := [(.int .i64 u48.1.1), (.int .i64 u48.1.2)]) tf_42 rfl rfl rfl rfl hB58 hS59 rfl rfl ⟨rfl, rfl, trivial⟩ rfl ?_)))
    intro w65 hk68 hB66 hS67
    have hSW69 := hSW63.wr' hk68.1 hk68.2.1 (fun b hlt hb => absurd hlt (Nat.not_lt.2 (hn62 b hb)))
    refine WL.nil (WH.ret hSW69 (WH.tk 17 rfl hP hSW69 (pr_assign rfl rfl (WH.done (by kernel_rfl) ?_))))
    exact fun a ha => hJ20 (u48.1.1) (u48.1.2) (b55) _ hF hB66 (hS67.sel [2, 0] rfl) a (ha.sub ⟨rfl, rfl, trivial⟩)
   ·
    refine wl_alloc (cs := [(.int .i64 0), (.int .i64 0)]) tf_42 rfl rfl (Below.self w42) (Sep.nil _ _) ?_
    intro b71 w72 hb73 hB76 hM77
    have hB74 := hB44.trans (hb73.mono hB44.size)
    have hS75 := hS45.join hb73 hM77 hB44.size
    have hn78 : ∀ b ∈ [b71], w26.heap.size ≤ b := fun b hb => Nat.le_trans hSW47.size ((hM77.1 _ (List.mem_cons_self ..)).2.1 b hb).1
    have hSW79 := hSW47.ext hb73
    refine WL.nil (WH.ret hSW79 (WH.on1 11 rfl ?_))
    obtain ⟨u80, hu80, hF⟩ := bindE hF
    refine wl_call rfl Tryz.call69 (C_spec_SpotAfter w72 u31 v32 (hS75.own_ro (i := 1) rfl) u41 _ hu80) rfl ?_
    rintro _ w81 ⟨rfl, hb82⟩
    refine ⟨_, rfl, ?_⟩
    have hB83 := hB74.trans (hb82.mono hB74.size)
    have hS84 := hS75.below hb82
    have hSW86 := hSW79.ext hb82
    refine WL.nil (WH.ret hSW86 (WH.tk 12 rfl hP hSW86 (pr_move rfl rfl (WH.tk 13 rfl hP hSW86 (pr_extract rfl rfl rfl (WH.tk 14 rfl hP hSW86 (pr_extract rfl rfl rfl (WH.on1 16 rfl (wl_store_blk (i := 0) (vs := [(.int .i64 u80.1.1), (.int .i64 u80.1.2)]) (cs' := [(.int .i64 u80.1.1), (.int .i64 u80.1.2)]) tf_42 rfl rfl rfl rfl hB83 hS84 rfl rfl ⟨rfl, rfl, trivial⟩ rfl ?_)))))))))
    intro w87 hk90 hB88 hS89
    have hSW91 := hSW86.wr' hk90.1 hk90.2.1 (fun b hlt hb => absurd hlt (Nat.not_lt.2 (hn78 b hb)))
    refine WL.nil (WH.ret hSW91 (WH.tk 17 rfl hP hSW91 (pr_assign rfl rfl (WH.done (by kernel_rfl) ?_))))
    exact fun a ha => hJ20 (u80.1.1) (u80.1.2) (b71) _ hF hB88 (hS89.sel [2, 0] rfl) a (ha.sub ⟨rfl, rfl, trivial⟩)
  ·
   refine wl_alloc (cs := [(.int .i64 0), (.int .i64 0)]) tf_42 rfl rfl (Below.self w34) (Sep.nil _ _) ?_
   intro b93 w94 hb95 hB98 hM99
   have hB96 := hB36.trans (hb95.mono hB36.size)
   have hS97 := hS37.join hb95 hM99 hB36.size
   have hn100 : ∀ b ∈ [b93], w26.heap.size ≤ b := fun b hb => Nat.le_trans hSW40.size ((hM99.1 _ (List.mem_cons_self ..)).2.1 b hb).1
   have hSW101 := hSW40.ext hb95
   refine WL.nil (WH.ret hSW101 (WH.on1 10 rfl ?_))
   obtain ⟨u102, hu102, hF⟩ := bindE hF
   refine wl_call rfl Tryz.call71 (C_spec_mnCount w94 x0 v0_0 (h0_0.ro hB96) v0_1 (h0_1.ro hB96) v0_2 (h0_2.ro hB96) v0_3 (h0_3.ro hB96) x1 _ hu102) rfl ?_
   rintro _ w103 ⟨rfl, hb104⟩
   refine ⟨_, rfl, ?_⟩
   have hB105 := hB96.trans (hb104.mono hB96.size)
   have hS106 := hS97.below hb104
   have hSW108 := hSW101.ext hb104
   refine WL.nil (WH.ret hSW108 (WH.on1 11 rfl ?_))
   obtain ⟨u109, hu109, hF⟩ := bindE hF
   refine wl_call rfl Tryz.call69 (C_spec_SpotAfter w103 u31 v32 (hS106.own_ro (i := 1) rfl) u102 _ hu109) rfl ?_
   rintro _ w110 ⟨rfl, hb111⟩
   refine ⟨_, rfl, ?_⟩
   have hB112 := hB105.trans (hb111.mono hB105.size)
   have hS113 := hS106.below hb111
   have hSW115 := hSW108.ext hb111
   refine WL.nil (WH.ret hSW115 (WH.tk 12 rfl hP hSW115 (pr_move rfl rfl (WH.tk 13 rfl hP hSW115 (pr_extract rfl rfl rfl (WH.tk 14 rfl hP hSW115 (pr_extract rfl rfl rfl (WH.on1 16 rfl (wl_store_blk (i := 0) (vs := [(.int .i64 u109.1.1), (.int .i64 u109.1.2)]) (cs' := [(.int .i64 u109.1.1), (.int .i64 u109.1.2)]) tf_42 rfl rfl rfl rfl hB112 hS113 rfl rfl ⟨rfl, rfl, trivial⟩ rfl ?_)))))))))
   intro w116 hk119 hB117 hS118
   have hSW120 := hSW115.wr' hk119.1 hk119.2.1 (fun b hlt hb => absurd hlt (Nat.not_lt.2 (hn100 b hb)))
   refine WL.nil (WH.ret hSW120 (WH.tk 17 rfl hP hSW120 (pr_assign rfl rfl (WH.done (by kernel_rfl) ?_))))
   exact fun a ha => hJ20 (u109.1.1) (u109.1.2) (b93) _ hF hB117 (hS118.sel [2, 0] rfl) a (ha.sub ⟨rfl, rfl, trivial⟩)
 ·
  refine wl_alloc (cs := [(.int .i64 0), (.int .i64 0)]) tf_42 rfl rfl (Below.self w26) (Sep.nil _ _) ?_
  intro b122 w123 hb124 hB127 hM128
  have hB125 := hB28.trans (hb124.mono hB28.size)
  have hS126 := hS29.join hb124 hM128 hB28.size
  have hn129 : ∀ b ∈ [b122], w26.heap.size ≤ b := fun b hb => Nat.le_trans hSW30.size ((hM128.1 _ (List.mem_cons_self ..)).2.1 b hb).1
  have hSW130 := hSW30.ext hb124
  refine WL.nil (WH.ret hSW130 (WH.on1 7 rfl ?_))
  obtain ⟨u131, hu131, hF⟩ := bindE hF
  refine wl_call rfl Tryz.call70 (C_spec_shOf w123 x0.1.1 v0_0 (h0_0.ro hB125) x0.1.2.1 v0_1 (h0_1.ro hB125) x1 _ hu131) rfl ?_
  rintro _ w134 ⟨v132, F133, rfl, hb135, hM138⟩
  refine ⟨_, rfl, ?_⟩
  have hB136 := hB125.trans (hb135.mono hB125.size)
  have hS137 := hS126.join hb135 hM138 hB125.size
  have hSW140 := hSW130.ext hb135
  refine WL.nil (WH.ret hSW140 (WH.on1 10 rfl ?_))
  obtain ⟨u141, hu141, hF⟩ := bindE hF
  refine wl_call rfl Tryz.call71 (C_spec_mnCount w134 x0 v0_0 (h0_0.ro hB136) v0_1 (h0_1.ro hB136) v0_2 (h0_2.ro hB136) v0_3 (h0_3.ro hB136) x1 _ hu141) rfl ?_
  rintro _ w142 ⟨rfl, hb143⟩
  refine ⟨_, rfl, ?_⟩
  have hB144 := hB136.trans (hb143.mono hB136.size)
  have hS145 := hS137.below hb143
  have hSW147 := hSW140.ext hb143
  refine WL.nil (WH.ret hSW147 (WH.on1 11 rfl ?_))
  obtain ⟨u148, hu148, hF⟩ := bindE hF
  refine wl_call rfl Tryz.call69 (C_spec_SpotAfter w142 u131 v132 (hS145.own_ro (i := 0) rfl) u141 _ hu148) rfl ?_
  rintro _ w149 ⟨rfl, hb150⟩
  refine ⟨_, rfl, ?_⟩
  have hB151 := hB144.trans (hb150.mono hB144.size)
  have hS152 := hS145.below hb150
  have hSW154 := hSW147.ext hb150
  refine WL.nil (WH.ret hSW154 (WH.tk 12 rfl hP hSW154 (pr_move rfl rfl (WH.tk 13 rfl hP hSW154 (pr_extract rfl rfl rfl (WH.tk 14 rfl hP hSW154 (pr_extract rfl rfl rfl (WH.on1 16 rfl (wl_store_blk (i := 1) (vs := [(.int .i64 u148.1.1), (.int .i64 u148.1.2)]) (cs' := [(.int .i64 u148.1.1), (.int .i64 u148.1.2)]) tf_42 rfl rfl rfl rfl hB151 hS152 rfl rfl ⟨rfl, rfl, trivial⟩ rfl ?_)))))))))
  intro w155 hk158 hB156 hS157
  have hSW159 := hSW154.wr' hk158.1 hk158.2.1 (fun b hlt hb => absurd hlt (Nat.not_lt.2 (hn129 b hb)))
  refine WL.nil (WH.ret hSW159 (WH.tk 17 rfl hP hSW159 (pr_assign rfl rfl (WH.done (by kernel_rfl) ?_))))
  exact fun a ha => hJ20 (u148.1.1) (u148.1.2) (b122) _ hF hB156 (hS157.sel [2, 1] rfl) a (ha.sub ⟨rfl, rfl, trivial⟩)
theorem C_spec_WhereNow (w0 : World) (x0 : (((List (List (Int × Int))) × (List Int) × Int × Int) × Int × (List Int) × (List Int))) (v0_0 : Value) (h0_0 : rdS ty_66 (· < w0.heap.size) w0 v0_0 x0.1.1) (v0_1 : Value) (h0_1 : rdS ty_3 (· < w0.heap.size) w0 v0_1 x0.1.2.1) (v0_2 : Value) (h0_2 : rdS ty_3 (· < w0.heap.size) w0 v0_2 x0.2.2.1) (v0_3 : Value) (h0_3 : rdS ty_3 (· < w0.heap.size) w0 v0_3 x0.2.2.2) (x1 : Int) (r : ((Int × Int) × Bool)) (hF : F_spec_WhereNow x0 x1 = some r) :
  Calls Tryz.prog 15 [(.agg #[v0_0, v0_1, (.int .i64 x0.1.2.2.1), (.int .i64 x0.1.2.2.2), (.int .i64 x0.2.1), v0_2, v0_3]), (.int .i64 x1)].toArray w0 fun e w' => e = .returned (.tuple #[(.agg #[(.int .i64 r.1.1), (.int .i64 r.1.2)]), (.bool r.2)]) ∧ Below w0.heap.size w0 w' := by
 refine calls_mk' Tryz.func15 rfl Tryz.ntmps15 rfl rfl fun Q hQ hP => ?_
 have hB : Below w0.heap.size w0 w0 := Below.refl _ _
 have hS : Sep w0.heap.size w0 [] := Sep.nil _ _
 unfold F_spec_WhereNow at hF
 refine W.seq fun K1 hK1 => W.region (wl_box (cs := [v0_0, v0_1, (.int .i64 x0.1.2.2.1), (.int .i64 x0.1.2.2.2), (.int .i64 x0.2.1), v0_2, v0_3]) rfl rfl rfl hB hS ?_)
 intro b2 w3 hb4 hB5 hS6
 refine wl_alloc (cs := [(.int .i64 0), (.int .i64 0)]) tf_42 rfl rfl hB5 hS6 ?_
 intro b7 w8 hb9 hB10 hS11
 refine wl_assign rfl rfl (WL.nil (fun a ha => hK1 _ _ (W.seq fun K12 hK12 => (W.seq fun K13 hK13 => (W.region (wl_load_blk (i := 1) (vs := [v0_0, v0_1, (.int .i64 x0.1.2.2.1), (.int .i64 x0.1.2.2.2), (.int .i64 x0.2.1), v0_2, v0_3]) (v := (.agg #[v0_0, v0_1, (.int .i64 x0.1.2.2.1), (.int .i64 x0.1.2.2.2), (.int .i64 x0.2.1), v0_2, v0_3])) tf_29 rfl rfl hS11 rfl rfl rfl (wl_move rfl rfl ?_))))) a ha))
 obtain ⟨u14, hu14, hF⟩ := bindE hF
 refine wl_call rfl Tryz.call43 (C_spec_mnHas w8 x0 v0_0 (h0_0.ro hB10) v0_1 (h0_1.ro hB10) v0_2 (h0_2.ro hB10) v0_3 (h0_3.ro hB10) x1 _ hu14) rfl ?_
 rintro _ w15 ⟨rfl, hb16⟩
 refine ⟨_, rfl, ?_⟩
 have hB17 := hB10.trans (hb16.mono hB10.size)
 have hS18 := hS11.below hb16
 refine wl_not rfl rfl (WL.nil (fun a ha => hK13 _ _ (W.cond rfl (fun h20 => ?_) (fun h20 => ?_)) a ha))
 ·replace hF := ifP h20 hF
  refine W.seq fun K21 hK21 => W.region (wl_build (zs := [(.int .i64 0), (.int .i64 0)]) (out := [(.int .i64 0), (.int .i64 0)]) (vs := []) (css := []) tf_42 pl_42 rfl rfl rfl rfl rfl (wl_store_blk (i := 0) (vs := [(.int .i64 0), (.int .i64 0)]) (cs' := [(.int .i64 0), (.int .i64 0)]) tf_42 rfl rfl rfl rfl hB17 hS18 rfl rfl ⟨rfl, rfl, trivial⟩ rfl ?_))
  intro w22 hk25 hB23 hS24
  refine wl_assign rfl rfl (WL.nil (fun a ha => hK21 _ _ (W.ret ?_) a ha))
  have hr := Option.some.inj hF
  subst hr
  exact rets (vs := [(.agg #[(.int .i64 0), (.int .i64 0)]), (.bool false)]) hQ rfl ⟨rv_cell (i := 0) tf_42 rfl hS24 rfl rfl rfl, rv_tmp rfl, trivial⟩ ⟨rfl, hB23⟩
 ·replace hF := ifN h20 hF
  refine W.skip fun a ha => hK12 _ _ (W.seq fun K26 hK26 => (W.region (wl_load_blk (i := 1) (vs := [v0_0, v0_1, (.int .i64 x0.1.2.2.1), (.int .i64 x0.1.2.2.2), (.int .i64 x0.2.1), v0_2, v0_3]) (v := (.agg #[v0_0, v0_1, (.int .i64 x0.1.2.2.1), (.int .i64 x0.1.2.2.2), (.int .i64 x0.2.1), v0_2, v0_3])) tf_29 rfl rfl hS18 rfl rfl rfl (wl_move rfl rfl ?_)))) a ha
  obtain ⟨u27, hu27, hF⟩ := bindE hF
  refine wl_call rfl Tryz.call44 (C_spec_mnWhere w15 x0 v0_0 (h0_0.ro hB17) v0_1 (h0_1.ro hB17) v0_2 (h0_2.ro hB17) v0_3 (h0_3.ro hB17) x1 _ hu27) rfl ?_
  rintro _ w28 ⟨rfl, hb29⟩
  refine ⟨_, rfl, ?_⟩
  have hB30 := hB17.trans (hb29.mono hB17.size)
  have hS31 := hS18.below hb29
  refine wl_store_blk (i := 0) (vs := [(.int .i64 u27.1), (.int .i64 u27.2)]) (cs' := [(.int .i64 u27.1), (.int .i64 u27.2)]) tf_42 rfl rfl rfl rfl hB30 hS31 rfl rfl ⟨rfl, rfl, trivial⟩ rfl ?_
  intro w33 hk36 hB34 hS35
  refine wl_assign rfl rfl (WL.nil (fun a ha => hK26 _ _ (W.ret ?_) a ha))
  have hr := Option.some.inj hF
  subst hr
  exact rets (vs := [(.agg #[(.int .i64 u27.1), (.int .i64 u27.2)]), (.bool true)]) hQ rfl ⟨rv_cell (i := 0) tf_42 rfl hS35 rfl rfl rfl, rv_tmp rfl, trivial⟩ ⟨rfl, hB34⟩
theorem C_spec_DrawHaltPerformer (w0 : World) (x0 : (List Int)) (v0_0 : Value) (h0_0 : rdS ty_5 (· < w0.heap.size) w0 v0_0 x0) (r : ((((List (List (Int × Int))) × (List Int) × Int × Int) × Int × (List Int) × (List Int)) × Int)) (hF : F_spec_DrawHaltPerformer x0 = some r) :
  Calls Tryz.prog 16 [v0_0].toArray w0 fun e w' => ∃ (q0 : Value) (G0 : List Nat) (q1 : Value) (G1 : List Nat) (q2 : Value) (G2 : List Nat) (q3 : Value) (G3 : List Nat), e = .returned (.tuple #[(.agg #[q0, q1, (.int .i64 r.1.1.2.2.1), (.int .i64 r.1.1.2.2.2), (.int .i64 r.1.2.1), q2, q3]), (.int .i64 r.2)]) ∧ Below w0.heap.size w0 w' ∧ Sep w0.heap.size w' [R.own ty_66 G0 q0 r.1.1.1, R.own ty_3 G1 q1 r.1.1.2.1, R.own ty_3 G2 q2 r.1.2.2.1, R.own ty_3 G3 q3 r.1.2.2.2] := by
 refine calls_mk' Tryz.func16 rfl Tryz.ntmps16 rfl rfl fun Q hQ hP => ?_
 have hB : Below w0.heap.size w0 w0 := Below.refl _ _
 have hS : Sep w0.heap.size w0 [] := Sep.nil _ _
 unfold F_spec_DrawHaltPerformer at hF
 refine W.seq fun K1 hK1 => W.region (wl_alloc (cs := [(.slice none 0 0), (.slice none 0 0), (.int .i64 0), (.int .i64 0), (.int .i64 0), (.slice none 0 0), (.slice none 0 0)]) tf_29 rfl rfl hB hS ?_)
 intro b2 w3 hb4 hB5 hS6
 refine wl_assign rfl rfl (WL.nil (fun a ha => hK1 _ _ (W.seq fun K7 hK7 => (W.region (wl_move rfl rfl (wl_build (zs := [(.slice none 0 0), (.int .i64 0), (.int .u64 0)]) (out := [v0_0, (.int .i64 0), (.int .u64 0)]) (vs := [v0_0]) (css := [[v0_0]]) tf_53 pl_53 rfl rfl (by simp only [List.map_cons, List.map_nil, cells_one ((h0_0.ro hB5).one)] <;> rfl) rfl rfl (wl_box (cs := [v0_0, (.int .i64 0), (.int .u64 0)]) rfl rfl rfl hB5 hS6 ?_))))) a ha))
 intro b8 w9 hb10 hB11 hS12
 refine wl_assign rfl rfl (WL.nil (fun a ha => hK7 _ _ (W.seq fun K13 hK13 => (W.region (wl_move rfl rfl ?_))) a ha))
 obtain ⟨u14, hu14, hF⟩ := bindE hF
 refine wl_call rfl Tryz.call25 (C_spec_l1Cur__march__mut__box w9 (x0, 0, 0) b8 v0_0 (h0_0.oldo hB11 (hS12.sel [0] rfl)) (hS12.sel [0] rfl).base0 _ hu14) rfl ?_
 rintro _ w15 ⟨v20, F21, v22, F23, v24, F25, v26, F27, rfl, hE16, hM17⟩
 refine ⟨_, rfl, ?_⟩
 have hB18 := hS12.takeB [0] rfl (M := [R.blk b8 53 [v0_0, (.int .i64 0), (.int .u64 0)]]) rfl hB11 hE16 hM17
 have hS19 : Sep w0.heap.size w15 [R.blk b8 53 [v0_0, (.int .i64 u14.2.2.1), (.int .u64 u14.2.2.2)], R.own ty_66 F21 v20 u14.1.1.1, R.own ty_3 F23 v22 u14.1.1.2.1, R.own ty_3 F25 v24 u14.1.2.2.1, R.own ty_3 F27 v26 u14.1.2.2.2, R.blk b2 29 [(.slice none 0 0), (.slice none 0 0), (.int .i64 0), (.int .i64 0), (.int .i64 0), (.slice none 0 0), (.slice none 0 0)]] := hS12.take [0] [1] rfl (M := [R.blk b8 53 [v0_0, (.int .i64 0), (.int .u64 0)]]) rfl hM17 hB11.size
 refine wl_alloc (cs := [(.slice none 0 0), (.slice none 0 0), (.int .i64 0), (.int .i64 0), (.int .i64 0), (.slice none 0 0), (.slice none 0 0)]) tf_29 rfl rfl hB18 hS19 ?_
 intro b28 w29 hb30 hB31 hS32
 refine wl_store_blk (i := 0) (vs := [v20, v22, (.int .i64 u14.1.1.2.2.1), (.int .i64 u14.1.1.2.2.2), (.int .i64 u14.1.2.1), v24, v26]) (cs' := [v20, v22, (.int .i64 u14.1.1.2.2.1), (.int .i64 u14.1.1.2.2.2), (.int .i64 u14.1.2.1), v24, v26]) tf_29 rfl rfl rfl rfl hB31 hS32 rfl rfl ⟨(hS32.own_ro (i := 2) rfl).one, (hS32.own_ro (i := 3) rfl).one, rfl, rfl, rfl, (hS32.own_ro (i := 4) rfl).one, (hS32.own_ro (i := 5) rfl).one, trivial⟩ rfl ?_
 intro w33 hk36 hB34 hS35
 refine WL.nil fun a ha => hK13 _ _ (W.seq fun K37 hK37 => (W.regionH mixed_ ([b8] ++ [b2]) hB34 hS35 ?_)) a ha
 intro w38 hb39 hB40 hS41
 have hSW42 := KeepX.refl w38 ([b8] ++ [b2])
 refine WH.tk 0 rfl hP hSW42 (pr_load_blk (i := 0) (vs := [v20, v22, (.int .i64 u14.1.1.2.2.1), (.int .i64 u14.1.1.2.2.2), (.int .i64 u14.1.2.1), v24, v26]) (v := (.agg #[v20, v22, (.int .i64 u14.1.1.2.2.1), (.int .i64 u14.1.1.2.2.2), (.int .i64 u14.1.2.1), v24, v26])) tf_29 rfl rfl hS41 rfl rfl rfl (fun hb => (List.mem_append.1 hb).elim (hS41.disj (i := 0) (j := 1) rfl rfl rfl b28 (by simp [R.blk])) (hS41.disj (i := 0) (j := 6) rfl rfl rfl b28 (by simp [R.blk]))) (WH.tk 1 rfl hP hSW42 (pr_move rfl rfl (WH.tk 2 rfl hP hSW42 (pr_field (o := 6) (off' := 6) ff_29_3 rfl rfl rfl (WH.tk 3 rfl hP hSW42 (pr_load_blk (i := 0) (vs := [v26]) (v := v26) tf_25 rfl rfl hS41 rfl rfl rfl (fun hb => (List.mem_append.1 hb).elim (hS41.disj (i := 0) (j := 1) rfl rfl rfl b28 (by simp [R.blk])) (hS41.disj (i := 0) (j := 6) rfl rfl rfl b28 (by simp [R.blk]))) (WH.tk 4 rfl hP hSW42 ?_))))))))
 refine pr_lenr (e := ty_3) (l := u14.1.2.2.2) Tryz.underlying25 rfl rfl (hS41.own_ro (i := 5) rfl) (WH.tk 5 rfl hP hSW42 (pr_move rfl rfl (WH.tk 10 rfl hP hSW42 (pr_move rfl rfl (WH.on1 6 rfl ?_)))))
 obtain ⟨u43, hu43, hF⟩ := bindE hF
 refine wl_call rfl Tryz.call28 (C_spec_l1Cur__pick__mut__box w38 (x0, u14.2.2.1, u14.2.2.2) b8 v0_0 (h0_0.oldo hB40 (hS41.sel [1] rfl)) 16 (hS41.sel [1] rfl).base0 _ hu43) rfl ?_
 rintro _ w44 ⟨rfl, hE45, hM46⟩
 refine ⟨_, rfl, ?_⟩
 have hB47 := hS41.takeB [1] rfl (M := [R.blk b8 53 [v0_0, (.int .i64 u14.2.2.1), (.int .u64 u14.2.2.2)]]) rfl hB40 hE45 hM46
 have hS48 : Sep w0.heap.size w44 [R.blk b8 53 [v0_0, (.int .i64 u43.2.2.1), (.int .u64 u43.2.2.2)], R.blk b28 29 [v20, v22, (.int .i64 u14.1.1.2.2.1), (.int .i64 u14.1.1.2.2.2), (.int .i64 u14.1.2.1), v24, v26], R.own ty_66 F21 v20 u14.1.1.1, R.own ty_3 F23 v22 u14.1.1.2.1, R.own ty_3 F25 v24 u14.1.2.2.1, R.own ty_3 F27 v26 u14.1.2.2.2, R.blk b2 29 [(.slice none 0 0), (.slice none 0 0), (.int .i64 0), (.int .i64 0), (.int .i64 0), (.slice none 0 0), (.slice none 0 0)]] := hS41.take [1] [0, 2, 3, 4, 5, 6] rfl (M := [R.blk b8 53 [v0_0, (.int .i64 u14.2.2.1), (.int .u64 u14.2.2.2)]]) rfl hM46 hB40.size
 have hk49 := box_kept hM46
 have hSW50 := hSW42.wr' hk49.1 hk49.2.1 (fun _ _ h => List.mem_append_left _ (h))
 have hbs51 : ∀ b, b < w38.heap.size → b ∈ [b8] → b ∈ ([b8] ++ [b2]) := fun b hlt hb => (hk49.2.2 b hb).elim ((fun _ _ h => List.mem_append_left _ (h)) b hlt) (fun h => absurd hlt (Nat.not_lt.2 (Nat.le_trans hSW42.size h)))
 refine WL.nil (WH.ret hSW50 (WH.tk 7 rfl hP hSW50 (pr_quo rfl rfl rfl (by decide) (WH.tk 8 rfl hP hSW50 (pr_add rfl rfl rfl (WH.on1 9 rfl ?_))))))
 obtain ⟨u52, hu52, hF⟩ := bindE hF
 refine wl_call rfl Tryz.call28 (C_spec_l1Cur__pick__mut__box w44 (x0, u43.2.2.1, u43.2.2.2) b8 v0_0 (h0_0.oldo hB47 (hS48.sel [0] rfl)) (w64 ((List.length u14.1.2.2.2 : Int) + (w64 (Int.tdiv u43.1 15)))) (hS48.sel [0] rfl).base0 _ hu52) rfl ?_
 rintro _ w53 ⟨rfl, hE54, hM55⟩
 refine ⟨_, rfl, ?_⟩
 have hB56 := hS48.takeB [0] rfl (M := [R.blk b8 53 [v0_0, (.int .i64 u43.2.2.1), (.int .u64 u43.2.2.2)]]) rfl hB47 hE54 hM55
 have hS57 : Sep w0.heap.size w53 [R.blk b8 53 [v0_0, (.int .i64 u52.2.2.1), (.int .u64 u52.2.2.2)], R.blk b28 29 [v20, v22, (.int .i64 u14.1.1.2.2.1), (.int .i64 u14.1.1.2.2.2), (.int .i64 u14.1.2.1), v24, v26], R.own ty_66 F21 v20 u14.1.1.1, R.own ty_3 F23 v22 u14.1.1.2.1, R.own ty_3 F25 v24 u14.1.2.2.1, R.own ty_3 F27 v26 u14.1.2.2.2, R.blk b2 29 [(.slice none 0 0), (.slice none 0 0), (.int .i64 0), (.int .i64 0), (.int .i64 0), (.slice none 0 0), (.slice none 0 0)]] := hS48.take [0] [1, 2, 3, 4, 5, 6] rfl (M := [R.blk b8 53 [v0_0, (.int .i64 u43.2.2.1), (.int .u64 u43.2.2.2)]]) rfl hM55 hB47.size
 have hk58 := box_kept hM55
 have hSW59 := hSW50.wr' hk58.1 hk58.2.1 (hbs51)
 have hbs60 : ∀ b, b < w38.heap.size → b ∈ [b8] → b ∈ ([b8] ++ [b2]) := fun b hlt hb => (hk58.2.2 b hb).elim ((hbs51) b hlt) (fun h => absurd hlt (Nat.not_lt.2 (Nat.le_trans hSW50.size h)))
 refine WL.nil (WH.ret hSW59 (WH.on1 11 rfl ?_))
 obtain ⟨u61, hu61, hF⟩ := bindE hF
 refine wl_call rfl Tryz.call28 (C_spec_l1Cur__pick__mut__box w53 (x0, u52.2.2.1, u52.2.2.2) b8 v0_0 (h0_0.oldo hB56 (hS57.sel [0] rfl)) 24 (hS57.sel [0] rfl).base0 _ hu61) rfl ?_
 rintro _ w62 ⟨rfl, hE63, hM64⟩
 refine ⟨_, rfl, ?_⟩
 have hB65 := hS57.takeB [0] rfl (M := [R.blk b8 53 [v0_0, (.int .i64 u52.2.2.1), (.int .u64 u52.2.2.2)]]) rfl hB56 hE63 hM64
 have hS66 : Sep w0.heap.size w62 [R.blk b8 53 [v0_0, (.int .i64 u61.2.2.1), (.int .u64 u61.2.2.2)], R.blk b28 29 [v20, v22, (.int .i64 u14.1.1.2.2.1), (.int .i64 u14.1.1.2.2.2), (.int .i64 u14.1.2.1), v24, v26], R.own ty_66 F21 v20 u14.1.1.1, R.own ty_3 F23 v22 u14.1.1.2.1, R.own ty_3 F25 v24 u14.1.2.2.1, R.own ty_3 F27 v26 u14.1.2.2.2, R.blk b2 29 [(.slice none 0 0), (.slice none 0 0), (.int .i64 0), (.int .i64 0), (.int .i64 0), (.slice none 0 0), (.slice none 0 0)]] := hS57.take [0] [1, 2, 3, 4, 5, 6] rfl (M := [R.blk b8 53 [v0_0, (.int .i64 u52.2.2.1), (.int .u64 u52.2.2.2)]]) rfl hM64 hB56.size
 have hk67 := box_kept hM64
 have hSW68 := hSW59.wr' hk67.1 hk67.2.1 (hbs60)
 refine WL.nil (WH.ret hSW68 (WH.tk 12 rfl hP hSW68 (pr_quo rfl rfl rfl (by decide) (WH.tk 13 rfl hP hSW68 (pr_sub rfl rfl rfl (WH.on1 14 rfl (wl_store_blk (i := 6) (vs := [v20, v22, (.int .i64 u14.1.1.2.2.1), (.int .i64 u14.1.1.2.2.2), (.int .i64 u14.1.2.1), v24, v26]) (cs' := [v20, v22, (.int .i64 u14.1.1.2.2.1), (.int .i64 u14.1.1.2.2.2), (.int .i64 u14.1.2.1), v24, v26]) tf_29 rfl rfl rfl rfl hB65 hS66 rfl rfl ⟨(hS66.own_ro (i := 2) rfl).one, (hS66.own_ro (i := 3) rfl).one, rfl, rfl, rfl, (hS66.own_ro (i := 4) rfl).one, (hS66.own_ro (i := 5) rfl).one, trivial⟩ rfl ?_)))))))
 intro w70 hk73 hB71 hS72
 have hSW74 := hSW68.wr' hk73.1 hk73.2.1 (fun _ _ h => List.mem_append_right _ h)
 refine WL.nil (WH.ret hSW74 (WH.tk 15 rfl hP hSW74 (pr_assign rfl rfl (WH.done (by kernel_rfl) (fun a ha => hK37 _ _ (W.ret ?_) a ha)))))
 have hr := Option.some.inj hF
 subst hr
 exact rets (vs := [(.agg #[v20, v22, (.int .i64 u14.1.1.2.2.1), (.int .i64 u14.1.1.2.2.2), (.int .i64 u14.1.2.1), v24, v26]), (.int .i64 (w64 (u52.1 - (w64 (Int.tdiv u61.1 23)))))]) hQ rfl ⟨rv_cell (i := 6) tf_29 rfl hS72 rfl rfl rfl, rv_tmp rfl, trivial⟩ ⟨v20, F21, v22, F23, v24, F25, v26, F27, rfl, hB71, hS72.sel [2, 3, 4, 5] rfl⟩
theorem C_spec_HaltPerformer (w0 : World) (x0 : (((List (List (Int × Int))) × (List Int) × Int × Int) × Int × (List Int) × (List Int))) (v0_0 : Value) (h0_0 : rdS ty_66 (· < w0.heap.size) w0 v0_0 x0.1.1) (v0_1 : Value) (h0_1 : rdS ty_3 (· < w0.heap.size) w0 v0_1 x0.1.2.1) (v0_2 : Value) (h0_2 : rdS ty_3 (· < w0.heap.size) w0 v0_2 x0.2.2.1) (v0_3 : Value) (h0_3 : rdS ty_3 (· < w0.heap.size) w0 v0_3 x0.2.2.2) (x1 : Int) (r : ((((List (List (Int × Int))) × (List Int) × Int × Int) × Int × (List Int) × (List Int)) × Bool)) (hF : F_spec_HaltPerformer x0 x1 = some r) :
  Calls Tryz.prog 18 [(.agg #[v0_0, v0_1, (.int .i64 x0.1.2.2.1), (.int .i64 x0.1.2.2.2), (.int .i64 x0.2.1), v0_2, v0_3]), (.int .i64 x1)].toArray w0 fun e w' => ∃ (q0 : Value) (G0 : List Nat) (q1 : Value) (G1 : List Nat) (q2 : Value) (G2 : List Nat) (q3 : Value) (G3 : List Nat), e = .returned (.tuple #[(.agg #[q0, q1, (.int .i64 r.1.1.2.2.1), (.int .i64 r.1.1.2.2.2), (.int .i64 r.1.2.1), q2, q3]), (.bool r.2)]) ∧ Below w0.heap.size w0 w' ∧ Sep w0.heap.size w' [R.own ty_66 G0 q0 r.1.1.1, R.own ty_3 G1 q1 r.1.1.2.1, R.own ty_3 G2 q2 r.1.2.2.1, R.own ty_3 G3 q3 r.1.2.2.2] := by
 refine calls_mk' Tryz.func18 rfl Tryz.ntmps18 rfl rfl fun Q hQ hP => ?_
 have hB : Below w0.heap.size w0 w0 := Below.refl _ _
 have hS : Sep w0.heap.size w0 [] := Sep.nil _ _
 unfold F_spec_HaltPerformer at hF
 refine W.seq fun K1 hK1 => W.region (wl_box (cs := [v0_0, v0_1, (.int .i64 x0.1.2.2.1), (.int .i64 x0.1.2.2.2), (.int .i64 x0.2.1), v0_2, v0_3]) rfl rfl rfl hB hS ?_)
 intro b2 w3 hb4 hB5 hS6
 refine wl_alloc (cs := [(.slice none 0 0), (.slice none 0 0), (.int .i64 0), (.int .i64 0), (.int .i64 0), (.slice none 0 0), (.slice none 0 0)]) tf_29 rfl rfl hB5 hS6 ?_
 intro b7 w8 hb9 hB10 hS11
 refine wl_assign rfl rfl (WL.nil (fun a ha => hK1 _ _ (W.seq fun K12 hK12 => (W.region (wl_load_blk (i := 1) (vs := [v0_0, v0_1, (.int .i64 x0.1.2.2.1), (.int .i64 x0.1.2.2.2), (.int .i64 x0.2.1), v0_2, v0_3]) (v := (.agg #[v0_0, v0_1, (.int .i64 x0.1.2.2.1), (.int .i64 x0.1.2.2.2), (.int .i64 x0.2.1), v0_2, v0_3])) tf_29 rfl rfl hS11 rfl rfl rfl (wl_move rfl rfl (wl_build (zs := [(.int .i64 0), (.int .i64 0)]) (out := [(.int .i64 2), (.int .i64 x1)]) (vs := [(.int .i64 2), (.int .i64 x1)]) (css := [[(.int .i64 2)], [(.int .i64 x1)]]) tf_59 pl_59 rfl rfl rfl rfl rfl ?_))))) a ha))
 obtain ⟨u13, hu13, hF⟩ := bindE hF
 refine wl_call rfl Tryz.call40 (C_spec_mnAsked w8 x0 v0_0 (h0_0.ro hB10) v0_1 (h0_1.ro hB10) v0_2 (h0_2.ro hB10) v0_3 (h0_3.ro hB10) (2, x1) _ hu13) rfl ?_
 rintro _ w22 ⟨v14, F15, v16, F17, v18, F19, v20, F21, rfl, hb23, hM26⟩
 refine ⟨_, rfl, ?_⟩
 have hB24 := hB10.trans (hb23.mono hB10.size)
 have hS25 := hS11.join hb23 hM26 hB10.size
 refine wl_extract rfl rfl rfl (wl_extract rfl rfl rfl (wl_store_blk (i := 4) (vs := [v14, v16, (.int .i64 u13.1.1.2.2.1), (.int .i64 u13.1.1.2.2.2), (.int .i64 u13.1.2.1), v18, v20]) (cs' := [v14, v16, (.int .i64 u13.1.1.2.2.1), (.int .i64 u13.1.1.2.2.2), (.int .i64 u13.1.2.1), v18, v20]) tf_29 rfl rfl rfl rfl hB24 hS25 rfl rfl ⟨(hS25.own_ro (i := 0) rfl).one, (hS25.own_ro (i := 1) rfl).one, rfl, rfl, rfl, (hS25.own_ro (i := 2) rfl).one, (hS25.own_ro (i := 3) rfl).one, trivial⟩ rfl ?_))
 intro w27 hk30 hB28 hS29
 refine wl_assign rfl rfl (WL.nil (fun a ha => hK12 _ _ (W.ret ?_) a ha))
 have hr := Option.some.inj hF
 subst hr
 exact rets (vs := [(.agg #[v14, v16, (.int .i64 u13.1.1.2.2.1), (.int .i64 u13.1.1.2.2.2), (.int .i64 u13.1.2.1), v18, v20]), (.bool u13.2)]) hQ rfl ⟨rv_cell (i := 4) tf_29 rfl hS29 rfl rfl rfl, rv_tmp rfl, trivial⟩ ⟨v14, F15, v16, F17, v18, F19, v20, F21, rfl, hB28, hS29.sel [0, 1, 2, 3] rfl⟩
theorem C_spec_DrawGoOn (w0 : World) (x0 : (List Int)) (v0_0 : Value) (h0_0 : rdS ty_5 (· < w0.heap.size) w0 v0_0 x0) (r : ((((List (List (Int × Int))) × (List Int) × Int × Int) × Int × (List Int) × (List Int)) × Int)) (hF : F_spec_DrawGoOn x0 = some r) :
  Calls Tryz.prog 20 [v0_0].toArray w0 fun e w' => ∃ (q0 : Value) (G0 : List Nat) (q1 : Value) (G1 : List Nat) (q2 : Value) (G2 : List Nat) (q3 : Value) (G3 : List Nat), e = .returned (.tuple #[(.agg #[q0, q1, (.int .i64 r.1.1.2.2.1), (.int .i64 r.1.1.2.2.2), (.int .i64 r.1.2.1), q2, q3]), (.int .i64 r.2)]) ∧ Below w0.heap.size w0 w' ∧ Sep w0.heap.size w' [R.own ty_66 G0 q0 r.1.1.1, R.own ty_3 G1 q1 r.1.1.2.1, R.own ty_3 G2 q2 r.1.2.2.1, R.own ty_3 G3 q3 r.1.2.2.2] := by
 refine calls_mk' Tryz.func20 rfl Tryz.ntmps20 rfl rfl fun Q hQ hP => ?_
 have hB : Below w0.heap.size w0 w0 := Below.refl _ _
 have hS : Sep w0.heap.size w0 [] := Sep.nil _ _
 unfold F_spec_DrawGoOn at hF
 refine W.seq fun K1 hK1 => W.region (wl_alloc (cs := [(.slice none 0 0), (.slice none 0 0), (.int .i64 0), (.int .i64 0), (.int .i64 0), (.slice none 0 0), (.slice none 0 0)]) tf_29 rfl rfl hB hS ?_)
 intro b2 w3 hb4 hB5 hS6
 refine wl_assign rfl rfl (WL.nil (fun a ha => hK1 _ _ (W.seq fun K7 hK7 => (W.region (wl_move rfl rfl (wl_build (zs := [(.slice none 0 0), (.int .i64 0), (.int .u64 0)]) (out := [v0_0, (.int .i64 0), (.int .u64 0)]) (vs := [v0_0]) (css := [[v0_0]]) tf_53 pl_53 rfl rfl (by simp only [List.map_cons, List.map_nil, cells_one ((h0_0.ro hB5).one)] <;> rfl) rfl rfl (wl_box (cs := [v0_0, (.int .i64 0), (.int .u64 0)]) rfl rfl rfl hB5 hS6 ?_))))) a ha))
 intro b8 w9 hb10 hB11 hS12
 refine wl_assign rfl rfl (WL.nil (fun a ha => hK7 _ _ (W.seq fun K13 hK13 => (W.region (wl_move rfl rfl ?_))) a ha))
 obtain ⟨u14, hu14, hF⟩ := bindE hF
 refine wl_call rfl Tryz.call25 (C_spec_l1Cur__march__mut__box w9 (x0, 0, 0) b8 v0_0 (h0_0.oldo hB11 (hS12.sel [0] rfl)) (hS12.sel [0] rfl).base0 _ hu14) rfl ?_
 rintro _ w15 ⟨v20, F21, v22, F23, v24, F25, v26, F27, rfl, hE16, hM17⟩
 refine ⟨_, rfl, ?_⟩
 have hB18 := hS12.takeB [0] rfl (M := [R.blk b8 53 [v0_0, (.int .i64 0), (.int .u64 0)]]) rfl hB11 hE16 hM17
 have hS19 : Sep w0.heap.size w15 [R.blk b8 53 [v0_0, (.int .i64 u14.2.2.1), (.int .u64 u14.2.2.2)], R.own ty_66 F21 v20 u14.1.1.1, R.own ty_3 F23 v22 u14.1.1.2.1, R.own ty_3 F25 v24 u14.1.2.2.1, R.own ty_3 F27 v26 u14.1.2.2.2, R.blk b2 29 [(.slice none 0 0), (.slice none 0 0), (.int .i64 0), (.int .i64 0), (.int .i64 0), (.slice none 0 0), (.slice none 0 0)]] := hS12.take [0] [1] rfl (M := [R.blk b8 53 [v0_0, (.int .i64 0), (.int .u64 0)]]) rfl hM17 hB11.size
 refine wl_alloc (cs := [(.slice none 0 0), (.slice none 0 0), (.int .i64 0), (.int .i64 0), (.int .i64 0), (.slice none 0 0), (.slice none 0 0)]) tf_29 rfl rfl hB18 hS19 ?_
 intro b28 w29 hb30 hB31 hS32
 refine wl_store_blk (i := 0) (vs := [v20, v22, (.int .i64 u14.1.1.2.2.1), (.int .i64 u14.1.1.2.2.2), (.int .i64 u14.1.2.1), v24, v26]) (cs' := [v20, v22, (.int .i64 u14.1.1.2.2.1), (.int .i64 u14.1.1.2.2.2), (.int .i64 u14.1.2.1), v24, v26]) tf_29 rfl rfl rfl rfl hB31 hS32 rfl rfl ⟨(hS32.own_ro (i := 2) rfl).one, (hS32.own_ro (i := 3) rfl).one, rfl, rfl, rfl, (hS32.own_ro (i := 4) rfl).one, (hS32.own_ro (i := 5) rfl).one, trivial⟩ rfl ?_
 intro w33 hk36 hB34 hS35
 refine WL.nil fun a ha => hK13 _ _ (W.seq fun K37 hK37 => (W.seq fun K38 hK38 => ?_)) a ha
 obtain ⟨k45, hk45, hF⟩ := jE3 hF
 have hJ46 : ∀ (y42 : Int) (y43 : Int) (y44 : Bool) (w39 : World) (_ : k45 y42 y43 y44 = some r) (_ : Below w0.heap.size w0 w39) (_ : Sep w0.heap.size w39 [R.blk b2 29 [(.slice none 0 0), (.slice none 0 0), (.int .i64 0), (.int .i64 0), (.int .i64 0), (.slice none 0 0), (.slice none 0 0)], R.blk b8 53 [v0_0, (.int .i64 y42), (.int .u64 y43)], R.own ty_66 F21 v20 u14.1.1.1, R.own ty_3 F23 v22 u14.1.1.2.1, R.own ty_3 F25 v24 u14.1.2.2.1, R.own ty_3 F27 v26 u14.1.2.2.2, R.blk b28 29 [v20, v22, (.int .i64 u14.1.1.2.2.1), (.int .i64 u14.1.1.2.2.2), (.int .i64 u14.1.2.1), v24, v26]]), ∀ a, St 44 [(2, (.pointer (some ⟨b2, 0, none⟩))), (4, (.pointer (some ⟨b8, 0, none⟩))), (5, (.pointer (some ⟨b28, 0, none⟩))), (19, (.bool y44))] a → K38 a w39 := by
  intro y42 y43 y44 w39 hF hB40 hS41
  subst hk45
  refine fun a ha => hK38 _ _ (W.cond rfl (fun h47 => ?_) (fun h47 => ?_)) a ha
  ·replace hF := ifP h47 hF
   refine W.seq fun K48 hK48 => ?_
   obtain ⟨k68, hk68, hF⟩ := jE8 hF
   have hJ69 : ∀ (l52 : (List (List (Int × Int)))) (l55 : (List Int)) (y58 : Int) (y59 : Int) (y60 : Int) (l61 : (List Int)) (l64 : (List Int)) (y67 : Int) (v53 : Value) (F54 : List Nat) (v56 : Value) (F57 : List Nat) (v62 : Value) (F63 : List Nat) (v65 : Value) (F66 : List Nat) (w49 : World) (_ : k68 l52 l55 y58 y59 y60 l61 l64 y67 = some r) (_ : Below w0.heap.size w0 w49) (_ : Sep w0.heap.size w49 [R.own ty_66 F54 v53 l52, R.own ty_3 F57 v56 l55, R.own ty_3 F63 v62 l61, R.own ty_3 F66 v65 l64, R.blk b2 29 [v53, v56, (.int .i64 y58), (.int .i64 y59), (.int .i64 y60), v62, v65]]), ∀ a, St 44 [(2, (.pointer (some ⟨b2, 0, none⟩))), (3, (.int .i64 y67))] a → K48 a w49 := by
    intro l52 l55 y58 y59 y60 l61 l64 y67 v53 F54 v56 F57 v62 F63 v65 F66 w49 hF hB50 hS51
    subst hk68
    refine fun a ha => hK48 _ _ (W.ret ?_) a ha
    have hr := Option.some.inj hF
    subst hr
    exact rets (vs := [(.agg #[v53, v56, (.int .i64 y58), (.int .i64 y59), (.int .i64 y60), v62, v65]), (.int .i64 y67)]) hQ rfl ⟨rv_cell (i := 4) tf_29 rfl hS51 rfl rfl rfl, rv_tmp rfl, trivial⟩ ⟨v53, F54, v56, F57, v62, F63, v65, F66, rfl, hB50, hS51.sel [0, 1, 2, 3] rfl⟩
   refine W.regionH mixed_ ([b2] ++ [b8]) hB40 hS41 ?_
   intro w70 hb71 hB72 hS73
   have hSW74 := KeepX.refl w70 ([b2] ++ [b8])
   refine WH.tk 0 rfl hP hSW74 (pr_load_blk (i := 6) (vs := [v20, v22, (.int .i64 u14.1.1.2.2.1), (.int .i64 u14.1.1.2.2.2), (.int .i64 u14.1.2.1), v24, v26]) (v := (.agg #[v20, v22, (.int .i64 u14.1.1.2.2.1), (.int .i64 u14.1.1.2.2.2), (.int .i64 u14.1.2.1), v24, v26])) tf_29 rfl rfl hS73 rfl rfl rfl (fun hb => (List.mem_append.1 hb).elim (hS73.disj (i := 6) (j := 0) rfl rfl rfl b28 (by simp [R.blk])) (hS73.disj (i := 6) (j := 1) rfl rfl rfl b28 (by simp [R.blk]))) (WH.tk 1 rfl hP hSW74 (pr_field (o := 5) (off' := 5) ff_29_2 rfl rfl rfl (WH.tk 2 rfl hP hSW74 (pr_load_blk (i := 6) (vs := [v24]) (v := v24) tf_25 rfl rfl hS73 rfl rfl rfl (fun hb => (List.mem_append.1 hb).elim (hS73.disj (i := 6) (j := 0) rfl rfl rfl b28 (by simp [R.blk])) (hS73.disj (i := 6) (j := 1) rfl rfl rfl b28 (by simp [R.blk]))) (WH.tk 3 rfl hP hSW74 (pr_move rfl rfl (WH.tk 4 rfl hP hSW74 ?_))))))))
   refine pr_field (o := 5) (off' := 5) ff_29_2 rfl rfl rfl (WH.tk 5 rfl hP hSW74 (pr_load_blk (i := 6) (vs := [v24]) (v := v24) tf_25 rfl rfl hS73 rfl rfl rfl (fun hb => (List.mem_append.1 hb).elim (hS73.disj (i := 6) (j := 0) rfl rfl rfl b28 (by simp [R.blk])) (hS73.disj (i := 6) (j := 1) rfl rfl rfl b28 (by simp [R.blk]))) (WH.tk 6 rfl hP hSW74 (pr_lenr (e := ty_3) (l := u14.1.2.2.1) Tryz.underlying25 rfl rfl (hS73.own_ro (i := 4) rfl) (WH.on1 7 rfl ?_)))))
   obtain ⟨u75, hu75, hF⟩ := bindE hF
   refine wl_call rfl Tryz.call28 (C_spec_l1Cur__pick__mut__box w70 (x0, y42, y43) b8 v0_0 (h0_0.oldo hB72 (hS73.sel [1] rfl)) (List.length u14.1.2.2.1 : Int) (hS73.sel [1] rfl).base0 _ hu75) rfl ?_
   rintro _ w76 ⟨rfl, hE77, hM78⟩
   refine ⟨_, rfl, ?_⟩
   have hB79 := hS73.takeB [1] rfl (M := [R.blk b8 53 [v0_0, (.int .i64 y42), (.int .u64 y43)]]) rfl hB72 hE77 hM78
   have hS80 : Sep w0.heap.size w76 [R.blk b8 53 [v0_0, (.int .i64 u75.2.2.1), (.int .u64 u75.2.2.2)], R.blk b2 29 [(.slice none 0 0), (.slice none 0 0), (.int .i64 0), (.int .i64 0), (.int .i64 0), (.slice none 0 0), (.slice none 0 0)], R.own ty_66 F21 v20 u14.1.1.1, R.own ty_3 F23 v22 u14.1.1.2.1, R.own ty_3 F25 v24 u14.1.2.2.1, R.own ty_3 F27 v26 u14.1.2.2.2, R.blk b28 29 [v20, v22, (.int .i64 u14.1.1.2.2.1), (.int .i64 u14.1.1.2.2.2), (.int .i64 u14.1.2.1), v24, v26]] := hS73.take [1] [0, 2, 3, 4, 5, 6] rfl (M := [R.blk b8 53 [v0_0, (.int .i64 y42), (.int .u64 y43)]]) rfl hM78 hB72.size
   have hk81 := box_kept hM78
   have hSW82 := hSW74.wr' hk81.1 hk81.2.1 (fun _ _ h => List.mem_append_right _ h)
   refine WL.nil (WH.ret hSW82 (WH.many (is := [8, 10]) (by kernel_rfl) rfl (List.forall_mem_cons.2 ⟨⟨_, rfl, ?_⟩, List.forall_mem_cons.2 ⟨⟨_, rfl, ?_⟩, fun _ h => by cases h⟩⟩)))
   ·
    obtain ⟨u84, hu84, hF⟩ := bindE hF
    refine wl_indexoF (e := ty_3) (i := 4) Tryz.underlying25 rfl rfl rfl hS80 rfl hu84 ?_
    rintro p85 _ rfl hp86 ho87
    refine WL.nil (WH.ret hSW82 (WH.tk 9 rfl hP hSW82 (pr_load_p (vs := [(.int .i64 u84)]) (v := (.int .i64 u84)) tf_3 rfl rfl (fun w hw => hp86.keepS (fun b h0 => (hw.blk b (((hS73.get (i := 4) rfl).2.1 b h0).2) (fun hb => (List.mem_append.1 hb).elim (hS73.disj (i := 4) (j := 0) rfl rfl rfl b h0) (hS73.disj (i := 4) (j := 1) rfl rfl rfl b h0))).trans (hSW82.blk b (((hS73.get (i := 4) rfl).2.1 b h0).2) (fun hb => (List.mem_append.1 hb).elim (hS73.disj (i := 4) (j := 0) rfl rfl rfl b h0) (hS73.disj (i := 4) (j := 1) rfl rfl rfl b h0))).symm) (fun _ h => h)) rfl rfl (WH.on1 10 rfl ?_))))
    refine wl_store_blk (i := 1) (vs := [v20, v22, (.int .i64 u14.1.1.2.2.1), (.int .i64 u14.1.1.2.2.2), (.int .i64 u14.1.2.1), v24, v26]) (cs' := [v20, v22, (.int .i64 u14.1.1.2.2.1), (.int .i64 u14.1.1.2.2.2), (.int .i64 u14.1.2.1), v24, v26]) tf_29 rfl rfl rfl rfl hB79 hS80 rfl rfl ⟨(hS80.own_ro (i := 2) rfl).one, (hS80.own_ro (i := 3) rfl).one, rfl, rfl, rfl, (hS80.own_ro (i := 4) rfl).one, (hS80.own_ro (i := 5) rfl).one, trivial⟩ rfl ?_
    intro w88 hk91 hB89 hS90
    have hpv92 := hp86.keepS (fun b hb => hk91.2.1 b (((hS80.get (i := 4) rfl).2.1 b hb).2) (hS80.disj (i := 4) (j := 1) rfl rfl rfl b hb)) (fun _ h => h)
    have hSW93 := hSW82.wr' hk91.1 hk91.2.1 (fun _ _ h => List.mem_append_left _ (h))
    refine WL.nil (WH.ret hSW93 (WH.tk 11 rfl hP hSW93 (pr_assign rfl rfl (WH.done (by kernel_rfl) ?_))))
    have hp86 := hpv92
    exact fun a ha => hJ69 (u14.1.1.1) (u14.1.1.2.1) (u14.1.1.2.2.1) (u14.1.1.2.2.2) (u14.1.2.1) (u14.1.2.2.1) (u14.1.2.2.2) (u84) (v20) (F21) (v22) (F23) (v24) (F25) (v26) (F27) _ hF hB89 (hS90.sel [2, 3, 4, 5, 1] rfl) a (ha.sub ⟨rfl, rfl, trivial⟩)
   ·
    refine wl_store_blk (i := 1) (vs := [v20, v22, (.int .i64 u14.1.1.2.2.1), (.int .i64 u14.1.1.2.2.2), (.int .i64 u14.1.2.1), v24, v26]) (cs' := [v20, v22, (.int .i64 u14.1.1.2.2.1), (.int .i64 u14.1.1.2.2.2), (.int .i64 u14.1.2.1), v24, v26]) tf_29 rfl rfl rfl rfl hB79 hS80 rfl rfl ⟨(hS80.own_ro (i := 2) rfl).one, (hS80.own_ro (i := 3) rfl).one, rfl, rfl, rfl, (hS80.own_ro (i := 4) rfl).one, (hS80.own_ro (i := 5) rfl).one, trivial⟩ rfl ?_
    intro w95 hk98 hB96 hS97
    have hSW99 := hSW82.wr' hk98.1 hk98.2.1 (fun _ _ h => List.mem_append_left _ (h))
    refine WL.nil (WH.ret hSW99 (WH.on1 8 rfl ?_))
    obtain ⟨u101, hu101, hF⟩ := bindE hF
    refine wl_indexoF (e := ty_3) (i := 4) Tryz.underlying25 rfl rfl rfl hS97 rfl hu101 ?_
    rintro p102 _ rfl hp103 ho104
    refine WL.nil (WH.ret hSW99 (WH.tk 9 rfl hP hSW99 (pr_load_p (vs := [(.int .i64 u101)]) (v := (.int .i64 u101)) tf_3 rfl rfl (fun w hw => hp103.keepS (fun b h0 => (hw.blk b (((hS73.get (i := 4) rfl).2.1 b h0).2) (fun hb => (List.mem_append.1 hb).elim (hS73.disj (i := 4) (j := 0) rfl rfl rfl b h0) (hS73.disj (i := 4) (j := 1) rfl rfl rfl b h0))).trans (hSW99.blk b (((hS73.get (i := 4) rfl).2.1 b h0).2) (fun hb => (List.mem_append.1 hb).elim (hS73.disj (i := 4) (j := 0) rfl rfl rfl b h0) (hS73.disj (i := 4) (j := 1) rfl rfl rfl b h0))).symm) (fun _ h => h)) rfl rfl (WH.tk 11 rfl hP hSW99 (pr_assign rfl rfl (WH.done (by kernel_rfl) ?_))))))
    exact fun a ha => hJ69 (u14.1.1.1) (u14.1.1.2.1) (u14.1.1.2.2.1) (u14.1.1.2.2.2) (u14.1.2.1) (u14.1.2.2.1) (u14.1.2.2.2) (u101) (v20) (F21) (v22) (F23) (v24) (F25) (v26) (F27) _ hF hB96 (hS97.sel [2, 3, 4, 5, 1] rfl) a (ha.sub ⟨rfl, rfl, trivial⟩)
  ·replace hF := ifN h47 hF
   refine W.skip fun a ha => hK37 _ _ (W.seq fun K105 hK105 => (W.regionH mixed_ ([b2] ++ [b8]) hB40 hS41 ?_)) a ha
   intro w106 hb107 hB108 hS109
   have hSW110 := KeepX.refl w106 ([b2] ++ [b8])
   refine WH.tk 0 rfl hP hSW110 (pr_load_blk (i := 6) (vs := [v20, v22, (.int .i64 u14.1.1.2.2.1), (.int .i64 u14.1.1.2.2.2), (.int .i64 u14.1.2.1), v24, v26]) (v := (.agg #[v20, v22, (.int .i64 u14.1.1.2.2.1), (.int .i64 u14.1.1.2.2.2), (.int .i64 u14.1.2.1), v24, v26])) tf_29 rfl rfl hS109 rfl rfl rfl (fun hb => (List.mem_append.1 hb).elim (hS109.disj (i := 6) (j := 0) rfl rfl rfl b28 (by simp [R.blk])) (hS109.disj (i := 6) (j := 1) rfl rfl rfl b28 (by simp [R.blk]))) (WH.tk 1 rfl hP hSW110 (pr_move rfl rfl (WH.tk 2 rfl hP hSW110 (pr_field (o := 6) (off' := 6) ff_29_3 rfl rfl rfl (WH.tk 3 rfl hP hSW110 (pr_load_blk (i := 6) (vs := [v26]) (v := v26) tf_25 rfl rfl hS109 rfl rfl rfl (fun hb => (List.mem_append.1 hb).elim (hS109.disj (i := 6) (j := 0) rfl rfl rfl b28 (by simp [R.blk])) (hS109.disj (i := 6) (j := 1) rfl rfl rfl b28 (by simp [R.blk]))) (WH.tk 4 rfl hP hSW110 ?_))))))))
   refine pr_lenr (e := ty_3) (l := u14.1.2.2.2) Tryz.underlying25 rfl rfl (hS109.own_ro (i := 5) rfl) (WH.tk 5 rfl hP hSW110 (pr_move rfl rfl (WH.tk 10 rfl hP hSW110 (pr_move rfl rfl (WH.on1 6 rfl ?_)))))
   obtain ⟨u111, hu111, hF⟩ := bindE hF
   refine wl_call rfl Tryz.call28 (C_spec_l1Cur__pick__mut__box w106 (x0, y42, y43) b8 v0_0 (h0_0.oldo hB108 (hS109.sel [1] rfl)) 16 (hS109.sel [1] rfl).base0 _ hu111) rfl ?_
   rintro _ w112 ⟨rfl, hE113, hM114⟩
   refine ⟨_, rfl, ?_⟩
   have hB115 := hS109.takeB [1] rfl (M := [R.blk b8 53 [v0_0, (.int .i64 y42), (.int .u64 y43)]]) rfl hB108 hE113 hM114
   have hS116 : Sep w0.heap.size w112 [R.blk b8 53 [v0_0, (.int .i64 u111.2.2.1), (.int .u64 u111.2.2.2)], R.blk b2 29 [(.slice none 0 0), (.slice none 0 0), (.int .i64 0), (.int .i64 0), (.int .i64 0), (.slice none 0 0), (.slice none 0 0)], R.own ty_66 F21 v20 u14.1.1.1, R.own ty_3 F23 v22 u14.1.1.2.1, R.own ty_3 F25 v24 u14.1.2.2.1, R.own ty_3 F27 v26 u14.1.2.2.2, R.blk b28 29 [v20, v22, (.int .i64 u14.1.1.2.2.1), (.int .i64 u14.1.1.2.2.2), (.int .i64 u14.1.2.1), v24, v26]] := hS109.take [1] [0, 2, 3, 4, 5, 6] rfl (M := [R.blk b8 53 [v0_0, (.int .i64 y42), (.int .u64 y43)]]) rfl hM114 hB108.size
   have hk117 := box_kept hM114
   have hSW118 := hSW110.wr' hk117.1 hk117.2.1 (fun _ _ h => List.mem_append_right _ h)
   have hbs119 : ∀ b, b < w106.heap.size → b ∈ [b8] → b ∈ ([b2] ++ [b8]) := fun b hlt hb => (hk117.2.2 b hb).elim ((fun _ _ h => List.mem_append_right _ h) b hlt) (fun h => absurd hlt (Nat.not_lt.2 (Nat.le_trans hSW110.size h)))
   refine WL.nil (WH.ret hSW118 (WH.tk 7 rfl hP hSW118 (pr_quo rfl rfl rfl (by decide) (WH.tk 8 rfl hP hSW118 (pr_add rfl rfl rfl (WH.on1 9 rfl ?_))))))
   obtain ⟨u120, hu120, hF⟩ := bindE hF
   refine wl_call rfl Tryz.call28 (C_spec_l1Cur__pick__mut__box w112 (x0, u111.2.2.1, u111.2.2.2) b8 v0_0 (h0_0.oldo hB115 (hS116.sel [0] rfl)) (w64 ((List.length u14.1.2.2.2 : Int) + (w64 (Int.tdiv u111.1 15)))) (hS116.sel [0] rfl).base0 _ hu120) rfl ?_
   rintro _ w121 ⟨rfl, hE122, hM123⟩
   refine ⟨_, rfl, ?_⟩
   have hB124 := hS116.takeB [0] rfl (M := [R.blk b8 53 [v0_0, (.int .i64 u111.2.2.1), (.int .u64 u111.2.2.2)]]) rfl hB115 hE122 hM123
   have hS125 : Sep w0.heap.size w121 [R.blk b8 53 [v0_0, (.int .i64 u120.2.2.1), (.int .u64 u120.2.2.2)], R.blk b2 29 [(.slice none 0 0), (.slice none 0 0), (.int .i64 0), (.int .i64 0), (.int .i64 0), (.slice none 0 0), (.slice none 0 0)], R.own ty_66 F21 v20 u14.1.1.1, R.own ty_3 F23 v22 u14.1.1.2.1, R.own ty_3 F25 v24 u14.1.2.2.1, R.own ty_3 F27 v26 u14.1.2.2.2, R.blk b28 29 [v20, v22, (.int .i64 u14.1.1.2.2.1), (.int .i64 u14.1.1.2.2.2), (.int .i64 u14.1.2.1), v24, v26]] := hS116.take [0] [1, 2, 3, 4, 5, 6] rfl (M := [R.blk b8 53 [v0_0, (.int .i64 u111.2.2.1), (.int .u64 u111.2.2.2)]]) rfl hM123 hB115.size
   have hk126 := box_kept hM123
   have hSW127 := hSW118.wr' hk126.1 hk126.2.1 (hbs119)
   have hbs128 : ∀ b, b < w106.heap.size → b ∈ [b8] → b ∈ ([b2] ++ [b8]) := fun b hlt hb => (hk126.2.2 b hb).elim ((hbs119) b hlt) (fun h => absurd hlt (Nat.not_lt.2 (Nat.le_trans hSW118.size h)))
   refine WL.nil (WH.ret hSW127 (WH.on1 11 rfl ?_))
   obtain ⟨u129, hu129, hF⟩ := bindE hF
   refine wl_call rfl Tryz.call28 (C_spec_l1Cur__pick__mut__box w121 (x0, u120.2.2.1, u120.2.2.2) b8 v0_0 (h0_0.oldo hB124 (hS125.sel [0] rfl)) 24 (hS125.sel [0] rfl).base0 _ hu129) rfl ?_
   rintro _ w130 ⟨rfl, hE131, hM132⟩
   refine ⟨_, rfl, ?_⟩
   have hB133 := hS125.takeB [0] rfl (M := [R.blk b8 53 [v0_0, (.int .i64 u120.2.2.1), (.int .u64 u120.2.2.2)]]) rfl hB124 hE131 hM132
   have hS134 : Sep w0.heap.size w130 [R.blk b8 53 [v0_0, (.int .i64 u129.2.2.1), (.int .u64 u129.2.2.2)], R.blk b2 29 [(.slice none 0 0), (.slice none 0 0), (.int .i64 0), (.int .i64 0), (.int .i64 0), (.slice none 0 0), (.slice none 0 0)], R.own ty_66 F21 v20 u14.1.1.1, R.own ty_3 F23 v22 u14.1.1.2.1, R.own ty_3 F25 v24 u14.1.2.2.1, R.own ty_3 F27 v26 u14.1.2.2.2, R.blk b28 29 [v20, v22, (.int .i64 u14.1.1.2.2.1), (.int .i64 u14.1.1.2.2.2), (.int .i64 u14.1.2.1), v24, v26]] := hS125.take [0] [1, 2, 3, 4, 5, 6] rfl (M := [R.blk b8 53 [v0_0, (.int .i64 u120.2.2.1), (.int .u64 u120.2.2.2)]]) rfl hM132 hB124.size
   have hk135 := box_kept hM132
   have hSW136 := hSW127.wr' hk135.1 hk135.2.1 (hbs128)
   refine WL.nil (WH.ret hSW136 (WH.tk 12 rfl hP hSW136 (pr_quo rfl rfl rfl (by decide) (WH.tk 13 rfl hP hSW136 (pr_sub rfl rfl rfl (WH.on1 14 rfl (wl_store_blk (i := 1) (vs := [v20, v22, (.int .i64 u14.1.1.2.2.1), (.int .i64 u14.1.1.2.2.2), (.int .i64 u14.1.2.1), v24, v26]) (cs' := [v20, v22, (.int .i64 u14.1.1.2.2.1), (.int .i64 u14.1.1.2.2.2), (.int .i64 u14.1.2.1), v24, v26]) tf_29 rfl rfl rfl rfl hB133 hS134 rfl rfl ⟨(hS134.own_ro (i := 2) rfl).one, (hS134.own_ro (i := 3) rfl).one, rfl, rfl, rfl, (hS134.own_ro (i := 4) rfl).one, (hS134.own_ro (i := 5) rfl).one, trivial⟩ rfl ?_)))))))
   intro w138 hk141 hB139 hS140
   have hSW142 := hSW136.wr' hk141.1 hk141.2.1 (fun _ _ h => List.mem_append_left _ (h))
   refine WL.nil (WH.ret hSW142 (WH.tk 15 rfl hP hSW142 (pr_assign rfl rfl (WH.done (by kernel_rfl) (fun a ha => hK105 _ _ (W.ret ?_) a ha)))))
   have hr := Option.some.inj hF
   subst hr
   exact rets (vs := [(.agg #[v20, v22, (.int .i64 u14.1.1.2.2.1), (.int .i64 u14.1.1.2.2.2), (.int .i64 u14.1.2.1), v24, v26]), (.int .i64 (w64 (u120.1 - (w64 (Int.tdiv u129.1 23)))))]) hQ rfl ⟨rv_cell (i := 1) tf_29 rfl hS140 rfl rfl rfl, rv_tmp rfl, trivial⟩ ⟨v20, F21, v22, F23, v24, F25, v26, F27, rfl, hB139, hS140.sel [2, 3, 4, 5] rfl⟩
 refine W.region (wl_field (o := 5) (off' := 5) ff_29_2 rfl rfl rfl (wl_load_blk (i := 0) (vs := [v24]) (v := v24) tf_25 rfl rfl hS35 rfl rfl rfl (wl_lenr (e := ty_3) (l := u14.1.2.2.1) Tryz.underlying25 rfl rfl (hS35.own_ro (i := 4) rfl) (wl_gtr rfl rfl rfl (wl_move rfl rfl ?_)))))
 rcases bE (decide (0 < (List.length u14.1.2.2.1 : Int))) with h144 | h144
 ·replace hF := ifP h144 hF
  refine wl_on rfl rfl h144 (wl_move rfl rfl (wl_on rfl rfl h144 ?_))
  obtain ⟨u145, hu145, hF⟩ := bindE hF
  refine wl_call rfl Tryz.call27 (C_spec_l1Cur__one__mut__box w33 (x0, u14.2.2.1, u14.2.2.2) b8 v0_0 (h0_0.oldo hB34 (hS35.sel [1] rfl)) 4 (hS35.sel [1] rfl).base0 _ hu145) rfl ?_
  rintro _ w146 ⟨rfl, hE147, hM148⟩
  refine ⟨_, rfl, ?_⟩
  have hB149 := hS35.takeB [1] rfl (M := [R.blk b8 53 [v0_0, (.int .i64 u14.2.2.1), (.int .u64 u14.2.2.2)]]) rfl hB34 hE147 hM148
  have hS150 : Sep w0.heap.size w146 [R.blk b8 53 [v0_0, (.int .i64 u145.2.2.1), (.int .u64 u145.2.2.2)], R.blk b28 29 [v20, v22, (.int .i64 u14.1.1.2.2.1), (.int .i64 u14.1.1.2.2.2), (.int .i64 u14.1.2.1), v24, v26], R.own ty_66 F21 v20 u14.1.1.1, R.own ty_3 F23 v22 u14.1.1.2.1, R.own ty_3 F25 v24 u14.1.2.2.1, R.own ty_3 F27 v26 u14.1.2.2.2, R.blk b2 29 [(.slice none 0 0), (.slice none 0 0), (.int .i64 0), (.int .i64 0), (.int .i64 0), (.slice none 0 0), (.slice none 0 0)]] := hS35.take [1] [0, 2, 3, 4, 5, 6] rfl (M := [R.blk b8 53 [v0_0, (.int .i64 u14.2.2.1), (.int .u64 u14.2.2.2)]]) rfl hM148 hB34.size
  refine wl_on rfl rfl h144 (wl_not rfl rfl (wl_pick_t rfl rfl h144 rfl (WL.nil ?_)))
  exact fun a ha => hJ46 (u145.2.2.1) (u145.2.2.2) ((!u145.1)) _ hF hB149 (hS150.sel [6, 0, 2, 3, 4, 5, 1] rfl) a (ha.sub ⟨rfl, rfl, rfl, rfl, trivial⟩)
 ·replace hF := ifN h144 hF
  refine wl_off rfl rfl rfl h144 (wl_off rfl rfl rfl h144 (wl_off rfl rfl rfl h144 (wl_pick_f rfl rfl h144 rfl (WL.nil ?_))))
  exact fun a ha => hJ46 (u14.2.2.1) (u14.2.2.2) (false) _ hF hB34 (hS35.sel [6, 1, 2, 3, 4, 5, 0] rfl) a (ha.sub ⟨rfl, rfl, rfl, rfl, trivial⟩)
theorem C_spec_GoOn (w0 : World) (x0 : (((List (List (Int × Int))) × (List Int) × Int × Int) × Int × (List Int) × (List Int))) (v0_0 : Value) (h0_0 : rdS ty_66 (· < w0.heap.size) w0 v0_0 x0.1.1) (v0_1 : Value) (h0_1 : rdS ty_3 (· < w0.heap.size) w0 v0_1 x0.1.2.1) (v0_2 : Value) (h0_2 : rdS ty_3 (· < w0.heap.size) w0 v0_2 x0.2.2.1) (v0_3 : Value) (h0_3 : rdS ty_3 (· < w0.heap.size) w0 v0_3 x0.2.2.2) (x1 : Int) (r : ((((List (List (Int × Int))) × (List Int) × Int × Int) × Int × (List Int) × (List Int)) × Bool)) (hF : F_spec_GoOn x0 x1 = some r) :
  Calls Tryz.prog 21 [(.agg #[v0_0, v0_1, (.int .i64 x0.1.2.2.1), (.int .i64 x0.1.2.2.2), (.int .i64 x0.2.1), v0_2, v0_3]), (.int .i64 x1)].toArray w0 fun e w' => ∃ (q0 : Value) (G0 : List Nat) (q1 : Value) (G1 : List Nat) (q2 : Value) (G2 : List Nat) (q3 : Value) (G3 : List Nat), e = .returned (.tuple #[(.agg #[q0, q1, (.int .i64 r.1.1.2.2.1), (.int .i64 r.1.1.2.2.2), (.int .i64 r.1.2.1), q2, q3]), (.bool r.2)]) ∧ Below w0.heap.size w0 w' ∧ Sep w0.heap.size w' [R.own ty_66 G0 q0 r.1.1.1, R.own ty_3 G1 q1 r.1.1.2.1, R.own ty_3 G2 q2 r.1.2.2.1, R.own ty_3 G3 q3 r.1.2.2.2] := by
 refine calls_mk' Tryz.func21 rfl Tryz.ntmps21 rfl rfl fun Q hQ hP => ?_
 have hB : Below w0.heap.size w0 w0 := Below.refl _ _
 have hS : Sep w0.heap.size w0 [] := Sep.nil _ _
 unfold F_spec_GoOn at hF
 refine W.seq fun K1 hK1 => W.region (wl_box (cs := [v0_0, v0_1, (.int .i64 x0.1.2.2.1), (.int .i64 x0.1.2.2.2), (.int .i64 x0.2.1), v0_2, v0_3]) rfl rfl rfl hB hS ?_)
 intro b2 w3 hb4 hB5 hS6
 refine wl_alloc (cs := [(.slice none 0 0), (.slice none 0 0), (.int .i64 0), (.int .i64 0), (.int .i64 0), (.slice none 0 0), (.slice none 0 0)]) tf_29 rfl rfl hB5 hS6 ?_
 intro b7 w8 hb9 hB10 hS11
 refine wl_assign rfl rfl (WL.nil (fun a ha => hK1 _ _ (W.seq fun K12 hK12 => (W.region (wl_load_blk (i := 1) (vs := [v0_0, v0_1, (.int .i64 x0.1.2.2.1), (.int .i64 x0.1.2.2.2), (.int .i64 x0.2.1), v0_2, v0_3]) (v := (.agg #[v0_0, v0_1, (.int .i64 x0.1.2.2.1), (.int .i64 x0.1.2.2.2), (.int .i64 x0.2.1), v0_2, v0_3])) tf_29 rfl rfl hS11 rfl rfl rfl (wl_move rfl rfl (wl_build (zs := [(.int .i64 0), (.int .i64 0)]) (out := [(.int .i64 3), (.int .i64 x1)]) (vs := [(.int .i64 3), (.int .i64 x1)]) (css := [[(.int .i64 3)], [(.int .i64 x1)]]) tf_59 pl_59 rfl rfl rfl rfl rfl ?_))))) a ha))
 obtain ⟨u13, hu13, hF⟩ := bindE hF
 refine wl_call rfl Tryz.call40 (C_spec_mnAsked w8 x0 v0_0 (h0_0.ro hB10) v0_1 (h0_1.ro hB10) v0_2 (h0_2.ro hB10) v0_3 (h0_3.ro hB10) (3, x1) _ hu13) rfl ?_
 rintro _ w22 ⟨v14, F15, v16, F17, v18, F19, v20, F21, rfl, hb23, hM26⟩
 refine ⟨_, rfl, ?_⟩
 have hB24 := hB10.trans (hb23.mono hB10.size)
 have hS25 := hS11.join hb23 hM26 hB10.size
 refine wl_extract rfl rfl rfl (wl_extract rfl rfl rfl (wl_store_blk (i := 4) (vs := [v14, v16, (.int .i64 u13.1.1.2.2.1), (.int .i64 u13.1.1.2.2.2), (.int .i64 u13.1.2.1), v18, v20]) (cs' := [v14, v16, (.int .i64 u13.1.1.2.2.1), (.int .i64 u13.1.1.2.2.2), (.int .i64 u13.1.2.1), v18, v20]) tf_29 rfl rfl rfl rfl hB24 hS25 rfl rfl ⟨(hS25.own_ro (i := 0) rfl).one, (hS25.own_ro (i := 1) rfl).one, rfl, rfl, rfl, (hS25.own_ro (i := 2) rfl).one, (hS25.own_ro (i := 3) rfl).one, trivial⟩ rfl ?_))
 intro w27 hk30 hB28 hS29
 refine wl_assign rfl rfl (WL.nil (fun a ha => hK12 _ _ (W.ret ?_) a ha))
 have hr := Option.some.inj hF
 subst hr
 exact rets (vs := [(.agg #[v14, v16, (.int .i64 u13.1.1.2.2.1), (.int .i64 u13.1.1.2.2.2), (.int .i64 u13.1.2.1), v18, v20]), (.bool u13.2)]) hQ rfl ⟨rv_cell (i := 4) tf_29 rfl hS29 rfl rfl rfl, rv_tmp rfl, trivial⟩ ⟨v14, F15, v16, F17, v18, F19, v20, F21, rfl, hB28, hS29.sel [0, 1, 2, 3] rfl⟩
theorem C_spec_DrawNewMarch (w0 : World) (x0 : (List Int)) (v0_0 : Value) (h0_0 : rdS ty_5 (· < w0.heap.size) w0 v0_0 x0) (r : ((List (List (Int × Int))) × (List Int) × Int × Int)) (hF : F_spec_DrawNewMarch x0 = some r) :
  Calls Tryz.prog 22 [v0_0].toArray w0 fun e w' => ∃ (q0 : Value) (G0 : List Nat) (q1 : Value) (G1 : List Nat), e = .returned (.agg #[q0, q1, (.int .i64 r.2.2.1), (.int .i64 r.2.2.2)]) ∧ Below w0.heap.size w0 w' ∧ Sep w0.heap.size w' [R.own ty_66 G0 q0 r.1, R.own ty_3 G1 q1 r.2.1] := by
 refine calls_mk' Tryz.func22 rfl Tryz.ntmps22 rfl rfl fun Q hQ hP => ?_
 have hB : Below w0.heap.size w0 w0 := Below.refl _ _
 have hS : Sep w0.heap.size w0 [] := Sep.nil _ _
 unfold F_spec_DrawNewMarch at hF
 refine W.seq fun K1 hK1 => W.region (wl_alloc (cs := [(.slice none 0 0), (.slice none 0 0), (.int .i64 0), (.int .i64 0)]) tf_27 rfl rfl hB hS ?_)
 intro b2 w3 hb4 hB5 hS6
 refine WL.nil fun a ha => hK1 _ _ (W.seq fun K7 hK7 => (W.region (wl_move rfl rfl (wl_build (zs := [(.slice none 0 0), (.int .i64 0), (.int .u64 0)]) (out := [v0_0, (.int .i64 0), (.int .u64 0)]) (vs := [v0_0]) (css := [[v0_0]]) tf_53 pl_53 rfl rfl (by simp only [List.map_cons, List.map_nil, cells_one ((h0_0.ro hB5).one)] <;> rfl) rfl rfl (wl_box (cs := [v0_0, (.int .i64 0), (.int .u64 0)]) rfl rfl rfl hB5 hS6 ?_))))) a ha
 intro b8 w9 hb10 hB11 hS12
 refine wl_assign rfl rfl (WL.nil (fun a ha => hK7 _ _ (W.seq fun K13 hK13 => (W.region (wl_move rfl rfl ?_))) a ha))
 obtain ⟨u14, hu14, hF⟩ := bindE hF
 refine wl_call rfl Tryz.call49 (C_spec_l1Cur__show__mut__box w9 (x0, 0, 0) b8 v0_0 (h0_0.oldo hB11 (hS12.sel [0] rfl)) (hS12.sel [0] rfl).base0 _ hu14) rfl ?_
 rintro _ w15 ⟨v20, F21, v22, F23, rfl, hE16, hM17⟩
 refine ⟨_, rfl, ?_⟩
 have hB18 := hS12.takeB [0] rfl (M := [R.blk b8 53 [v0_0, (.int .i64 0), (.int .u64 0)]]) rfl hB11 hE16 hM17
 have hS19 : Sep w0.heap.size w15 [R.blk b8 53 [v0_0, (.int .i64 u14.2.2.1), (.int .u64 u14.2.2.2)], R.own ty_66 F21 v20 u14.1.1, R.own ty_3 F23 v22 u14.1.2.1, R.blk b2 27 [(.slice none 0 0), (.slice none 0 0), (.int .i64 0), (.int .i64 0)]] := hS12.take [0] [1] rfl (M := [R.blk b8 53 [v0_0, (.int .i64 0), (.int .u64 0)]]) rfl hM17 hB11.size
 refine wl_store_blk (i := 3) (vs := [v20, v22, (.int .i64 u14.1.2.2.1), (.int .i64 u14.1.2.2.2)]) (cs' := [v20, v22, (.int .i64 u14.1.2.2.1), (.int .i64 u14.1.2.2.2)]) tf_27 rfl rfl rfl rfl hB18 hS19 rfl rfl ⟨(hS19.own_ro (i := 1) rfl).one, (hS19.own_ro (i := 2) rfl).one, rfl, rfl, trivial⟩ rfl ?_
 intro w24 hk27 hB25 hS26
 refine WL.nil fun a ha => hK13 _ _ (W.ret ?_) a ha
 have hr := Option.some.inj hF
 subst hr
 exact rets (vs := [(.agg #[v20, v22, (.int .i64 u14.1.2.2.1), (.int .i64 u14.1.2.2.2)])]) hQ rfl ⟨rv_cell (i := 3) tf_27 rfl hS26 rfl rfl rfl, trivial⟩ ⟨v20, F21, v22, F23, rfl, hB25, hS26.sel [1, 2] rfl⟩
theorem C_impl_NewMarch (w0 : World) (x0 : ((List (List (Int × Int))) × (List Int) × Int × Int)) (v0_0 : Value) (h0_0 : rdS ty_66 (· < w0.heap.size) w0 v0_0 x0.1) (v0_1 : Value) (h0_1 : rdS ty_3 (· < w0.heap.size) w0 v0_1 x0.2.1) (r : ((((List (List (Int × Int))) × (List Int) × Int × Int) × Int × (List Int) × (List Int)) × Bool)) (hF : F_impl_NewMarch x0 = some r) :
  Calls Tryz.prog 23 [(.agg #[v0_0, v0_1, (.int .i64 x0.2.2.1), (.int .i64 x0.2.2.2)])].toArray w0 fun e w' => ∃ (q0 : Value) (G0 : List Nat) (q1 : Value) (G1 : List Nat) (q2 : Value) (G2 : List Nat) (q3 : Value) (G3 : List Nat), e = .returned (.tuple #[(.agg #[q0, q1, (.int .i64 r.1.1.2.2.1), (.int .i64 r.1.1.2.2.2), (.int .i64 r.1.2.1), q2, q3]), (.bool r.2)]) ∧ Below w0.heap.size w0 w' ∧ Sep w0.heap.size w' [R.own ty_66 G0 q0 r.1.1.1, R.own ty_3 G1 q1 r.1.1.2.1, R.own ty_3 G2 q2 r.1.2.2.1, R.own ty_3 G3 q3 r.1.2.2.2] := by
 refine calls_mk' Tryz.func23 rfl Tryz.ntmps23 rfl rfl fun Q hQ hP => ?_
 have hB : Below w0.heap.size w0 w0 := Below.refl _ _
 have hS : Sep w0.heap.size w0 [] := Sep.nil _ _
 unfold F_impl_NewMarch at hF
 refine W.seq fun K1 hK1 => W.region (wl_box (cs := [v0_0, v0_1, (.int .i64 x0.2.2.1), (.int .i64 x0.2.2.2)]) rfl rfl rfl hB hS ?_)
 intro b2 w3 hb4 hB5 hS6
 refine wl_alloc (cs := [(.slice none 0 0), (.slice none 0 0), (.int .i64 0), (.int .i64 0), (.int .i64 0), (.slice none 0 0), (.slice none 0 0)]) tf_29 rfl rfl hB5 hS6 ?_
 intro b7 w8 hb9 hB10 hS11
 refine wl_assign rfl rfl (WL.nil (fun a ha => hK1 _ _ (W.seq fun K12 hK12 => (W.seq fun K13 hK13 => (W.region (wl_load_blk (i := 1) (vs := [v0_0, v0_1, (.int .i64 x0.2.2.1), (.int .i64 x0.2.2.2)]) (v := (.agg #[v0_0, v0_1, (.int .i64 x0.2.2.1), (.int .i64 x0.2.2.2)])) tf_27 rfl rfl hS11 rfl rfl rfl ?_)))) a ha))
 obtain ⟨u14, hu14, hF⟩ := bindE hF
 refine wl_call rfl Tryz.call36 (C_impl_IsShow w8 x0 v0_0 (h0_0.ro hB10) v0_1 (h0_1.ro hB10) _ hu14) rfl ?_
 rintro _ w15 ⟨rfl, hb16⟩
 refine ⟨_, rfl, ?_⟩
 have hB17 := hB10.trans (hb16.mono hB10.size)
 have hS18 := hS11.below hb16
 refine wl_not rfl rfl (WL.nil (fun a ha => hK13 _ _ (W.cond rfl (fun h20 => ?_) (fun h20 => ?_)) a ha))
 ·replace hF := ifP h20 hF
  refine W.seq fun K21 hK21 => W.region (wl_build (zs := [(.slice none 0 0), (.slice none 0 0), (.int .i64 0), (.int .i64 0), (.int .i64 0), (.slice none 0 0), (.slice none 0 0)]) (out := [(.slice none 0 0), (.slice none 0 0), (.int .i64 0), (.int .i64 0), (.int .i64 0), (.slice none 0 0), (.slice none 0 0)]) (vs := []) (css := []) tf_29 pl_29 rfl rfl rfl rfl rfl (wl_store_blk (i := 0) (vs := [(.slice none 0 0), (.slice none 0 0), (.int .i64 0), (.int .i64 0), (.int .i64 0), (.slice none 0 0), (.slice none 0 0)]) (cs' := [(.slice none 0 0), (.slice none 0 0), (.int .i64 0), (.int .i64 0), (.int .i64 0), (.slice none 0 0), (.slice none 0 0)]) tf_29 rfl rfl rfl rfl hB17 hS18 rfl rfl ⟨rfl, rfl, rfl, rfl, rfl, rfl, rfl, trivial⟩ rfl ?_))
  intro w22 hk25 hB23 hS24
  refine wl_assign rfl rfl (WL.nil (fun a ha => hK21 _ _ (W.ret ?_) a ha))
  have hS26 := hS24.push0 (r := R.own ty_66 [] (.slice none 0 0) []) rfl fun _ => .inl ⟨rfl, rfl, rfl⟩
  have hS27 := hS26.push0 (r := R.own ty_3 [] (.slice none 0 0) []) rfl fun _ => .inl ⟨rfl, rfl, rfl⟩
  have hS28 := hS27.push0 (r := R.own ty_3 [] (.slice none 0 0) []) rfl fun _ => .inl ⟨rfl, rfl, rfl⟩
  have hS29 := hS28.push0 (r := R.own ty_3 [] (.slice none 0 0) []) rfl fun _ => .inl ⟨rfl, rfl, rfl⟩
  have hr := Option.some.inj hF
  subst hr
  exact rets (vs := [(.agg #[(.slice none 0 0), (.slice none 0 0), (.int .i64 0), (.int .i64 0), (.int .i64 0), (.slice none 0 0), (.slice none 0 0)]), (.bool false)]) hQ rfl ⟨rv_cell (i := 0) tf_29 rfl hS24 rfl rfl rfl, rv_tmp rfl, trivial⟩ ⟨(.slice none 0 0), [], (.slice none 0 0), [], (.slice none 0 0), [], (.slice none 0 0), [], rfl, hB23, hS29.sel [3, 2, 1, 0] rfl⟩
 ·replace hF := ifN h20 hF
  refine W.skip fun a ha => hK12 _ _ (W.seq fun K30 hK30 => ?_) a ha
  obtain ⟨k49, hk49, hF⟩ := jE7 hF
  have hJ50 : ∀ (l34 : (List (List (Int × Int)))) (l37 : (List Int)) (y40 : Int) (y41 : Int) (l42 : (List Int)) (l45 : (List Int)) (y48 : Bool) (v35 : Value) (F36 : List Nat) (v38 : Value) (F39 : List Nat) (v43 : Value) (F44 : List Nat) (v46 : Value) (F47 : List Nat) (w31 : World) (_ : k49 l34 l37 y40 y41 l42 l45 y48 = some r) (_ : Below w0.heap.size w0 w31) (_ : Sep w0.heap.size w31 [R.own ty_66 F36 v35 l34, R.own ty_3 F39 v38 l37, R.own ty_3 F44 v43 l42, R.own ty_3 F47 v46 l45, R.blk b7 29 [v35, v38, (.int .i64 y40), (.int .i64 y41), (.int .i64 0), v43, v46]]), ∀ a, St 18 [(2, (.pointer (some ⟨b7, 0, none⟩))), (3, (.bool y48))] a → K30 a w31 := by
   intro l34 l37 y40 y41 l42 l45 y48 v35 F36 v38 F39 v43 F44 v46 F47 w31 hF hB32 hS33
   subst hk49
   refine fun a ha => hK30 _ _ (W.ret ?_) a ha
   have hr := Option.some.inj hF
   subst hr
   exact rets (vs := [(.agg #[v35, v38, (.int .i64 y40), (.int .i64 y41), (.int .i64 0), v43, v46]), (.bool y48)]) hQ rfl ⟨rv_cell (i := 4) tf_29 rfl hS33 rfl rfl rfl, rv_tmp rfl, trivial⟩ ⟨v35, F36, v38, F39, v43, F44, v46, F47, rfl, hB32, hS33.sel [0, 1, 2, 3] rfl⟩
  refine W.regionH mixed_ [b7] hB17 hS18 ?_
  intro w51 hb52 hB53 hS54
  have hSW55 := KeepX.refl w51 [b7]
  refine WH.tk 0 rfl hP hSW55 (pr_load_blk (i := 1) (vs := [v0_0, v0_1, (.int .i64 x0.2.2.1), (.int .i64 x0.2.2.2)]) (v := (.agg #[v0_0, v0_1, (.int .i64 x0.2.2.1), (.int .i64 x0.2.2.2)])) tf_27 rfl rfl hS54 rfl rfl rfl (hS54.disj (i := 1) (j := 0) rfl rfl rfl b2 (by simp [R.blk])) (WH.tk 3 rfl hP hSW55 (pr_field (o := 0) (off' := 0) ff_27_0 rfl rfl rfl (WH.tk 4 rfl hP hSW55 (pr_load_blk (i := 1) (vs := [v0_0]) (v := v0_0) tf_24 rfl rfl hS54 rfl rfl rfl (hS54.disj (i := 1) (j := 0) rfl rfl rfl b2 (by simp [R.blk])) ?_)))))
  obtain ⟨u56, hu56, hF⟩ := bindE hF
  refine WH.tk 5 rfl hP hSW55 (pr_index (e := ty_66) Tryz.underlying24 rfl rfl rfl h0_0 hu56 ?_)
  rintro p57 _ ⟨v59, rfl, hv60⟩ hp58
  refine WH.tk 6 rfl hP hSW55 (pr_load_p (vs := [v59]) (v := v59) tf_66 rfl rfl (hp58.kx hB53 (fun b hb => (((hS54.get (i := 0) rfl).2.1 b hb).1))) rfl rfl (WH.tk 7 rfl hP hSW55 (pr_lenr (e := ty_42) (l := u56) Tryz.underlying66 rfl rfl hv60 (WH.many (is := [1, 2, 8]) (by kernel_rfl) rfl (List.forall_mem_cons.2 ⟨⟨_, rfl, ?_⟩, List.forall_mem_cons.2 ⟨⟨_, rfl, ?_⟩, List.forall_mem_cons.2 ⟨⟨_, rfl, ?_⟩, fun _ h => by cases h⟩⟩⟩)))))
  ·
   obtain ⟨u61, hu61, hF⟩ := bindE hF
   refine wl_call rfl Tryz.call50 (C_impl_copyShow w51 x0 v0_0 (h0_0.ro hB53) v0_1 (h0_1.ro hB53) _ hu61) rfl ?_
   rintro _ w66 ⟨v62, F63, v64, F65, rfl, hb67, hM70⟩
   refine ⟨_, rfl, ?_⟩
   have hB68 := hB53.trans (hb67.mono hB53.size)
   have hS69 := hS54.join hb67 hM70 hB53.size
   have hSW73 := hSW55.ext hb67
   refine WL.nil (WH.ret hSW73 (WH.many (is := [2, 8]) (by kernel_rfl) rfl (List.forall_mem_cons.2 ⟨⟨_, rfl, ?_⟩, List.forall_mem_cons.2 ⟨⟨_, rfl, ?_⟩, fun _ h => by cases h⟩⟩)))
   ·
    refine wl_lit (vs := []) (l := []) fl_3 Tryz.underlying25 rfl rfl rfl rfl rfl rfl (Below.self w66) (Sep.nil _ _) ?_
    intro v75 F76 w77 hb78 hB81 hM82
    have hB79 := hB68.trans (hb78.mono hB68.size)
    have hS80 := hS69.join hb78 hM82 hB68.size
    have hSW84 := hSW73.ext hb78
    refine WL.nil (WH.ret hSW84 (WH.on1 8 rfl ?_))
    obtain ⟨u86, hu86, hF⟩ := bindE hF
    refine wl_make (e := ty_3) Tryz.underlying25 rfl rfl hu86 (Below.self w77) (Sep.nil _ _) ?_
    intro v87 F88 w89 hb90 hB93 hM94
    have hB91 := hB79.trans (hb90.mono hB79.size)
    have hS92 := hS80.join hb90 hM94 hB79.size
    have hSW96 := hSW84.ext hb90
    refine WL.nil (WH.ret hSW96 (WH.tk 9 rfl hP hSW96 (pr_build (zs := [(.slice none 0 0), (.slice none 0 0), (.int .i64 0), (.int .i64 0), (.int .i64 0), (.slice none 0 0), (.slice none 0 0)]) (out := [v62, v64, (.int .i64 u61.2.2.1), (.int .i64 u61.2.2.2), (.int .i64 0), v75, v87]) (vs := [(.agg #[v62, v64, (.int .i64 u61.2.2.1), (.int .i64 u61.2.2.2)]), v75, v87]) (css := [[v62, v64, (.int .i64 u61.2.2.1), (.int .i64 u61.2.2.2)], [v75], [v87]]) tf_29 pl_29 rfl rfl (by simp only [List.map_cons, List.map_nil, cells_one ((hS92.own_ro (i := 1) rfl).one), cells_one ((hS92.own_ro (i := 0) rfl).one)] <;> rfl) rfl rfl (WH.on1 10 rfl ?_))))
    refine wl_store_blk (i := 4) (vs := [v62, v64, (.int .i64 u61.2.2.1), (.int .i64 u61.2.2.2), (.int .i64 0), v75, v87]) (cs' := [v62, v64, (.int .i64 u61.2.2.1), (.int .i64 u61.2.2.2), (.int .i64 0), v75, v87]) tf_29 rfl rfl rfl rfl hB91 hS92 rfl rfl ⟨(hS92.own_ro (i := 2) rfl).one, (hS92.own_ro (i := 3) rfl).one, rfl, rfl, rfl, (hS92.own_ro (i := 1) rfl).one, (hS92.own_ro (i := 0) rfl).one, trivial⟩ rfl ?_
    intro w98 hk101 hB99 hS100
    have hSW102 := hSW96.wr' hk101.1 hk101.2.1 (fun _ _ h => h)
    refine WL.nil (WH.ret hSW102 (WH.tk 11 rfl hP hSW102 (pr_assign rfl rfl (WH.done (by kernel_rfl) ?_))))
    exact fun a ha => hJ50 (u61.1) (u61.2.1) (u61.2.2.1) (u61.2.2.2) ([]) (u86) (true) (v62) (F63) (v64) (F65) (v75) (F76) (v87) (F88) _ hF hB99 (hS100.sel [2, 3, 1, 0, 4] rfl) a (ha.sub ⟨rfl, rfl, trivial⟩)
   ·
    obtain ⟨u104, hu104, hF⟩ := bindE hF
    refine wl_make (e := ty_3) Tryz.underlying25 rfl rfl hu104 (Below.self w66) (Sep.nil _ _) ?_
    intro v105 F106 w107 hb108 hB111 hM112
    have hB109 := hB68.trans (hb108.mono hB68.size)
    have hS110 := hS69.join hb108 hM112 hB68.size
    have hSW114 := hSW73.ext hb108
    refine WL.nil (WH.ret hSW114 (WH.on1 2 rfl (wl_lit (vs := []) (l := []) fl_3 Tryz.underlying25 rfl rfl rfl rfl rfl rfl (Below.self w107) (Sep.nil _ _) ?_)))
    intro v116 F117 w118 hb119 hB122 hM123
    have hB120 := hB109.trans (hb119.mono hB109.size)
    have hS121 := hS110.join hb119 hM123 hB109.size
    have hSW125 := hSW114.ext hb119
    refine WL.nil (WH.ret hSW125 (WH.tk 9 rfl hP hSW125 (pr_build (zs := [(.slice none 0 0), (.slice none 0 0), (.int .i64 0), (.int .i64 0), (.int .i64 0), (.slice none 0 0), (.slice none 0 0)]) (out := [v62, v64, (.int .i64 u61.2.2.1), (.int .i64 u61.2.2.2), (.int .i64 0), v116, v105]) (vs := [(.agg #[v62, v64, (.int .i64 u61.2.2.1), (.int .i64 u61.2.2.2)]), v116, v105]) (css := [[v62, v64, (.int .i64 u61.2.2.1), (.int .i64 u61.2.2.2)], [v116], [v105]]) tf_29 pl_29 rfl rfl (by simp only [List.map_cons, List.map_nil, cells_one ((hS121.own_ro (i := 0) rfl).one), cells_one ((hS121.own_ro (i := 1) rfl).one)] <;> rfl) rfl rfl (WH.on1 10 rfl ?_))))
    refine wl_store_blk (i := 4) (vs := [v62, v64, (.int .i64 u61.2.2.1), (.int .i64 u61.2.2.2), (.int .i64 0), v116, v105]) (cs' := [v62, v64, (.int .i64 u61.2.2.1), (.int .i64 u61.2.2.2), (.int .i64 0), v116, v105]) tf_29 rfl rfl rfl rfl hB120 hS121 rfl rfl ⟨(hS121.own_ro (i := 2) rfl).one, (hS121.own_ro (i := 3) rfl).one, rfl, rfl, rfl, (hS121.own_ro (i := 0) rfl).one, (hS121.own_ro (i := 1) rfl).one, trivial⟩ rfl ?_
    intro w127 hk130 hB128 hS129
    have hSW131 := hSW125.wr' hk130.1 hk130.2.1 (fun _ _ h => h)
    refine WL.nil (WH.ret hSW131 (WH.tk 11 rfl hP hSW131 (pr_assign rfl rfl (WH.done (by kernel_rfl) ?_))))
    exact fun a ha => hJ50 (u61.1) (u61.2.1) (u61.2.2.1) (u61.2.2.2) ([]) (u104) (true) (v62) (F63) (v64) (F65) (v116) (F117) (v105) (F106) _ hF hB128 (hS129.sel [2, 3, 0, 1, 4] rfl) a (ha.sub ⟨rfl, rfl, trivial⟩)
  ·
   refine wl_lit (vs := []) (l := []) fl_3 Tryz.underlying25 rfl rfl rfl rfl rfl rfl (Below.self w51) (Sep.nil _ _) ?_
   intro v133 F134 w135 hb136 hB139 hM140
   have hB137 := hB53.trans (hb136.mono hB53.size)
   have hS138 := hS54.join hb136 hM140 hB53.size
   have hSW142 := hSW55.ext hb136
   refine WL.nil (WH.ret hSW142 (WH.many (is := [1, 8]) (by kernel_rfl) rfl (List.forall_mem_cons.2 ⟨⟨_, rfl, ?_⟩, List.forall_mem_cons.2 ⟨⟨_, rfl, ?_⟩, fun _ h => by cases h⟩⟩)))
   ·
    obtain ⟨u144, hu144, hF⟩ := bindE hF
    refine wl_call rfl Tryz.call50 (C_impl_copyShow w135 x0 v0_0 (h0_0.ro hB137) v0_1 (h0_1.ro hB137) _ hu144) rfl ?_
    rintro _ w149 ⟨v145, F146, v147, F148, rfl, hb150, hM153⟩
    refine ⟨_, rfl, ?_⟩
    have hB151 := hB137.trans (hb150.mono hB137.size)
    have hS152 := hS138.join hb150 hM153 hB137.size
    have hSW156 := hSW142.ext hb150
    refine WL.nil (WH.ret hSW156 (WH.on1 8 rfl ?_))
    obtain ⟨u158, hu158, hF⟩ := bindE hF
    refine wl_make (e := ty_3) Tryz.underlying25 rfl rfl hu158 (Below.self w149) (Sep.nil _ _) ?_
    intro v159 F160 w161 hb162 hB165 hM166
    have hB163 := hB151.trans (hb162.mono hB151.size)
    have hS164 := hS152.join hb162 hM166 hB151.size
    have hSW168 := hSW156.ext hb162
    refine WL.nil (WH.ret hSW168 (WH.tk 9 rfl hP hSW168 (pr_build (zs := [(.slice none 0 0), (.slice none 0 0), (.int .i64 0), (.int .i64 0), (.int .i64 0), (.slice none 0 0), (.slice none 0 0)]) (out := [v145, v147, (.int .i64 u144.2.2.1), (.int .i64 u144.2.2.2), (.int .i64 0), v133, v159]) (vs := [(.agg #[v145, v147, (.int .i64 u144.2.2.1), (.int .i64 u144.2.2.2)]), v133, v159]) (css := [[v145, v147, (.int .i64 u144.2.2.1), (.int .i64 u144.2.2.2)], [v133], [v159]]) tf_29 pl_29 rfl rfl (by simp only [List.map_cons, List.map_nil, cells_one ((hS164.own_ro (i := 3) rfl).one), cells_one ((hS164.own_ro (i := 0) rfl).one)] <;> rfl) rfl rfl (WH.on1 10 rfl ?_))))
    refine wl_store_blk (i := 4) (vs := [v145, v147, (.int .i64 u144.2.2.1), (.int .i64 u144.2.2.2), (.int .i64 0), v133, v159]) (cs' := [v145, v147, (.int .i64 u144.2.2.1), (.int .i64 u144.2.2.2), (.int .i64 0), v133, v159]) tf_29 rfl rfl rfl rfl hB163 hS164 rfl rfl ⟨(hS164.own_ro (i := 1) rfl).one, (hS164.own_ro (i := 2) rfl).one, rfl, rfl, rfl, (hS164.own_ro (i := 3) rfl).one, (hS164.own_ro (i := 0) rfl).one, trivial⟩ rfl ?_
    intro w170 hk173 hB171 hS172
    have hSW174 := hSW168.wr' hk173.1 hk173.2.1 (fun _ _ h => h)
    refine WL.nil (WH.ret hSW174 (WH.tk 11 rfl hP hSW174 (pr_assign rfl rfl (WH.done (by kernel_rfl) ?_))))
    exact fun a ha => hJ50 (u144.1) (u144.2.1) (u144.2.2.1) (u144.2.2.2) ([]) (u158) (true) (v145) (F146) (v147) (F148) (v133) (F134) (v159) (F160) _ hF hB171 (hS172.sel [1, 2, 3, 0, 4] rfl) a (ha.sub ⟨rfl, rfl, trivial⟩)
   ·
    obtain ⟨u176, hu176, hF⟩ := bindE hF
    obtain ⟨u177, hu177, hF⟩ := bindE hF
    refine wl_make (e := ty_3) Tryz.underlying25 rfl rfl hu177 (Below.self w135) (Sep.nil _ _) ?_
    intro v178 F179 w180 hb181 hB184 hM185
    have hB182 := hB137.trans (hb181.mono hB137.size)
    have hS183 := hS138.join hb181 hM185 hB137.size
    have hSW187 := hSW142.ext hb181
    refine WL.nil (WH.ret hSW187 (WH.on1 1 rfl (wl_call rfl Tryz.call50 (C_impl_copyShow w180 x0 v0_0 (h0_0.ro hB182) v0_1 (h0_1.ro hB182) _ hu176) rfl ?_)))
    rintro _ w193 ⟨v189, F190, v191, F192, rfl, hb194, hM197⟩
    refine ⟨_, rfl, ?_⟩
    have hB195 := hB182.trans (hb194.mono hB182.size)
    have hS196 := hS183.join hb194 hM197 hB182.size
    have hSW200 := hSW187.ext hb194
    refine WL.nil (WH.ret hSW200 (WH.tk 9 rfl hP hSW200 (pr_build (zs := [(.slice none 0 0), (.slice none 0 0), (.int .i64 0), (.int .i64 0), (.int .i64 0), (.slice none 0 0), (.slice none 0 0)]) (out := [v189, v191, (.int .i64 u176.2.2.1), (.int .i64 u176.2.2.2), (.int .i64 0), v133, v178]) (vs := [(.agg #[v189, v191, (.int .i64 u176.2.2.1), (.int .i64 u176.2.2.2)]), v133, v178]) (css := [[v189, v191, (.int .i64 u176.2.2.1), (.int .i64 u176.2.2.2)], [v133], [v178]]) tf_29 pl_29 rfl rfl (by simp only [List.map_cons, List.map_nil, cells_one ((hS196.own_ro (i := 3) rfl).one), cells_one ((hS196.own_ro (i := 2) rfl).one)] <;> rfl) rfl rfl (WH.on1 10 rfl ?_))))
    refine wl_store_blk (i := 4) (vs := [v189, v191, (.int .i64 u176.2.2.1), (.int .i64 u176.2.2.2), (.int .i64 0), v133, v178]) (cs' := [v189, v191, (.int .i64 u176.2.2.1), (.int .i64 u176.2.2.2), (.int .i64 0), v133, v178]) tf_29 rfl rfl rfl rfl hB195 hS196 rfl rfl ⟨(hS196.own_ro (i := 0) rfl).one, (hS196.own_ro (i := 1) rfl).one, rfl, rfl, rfl, (hS196.own_ro (i := 3) rfl).one, (hS196.own_ro (i := 2) rfl).one, trivial⟩ rfl ?_
    intro w202 hk205 hB203 hS204
    have hSW206 := hSW200.wr' hk205.1 hk205.2.1 (fun _ _ h => h)
    refine WL.nil (WH.ret hSW206 (WH.tk 11 rfl hP hSW206 (pr_assign rfl rfl (WH.done (by kernel_rfl) ?_))))
    exact fun a ha => hJ50 (u176.1) (u176.2.1) (u176.2.2.1) (u176.2.2.2) ([]) (u177) (true) (v189) (F190) (v191) (F192) (v133) (F134) (v178) (F179) _ hF hB203 (hS204.sel [0, 1, 3, 2, 4] rfl) a (ha.sub ⟨rfl, rfl, trivial⟩)
  ·
   obtain ⟨u208, hu208, hF⟩ := bindE hF
   obtain ⟨u209, hu209, hF⟩ := bindE hF
   refine wl_make (e := ty_3) Tryz.underlying25 rfl rfl hu209 (Below.self w51) (Sep.nil _ _) ?_
   intro v210 F211 w212 hb213 hB216 hM217
   have hB214 := hB53.trans (hb213.mono hB53.size)
   have hS215 := hS54.join hb213 hM217 hB53.size
   have hSW219 := hSW55.ext hb213
   refine WL.nil (WH.ret hSW219 (WH.many (is := [1, 2]) (by kernel_rfl) rfl (List.forall_mem_cons.2 ⟨⟨_, rfl, ?_⟩, List.forall_mem_cons.2 ⟨⟨_, rfl, ?_⟩, fun _ h => by cases h⟩⟩)))
   ·
    refine wl_call rfl Tryz.call50 (C_impl_copyShow w212 x0 v0_0 (h0_0.ro hB214) v0_1 (h0_1.ro hB214) _ hu208) rfl ?_
    rintro _ w225 ⟨v221, F222, v223, F224, rfl, hb226, hM229⟩
    refine ⟨_, rfl, ?_⟩
    have hB227 := hB214.trans (hb226.mono hB214.size)
    have hS228 := hS215.join hb226 hM229 hB214.size
    have hSW232 := hSW219.ext hb226
    refine WL.nil (WH.ret hSW232 (WH.on1 2 rfl (wl_lit (vs := []) (l := []) fl_3 Tryz.underlying25 rfl rfl rfl rfl rfl rfl (Below.self w225) (Sep.nil _ _) ?_)))
    intro v234 F235 w236 hb237 hB240 hM241
    have hB238 := hB227.trans (hb237.mono hB227.size)
    have hS239 := hS228.join hb237 hM241 hB227.size
    have hSW243 := hSW232.ext hb237
    refine WL.nil (WH.ret hSW243 (WH.tk 9 rfl hP hSW243 (pr_build (zs := [(.slice none 0 0), (.slice none 0 0), (.int .i64 0), (.int .i64 0), (.int .i64 0), (.slice none 0 0), (.slice none 0 0)]) (out := [v221, v223, (.int .i64 u208.2.2.1), (.int .i64 u208.2.2.2), (.int .i64 0), v234, v210]) (vs := [(.agg #[v221, v223, (.int .i64 u208.2.2.1), (.int .i64 u208.2.2.2)]), v234, v210]) (css := [[v221, v223, (.int .i64 u208.2.2.1), (.int .i64 u208.2.2.2)], [v234], [v210]]) tf_29 pl_29 rfl rfl (by simp only [List.map_cons, List.map_nil, cells_one ((hS239.own_ro (i := 0) rfl).one), cells_one ((hS239.own_ro (i := 3) rfl).one)] <;> rfl) rfl rfl (WH.on1 10 rfl ?_))))
    refine wl_store_blk (i := 4) (vs := [v221, v223, (.int .i64 u208.2.2.1), (.int .i64 u208.2.2.2), (.int .i64 0), v234, v210]) (cs' := [v221, v223, (.int .i64 u208.2.2.1), (.int .i64 u208.2.2.2), (.int .i64 0), v234, v210]) tf_29 rfl rfl rfl rfl hB238 hS239 rfl rfl ⟨(hS239.own_ro (i := 1) rfl).one, (hS239.own_ro (i := 2) rfl).one, rfl, rfl, rfl, (hS239.own_ro (i := 0) rfl).one, (hS239.own_ro (i := 3) rfl).one, trivial⟩ rfl ?_
    intro w245 hk248 hB246 hS247
    have hSW249 := hSW243.wr' hk248.1 hk248.2.1 (fun _ _ h => h)
    refine WL.nil (WH.ret hSW249 (WH.tk 11 rfl hP hSW249 (pr_assign rfl rfl (WH.done (by kernel_rfl) ?_))))
    exact fun a ha => hJ50 (u208.1) (u208.2.1) (u208.2.2.1) (u208.2.2.2) ([]) (u209) (true) (v221) (F222) (v223) (F224) (v234) (F235) (v210) (F211) _ hF hB246 (hS247.sel [1, 2, 0, 3, 4] rfl) a (ha.sub ⟨rfl, rfl, trivial⟩)
   ·
    refine wl_lit (vs := []) (l := []) fl_3 Tryz.underlying25 rfl rfl rfl rfl rfl rfl (Below.self w212) (Sep.nil _ _) ?_
    intro v251 F252 w253 hb254 hB257 hM258
    have hB255 := hB214.trans (hb254.mono hB214.size)
    have hS256 := hS215.join hb254 hM258 hB214.size
    have hSW260 := hSW219.ext hb254
    refine WL.nil (WH.ret hSW260 (WH.on1 1 rfl (wl_call rfl Tryz.call50 (C_impl_copyShow w253 x0 v0_0 (h0_0.ro hB255) v0_1 (h0_1.ro hB255) _ hu208) rfl ?_)))
    rintro _ w266 ⟨v262, F263, v264, F265, rfl, hb267, hM270⟩
    refine ⟨_, rfl, ?_⟩
    have hB268 := hB255.trans (hb267.mono hB255.size)
    have hS269 := hS256.join hb267 hM270 hB255.size
    have hSW273 := hSW260.ext hb267
    refine WL.nil (WH.ret hSW273 (WH.tk 9 rfl hP hSW273 (pr_build (zs := [(.slice none 0 0), (.slice none 0 0), (.int .i64 0), (.int .i64 0), (.int .i64 0), (.slice none 0 0), (.slice none 0 0)]) (out := [v262, v264, (.int .i64 u208.2.2.1), (.int .i64 u208.2.2.2), (.int .i64 0), v251, v210]) (vs := [(.agg #[v262, v264, (.int .i64 u208.2.2.1), (.int .i64 u208.2.2.2)]), v251, v210]) (css := [[v262, v264, (.int .i64 u208.2.2.1), (.int .i64 u208.2.2.2)], [v251], [v210]]) tf_29 pl_29 rfl rfl (by simp only [List.map_cons, List.map_nil, cells_one ((hS269.own_ro (i := 2) rfl).one), cells_one ((hS269.own_ro (i := 3) rfl).one)] <;> rfl) rfl rfl (WH.on1 10 rfl ?_))))
    refine wl_store_blk (i := 4) (vs := [v262, v264, (.int .i64 u208.2.2.1), (.int .i64 u208.2.2.2), (.int .i64 0), v251, v210]) (cs' := [v262, v264, (.int .i64 u208.2.2.1), (.int .i64 u208.2.2.2), (.int .i64 0), v251, v210]) tf_29 rfl rfl rfl rfl hB268 hS269 rfl rfl ⟨(hS269.own_ro (i := 0) rfl).one, (hS269.own_ro (i := 1) rfl).one, rfl, rfl, rfl, (hS269.own_ro (i := 2) rfl).one, (hS269.own_ro (i := 3) rfl).one, trivial⟩ rfl ?_
    intro w275 hk278 hB276 hS277
    have hSW279 := hSW273.wr' hk278.1 hk278.2.1 (fun _ _ h => h)
    refine WL.nil (WH.ret hSW279 (WH.tk 11 rfl hP hSW279 (pr_assign rfl rfl (WH.done (by kernel_rfl) ?_))))
    exact fun a ha => hJ50 (u208.1) (u208.2.1) (u208.2.2.1) (u208.2.2.2) ([]) (u209) (true) (v262) (F263) (v264) (F265) (v251) (F252) (v210) (F211) _ hF hB276 (hS277.sel [0, 1, 2, 3, 4] rfl) a (ha.sub ⟨rfl, rfl, trivial⟩)
end Go.Proofs.YtmkignciedkidaaGreat
