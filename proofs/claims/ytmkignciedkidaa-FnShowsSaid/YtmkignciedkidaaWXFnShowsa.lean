/-
  THE WALKS of functions of this seat, by program (gen.py, prune.py).
-/
import Derived.Test.YtmkignciedkidaaH
set_option linter.unusedSimpArgs false
set_option linter.unusedVariables false
set_option maxRecDepth 100000
set_option maxHeartbeats 1600000
namespace Go.Proofs.Ytmkignciedkidaa
open Go Go.RowKit
theorem C_spec_l1In (w0 : World) (x0 : Int) (x1 : Int) (x2 : Int) (r : Bool) (hF : F_spec_l1In x0 x1 x2 = some r) :
  Calls Try.prog 138 [(.int .i64 x0), (.int .i64 x1), (.int .i64 x2)].toArray w0 fun e w' => e = .returned (.bool r) ∧ Below w0.heap.size w0 w' := by
 refine calls_mk' Try.func138 rfl Try.ntmps138 rfl rfl fun Q hQ hP => ?_
 have hB : Below w0.heap.size w0 w0 := Below.refl _ _
 have hS : Sep w0.heap.size w0 [] := Sep.nil _ _
 unfold F_spec_l1In at hF
 refine W.seq fun K1 hK1 => W.region (wl_assign rfl rfl (WL.nil (fun a ha => hK1 _ _ (W.seq fun K2 hK2 => ?_) a ha)))
 obtain ⟨k7, hk7, hF⟩ := jE1 hF
 have hJ8 : ∀ (y6 : Bool) (w3 : World) (_ : k7 y6 = some r) (_ : Below w0.heap.size w0 w3) (_ : Sep w0.heap.size w3 []), ∀ a, St 15 [(6, (.bool y6))] a → K2 a w3 := by
  intro y6 w3 hF hB4 hS5
  subst hk7
  refine fun a ha => hK2 _ _ (W.ret ?_) a ha
  have hr := Option.some.inj hF
  subst hr
  exact rets (vs := [(.bool y6)]) hQ rfl ⟨rv_tmp rfl, trivial⟩ ⟨rfl, hB4⟩
 refine W.region (wl_move rfl rfl (wl_move rfl rfl (wl_geq rfl rfl rfl (wl_move rfl rfl ?_))))
 rcases bE (decide (x1 ≤ x0)) with h9 | h9
 ·replace hF := ifP h9 hF
  refine wl_on rfl rfl h9 (wl_move rfl rfl (wl_on rfl rfl h9 (wl_move rfl rfl (wl_on rfl rfl h9 (wl_leq rfl rfl rfl (wl_pick_t rfl rfl h9 rfl (wl_assign rfl rfl (WL.nil ?_))))))))
  exact fun a ha => hJ8 ((decide (x0 ≤ x2))) _ hF hB (hS.sel [] rfl) a (ha.sub ⟨rfl, trivial⟩)
 ·replace hF := ifN h9 hF
  refine wl_off rfl rfl rfl h9 (wl_off rfl rfl rfl h9 (wl_off rfl rfl rfl h9 (wl_pick_f rfl rfl h9 rfl (wl_assign rfl rfl (WL.nil ?_)))))
  exact fun a ha => hJ8 (false) _ hF hB (hS.sel [] rfl) a (ha.sub ⟨rfl, trivial⟩)
theorem C_spec_l1Cur__next__mut__box (w0 : World) (x0 : ((List Int) × Int × Int)) (b0 : Nat) (v0_0 : Value) (h0_0 : rdS ty_5 (Out (fps [R.blk b0 131 [v0_0, (.int .i64 x0.2.1), (.int .u64 x0.2.2)]]) w0) w0 v0_0 x0.1) (hS0 : Sep 0 w0 [R.blk b0 131 [v0_0, (.int .i64 x0.2.1), (.int .u64 x0.2.2)]]) (r : (Int × ((List Int) × Int × Int))) (hF : F_spec_l1Cur__next__mut__box x0 = some r) :
  Calls Try.prog 221 [(.pointer (some ⟨b0, 0, none⟩))].toArray w0 fun e w' => e = .returned (.int .i64 r.1) ∧ Below 0 (wE w0) w' ∧ Sep 0 w' [R.rest w0 (fps [R.blk b0 131 [v0_0, (.int .i64 x0.2.1), (.int .u64 x0.2.2)]]), R.blk b0 131 [v0_0, (.int .i64 r.2.2.1), (.int .u64 r.2.2.2)]] := by
 refine calls_mk' Try.func221 rfl Try.ntmps221 rfl rfl fun Q hQ hP => ?_
 have hB : Below (wE w0).heap.size (wE w0) w0 := wE_below w0
 have hS : Sep (wE w0).heap.size w0 [R.rest w0 (fps [R.blk b0 131 [v0_0, (.int .i64 x0.2.1), (.int .u64 x0.2.2)]]), R.blk b0 131 [v0_0, (.int .i64 x0.2.1), (.int .u64 x0.2.2)]] := hS0.rest
 unfold F_spec_l1Cur__next__mut__box at hF
 refine W.seq fun K1 hK1 => W.region (wl_assign rfl rfl (WL.nil (fun a ha => hK1 _ _ (W.seq fun K2 hK2 => (W.region (wl_assign rfl rfl (WL.nil (fun a ha => hK2 _ _ (W.seq fun K3 hK3 => ?_) a ha))))) a ha)))
 obtain ⟨k8, hk8, hF⟩ := jE1 hF
 have hJ9 : ∀ (y7 : Int) (w4 : World) (_ : k8 y7 = some r) (_ : Below (wE w0).heap.size (wE w0) w4) (_ : Sep (wE w0).heap.size w4 [R.rest w0 (fps [R.blk b0 131 [v0_0, (.int .i64 x0.2.1), (.int .u64 x0.2.2)]]), R.blk b0 131 [v0_0, (.int .i64 x0.2.1), (.int .u64 x0.2.2)]]), ∀ a, St 62 [(0, (.pointer (some ⟨b0, 0, none⟩))), (3, (.int .i64 y7))] a → K3 a w4 := by
  intro y7 w4 hF hB5 hS6
  subst hk8
  refine fun a ha => hK3 _ _ (W.seq fun K10 hK10 => (W.region (wl_move rfl rfl (wl_nilCheck rfl rfl (wl_field (o := 1) (off' := 1) ff_131_1 rfl rfl rfl (wl_load_blk (i := 1) (vs := [(.int .i64 x0.2.1)]) (v := (.int .i64 x0.2.1)) tf_3 rfl rfl hS6 rfl rfl rfl (wl_add rfl rfl rfl (wl_nilCheck rfl rfl (wl_field (o := 1) (off' := 1) ff_131_1 rfl rfl rfl (wl_store_blk (i := 1) (vs := [(.int .i64 (w64 (x0.2.1 + 1)))]) (cs' := [v0_0, (.int .i64 (w64 (x0.2.1 + 1))), (.int .u64 x0.2.2)]) tf_3 rfl rfl rfl rfl hB5 hS6 rfl rfl ⟨rfl, trivial⟩ rfl ?_)))))))))) a ha
  intro w11 hk14 hB12 hS13
  refine WL.nil fun a ha => hK10 _ _ (W.seq fun K15 hK15 => (W.region (wl_move rfl rfl (wl_move rfl rfl (wl_nilCheck rfl rfl (wl_field (o := 2) (off' := 2) ff_131_2 rfl rfl rfl (wl_load_blk (i := 1) (vs := [(.int .u64 x0.2.2)]) (v := (.int .u64 x0.2.2)) tf_129 rfl rfl hS13 rfl rfl rfl (wl_mul rfl rfl rfl (wl_move rfl rfl (wl_convi Try.underlying3 Try.underlying129 rfl rfl (wl_add rfl rfl rfl (wl_add rfl rfl rfl ?_)))))))))))) a ha
  refine wl_nilCheck rfl rfl (wl_field (o := 2) (off' := 2) ff_131_2 rfl rfl rfl (wl_store_blk (i := 1) (vs := [(.int .u64 (wu64 ((wu64 ((wu64 (x0.2.2 * 6364136223846793005)) + (wu64 y7))) + 1442695040888963407)))]) (cs' := [v0_0, (.int .i64 (w64 (x0.2.1 + 1))), (.int .u64 (wu64 ((wu64 ((wu64 (x0.2.2 * 6364136223846793005)) + (wu64 y7))) + 1442695040888963407)))]) tf_129 rfl rfl rfl rfl hB12 hS13 rfl rfl ⟨rfl, trivial⟩ rfl ?_))
  intro w16 hk19 hB17 hS18
  refine WL.nil fun a ha => hK15 _ _ (W.seq fun K20 hK20 => (W.seq fun K21 hK21 => (W.regionH mixed_ [] hB17 hS18 ?_))) a ha
  intro w22 hb23 hB24 hS25
  have hSW26 := KeepX.refl w22 []
  refine WH.tk 0 rfl hP hSW26 (pr_move rfl rfl (WH.tk 1 rfl hP hSW26 (pr_nilCheck rfl rfl (WH.tk 2 rfl hP hSW26 (pr_field (o := 1) (off' := 1) ff_131_1 rfl rfl rfl (WH.tk 3 rfl hP hSW26 (pr_load_blk (i := 1) (vs := [(.int .i64 (w64 (x0.2.1 + 1)))]) (v := (.int .i64 (w64 (x0.2.1 + 1)))) tf_3 rfl rfl hS25 rfl rfl rfl (by simp) (WH.tk 4 rfl hP hSW26 (pr_move rfl rfl (WH.tk 5 rfl hP hSW26 (pr_nilCheck rfl rfl (WH.tk 6 rfl hP hSW26 (pr_field (o := 0) (off' := 0) ff_131_0 rfl rfl rfl ?_)))))))))))))
  refine WH.tk 7 rfl hP hSW26 (pr_load_blk (i := 1) (vs := [v0_0]) (v := v0_0) tf_22 rfl rfl hS25 rfl rfl rfl (by simp) (WH.tk 8 rfl hP hSW26 (pr_lenr (e := ty_5) (l := x0.1) Try.underlying22 rfl rfl h0_0 (WH.tk 9 rfl hP hSW26 (pr_leq rfl rfl rfl (WH.done (by kernel_rfl) (fun a ha => hK21 _ _ (W.cond rfl (fun h27 => ?_) (fun h27 => ?_)) a ha)))))))
  ·replace hF := ifP h27 hF
   refine W.seq fun K28 hK28 => W.region (wl_move rfl rfl (wl_assign rfl rfl (WL.nil (fun a ha => hK28 _ _ (W.ret ?_) a ha))))
   have hr := Option.some.inj hF
   subst hr
   exact rets (vs := [(.int .i64 y7)]) hQ rfl ⟨rv_tmp rfl, trivial⟩ ⟨rfl, hB24, hS25.sel [0, 1] rfl⟩
  ·replace hF := ifN h27 hF
   refine W.skip fun a ha => hK20 _ _ (W.seq fun K29 hK29 => (W.region (wl_move rfl rfl (wl_nilCheck rfl rfl (wl_field (o := 2) (off' := 2) ff_131_2 rfl rfl rfl (wl_load_blk (i := 1) (vs := [(.int .u64 (wu64 ((wu64 ((wu64 (x0.2.2 * 6364136223846793005)) + (wu64 y7))) + 1442695040888963407)))]) (v := (.int .u64 (wu64 ((wu64 ((wu64 (x0.2.2 * 6364136223846793005)) + (wu64 y7))) + 1442695040888963407)))) tf_129 rfl rfl hS25 rfl rfl rfl (wl_shr rfl rfl rfl rfl (wl_and rfl rfl rfl (wl_convi Try.underlying129 Try.underlying3 rfl rfl (wl_assign rfl rfl (WL.nil (fun a ha => hK29 _ _ ?_ a ha)))))))))))) a ha
   refine W.ret ?_
   have hr := Option.some.inj hF
   subst hr
   exact rets (vs := [(.int .i64 (w64 (andK .u64 (shrK .u64 (wu64 ((wu64 ((wu64 (x0.2.2 * 6364136223846793005)) + (wu64 y7))) + 1442695040888963407)) 40) 255)))]) hQ rfl ⟨rv_tmp rfl, trivial⟩ ⟨rfl, hB24, hS25.sel [0, 1] rfl⟩
 refine W.seq fun K30 hK30 => W.regionH mixed_ [] hB hS ?_
 intro w31 hb32 hB33 hS34
 have hSW35 := KeepX.refl w31 []
 refine WH.tk 0 rfl hP hSW35 (pr_move rfl rfl (WH.tk 1 rfl hP hSW35 (pr_nilCheck rfl rfl (WH.tk 2 rfl hP hSW35 (pr_field (o := 1) (off' := 1) ff_131_1 rfl rfl rfl (WH.tk 3 rfl hP hSW35 (pr_load_blk (i := 1) (vs := [(.int .i64 x0.2.1)]) (v := (.int .i64 x0.2.1)) tf_3 rfl rfl hS34 rfl rfl rfl (by simp) (WH.tk 4 rfl hP hSW35 (pr_move rfl rfl (WH.tk 5 rfl hP hSW35 (pr_nilCheck rfl rfl (WH.tk 6 rfl hP hSW35 (pr_field (o := 0) (off' := 0) ff_131_0 rfl rfl rfl ?_)))))))))))))
 refine WH.tk 7 rfl hP hSW35 (pr_load_blk (i := 1) (vs := [v0_0]) (v := v0_0) tf_22 rfl rfl hS34 rfl rfl rfl (by simp) (WH.tk 8 rfl hP hSW35 (pr_lenr (e := ty_5) (l := x0.1) Try.underlying22 rfl rfl h0_0 (WH.tk 9 rfl hP hSW35 (pr_lss rfl rfl rfl (WH.done (by kernel_rfl) (fun a ha => hK30 _ _ (W.cond rfl (fun h36 => ?_) (fun h36 => ?_)) a ha)))))))
 ·replace hF := ifP h36 hF
  refine W.regionH mixed_ [] hB33 hS34 ?_
  intro w37 hb38 hB39 hS40
  have hSW41 := KeepX.refl w37 []
  refine WH.tk 0 rfl hP hSW41 (pr_move rfl rfl (WH.tk 1 rfl hP hSW41 (pr_nilCheck rfl rfl (WH.tk 2 rfl hP hSW41 (pr_field (o := 0) (off' := 0) ff_131_0 rfl rfl rfl (WH.tk 3 rfl hP hSW41 (pr_load_blk (i := 1) (vs := [v0_0]) (v := v0_0) tf_22 rfl rfl hS40 rfl rfl rfl (by simp) (WH.tk 4 rfl hP hSW41 (pr_move rfl rfl (WH.tk 5 rfl hP hSW41 (pr_nilCheck rfl rfl (WH.tk 6 rfl hP hSW41 (pr_field (o := 1) (off' := 1) ff_131_1 rfl rfl rfl ?_)))))))))))))
  refine WH.tk 7 rfl hP hSW41 (pr_load_blk (i := 1) (vs := [(.int .i64 x0.2.1)]) (v := (.int .i64 x0.2.1)) tf_3 rfl rfl hS40 rfl rfl rfl (by simp) ?_)
  obtain ⟨u42, hu42, hF⟩ := bindE hF
  refine WH.tk 8 rfl hP hSW41 (pr_index (e := ty_5) Try.underlying22 rfl rfl rfl h0_0 hu42 ?_)
  rintro p43 _ rfl hp44
  refine WH.tk 9 rfl hP hSW41 (pr_load_p (vs := [(.int .u8 u42)]) (v := (.int .u8 u42)) tf_5 rfl rfl (hp44.kxr (i := 0) hS40 rfl (fun b h0 => (by simp))) rfl rfl (WH.tk 10 rfl hP hSW41 (pr_convi Try.underlying5 Try.underlying3 rfl rfl (WH.tk 11 rfl hP hSW41 (pr_assign rfl rfl (WH.done (by kernel_rfl) ?_))))))
  exact fun a ha => hJ9 ((w64 u42)) _ hF hB39 (hS40.sel [0, 1] rfl) a (ha.sub ⟨rfl, rfl, trivial⟩)
 ·replace hF := ifN h36 hF
  refine W.skip ?_
  exact fun a ha => hJ9 (0) _ hF hB33 (hS34.sel [0, 1] rfl) a (ha.sub ⟨rfl, rfl, trivial⟩)
theorem C_spec_l1Cur__pick__mut__box (w0 : World) (x0 : ((List Int) × Int × Int)) (b0 : Nat) (v0_0 : Value) (h0_0 : rdS ty_5 (Out (fps [R.blk b0 131 [v0_0, (.int .i64 x0.2.1), (.int .u64 x0.2.2)]]) w0) w0 v0_0 x0.1) (x1 : Int) (hS0 : Sep 0 w0 [R.blk b0 131 [v0_0, (.int .i64 x0.2.1), (.int .u64 x0.2.2)]]) (r : (Int × ((List Int) × Int × Int))) (hF : F_spec_l1Cur__pick__mut__box x0 x1 = some r) :
  Calls Try.prog 132 [(.pointer (some ⟨b0, 0, none⟩)), (.int .i64 x1)].toArray w0 fun e w' => e = .returned (.int .i64 r.1) ∧ Below 0 (wE w0) w' ∧ Sep 0 w' [R.rest w0 (fps [R.blk b0 131 [v0_0, (.int .i64 x0.2.1), (.int .u64 x0.2.2)]]), R.blk b0 131 [v0_0, (.int .i64 r.2.2.1), (.int .u64 r.2.2.2)]] := by
 refine calls_mk' Try.func132 rfl Try.ntmps132 rfl rfl fun Q hQ hP => ?_
 have hB : Below (wE w0).heap.size (wE w0) w0 := wE_below w0
 have hS : Sep (wE w0).heap.size w0 [R.rest w0 (fps [R.blk b0 131 [v0_0, (.int .i64 x0.2.1), (.int .u64 x0.2.2)]]), R.blk b0 131 [v0_0, (.int .i64 x0.2.1), (.int .u64 x0.2.2)]] := hS0.rest
 unfold F_spec_l1Cur__pick__mut__box at hF
 refine W.seq fun K1 hK1 => W.region (wl_assign rfl rfl (WL.nil (fun a ha => hK1 _ _ (W.seq fun K2 hK2 => (W.seq fun K3 hK3 => (W.region (wl_move rfl rfl (wl_leq rfl rfl rfl (WL.nil (fun a ha => hK3 _ _ (W.cond rfl (fun h4 => ?_) (fun h4 => ?_)) a ha))))))) a ha)))
 ·replace hF := ifP h4 hF
  refine W.seq fun K5 hK5 => W.region (wl_assign rfl rfl (WL.nil (fun a ha => hK5 _ _ (W.ret ?_) a ha)))
  have hr := Option.some.inj hF
  subst hr
  exact rets (vs := [(.int .i64 0)]) hQ rfl ⟨rv_tmp rfl, trivial⟩ ⟨rfl, hB, hS.sel [0, 1] rfl⟩
 ·replace hF := ifN h4 hF
  refine W.skip fun a ha => hK2 _ _ (W.seq fun K6 hK6 => (W.region (wl_move rfl rfl ?_))) a ha
  obtain ⟨u7, hu7, hF⟩ := bindE hF
  refine wl_call rfl Try.call221 (C_spec_l1Cur__next__mut__box w0 x0 b0 v0_0 (h0_0.rsto (hS.sel [0, 1] rfl)) (hS.sel [1] rfl).base0 _ hu7) rfl ?_
  rintro _ w8 ⟨rfl, hE9, hM10⟩
  refine ⟨_, rfl, ?_⟩
  have hB11 := hS.takeB [1] rfl (M := [R.blk b0 131 [v0_0, (.int .i64 x0.2.1), (.int .u64 x0.2.2)]]) rfl hB hE9 hM10
  have hS12 : Sep (wE w0).heap.size w8 [R.blk b0 131 [v0_0, (.int .i64 u7.2.2.1), (.int .u64 u7.2.2.2)], R.rest w0 (fps [R.blk b0 131 [v0_0, (.int .i64 x0.2.1), (.int .u64 x0.2.2)]])] := hS.take [1] [0] rfl (M := [R.blk b0 131 [v0_0, (.int .i64 x0.2.1), (.int .u64 x0.2.2)]]) rfl hM10 hB.size
  refine wl_assign rfl rfl (WL.nil (fun a ha => hK6 _ _ (W.seq fun K13 hK13 => ?_) a ha))
  obtain ⟨k20, hk20, hF⟩ := jE3 hF
  have hJ21 : ∀ (y17 : Int) (y18 : Int) (y19 : Int) (w14 : World) (_ : k20 y17 y18 y19 = some r) (_ : Below (wE w0).heap.size (wE w0) w14) (_ : Sep (wE w0).heap.size w14 [R.rest w0 (fps [R.blk b0 131 [v0_0, (.int .i64 x0.2.1), (.int .u64 x0.2.2)]]), R.blk b0 131 [v0_0, (.int .i64 y17), (.int .u64 y18)]]), ∀ a, St 20 [(1, (.int .i64 x1)), (5, (.int .i64 y19))] a → K13 a w14 := by
   intro y17 y18 y19 w14 hF hB15 hS16
   subst hk20
   refine fun a ha => hK13 _ _ (W.seq fun K22 hK22 => (W.region (wl_move rfl rfl (wl_move rfl rfl ?_)))) a ha
   have h23 : x1 ≠ 0 := fun h23 => noneE (ifP h23 hF)
   replace hF := ifNP h23 hF
   refine wl_rem rfl rfl rfl h23 (wl_assign rfl rfl (WL.nil (fun a ha => hK22 _ _ (W.ret ?_) a ha)))
   have hr := Option.some.inj hF
   subst hr
   exact rets (vs := [(.int .i64 (Int.tmod y19 x1))]) hQ rfl ⟨rv_tmp rfl, trivial⟩ ⟨rfl, hB15, hS16.sel [0, 1] rfl⟩
  refine W.seq fun K24 hK24 => W.region (wl_move rfl rfl (wl_gtr rfl rfl rfl (WL.nil (fun a ha => hK24 _ _ (W.cond rfl (fun h25 => ?_) (fun h25 => ?_)) a ha))))
  ·replace hF := ifP h25 hF
   refine W.region (wl_move rfl rfl (wl_mul rfl rfl rfl (wl_move rfl rfl ?_)))
   obtain ⟨u26, hu26, hF⟩ := bindE hF
   refine wl_call rfl Try.call221 (C_spec_l1Cur__next__mut__box w8 (x0.1, u7.2.2.1, u7.2.2.2) b0 v0_0 (h0_0.rsto (hS12.sel [1, 0] rfl)) (hS12.sel [0] rfl).base0 _ hu26) rfl ?_
   rintro _ w27 ⟨rfl, hE28, hM29⟩
   refine ⟨_, rfl, ?_⟩
   have hB30 := hS12.takeB [0] rfl (M := [R.blk b0 131 [v0_0, (.int .i64 u7.2.2.1), (.int .u64 u7.2.2.2)]]) rfl hB11 hE28 hM29
   have hS31 : Sep (wE w0).heap.size w27 [R.blk b0 131 [v0_0, (.int .i64 u26.2.2.1), (.int .u64 u26.2.2.2)], R.rest w0 (fps [R.blk b0 131 [v0_0, (.int .i64 x0.2.1), (.int .u64 x0.2.2)]])] := hS12.take [0] [1] rfl (M := [R.blk b0 131 [v0_0, (.int .i64 u7.2.2.1), (.int .u64 u7.2.2.2)]]) rfl hM29 hB11.size
   refine wl_add rfl rfl rfl (wl_assign rfl rfl (WL.nil ?_))
   exact fun a ha => hJ21 (u26.2.2.1) (u26.2.2.2) ((w64 ((w64 (u7.1 * 256)) + u26.1))) _ hF hB30 (hS31.sel [1, 0] rfl) a (ha.sub ⟨rfl, rfl, trivial⟩)
  ·replace hF := ifN h25 hF
   refine W.skip ?_
   exact fun a ha => hJ21 (u7.2.2.1) (u7.2.2.2) (u7.1) _ hF hB11 (hS12.sel [1, 0] rfl) a (ha.sub ⟨rfl, rfl, trivial⟩)
theorem C_spec_l1Cur__one__mut__box (w0 : World) (x0 : ((List Int) × Int × Int)) (b0 : Nat) (v0_0 : Value) (h0_0 : rdS ty_5 (Out (fps [R.blk b0 131 [v0_0, (.int .i64 x0.2.1), (.int .u64 x0.2.2)]]) w0) w0 v0_0 x0.1) (x1 : Int) (hS0 : Sep 0 w0 [R.blk b0 131 [v0_0, (.int .i64 x0.2.1), (.int .u64 x0.2.2)]]) (r : (Bool × ((List Int) × Int × Int))) (hF : F_spec_l1Cur__one__mut__box x0 x1 = some r) :
  Calls Try.prog 130 [(.pointer (some ⟨b0, 0, none⟩)), (.int .i64 x1)].toArray w0 fun e w' => e = .returned (.bool r.1) ∧ Below 0 (wE w0) w' ∧ Sep 0 w' [R.rest w0 (fps [R.blk b0 131 [v0_0, (.int .i64 x0.2.1), (.int .u64 x0.2.2)]]), R.blk b0 131 [v0_0, (.int .i64 r.2.2.1), (.int .u64 r.2.2.2)]] := by
 refine calls_mk' Try.func130 rfl Try.ntmps130 rfl rfl fun Q hQ hP => ?_
 have hB : Below (wE w0).heap.size (wE w0) w0 := wE_below w0
 have hS : Sep (wE w0).heap.size w0 [R.rest w0 (fps [R.blk b0 131 [v0_0, (.int .i64 x0.2.1), (.int .u64 x0.2.2)]]), R.blk b0 131 [v0_0, (.int .i64 x0.2.1), (.int .u64 x0.2.2)]] := hS0.rest
 unfold F_spec_l1Cur__one__mut__box at hF
 refine W.seq fun K1 hK1 => W.region (wl_assign rfl rfl (WL.nil (fun a ha => hK1 _ _ (W.seq fun K2 hK2 => (W.region (wl_move rfl rfl (wl_move rfl rfl ?_)))) a ha)))
 obtain ⟨u3, hu3, hF⟩ := bindE hF
 refine wl_call rfl Try.call132 (C_spec_l1Cur__pick__mut__box w0 x0 b0 v0_0 (h0_0.rsto (hS.sel [0, 1] rfl)) x1 (hS.sel [1] rfl).base0 _ hu3) rfl ?_
 rintro _ w4 ⟨rfl, hE5, hM6⟩
 refine ⟨_, rfl, ?_⟩
 have hB7 := hS.takeB [1] rfl (M := [R.blk b0 131 [v0_0, (.int .i64 x0.2.1), (.int .u64 x0.2.2)]]) rfl hB hE5 hM6
 have hS8 : Sep (wE w0).heap.size w4 [R.blk b0 131 [v0_0, (.int .i64 u3.2.2.1), (.int .u64 u3.2.2.2)], R.rest w0 (fps [R.blk b0 131 [v0_0, (.int .i64 x0.2.1), (.int .u64 x0.2.2)]])] := hS.take [1] [0] rfl (M := [R.blk b0 131 [v0_0, (.int .i64 x0.2.1), (.int .u64 x0.2.2)]]) rfl hM6 hB.size
 refine wl_eql rfl rfl rfl (wl_assign rfl rfl (WL.nil (fun a ha => hK2 _ _ (W.ret ?_) a ha)))
 have hr := Option.some.inj hF
 subst hr
 exact rets (vs := [(.bool (u3.1 == 0))]) hQ rfl ⟨rv_tmp rfl, trivial⟩ ⟨rfl, hB7, hS8.sel [1, 0] rfl⟩
theorem C_spec_l1Cur__among__mut__box (w0 : World) (x0 : ((List Int) × Int × Int)) (b0 : Nat) (v0_0 : Value) (h0_0 : rdS ty_5 (Out (fps [R.blk b0 131 [v0_0, (.int .i64 x0.2.1), (.int .u64 x0.2.2)]]) w0) w0 v0_0 x0.1) (x1 : (List Int)) (v1_0 : Value) (h1_0 : rdS ty_3 (Out (fps [R.blk b0 131 [v0_0, (.int .i64 x0.2.1), (.int .u64 x0.2.2)]]) w0) w0 v1_0 x1) (hS0 : Sep 0 w0 [R.blk b0 131 [v0_0, (.int .i64 x0.2.1), (.int .u64 x0.2.2)]]) (r : (Int × ((List Int) × Int × Int))) (hF : F_spec_l1Cur__among__mut__box x0 x1 = some r) :
  Calls Try.prog 136 [(.pointer (some ⟨b0, 0, none⟩)), v1_0].toArray w0 fun e w' => e = .returned (.int .i64 r.1) ∧ Below 0 (wE w0) w' ∧ Sep 0 w' [R.rest w0 (fps [R.blk b0 131 [v0_0, (.int .i64 x0.2.1), (.int .u64 x0.2.2)]]), R.blk b0 131 [v0_0, (.int .i64 r.2.2.1), (.int .u64 r.2.2.2)]] := by
 refine calls_mk' Try.func136 rfl Try.ntmps136 rfl rfl fun Q hQ hP => ?_
 have hB : Below (wE w0).heap.size (wE w0) w0 := wE_below w0
 have hS : Sep (wE w0).heap.size w0 [R.rest w0 (fps [R.blk b0 131 [v0_0, (.int .i64 x0.2.1), (.int .u64 x0.2.2)]]), R.blk b0 131 [v0_0, (.int .i64 x0.2.1), (.int .u64 x0.2.2)]] := hS0.rest
 unfold F_spec_l1Cur__among__mut__box at hF
 refine W.seq fun K1 hK1 => W.region (wl_assign rfl rfl (WL.nil (fun a ha => hK1 _ _ (W.seq fun K2 hK2 => (W.region (wl_move rfl rfl (wl_move rfl rfl (wl_move rfl rfl (wl_lenr (e := ty_3) (l := x1) Try.underlying29 rfl rfl h1_0 ?_)))))) a ha)))
 obtain ⟨u3, hu3, hF⟩ := bindE hF
 refine wl_call rfl Try.call132 (C_spec_l1Cur__pick__mut__box w0 x0 b0 v0_0 (h0_0.rsto (hS.sel [0, 1] rfl)) (List.length x1 : Int) (hS.sel [1] rfl).base0 _ hu3) rfl ?_
 rintro _ w4 ⟨rfl, hE5, hM6⟩
 refine ⟨_, rfl, ?_⟩
 have hB7 := hS.takeB [1] rfl (M := [R.blk b0 131 [v0_0, (.int .i64 x0.2.1), (.int .u64 x0.2.2)]]) rfl hB hE5 hM6
 have hS8 : Sep (wE w0).heap.size w4 [R.blk b0 131 [v0_0, (.int .i64 u3.2.2.1), (.int .u64 u3.2.2.2)], R.rest w0 (fps [R.blk b0 131 [v0_0, (.int .i64 x0.2.1), (.int .u64 x0.2.2)]])] := hS.take [1] [0] rfl (M := [R.blk b0 131 [v0_0, (.int .i64 x0.2.1), (.int .u64 x0.2.2)]]) rfl hM6 hB.size
 obtain ⟨u9, hu9, hF⟩ := bindE hF
 refine wl_index (e := ty_3) Try.underlying29 rfl rfl rfl h1_0 hu9 ?_
 rintro p10 _ rfl hp11
 refine wl_load_p (vs := [(.int .i64 u9)]) (v := (.int .i64 u9)) tf_3 rfl rfl (hp11.rst (i := 1) hS8 rfl) rfl rfl (wl_assign rfl rfl (WL.nil (fun a ha => hK2 _ _ (W.ret ?_) a ha)))
 have hr := Option.some.inj hF
 subst hr
 exact rets (vs := [(.int .i64 u9)]) hQ rfl ⟨rv_tmp rfl, trivial⟩ ⟨rfl, hB7, hS8.sel [1, 0] rfl⟩
theorem C_impl_within (w0 : World) (x0 : Int) (x1 : Int) (x2 : Int) (r : Bool) (hF : F_impl_within x0 x1 x2 = some r) :
  Calls Try.prog 128 [(.int .i64 x0), (.int .i64 x1), (.int .i64 x2)].toArray w0 fun e w' => e = .returned (.bool r) ∧ Below w0.heap.size w0 w' := by
 refine calls_mk' Try.func128 rfl Try.ntmps128 rfl rfl fun Q hQ hP => ?_
 have hB : Below w0.heap.size w0 w0 := Below.refl _ _
 have hS : Sep w0.heap.size w0 [] := Sep.nil _ _
 unfold F_impl_within at hF
 refine W.seq fun K1 hK1 => W.region (wl_assign rfl rfl (WL.nil (fun a ha => hK1 _ _ (W.seq fun K2 hK2 => ?_) a ha)))
 obtain ⟨k7, hk7, hF⟩ := jE1 hF
 have hJ8 : ∀ (y6 : Bool) (w3 : World) (_ : k7 y6 = some r) (_ : Below w0.heap.size w0 w3) (_ : Sep w0.heap.size w3 []), ∀ a, St 15 [(6, (.bool y6))] a → K2 a w3 := by
  intro y6 w3 hF hB4 hS5
  subst hk7
  refine fun a ha => hK2 _ _ (W.ret ?_) a ha
  have hr := Option.some.inj hF
  subst hr
  exact rets (vs := [(.bool y6)]) hQ rfl ⟨rv_tmp rfl, trivial⟩ ⟨rfl, hB4⟩
 refine W.region (wl_move rfl rfl (wl_move rfl rfl (wl_geq rfl rfl rfl (wl_move rfl rfl ?_))))
 rcases bE (decide (x1 ≤ x0)) with h9 | h9
 ·replace hF := ifP h9 hF
  refine wl_on rfl rfl h9 (wl_move rfl rfl (wl_on rfl rfl h9 (wl_move rfl rfl (wl_on rfl rfl h9 (wl_leq rfl rfl rfl (wl_pick_t rfl rfl h9 rfl (wl_assign rfl rfl (WL.nil ?_))))))))
  exact fun a ha => hJ8 ((decide (x0 ≤ x2))) _ hF hB (hS.sel [] rfl) a (ha.sub ⟨rfl, trivial⟩)
 ·replace hF := ifN h9 hF
  refine wl_off rfl rfl rfl h9 (wl_off rfl rfl rfl h9 (wl_off rfl rfl rfl h9 (wl_pick_f rfl rfl h9 rfl (wl_assign rfl rfl (WL.nil ?_)))))
  exact fun a ha => hJ8 (false) _ hF hB (hS.sel [] rfl) a (ha.sub ⟨rfl, trivial⟩)
theorem C_spec_l1Least (w0 : World) (x0 : Int) (x1 : Int) (r : Int) (hF : F_spec_l1Least x0 x1 = some r) :
  Calls Try.prog 167 [(.int .i64 x0), (.int .i64 x1)].toArray w0 fun e w' => e = .returned (.int .i64 r) ∧ Below w0.heap.size w0 w' := by
 refine calls_mk' Try.func167 rfl Try.ntmps167 rfl rfl fun Q hQ hP => ?_
 have hB : Below w0.heap.size w0 w0 := Below.refl _ _
 unfold F_spec_l1Least at hF
 refine W.seq fun K1 hK1 => W.region (wl_assign rfl rfl (WL.nil (fun a ha => hK1 _ _ (W.seq fun K2 hK2 => (W.seq fun K3 hK3 => (W.region (wl_move rfl rfl (wl_move rfl rfl (wl_lss rfl rfl rfl (WL.nil (fun a ha => hK3 _ _ (W.cond rfl (fun h4 => ?_) (fun h4 => ?_)) a ha)))))))) a ha)))
 ·replace hF := ifP h4 hF
  refine W.seq fun K5 hK5 => W.region (wl_move rfl rfl (wl_assign rfl rfl (WL.nil (fun a ha => hK5 _ _ (W.ret ?_) a ha))))
  have hr := Option.some.inj hF
  subst hr
  exact rets (vs := [(.int .i64 x0)]) hQ rfl ⟨rv_tmp rfl, trivial⟩ ⟨rfl, hB⟩
 ·replace hF := ifN h4 hF
  refine W.skip fun a ha => hK2 _ _ (W.seq fun K6 hK6 => (W.region (wl_move rfl rfl (wl_assign rfl rfl (WL.nil (fun a ha => hK6 _ _ (W.ret ?_) a ha)))))) a ha
  have hr := Option.some.inj hF
  subst hr
  exact rets (vs := [(.int .i64 x1)]) hQ rfl ⟨rv_tmp rfl, trivial⟩ ⟨rfl, hB⟩
theorem C_spec_chFind (w0 : World) (x0 : (List (Int × Int))) (v0_0 : Value) (h0_0 : rdS ty_68 (· < w0.heap.size) w0 v0_0 x0) (x1 : (Int × Int)) (r : Int) (hF : F_spec_chFind x0 x1 = some r) :
  Calls Try.prog 240 [v0_0, (.agg #[(.int .i64 x1.1), (.int .i64 x1.2)])].toArray w0 fun e w' => e = .returned (.int .i64 r) ∧ Below w0.heap.size w0 w' := by
 refine calls_mk' Try.func240 rfl Try.ntmps240 rfl rfl fun Q hQ hP => ?_
 have hB : Below w0.heap.size w0 w0 := Below.refl _ _
 have hS : Sep w0.heap.size w0 [] := Sep.nil _ _
 unfold F_spec_chFind at hF
 refine W.seq fun K1 hK1 => W.region (wl_box (cs := [(.int .i64 x1.1), (.int .i64 x1.2)]) rfl rfl rfl hB hS ?_)
 intro b2 w3 hb4 hB5 hS6
 refine wl_assign rfl rfl (WL.nil (fun a ha => hK1 _ _ (W.seq fun K7 hK7 => (W.seq fun K8 hK8 => (W.region (wl_move rfl rfl (wl_lenr (e := ty_68) (l := x0) Try.underlying63 rfl rfl h0_0 (wl_move rfl rfl (WL.nil (fun a ha => hK8 _ _ (W.block (W.loopk (fun m a w9 => ∃ (y12 : Int), St 19 [(3, (.pointer (some ⟨b2, 0, none⟩))), (7, v0_0), (8, (.int .i64 (List.length x0 : Int))), (9, (.int .i64 y12))] a ∧ Below w0.heap.size w0 w9 ∧ Sep w0.heap.size w9 [R.blk b2 68 [(.int .i64 x1.1), (.int .i64 x1.2)]] ∧ F_spec_chFind_L1 x0 x1 m y12 = some r) FU ?_ ?_)) a ha)))))))) a ha))
 ·
  exact fun a ha => ⟨0, ha.sub ⟨rfl, rfl, rfl, rfl, trivial⟩, hB5, (hS6.sel [0] rfl), hF⟩
 ·
  rintro m15 a w9 ⟨y12, ha, hB10, hS11, hF⟩ KL14 hKL14
  refine W.at ?_ ha
  cases m15 with
  | zero => exact noneE hF
  | succ m15 =>
   obtain ⟨nx13, hnx13⟩ : ∃ k, k = F_spec_chFind_L1 x0 x1 m15 := ⟨_, rfl⟩
   rw [F_spec_chFind_L1, ← hnx13] at hF
   refine W.seq fun K16 hK16 => W.region (wl_lss rfl rfl rfl (WL.nil (fun a ha => hK16 _ _ (W.seq fun K17 hK17 => (W.cond rfl (fun h18 => ?_) (fun h18 => ?_))) a ha)))
   ·replace hF := ifP h18 hF
    refine W.skip fun a ha => hK17 _ _ (W.seq fun K19 hK19 => (W.block (W.seq fun K20 hK20 => (W.region (wl_move rfl rfl ?_))))) a ha
    obtain ⟨u21, hu21, hF⟩ := bindE hF
    refine wl_index (e := ty_68) Try.underlying63 rfl rfl rfl h0_0 hu21 ?_
    rintro p22 _ rfl hp23
    refine wl_load_p (vs := [(.int .i64 u21.1), (.int .i64 u21.2)]) (v := (.agg #[(.int .i64 u21.1), (.int .i64 u21.2)])) tf_68 rfl rfl (hp23.ro hB10) rfl rfl (wl_alloc (cs := [(.int .i64 0), (.int .i64 0)]) tf_68 rfl rfl hB10 hS11 ?_)
    intro b24 w25 hb26 hB27 hS28
    refine wl_assign rfl rfl (wl_store_blk (i := 0) (vs := [(.int .i64 u21.1), (.int .i64 u21.2)]) (cs' := [(.int .i64 u21.1), (.int .i64 u21.2)]) tf_68 rfl rfl rfl rfl hB27 hS28 rfl rfl ⟨rfl, rfl, trivial⟩ rfl ?_)
    intro w29 hk32 hB30 hS31
    refine WL.nil fun a ha => hK20 _ _ (W.seq fun K33 hK33 => (W.region (wl_load_blk (i := 0) (vs := [(.int .i64 u21.1), (.int .i64 u21.2)]) (v := (.agg #[(.int .i64 u21.1), (.int .i64 u21.2)])) tf_68 rfl rfl hS31 rfl rfl rfl (wl_load_blk (i := 1) (vs := [(.int .i64 x1.1), (.int .i64 x1.2)]) (v := (.agg #[(.int .i64 x1.1), (.int .i64 x1.2)])) tf_68 rfl rfl hS31 rfl rfl rfl (wl_eqs Try.eqGuardType68 (eq_68 u21 x1) rfl rfl rfl (WL.nil (fun a ha => hK33 _ _ (W.cond rfl (fun h34 => ?_) (fun h34 => ?_)) a ha))))))) a ha
    ·replace hF := ifP h34 hF
     refine W.seq fun K35 hK35 => W.region (wl_move rfl rfl (wl_assign rfl rfl (WL.nil (fun a ha => hK35 _ _ (W.ret ?_) a ha))))
     have hr := Option.some.inj hF
     subst hr
     exact rets (vs := [(.int .i64 y12)]) hQ rfl ⟨rv_tmp rfl, trivial⟩ ⟨rfl, hB30⟩
    ·replace hF := ifN h34 hF
     refine W.skip fun a ha => hK19 _ _ (W.region (wl_add rfl rfl rfl (wl_move rfl rfl (WL.nil ?_)))) a ha
     rw [hnx13] at hF
     exact fun a ha => hKL14 a _ m15 (Nat.lt_succ_self m15) ⟨(w64 (y12 + 1)), ha.sub ⟨rfl, rfl, rfl, rfl, trivial⟩, hB30, (hS31.sel [1] rfl), hF⟩
   ·replace hF := ifN h18 hF
    refine W.exit fun a ha => hK7 _ _ (W.seq fun K36 hK36 => (W.region (wl_assign rfl rfl (WL.nil (fun a ha => hK36 _ _ (W.ret ?_) a ha))))) a ha
    have hr := Option.some.inj hF
    subst hr
    exact rets (vs := [(.int .i64 (-1))]) hQ rfl ⟨rv_tmp rfl, trivial⟩ ⟨rfl, hB10⟩
theorem C_spec_chOwn (w0 : World) (x0 : (List (Int × Int))) (v0_0 : Value) (h0_0 : rdS ty_68 (· < w0.heap.size) w0 v0_0 x0) (r : (List (Int × Int))) (hF : F_spec_chOwn x0 = some r) :
  Calls Try.prog 171 [v0_0].toArray w0 fun e w' => ∃ (q0 : Value) (G0 : List Nat), e = .returned q0 ∧ Below w0.heap.size w0 w' ∧ Sep w0.heap.size w' [R.own ty_68 G0 q0 r] := by
 refine calls_mk' Try.func171 rfl Try.ntmps171 rfl rfl fun Q hQ hP => ?_
 have hB : Below w0.heap.size w0 w0 := Below.refl _ _
 have hS : Sep w0.heap.size w0 [] := Sep.nil _ _
 unfold F_spec_chOwn at hF
 refine W.seq fun K1 hK1 => W.region (wl_assign rfl rfl (WL.nil (fun a ha => hK1 _ _ (W.seq fun K2 hK2 => (W.region (wl_lit (vs := []) (l := []) fl_68 Try.underlying63 rfl rfl rfl rfl rfl rfl hB hS ?_))) a ha)))
 intro v3 F4 w5 hb6 hB7 hS8
 refine wl_move rfl rfl ?_
 obtain ⟨u9, hu9, hF⟩ := bindE hF
 refine wl_append (i := 0) (S := (· < w5.heap.size)) fl_68 Try.underlying63 rfl rfl rfl hB7 hS8 rfl (h0_0.ro hB7) hu9 ?_
 intro v10 F11 w12 hk13 hB14 hS15
 refine wl_assign rfl rfl (WL.nil (fun a ha => hK2 _ _ (W.ret ?_) a ha))
 have hr := Option.some.inj hF
 subst hr
 exact rets (vs := [v10]) hQ rfl ⟨rv_tmp rfl, trivial⟩ ⟨v10, F11, rfl, hB14, hS15.sel [0] rfl⟩
theorem C_spec_stGood (w0 : World) (x0 : (Int × Int)) (r : Bool) (hF : F_spec_stGood x0 = some r) :
  Calls Try.prog 257 [(.agg #[(.int .i64 x0.1), (.int .i64 x0.2)])].toArray w0 fun e w' => e = .returned (.bool r) ∧ Below w0.heap.size w0 w' := by
 refine calls_mk' Try.func257 rfl Try.ntmps257 rfl rfl fun Q hQ hP => ?_
 have hB : Below w0.heap.size w0 w0 := Below.refl _ _
 have hS : Sep w0.heap.size w0 [] := Sep.nil _ _
 unfold F_spec_stGood at hF
 refine W.seq fun K1 hK1 => W.region (wl_box (cs := [(.int .i64 x0.1), (.int .i64 x0.2)]) rfl rfl rfl hB hS ?_)
 intro b2 w3 hb4 hB5 hS6
 refine wl_assign rfl rfl (WL.nil (fun a ha => hK1 _ _ (W.seq fun K7 hK7 => ?_) a ha))
 obtain ⟨k12, hk12, hF⟩ := jE1 hF
 have hJ13 : ∀ (y11 : Bool) (w8 : World) (_ : k12 y11 = some r) (_ : Below w0.heap.size w0 w8) (_ : Sep w0.heap.size w8 []), ∀ a, St 11 [(2, (.bool y11))] a → K7 a w8 := by
  intro y11 w8 hF hB9 hS10
  subst hk12
  refine fun a ha => hK7 _ _ (W.ret ?_) a ha
  have hr := Option.some.inj hF
  subst hr
  exact rets (vs := [(.bool y11)]) hQ rfl ⟨rv_tmp rfl, trivial⟩ ⟨rfl, hB9⟩
 refine W.region (wl_field (o := 0) (off' := 0) ff_68_0 rfl rfl rfl (wl_load_blk (i := 0) (vs := [(.int .i64 x0.1)]) (v := (.int .i64 x0.1)) tf_3 rfl rfl hS6 rfl rfl rfl ?_))
 obtain ⟨u14, hu14, hF⟩ := bindE hF
 refine wl_call rfl Try.call138 (C_spec_l1In w3 x0.1 0 1280 _ hu14) rfl ?_
 rintro _ w15 ⟨rfl, hb16⟩
 refine ⟨_, rfl, ?_⟩
 have hB17 := hB5.trans (hb16.mono hB5.size)
 have hS18 := hS6.below hb16
 refine wl_move rfl rfl ?_
 rcases bE u14 with h20 | h20
 ·replace hF := ifP h20 hF
  refine wl_on rfl rfl h20 (wl_field (o := 1) (off' := 1) ff_68_1 rfl rfl rfl (wl_on rfl rfl h20 (wl_load_blk (i := 0) (vs := [(.int .i64 x0.2)]) (v := (.int .i64 x0.2)) tf_3 rfl rfl hS18 rfl rfl rfl (wl_on rfl rfl h20 ?_))))
  obtain ⟨u21, hu21, hF⟩ := bindE hF
  refine wl_call rfl Try.call138 (C_spec_l1In w15 x0.2 0 672 _ hu21) rfl ?_
  rintro _ w22 ⟨rfl, hb23⟩
  refine ⟨_, rfl, ?_⟩
  have hB24 := hB17.trans (hb23.mono hB17.size)
  have hS25 := hS18.below hb23
  refine wl_pick_t rfl rfl h20 rfl (wl_assign rfl rfl (WL.nil ?_))
  exact fun a ha => hJ13 (u21) _ hF hB24 (hS25.sel [] rfl) a (ha.sub ⟨rfl, trivial⟩)
 ·replace hF := ifN h20 hF
  refine wl_off rfl rfl rfl h20 (wl_off rfl rfl rfl h20 (wl_off rfl rfl rfl h20 (wl_pick_f rfl rfl h20 rfl (wl_assign rfl rfl (WL.nil ?_)))))
  exact fun a ha => hJ13 (false) _ hF hB17 (hS18.sel [] rfl) a (ha.sub ⟨rfl, trivial⟩)
theorem C_spec_chGood (w0 : World) (x0 : (List (Int × Int))) (v0_0 : Value) (h0_0 : rdS ty_68 (· < w0.heap.size) w0 v0_0 x0) (r : Bool) (hF : F_spec_chGood x0 = some r) :
  Calls Try.prog 226 [v0_0].toArray w0 fun e w' => e = .returned (.bool r) ∧ Below w0.heap.size w0 w' := by
 refine calls_mk' Try.func226 rfl Try.ntmps226 rfl rfl fun Q hQ hP => ?_
 have hB : Below w0.heap.size w0 w0 := Below.refl _ _
 have hS : Sep w0.heap.size w0 [] := Sep.nil _ _
 unfold F_spec_chGood at hF
 refine W.seq fun K1 hK1 => W.region (wl_assign rfl rfl (WL.nil (fun a ha => hK1 _ _ (W.seq fun K2 hK2 => (W.seq fun K3 hK3 => (W.region (wl_move rfl rfl (wl_lenr (e := ty_68) (l := x0) Try.underlying63 rfl rfl h0_0 (wl_move rfl rfl (WL.nil (fun a ha => hK3 _ _ (W.block ?_) a ha)))))))) a ha)))
 refine W.loopk (fun m a w4 => ∃ (y7 : Int), St 33 [(0, v0_0), (7, v0_0), (8, (.int .i64 (List.length x0 : Int))), (9, (.int .i64 y7))] a ∧ Below w0.heap.size w0 w4 ∧ Sep w0.heap.size w4 [] ∧ F_spec_chGood_L1 x0 m y7 = some r) FU ?_ ?_
 ·
  exact fun a ha => ⟨0, ha.sub ⟨rfl, rfl, rfl, rfl, trivial⟩, hB, (hS.sel [] rfl), hF⟩
 ·
  rintro m10 a w4 ⟨y7, ha, hB5, hS6, hF⟩ KL9 hKL9
  refine W.at ?_ ha
  cases m10 with
  | zero => exact noneE hF
  | succ m10 =>
   obtain ⟨nx8, hnx8⟩ : ∃ k, k = F_spec_chGood_L1 x0 m10 := ⟨_, rfl⟩
   rw [F_spec_chGood_L1, ← hnx8] at hF
   refine W.seq fun K11 hK11 => W.region (wl_lss rfl rfl rfl (WL.nil (fun a ha => hK11 _ _ (W.seq fun K12 hK12 => (W.cond rfl (fun h13 => ?_) (fun h13 => ?_))) a ha)))
   ·replace hF := ifP h13 hF
    refine W.skip fun a ha => hK12 _ _ (W.seq fun K14 hK14 => (W.block (W.seq fun K15 hK15 => (W.region (wl_move rfl rfl ?_))))) a ha
    obtain ⟨u16, hu16, hF⟩ := bindE hF
    refine wl_index (e := ty_68) Try.underlying63 rfl rfl rfl h0_0 hu16 ?_
    rintro p17 _ rfl hp18
    refine wl_load_p (vs := [(.int .i64 u16.1), (.int .i64 u16.2)]) (v := (.agg #[(.int .i64 u16.1), (.int .i64 u16.2)])) tf_68 rfl rfl (hp18.ro hB5) rfl rfl (wl_alloc (cs := [(.int .i64 0), (.int .i64 0)]) tf_68 rfl rfl hB5 hS6 ?_)
    intro b19 w20 hb21 hB22 hS23
    refine wl_assign rfl rfl (wl_store_blk (i := 0) (vs := [(.int .i64 u16.1), (.int .i64 u16.2)]) (cs' := [(.int .i64 u16.1), (.int .i64 u16.2)]) tf_68 rfl rfl rfl rfl hB22 hS23 rfl rfl ⟨rfl, rfl, trivial⟩ rfl ?_)
    intro w24 hk27 hB25 hS26
    refine WL.nil fun a ha => hK15 _ _ (W.seq fun K28 hK28 => (W.seq fun K29 hK29 => (W.region (wl_load_blk (i := 0) (vs := [(.int .i64 u16.1), (.int .i64 u16.2)]) (v := (.agg #[(.int .i64 u16.1), (.int .i64 u16.2)])) tf_68 rfl rfl hS26 rfl rfl rfl ?_)))) a ha
    obtain ⟨u30, hu30, hF⟩ := bindE hF
    refine wl_call rfl Try.call257 (C_spec_stGood w24 u16 _ hu30) rfl ?_
    rintro _ w31 ⟨rfl, hb32⟩
    refine ⟨_, rfl, ?_⟩
    have hB33 := hB25.trans (hb32.mono hB25.size)
    have hS34 := hS26.below hb32
    refine wl_not rfl rfl (WL.nil (fun a ha => hK29 _ _ (W.cond rfl (fun h36 => ?_) (fun h36 => ?_)) a ha))
    ·replace hF := ifP h36 hF
     refine W.seq fun K37 hK37 => W.region (wl_assign rfl rfl (WL.nil (fun a ha => hK37 _ _ (W.ret ?_) a ha)))
     have hr := Option.some.inj hF
     subst hr
     exact rets (vs := [(.bool false)]) hQ rfl ⟨rv_tmp rfl, trivial⟩ ⟨rfl, hB33⟩
    ·replace hF := ifN h36 hF
     refine W.skip fun a ha => hK28 _ _ (W.seq fun K38 hK38 => (W.region (wl_move rfl rfl (wl_move rfl rfl ?_)))) a ha
     obtain ⟨u39, hu39, hF⟩ := bindE hF
     refine wl_slice (e := ty_68) Try.underlying63 rfl rfl h0_0 hu39 (.inl ⟨rfl, rfl⟩) (.inr ⟨_, _, rfl, rfl⟩) ?_
     intro v40 hv41
     refine wl_lenr (e := ty_68) (l := u39) Try.underlying63 rfl rfl hv41 (wl_move rfl rfl (WL.nil (fun a ha => hK38 _ _ (W.block (W.loopk (fun m a w42 => ∃ (y45 : Int), St 33 [(0, v0_0), (4, (.pointer (some ⟨b19, 0, none⟩))), (7, v0_0), (8, (.int .i64 (List.length x0 : Int))), (9, (.int .i64 y7)), (19, v40), (20, (.int .i64 (List.length u39 : Int))), (21, (.int .i64 y45))] a ∧ Below w0.heap.size w0 w42 ∧ Sep w0.heap.size w42 [R.blk b19 68 [(.int .i64 u16.1), (.int .i64 u16.2)]] ∧ F_spec_chGood_L2 u39 u16 nx8 y7 m y45 = some r) FU ?_ ?_)) a ha)))
     ·
      exact fun a ha => ⟨0, ha.sub ⟨rfl, rfl, rfl, rfl, rfl, rfl, rfl, rfl, trivial⟩, hB33, (hS34.sel [0] rfl), hF⟩
     ·
      rintro m48 a w42 ⟨y45, ha, hB43, hS44, hF⟩ KL47 hKL47
      refine W.at ?_ ha
      cases m48 with
      | zero => exact noneE hF
      | succ m48 =>
       obtain ⟨nx46, hnx46⟩ : ∃ k, k = F_spec_chGood_L2 u39 u16 nx8 y7 m48 := ⟨_, rfl⟩
       rw [F_spec_chGood_L2, ← hnx46] at hF
       refine W.seq fun K49 hK49 => W.region (wl_lss rfl rfl rfl (WL.nil (fun a ha => hK49 _ _ (W.seq fun K50 hK50 => (W.cond rfl (fun h51 => ?_) (fun h51 => ?_))) a ha)))
       ·replace hF := ifP h51 hF
        refine W.skip fun a ha => hK50 _ _ (W.seq fun K52 hK52 => (W.block (W.seq fun K53 hK53 => (W.region ?_)))) a ha
        obtain ⟨u54, hu54, hF⟩ := bindE hF
        refine wl_index (e := ty_68) Try.underlying63 rfl rfl rfl hv41 hu54 ?_
        rintro p55 _ rfl hp56
        refine wl_load_p (vs := [(.int .i64 u54.1), (.int .i64 u54.2)]) (v := (.agg #[(.int .i64 u54.1), (.int .i64 u54.2)])) tf_68 rfl rfl (hp56.ro hB43) rfl rfl (wl_alloc (cs := [(.int .i64 0), (.int .i64 0)]) tf_68 rfl rfl hB43 hS44 ?_)
        intro b57 w58 hb59 hB60 hS61
        refine wl_store_blk (i := 0) (vs := [(.int .i64 u54.1), (.int .i64 u54.2)]) (cs' := [(.int .i64 u54.1), (.int .i64 u54.2)]) tf_68 rfl rfl rfl rfl hB60 hS61 rfl rfl ⟨rfl, rfl, trivial⟩ rfl ?_
        intro w62 hk65 hB63 hS64
        refine WL.nil fun a ha => hK53 _ _ (W.seq fun K66 hK66 => (W.region (wl_load_blk (i := 1) (vs := [(.int .i64 u16.1), (.int .i64 u16.2)]) (v := (.agg #[(.int .i64 u16.1), (.int .i64 u16.2)])) tf_68 rfl rfl hS64 rfl rfl rfl (wl_load_blk (i := 0) (vs := [(.int .i64 u54.1), (.int .i64 u54.2)]) (v := (.agg #[(.int .i64 u54.1), (.int .i64 u54.2)])) tf_68 rfl rfl hS64 rfl rfl rfl (wl_eqs Try.eqGuardType68 (eq_68 u16 u54) rfl rfl rfl (WL.nil (fun a ha => hK66 _ _ (W.cond rfl (fun h67 => ?_) (fun h67 => ?_)) a ha))))))) a ha
        ·replace hF := ifP h67 hF
         refine W.seq fun K68 hK68 => W.region (wl_assign rfl rfl (WL.nil (fun a ha => hK68 _ _ (W.ret ?_) a ha)))
         have hr := Option.some.inj hF
         subst hr
         exact rets (vs := [(.bool false)]) hQ rfl ⟨rv_tmp rfl, trivial⟩ ⟨rfl, hB63⟩
        ·replace hF := ifN h67 hF
         refine W.skip fun a ha => hK52 _ _ (W.region (wl_add rfl rfl rfl (wl_move rfl rfl (WL.nil ?_)))) a ha
         rw [hnx46] at hF
         exact fun a ha => hKL47 a _ m48 (Nat.lt_succ_self m48) ⟨(w64 (y45 + 1)), ha.sub ⟨rfl, rfl, rfl, rfl, rfl, rfl, rfl, rfl, trivial⟩, hB63, (hS64.sel [1] rfl), hF⟩
       ·replace hF := ifN h51 hF
        refine W.exit fun a ha => hK14 _ _ (W.region (wl_add rfl rfl rfl (wl_move rfl rfl (WL.nil ?_)))) a ha
        rw [hnx8] at hF
        exact fun a ha => hKL9 a _ m10 (Nat.lt_succ_self m10) ⟨(w64 (y7 + 1)), ha.sub ⟨rfl, rfl, rfl, rfl, trivial⟩, hB43, (hS44.sel [] rfl), hF⟩
   ·replace hF := ifN h13 hF
    refine W.exit fun a ha => hK2 _ _ (W.seq fun K69 hK69 => (W.region (wl_move rfl rfl (wl_lenr (e := ty_68) (l := x0) Try.underlying63 rfl rfl h0_0 ?_)))) a ha
    obtain ⟨u70, hu70, hF⟩ := bindE hF
    refine wl_call rfl Try.call138 (C_spec_l1In w4 (List.length x0 : Int) 1 12 _ hu70) rfl ?_
    rintro _ w71 ⟨rfl, hb72⟩
    refine ⟨_, rfl, ?_⟩
    have hB73 := hB5.trans (hb72.mono hB5.size)
    refine wl_assign rfl rfl (WL.nil (fun a ha => hK69 _ _ (W.ret ?_) a ha))
    have hr := Option.some.inj hF
    subst hr
    exact rets (vs := [(.bool u70)]) hQ rfl ⟨rv_tmp rfl, trivial⟩ ⟨rfl, hB73⟩
theorem C_spec_l1All (w0 : World) (x0 : (List Int)) (v0_0 : Value) (h0_0 : rdS ty_3 (· < w0.heap.size) w0 v0_0 x0) (x1 : Int) (x2 : Int) (r : Bool) (hF : F_spec_l1All x0 x1 x2 = some r) :
  Calls Try.prog 227 [v0_0, (.int .i64 x1), (.int .i64 x2)].toArray w0 fun e w' => e = .returned (.bool r) ∧ Below w0.heap.size w0 w' := by
 refine calls_mk' Try.func227 rfl Try.ntmps227 rfl rfl fun Q hQ hP => ?_
 have hB : Below w0.heap.size w0 w0 := Below.refl _ _
 have hS : Sep w0.heap.size w0 [] := Sep.nil _ _
 unfold F_spec_l1All at hF
 refine W.seq fun K1 hK1 => W.region (wl_assign rfl rfl (WL.nil (fun a ha => hK1 _ _ (W.seq fun K2 hK2 => (W.seq fun K3 hK3 => (W.region (wl_move rfl rfl (wl_lenr (e := ty_3) (l := x0) Try.underlying29 rfl rfl h0_0 (wl_move rfl rfl (WL.nil (fun a ha => hK3 _ _ (W.block ?_) a ha)))))))) a ha)))
 refine W.loopk (fun m a w4 => ∃ (y7 : Int), St 21 [(1, (.int .i64 x1)), (2, (.int .i64 x2)), (9, v0_0), (10, (.int .i64 (List.length x0 : Int))), (11, (.int .i64 y7))] a ∧ Below w0.heap.size w0 w4 ∧ Sep w0.heap.size w4 [] ∧ F_spec_l1All_L1 x0 x1 x2 m y7 = some r) FU ?_ ?_
 ·
  exact fun a ha => ⟨0, ha.sub ⟨rfl, rfl, rfl, rfl, rfl, trivial⟩, hB, (hS.sel [] rfl), hF⟩
 ·
  rintro m10 a w4 ⟨y7, ha, hB5, hS6, hF⟩ KL9 hKL9
  refine W.at ?_ ha
  cases m10 with
  | zero => exact noneE hF
  | succ m10 =>
   obtain ⟨nx8, hnx8⟩ : ∃ k, k = F_spec_l1All_L1 x0 x1 x2 m10 := ⟨_, rfl⟩
   rw [F_spec_l1All_L1, ← hnx8] at hF
   refine W.seq fun K11 hK11 => W.region (wl_lss rfl rfl rfl (WL.nil (fun a ha => hK11 _ _ (W.seq fun K12 hK12 => (W.cond rfl (fun h13 => ?_) (fun h13 => ?_))) a ha)))
   ·replace hF := ifP h13 hF
    refine W.skip fun a ha => hK12 _ _ (W.seq fun K14 hK14 => (W.block (W.seq fun K15 hK15 => (W.region ?_)))) a ha
    obtain ⟨u16, hu16, hF⟩ := bindE hF
    refine wl_index (e := ty_3) Try.underlying29 rfl rfl rfl h0_0 hu16 ?_
    rintro p17 _ rfl hp18
    refine wl_load_p (vs := [(.int .i64 u16)]) (v := (.int .i64 u16)) tf_3 rfl rfl (hp18.ro hB5) rfl rfl (wl_assign rfl rfl (WL.nil (fun a ha => hK15 _ _ (W.seq fun K19 hK19 => (W.region (wl_move rfl rfl (wl_move rfl rfl (wl_move rfl rfl ?_))))) a ha)))
    obtain ⟨u20, hu20, hF⟩ := bindE hF
    refine wl_call rfl Try.call138 (C_spec_l1In w4 u16 x1 x2 _ hu20) rfl ?_
    rintro _ w21 ⟨rfl, hb22⟩
    refine ⟨_, rfl, ?_⟩
    have hB23 := hB5.trans (hb22.mono hB5.size)
    have hS24 := hS6.below hb22
    refine wl_not rfl rfl (WL.nil (fun a ha => hK19 _ _ (W.cond rfl (fun h26 => ?_) (fun h26 => ?_)) a ha))
    ·replace hF := ifP h26 hF
     refine W.seq fun K27 hK27 => W.region (wl_assign rfl rfl (WL.nil (fun a ha => hK27 _ _ (W.ret ?_) a ha)))
     have hr := Option.some.inj hF
     subst hr
     exact rets (vs := [(.bool false)]) hQ rfl ⟨rv_tmp rfl, trivial⟩ ⟨rfl, hB23⟩
    ·replace hF := ifN h26 hF
     refine W.skip fun a ha => hK14 _ _ (W.region (wl_add rfl rfl rfl (wl_move rfl rfl (WL.nil ?_)))) a ha
     rw [hnx8] at hF
     exact fun a ha => hKL9 a _ m10 (Nat.lt_succ_self m10) ⟨(w64 (y7 + 1)), ha.sub ⟨rfl, rfl, rfl, rfl, rfl, trivial⟩, hB23, (hS24.sel [] rfl), hF⟩
   ·replace hF := ifN h13 hF
    refine W.exit fun a ha => hK2 _ _ (W.seq fun K28 hK28 => (W.region (wl_assign rfl rfl (WL.nil (fun a ha => hK28 _ _ (W.ret ?_) a ha))))) a ha
    have hr := Option.some.inj hF
    subst hr
    exact rets (vs := [(.bool true)]) hQ rfl ⟨rv_tmp rfl, trivial⟩ ⟨rfl, hB5⟩
theorem C_spec_apDistance (w0 : World) (x0 : Int) (r : Bool) (hF : F_spec_apDistance x0 = some r) :
  Calls Try.prog 228 [(.int .i64 x0)].toArray w0 fun e w' => e = .returned (.bool r) ∧ Below w0.heap.size w0 w' := by
 refine calls_mk' Try.func228 rfl Try.ntmps228 rfl rfl fun Q hQ hP => ?_
 have hB : Below w0.heap.size w0 w0 := Below.refl _ _
 unfold F_spec_apDistance at hF
 refine W.seq fun K1 hK1 => W.region (wl_assign rfl rfl (WL.nil (fun a ha => hK1 _ _ (W.seq fun K2 hK2 => (W.region (wl_move rfl rfl ?_))) a ha)))
 obtain ⟨u3, hu3, hF⟩ := bindE hF
 refine wl_call rfl Try.call138 (C_spec_l1In w0 x0 0 80 _ hu3) rfl ?_
 rintro _ w4 ⟨rfl, hb5⟩
 refine ⟨_, rfl, ?_⟩
 have hB6 := hB.trans (hb5.mono hB.size)
 refine wl_assign rfl rfl (WL.nil (fun a ha => hK2 _ _ (W.ret ?_) a ha))
 have hr := Option.some.inj hF
 subst hr
 exact rets (vs := [(.bool u3)]) hQ rfl ⟨rv_tmp rfl, trivial⟩ ⟨rfl, hB6⟩
theorem C_spec_mvStep (w0 : World) (x0 : Int) (r : Bool) (hF : F_spec_mvStep x0 = some r) :
  Calls Try.prog 229 [(.int .i64 x0)].toArray w0 fun e w' => e = .returned (.bool r) ∧ Below w0.heap.size w0 w' := by
 refine calls_mk' Try.func229 rfl Try.ntmps229 rfl rfl fun Q hQ hP => ?_
 have hB : Below w0.heap.size w0 w0 := Below.refl _ _
 unfold F_spec_mvStep at hF
 refine W.seq fun K1 hK1 => W.region (wl_assign rfl rfl (WL.nil (fun a ha => hK1 _ _ (W.seq fun K2 hK2 => (W.region (wl_move rfl rfl ?_))) a ha)))
 obtain ⟨u3, hu3, hF⟩ := bindE hF
 refine wl_call rfl Try.call138 (C_spec_l1In w0 x0 1 24 _ hu3) rfl ?_
 rintro _ w4 ⟨rfl, hb5⟩
 refine ⟨_, rfl, ?_⟩
 have hB6 := hB.trans (hb5.mono hB.size)
 refine wl_assign rfl rfl (WL.nil (fun a ha => hK2 _ _ (W.ret ?_) a ha))
 have hr := Option.some.inj hF
 subst hr
 exact rets (vs := [(.bool u3)]) hQ rfl ⟨rv_tmp rfl, trivial⟩ ⟨rfl, hB6⟩
theorem C_spec_swGood (w0 : World) (x0 : ((List (List (Int × Int))) × (List Int) × Int × Int)) (v0_0 : Value) (h0_0 : rdS ty_63 (· < w0.heap.size) w0 v0_0 x0.1) (v0_1 : Value) (h0_1 : rdS ty_3 (· < w0.heap.size) w0 v0_1 x0.2.1) (r : Bool) (hF : F_spec_swGood x0 = some r) :
  Calls Try.prog 145 [(.agg #[v0_0, v0_1, (.int .i64 x0.2.2.1), (.int .i64 x0.2.2.2)])].toArray w0 fun e w' => e = .returned (.bool r) ∧ Below w0.heap.size w0 w' := by
 refine calls_mk' Try.func145 rfl Try.ntmps145 rfl rfl fun Q hQ hP => ?_
 have hB : Below w0.heap.size w0 w0 := Below.refl _ _
 have hS : Sep w0.heap.size w0 [] := Sep.nil _ _
 unfold F_spec_swGood at hF
 refine W.seq fun K1 hK1 => W.region (wl_box (cs := [v0_0, v0_1, (.int .i64 x0.2.2.1), (.int .i64 x0.2.2.2)]) rfl rfl rfl hB hS ?_)
 intro b2 w3 hb4 hB5 hS6
 refine wl_assign rfl rfl (WL.nil (fun a ha => hK1 _ _ (W.seq fun K7 hK7 => (W.seq fun K8 hK8 => (W.region (wl_field (o := 0) (off' := 0) ff_53_0 rfl rfl rfl (wl_load_blk (i := 0) (vs := [v0_0]) (v := v0_0) tf_51 rfl rfl hS6 rfl rfl rfl (wl_lenr (e := ty_63) (l := x0.1) Try.underlying51 rfl rfl h0_0 (wl_move rfl rfl (WL.nil (fun a ha => hK8 _ _ (W.block (W.loopk (fun m a w9 => ∃ (y12 : Int), St 55 [(1, (.pointer (some ⟨b2, 0, none⟩))), (6, v0_0), (7, (.int .i64 (List.length x0.1 : Int))), (8, (.int .i64 y12))] a ∧ Below w0.heap.size w0 w9 ∧ Sep w0.heap.size w9 [R.blk b2 53 [v0_0, v0_1, (.int .i64 x0.2.2.1), (.int .i64 x0.2.2.2)]] ∧ F_spec_swGood_L1 x0 m y12 = some r) FU ?_ ?_)) a ha))))))))) a ha))
 ·
  exact fun a ha => ⟨0, ha.sub ⟨rfl, rfl, rfl, rfl, trivial⟩, hB5, (hS6.sel [0] rfl), hF⟩
 ·
  rintro m15 a w9 ⟨y12, ha, hB10, hS11, hF⟩ KL14 hKL14
  refine W.at ?_ ha
  cases m15 with
  | zero => exact noneE hF
  | succ m15 =>
   obtain ⟨nx13, hnx13⟩ : ∃ k, k = F_spec_swGood_L1 x0 m15 := ⟨_, rfl⟩
   rw [F_spec_swGood_L1, ← hnx13] at hF
   refine W.seq fun K16 hK16 => W.region (wl_lss rfl rfl rfl (WL.nil (fun a ha => hK16 _ _ (W.seq fun K17 hK17 => (W.cond rfl (fun h18 => ?_) (fun h18 => ?_))) a ha)))
   ·replace hF := ifP h18 hF
    refine W.skip fun a ha => hK17 _ _ (W.seq fun K19 hK19 => (W.block (W.seq fun K20 hK20 => (W.region ?_)))) a ha
    obtain ⟨u21, hu21, hF⟩ := bindE hF
    refine wl_index (e := ty_63) Try.underlying51 rfl rfl rfl h0_0 hu21 ?_
    rintro p22 _ ⟨v24, rfl, hv25⟩ hp23
    refine wl_load_p (vs := [v24]) (v := v24) tf_63 rfl rfl (hp23.ro hB10) rfl rfl (wl_assign rfl rfl (WL.nil (fun a ha => hK20 _ _ (W.seq fun K26 hK26 => ?_) a ha)))
    obtain ⟨k31, hk31, hF⟩ := jE1 hF
    have hJ32 : ∀ (y30 : Bool) (w27 : World) (_ : k31 y30 = some r) (_ : Below w0.heap.size w0 w27) (_ : Sep w0.heap.size w27 [R.blk b2 53 [v0_0, v0_1, (.int .i64 x0.2.2.1), (.int .i64 x0.2.2.2)]]), ∀ a, St 55 [(1, (.pointer (some ⟨b2, 0, none⟩))), (6, v0_0), (7, (.int .i64 (List.length x0.1 : Int))), (8, (.int .i64 y12)), (24, (.bool y30))] a → K26 a w27 := by
     intro y30 w27 hF hB28 hS29
     subst hk31
     refine fun a ha => hK26 _ _ (W.cond rfl (fun h33 => ?_) (fun h33 => ?_)) a ha
     ·replace hF := ifP h33 hF
      refine W.seq fun K34 hK34 => W.region (wl_assign rfl rfl (WL.nil (fun a ha => hK34 _ _ (W.ret ?_) a ha)))
      have hr := Option.some.inj hF
      subst hr
      exact rets (vs := [(.bool false)]) hQ rfl ⟨rv_tmp rfl, trivial⟩ ⟨rfl, hB28⟩
     ·replace hF := ifN h33 hF
      refine W.skip fun a ha => hK19 _ _ (W.region (wl_add rfl rfl rfl (wl_move rfl rfl (WL.nil ?_)))) a ha
      rw [hnx13] at hF
      exact fun a ha => hKL14 a _ m15 (Nat.lt_succ_self m15) ⟨(w64 (y12 + 1)), ha.sub ⟨rfl, rfl, rfl, rfl, trivial⟩, hB28, (hS29.sel [0] rfl), hF⟩
    refine W.region (wl_move rfl rfl ?_)
    obtain ⟨u35, hu35, hF⟩ := bindE hF
    refine wl_call rfl Try.call226 (C_spec_chGood w9 u21 v24 (hv25.ro hB10) _ hu35) rfl ?_
    rintro _ w36 ⟨rfl, hb37⟩
    refine ⟨_, rfl, ?_⟩
    have hB38 := hB10.trans (hb37.mono hB10.size)
    have hS39 := hS11.below hb37
    refine wl_not rfl rfl (wl_move rfl rfl ?_)
    rcases bE (!u35) with h41 | h41
    ·replace hF := ifP h41 hF
     refine wl_off rfl rfl rfl h41 (wl_off rfl rfl rfl h41 (wl_off rfl rfl rfl h41 (wl_off rfl rfl rfl h41 (wl_off rfl rfl rfl h41 (wl_off rfl rfl rfl h41 (wl_off rfl rfl rfl h41 (wl_off rfl rfl rfl h41 (wl_pick_t rfl rfl h41 rfl (WL.nil ?_)))))))))
     exact fun a ha => hJ32 (true) _ hF hB38 (hS39.sel [0] rfl) a (ha.sub ⟨rfl, rfl, rfl, rfl, rfl, trivial⟩)
    ·replace hF := ifN h41 hF
     refine wl_on rfl rfl h41 (wl_move rfl rfl (wl_on rfl rfl h41 (wl_lenr (e := ty_68) (l := u21) Try.underlying63 rfl rfl hv25 (wl_on rfl rfl h41 (wl_field (o := 0) (off' := 0) ff_53_0 rfl rfl rfl (wl_on rfl rfl h41 (wl_load_blk (i := 0) (vs := [v0_0]) (v := v0_0) tf_51 rfl rfl hS39 rfl rfl rfl (wl_on rfl rfl h41 ?_))))))))
     obtain ⟨u42, hu42, hF⟩ := bindE hF
     refine wl_index (e := ty_63) Try.underlying51 rfl rfl rfl h0_0 hu42 ?_
     rintro p43 _ ⟨v45, rfl, hv46⟩ hp44
     refine wl_on rfl rfl h41 (wl_load_p (vs := [v45]) (v := v45) tf_63 rfl rfl (hp44.ro hB38) rfl rfl (wl_on rfl rfl h41 (wl_lenr (e := ty_68) (l := u42) Try.underlying63 rfl rfl hv46 (wl_on rfl rfl h41 (wl_neq rfl rfl rfl (wl_pick_f rfl rfl h41 rfl (WL.nil ?_)))))))
     exact fun a ha => hJ32 (((List.length u21 : Int) != (List.length u42 : Int))) _ hF hB38 (hS39.sel [0] rfl) a (ha.sub ⟨rfl, rfl, rfl, rfl, rfl, trivial⟩)
   ·replace hF := ifN h18 hF
    refine W.exit fun a ha => hK7 _ _ (W.seq fun K47 hK47 => ?_) a ha
    obtain ⟨k52, hk52, hF⟩ := jE1 hF
    have hJ53 : ∀ (y51 : Bool) (w48 : World) (_ : k52 y51 = some r) (_ : Below w0.heap.size w0 w48) (_ : Sep w0.heap.size w48 []), ∀ a, St 55 [(2, (.bool y51))] a → K47 a w48 := by
     intro y51 w48 hF hB49 hS50
     subst hk52
     refine fun a ha => hK47 _ _ (W.ret ?_) a ha
     have hr := Option.some.inj hF
     subst hr
     exact rets (vs := [(.bool y51)]) hQ rfl ⟨rv_tmp rfl, trivial⟩ ⟨rfl, hB49⟩
    refine W.region (wl_field (o := 0) (off' := 0) ff_53_0 rfl rfl rfl (wl_load_blk (i := 0) (vs := [v0_0]) (v := v0_0) tf_51 rfl rfl hS11 rfl rfl rfl (wl_lenr (e := ty_63) (l := x0.1) Try.underlying51 rfl rfl h0_0 ?_)))
    obtain ⟨u54, hu54, hF⟩ := bindE hF
    refine wl_call rfl Try.call138 (C_spec_l1In w9 (List.length x0.1 : Int) 2 8 _ hu54) rfl ?_
    rintro _ w55 ⟨rfl, hb56⟩
    refine ⟨_, rfl, ?_⟩
    have hB57 := hB10.trans (hb56.mono hB10.size)
    have hS58 := hS11.below hb56
    refine wl_move rfl rfl ?_
    rcases bE u54 with h60 | h60
    ·replace hF := ifP h60 hF
     refine wl_on rfl rfl h60 (wl_field (o := 1) (off' := 1) ff_53_1 rfl rfl rfl (wl_on rfl rfl h60 (wl_load_blk (i := 0) (vs := [v0_1]) (v := v0_1) tf_29 rfl rfl hS58 rfl rfl rfl (wl_on rfl rfl h60 (wl_lenr (e := ty_3) (l := x0.2.1) Try.underlying29 rfl rfl h0_1 (wl_on rfl rfl h60 (wl_field (o := 0) (off' := 0) ff_53_0 rfl rfl rfl (wl_on rfl rfl h60 (wl_load_blk (i := 0) (vs := [v0_0]) (v := v0_0) tf_51 rfl rfl hS58 rfl rfl rfl (wl_on rfl rfl h60 (wl_lenr (e := ty_63) (l := x0.1) Try.underlying51 rfl rfl h0_0 (wl_on rfl rfl h60 (wl_sub rfl rfl rfl ?_)))))))))))))
     refine wl_on rfl rfl h60 (wl_eql rfl rfl rfl (wl_pick_t rfl rfl h60 rfl (wl_move rfl rfl ?_)))
     rcases bE ((List.length x0.2.1 : Int) == (w64 ((List.length x0.1 : Int) - 1))) with h61 | h61
     ·replace hF := ifP h61 hF
      refine wl_on rfl rfl h61 (wl_field (o := 1) (off' := 1) ff_53_1 rfl rfl rfl (wl_on rfl rfl h61 (wl_load_blk (i := 0) (vs := [v0_1]) (v := v0_1) tf_29 rfl rfl hS58 rfl rfl rfl (wl_on rfl rfl h61 ?_))))
      obtain ⟨u62, hu62, hF⟩ := bindE hF
      refine wl_call rfl Try.call227 (C_spec_l1All w55 x0.2.1 v0_1 (h0_1.ro hB57) 1 64 _ hu62) rfl ?_
      rintro _ w63 ⟨rfl, hb64⟩
      refine ⟨_, rfl, ?_⟩
      have hB65 := hB57.trans (hb64.mono hB57.size)
      have hS66 := hS58.below hb64
      refine wl_pick_t rfl rfl h61 rfl (wl_move rfl rfl ?_)
      rcases bE u62 with h68 | h68
      ·replace hF := ifP h68 hF
       refine wl_on rfl rfl h68 (wl_field (o := 2) (off' := 2) ff_53_2 rfl rfl rfl (wl_on rfl rfl h68 (wl_load_blk (i := 0) (vs := [(.int .i64 x0.2.2.1)]) (v := (.int .i64 x0.2.2.1)) tf_3 rfl rfl hS66 rfl rfl rfl (wl_on rfl rfl h68 ?_))))
       obtain ⟨u69, hu69, hF⟩ := bindE hF
       refine wl_call rfl Try.call228 (C_spec_apDistance w63 x0.2.2.1 _ hu69) rfl ?_
       rintro _ w70 ⟨rfl, hb71⟩
       refine ⟨_, rfl, ?_⟩
       have hB72 := hB65.trans (hb71.mono hB65.size)
       have hS73 := hS66.below hb71
       refine wl_pick_t rfl rfl h68 rfl (wl_move rfl rfl ?_)
       rcases bE u69 with h75 | h75
       ·replace hF := ifP h75 hF
        refine wl_on rfl rfl h75 (wl_field (o := 3) (off' := 3) ff_53_3 rfl rfl rfl (wl_on rfl rfl h75 (wl_load_blk (i := 0) (vs := [(.int .i64 x0.2.2.2)]) (v := (.int .i64 x0.2.2.2)) tf_3 rfl rfl hS73 rfl rfl rfl (wl_on rfl rfl h75 ?_))))
        obtain ⟨u76, hu76, hF⟩ := bindE hF
        refine wl_call rfl Try.call229 (C_spec_mvStep w70 x0.2.2.2 _ hu76) rfl ?_
        rintro _ w77 ⟨rfl, hb78⟩
        refine ⟨_, rfl, ?_⟩
        have hB79 := hB72.trans (hb78.mono hB72.size)
        have hS80 := hS73.below hb78
        refine wl_pick_t rfl rfl h75 rfl (wl_assign rfl rfl (WL.nil ?_))
        exact fun a ha => hJ53 (u76) _ hF hB79 (hS80.sel [] rfl) a (ha.sub ⟨rfl, trivial⟩)
       ·replace hF := ifN h75 hF
        refine wl_off rfl rfl rfl h75 (wl_off rfl rfl rfl h75 (wl_off rfl rfl rfl h75 (wl_pick_f rfl rfl h75 rfl (wl_assign rfl rfl (WL.nil ?_)))))
        exact fun a ha => hJ53 (false) _ hF hB72 (hS73.sel [] rfl) a (ha.sub ⟨rfl, trivial⟩)
      ·replace hF := ifN h68 hF
       refine wl_off rfl rfl rfl h68 (wl_off rfl rfl rfl h68 (wl_off rfl rfl rfl h68 (wl_pick_f rfl rfl h68 rfl (wl_move rfl rfl (wl_off rfl rfl rfl rfl (wl_off rfl rfl rfl rfl (wl_off rfl rfl rfl rfl (wl_pick_f rfl rfl rfl rfl (wl_assign rfl rfl (WL.nil ?_))))))))))
       exact fun a ha => hJ53 (false) _ hF hB65 (hS66.sel [] rfl) a (ha.sub ⟨rfl, trivial⟩)
     ·replace hF := ifN h61 hF
      refine wl_off rfl rfl rfl h61 (wl_off rfl rfl rfl h61 (wl_off rfl rfl rfl h61 (wl_pick_f rfl rfl h61 rfl (wl_move rfl rfl (wl_off rfl rfl rfl rfl (wl_off rfl rfl rfl rfl (wl_off rfl rfl rfl rfl (wl_pick_f rfl rfl rfl rfl (wl_move rfl rfl (wl_off rfl rfl rfl rfl (wl_off rfl rfl rfl rfl (wl_off rfl rfl rfl rfl (wl_pick_f rfl rfl rfl rfl ?_)))))))))))))
      refine wl_assign rfl rfl (WL.nil ?_)
      exact fun a ha => hJ53 (false) _ hF hB57 (hS58.sel [] rfl) a (ha.sub ⟨rfl, trivial⟩)
    ·replace hF := ifN h60 hF
     refine wl_off rfl rfl rfl h60 (wl_off rfl rfl rfl h60 (wl_off rfl rfl rfl h60 (wl_off rfl rfl rfl h60 (wl_off rfl rfl rfl h60 (wl_off rfl rfl rfl h60 (wl_off rfl rfl rfl h60 (wl_off rfl rfl rfl h60 (wl_pick_f rfl rfl h60 rfl (wl_move rfl rfl (wl_off rfl rfl rfl rfl (wl_off rfl rfl rfl rfl (wl_off rfl rfl rfl rfl (wl_pick_f rfl rfl rfl rfl ?_)))))))))))))
     refine wl_move rfl rfl (wl_off rfl rfl rfl rfl (wl_off rfl rfl rfl rfl (wl_off rfl rfl rfl rfl (wl_pick_f rfl rfl rfl rfl (wl_move rfl rfl (wl_off rfl rfl rfl rfl (wl_off rfl rfl rfl rfl (wl_off rfl rfl rfl rfl (wl_pick_f rfl rfl rfl rfl (wl_assign rfl rfl (WL.nil ?_)))))))))))
     exact fun a ha => hJ53 (false) _ hF hB57 (hS58.sel [] rfl) a (ha.sub ⟨rfl, trivial⟩)
theorem C_spec_l1Cur__spot__mut__box (w0 : World) (x0 : ((List Int) × Int × Int)) (b0 : Nat) (v0_0 : Value) (h0_0 : rdS ty_5 (Out (fps [R.blk b0 131 [v0_0, (.int .i64 x0.2.1), (.int .u64 x0.2.2)]]) w0) w0 v0_0 x0.1) (hS0 : Sep 0 w0 [R.blk b0 131 [v0_0, (.int .i64 x0.2.1), (.int .u64 x0.2.2)]]) (r : ((Int × Int) × ((List Int) × Int × Int))) (hF : F_spec_l1Cur__spot__mut__box x0 = some r) :
  Calls Try.prog 239 [(.pointer (some ⟨b0, 0, none⟩))].toArray w0 fun e w' => e = .returned (.agg #[(.int .i64 r.1.1), (.int .i64 r.1.2)]) ∧ Below 0 (wE w0) w' ∧ Sep 0 w' [R.rest w0 (fps [R.blk b0 131 [v0_0, (.int .i64 x0.2.1), (.int .u64 x0.2.2)]]), R.blk b0 131 [v0_0, (.int .i64 r.2.2.1), (.int .u64 r.2.2.2)]] := by
 refine calls_mk' Try.func239 rfl Try.ntmps239 rfl rfl fun Q hQ hP => ?_
 have hB : Below (wE w0).heap.size (wE w0) w0 := wE_below w0
 have hS : Sep (wE w0).heap.size w0 [R.rest w0 (fps [R.blk b0 131 [v0_0, (.int .i64 x0.2.1), (.int .u64 x0.2.2)]]), R.blk b0 131 [v0_0, (.int .i64 x0.2.1), (.int .u64 x0.2.2)]] := hS0.rest
 unfold F_spec_l1Cur__spot__mut__box at hF
 refine W.seq fun K1 hK1 => W.region (wl_alloc (cs := [(.int .i64 0), (.int .i64 0)]) tf_68 rfl rfl hB hS ?_)
 intro b2 w3 hb4 hB5 hS6
 refine WL.nil fun a ha => hK1 _ _ (W.seq fun K7 hK7 => (W.region (wl_move rfl rfl (wl_move rfl rfl ?_)))) a ha
 obtain ⟨u8, hu8, hF⟩ := bindE hF
 refine wl_call rfl Try.call132 (C_spec_l1Cur__pick__mut__box w3 x0 b0 v0_0 (h0_0.rsto (hS6.sel [1, 2] rfl)) 161 (hS6.sel [2] rfl).base0 _ hu8) rfl ?_
 rintro _ w9 ⟨rfl, hE10, hM11⟩
 refine ⟨_, rfl, ?_⟩
 have hB12 := hS6.takeB [2] rfl (M := [R.blk b0 131 [v0_0, (.int .i64 x0.2.1), (.int .u64 x0.2.2)]]) rfl hB5 hE10 hM11
 have hS13 : Sep (wE w0).heap.size w9 [R.blk b0 131 [v0_0, (.int .i64 u8.2.2.1), (.int .u64 u8.2.2.2)], R.blk b2 68 [(.int .i64 0), (.int .i64 0)], R.rest w0 (fps [R.blk b0 131 [v0_0, (.int .i64 x0.2.1), (.int .u64 x0.2.2)]])] := hS6.take [2] [0, 1] rfl (M := [R.blk b0 131 [v0_0, (.int .i64 x0.2.1), (.int .u64 x0.2.2)]]) rfl hM11 hB5.size
 refine wl_mul rfl rfl rfl (wl_move rfl rfl ?_)
 obtain ⟨u14, hu14, hF⟩ := bindE hF
 refine wl_call rfl Try.call132 (C_spec_l1Cur__pick__mut__box w9 (x0.1, u8.2.2.1, u8.2.2.2) b0 v0_0 (h0_0.rsto (hS13.sel [2, 0] rfl)) 1281 (hS13.sel [0] rfl).base0 _ hu14) rfl ?_
 rintro _ w15 ⟨rfl, hE16, hM17⟩
 refine ⟨_, rfl, ?_⟩
 have hB18 := hS13.takeB [0] rfl (M := [R.blk b0 131 [v0_0, (.int .i64 u8.2.2.1), (.int .u64 u8.2.2.2)]]) rfl hB12 hE16 hM17
 have hS19 : Sep (wE w0).heap.size w15 [R.blk b0 131 [v0_0, (.int .i64 u14.2.2.1), (.int .u64 u14.2.2.2)], R.blk b2 68 [(.int .i64 0), (.int .i64 0)], R.rest w0 (fps [R.blk b0 131 [v0_0, (.int .i64 x0.2.1), (.int .u64 x0.2.2)]])] := hS13.take [0] [1, 2] rfl (M := [R.blk b0 131 [v0_0, (.int .i64 u8.2.2.1), (.int .u64 u8.2.2.2)]]) rfl hM17 hB12.size
 refine wl_lit (vs := [(.int .i64 0), (.int .i64 80), (.int .i64 160), (.int .i64 640), (.int .i64 (w64 (8 * u8.1))), (.int .i64 u14.1), (.int .i64 1280)]) (l := [0, 80, 160, 640, (w64 (8 * u8.1)), u14.1, 1280]) fl_3 Try.underlying29 rfl rfl rfl rfl rfl rfl hB18 hS19 ?_
 intro v20 F21 w22 hb23 hB24 hS25
 obtain ⟨u26, hu26, hF⟩ := bindE hF
 refine wl_call rfl Try.call136 (C_spec_l1Cur__among__mut__box w22 (x0.1, u14.2.2.1, u14.2.2.2) b0 v0_0 (h0_0.rsto (hS25.sel [3, 1] rfl)) [0, 80, 160, 640, (w64 (8 * u8.1)), u14.1, 1280] v20 (own_out (hS25.sel [0, 1] rfl)) (hS25.sel [1] rfl).base0 _ hu26) rfl ?_
 rintro _ w27 ⟨rfl, hE28, hM29⟩
 refine ⟨_, rfl, ?_⟩
 have hB30 := hS25.takeB [1] rfl (M := [R.blk b0 131 [v0_0, (.int .i64 u14.2.2.1), (.int .u64 u14.2.2.2)]]) rfl hB24 hE28 hM29
 have hS31 : Sep (wE w0).heap.size w27 [R.blk b0 131 [v0_0, (.int .i64 u26.2.2.1), (.int .u64 u26.2.2.2)], R.own ty_3 F21 v20 [0, 80, 160, 640, (w64 (8 * u8.1)), u14.1, 1280], R.blk b2 68 [(.int .i64 0), (.int .i64 0)], R.rest w0 (fps [R.blk b0 131 [v0_0, (.int .i64 x0.2.1), (.int .u64 x0.2.2)]])] := hS25.take [1] [0, 2, 3] rfl (M := [R.blk b0 131 [v0_0, (.int .i64 u14.2.2.1), (.int .u64 u14.2.2.2)]]) rfl hM29 hB24.size
 refine wl_move rfl rfl (wl_move rfl rfl ?_)
 obtain ⟨u32, hu32, hF⟩ := bindE hF
 refine wl_call rfl Try.call132 (C_spec_l1Cur__pick__mut__box w27 (x0.1, u26.2.2.1, u26.2.2.2) b0 v0_0 (h0_0.rsto (hS31.sel [3, 0] rfl)) 85 (hS31.sel [0] rfl).base0 _ hu32) rfl ?_
 rintro _ w33 ⟨rfl, hE34, hM35⟩
 refine ⟨_, rfl, ?_⟩
 have hB36 := hS31.takeB [0] rfl (M := [R.blk b0 131 [v0_0, (.int .i64 u26.2.2.1), (.int .u64 u26.2.2.2)]]) rfl hB30 hE34 hM35
 have hS37 : Sep (wE w0).heap.size w33 [R.blk b0 131 [v0_0, (.int .i64 u32.2.2.1), (.int .u64 u32.2.2.2)], R.own ty_3 F21 v20 [0, 80, 160, 640, (w64 (8 * u8.1)), u14.1, 1280], R.blk b2 68 [(.int .i64 0), (.int .i64 0)], R.rest w0 (fps [R.blk b0 131 [v0_0, (.int .i64 x0.2.1), (.int .u64 x0.2.2)]])] := hS31.take [0] [1, 2, 3] rfl (M := [R.blk b0 131 [v0_0, (.int .i64 u26.2.2.1), (.int .u64 u26.2.2.2)]]) rfl hM35 hB30.size
 refine wl_mul rfl rfl rfl (wl_move rfl rfl ?_)
 obtain ⟨u38, hu38, hF⟩ := bindE hF
 refine wl_call rfl Try.call132 (C_spec_l1Cur__pick__mut__box w33 (x0.1, u32.2.2.1, u32.2.2.2) b0 v0_0 (h0_0.rsto (hS37.sel [3, 0] rfl)) 673 (hS37.sel [0] rfl).base0 _ hu38) rfl ?_
 rintro _ w39 ⟨rfl, hE40, hM41⟩
 refine ⟨_, rfl, ?_⟩
 have hB42 := hS37.takeB [0] rfl (M := [R.blk b0 131 [v0_0, (.int .i64 u32.2.2.1), (.int .u64 u32.2.2.2)]]) rfl hB36 hE40 hM41
 have hS43 : Sep (wE w0).heap.size w39 [R.blk b0 131 [v0_0, (.int .i64 u38.2.2.1), (.int .u64 u38.2.2.2)], R.own ty_3 F21 v20 [0, 80, 160, 640, (w64 (8 * u8.1)), u14.1, 1280], R.blk b2 68 [(.int .i64 0), (.int .i64 0)], R.rest w0 (fps [R.blk b0 131 [v0_0, (.int .i64 x0.2.1), (.int .u64 x0.2.2)]])] := hS37.take [0] [1, 2, 3] rfl (M := [R.blk b0 131 [v0_0, (.int .i64 u32.2.2.1), (.int .u64 u32.2.2.2)]]) rfl hM41 hB36.size
 refine wl_lit (vs := [(.int .i64 0), (.int .i64 80), (.int .i64 336), (.int .i64 (w64 (8 * u32.1))), (.int .i64 u38.1), (.int .i64 672)]) (l := [0, 80, 336, (w64 (8 * u32.1)), u38.1, 672]) fl_3 Try.underlying29 rfl rfl rfl rfl rfl rfl hB42 hS43 ?_
 intro v44 F45 w46 hb47 hB48 hS49
 obtain ⟨u50, hu50, hF⟩ := bindE hF
 refine wl_call rfl Try.call136 (C_spec_l1Cur__among__mut__box w46 (x0.1, u38.2.2.1, u38.2.2.2) b0 v0_0 (h0_0.rsto (hS49.sel [4, 1] rfl)) [0, 80, 336, (w64 (8 * u32.1)), u38.1, 672] v44 (own_out (hS49.sel [0, 1] rfl)) (hS49.sel [1] rfl).base0 _ hu50) rfl ?_
 rintro _ w51 ⟨rfl, hE52, hM53⟩
 refine ⟨_, rfl, ?_⟩
 have hB54 := hS49.takeB [1] rfl (M := [R.blk b0 131 [v0_0, (.int .i64 u38.2.2.1), (.int .u64 u38.2.2.2)]]) rfl hB48 hE52 hM53
 have hS55 : Sep (wE w0).heap.size w51 [R.blk b0 131 [v0_0, (.int .i64 u50.2.2.1), (.int .u64 u50.2.2.2)], R.own ty_3 F45 v44 [0, 80, 336, (w64 (8 * u32.1)), u38.1, 672], R.own ty_3 F21 v20 [0, 80, 160, 640, (w64 (8 * u8.1)), u14.1, 1280], R.blk b2 68 [(.int .i64 0), (.int .i64 0)], R.rest w0 (fps [R.blk b0 131 [v0_0, (.int .i64 x0.2.1), (.int .u64 x0.2.2)]])] := hS49.take [1] [0, 2, 3, 4] rfl (M := [R.blk b0 131 [v0_0, (.int .i64 u38.2.2.1), (.int .u64 u38.2.2.2)]]) rfl hM53 hB48.size
 refine wl_build (zs := [(.int .i64 0), (.int .i64 0)]) (out := [(.int .i64 u26.1), (.int .i64 u50.1)]) (vs := [(.int .i64 u26.1), (.int .i64 u50.1)]) (css := [[(.int .i64 u26.1)], [(.int .i64 u50.1)]]) tf_68 pl_68 rfl rfl rfl rfl rfl (wl_store_blk (i := 3) (vs := [(.int .i64 u26.1), (.int .i64 u50.1)]) (cs' := [(.int .i64 u26.1), (.int .i64 u50.1)]) tf_68 rfl rfl rfl rfl hB54 hS55 rfl rfl ⟨rfl, rfl, trivial⟩ rfl ?_)
 intro w56 hk59 hB57 hS58
 refine WL.nil fun a ha => hK7 _ _ (W.ret ?_) a ha
 have hr := Option.some.inj hF
 subst hr
 exact rets (vs := [(.agg #[(.int .i64 u26.1), (.int .i64 u50.1)])]) hQ rfl ⟨rv_cell (i := 3) tf_68 rfl hS58 rfl rfl rfl, trivial⟩ ⟨rfl, hB57, hS58.sel [4, 0] rfl⟩
theorem C_spec_l1Cur__chartOf__mut__box (w0 : World) (x0 : ((List Int) × Int × Int)) (b0 : Nat) (v0_0 : Value) (h0_0 : rdS ty_5 (Out (fps [R.blk b0 131 [v0_0, (.int .i64 x0.2.1), (.int .u64 x0.2.2)]]) w0) w0 v0_0 x0.1) (x1 : Int) (hS0 : Sep 0 w0 [R.blk b0 131 [v0_0, (.int .i64 x0.2.1), (.int .u64 x0.2.2)]]) (r : ((List (Int × Int)) × ((List Int) × Int × Int))) (hF : F_spec_l1Cur__chartOf__mut__box x0 x1 = some r) :
  Calls Try.prog 166 [(.pointer (some ⟨b0, 0, none⟩)), (.int .i64 x1)].toArray w0 fun e w' => ∃ (q0 : Value) (G0 : List Nat), e = .returned q0 ∧ Below 0 (wE w0) w' ∧ Sep 0 w' [R.rest w0 (fps [R.blk b0 131 [v0_0, (.int .i64 x0.2.1), (.int .u64 x0.2.2)]]), R.blk b0 131 [v0_0, (.int .i64 r.2.2.1), (.int .u64 r.2.2.2)], R.own ty_68 G0 q0 r.1] := by
 refine calls_mk' Try.func166 rfl Try.ntmps166 rfl rfl fun Q hQ hP => ?_
 have hB : Below (wE w0).heap.size (wE w0) w0 := wE_below w0
 have hS : Sep (wE w0).heap.size w0 [R.rest w0 (fps [R.blk b0 131 [v0_0, (.int .i64 x0.2.1), (.int .u64 x0.2.2)]]), R.blk b0 131 [v0_0, (.int .i64 x0.2.1), (.int .u64 x0.2.2)]] := hS0.rest
 unfold F_spec_l1Cur__chartOf__mut__box at hF
 refine W.seq fun K1 hK1 => W.region (wl_assign rfl rfl (WL.nil (fun a ha => hK1 _ _ (W.seq fun K2 hK2 => (W.region (wl_assign rfl rfl (WL.nil (fun a ha => hK2 _ _ (W.seq fun K3 hK3 => (W.seq fun K4 hK4 => (W.region (wl_assign rfl rfl ?_)))) a ha))))) a ha)))
 refine WL.nil fun a ha => hK4 _ _ (W.block (W.loopk (fun m a w5 => ∃ (y8 : Int) (y9 : Int) (l10 : (List (Int × Int))) (y13 : Int) (v11 : Value) (F12 : List Nat), St 63 [(0, (.pointer (some ⟨b0, 0, none⟩))), (1, (.int .i64 x1)), (5, v11), (6, (.int .i64 y13))] a ∧ Below (wE w0).heap.size (wE w0) w5 ∧ Sep (wE w0).heap.size w5 [R.rest w0 (fps [R.blk b0 131 [v0_0, (.int .i64 x0.2.1), (.int .u64 x0.2.2)]]), R.blk b0 131 [v0_0, (.int .i64 y8), (.int .u64 y9)], R.own ty_68 F12 v11 l10] ∧ F_spec_l1Cur__chartOf__mut__box_L1 x1 x0 m y8 y9 l10 y13 = some r) FU ?_ ?_)) a ha
 ·
  have hS15 := hS.push0 (r := R.own ty_68 [] (.slice none 0 0) []) rfl fun _ => .inl ⟨rfl, rfl, rfl⟩
  exact fun a ha => ⟨x0.2.1, x0.2.2, [], 0, (.slice none 0 0), [], ha.sub ⟨rfl, rfl, rfl, rfl, trivial⟩, hB, (hS15.sel [1, 2, 0] rfl), hF⟩
 ·
  rintro m17 a w5 ⟨y8, y9, l10, y13, v11, F12, ha, hB6, hS7, hF⟩ KL16 hKL16
  refine W.at ?_ ha
  cases m17 with
  | zero => exact noneE hF
  | succ m17 =>
   obtain ⟨nx14, hnx14⟩ : ∃ k, k = F_spec_l1Cur__chartOf__mut__box_L1 x1 x0 m17 := ⟨_, rfl⟩
   rw [F_spec_l1Cur__chartOf__mut__box_L1, ← hnx14] at hF
   refine W.seq fun K18 hK18 => W.seq fun K19 hK19 => W.region (wl_move rfl rfl (wl_lenr (e := ty_68) (l := l10) Try.underlying63 rfl rfl (hS7.own_ro (i := 2) rfl) (wl_move rfl rfl (wl_lss rfl rfl rfl (WL.nil (fun a ha => hK19 _ _ (W.cond rfl (fun h20 => ?_) (fun h20 => ?_)) a ha))))))
   ·replace hF := ifP h20 hF
    refine W.skip fun a ha => hK18 _ _ (W.seq fun K21 hK21 => ?_) a ha
    obtain ⟨k30, hk30, hF⟩ := jE3 hF
    have hJ31 : ∀ (y25 : Int) (y26 : Int) (l27 : (List (Int × Int))) (v28 : Value) (F29 : List Nat) (w22 : World) (_ : k30 y25 y26 l27 = some r) (_ : Below (wE w0).heap.size (wE w0) w22) (_ : Sep (wE w0).heap.size w22 [R.rest w0 (fps [R.blk b0 131 [v0_0, (.int .i64 x0.2.1), (.int .u64 x0.2.2)]]), R.blk b0 131 [v0_0, (.int .i64 y25), (.int .u64 y26)], R.own ty_68 F29 v28 l27]), ∀ a, St 63 [(0, (.pointer (some ⟨b0, 0, none⟩))), (1, (.int .i64 x1)), (5, v28), (6, (.int .i64 y13))] a → K21 a w22 := by
     intro y25 y26 l27 v28 F29 w22 hF hB23 hS24
     subst hk30
     refine fun a ha => hK21 _ _ (W.region (wl_move rfl rfl (wl_add rfl rfl rfl (wl_assign rfl rfl (WL.nil ?_))))) a ha
     rw [hnx14] at hF
     exact fun a ha => hKL16 a _ m17 (Nat.lt_succ_self m17) ⟨y25, y26, l27, (w64 (y13 + 1)), v28, F29, ha.sub ⟨rfl, rfl, rfl, rfl, trivial⟩, hB23, (hS24.sel [0, 1, 2] rfl), hF⟩
    refine W.block (W.seq fun K32 hK32 => (W.region (wl_move rfl rfl ?_)))
    obtain ⟨u33, hu33, hF⟩ := bindE hF
    refine wl_call rfl Try.call239 (C_spec_l1Cur__spot__mut__box w5 (x0.1, y8, y9) b0 v0_0 (h0_0.rsto (hS7.sel [0, 1] rfl)) (hS7.sel [1] rfl).base0 _ hu33) rfl ?_
    rintro _ w34 ⟨rfl, hE35, hM36⟩
    refine ⟨_, rfl, ?_⟩
    have hB37 := hS7.takeB [1] rfl (M := [R.blk b0 131 [v0_0, (.int .i64 y8), (.int .u64 y9)]]) rfl hB6 hE35 hM36
    have hS38 : Sep (wE w0).heap.size w34 [R.blk b0 131 [v0_0, (.int .i64 u33.2.2.1), (.int .u64 u33.2.2.2)], R.rest w0 (fps [R.blk b0 131 [v0_0, (.int .i64 x0.2.1), (.int .u64 x0.2.2)]]), R.own ty_68 F12 v11 l10] := hS7.take [1] [0, 2] rfl (M := [R.blk b0 131 [v0_0, (.int .i64 y8), (.int .u64 y9)]]) rfl hM36 hB6.size
    refine wl_alloc (cs := [(.int .i64 0), (.int .i64 0)]) tf_68 rfl rfl hB37 hS38 ?_
    intro b39 w40 hb41 hB42 hS43
    refine wl_store_blk (i := 0) (vs := [(.int .i64 u33.1.1), (.int .i64 u33.1.2)]) (cs' := [(.int .i64 u33.1.1), (.int .i64 u33.1.2)]) tf_68 rfl rfl rfl rfl hB42 hS43 rfl rfl ⟨rfl, rfl, trivial⟩ rfl ?_
    intro w44 hk47 hB45 hS46
    refine WL.nil fun a ha => hK32 _ _ (W.seq fun K48 hK48 => ?_) a ha
    obtain ⟨k56, hk56, hF⟩ := jE4 hF
    have hJ57 : ∀ (y52 : Int) (y53 : Int) (y54 : Int) (y55 : Int) (w49 : World) (_ : k56 y52 y53 y54 y55 = some r) (_ : Below (wE w0).heap.size (wE w0) w49) (_ : Sep (wE w0).heap.size w49 [R.rest w0 (fps [R.blk b0 131 [v0_0, (.int .i64 x0.2.1), (.int .u64 x0.2.2)]]), R.blk b0 131 [v0_0, (.int .i64 y52), (.int .u64 y53)], R.own ty_68 F12 v11 l10, R.blk b39 68 [(.int .i64 y54), (.int .i64 y55)]]), ∀ a, St 63 [(0, (.pointer (some ⟨b0, 0, none⟩))), (1, (.int .i64 x1)), (5, v11), (6, (.int .i64 y13)), (7, (.pointer (some ⟨b39, 0, none⟩)))] a → K48 a w49 := by
     intro y52 y53 y54 y55 w49 hF hB50 hS51
     subst hk56
     refine fun a ha => hK48 _ _ (W.seq fun K58 hK58 => ?_) a ha
     obtain ⟨k64, hk64, hF⟩ := jE2 hF
     have hJ65 : ∀ (y62 : Int) (y63 : Int) (w59 : World) (_ : k64 y62 y63 = some r) (_ : Below (wE w0).heap.size (wE w0) w59) (_ : Sep (wE w0).heap.size w59 [R.rest w0 (fps [R.blk b0 131 [v0_0, (.int .i64 x0.2.1), (.int .u64 x0.2.2)]]), R.blk b0 131 [v0_0, (.int .i64 y52), (.int .u64 y53)], R.own ty_68 F12 v11 l10, R.blk b39 68 [(.int .i64 y62), (.int .i64 y63)]]), ∀ a, St 63 [(0, (.pointer (some ⟨b0, 0, none⟩))), (1, (.int .i64 x1)), (5, v11), (6, (.int .i64 y13)), (7, (.pointer (some ⟨b39, 0, none⟩)))] a → K58 a w59 := by
      intro y62 y63 w59 hF hB60 hS61
      subst hk64
      refine fun a ha => hK58 _ _ (W.seq fun K66 hK66 => (W.region (wl_move rfl rfl (wl_load_blk (i := 3) (vs := [(.int .i64 y62), (.int .i64 y63)]) (v := (.agg #[(.int .i64 y62), (.int .i64 y63)])) tf_68 rfl rfl hS61 rfl rfl rfl ?_)))) a ha
      obtain ⟨u67, hu67, hF⟩ := bindE hF
      refine wl_call rfl Try.call240 (C_spec_chFind w59 l10 v11 (hS61.own_ro (i := 2) rfl) (y62, y63) _ hu67) rfl ?_
      rintro _ w68 ⟨rfl, hb69⟩
      refine ⟨_, rfl, ?_⟩
      have hB70 := hB60.trans (hb69.mono hB60.size)
      have hS71 := hS61.below hb69
      refine wl_lss rfl rfl rfl (WL.nil (fun a ha => hK66 _ _ (W.cond rfl (fun h73 => ?_) (fun h73 => ?_)) a ha))
      ·replace hF := ifP h73 hF
       refine W.region (wl_move rfl rfl (wl_load_blk (i := 3) (vs := [(.int .i64 y62), (.int .i64 y63)]) (v := (.agg #[(.int .i64 y62), (.int .i64 y63)])) tf_68 rfl rfl hS71 rfl rfl rfl (wl_lit (vs := [(.agg #[(.int .i64 y62), (.int .i64 y63)])]) (l := [(y62, y63)]) fl_68 Try.underlying63 rfl rfl rfl rfl rfl rfl hB70 hS71 ?_)))
       intro v74 F75 w76 hb77 hB78 hS79
       obtain ⟨u80, hu80, hF⟩ := bindE hF
       refine wl_append (i := 3) (S := (· < w76.heap.size)) fl_68 Try.underlying63 rfl rfl rfl hB78 hS79 rfl (hS79.own_ro (i := 0) rfl) hu80 ?_
       intro v81 F82 w83 hk84 hB85 hS86
       refine wl_assign rfl rfl (WL.nil ?_)
       exact fun a ha => hJ31 (y52) (y53) (u80) (v81) (F82) _ hF hB85 (hS86.sel [1, 2, 3] rfl) a (ha.sub ⟨rfl, rfl, rfl, rfl, trivial⟩)
      ·replace hF := ifN h73 hF
       refine W.skip ?_
       exact fun a ha => hJ31 (y52) (y53) (l10) (v11) (F12) _ hF hB70 (hS71.sel [0, 1, 2] rfl) a (ha.sub ⟨rfl, rfl, rfl, rfl, trivial⟩)
     refine W.seq fun K87 hK87 => W.region (wl_move rfl rfl (wl_gtr rfl rfl rfl (WL.nil (fun a ha => hK87 _ _ (W.cond rfl (fun h88 => ?_) (fun h88 => ?_)) a ha))))
     ·replace hF := ifP h88 hF
      refine W.region (wl_move rfl rfl (wl_lenr (e := ty_68) (l := l10) Try.underlying63 rfl rfl (hS51.own_ro (i := 2) rfl) (wl_mul rfl rfl rfl (wl_move rfl rfl (wl_add rfl rfl rfl (wl_build (zs := [(.int .i64 0), (.int .i64 0)]) (out := [(.int .i64 (w64 (3 * (List.length l10 : Int)))), (.int .i64 (w64 (7 + y13)))]) (vs := [(.int .i64 (w64 (3 * (List.length l10 : Int)))), (.int .i64 (w64 (7 + y13)))]) (css := [[(.int .i64 (w64 (3 * (List.length l10 : Int))))], [(.int .i64 (w64 (7 + y13)))]]) tf_68 pl_68 rfl rfl rfl rfl rfl (wl_store_blk (i := 3) (vs := [(.int .i64 (w64 (3 * (List.length l10 : Int)))), (.int .i64 (w64 (7 + y13)))]) (cs' := [(.int .i64 (w64 (3 * (List.length l10 : Int)))), (.int .i64 (w64 (7 + y13)))]) tf_68 rfl rfl rfl rfl hB50 hS51 rfl rfl ⟨rfl, rfl, trivial⟩ rfl ?_)))))))
      intro w89 hk92 hB90 hS91
      refine WL.nil ?_
      exact fun a ha => hJ65 ((w64 (3 * (List.length l10 : Int)))) ((w64 (7 + y13))) _ hF hB90 (hS91.sel [0, 1, 2, 3] rfl) a (ha.sub ⟨rfl, rfl, rfl, rfl, rfl, trivial⟩)
     ·replace hF := ifN h88 hF
      refine W.skip ?_
      exact fun a ha => hJ65 (y54) (y55) _ hF hB50 (hS51.sel [0, 1, 2, 3] rfl) a (ha.sub ⟨rfl, rfl, rfl, rfl, rfl, trivial⟩)
    refine W.seq fun K93 hK93 => ?_
    obtain ⟨k100, hk100, hF⟩ := jE3 hF
    have hJ101 : ∀ (y97 : Int) (y98 : Int) (y99 : Bool) (w94 : World) (_ : k100 y97 y98 y99 = some r) (_ : Below (wE w0).heap.size (wE w0) w94) (_ : Sep (wE w0).heap.size w94 [R.rest w0 (fps [R.blk b0 131 [v0_0, (.int .i64 x0.2.1), (.int .u64 x0.2.2)]]), R.blk b0 131 [v0_0, (.int .i64 y97), (.int .u64 y98)], R.own ty_68 F12 v11 l10, R.blk b39 68 [(.int .i64 u33.1.1), (.int .i64 u33.1.2)]]), ∀ a, St 63 [(0, (.pointer (some ⟨b0, 0, none⟩))), (1, (.int .i64 x1)), (5, v11), (6, (.int .i64 y13)), (7, (.pointer (some ⟨b39, 0, none⟩))), (23, (.bool y99))] a → K93 a w94 := by
     intro y97 y98 y99 w94 hF hB95 hS96
     subst hk100
     refine fun a ha => hK93 _ _ (W.cond rfl (fun h102 => ?_) (fun h102 => ?_)) a ha
     ·replace hF := ifP h102 hF
      refine W.seq fun K103 hK103 => W.region (wl_move rfl rfl (wl_move rfl rfl (wl_move rfl rfl (wl_lenr (e := ty_68) (l := l10) Try.underlying63 rfl rfl (hS96.own_ro (i := 2) rfl) ?_))))
      obtain ⟨u104, hu104, hF⟩ := bindE hF
      refine wl_call rfl Try.call132 (C_spec_l1Cur__pick__mut__box w94 (x0.1, y97, y98) b0 v0_0 (h0_0.rsto (hS96.sel [0, 1] rfl)) (List.length l10 : Int) (hS96.sel [1] rfl).base0 _ hu104) rfl ?_
      rintro _ w105 ⟨rfl, hE106, hM107⟩
      refine ⟨_, rfl, ?_⟩
      have hB108 := hS96.takeB [1] rfl (M := [R.blk b0 131 [v0_0, (.int .i64 y97), (.int .u64 y98)]]) rfl hB95 hE106 hM107
      have hS109 : Sep (wE w0).heap.size w105 [R.blk b0 131 [v0_0, (.int .i64 u104.2.2.1), (.int .u64 u104.2.2.2)], R.rest w0 (fps [R.blk b0 131 [v0_0, (.int .i64 x0.2.1), (.int .u64 x0.2.2)]]), R.own ty_68 F12 v11 l10, R.blk b39 68 [(.int .i64 u33.1.1), (.int .i64 u33.1.2)]] := hS96.take [1] [0, 2, 3] rfl (M := [R.blk b0 131 [v0_0, (.int .i64 y97), (.int .u64 y98)]]) rfl hM107 hB95.size
      obtain ⟨u110, hu110, hF⟩ := bindE hF
      refine wl_indexoF (e := ty_68) (i := 2) Try.underlying63 rfl rfl rfl hS109 rfl hu110 ?_
      rintro p111 _ rfl hp112 ho113
      refine wl_load_p (vs := [(.int .i64 u110.1), (.int .i64 u110.2)]) (v := (.agg #[(.int .i64 u110.1), (.int .i64 u110.2)])) tf_68 rfl rfl hp112 rfl rfl (wl_alloc (cs := [(.int .i64 0), (.int .i64 0)]) tf_68 rfl rfl hB108 hS109 ?_)
      intro b114 w115 hb116 hB117 hS118
      have hp112 := hp112.keepS (fun b hb => hb116.block b (((hS109.get (i := 2) rfl).2.1 b hb).2)) (fun _ h => h)
      refine wl_store_blk (i := 0) (vs := [(.int .i64 u110.1), (.int .i64 u110.2)]) (cs' := [(.int .i64 u110.1), (.int .i64 u110.2)]) tf_68 rfl rfl rfl rfl hB117 hS118 rfl rfl ⟨rfl, rfl, trivial⟩ rfl ?_
      intro w119 hk122 hB120 hS121
      have hp112 := hp112.keepS (fun b hb => hk122.2.1 b (((hS118.get (i := 3) rfl).2.1 b hb).2) (hS118.disj (i := 3) (j := 0) rfl rfl rfl b hb)) (fun _ h => h)
      refine WL.nil fun a ha => hK103 _ _ (W.regionH mixed_ ([b0] ++ [b39]) hB120 hS121 ?_) a ha
      intro w123 hb124 hB125 hS126
      have hp112 := hp112.keepS (fun b hb => hb124.block b (((hS121.get (i := 3) rfl).2.1 b hb).2)) (fun _ h => h)
      have hSW127 := KeepX.refl w123 ([b0] ++ [b39])
      refine WH.tk 0 rfl hP hSW127 (pr_field (o := 0) (off' := 0) ff_68_0 rfl rfl rfl (WH.tk 1 rfl hP hSW127 (pr_load_blk (i := 0) (vs := [(.int .i64 u110.1)]) (v := (.int .i64 u110.1)) tf_3 rfl rfl hS126 rfl rfl rfl (fun hb => (List.mem_append.1 hb).elim (hS126.disj (i := 0) (j := 1) rfl rfl rfl b114 (by simp [R.blk])) (hS126.disj (i := 0) (j := 4) rfl rfl rfl b114 (by simp [R.blk]))) (WH.tk 2 rfl hP hSW127 (pr_move rfl rfl (WH.tk 7 rfl hP hSW127 (pr_field (o := 1) (off' := 1) ff_68_1 rfl rfl rfl (WH.tk 8 rfl hP hSW127 (pr_load_blk (i := 0) (vs := [(.int .i64 u110.2)]) (v := (.int .i64 u110.2)) tf_3 rfl rfl hS126 rfl rfl rfl (fun hb => (List.mem_append.1 hb).elim (hS126.disj (i := 0) (j := 1) rfl rfl rfl b114 (by simp [R.blk])) (hS126.disj (i := 0) (j := 4) rfl rfl rfl b114 (by simp [R.blk]))) (WH.tk 9 rfl hP hSW127 (pr_move rfl rfl (WH.many (is := [3, 10]) (by kernel_rfl) rfl ?_))))))))))))
      refine List.forall_mem_cons.2 ⟨⟨_, rfl, ?_⟩, List.forall_mem_cons.2 ⟨⟨_, rfl, ?_⟩, fun _ h => by cases h⟩⟩
      ·
       refine wl_lit (vs := [(.int .i64 0), (.int .i64 8), (.int .i64 16), (.int .i64 24), (.int .i64 5)]) (l := [0, 8, 16, 24, 5]) fl_3 Try.underlying29 rfl rfl rfl rfl rfl rfl (Below.self w123) (Sep.nil _ _) ?_
       intro v128 F129 w130 hb131 hB134 hM135
       have hB132 := hB125.trans (hb131.mono hB125.size)
       have hS133 := hS126.join hb131 hM135 hB125.size
       have hpv137 := hp112.keepS (fun b hb => hb131.block b (((hS126.get (i := 3) rfl).2.1 b hb).2)) (fun _ h => h)
       have hSW138 := hSW127.ext hb131
       refine WL.nil (WH.ret hSW138 (WH.many (is := [4, 10]) (by kernel_rfl) rfl (List.forall_mem_cons.2 ⟨⟨_, rfl, ?_⟩, List.forall_mem_cons.2 ⟨⟨_, rfl, ?_⟩, fun _ h => by cases h⟩⟩)))
       ·
        obtain ⟨u140, hu140, hF⟩ := bindE hF
        refine wl_call rfl Try.call136 (C_spec_l1Cur__among__mut__box w130 (x0.1, u104.2.2.1, u104.2.2.2) b0 v0_0 (h0_0.rsto (hS133.sel [3, 2] rfl)) [0, 8, 16, 24, 5] v128 (own_out (hS133.sel [0, 2] rfl)) (hS133.sel [2] rfl).base0 _ hu140) rfl ?_
        rintro _ w141 ⟨rfl, hE142, hM143⟩
        refine ⟨_, rfl, ?_⟩
        have hB144 := hS133.takeB [2] rfl (M := [R.blk b0 131 [v0_0, (.int .i64 u104.2.2.1), (.int .u64 u104.2.2.2)]]) rfl hB132 hE142 hM143
        have hS145 : Sep (wE w0).heap.size w141 [R.blk b0 131 [v0_0, (.int .i64 u140.2.2.1), (.int .u64 u140.2.2.2)], R.own ty_3 F129 v128 [0, 8, 16, 24, 5], R.blk b114 68 [(.int .i64 u110.1), (.int .i64 u110.2)], R.rest w0 (fps [R.blk b0 131 [v0_0, (.int .i64 x0.2.1), (.int .u64 x0.2.2)]]), R.own ty_68 F12 v11 l10, R.blk b39 68 [(.int .i64 u33.1.1), (.int .i64 u33.1.2)]] := hS133.take [2] [0, 1, 3, 4, 5] rfl (M := [R.blk b0 131 [v0_0, (.int .i64 u104.2.2.1), (.int .u64 u104.2.2.2)]]) rfl hM143 hB132.size
        have hk146 := box_kept hM143
        have hpv147 := hpv137.keepS (fun b hb => hk146.2.1 b (((hS133.get (i := 4) rfl).2.1 b hb).2) (hS133.disj (i := 4) (j := 2) rfl rfl rfl b hb)) (fun _ h => h)
        have hSW148 := hSW138.wr' hk146.1 hk146.2.1 (fun _ _ h => List.mem_append_left _ (h))
        have hbs149 : ∀ b, b < w123.heap.size → b ∈ [b0] → b ∈ ([b0] ++ [b39]) := fun b hlt hb => (hk146.2.2 b hb).elim ((fun _ _ h => List.mem_append_left _ (h)) b hlt) (fun h => absurd hlt (Nat.not_lt.2 (Nat.le_trans hSW138.size h)))
        refine WL.nil (WH.ret hSW148 (WH.tk 5 rfl hP hSW148 (pr_add rfl rfl rfl (WH.many (is := [6, 10]) (by kernel_rfl) rfl (List.forall_mem_cons.2 ⟨⟨_, rfl, ?_⟩, List.forall_mem_cons.2 ⟨⟨_, rfl, ?_⟩, fun _ h => by cases h⟩⟩)))))
        ·
         obtain ⟨u150, hu150, hF⟩ := bindE hF
         refine wl_call rfl Try.call167 (C_spec_l1Least w141 1280 (w64 (u110.1 + u140.1)) _ hu150) rfl ?_
         rintro _ w151 ⟨rfl, hb152⟩
         refine ⟨_, rfl, ?_⟩
         have hB153 := hB144.trans (hb152.mono hB144.size)
         have hS154 := hS145.below hb152
         have hpv156 := hpv147.keepS (fun b hb => hb152.block b (((hS145.get (i := 4) rfl).2.1 b hb).2)) (fun _ h => h)
         have hSW157 := hSW148.ext hb152
         refine WL.nil (WH.ret hSW157 (WH.on1 10 rfl (wl_lit (vs := [(.int .i64 0), (.int .i64 8), (.int .i64 16), (.int .i64 3)]) (l := [0, 8, 16, 3]) fl_3 Try.underlying29 rfl rfl rfl rfl rfl rfl (Below.self w151) (Sep.nil _ _) ?_)))
         intro v158 F159 w160 hb161 hB164 hM165
         have hB162 := hB153.trans (hb161.mono hB153.size)
         have hS163 := hS154.join hb161 hM165 hB153.size
         have hpv167 := hpv156.keepS (fun b hb => hb161.block b (((hS154.get (i := 4) rfl).2.1 b hb).2)) (fun _ h => h)
         have hSW168 := hSW157.ext hb161
         refine WL.nil (WH.ret hSW168 (WH.on1 11 rfl ?_))
         obtain ⟨u169, hu169, hF⟩ := bindE hF
         refine wl_call rfl Try.call136 (C_spec_l1Cur__among__mut__box w160 (x0.1, u140.2.2.1, u140.2.2.2) b0 v0_0 (h0_0.rsto (hS163.sel [4, 1] rfl)) [0, 8, 16, 3] v158 (own_out (hS163.sel [0, 1] rfl)) (hS163.sel [1] rfl).base0 _ hu169) rfl ?_
         rintro _ w170 ⟨rfl, hE171, hM172⟩
         refine ⟨_, rfl, ?_⟩
         have hB173 := hS163.takeB [1] rfl (M := [R.blk b0 131 [v0_0, (.int .i64 u140.2.2.1), (.int .u64 u140.2.2.2)]]) rfl hB162 hE171 hM172
         have hS174 : Sep (wE w0).heap.size w170 [R.blk b0 131 [v0_0, (.int .i64 u169.2.2.1), (.int .u64 u169.2.2.2)], R.own ty_3 F159 v158 [0, 8, 16, 3], R.own ty_3 F129 v128 [0, 8, 16, 24, 5], R.blk b114 68 [(.int .i64 u110.1), (.int .i64 u110.2)], R.rest w0 (fps [R.blk b0 131 [v0_0, (.int .i64 x0.2.1), (.int .u64 x0.2.2)]]), R.own ty_68 F12 v11 l10, R.blk b39 68 [(.int .i64 u33.1.1), (.int .i64 u33.1.2)]] := hS163.take [1] [0, 2, 3, 4, 5, 6] rfl (M := [R.blk b0 131 [v0_0, (.int .i64 u140.2.2.1), (.int .u64 u140.2.2.2)]]) rfl hM172 hB162.size
         have hk175 := box_kept hM172
         have hpv176 := hpv167.keepS (fun b hb => hk175.2.1 b (((hS163.get (i := 5) rfl).2.1 b hb).2) (hS163.disj (i := 5) (j := 1) rfl rfl rfl b hb)) (fun _ h => h)
         have hSW177 := hSW168.wr' hk175.1 hk175.2.1 (hbs149)
         refine WL.nil (WH.ret hSW177 (WH.tk 12 rfl hP hSW177 (pr_add rfl rfl rfl (WH.on1 13 rfl ?_))))
         obtain ⟨u179, hu179, hF⟩ := bindE hF
         refine wl_call rfl Try.call167 (C_spec_l1Least w170 672 (w64 (u110.2 + u169.1)) _ hu179) rfl ?_
         rintro _ w180 ⟨rfl, hb181⟩
         refine ⟨_, rfl, ?_⟩
         have hB182 := hB173.trans (hb181.mono hB173.size)
         have hS183 := hS174.below hb181
         have hpv185 := hpv176.keepS (fun b hb => hb181.block b (((hS174.get (i := 5) rfl).2.1 b hb).2)) (fun _ h => h)
         have hSW186 := hSW177.ext hb181
         refine WL.nil (WH.ret hSW186 (WH.tk 14 rfl hP hSW186 (pr_build (zs := [(.int .i64 0), (.int .i64 0)]) (out := [(.int .i64 u150), (.int .i64 u179)]) (vs := [(.int .i64 u150), (.int .i64 u179)]) (css := [[(.int .i64 u150)], [(.int .i64 u179)]]) tf_68 pl_68 rfl rfl rfl rfl rfl (WH.on1 15 rfl (wl_store_blk (i := 6) (vs := [(.int .i64 u150), (.int .i64 u179)]) (cs' := [(.int .i64 u150), (.int .i64 u179)]) tf_68 rfl rfl rfl rfl hB182 hS183 rfl rfl ⟨rfl, rfl, trivial⟩ rfl ?_)))))
         intro w187 hk190 hB188 hS189
         have hpv191 := hpv185.keepS (fun b hb => hk190.2.1 b (((hS183.get (i := 5) rfl).2.1 b hb).2) (hS183.disj (i := 5) (j := 6) rfl rfl rfl b hb)) (fun _ h => h)
         have hSW192 := hSW186.wr' hk190.1 hk190.2.1 (fun _ _ h => List.mem_append_right _ h)
         refine WL.nil (WH.ret hSW192 (WH.done (by kernel_rfl) ?_))
         have hp112 := hpv191
         exact fun a ha => hJ57 (u169.2.2.1) (u169.2.2.2) (u150) (u179) _ hF hB188 (hS189.sel [4, 0, 5, 6] rfl) a (ha.sub ⟨rfl, rfl, rfl, rfl, rfl, trivial⟩)
        ·
         refine wl_lit (vs := [(.int .i64 0), (.int .i64 8), (.int .i64 16), (.int .i64 3)]) (l := [0, 8, 16, 3]) fl_3 Try.underlying29 rfl rfl rfl rfl rfl rfl (Below.self w141) (Sep.nil _ _) ?_
         intro v194 F195 w196 hb197 hB200 hM201
         have hB198 := hB144.trans (hb197.mono hB144.size)
         have hS199 := hS145.join hb197 hM201 hB144.size
         have hpv203 := hpv147.keepS (fun b hb => hb197.block b (((hS145.get (i := 4) rfl).2.1 b hb).2)) (fun _ h => h)
         have hSW204 := hSW148.ext hb197
         refine WL.nil (WH.ret hSW204 (WH.on1 6 rfl ?_))
         obtain ⟨u205, hu205, hF⟩ := bindE hF
         refine wl_call rfl Try.call167 (C_spec_l1Least w196 1280 (w64 (u110.1 + u140.1)) _ hu205) rfl ?_
         rintro _ w206 ⟨rfl, hb207⟩
         refine ⟨_, rfl, ?_⟩
         have hB208 := hB198.trans (hb207.mono hB198.size)
         have hS209 := hS199.below hb207
         have hpv211 := hpv203.keepS (fun b hb => hb207.block b (((hS199.get (i := 5) rfl).2.1 b hb).2)) (fun _ h => h)
         have hSW212 := hSW204.ext hb207
         refine WL.nil (WH.ret hSW212 (WH.on1 11 rfl ?_))
         obtain ⟨u213, hu213, hF⟩ := bindE hF
         refine wl_call rfl Try.call136 (C_spec_l1Cur__among__mut__box w206 (x0.1, u140.2.2.1, u140.2.2.2) b0 v0_0 (h0_0.rsto (hS209.sel [4, 1] rfl)) [0, 8, 16, 3] v194 (own_out (hS209.sel [0, 1] rfl)) (hS209.sel [1] rfl).base0 _ hu213) rfl ?_
         rintro _ w214 ⟨rfl, hE215, hM216⟩
         refine ⟨_, rfl, ?_⟩
         have hB217 := hS209.takeB [1] rfl (M := [R.blk b0 131 [v0_0, (.int .i64 u140.2.2.1), (.int .u64 u140.2.2.2)]]) rfl hB208 hE215 hM216
         have hS218 : Sep (wE w0).heap.size w214 [R.blk b0 131 [v0_0, (.int .i64 u213.2.2.1), (.int .u64 u213.2.2.2)], R.own ty_3 F195 v194 [0, 8, 16, 3], R.own ty_3 F129 v128 [0, 8, 16, 24, 5], R.blk b114 68 [(.int .i64 u110.1), (.int .i64 u110.2)], R.rest w0 (fps [R.blk b0 131 [v0_0, (.int .i64 x0.2.1), (.int .u64 x0.2.2)]]), R.own ty_68 F12 v11 l10, R.blk b39 68 [(.int .i64 u33.1.1), (.int .i64 u33.1.2)]] := hS209.take [1] [0, 2, 3, 4, 5, 6] rfl (M := [R.blk b0 131 [v0_0, (.int .i64 u140.2.2.1), (.int .u64 u140.2.2.2)]]) rfl hM216 hB208.size
         have hk219 := box_kept hM216
         have hpv220 := hpv211.keepS (fun b hb => hk219.2.1 b (((hS209.get (i := 5) rfl).2.1 b hb).2) (hS209.disj (i := 5) (j := 1) rfl rfl rfl b hb)) (fun _ h => h)
         have hSW221 := hSW212.wr' hk219.1 hk219.2.1 (hbs149)
         refine WL.nil (WH.ret hSW221 (WH.tk 12 rfl hP hSW221 (pr_add rfl rfl rfl (WH.on1 13 rfl ?_))))
         obtain ⟨u223, hu223, hF⟩ := bindE hF
         refine wl_call rfl Try.call167 (C_spec_l1Least w214 672 (w64 (u110.2 + u213.1)) _ hu223) rfl ?_
         rintro _ w224 ⟨rfl, hb225⟩
         refine ⟨_, rfl, ?_⟩
         have hB226 := hB217.trans (hb225.mono hB217.size)
         have hS227 := hS218.below hb225
         have hpv229 := hpv220.keepS (fun b hb => hb225.block b (((hS218.get (i := 5) rfl).2.1 b hb).2)) (fun _ h => h)
         have hSW230 := hSW221.ext hb225
         refine WL.nil (WH.ret hSW230 (WH.tk 14 rfl hP hSW230 (pr_build (zs := [(.int .i64 0), (.int .i64 0)]) (out := [(.int .i64 u205), (.int .i64 u223)]) (vs := [(.int .i64 u205), (.int .i64 u223)]) (css := [[(.int .i64 u205)], [(.int .i64 u223)]]) tf_68 pl_68 rfl rfl rfl rfl rfl (WH.on1 15 rfl (wl_store_blk (i := 6) (vs := [(.int .i64 u205), (.int .i64 u223)]) (cs' := [(.int .i64 u205), (.int .i64 u223)]) tf_68 rfl rfl rfl rfl hB226 hS227 rfl rfl ⟨rfl, rfl, trivial⟩ rfl ?_)))))
         intro w231 hk234 hB232 hS233
         have hpv235 := hpv229.keepS (fun b hb => hk234.2.1 b (((hS227.get (i := 5) rfl).2.1 b hb).2) (hS227.disj (i := 5) (j := 6) rfl rfl rfl b hb)) (fun _ h => h)
         have hSW236 := hSW230.wr' hk234.1 hk234.2.1 (fun _ _ h => List.mem_append_right _ h)
         refine WL.nil (WH.ret hSW236 (WH.done (by kernel_rfl) ?_))
         have hp112 := hpv235
         exact fun a ha => hJ57 (u213.2.2.1) (u213.2.2.2) (u205) (u223) _ hF hB232 (hS233.sel [4, 0, 5, 6] rfl) a (ha.sub ⟨rfl, rfl, rfl, rfl, rfl, trivial⟩)
       ·
        refine wl_lit (vs := [(.int .i64 0), (.int .i64 8), (.int .i64 16), (.int .i64 3)]) (l := [0, 8, 16, 3]) fl_3 Try.underlying29 rfl rfl rfl rfl rfl rfl (Below.self w130) (Sep.nil _ _) ?_
        intro v238 F239 w240 hb241 hB244 hM245
        have hB242 := hB132.trans (hb241.mono hB132.size)
        have hS243 := hS133.join hb241 hM245 hB132.size
        have hpv247 := hpv137.keepS (fun b hb => hb241.block b (((hS133.get (i := 4) rfl).2.1 b hb).2)) (fun _ h => h)
        have hSW248 := hSW138.ext hb241
        refine WL.nil (WH.ret hSW248 (WH.on1 4 rfl ?_))
        obtain ⟨u250, hu250, hF⟩ := bindE hF
        refine wl_call rfl Try.call136 (C_spec_l1Cur__among__mut__box w240 (x0.1, u104.2.2.1, u104.2.2.2) b0 v0_0 (h0_0.rsto (hS243.sel [4, 3] rfl)) [0, 8, 16, 24, 5] v128 (own_out (hS243.sel [1, 3] rfl)) (hS243.sel [3] rfl).base0 _ hu250) rfl ?_
        rintro _ w251 ⟨rfl, hE252, hM253⟩
        refine ⟨_, rfl, ?_⟩
        have hB254 := hS243.takeB [3] rfl (M := [R.blk b0 131 [v0_0, (.int .i64 u104.2.2.1), (.int .u64 u104.2.2.2)]]) rfl hB242 hE252 hM253
        have hS255 : Sep (wE w0).heap.size w251 [R.blk b0 131 [v0_0, (.int .i64 u250.2.2.1), (.int .u64 u250.2.2.2)], R.own ty_3 F239 v238 [0, 8, 16, 3], R.own ty_3 F129 v128 [0, 8, 16, 24, 5], R.blk b114 68 [(.int .i64 u110.1), (.int .i64 u110.2)], R.rest w0 (fps [R.blk b0 131 [v0_0, (.int .i64 x0.2.1), (.int .u64 x0.2.2)]]), R.own ty_68 F12 v11 l10, R.blk b39 68 [(.int .i64 u33.1.1), (.int .i64 u33.1.2)]] := hS243.take [3] [0, 1, 2, 4, 5, 6] rfl (M := [R.blk b0 131 [v0_0, (.int .i64 u104.2.2.1), (.int .u64 u104.2.2.2)]]) rfl hM253 hB242.size
        have hk256 := box_kept hM253
        have hpv257 := hpv247.keepS (fun b hb => hk256.2.1 b (((hS243.get (i := 5) rfl).2.1 b hb).2) (hS243.disj (i := 5) (j := 3) rfl rfl rfl b hb)) (fun _ h => h)
        have hSW258 := hSW248.wr' hk256.1 hk256.2.1 (fun _ _ h => List.mem_append_left _ (h))
        have hbs259 : ∀ b, b < w123.heap.size → b ∈ [b0] → b ∈ ([b0] ++ [b39]) := fun b hlt hb => (hk256.2.2 b hb).elim ((fun _ _ h => List.mem_append_left _ (h)) b hlt) (fun h => absurd hlt (Nat.not_lt.2 (Nat.le_trans hSW248.size h)))
        refine WL.nil (WH.ret hSW258 (WH.tk 5 rfl hP hSW258 (pr_add rfl rfl rfl (WH.on1 6 rfl ?_))))
        obtain ⟨u260, hu260, hF⟩ := bindE hF
        refine wl_call rfl Try.call167 (C_spec_l1Least w251 1280 (w64 (u110.1 + u250.1)) _ hu260) rfl ?_
        rintro _ w261 ⟨rfl, hb262⟩
        refine ⟨_, rfl, ?_⟩
        have hB263 := hB254.trans (hb262.mono hB254.size)
        have hS264 := hS255.below hb262
        have hpv266 := hpv257.keepS (fun b hb => hb262.block b (((hS255.get (i := 5) rfl).2.1 b hb).2)) (fun _ h => h)
        have hSW267 := hSW258.ext hb262
        refine WL.nil (WH.ret hSW267 (WH.on1 11 rfl ?_))
        obtain ⟨u268, hu268, hF⟩ := bindE hF
        refine wl_call rfl Try.call136 (C_spec_l1Cur__among__mut__box w261 (x0.1, u250.2.2.1, u250.2.2.2) b0 v0_0 (h0_0.rsto (hS264.sel [4, 0] rfl)) [0, 8, 16, 3] v238 (own_out (hS264.sel [1, 0] rfl)) (hS264.sel [0] rfl).base0 _ hu268) rfl ?_
        rintro _ w269 ⟨rfl, hE270, hM271⟩
        refine ⟨_, rfl, ?_⟩
        have hB272 := hS264.takeB [0] rfl (M := [R.blk b0 131 [v0_0, (.int .i64 u250.2.2.1), (.int .u64 u250.2.2.2)]]) rfl hB263 hE270 hM271
        have hS273 : Sep (wE w0).heap.size w269 [R.blk b0 131 [v0_0, (.int .i64 u268.2.2.1), (.int .u64 u268.2.2.2)], R.own ty_3 F239 v238 [0, 8, 16, 3], R.own ty_3 F129 v128 [0, 8, 16, 24, 5], R.blk b114 68 [(.int .i64 u110.1), (.int .i64 u110.2)], R.rest w0 (fps [R.blk b0 131 [v0_0, (.int .i64 x0.2.1), (.int .u64 x0.2.2)]]), R.own ty_68 F12 v11 l10, R.blk b39 68 [(.int .i64 u33.1.1), (.int .i64 u33.1.2)]] := hS264.take [0] [1, 2, 3, 4, 5, 6] rfl (M := [R.blk b0 131 [v0_0, (.int .i64 u250.2.2.1), (.int .u64 u250.2.2.2)]]) rfl hM271 hB263.size
        have hk274 := box_kept hM271
        have hpv275 := hpv266.keepS (fun b hb => hk274.2.1 b (((hS264.get (i := 5) rfl).2.1 b hb).2) (hS264.disj (i := 5) (j := 0) rfl rfl rfl b hb)) (fun _ h => h)
        have hSW276 := hSW267.wr' hk274.1 hk274.2.1 (hbs259)
        refine WL.nil (WH.ret hSW276 (WH.tk 12 rfl hP hSW276 (pr_add rfl rfl rfl (WH.on1 13 rfl ?_))))
        obtain ⟨u278, hu278, hF⟩ := bindE hF
        refine wl_call rfl Try.call167 (C_spec_l1Least w269 672 (w64 (u110.2 + u268.1)) _ hu278) rfl ?_
        rintro _ w279 ⟨rfl, hb280⟩
        refine ⟨_, rfl, ?_⟩
        have hB281 := hB272.trans (hb280.mono hB272.size)
        have hS282 := hS273.below hb280
        have hpv284 := hpv275.keepS (fun b hb => hb280.block b (((hS273.get (i := 5) rfl).2.1 b hb).2)) (fun _ h => h)
        have hSW285 := hSW276.ext hb280
        refine WL.nil (WH.ret hSW285 (WH.tk 14 rfl hP hSW285 (pr_build (zs := [(.int .i64 0), (.int .i64 0)]) (out := [(.int .i64 u260), (.int .i64 u278)]) (vs := [(.int .i64 u260), (.int .i64 u278)]) (css := [[(.int .i64 u260)], [(.int .i64 u278)]]) tf_68 pl_68 rfl rfl rfl rfl rfl (WH.on1 15 rfl (wl_store_blk (i := 6) (vs := [(.int .i64 u260), (.int .i64 u278)]) (cs' := [(.int .i64 u260), (.int .i64 u278)]) tf_68 rfl rfl rfl rfl hB281 hS282 rfl rfl ⟨rfl, rfl, trivial⟩ rfl ?_)))))
        intro w286 hk289 hB287 hS288
        have hpv290 := hpv284.keepS (fun b hb => hk289.2.1 b (((hS282.get (i := 5) rfl).2.1 b hb).2) (hS282.disj (i := 5) (j := 6) rfl rfl rfl b hb)) (fun _ h => h)
        have hSW291 := hSW285.wr' hk289.1 hk289.2.1 (fun _ _ h => List.mem_append_right _ h)
        refine WL.nil (WH.ret hSW291 (WH.done (by kernel_rfl) ?_))
        have hp112 := hpv290
        exact fun a ha => hJ57 (u268.2.2.1) (u268.2.2.2) (u260) (u278) _ hF hB287 (hS288.sel [4, 0, 5, 6] rfl) a (ha.sub ⟨rfl, rfl, rfl, rfl, rfl, trivial⟩)
      ·
       refine wl_lit (vs := [(.int .i64 0), (.int .i64 8), (.int .i64 16), (.int .i64 3)]) (l := [0, 8, 16, 3]) fl_3 Try.underlying29 rfl rfl rfl rfl rfl rfl (Below.self w123) (Sep.nil _ _) ?_
       intro v293 F294 w295 hb296 hB299 hM300
       have hB297 := hB125.trans (hb296.mono hB125.size)
       have hS298 := hS126.join hb296 hM300 hB125.size
       have hpv302 := hp112.keepS (fun b hb => hb296.block b (((hS126.get (i := 3) rfl).2.1 b hb).2)) (fun _ h => h)
       have hSW303 := hSW127.ext hb296
       refine WL.nil (WH.ret hSW303 (WH.on1 3 rfl (wl_lit (vs := [(.int .i64 0), (.int .i64 8), (.int .i64 16), (.int .i64 24), (.int .i64 5)]) (l := [0, 8, 16, 24, 5]) fl_3 Try.underlying29 rfl rfl rfl rfl rfl rfl (Below.self w295) (Sep.nil _ _) ?_)))
       intro v305 F306 w307 hb308 hB311 hM312
       have hB309 := hB297.trans (hb308.mono hB297.size)
       have hS310 := hS298.join hb308 hM312 hB297.size
       have hpv314 := hpv302.keepS (fun b hb => hb308.block b (((hS298.get (i := 4) rfl).2.1 b hb).2)) (fun _ h => h)
       have hSW315 := hSW303.ext hb308
       refine WL.nil (WH.ret hSW315 (WH.on1 4 rfl ?_))
       obtain ⟨u317, hu317, hF⟩ := bindE hF
       refine wl_call rfl Try.call136 (C_spec_l1Cur__among__mut__box w307 (x0.1, u104.2.2.1, u104.2.2.2) b0 v0_0 (h0_0.rsto (hS310.sel [4, 3] rfl)) [0, 8, 16, 24, 5] v305 (own_out (hS310.sel [0, 3] rfl)) (hS310.sel [3] rfl).base0 _ hu317) rfl ?_
       rintro _ w318 ⟨rfl, hE319, hM320⟩
       refine ⟨_, rfl, ?_⟩
       have hB321 := hS310.takeB [3] rfl (M := [R.blk b0 131 [v0_0, (.int .i64 u104.2.2.1), (.int .u64 u104.2.2.2)]]) rfl hB309 hE319 hM320
       have hS322 : Sep (wE w0).heap.size w318 [R.blk b0 131 [v0_0, (.int .i64 u317.2.2.1), (.int .u64 u317.2.2.2)], R.own ty_3 F306 v305 [0, 8, 16, 24, 5], R.own ty_3 F294 v293 [0, 8, 16, 3], R.blk b114 68 [(.int .i64 u110.1), (.int .i64 u110.2)], R.rest w0 (fps [R.blk b0 131 [v0_0, (.int .i64 x0.2.1), (.int .u64 x0.2.2)]]), R.own ty_68 F12 v11 l10, R.blk b39 68 [(.int .i64 u33.1.1), (.int .i64 u33.1.2)]] := hS310.take [3] [0, 1, 2, 4, 5, 6] rfl (M := [R.blk b0 131 [v0_0, (.int .i64 u104.2.2.1), (.int .u64 u104.2.2.2)]]) rfl hM320 hB309.size
       have hk323 := box_kept hM320
       have hpv324 := hpv314.keepS (fun b hb => hk323.2.1 b (((hS310.get (i := 5) rfl).2.1 b hb).2) (hS310.disj (i := 5) (j := 3) rfl rfl rfl b hb)) (fun _ h => h)
       have hSW325 := hSW315.wr' hk323.1 hk323.2.1 (fun _ _ h => List.mem_append_left _ (h))
       have hbs326 : ∀ b, b < w123.heap.size → b ∈ [b0] → b ∈ ([b0] ++ [b39]) := fun b hlt hb => (hk323.2.2 b hb).elim ((fun _ _ h => List.mem_append_left _ (h)) b hlt) (fun h => absurd hlt (Nat.not_lt.2 (Nat.le_trans hSW315.size h)))
       refine WL.nil (WH.ret hSW325 (WH.tk 5 rfl hP hSW325 (pr_add rfl rfl rfl (WH.on1 6 rfl ?_))))
       obtain ⟨u327, hu327, hF⟩ := bindE hF
       refine wl_call rfl Try.call167 (C_spec_l1Least w318 1280 (w64 (u110.1 + u317.1)) _ hu327) rfl ?_
       rintro _ w328 ⟨rfl, hb329⟩
       refine ⟨_, rfl, ?_⟩
       have hB330 := hB321.trans (hb329.mono hB321.size)
       have hS331 := hS322.below hb329
       have hpv333 := hpv324.keepS (fun b hb => hb329.block b (((hS322.get (i := 5) rfl).2.1 b hb).2)) (fun _ h => h)
       have hSW334 := hSW325.ext hb329
       refine WL.nil (WH.ret hSW334 (WH.on1 11 rfl ?_))
       obtain ⟨u335, hu335, hF⟩ := bindE hF
       refine wl_call rfl Try.call136 (C_spec_l1Cur__among__mut__box w328 (x0.1, u317.2.2.1, u317.2.2.2) b0 v0_0 (h0_0.rsto (hS331.sel [4, 0] rfl)) [0, 8, 16, 3] v293 (own_out (hS331.sel [2, 0] rfl)) (hS331.sel [0] rfl).base0 _ hu335) rfl ?_
       rintro _ w336 ⟨rfl, hE337, hM338⟩
       refine ⟨_, rfl, ?_⟩
       have hB339 := hS331.takeB [0] rfl (M := [R.blk b0 131 [v0_0, (.int .i64 u317.2.2.1), (.int .u64 u317.2.2.2)]]) rfl hB330 hE337 hM338
       have hS340 : Sep (wE w0).heap.size w336 [R.blk b0 131 [v0_0, (.int .i64 u335.2.2.1), (.int .u64 u335.2.2.2)], R.own ty_3 F306 v305 [0, 8, 16, 24, 5], R.own ty_3 F294 v293 [0, 8, 16, 3], R.blk b114 68 [(.int .i64 u110.1), (.int .i64 u110.2)], R.rest w0 (fps [R.blk b0 131 [v0_0, (.int .i64 x0.2.1), (.int .u64 x0.2.2)]]), R.own ty_68 F12 v11 l10, R.blk b39 68 [(.int .i64 u33.1.1), (.int .i64 u33.1.2)]] := hS331.take [0] [1, 2, 3, 4, 5, 6] rfl (M := [R.blk b0 131 [v0_0, (.int .i64 u317.2.2.1), (.int .u64 u317.2.2.2)]]) rfl hM338 hB330.size
       have hk341 := box_kept hM338
       have hpv342 := hpv333.keepS (fun b hb => hk341.2.1 b (((hS331.get (i := 5) rfl).2.1 b hb).2) (hS331.disj (i := 5) (j := 0) rfl rfl rfl b hb)) (fun _ h => h)
       have hSW343 := hSW334.wr' hk341.1 hk341.2.1 (hbs326)
       refine WL.nil (WH.ret hSW343 (WH.tk 12 rfl hP hSW343 (pr_add rfl rfl rfl (WH.on1 13 rfl ?_))))
       obtain ⟨u345, hu345, hF⟩ := bindE hF
       refine wl_call rfl Try.call167 (C_spec_l1Least w336 672 (w64 (u110.2 + u335.1)) _ hu345) rfl ?_
       rintro _ w346 ⟨rfl, hb347⟩
       refine ⟨_, rfl, ?_⟩
       have hB348 := hB339.trans (hb347.mono hB339.size)
       have hS349 := hS340.below hb347
       have hpv351 := hpv342.keepS (fun b hb => hb347.block b (((hS340.get (i := 5) rfl).2.1 b hb).2)) (fun _ h => h)
       have hSW352 := hSW343.ext hb347
       refine WL.nil (WH.ret hSW352 (WH.tk 14 rfl hP hSW352 (pr_build (zs := [(.int .i64 0), (.int .i64 0)]) (out := [(.int .i64 u327), (.int .i64 u345)]) (vs := [(.int .i64 u327), (.int .i64 u345)]) (css := [[(.int .i64 u327)], [(.int .i64 u345)]]) tf_68 pl_68 rfl rfl rfl rfl rfl (WH.on1 15 rfl (wl_store_blk (i := 6) (vs := [(.int .i64 u327), (.int .i64 u345)]) (cs' := [(.int .i64 u327), (.int .i64 u345)]) tf_68 rfl rfl rfl rfl hB348 hS349 rfl rfl ⟨rfl, rfl, trivial⟩ rfl ?_)))))
       intro w353 hk356 hB354 hS355
       have hpv357 := hpv351.keepS (fun b hb => hk356.2.1 b (((hS349.get (i := 5) rfl).2.1 b hb).2) (hS349.disj (i := 5) (j := 6) rfl rfl rfl b hb)) (fun _ h => h)
       have hSW358 := hSW352.wr' hk356.1 hk356.2.1 (fun _ _ h => List.mem_append_right _ h)
       refine WL.nil (WH.ret hSW358 (WH.done (by kernel_rfl) ?_))
       have hp112 := hpv357
       exact fun a ha => hJ57 (u335.2.2.1) (u335.2.2.2) (u327) (u345) _ hF hB354 (hS355.sel [4, 0, 5, 6] rfl) a (ha.sub ⟨rfl, rfl, rfl, rfl, rfl, trivial⟩)
     ·replace hF := ifN h102 hF
      refine W.skip ?_
      exact fun a ha => hJ57 (y97) (y98) (u33.1.1) (u33.1.2) _ hF hB95 (hS96.sel [0, 1, 2, 3] rfl) a (ha.sub ⟨rfl, rfl, rfl, rfl, rfl, trivial⟩)
    refine W.region (wl_move rfl rfl (wl_lenr (e := ty_68) (l := l10) Try.underlying63 rfl rfl (hS46.own_ro (i := 3) rfl) (wl_gtr rfl rfl rfl (wl_move rfl rfl ?_))))
    rcases bE (decide (0 < (List.length l10 : Int))) with h360 | h360
    ·replace hF := ifP h360 hF
     refine wl_on rfl rfl h360 (wl_move rfl rfl (wl_on rfl rfl h360 ?_))
     obtain ⟨u361, hu361, hF⟩ := bindE hF
     refine wl_call rfl Try.call130 (C_spec_l1Cur__one__mut__box w44 (x0.1, u33.2.2.1, u33.2.2.2) b0 v0_0 (h0_0.rsto (hS46.sel [2, 1] rfl)) 2 (hS46.sel [1] rfl).base0 _ hu361) rfl ?_
     rintro _ w362 ⟨rfl, hE363, hM364⟩
     refine ⟨_, rfl, ?_⟩
     have hB365 := hS46.takeB [1] rfl (M := [R.blk b0 131 [v0_0, (.int .i64 u33.2.2.1), (.int .u64 u33.2.2.2)]]) rfl hB45 hE363 hM364
     have hS366 : Sep (wE w0).heap.size w362 [R.blk b0 131 [v0_0, (.int .i64 u361.2.2.1), (.int .u64 u361.2.2.2)], R.blk b39 68 [(.int .i64 u33.1.1), (.int .i64 u33.1.2)], R.rest w0 (fps [R.blk b0 131 [v0_0, (.int .i64 x0.2.1), (.int .u64 x0.2.2)]]), R.own ty_68 F12 v11 l10] := hS46.take [1] [0, 2, 3] rfl (M := [R.blk b0 131 [v0_0, (.int .i64 u33.2.2.1), (.int .u64 u33.2.2.2)]]) rfl hM364 hB45.size
     refine wl_pick_t rfl rfl h360 rfl (WL.nil ?_)
     exact fun a ha => hJ101 (u361.2.2.1) (u361.2.2.2) (u361.1) _ hF hB365 (hS366.sel [2, 0, 3, 1] rfl) a (ha.sub ⟨rfl, rfl, rfl, rfl, rfl, rfl, trivial⟩)
    ·replace hF := ifN h360 hF
     refine wl_off rfl rfl rfl h360 (wl_off rfl rfl rfl h360 (wl_pick_f rfl rfl h360 rfl (WL.nil ?_)))
     exact fun a ha => hJ101 (u33.2.2.1) (u33.2.2.2) (false) _ hF hB45 (hS46.sel [2, 1, 3, 0] rfl) a (ha.sub ⟨rfl, rfl, rfl, rfl, rfl, rfl, trivial⟩)
   ·replace hF := ifN h20 hF
    refine W.exit fun a ha => hK3 _ _ (W.seq fun K367 hK367 => (W.region (wl_move rfl rfl (wl_assign rfl rfl (WL.nil (fun a ha => hK367 _ _ (W.ret ?_) a ha)))))) a ha
    have hr := Option.some.inj hF
    subst hr
    exact rets (vs := [v11]) hQ rfl ⟨rv_tmp rfl, trivial⟩ ⟨v11, F12, rfl, hB6, hS7.sel [0, 1, 2] rfl⟩
theorem C_spec_l1Cur__chart__mut__box (w0 : World) (x0 : ((List Int) × Int × Int)) (b0 : Nat) (v0_0 : Value) (h0_0 : rdS ty_5 (Out (fps [R.blk b0 131 [v0_0, (.int .i64 x0.2.1), (.int .u64 x0.2.2)]]) w0) w0 v0_0 x0.1) (hS0 : Sep 0 w0 [R.blk b0 131 [v0_0, (.int .i64 x0.2.1), (.int .u64 x0.2.2)]]) (r : ((List (Int × Int)) × ((List Int) × Int × Int))) (hF : F_spec_l1Cur__chart__mut__box x0 = some r) :
  Calls Try.prog 165 [(.pointer (some ⟨b0, 0, none⟩))].toArray w0 fun e w' => ∃ (q0 : Value) (G0 : List Nat), e = .returned q0 ∧ Below 0 (wE w0) w' ∧ Sep 0 w' [R.rest w0 (fps [R.blk b0 131 [v0_0, (.int .i64 x0.2.1), (.int .u64 x0.2.2)]]), R.blk b0 131 [v0_0, (.int .i64 r.2.2.1), (.int .u64 r.2.2.2)], R.own ty_68 G0 q0 r.1] := by
 refine calls_mk' Try.func165 rfl Try.ntmps165 rfl rfl fun Q hQ hP => ?_
 have hB : Below (wE w0).heap.size (wE w0) w0 := wE_below w0
 have hS : Sep (wE w0).heap.size w0 [R.rest w0 (fps [R.blk b0 131 [v0_0, (.int .i64 x0.2.1), (.int .u64 x0.2.2)]]), R.blk b0 131 [v0_0, (.int .i64 x0.2.1), (.int .u64 x0.2.2)]] := hS0.rest
 unfold F_spec_l1Cur__chart__mut__box at hF
 refine W.seq fun K1 hK1 => W.region (wl_assign rfl rfl (WL.nil (fun a ha => hK1 _ _ (W.seq fun K2 hK2 => (W.seq fun K3 hK3 => (W.region (wl_move rfl rfl ?_)))) a ha)))
 obtain ⟨u4, hu4, hF⟩ := bindE hF
 refine wl_call rfl Try.call130 (C_spec_l1Cur__one__mut__box w0 x0 b0 v0_0 (h0_0.rsto (hS.sel [0, 1] rfl)) 20 (hS.sel [1] rfl).base0 _ hu4) rfl ?_
 rintro _ w5 ⟨rfl, hE6, hM7⟩
 refine ⟨_, rfl, ?_⟩
 have hB8 := hS.takeB [1] rfl (M := [R.blk b0 131 [v0_0, (.int .i64 x0.2.1), (.int .u64 x0.2.2)]]) rfl hB hE6 hM7
 have hS9 : Sep (wE w0).heap.size w5 [R.blk b0 131 [v0_0, (.int .i64 u4.2.2.1), (.int .u64 u4.2.2.2)], R.rest w0 (fps [R.blk b0 131 [v0_0, (.int .i64 x0.2.1), (.int .u64 x0.2.2)]])] := hS.take [1] [0] rfl (M := [R.blk b0 131 [v0_0, (.int .i64 x0.2.1), (.int .u64 x0.2.2)]]) rfl hM7 hB.size
 refine WL.nil fun a ha => hK3 _ _ (W.cond rfl (fun h10 => ?_) (fun h10 => ?_)) a ha
 ·replace hF := ifP h10 hF
  refine W.seq fun K11 hK11 => W.region (wl_move rfl rfl ?_)
  obtain ⟨u12, hu12, hF⟩ := bindE hF
  refine wl_call rfl Try.call166 (C_spec_l1Cur__chartOf__mut__box w5 (x0.1, u4.2.2.1, u4.2.2.2) b0 v0_0 (h0_0.rsto (hS9.sel [1, 0] rfl)) 12 (hS9.sel [0] rfl).base0 _ hu12) rfl ?_
  rintro _ w13 ⟨v18, F19, rfl, hE14, hM15⟩
  refine ⟨_, rfl, ?_⟩
  have hB16 := hS9.takeB [0] rfl (M := [R.blk b0 131 [v0_0, (.int .i64 u4.2.2.1), (.int .u64 u4.2.2.2)]]) rfl hB8 hE14 hM15
  have hS17 : Sep (wE w0).heap.size w13 [R.blk b0 131 [v0_0, (.int .i64 u12.2.2.1), (.int .u64 u12.2.2.2)], R.own ty_68 F19 v18 u12.1, R.rest w0 (fps [R.blk b0 131 [v0_0, (.int .i64 x0.2.1), (.int .u64 x0.2.2)]])] := hS9.take [0] [1] rfl (M := [R.blk b0 131 [v0_0, (.int .i64 u4.2.2.1), (.int .u64 u4.2.2.2)]]) rfl hM15 hB8.size
  refine wl_assign rfl rfl (WL.nil (fun a ha => hK11 _ _ (W.ret ?_) a ha))
  have hr := Option.some.inj hF
  subst hr
  exact rets (vs := [v18]) hQ rfl ⟨rv_tmp rfl, trivial⟩ ⟨v18, F19, rfl, hB16, hS17.sel [2, 0, 1] rfl⟩
 ·replace hF := ifN h10 hF
  refine W.skip fun a ha => hK2 _ _ (W.seq fun K20 hK20 => (W.region (wl_move rfl rfl (wl_move rfl rfl ?_)))) a ha
  obtain ⟨u21, hu21, hF⟩ := bindE hF
  refine wl_call rfl Try.call132 (C_spec_l1Cur__pick__mut__box w5 (x0.1, u4.2.2.1, u4.2.2.2) b0 v0_0 (h0_0.rsto (hS9.sel [1, 0] rfl)) 6 (hS9.sel [0] rfl).base0 _ hu21) rfl ?_
  rintro _ w22 ⟨rfl, hE23, hM24⟩
  refine ⟨_, rfl, ?_⟩
  have hB25 := hS9.takeB [0] rfl (M := [R.blk b0 131 [v0_0, (.int .i64 u4.2.2.1), (.int .u64 u4.2.2.2)]]) rfl hB8 hE23 hM24
  have hS26 : Sep (wE w0).heap.size w22 [R.blk b0 131 [v0_0, (.int .i64 u21.2.2.1), (.int .u64 u21.2.2.2)], R.rest w0 (fps [R.blk b0 131 [v0_0, (.int .i64 x0.2.1), (.int .u64 x0.2.2)]])] := hS9.take [0] [1] rfl (M := [R.blk b0 131 [v0_0, (.int .i64 u4.2.2.1), (.int .u64 u4.2.2.2)]]) rfl hM24 hB8.size
  refine wl_add rfl rfl rfl ?_
  obtain ⟨u27, hu27, hF⟩ := bindE hF
  refine wl_call rfl Try.call166 (C_spec_l1Cur__chartOf__mut__box w22 (x0.1, u21.2.2.1, u21.2.2.2) b0 v0_0 (h0_0.rsto (hS26.sel [1, 0] rfl)) (w64 (1 + u21.1)) (hS26.sel [0] rfl).base0 _ hu27) rfl ?_
  rintro _ w28 ⟨v33, F34, rfl, hE29, hM30⟩
  refine ⟨_, rfl, ?_⟩
  have hB31 := hS26.takeB [0] rfl (M := [R.blk b0 131 [v0_0, (.int .i64 u21.2.2.1), (.int .u64 u21.2.2.2)]]) rfl hB25 hE29 hM30
  have hS32 : Sep (wE w0).heap.size w28 [R.blk b0 131 [v0_0, (.int .i64 u27.2.2.1), (.int .u64 u27.2.2.2)], R.own ty_68 F34 v33 u27.1, R.rest w0 (fps [R.blk b0 131 [v0_0, (.int .i64 x0.2.1), (.int .u64 x0.2.2)]])] := hS26.take [0] [1] rfl (M := [R.blk b0 131 [v0_0, (.int .i64 u21.2.2.1), (.int .u64 u21.2.2.2)]]) rfl hM30 hB25.size
  refine wl_assign rfl rfl (WL.nil (fun a ha => hK20 _ _ (W.ret ?_) a ha))
  have hr := Option.some.inj hF
  subst hr
  exact rets (vs := [v33]) hQ rfl ⟨rv_tmp rfl, trivial⟩ ⟨v33, F34, rfl, hB31, hS32.sel [2, 0, 1] rfl⟩
theorem C_spec_l1Cur__anySpot__mut__box (w0 : World) (x0 : ((List Int) × Int × Int)) (b0 : Nat) (v0_0 : Value) (h0_0 : rdS ty_5 (Out (fps [R.blk b0 131 [v0_0, (.int .i64 x0.2.1), (.int .u64 x0.2.2)]]) w0) w0 v0_0 x0.1) (hS0 : Sep 0 w0 [R.blk b0 131 [v0_0, (.int .i64 x0.2.1), (.int .u64 x0.2.2)]]) (r : ((Int × Int) × ((List Int) × Int × Int))) (hF : F_spec_l1Cur__anySpot__mut__box x0 = some r) :
  Calls Try.prog 258 [(.pointer (some ⟨b0, 0, none⟩))].toArray w0 fun e w' => e = .returned (.agg #[(.int .i64 r.1.1), (.int .i64 r.1.2)]) ∧ Below 0 (wE w0) w' ∧ Sep 0 w' [R.rest w0 (fps [R.blk b0 131 [v0_0, (.int .i64 x0.2.1), (.int .u64 x0.2.2)]]), R.blk b0 131 [v0_0, (.int .i64 r.2.2.1), (.int .u64 r.2.2.2)]] := by
 refine calls_mk' Try.func258 rfl Try.ntmps258 rfl rfl fun Q hQ hP => ?_
 have hB : Below (wE w0).heap.size (wE w0) w0 := wE_below w0
 have hS : Sep (wE w0).heap.size w0 [R.rest w0 (fps [R.blk b0 131 [v0_0, (.int .i64 x0.2.1), (.int .u64 x0.2.2)]]), R.blk b0 131 [v0_0, (.int .i64 x0.2.1), (.int .u64 x0.2.2)]] := hS0.rest
 unfold F_spec_l1Cur__anySpot__mut__box at hF
 refine W.seq fun K1 hK1 => W.region (wl_alloc (cs := [(.int .i64 0), (.int .i64 0)]) tf_68 rfl rfl hB hS ?_)
 intro b2 w3 hb4 hB5 hS6
 refine WL.nil fun a ha => hK1 _ _ (W.seq fun K7 hK7 => (W.region (wl_move rfl rfl ?_))) a ha
 obtain ⟨u8, hu8, hF⟩ := bindE hF
 refine wl_call rfl Try.call239 (C_spec_l1Cur__spot__mut__box w3 x0 b0 v0_0 (h0_0.rsto (hS6.sel [1, 2] rfl)) (hS6.sel [2] rfl).base0 _ hu8) rfl ?_
 rintro _ w9 ⟨rfl, hE10, hM11⟩
 refine ⟨_, rfl, ?_⟩
 have hB12 := hS6.takeB [2] rfl (M := [R.blk b0 131 [v0_0, (.int .i64 x0.2.1), (.int .u64 x0.2.2)]]) rfl hB5 hE10 hM11
 have hS13 : Sep (wE w0).heap.size w9 [R.blk b0 131 [v0_0, (.int .i64 u8.2.2.1), (.int .u64 u8.2.2.2)], R.blk b2 68 [(.int .i64 0), (.int .i64 0)], R.rest w0 (fps [R.blk b0 131 [v0_0, (.int .i64 x0.2.1), (.int .u64 x0.2.2)]])] := hS6.take [2] [0, 1] rfl (M := [R.blk b0 131 [v0_0, (.int .i64 x0.2.1), (.int .u64 x0.2.2)]]) rfl hM11 hB5.size
 refine wl_alloc (cs := [(.int .i64 0), (.int .i64 0)]) tf_68 rfl rfl hB12 hS13 ?_
 intro b14 w15 hb16 hB17 hS18
 refine wl_store_blk (i := 0) (vs := [(.int .i64 u8.1.1), (.int .i64 u8.1.2)]) (cs' := [(.int .i64 u8.1.1), (.int .i64 u8.1.2)]) tf_68 rfl rfl rfl rfl hB17 hS18 rfl rfl ⟨rfl, rfl, trivial⟩ rfl ?_
 intro w19 hk22 hB20 hS21
 refine WL.nil fun a ha => hK7 _ _ (W.seq fun K23 hK23 => ?_) a ha
 obtain ⟨k31, hk31, hF⟩ := jE4 hF
 have hJ32 : ∀ (y27 : Int) (y28 : Int) (y29 : Int) (y30 : Int) (w24 : World) (_ : k31 y27 y28 y29 y30 = some r) (_ : Below (wE w0).heap.size (wE w0) w24) (_ : Sep (wE w0).heap.size w24 [R.rest w0 (fps [R.blk b0 131 [v0_0, (.int .i64 x0.2.1), (.int .u64 x0.2.2)]]), R.blk b0 131 [v0_0, (.int .i64 y27), (.int .u64 y28)], R.blk b2 68 [(.int .i64 0), (.int .i64 0)], R.blk b14 68 [(.int .i64 y29), (.int .i64 y30)]]), ∀ a, St 21 [(2, (.pointer (some ⟨b2, 0, none⟩))), (3, (.pointer (some ⟨b14, 0, none⟩)))] a → K23 a w24 := by
  intro y27 y28 y29 y30 w24 hF hB25 hS26
  subst hk31
  refine fun a ha => hK23 _ _ (W.seq fun K33 hK33 => (W.region (wl_load_blk (i := 3) (vs := [(.int .i64 y29), (.int .i64 y30)]) (v := (.agg #[(.int .i64 y29), (.int .i64 y30)])) tf_68 rfl rfl hS26 rfl rfl rfl (wl_store_blk (i := 2) (vs := [(.int .i64 y29), (.int .i64 y30)]) (cs' := [(.int .i64 y29), (.int .i64 y30)]) tf_68 rfl rfl rfl rfl hB25 hS26 rfl rfl ⟨rfl, rfl, trivial⟩ rfl ?_)))) a ha
  intro w34 hk37 hB35 hS36
  refine WL.nil fun a ha => hK33 _ _ (W.ret ?_) a ha
  have hr := Option.some.inj hF
  subst hr
  exact rets (vs := [(.agg #[(.int .i64 y29), (.int .i64 y30)])]) hQ rfl ⟨rv_cell (i := 2) tf_68 rfl hS36 rfl rfl rfl, trivial⟩ ⟨rfl, hB35, hS36.sel [0, 1] rfl⟩
 refine W.seq fun K38 hK38 => W.region (wl_move rfl rfl ?_)
 obtain ⟨u39, hu39, hF⟩ := bindE hF
 refine wl_call rfl Try.call132 (C_spec_l1Cur__pick__mut__box w19 (x0.1, u8.2.2.1, u8.2.2.2) b0 v0_0 (h0_0.rsto (hS21.sel [3, 1] rfl)) 30 (hS21.sel [1] rfl).base0 _ hu39) rfl ?_
 rintro _ w40 ⟨rfl, hE41, hM42⟩
 refine ⟨_, rfl, ?_⟩
 have hB43 := hS21.takeB [1] rfl (M := [R.blk b0 131 [v0_0, (.int .i64 u8.2.2.1), (.int .u64 u8.2.2.2)]]) rfl hB20 hE41 hM42
 have hS44 : Sep (wE w0).heap.size w40 [R.blk b0 131 [v0_0, (.int .i64 u39.2.2.1), (.int .u64 u39.2.2.2)], R.blk b14 68 [(.int .i64 u8.1.1), (.int .i64 u8.1.2)], R.blk b2 68 [(.int .i64 0), (.int .i64 0)], R.rest w0 (fps [R.blk b0 131 [v0_0, (.int .i64 x0.2.1), (.int .u64 x0.2.2)]])] := hS21.take [1] [0, 2, 3] rfl (M := [R.blk b0 131 [v0_0, (.int .i64 u8.2.2.1), (.int .u64 u8.2.2.2)]]) rfl hM42 hB20.size
 refine WL.nil fun a ha => hK38 _ _ (W.block (W.seq fun K45 hK45 => (W.region (wl_eql rfl rfl rfl (wl_assign rfl rfl (WL.nil (fun a ha => hK45 _ _ (W.cond rfl (fun h46 => ?_) (fun h46 => ?_)) a ha))))))) a ha
 ·replace hF := ifP h46 hF
  refine W.region (wl_move rfl rfl (wl_lit (vs := [(.int .i64 (-1)), (.int .i64 1281)]) (l := [(-1), 1281]) fl_3 Try.underlying29 rfl rfl rfl rfl rfl rfl hB43 hS44 ?_))
  intro v47 F48 w49 hb50 hB51 hS52
  obtain ⟨u53, hu53, hF⟩ := bindE hF
  refine wl_call rfl Try.call136 (C_spec_l1Cur__among__mut__box w49 (x0.1, u39.2.2.1, u39.2.2.2) b0 v0_0 (h0_0.rsto (hS52.sel [4, 1] rfl)) [(-1), 1281] v47 (own_out (hS52.sel [0, 1] rfl)) (hS52.sel [1] rfl).base0 _ hu53) rfl ?_
  rintro _ w54 ⟨rfl, hE55, hM56⟩
  refine ⟨_, rfl, ?_⟩
  have hB57 := hS52.takeB [1] rfl (M := [R.blk b0 131 [v0_0, (.int .i64 u39.2.2.1), (.int .u64 u39.2.2.2)]]) rfl hB51 hE55 hM56
  have hS58 : Sep (wE w0).heap.size w54 [R.blk b0 131 [v0_0, (.int .i64 u53.2.2.1), (.int .u64 u53.2.2.2)], R.own ty_3 F48 v47 [(-1), 1281], R.blk b14 68 [(.int .i64 u8.1.1), (.int .i64 u8.1.2)], R.blk b2 68 [(.int .i64 0), (.int .i64 0)], R.rest w0 (fps [R.blk b0 131 [v0_0, (.int .i64 x0.2.1), (.int .u64 x0.2.2)]])] := hS52.take [1] [0, 2, 3, 4] rfl (M := [R.blk b0 131 [v0_0, (.int .i64 u39.2.2.1), (.int .u64 u39.2.2.2)]]) rfl hM56 hB51.size
  refine wl_field (o := 0) (off' := 0) ff_68_0 rfl rfl rfl (wl_store_blk (i := 2) (vs := [(.int .i64 u53.1)]) (cs' := [(.int .i64 u53.1), (.int .i64 u8.1.2)]) tf_3 rfl rfl rfl rfl hB57 hS58 rfl rfl ⟨rfl, trivial⟩ rfl ?_)
  intro w59 hk62 hB60 hS61
  refine WL.nil ?_
  exact fun a ha => hJ32 (u53.2.2.1) (u53.2.2.2) (u53.1) (u8.1.2) _ hF hB60 (hS61.sel [4, 0, 3, 2] rfl) a (ha.sub ⟨rfl, rfl, trivial⟩)
 ·replace hF := ifN h46 hF
  refine W.seq fun K63 hK63 => W.region (wl_eql rfl rfl rfl (wl_assign rfl rfl (WL.nil (fun a ha => hK63 _ _ (W.cond rfl (fun h64 => ?_) (fun h64 => ?_)) a ha))))
  ·replace hF := ifP h64 hF
   refine W.region (wl_move rfl rfl (wl_lit (vs := [(.int .i64 (-1)), (.int .i64 673)]) (l := [(-1), 673]) fl_3 Try.underlying29 rfl rfl rfl rfl rfl rfl hB43 hS44 ?_))
   intro v65 F66 w67 hb68 hB69 hS70
   obtain ⟨u71, hu71, hF⟩ := bindE hF
   refine wl_call rfl Try.call136 (C_spec_l1Cur__among__mut__box w67 (x0.1, u39.2.2.1, u39.2.2.2) b0 v0_0 (h0_0.rsto (hS70.sel [4, 1] rfl)) [(-1), 673] v65 (own_out (hS70.sel [0, 1] rfl)) (hS70.sel [1] rfl).base0 _ hu71) rfl ?_
   rintro _ w72 ⟨rfl, hE73, hM74⟩
   refine ⟨_, rfl, ?_⟩
   have hB75 := hS70.takeB [1] rfl (M := [R.blk b0 131 [v0_0, (.int .i64 u39.2.2.1), (.int .u64 u39.2.2.2)]]) rfl hB69 hE73 hM74
   have hS76 : Sep (wE w0).heap.size w72 [R.blk b0 131 [v0_0, (.int .i64 u71.2.2.1), (.int .u64 u71.2.2.2)], R.own ty_3 F66 v65 [(-1), 673], R.blk b14 68 [(.int .i64 u8.1.1), (.int .i64 u8.1.2)], R.blk b2 68 [(.int .i64 0), (.int .i64 0)], R.rest w0 (fps [R.blk b0 131 [v0_0, (.int .i64 x0.2.1), (.int .u64 x0.2.2)]])] := hS70.take [1] [0, 2, 3, 4] rfl (M := [R.blk b0 131 [v0_0, (.int .i64 u39.2.2.1), (.int .u64 u39.2.2.2)]]) rfl hM74 hB69.size
   refine wl_field (o := 1) (off' := 1) ff_68_1 rfl rfl rfl (wl_store_blk (i := 2) (vs := [(.int .i64 u71.1)]) (cs' := [(.int .i64 u8.1.1), (.int .i64 u71.1)]) tf_3 rfl rfl rfl rfl hB75 hS76 rfl rfl ⟨rfl, trivial⟩ rfl ?_)
   intro w77 hk80 hB78 hS79
   refine WL.nil ?_
   exact fun a ha => hJ32 (u71.2.2.1) (u71.2.2.2) (u8.1.1) (u71.1) _ hF hB78 (hS79.sel [4, 0, 3, 2] rfl) a (ha.sub ⟨rfl, rfl, trivial⟩)
  ·replace hF := ifN h64 hF
   refine W.skip ?_
   exact fun a ha => hJ32 (u39.2.2.1) (u39.2.2.2) (u8.1.1) (u8.1.2) _ hF hB43 (hS44.sel [3, 0, 2, 1] rfl) a (ha.sub ⟨rfl, rfl, trivial⟩)
theorem C_spec_l1Cur__anyChart__mut__box (w0 : World) (x0 : ((List Int) × Int × Int)) (b0 : Nat) (v0_0 : Value) (h0_0 : rdS ty_5 (Out (fps [R.blk b0 131 [v0_0, (.int .i64 x0.2.1), (.int .u64 x0.2.2)]]) w0) w0 v0_0 x0.1) (hS0 : Sep 0 w0 [R.blk b0 131 [v0_0, (.int .i64 x0.2.1), (.int .u64 x0.2.2)]]) (r : ((List (Int × Int)) × ((List Int) × Int × Int))) (hF : F_spec_l1Cur__anyChart__mut__box x0 = some r) :
  Calls Try.prog 231 [(.pointer (some ⟨b0, 0, none⟩))].toArray w0 fun e w' => ∃ (q0 : Value) (G0 : List Nat), e = .returned q0 ∧ Below 0 (wE w0) w' ∧ Sep 0 w' [R.rest w0 (fps [R.blk b0 131 [v0_0, (.int .i64 x0.2.1), (.int .u64 x0.2.2)]]), R.blk b0 131 [v0_0, (.int .i64 r.2.2.1), (.int .u64 r.2.2.2)], R.own ty_68 G0 q0 r.1] := by
 refine calls_mk' Try.func231 rfl Try.ntmps231 rfl rfl fun Q hQ hP => ?_
 have hB : Below (wE w0).heap.size (wE w0) w0 := wE_below w0
 have hS : Sep (wE w0).heap.size w0 [R.rest w0 (fps [R.blk b0 131 [v0_0, (.int .i64 x0.2.1), (.int .u64 x0.2.2)]]), R.blk b0 131 [v0_0, (.int .i64 x0.2.1), (.int .u64 x0.2.2)]] := hS0.rest
 unfold F_spec_l1Cur__anyChart__mut__box at hF
 refine W.seq fun K1 hK1 => W.region (wl_assign rfl rfl (WL.nil (fun a ha => hK1 _ _ (W.seq fun K2 hK2 => (W.region (wl_move rfl rfl ?_))) a ha)))
 obtain ⟨u3, hu3, hF⟩ := bindE hF
 refine wl_call rfl Try.call165 (C_spec_l1Cur__chart__mut__box w0 x0 b0 v0_0 (h0_0.rsto (hS.sel [0, 1] rfl)) (hS.sel [1] rfl).base0 _ hu3) rfl ?_
 rintro _ w4 ⟨v9, F10, rfl, hE5, hM6⟩
 refine ⟨_, rfl, ?_⟩
 have hB7 := hS.takeB [1] rfl (M := [R.blk b0 131 [v0_0, (.int .i64 x0.2.1), (.int .u64 x0.2.2)]]) rfl hB hE5 hM6
 have hS8 : Sep (wE w0).heap.size w4 [R.blk b0 131 [v0_0, (.int .i64 u3.2.2.1), (.int .u64 u3.2.2.2)], R.own ty_68 F10 v9 u3.1, R.rest w0 (fps [R.blk b0 131 [v0_0, (.int .i64 x0.2.1), (.int .u64 x0.2.2)]])] := hS.take [1] [0] rfl (M := [R.blk b0 131 [v0_0, (.int .i64 x0.2.1), (.int .u64 x0.2.2)]]) rfl hM6 hB.size
 refine wl_assign rfl rfl (WL.nil (fun a ha => hK2 _ _ (W.seq fun K11 hK11 => (W.region (wl_move rfl rfl (wl_move rfl rfl (wl_lenr (e := ty_68) (l := u3.1) Try.underlying63 rfl rfl (hS8.own_ro (i := 1) rfl) ?_))))) a ha))
 obtain ⟨u12, hu12, hF⟩ := bindE hF
 refine wl_call rfl Try.call132 (C_spec_l1Cur__pick__mut__box w4 (x0.1, u3.2.2.1, u3.2.2.2) b0 v0_0 (h0_0.rsto (hS8.sel [2, 0] rfl)) (List.length u3.1 : Int) (hS8.sel [0] rfl).base0 _ hu12) rfl ?_
 rintro _ w13 ⟨rfl, hE14, hM15⟩
 refine ⟨_, rfl, ?_⟩
 have hB16 := hS8.takeB [0] rfl (M := [R.blk b0 131 [v0_0, (.int .i64 u3.2.2.1), (.int .u64 u3.2.2.2)]]) rfl hB7 hE14 hM15
 have hS17 : Sep (wE w0).heap.size w13 [R.blk b0 131 [v0_0, (.int .i64 u12.2.2.1), (.int .u64 u12.2.2.2)], R.own ty_68 F10 v9 u3.1, R.rest w0 (fps [R.blk b0 131 [v0_0, (.int .i64 x0.2.1), (.int .u64 x0.2.2)]])] := hS8.take [0] [1, 2] rfl (M := [R.blk b0 131 [v0_0, (.int .i64 u3.2.2.1), (.int .u64 u3.2.2.2)]]) rfl hM15 hB7.size
 refine wl_assign rfl rfl (WL.nil (fun a ha => hK11 _ _ (W.seq fun K18 hK18 => ?_) a ha))
 obtain ⟨k27, hk27, hF⟩ := jE3 hF
 have hJ28 : ∀ (y22 : Int) (y23 : Int) (l24 : (List (Int × Int))) (v25 : Value) (F26 : List Nat) (w19 : World) (_ : k27 y22 y23 l24 = some r) (_ : Below (wE w0).heap.size (wE w0) w19) (_ : Sep (wE w0).heap.size w19 [R.rest w0 (fps [R.blk b0 131 [v0_0, (.int .i64 x0.2.1), (.int .u64 x0.2.2)]]), R.blk b0 131 [v0_0, (.int .i64 y22), (.int .u64 y23)], R.own ty_68 F26 v25 l24]), ∀ a, St 35 [(3, v25)] a → K18 a w19 := by
  intro y22 y23 l24 v25 F26 w19 hF hB20 hS21
  subst hk27
  refine fun a ha => hK18 _ _ (W.seq fun K29 hK29 => (W.region (wl_move rfl rfl (wl_assign rfl rfl (WL.nil (fun a ha => hK29 _ _ (W.ret ?_) a ha)))))) a ha
  have hr := Option.some.inj hF
  subst hr
  exact rets (vs := [v25]) hQ rfl ⟨rv_tmp rfl, trivial⟩ ⟨v25, F26, rfl, hB20, hS21.sel [0, 1, 2] rfl⟩
 refine W.seq fun K30 hK30 => W.region (wl_move rfl rfl ?_)
 obtain ⟨u31, hu31, hF⟩ := bindE hF
 refine wl_call rfl Try.call132 (C_spec_l1Cur__pick__mut__box w13 (x0.1, u12.2.2.1, u12.2.2.2) b0 v0_0 (h0_0.rsto (hS17.sel [2, 0] rfl)) 30 (hS17.sel [0] rfl).base0 _ hu31) rfl ?_
 rintro _ w32 ⟨rfl, hE33, hM34⟩
 refine ⟨_, rfl, ?_⟩
 have hB35 := hS17.takeB [0] rfl (M := [R.blk b0 131 [v0_0, (.int .i64 u12.2.2.1), (.int .u64 u12.2.2.2)]]) rfl hB16 hE33 hM34
 have hS36 : Sep (wE w0).heap.size w32 [R.blk b0 131 [v0_0, (.int .i64 u31.2.2.1), (.int .u64 u31.2.2.2)], R.own ty_68 F10 v9 u3.1, R.rest w0 (fps [R.blk b0 131 [v0_0, (.int .i64 x0.2.1), (.int .u64 x0.2.2)]])] := hS17.take [0] [1, 2] rfl (M := [R.blk b0 131 [v0_0, (.int .i64 u12.2.2.1), (.int .u64 u12.2.2.2)]]) rfl hM34 hB16.size
 refine WL.nil fun a ha => hK30 _ _ (W.block (W.seq fun K37 hK37 => (W.region (wl_eql rfl rfl rfl (wl_assign rfl rfl (WL.nil (fun a ha => hK37 _ _ (W.cond rfl (fun h38 => ?_) (fun h38 => ?_)) a ha))))))) a ha
 ·replace hF := ifP h38 hF
  refine W.region (wl_move rfl rfl (wl_move rfl rfl (wl_move rfl rfl ?_)))
  obtain ⟨u39, hu39, hF⟩ := bindE hF
  refine wl_call rfl Try.call258 (C_spec_l1Cur__anySpot__mut__box w32 (x0.1, u31.2.2.1, u31.2.2.2) b0 v0_0 (h0_0.rsto (hS36.sel [2, 0] rfl)) (hS36.sel [0] rfl).base0 _ hu39) rfl ?_
  rintro _ w40 ⟨rfl, hE41, hM42⟩
  refine ⟨_, rfl, ?_⟩
  have hB43 := hS36.takeB [0] rfl (M := [R.blk b0 131 [v0_0, (.int .i64 u31.2.2.1), (.int .u64 u31.2.2.2)]]) rfl hB35 hE41 hM42
  have hS44 : Sep (wE w0).heap.size w40 [R.blk b0 131 [v0_0, (.int .i64 u39.2.2.1), (.int .u64 u39.2.2.2)], R.own ty_68 F10 v9 u3.1, R.rest w0 (fps [R.blk b0 131 [v0_0, (.int .i64 x0.2.1), (.int .u64 x0.2.2)]])] := hS36.take [0] [1, 2] rfl (M := [R.blk b0 131 [v0_0, (.int .i64 u31.2.2.1), (.int .u64 u31.2.2.2)]]) rfl hM42 hB35.size
  obtain ⟨u45, hu45, hF⟩ := bindE hF
  refine wl_indexoF (e := ty_68) (i := 1) Try.underlying63 rfl rfl rfl hS44 rfl hu45 ?_
  rintro p46 _ rfl hp47 ho48
  refine wl_storeo (i := 1) (o := 0) (vs := [(.int .i64 u39.1.1), (.int .i64 u39.1.2)]) (u' := u39.1) fl_68 tf_68 rfl rfl rfl rfl ho48 hu45 hB43 hS44 rfl rfl ⟨rfl, rfl, trivial⟩ rfl ?_
  intro w49 hk52 hB50 hS51
  refine WL.nil ?_
  exact fun a ha => hJ28 (u39.2.2.1) (u39.2.2.2) ((seti u3.1 u12.1 u39.1)) (v9) (F10) _ hF hB50 (hS51.sel [2, 0, 1] rfl) a (ha.sub ⟨rfl, trivial⟩)
 ·replace hF := ifN h38 hF
  refine W.seq fun K53 hK53 => W.region (wl_eql rfl rfl rfl (wl_assign rfl rfl (WL.nil (fun a ha => hK53 _ _ (W.cond rfl (fun h54 => ?_) (fun h54 => ?_)) a ha))))
  ·replace hF := ifP h54 hF
   refine W.region (wl_move rfl rfl (wl_move rfl rfl (wl_move rfl rfl ?_)))
   obtain ⟨u55, hu55, hF⟩ := bindE hF
   refine wl_indexoF (e := ty_68) (i := 1) Try.underlying63 rfl rfl rfl hS36 rfl hu55 ?_
   rintro p56 _ rfl hp57 ho58
   refine wl_load_p (vs := [(.int .i64 u55.1), (.int .i64 u55.2)]) (v := (.agg #[(.int .i64 u55.1), (.int .i64 u55.2)])) tf_68 rfl rfl hp57 rfl rfl ?_
   obtain ⟨u59, hu59, hF⟩ := bindE hF
   refine wl_indexoF (e := ty_68) (i := 1) Try.underlying63 rfl rfl rfl hS36 rfl hu59 ?_
   rintro p60 _ rfl hp61 ho62
   refine wl_storeo (i := 1) (o := 0) (vs := [(.int .i64 u55.1), (.int .i64 u55.2)]) (u' := u55) fl_68 tf_68 rfl rfl rfl rfl ho62 hu59 hB35 hS36 rfl rfl ⟨rfl, rfl, trivial⟩ rfl ?_
   intro w63 hk66 hB64 hS65
   refine WL.nil ?_
   exact fun a ha => hJ28 (u31.2.2.1) (u31.2.2.2) ((seti u3.1 u12.1 u55)) (v9) (F10) _ hF hB64 (hS65.sel [2, 0, 1] rfl) a (ha.sub ⟨rfl, trivial⟩)
  ·replace hF := ifN h54 hF
   refine W.seq fun K67 hK67 => W.region (wl_eql rfl rfl rfl (wl_assign rfl rfl (WL.nil (fun a ha => hK67 _ _ (W.cond rfl (fun h68 => ?_) (fun h68 => ?_)) a ha))))
   ·replace hF := ifP h68 hF
    refine W.seq fun K69 hK69 => W.region (wl_assign rfl rfl (WL.nil (fun a ha => hK69 _ _ (W.ret ?_) a ha)))
    have hS70 := hS36.push0 (r := R.own ty_68 [] (.slice none 0 0) []) rfl fun _ => .inl ⟨rfl, rfl, rfl⟩
    have hr := Option.some.inj hF
    subst hr
    exact rets (vs := [(.slice none 0 0)]) hQ rfl ⟨rv_tmp rfl, trivial⟩ ⟨(.slice none 0 0), [], rfl, hB35, hS70.sel [3, 1, 0] rfl⟩
   ·replace hF := ifN h68 hF
    refine W.seq fun K71 hK71 => W.region (wl_eql rfl rfl rfl (wl_assign rfl rfl (WL.nil (fun a ha => hK71 _ _ (W.cond rfl (fun h72 => ?_) (fun h72 => ?_)) a ha))))
    ·replace hF := ifP h72 hF
     refine W.seq fun K73 hK73 => W.region (wl_move rfl rfl ?_)
     obtain ⟨u74, hu74, hF⟩ := bindE hF
     refine wl_call rfl Try.call166 (C_spec_l1Cur__chartOf__mut__box w32 (x0.1, u31.2.2.1, u31.2.2.2) b0 v0_0 (h0_0.rsto (hS36.sel [2, 0] rfl)) 13 (hS36.sel [0] rfl).base0 _ hu74) rfl ?_
     rintro _ w75 ⟨v80, F81, rfl, hE76, hM77⟩
     refine ⟨_, rfl, ?_⟩
     have hB78 := hS36.takeB [0] rfl (M := [R.blk b0 131 [v0_0, (.int .i64 u31.2.2.1), (.int .u64 u31.2.2.2)]]) rfl hB35 hE76 hM77
     have hS79 : Sep (wE w0).heap.size w75 [R.blk b0 131 [v0_0, (.int .i64 u74.2.2.1), (.int .u64 u74.2.2.2)], R.own ty_68 F81 v80 u74.1, R.own ty_68 F10 v9 u3.1, R.rest w0 (fps [R.blk b0 131 [v0_0, (.int .i64 x0.2.1), (.int .u64 x0.2.2)]])] := hS36.take [0] [1, 2] rfl (M := [R.blk b0 131 [v0_0, (.int .i64 u31.2.2.1), (.int .u64 u31.2.2.2)]]) rfl hM77 hB35.size
     refine wl_assign rfl rfl (WL.nil (fun a ha => hK73 _ _ (W.ret ?_) a ha))
     have hr := Option.some.inj hF
     subst hr
     exact rets (vs := [v80]) hQ rfl ⟨rv_tmp rfl, trivial⟩ ⟨v80, F81, rfl, hB78, hS79.sel [3, 0, 1] rfl⟩
    ·replace hF := ifN h72 hF
     refine W.skip ?_
     exact fun a ha => hJ28 (u31.2.2.1) (u31.2.2.2) (u3.1) (v9) (F10) _ hF hB35 (hS36.sel [2, 0, 1] rfl) a (ha.sub ⟨rfl, trivial⟩)
end Go.Proofs.Ytmkignciedkidaa
