/-
  THE WALKS of functions of this seat, by program (gen.py, prune.py).
-/
import Derived.Test.YtejhnpimhjmpdaaGreatDoorWXFnTopa
set_option linter.unusedSimpArgs false
set_option linter.unusedVariables false
set_option maxRecDepth 100000
set_option maxHeartbeats 1600000
namespace Go.Proofs.YtejhnpimhjmpdaaGreatDoor
open Go Go.RowKit
theorem C_impl_IsSpot (w0 : World) (x0 : (Int × Int)) (r : Bool) (hF : F_impl_IsSpot x0 = some r) :
  Calls Tryz.prog 77 [(.agg #[(.int .i64 x0.1), (.int .i64 x0.2)])].toArray w0 fun e w' => e = .returned (.bool r) ∧ Below w0.heap.size w0 w' := by
 refine calls_mk' Tryz.func77 rfl Tryz.ntmps77 rfl rfl fun Q hQ hP => ?_
 have hB : Below w0.heap.size w0 w0 := Below.refl _ _
 have hS : Sep w0.heap.size w0 [] := Sep.nil _ _
 unfold F_impl_IsSpot at hF
 refine W.seq fun K1 hK1 => W.region (wl_box (cs := [(.int .i64 x0.1), (.int .i64 x0.2)]) rfl rfl rfl hB hS ?_)
 intro b2 w3 hb4 hB5 hS6
 refine wl_assign rfl rfl (WL.nil (fun a ha => hK1 _ _ (W.seq fun K7 hK7 => ?_) a ha))
 obtain ⟨k12, hk12, hF⟩ := jE1 hF
 have hJ13 : ∀ (y11 : Bool) (w8 : World) (_ : k12 y11 = some r) (_ : Below w0.heap.size w0 w8) (_ : Sep w0.heap.size w8 []), ∀ a, St 11 [(2, (.bool y11))] a → K7 a w8 := by
  intro y11 w8 hF hB9 hS10
  subst hk12
  refine fun a ha => hK7 _ _ (W.ret ?_) a ha
  have hr := Option.some.inj hF
  subst hr
  exact rets (vs := [(.bool y11)]) hQ rfl ⟨rv_tmp rfl, trivial⟩ ⟨rfl, hB9⟩
 refine W.region (wl_field (o := 0) (off' := 0) ff_38_0 rfl rfl rfl (wl_load_blk (i := 0) (vs := [(.int .i64 x0.1)]) (v := (.int .i64 x0.1)) tf_3 rfl rfl hS6 rfl rfl rfl ?_))
 obtain ⟨u14, hu14, hF⟩ := bindE hF
 refine wl_call rfl Tryz.call38 (C_impl_within w3 x0.1 0 1280 _ hu14) rfl ?_
 rintro _ w15 ⟨rfl, hb16⟩
 refine ⟨_, rfl, ?_⟩
 have hB17 := hB5.trans (hb16.mono hB5.size)
 have hS18 := hS6.below hb16
 refine wl_move rfl rfl ?_
 rcases bE u14 with h20 | h20
 ·replace hF := ifP h20 hF
  refine wl_on rfl rfl h20 (wl_field (o := 1) (off' := 1) ff_38_1 rfl rfl rfl (wl_on rfl rfl h20 (wl_load_blk (i := 0) (vs := [(.int .i64 x0.2)]) (v := (.int .i64 x0.2)) tf_3 rfl rfl hS18 rfl rfl rfl (wl_on rfl rfl h20 ?_))))
  obtain ⟨u21, hu21, hF⟩ := bindE hF
  refine wl_call rfl Tryz.call38 (C_impl_within w15 x0.2 0 672 _ hu21) rfl ?_
  rintro _ w22 ⟨rfl, hb23⟩
  refine ⟨_, rfl, ?_⟩
  have hB24 := hB17.trans (hb23.mono hB17.size)
  have hS25 := hS18.below hb23
  refine wl_pick_t rfl rfl h20 rfl (wl_assign rfl rfl (WL.nil ?_))
  exact fun a ha => hJ13 (u21) _ hF hB24 (hS25.sel [] rfl) a (ha.sub ⟨rfl, trivial⟩)
 ·replace hF := ifN h20 hF
  refine wl_off rfl rfl rfl h20 (wl_off rfl rfl rfl h20 (wl_off rfl rfl rfl h20 (wl_pick_f rfl rfl h20 rfl (wl_assign rfl rfl (WL.nil ?_)))))
  exact fun a ha => hJ13 (false) _ hF hB17 (hS18.sel [] rfl) a (ha.sub ⟨rfl, trivial⟩)
theorem C_slices_Index_impl_Spot_impl_Spot (w0 : World) (x0 : (List (Int × Int))) (v0_0 : Value) (h0_0 : rdS ty_38 (· < w0.heap.size) w0 v0_0 x0) (x1 : (Int × Int)) (r : Int) (hF : F_slices_Index_impl_Spot_impl_Spot x0 x1 = some r) :
  Calls Tryz.prog 122 [v0_0, (.agg #[(.int .i64 x1.1), (.int .i64 x1.2)])].toArray w0 fun e w' => e = .returned (.int .i64 r) ∧ Below w0.heap.size w0 w' := by
 refine calls_mk' Tryz.func122 rfl Tryz.ntmps122 rfl rfl fun Q hQ hP => ?_
 have hB : Below w0.heap.size w0 w0 := Below.refl _ _
 have hS : Sep w0.heap.size w0 [] := Sep.nil _ _
 unfold F_slices_Index_impl_Spot_impl_Spot at hF
 refine W.seq fun K1 hK1 => W.region (wl_box (cs := [(.int .i64 x1.1), (.int .i64 x1.2)]) rfl rfl rfl hB hS ?_)
 intro b2 w3 hb4 hB5 hS6
 refine wl_assign rfl rfl (WL.nil (fun a ha => hK1 _ _ (W.seq fun K7 hK7 => (W.seq fun K8 hK8 => (W.region (wl_move rfl rfl (wl_lenr (e := ty_38) (l := x0) Tryz.underlying51 rfl rfl h0_0 (wl_move rfl rfl (WL.nil (fun a ha => hK8 _ _ (W.block (W.loopk (fun m a w9 => ∃ (y12 : Int), St 19 [(0, v0_0), (3, (.pointer (some ⟨b2, 0, none⟩))), (7, (.int .i64 (List.length x0 : Int))), (8, (.int .i64 y12))] a ∧ Below w0.heap.size w0 w9 ∧ Sep w0.heap.size w9 [R.blk b2 38 [(.int .i64 x1.1), (.int .i64 x1.2)]] ∧ F_slices_Index_impl_Spot_impl_Spot_L1 x0 x1 m y12 = some r) FU ?_ ?_)) a ha)))))))) a ha))
 ·
  exact fun a ha => ⟨0, ha.sub ⟨rfl, rfl, rfl, rfl, trivial⟩, hB5, (hS6.sel [0] rfl), hF⟩
 ·
  rintro m15 a w9 ⟨y12, ha, hB10, hS11, hF⟩ KL14 hKL14
  refine W.at ?_ ha
  cases m15 with
  | zero => exact noneE hF
  | succ m15 =>
   obtain ⟨nx13, hnx13⟩ : ∃ k, k = F_slices_Index_impl_Spot_impl_Spot_L1 x0 x1 m15 := ⟨_, rfl⟩
   rw [F_slices_Index_impl_Spot_impl_Spot_L1, ← hnx13] at hF
   refine W.seq fun K16 hK16 => W.region (wl_lss rfl rfl rfl (WL.nil (fun a ha => hK16 _ _ (W.seq fun K17 hK17 => (W.cond rfl (fun h18 => ?_) (fun h18 => ?_))) a ha)))
   ·replace hF := ifP h18 hF
    refine W.skip fun a ha => hK17 _ _ (W.seq fun K19 hK19 => (W.block (W.seq fun K20 hK20 => (W.region (wl_move rfl rfl (wl_assign rfl rfl (WL.nil (fun a ha => hK20 _ _ (W.seq fun K21 hK21 => (W.regionH mixed_ [] hB10 hS11 ?_)) a ha)))))))) a ha
    intro w22 hb23 hB24 hS25
    have hSW26 := KeepX.refl w22 []
    refine WH.tk 0 rfl hP hSW26 (pr_load_blk (i := 0) (vs := [(.int .i64 x1.1), (.int .i64 x1.2)]) (v := (.agg #[(.int .i64 x1.1), (.int .i64 x1.2)])) tf_38 rfl rfl hS25 rfl rfl rfl (by simp) (WH.tk 1 rfl hP hSW26 (pr_move rfl rfl (WH.tk 2 rfl hP hSW26 (pr_move rfl rfl ?_)))))
    obtain ⟨u27, hu27, hF⟩ := bindE hF
    refine WH.tk 3 rfl hP hSW26 (pr_index (e := ty_38) Tryz.underlying51 rfl rfl rfl h0_0 hu27 ?_)
    rintro p28 _ rfl hp29
    refine WH.tk 4 rfl hP hSW26 (pr_load_p (vs := [(.int .i64 u27.1), (.int .i64 u27.2)]) (v := (.agg #[(.int .i64 u27.1), (.int .i64 u27.2)])) tf_38 rfl rfl (hp29.kx hB24 (by simp)) rfl rfl (WH.tk 5 rfl hP hSW26 (pr_eqs Tryz.eqGuardType38 (eq_38 x1 u27) rfl rfl rfl (WH.done (by kernel_rfl) (fun a ha => hK21 _ _ (W.cond rfl (fun h30 => ?_) (fun h30 => ?_)) a ha)))))
    ·replace hF := ifP h30 hF
     refine W.seq fun K31 hK31 => W.region (wl_move rfl rfl (wl_assign rfl rfl (WL.nil (fun a ha => hK31 _ _ (W.ret ?_) a ha))))
     have hr := Option.some.inj hF
     subst hr
     exact rets (vs := [(.int .i64 y12)]) hQ rfl ⟨rv_tmp rfl, trivial⟩ ⟨rfl, hB24⟩
    ·replace hF := ifN h30 hF
     refine W.skip fun a ha => hK19 _ _ (W.region (wl_add rfl rfl rfl (wl_move rfl rfl (WL.nil ?_)))) a ha
     rw [hnx13] at hF
     exact fun a ha => hKL14 a _ m15 (Nat.lt_succ_self m15) ⟨(w64 (y12 + 1)), ha.sub ⟨rfl, rfl, rfl, rfl, trivial⟩, hB24, (hS25.sel [0] rfl), hF⟩
   ·replace hF := ifN h18 hF
    refine W.exit fun a ha => hK7 _ _ (W.seq fun K32 hK32 => (W.region (wl_assign rfl rfl (WL.nil (fun a ha => hK32 _ _ (W.ret ?_) a ha))))) a ha
    have hr := Option.some.inj hF
    subst hr
    exact rets (vs := [(.int .i64 (-1))]) hQ rfl ⟨rv_tmp rfl, trivial⟩ ⟨rfl, hB10⟩
theorem C_slices_Contains_impl_Spot_impl_Spot (w0 : World) (x0 : (List (Int × Int))) (v0_0 : Value) (h0_0 : rdS ty_38 (· < w0.heap.size) w0 v0_0 x0) (x1 : (Int × Int)) (r : Bool) (hF : F_slices_Contains_impl_Spot_impl_Spot x0 x1 = some r) :
  Calls Tryz.prog 110 [v0_0, (.agg #[(.int .i64 x1.1), (.int .i64 x1.2)])].toArray w0 fun e w' => e = .returned (.bool r) ∧ Below w0.heap.size w0 w' := by
 refine calls_mk' Tryz.func110 rfl Tryz.ntmps110 rfl rfl fun Q hQ hP => ?_
 have hB : Below w0.heap.size w0 w0 := Below.refl _ _
 have hS : Sep w0.heap.size w0 [] := Sep.nil _ _
 unfold F_slices_Contains_impl_Spot_impl_Spot at hF
 refine W.seq fun K1 hK1 => W.region (wl_box (cs := [(.int .i64 x1.1), (.int .i64 x1.2)]) rfl rfl rfl hB hS ?_)
 intro b2 w3 hb4 hB5 hS6
 refine wl_assign rfl rfl (WL.nil (fun a ha => hK1 _ _ (W.seq fun K7 hK7 => (W.region (wl_move rfl rfl (wl_load_blk (i := 0) (vs := [(.int .i64 x1.1), (.int .i64 x1.2)]) (v := (.agg #[(.int .i64 x1.1), (.int .i64 x1.2)])) tf_38 rfl rfl hS6 rfl rfl rfl ?_)))) a ha))
 obtain ⟨u8, hu8, hF⟩ := bindE hF
 refine wl_call rfl Tryz.call122 (C_slices_Index_impl_Spot_impl_Spot w3 x0 v0_0 (h0_0.ro hB5) x1 _ hu8) rfl ?_
 rintro _ w9 ⟨rfl, hb10⟩
 refine ⟨_, rfl, ?_⟩
 have hB11 := hB5.trans (hb10.mono hB5.size)
 refine wl_geq rfl rfl rfl (wl_assign rfl rfl (WL.nil (fun a ha => hK7 _ _ (W.ret ?_) a ha)))
 have hr := Option.some.inj hF
 subst hr
 exact rets (vs := [(.bool (decide (0 ≤ u8)))]) hQ rfl ⟨rv_tmp rfl, trivial⟩ ⟨rfl, hB11⟩
theorem C_impl_IsChart (w0 : World) (x0 : (List (Int × Int))) (v0_0 : Value) (h0_0 : rdS ty_38 (· < w0.heap.size) w0 v0_0 x0) (r : Bool) (hF : F_impl_IsChart x0 = some r) :
  Calls Tryz.prog 98 [v0_0].toArray w0 fun e w' => e = .returned (.bool r) ∧ Below w0.heap.size w0 w' := by
 refine calls_mk' Tryz.func98 rfl Tryz.ntmps98 rfl rfl fun Q hQ hP => ?_
 have hB : Below w0.heap.size w0 w0 := Below.refl _ _
 have hS : Sep w0.heap.size w0 [] := Sep.nil _ _
 unfold F_impl_IsChart at hF
 refine W.seq fun K1 hK1 => W.region (wl_assign rfl rfl (WL.nil (fun a ha => hK1 _ _ (W.seq fun K2 hK2 => (W.seq fun K3 hK3 => (W.region (wl_move rfl rfl (wl_lenr (e := ty_38) (l := x0) Tryz.underlying51 rfl rfl h0_0 ?_))))) a ha)))
 obtain ⟨u4, hu4, hF⟩ := bindE hF
 refine wl_call rfl Tryz.call38 (C_impl_within w0 (List.length x0 : Int) 1 12 _ hu4) rfl ?_
 rintro _ w5 ⟨rfl, hb6⟩
 refine ⟨_, rfl, ?_⟩
 have hB7 := hB.trans (hb6.mono hB.size)
 have hS8 := hS.below hb6
 refine wl_not rfl rfl (WL.nil (fun a ha => hK3 _ _ (W.cond rfl (fun h10 => ?_) (fun h10 => ?_)) a ha))
 ·replace hF := ifP h10 hF
  refine W.seq fun K11 hK11 => W.region (wl_assign rfl rfl (WL.nil (fun a ha => hK11 _ _ (W.ret ?_) a ha)))
  have hr := Option.some.inj hF
  subst hr
  exact rets (vs := [(.bool false)]) hQ rfl ⟨rv_tmp rfl, trivial⟩ ⟨rfl, hB7⟩
 ·replace hF := ifN h10 hF
  refine W.skip fun a ha => hK2 _ _ (W.seq fun K12 hK12 => (W.seq fun K13 hK13 => (W.region (wl_move rfl rfl (wl_lenr (e := ty_38) (l := x0) Tryz.underlying51 rfl rfl h0_0 (wl_move rfl rfl (WL.nil (fun a ha => hK13 _ _ (W.block (W.loopk (fun m a w14 => ∃ (y17 : Int), St 27 [(0, v0_0), (9, v0_0), (10, (.int .i64 (List.length x0 : Int))), (11, (.int .i64 y17))] a ∧ Below w0.heap.size w0 w14 ∧ Sep w0.heap.size w14 [] ∧ F_impl_IsChart_L1 x0 m y17 = some r) FU ?_ ?_)) a ha)))))))) a ha
  ·
   exact fun a ha => ⟨0, ha.sub ⟨rfl, rfl, rfl, rfl, trivial⟩, hB7, (hS8.sel [] rfl), hF⟩
  ·
   rintro m20 a w14 ⟨y17, ha, hB15, hS16, hF⟩ KL19 hKL19
   refine W.at ?_ ha
   cases m20 with
   | zero => exact noneE hF
   | succ m20 =>
    obtain ⟨nx18, hnx18⟩ : ∃ k, k = F_impl_IsChart_L1 x0 m20 := ⟨_, rfl⟩
    rw [F_impl_IsChart_L1, ← hnx18] at hF
    refine W.seq fun K21 hK21 => W.region (wl_lss rfl rfl rfl (WL.nil (fun a ha => hK21 _ _ (W.seq fun K22 hK22 => (W.cond rfl (fun h23 => ?_) (fun h23 => ?_))) a ha)))
    ·replace hF := ifP h23 hF
     refine W.skip fun a ha => hK22 _ _ (W.seq fun K24 hK24 => (W.block (W.seq fun K25 hK25 => (W.region (wl_move rfl rfl ?_))))) a ha
     obtain ⟨u26, hu26, hF⟩ := bindE hF
     refine wl_index (e := ty_38) Tryz.underlying51 rfl rfl rfl h0_0 hu26 ?_
     rintro p27 _ rfl hp28
     refine wl_load_p (vs := [(.int .i64 u26.1), (.int .i64 u26.2)]) (v := (.agg #[(.int .i64 u26.1), (.int .i64 u26.2)])) tf_38 rfl rfl (hp28.ro hB15) rfl rfl (wl_alloc (cs := [(.int .i64 0), (.int .i64 0)]) tf_38 rfl rfl hB15 hS16 ?_)
     intro b29 w30 hb31 hB32 hS33
     refine wl_assign rfl rfl (wl_store_blk (i := 0) (vs := [(.int .i64 u26.1), (.int .i64 u26.2)]) (cs' := [(.int .i64 u26.1), (.int .i64 u26.2)]) tf_38 rfl rfl rfl rfl hB32 hS33 rfl rfl ⟨rfl, rfl, trivial⟩ rfl ?_)
     intro w34 hk37 hB35 hS36
     refine WL.nil fun a ha => hK25 _ _ (W.seq fun K38 hK38 => ?_) a ha
     obtain ⟨k43, hk43, hF⟩ := jE1 hF
     have hJ44 : ∀ (y42 : Bool) (w39 : World) (_ : k43 y42 = some r) (_ : Below w0.heap.size w0 w39) (_ : Sep w0.heap.size w39 []), ∀ a, St 27 [(0, v0_0), (9, v0_0), (10, (.int .i64 (List.length x0 : Int))), (11, (.int .i64 y17)), (25, (.bool y42))] a → K38 a w39 := by
      intro y42 w39 hF hB40 hS41
      subst hk43
      refine fun a ha => hK38 _ _ (W.cond rfl (fun h45 => ?_) (fun h45 => ?_)) a ha
      ·replace hF := ifP h45 hF
       refine W.seq fun K46 hK46 => W.region (wl_assign rfl rfl (WL.nil (fun a ha => hK46 _ _ (W.ret ?_) a ha)))
       have hr := Option.some.inj hF
       subst hr
       exact rets (vs := [(.bool false)]) hQ rfl ⟨rv_tmp rfl, trivial⟩ ⟨rfl, hB40⟩
      ·replace hF := ifN h45 hF
       refine W.skip fun a ha => hK24 _ _ (W.region (wl_add rfl rfl rfl (wl_move rfl rfl (WL.nil ?_)))) a ha
       rw [hnx18] at hF
       exact fun a ha => hKL19 a _ m20 (Nat.lt_succ_self m20) ⟨(w64 (y17 + 1)), ha.sub ⟨rfl, rfl, rfl, rfl, trivial⟩, hB40, (hS41.sel [] rfl), hF⟩
     refine W.regionH mixed_ [] hB35 hS36 ?_
     intro w47 hb48 hB49 hS50
     have hSW51 := KeepX.refl w47 []
     refine WH.tk 0 rfl hP hSW51 (pr_load_blk (i := 0) (vs := [(.int .i64 u26.1), (.int .i64 u26.2)]) (v := (.agg #[(.int .i64 u26.1), (.int .i64 u26.2)])) tf_38 rfl rfl hS50 rfl rfl rfl (by simp) (WH.on1 1 rfl ?_))
     obtain ⟨u52, hu52, hF⟩ := bindE hF
     refine wl_call rfl Tryz.call77 (C_impl_IsSpot w47 u26 _ hu52) rfl ?_
     rintro _ w53 ⟨rfl, hb54⟩
     refine ⟨_, rfl, ?_⟩
     have hB55 := hB49.trans (hb54.mono hB49.size)
     have hS56 := hS50.below hb54
     have hSW58 := hSW51.ext hb54
     refine WL.nil (WH.ret hSW58 (WH.tk 2 rfl hP hSW58 (pr_not rfl rfl (WH.tk 3 rfl hP hSW58 (pr_move rfl rfl ?_)))))
     rcases bE (!u52) with h59 | h59
     ·replace hF := ifP h59 hF
      refine WH.off (i := 4) rfl (by kernel_rfl) (by kernel_rfl) (by kernel_rfl) hP rfl rfl h59 rfl hSW58 (WH.off (i := 5) rfl (by kernel_rfl) (by kernel_rfl) (by kernel_rfl) hP rfl rfl h59 rfl hSW58 (WH.off (i := 6) rfl (by kernel_rfl) (by kernel_rfl) (by kernel_rfl) hP rfl rfl h59 rfl hSW58 (WH.off (i := 7) rfl (by kernel_rfl) (by kernel_rfl) (by kernel_rfl) hP rfl rfl h59 rfl hSW58 (WH.off (i := 8) rfl (by kernel_rfl) (by kernel_rfl) (by kernel_rfl) hP rfl rfl h59 rfl hSW58 (WH.tk 9 rfl hP hSW58 (pr_pick_t rfl rfl h59 rfl (WH.done (by kernel_rfl) ?_)))))))
      exact fun a ha => hJ44 (true) _ hF hB55 (hS56.sel [] rfl) a (ha.sub ⟨rfl, rfl, rfl, rfl, rfl, trivial⟩)
     ·replace hF := ifN h59 hF
      refine WH.takexg (i := 4) rfl (by kernel_rfl) (by kernel_rfl) (by kernel_rfl) hP rfl rfl h59 hSW58 (pr_move rfl rfl (WH.takexg (i := 5) rfl (by kernel_rfl) (by kernel_rfl) (by kernel_rfl) hP rfl rfl h59 hSW58 (pr_move rfl rfl ?_)))
      obtain ⟨u60, hu60, hF⟩ := bindE hF
      refine WH.takexg (i := 6) rfl (by kernel_rfl) (by kernel_rfl) (by kernel_rfl) hP rfl rfl h59 hSW58 (pr_slice (e := ty_38) Tryz.underlying51 rfl rfl h0_0 hu60 (.inl ⟨rfl, rfl⟩) (.inr ⟨_, _, rfl, rfl⟩) ?_)
      intro v61 hv62
      refine WH.takexg (i := 7) rfl (by kernel_rfl) (by kernel_rfl) (by kernel_rfl) hP rfl rfl h59 hSW58 (pr_load_blk (i := 0) (vs := [(.int .i64 u26.1), (.int .i64 u26.2)]) (v := (.agg #[(.int .i64 u26.1), (.int .i64 u26.2)])) tf_38 rfl rfl hS50 rfl rfl rfl (by simp) (WH.on1 8 rfl (wl_on rfl rfl h59 ?_)))
      obtain ⟨u63, hu63, hF⟩ := bindE hF
      refine wl_call rfl Tryz.call110 (C_slices_Contains_impl_Spot_impl_Spot w53 u60 v61 (hv62.ro hB55) u26 _ hu63) rfl ?_
      rintro _ w65 ⟨rfl, hb66⟩
      refine ⟨_, rfl, ?_⟩
      have hB67 := hB55.trans (hb66.mono hB55.size)
      have hS68 := hS56.below hb66
      have hSW70 := hSW58.ext hb66
      refine WL.nil (WH.ret hSW70 (WH.tk 9 rfl hP hSW70 (pr_pick_f rfl rfl h59 rfl (WH.done (by kernel_rfl) ?_))))
      exact fun a ha => hJ44 (u63) _ hF hB67 (hS68.sel [] rfl) a (ha.sub ⟨rfl, rfl, rfl, rfl, rfl, trivial⟩)
    ·replace hF := ifN h23 hF
     refine W.exit fun a ha => hK12 _ _ (W.seq fun K71 hK71 => (W.region (wl_assign rfl rfl (WL.nil (fun a ha => hK71 _ _ (W.ret ?_) a ha))))) a ha
     have hr := Option.some.inj hF
     subst hr
     exact rets (vs := [(.bool true)]) hQ rfl ⟨rv_tmp rfl, trivial⟩ ⟨rfl, hB15⟩
theorem C_impl_areCharts (w0 : World) (x0 : (List (List (Int × Int)))) (v0_0 : Value) (h0_0 : rdS ty_51 (· < w0.heap.size) w0 v0_0 x0) (x1 : (List Int)) (v1_0 : Value) (h1_0 : rdS ty_3 (· < w0.heap.size) w0 v1_0 x1) (r : Bool) (hF : F_impl_areCharts x0 x1 = some r) :
  Calls Tryz.prog 67 [v0_0, v1_0].toArray w0 fun e w' => e = .returned (.bool r) ∧ Below w0.heap.size w0 w' := by
 refine calls_mk' Tryz.func67 rfl Tryz.ntmps67 rfl rfl fun Q hQ hP => ?_
 have hB : Below w0.heap.size w0 w0 := Below.refl _ _
 have hS : Sep w0.heap.size w0 [] := Sep.nil _ _
 unfold F_impl_areCharts at hF
 refine W.seq fun K1 hK1 => W.region (wl_assign rfl rfl (WL.nil (fun a ha => hK1 _ _ (W.seq fun K2 hK2 => (W.seq fun K3 hK3 => ?_)) a ha)))
 obtain ⟨k8, hk8, hF⟩ := jE1 hF
 have hJ9 : ∀ (y7 : Bool) (w4 : World) (_ : k8 y7 = some r) (_ : Below w0.heap.size w0 w4) (_ : Sep w0.heap.size w4 []), ∀ a, St 50 [(0, v0_0), (1, v1_0), (20, (.bool y7))] a → K3 a w4 := by
  intro y7 w4 hF hB5 hS6
  subst hk8
  refine fun a ha => hK3 _ _ (W.cond rfl (fun h10 => ?_) (fun h10 => ?_)) a ha
  ·replace hF := ifP h10 hF
   refine W.seq fun K11 hK11 => W.region (wl_assign rfl rfl (WL.nil (fun a ha => hK11 _ _ (W.ret ?_) a ha)))
   have hr := Option.some.inj hF
   subst hr
   exact rets (vs := [(.bool false)]) hQ rfl ⟨rv_tmp rfl, trivial⟩ ⟨rfl, hB5⟩
  ·replace hF := ifN h10 hF
   refine W.skip fun a ha => hK2 _ _ (W.seq fun K12 hK12 => (W.seq fun K13 hK13 => (W.region (wl_move rfl rfl (wl_lenr (e := ty_51) (l := x0) Tryz.underlying24 rfl rfl h0_0 (wl_move rfl rfl (WL.nil (fun a ha => hK13 _ _ (W.block (W.loopk (fun m a w14 => ∃ (y17 : Int), St 50 [(0, v0_0), (1, v1_0), (21, v0_0), (22, (.int .i64 (List.length x0 : Int))), (23, (.int .i64 y17))] a ∧ Below w0.heap.size w0 w14 ∧ Sep w0.heap.size w14 [] ∧ F_impl_areCharts_L1 x0 x1 m y17 = some r) FU ?_ ?_)) a ha)))))))) a ha
   ·
    exact fun a ha => ⟨0, ha.sub ⟨rfl, rfl, rfl, rfl, rfl, trivial⟩, hB5, (hS6.sel [] rfl), hF⟩
   ·
    rintro m20 a w14 ⟨y17, ha, hB15, hS16, hF⟩ KL19 hKL19
    refine W.at ?_ ha
    cases m20 with
    | zero => exact noneE hF
    | succ m20 =>
     obtain ⟨nx18, hnx18⟩ : ∃ k, k = F_impl_areCharts_L1 x0 x1 m20 := ⟨_, rfl⟩
     rw [F_impl_areCharts_L1, ← hnx18] at hF
     refine W.seq fun K21 hK21 => W.region (wl_lss rfl rfl rfl (WL.nil (fun a ha => hK21 _ _ (W.seq fun K22 hK22 => (W.cond rfl (fun h23 => ?_) (fun h23 => ?_))) a ha)))
     ·replace hF := ifP h23 hF
      refine W.skip fun a ha => hK22 _ _ (W.seq fun K24 hK24 => (W.block (W.seq fun K25 hK25 => (W.region ?_)))) a ha
      obtain ⟨u26, hu26, hF⟩ := bindE hF
      refine wl_index (e := ty_51) Tryz.underlying24 rfl rfl rfl h0_0 hu26 ?_
      rintro p27 _ ⟨v29, rfl, hv30⟩ hp28
      refine wl_load_p (vs := [v29]) (v := v29) tf_51 rfl rfl (hp28.ro hB15) rfl rfl (wl_assign rfl rfl (WL.nil (fun a ha => hK25 _ _ (W.seq fun K31 hK31 => ?_) a ha)))
      obtain ⟨k36, hk36, hF⟩ := jE1 hF
      have hJ37 : ∀ (y35 : Bool) (w32 : World) (_ : k36 y35 = some r) (_ : Below w0.heap.size w0 w32) (_ : Sep w0.heap.size w32 []), ∀ a, St 50 [(0, v0_0), (1, v1_0), (21, v0_0), (22, (.int .i64 (List.length x0 : Int))), (23, (.int .i64 y17)), (38, (.bool y35))] a → K31 a w32 := by
       intro y35 w32 hF hB33 hS34
       subst hk36
       refine fun a ha => hK31 _ _ (W.cond rfl (fun h38 => ?_) (fun h38 => ?_)) a ha
       ·replace hF := ifP h38 hF
        refine W.seq fun K39 hK39 => W.region (wl_assign rfl rfl (WL.nil (fun a ha => hK39 _ _ (W.ret ?_) a ha)))
        have hr := Option.some.inj hF
        subst hr
        exact rets (vs := [(.bool false)]) hQ rfl ⟨rv_tmp rfl, trivial⟩ ⟨rfl, hB33⟩
       ·replace hF := ifN h38 hF
        refine W.skip fun a ha => hK24 _ _ (W.region (wl_add rfl rfl rfl (wl_move rfl rfl (WL.nil ?_)))) a ha
        rw [hnx18] at hF
        exact fun a ha => hKL19 a _ m20 (Nat.lt_succ_self m20) ⟨(w64 (y17 + 1)), ha.sub ⟨rfl, rfl, rfl, rfl, rfl, trivial⟩, hB33, (hS34.sel [] rfl), hF⟩
      refine W.region (wl_move rfl rfl ?_)
      obtain ⟨u40, hu40, hF⟩ := bindE hF
      refine wl_call rfl Tryz.call98 (C_impl_IsChart w14 u26 v29 (hv30.ro hB15) _ hu40) rfl ?_
      rintro _ w41 ⟨rfl, hb42⟩
      refine ⟨_, rfl, ?_⟩
      have hB43 := hB15.trans (hb42.mono hB15.size)
      have hS44 := hS16.below hb42
      refine wl_not rfl rfl (wl_move rfl rfl ?_)
      rcases bE (!u40) with h46 | h46
      ·replace hF := ifP h46 hF
       refine wl_off rfl rfl rfl h46 (wl_off rfl rfl rfl h46 (wl_off rfl rfl rfl h46 (wl_off rfl rfl rfl h46 (wl_off rfl rfl rfl h46 (wl_off rfl rfl rfl h46 (wl_off rfl rfl rfl h46 (wl_pick_t rfl rfl h46 rfl (WL.nil ?_))))))))
       exact fun a ha => hJ37 (true) _ hF hB43 (hS44.sel [] rfl) a (ha.sub ⟨rfl, rfl, rfl, rfl, rfl, rfl, trivial⟩)
      ·replace hF := ifN h46 hF
       refine wl_on rfl rfl h46 (wl_move rfl rfl (wl_on rfl rfl h46 (wl_lenr (e := ty_38) (l := u26) Tryz.underlying51 rfl rfl hv30 (wl_on rfl rfl h46 (wl_move rfl rfl (wl_on rfl rfl h46 ?_))))))
       obtain ⟨u47, hu47, hF⟩ := bindE hF
       refine wl_index (e := ty_51) Tryz.underlying24 rfl rfl rfl h0_0 hu47 ?_
       rintro p48 _ ⟨v50, rfl, hv51⟩ hp49
       refine wl_on rfl rfl h46 (wl_load_p (vs := [v50]) (v := v50) tf_51 rfl rfl (hp49.ro hB43) rfl rfl (wl_on rfl rfl h46 (wl_lenr (e := ty_38) (l := u47) Tryz.underlying51 rfl rfl hv51 (wl_on rfl rfl h46 (wl_neq rfl rfl rfl (wl_pick_f rfl rfl h46 rfl (WL.nil ?_)))))))
       exact fun a ha => hJ37 (((List.length u26 : Int) != (List.length u47 : Int))) _ hF hB43 (hS44.sel [] rfl) a (ha.sub ⟨rfl, rfl, rfl, rfl, rfl, rfl, trivial⟩)
     ·replace hF := ifN h23 hF
      refine W.exit fun a ha => hK12 _ _ (W.seq fun K52 hK52 => (W.seq fun K53 hK53 => (W.region (wl_move rfl rfl (wl_lenr (e := ty_3) (l := x1) Tryz.underlying25 rfl rfl h1_0 (wl_move rfl rfl (WL.nil (fun a ha => hK53 _ _ (W.block (W.loopk (fun m a w54 => ∃ (y57 : Int), St 50 [(40, v1_0), (41, (.int .i64 (List.length x1 : Int))), (42, (.int .i64 y57))] a ∧ Below w0.heap.size w0 w54 ∧ Sep w0.heap.size w54 [] ∧ F_impl_areCharts_L2 x1 m y57 = some r) FU ?_ ?_)) a ha)))))))) a ha
      ·
       exact fun a ha => ⟨0, ha.sub ⟨rfl, rfl, rfl, trivial⟩, hB15, (hS16.sel [] rfl), hF⟩
      ·
       rintro m60 a w54 ⟨y57, ha, hB55, hS56, hF⟩ KL59 hKL59
       refine W.at ?_ ha
       cases m60 with
       | zero => exact noneE hF
       | succ m60 =>
        obtain ⟨nx58, hnx58⟩ : ∃ k, k = F_impl_areCharts_L2 x1 m60 := ⟨_, rfl⟩
        rw [F_impl_areCharts_L2, ← hnx58] at hF
        refine W.seq fun K61 hK61 => W.region (wl_lss rfl rfl rfl (WL.nil (fun a ha => hK61 _ _ (W.seq fun K62 hK62 => (W.cond rfl (fun h63 => ?_) (fun h63 => ?_))) a ha)))
        ·replace hF := ifP h63 hF
         refine W.skip fun a ha => hK62 _ _ (W.seq fun K64 hK64 => (W.block (W.seq fun K65 hK65 => (W.region ?_)))) a ha
         obtain ⟨u66, hu66, hF⟩ := bindE hF
         refine wl_index (e := ty_3) Tryz.underlying25 rfl rfl rfl h1_0 hu66 ?_
         rintro p67 _ rfl hp68
         refine wl_load_p (vs := [(.int .i64 u66)]) (v := (.int .i64 u66)) tf_3 rfl rfl (hp68.ro hB55) rfl rfl (wl_assign rfl rfl (WL.nil (fun a ha => hK65 _ _ (W.seq fun K69 hK69 => (W.region (wl_move rfl rfl ?_))) a ha)))
         obtain ⟨u70, hu70, hF⟩ := bindE hF
         refine wl_call rfl Tryz.call38 (C_impl_within w54 u66 1 64 _ hu70) rfl ?_
         rintro _ w71 ⟨rfl, hb72⟩
         refine ⟨_, rfl, ?_⟩
         have hB73 := hB55.trans (hb72.mono hB55.size)
         have hS74 := hS56.below hb72
         refine wl_not rfl rfl (WL.nil (fun a ha => hK69 _ _ (W.cond rfl (fun h76 => ?_) (fun h76 => ?_)) a ha))
         ·replace hF := ifP h76 hF
          refine W.seq fun K77 hK77 => W.region (wl_assign rfl rfl (WL.nil (fun a ha => hK77 _ _ (W.ret ?_) a ha)))
          have hr := Option.some.inj hF
          subst hr
          exact rets (vs := [(.bool false)]) hQ rfl ⟨rv_tmp rfl, trivial⟩ ⟨rfl, hB73⟩
         ·replace hF := ifN h76 hF
          refine W.skip fun a ha => hK64 _ _ (W.region (wl_add rfl rfl rfl (wl_move rfl rfl (WL.nil ?_)))) a ha
          rw [hnx58] at hF
          exact fun a ha => hKL59 a _ m60 (Nat.lt_succ_self m60) ⟨(w64 (y57 + 1)), ha.sub ⟨rfl, rfl, rfl, trivial⟩, hB73, (hS74.sel [] rfl), hF⟩
        ·replace hF := ifN h63 hF
         refine W.exit fun a ha => hK52 _ _ (W.seq fun K78 hK78 => (W.region (wl_assign rfl rfl (WL.nil (fun a ha => hK78 _ _ (W.ret ?_) a ha))))) a ha
         have hr := Option.some.inj hF
         subst hr
         exact rets (vs := [(.bool true)]) hQ rfl ⟨rv_tmp rfl, trivial⟩ ⟨rfl, hB55⟩
 refine W.region (wl_move rfl rfl (wl_lenr (e := ty_51) (l := x0) Tryz.underlying24 rfl rfl h0_0 ?_))
 obtain ⟨u79, hu79, hF⟩ := bindE hF
 refine wl_call rfl Tryz.call38 (C_impl_within w0 (List.length x0 : Int) 1 9 _ hu79) rfl ?_
 rintro _ w80 ⟨rfl, hb81⟩
 refine ⟨_, rfl, ?_⟩
 have hB82 := hB.trans (hb81.mono hB.size)
 have hS83 := hS.below hb81
 refine wl_not rfl rfl (wl_move rfl rfl ?_)
 rcases bE (!u79) with h85 | h85
 ·replace hF := ifP h85 hF
  refine wl_off rfl rfl rfl h85 (wl_off rfl rfl rfl h85 (wl_off rfl rfl rfl h85 (wl_off rfl rfl rfl h85 (wl_off rfl rfl rfl h85 (wl_off rfl rfl rfl h85 (wl_pick_t rfl rfl h85 rfl (WL.nil ?_)))))))
  exact fun a ha => hJ9 (true) _ hF hB82 (hS83.sel [] rfl) a (ha.sub ⟨rfl, rfl, rfl, trivial⟩)
 ·replace hF := ifN h85 hF
  refine wl_on rfl rfl h85 (wl_move rfl rfl (wl_on rfl rfl h85 (wl_lenr (e := ty_3) (l := x1) Tryz.underlying25 rfl rfl h1_0 (wl_on rfl rfl h85 (wl_move rfl rfl (wl_on rfl rfl h85 (wl_lenr (e := ty_51) (l := x0) Tryz.underlying24 rfl rfl h0_0 (wl_on rfl rfl h85 (wl_sub rfl rfl rfl (wl_on rfl rfl h85 (wl_neq rfl rfl rfl (wl_pick_f rfl rfl h85 rfl (WL.nil ?_)))))))))))))
  exact fun a ha => hJ9 (((List.length x1 : Int) != (w64 ((List.length x0 : Int) - 1)))) _ hF hB82 (hS83.sel [] rfl) a (ha.sub ⟨rfl, rfl, rfl, trivial⟩)
theorem C_impl_isLeast (w0 : World) (x0 : Int) (r : Bool) (hF : F_impl_isLeast x0 = some r) :
  Calls Tryz.prog 68 [(.int .i64 x0)].toArray w0 fun e w' => e = .returned (.bool r) ∧ Below w0.heap.size w0 w' := by
 refine calls_mk' Tryz.func68 rfl Tryz.ntmps68 rfl rfl fun Q hQ hP => ?_
 have hB : Below w0.heap.size w0 w0 := Below.refl _ _
 unfold F_impl_isLeast at hF
 refine W.seq fun K1 hK1 => W.region (wl_assign rfl rfl (WL.nil (fun a ha => hK1 _ _ (W.seq fun K2 hK2 => (W.region (wl_move rfl rfl ?_))) a ha)))
 obtain ⟨u3, hu3, hF⟩ := bindE hF
 refine wl_call rfl Tryz.call38 (C_impl_within w0 x0 0 80 _ hu3) rfl ?_
 rintro _ w4 ⟨rfl, hb5⟩
 refine ⟨_, rfl, ?_⟩
 have hB6 := hB.trans (hb5.mono hB.size)
 refine wl_assign rfl rfl (WL.nil (fun a ha => hK2 _ _ (W.ret ?_) a ha))
 have hr := Option.some.inj hF
 subst hr
 exact rets (vs := [(.bool u3)]) hQ rfl ⟨rv_tmp rfl, trivial⟩ ⟨rfl, hB6⟩
theorem C_impl_IsShow (w0 : World) (x0 : ((List (List (Int × Int))) × (List Int) × Int × Int)) (v0_0 : Value) (h0_0 : rdS ty_51 (· < w0.heap.size) w0 v0_0 x0.1) (v0_1 : Value) (h0_1 : rdS ty_3 (· < w0.heap.size) w0 v0_1 x0.2.1) (r : Bool) (hF : F_impl_IsShow x0 = some r) :
  Calls Tryz.prog 27 [(.agg #[v0_0, v0_1, (.int .i64 x0.2.2.1), (.int .i64 x0.2.2.2)])].toArray w0 fun e w' => e = .returned (.bool r) ∧ Below w0.heap.size w0 w' := by
 refine calls_mk' Tryz.func27 rfl Tryz.ntmps27 rfl rfl fun Q hQ hP => ?_
 have hB : Below w0.heap.size w0 w0 := Below.refl _ _
 have hS : Sep w0.heap.size w0 [] := Sep.nil _ _
 unfold F_impl_IsShow at hF
 refine W.seq fun K1 hK1 => W.region (wl_box (cs := [v0_0, v0_1, (.int .i64 x0.2.2.1), (.int .i64 x0.2.2.2)]) rfl rfl rfl hB hS ?_)
 intro b2 w3 hb4 hB5 hS6
 refine wl_assign rfl rfl (WL.nil (fun a ha => hK1 _ _ (W.seq fun K7 hK7 => ?_) a ha))
 obtain ⟨k12, hk12, hF⟩ := jE1 hF
 have hJ13 : ∀ (y11 : Bool) (w8 : World) (_ : k12 y11 = some r) (_ : Below w0.heap.size w0 w8) (_ : Sep w0.heap.size w8 []), ∀ a, St 24 [(2, (.bool y11))] a → K7 a w8 := by
  intro y11 w8 hF hB9 hS10
  subst hk12
  refine fun a ha => hK7 _ _ (W.ret ?_) a ha
  have hr := Option.some.inj hF
  subst hr
  exact rets (vs := [(.bool y11)]) hQ rfl ⟨rv_tmp rfl, trivial⟩ ⟨rfl, hB9⟩
 refine W.region (wl_field (o := 0) (off' := 0) ff_27_0 rfl rfl rfl (wl_load_blk (i := 0) (vs := [v0_0]) (v := v0_0) tf_24 rfl rfl hS6 rfl rfl rfl (wl_lenr (e := ty_51) (l := x0.1) Tryz.underlying24 rfl rfl h0_0 ?_)))
 obtain ⟨u14, hu14, hF⟩ := bindE hF
 refine wl_call rfl Tryz.call38 (C_impl_within w3 (List.length x0.1 : Int) 2 8 _ hu14) rfl ?_
 rintro _ w15 ⟨rfl, hb16⟩
 refine ⟨_, rfl, ?_⟩
 have hB17 := hB5.trans (hb16.mono hB5.size)
 have hS18 := hS6.below hb16
 refine wl_move rfl rfl ?_
 rcases bE u14 with h20 | h20
 ·replace hF := ifP h20 hF
  refine wl_on rfl rfl h20 (wl_field (o := 0) (off' := 0) ff_27_0 rfl rfl rfl (wl_on rfl rfl h20 (wl_load_blk (i := 0) (vs := [v0_0]) (v := v0_0) tf_24 rfl rfl hS18 rfl rfl rfl (wl_on rfl rfl h20 (wl_field (o := 1) (off' := 1) ff_27_1 rfl rfl rfl (wl_on rfl rfl h20 (wl_load_blk (i := 0) (vs := [v0_1]) (v := v0_1) tf_25 rfl rfl hS18 rfl rfl rfl (wl_on rfl rfl h20 ?_))))))))
  obtain ⟨u21, hu21, hF⟩ := bindE hF
  refine wl_call rfl Tryz.call67 (C_impl_areCharts w15 x0.1 v0_0 (h0_0.ro hB17) x0.2.1 v0_1 (h0_1.ro hB17) _ hu21) rfl ?_
  rintro _ w22 ⟨rfl, hb23⟩
  refine ⟨_, rfl, ?_⟩
  have hB24 := hB17.trans (hb23.mono hB17.size)
  have hS25 := hS18.below hb23
  refine wl_pick_t rfl rfl h20 rfl (wl_move rfl rfl ?_)
  rcases bE u21 with h27 | h27
  ·replace hF := ifP h27 hF
   refine wl_on rfl rfl h27 (wl_field (o := 2) (off' := 2) ff_27_2 rfl rfl rfl (wl_on rfl rfl h27 (wl_load_blk (i := 0) (vs := [(.int .i64 x0.2.2.1)]) (v := (.int .i64 x0.2.2.1)) tf_3 rfl rfl hS25 rfl rfl rfl (wl_on rfl rfl h27 ?_))))
   obtain ⟨u28, hu28, hF⟩ := bindE hF
   refine wl_call rfl Tryz.call68 (C_impl_isLeast w22 x0.2.2.1 _ hu28) rfl ?_
   rintro _ w29 ⟨rfl, hb30⟩
   refine ⟨_, rfl, ?_⟩
   have hB31 := hB24.trans (hb30.mono hB24.size)
   have hS32 := hS25.below hb30
   refine wl_pick_t rfl rfl h27 rfl (wl_move rfl rfl ?_)
   rcases bE u28 with h34 | h34
   ·replace hF := ifP h34 hF
    refine wl_on rfl rfl h34 (wl_field (o := 3) (off' := 3) ff_27_3 rfl rfl rfl (wl_on rfl rfl h34 (wl_load_blk (i := 0) (vs := [(.int .i64 x0.2.2.2)]) (v := (.int .i64 x0.2.2.2)) tf_3 rfl rfl hS32 rfl rfl rfl (wl_on rfl rfl h34 ?_))))
    obtain ⟨u35, hu35, hF⟩ := bindE hF
    refine wl_call rfl Tryz.call38 (C_impl_within w29 x0.2.2.2 1 24 _ hu35) rfl ?_
    rintro _ w36 ⟨rfl, hb37⟩
    refine ⟨_, rfl, ?_⟩
    have hB38 := hB31.trans (hb37.mono hB31.size)
    have hS39 := hS32.below hb37
    refine wl_pick_t rfl rfl h34 rfl (wl_assign rfl rfl (WL.nil ?_))
    exact fun a ha => hJ13 (u35) _ hF hB38 (hS39.sel [] rfl) a (ha.sub ⟨rfl, trivial⟩)
   ·replace hF := ifN h34 hF
    refine wl_off rfl rfl rfl h34 (wl_off rfl rfl rfl h34 (wl_off rfl rfl rfl h34 (wl_pick_f rfl rfl h34 rfl (wl_assign rfl rfl (WL.nil ?_)))))
    exact fun a ha => hJ13 (false) _ hF hB31 (hS32.sel [] rfl) a (ha.sub ⟨rfl, trivial⟩)
  ·replace hF := ifN h27 hF
   refine wl_off rfl rfl rfl h27 (wl_off rfl rfl rfl h27 (wl_off rfl rfl rfl h27 (wl_pick_f rfl rfl h27 rfl (wl_move rfl rfl (wl_off rfl rfl rfl rfl (wl_off rfl rfl rfl rfl (wl_off rfl rfl rfl rfl (wl_pick_f rfl rfl rfl rfl (wl_assign rfl rfl (WL.nil ?_))))))))))
   exact fun a ha => hJ13 (false) _ hF hB24 (hS25.sel [] rfl) a (ha.sub ⟨rfl, trivial⟩)
 ·replace hF := ifN h20 hF
  refine wl_off rfl rfl rfl h20 (wl_off rfl rfl rfl h20 (wl_off rfl rfl rfl h20 (wl_off rfl rfl rfl h20 (wl_off rfl rfl rfl h20 (wl_pick_f rfl rfl h20 rfl (wl_move rfl rfl (wl_off rfl rfl rfl rfl (wl_off rfl rfl rfl rfl (wl_off rfl rfl rfl rfl (wl_pick_f rfl rfl rfl rfl (wl_move rfl rfl (wl_off rfl rfl rfl rfl (wl_off rfl rfl rfl rfl ?_)))))))))))))
  refine wl_off rfl rfl rfl rfl (wl_pick_f rfl rfl rfl rfl (wl_assign rfl rfl (WL.nil ?_)))
  exact fun a ha => hJ13 (false) _ hF hB17 (hS18.sel [] rfl) a (ha.sub ⟨rfl, trivial⟩)
theorem C_impl_showMoves (w0 : World) (x0 : ((List (List (Int × Int))) × (List Int) × Int × Int)) (v0_0 : Value) (h0_0 : rdS ty_51 (· < w0.heap.size) w0 v0_0 x0.1) (v0_1 : Value) (h0_1 : rdS ty_3 (· < w0.heap.size) w0 v0_1 x0.2.1) (x1 : Int) (r : (List ((Int × Int) × (Int × Int) × Int))) (hF : F_impl_showMoves x0 x1 = some r) :
  Calls Tryz.prog 34 [(.agg #[v0_0, v0_1, (.int .i64 x0.2.2.1), (.int .i64 x0.2.2.2)]), (.int .i64 x1)].toArray w0 fun e w' => ∃ (q0 : Value) (G0 : List Nat), e = .returned q0 ∧ Below w0.heap.size w0 w' ∧ Sep w0.heap.size w' [R.own ty_40 G0 q0 r] := by
 refine calls_mk' Tryz.func34 rfl Tryz.ntmps34 rfl rfl fun Q hQ hP => ?_
 have hB : Below w0.heap.size w0 w0 := Below.refl _ _
 have hS : Sep w0.heap.size w0 [] := Sep.nil _ _
 unfold F_impl_showMoves at hF
 refine W.seq fun K1 hK1 => W.region (wl_box (cs := [v0_0, v0_1, (.int .i64 x0.2.2.1), (.int .i64 x0.2.2.2)]) rfl rfl rfl hB hS ?_)
 intro b2 w3 hb4 hB5 hS6
 refine wl_assign rfl rfl (WL.nil (fun a ha => hK1 _ _ (W.seq fun K7 hK7 => (W.region (wl_lit (vs := []) (l := []) fl_40 Tryz.underlying33 rfl rfl rfl rfl rfl rfl hB5 hS6 ?_))) a ha))
 intro v8 F9 w10 hb11 hB12 hS13
 refine wl_assign rfl rfl (WL.nil (fun a ha => hK7 _ _ (W.seq fun K14 hK14 => (W.seq fun K15 hK15 => (W.region (wl_field (o := 0) (off' := 0) ff_27_0 rfl rfl rfl (wl_load_blk (i := 1) (vs := [v0_0]) (v := v0_0) tf_24 rfl rfl hS13 rfl rfl rfl (wl_move rfl rfl ?_)))))) a ha))
 obtain ⟨u16, hu16, hF⟩ := bindE hF
 refine wl_index (e := ty_51) Tryz.underlying24 rfl rfl rfl h0_0 hu16 ?_
 rintro p17 _ ⟨v19, rfl, hv20⟩ hp18
 refine wl_load_p (vs := [v19]) (v := v19) tf_51 rfl rfl (hp18.ro hB12) rfl rfl (wl_lenr (e := ty_38) (l := u16) Tryz.underlying51 rfl rfl hv20 (wl_move rfl rfl (WL.nil (fun a ha => hK15 _ _ (W.block (W.loopk (fun m a w21 => ∃ (l24 : (List ((Int × Int) × (Int × Int) × Int))) (y27 : Int) (v25 : Value) (F26 : List Nat), St 41 [(1, (.int .i64 x1)), (2, (.pointer (some ⟨b2, 0, none⟩))), (5, v25), (13, v19), (14, (.int .i64 (List.length u16 : Int))), (15, (.int .i64 y27))] a ∧ Below w0.heap.size w0 w21 ∧ Sep w0.heap.size w21 [R.blk b2 27 [v0_0, v0_1, (.int .i64 x0.2.2.1), (.int .i64 x0.2.2.2)], R.own ty_40 F26 v25 l24] ∧ F_impl_showMoves_L1 u16 x0 x1 m l24 y27 = some r) FU ?_ ?_)) a ha))))
 ·
  exact fun a ha => ⟨[], 0, v8, F9, ha.sub ⟨rfl, rfl, rfl, rfl, rfl, rfl, trivial⟩, hB12, (hS13.sel [1, 0] rfl), hF⟩
 ·
  rintro m30 a w21 ⟨l24, y27, v25, F26, ha, hB22, hS23, hF⟩ KL29 hKL29
  refine W.at ?_ ha
  cases m30 with
  | zero => exact noneE hF
  | succ m30 =>
   obtain ⟨nx28, hnx28⟩ : ∃ k, k = F_impl_showMoves_L1 u16 x0 x1 m30 := ⟨_, rfl⟩
   rw [F_impl_showMoves_L1, ← hnx28] at hF
   refine W.seq fun K31 hK31 => W.region (wl_lss rfl rfl rfl (WL.nil (fun a ha => hK31 _ _ (W.seq fun K32 hK32 => (W.cond rfl (fun h33 => ?_) (fun h33 => ?_))) a ha)))
   ·replace hF := ifP h33 hF
    refine W.skip fun a ha => hK32 _ _ (W.seq fun K34 hK34 => (W.block (W.seq fun K35 hK35 => (W.region (wl_move rfl rfl ?_))))) a ha
    obtain ⟨u36, hu36, hF⟩ := bindE hF
    refine wl_index (e := ty_38) Tryz.underlying51 rfl rfl rfl hv20 hu36 ?_
    rintro p37 _ rfl hp38
    refine wl_load_p (vs := [(.int .i64 u36.1), (.int .i64 u36.2)]) (v := (.agg #[(.int .i64 u36.1), (.int .i64 u36.2)])) tf_38 rfl rfl (hp38.ro hB22) rfl rfl (wl_alloc (cs := [(.int .i64 0), (.int .i64 0)]) tf_38 rfl rfl hB22 hS23 ?_)
    intro b39 w40 hb41 hB42 hS43
    refine wl_assign rfl rfl (wl_store_blk (i := 0) (vs := [(.int .i64 u36.1), (.int .i64 u36.2)]) (cs' := [(.int .i64 u36.1), (.int .i64 u36.2)]) tf_38 rfl rfl rfl rfl hB42 hS43 rfl rfl ⟨rfl, rfl, trivial⟩ rfl ?_)
    intro w44 hk47 hB45 hS46
    refine WL.nil fun a ha => hK35 _ _ (W.regionH mixed_ F26 hB45 hS46 ?_) a ha
    intro w48 hb49 hB50 hS51
    have hSW52 := KeepX.refl w48 F26
    refine WH.tk 0 rfl hP hSW52 (pr_move rfl rfl (WH.tk 1 rfl hP hSW52 (pr_load_blk (i := 0) (vs := [(.int .i64 u36.1), (.int .i64 u36.2)]) (v := (.agg #[(.int .i64 u36.1), (.int .i64 u36.2)])) tf_38 rfl rfl hS51 rfl rfl rfl (hS51.disj (i := 0) (j := 2) rfl rfl rfl b39 (by simp [R.blk])) (WH.tk 2 rfl hP hSW52 (pr_field (o := 0) (off' := 0) ff_27_0 rfl rfl rfl (WH.tk 3 rfl hP hSW52 (pr_load_blk (i := 1) (vs := [v0_0]) (v := v0_0) tf_24 rfl rfl hS51 rfl rfl rfl (hS51.disj (i := 1) (j := 2) rfl rfl rfl b2 (by simp [R.blk])) (WH.tk 4 rfl hP hSW52 (pr_move rfl rfl (WH.tk 5 rfl hP hSW52 (pr_add rfl rfl rfl ?_)))))))))))
    obtain ⟨u53, hu53, hF⟩ := bindE hF
    refine WH.tk 6 rfl hP hSW52 (pr_index (e := ty_51) Tryz.underlying24 rfl rfl rfl h0_0 hu53 ?_)
    rintro p54 _ ⟨v56, rfl, hv57⟩ hp55
    refine WH.tk 7 rfl hP hSW52 (pr_load_p (vs := [v56]) (v := v56) tf_51 rfl rfl (hp55.kx hB50 (fun b hb => (((hS51.get (i := 2) rfl).2.1 b hb).1))) rfl rfl (WH.tk 8 rfl hP hSW52 (pr_move rfl rfl ?_)))
    obtain ⟨u58, hu58, hF⟩ := bindE hF
    refine WH.tk 9 rfl hP hSW52 (pr_index (e := ty_38) Tryz.underlying51 rfl rfl rfl hv57 hu58 ?_)
    rintro p59 _ rfl hp60
    refine WH.tk 10 rfl hP hSW52 (pr_load_p (vs := [(.int .i64 u58.1), (.int .i64 u58.2)]) (v := (.agg #[(.int .i64 u58.1), (.int .i64 u58.2)])) tf_38 rfl rfl (hp60.kx hB50 (fun b hb => (((hS51.get (i := 2) rfl).2.1 b hb).1))) rfl rfl (WH.tk 11 rfl hP hSW52 (pr_field (o := 1) (off' := 1) ff_27_1 rfl rfl rfl (WH.tk 12 rfl hP hSW52 (pr_load_blk (i := 1) (vs := [v0_1]) (v := v0_1) tf_25 rfl rfl hS51 rfl rfl rfl (hS51.disj (i := 1) (j := 2) rfl rfl rfl b2 (by simp [R.blk])) (WH.tk 13 rfl hP hSW52 (pr_move rfl rfl ?_)))))))
    obtain ⟨u61, hu61, hF⟩ := bindE hF
    refine WH.tk 14 rfl hP hSW52 (pr_index (e := ty_3) Tryz.underlying25 rfl rfl rfl h0_1 hu61 ?_)
    rintro p62 _ rfl hp63
    refine WH.tk 15 rfl hP hSW52 (pr_load_p (vs := [(.int .i64 u61)]) (v := (.int .i64 u61)) tf_3 rfl rfl (hp63.kx hB50 (fun b hb => (((hS51.get (i := 2) rfl).2.1 b hb).1))) rfl rfl (WH.tk 16 rfl hP hSW52 (pr_build (zs := [(.int .i64 0), (.int .i64 0), (.int .i64 0), (.int .i64 0), (.int .i64 0)]) (out := [(.int .i64 u36.1), (.int .i64 u36.2), (.int .i64 u58.1), (.int .i64 u58.2), (.int .i64 u61)]) (vs := [(.agg #[(.int .i64 u36.1), (.int .i64 u36.2)]), (.agg #[(.int .i64 u58.1), (.int .i64 u58.2)]), (.int .i64 u61)]) (css := [[(.int .i64 u36.1), (.int .i64 u36.2)], [(.int .i64 u58.1), (.int .i64 u58.2)], [(.int .i64 u61)]]) tf_40 pl_40 rfl rfl rfl rfl rfl (WH.on1 17 rfl ?_))))
    refine wl_lit (vs := [(.agg #[(.int .i64 u36.1), (.int .i64 u36.2), (.int .i64 u58.1), (.int .i64 u58.2), (.int .i64 u61)])]) (l := [(u36, u58, u61)]) fl_40 Tryz.underlying33 rfl rfl rfl rfl rfl rfl (Below.self w48) (Sep.nil _ _) ?_
    intro v64 F65 w66 hb67 hB70 hM71
    have hB68 := hB50.trans (hb67.mono hB50.size)
    have hS69 := hS51.join hb67 hM71 hB50.size
    have hSW73 := hSW52.ext hb67
    refine WL.nil (WH.ret hSW73 (WH.on1 18 rfl ?_))
    obtain ⟨u75, hu75, hF⟩ := bindE hF
    refine wl_append (i := 3) (S := (· < w66.heap.size)) fl_40 Tryz.underlying33 rfl rfl rfl hB68 hS69 rfl (hS69.own_ro (i := 0) rfl) hu75 ?_
    intro v76 F77 w78 hk79 hB80 hS81
    have hSW82 := hSW73.wr' hk79.1 hk79.2.1 (fun _ _ h => h)
    refine WL.nil (WH.ret hSW82 (WH.tk 19 rfl hP hSW82 (pr_assign rfl rfl (WH.done (by kernel_rfl) (fun a ha => hK34 _ _ (W.region (wl_add rfl rfl rfl (wl_move rfl rfl (WL.nil ?_)))) a ha)))))
    rw [hnx28] at hF
    exact fun a ha => hKL29 a _ m30 (Nat.lt_succ_self m30) ⟨u75, (w64 (y27 + 1)), v76, F77, ha.sub ⟨rfl, rfl, rfl, rfl, rfl, rfl, trivial⟩, hB80, (hS81.sel [2, 3] rfl), hF⟩
   ·replace hF := ifN h33 hF
    refine W.exit fun a ha => hK14 _ _ (W.seq fun K84 hK84 => (W.region (wl_move rfl rfl (wl_assign rfl rfl (WL.nil (fun a ha => hK84 _ _ (W.ret ?_) a ha)))))) a ha
    have hr := Option.some.inj hF
    subst hr
    exact rets (vs := [v25]) hQ rfl ⟨rv_tmp rfl, trivial⟩ ⟨v25, F26, rfl, hB22, hS23.sel [1] rfl⟩
theorem C_impl_squareOf (w0 : World) (x0 : (Int × Int)) (x1 : (Int × Int)) (r : Int) (hF : F_impl_squareOf x0 x1 = some r) :
  Calls Tryz.prog 78 [(.agg #[(.int .i64 x0.1), (.int .i64 x0.2)]), (.agg #[(.int .i64 x1.1), (.int .i64 x1.2)])].toArray w0 fun e w' => e = .returned (.int .i64 r) ∧ Below w0.heap.size w0 w' := by
 refine calls_mk' Tryz.func78 rfl Tryz.ntmps78 rfl rfl fun Q hQ hP => ?_
 have hB : Below w0.heap.size w0 w0 := Below.refl _ _
 have hS : Sep w0.heap.size w0 [] := Sep.nil _ _
 unfold F_impl_squareOf at hF
 refine W.seq fun K1 hK1 => W.region (wl_box (cs := [(.int .i64 x0.1), (.int .i64 x0.2)]) rfl rfl rfl hB hS ?_)
 intro b2 w3 hb4 hB5 hS6
 refine wl_box (cs := [(.int .i64 x1.1), (.int .i64 x1.2)]) rfl rfl rfl hB5 hS6 ?_
 intro b7 w8 hb9 hB10 hS11
 refine wl_assign rfl rfl (WL.nil (fun a ha => hK1 _ _ (W.seq fun K12 hK12 => (W.region (wl_field (o := 0) (off' := 0) ff_38_0 rfl rfl rfl (wl_load_blk (i := 1) (vs := [(.int .i64 x0.1)]) (v := (.int .i64 x0.1)) tf_3 rfl rfl hS11 rfl rfl rfl (wl_field (o := 0) (off' := 0) ff_38_0 rfl rfl rfl (wl_load_blk (i := 0) (vs := [(.int .i64 x1.1)]) (v := (.int .i64 x1.1)) tf_3 rfl rfl hS11 rfl rfl rfl (wl_sub rfl rfl rfl (wl_field (o := 0) (off' := 0) ff_38_0 rfl rfl rfl (wl_load_blk (i := 1) (vs := [(.int .i64 x0.1)]) (v := (.int .i64 x0.1)) tf_3 rfl rfl hS11 rfl rfl rfl (wl_field (o := 0) (off' := 0) ff_38_0 rfl rfl rfl (wl_load_blk (i := 0) (vs := [(.int .i64 x1.1)]) (v := (.int .i64 x1.1)) tf_3 rfl rfl hS11 rfl rfl rfl ?_))))))))))) a ha))
 refine wl_sub rfl rfl rfl (wl_mul rfl rfl rfl (wl_field (o := 1) (off' := 1) ff_38_1 rfl rfl rfl (wl_load_blk (i := 1) (vs := [(.int .i64 x0.2)]) (v := (.int .i64 x0.2)) tf_3 rfl rfl hS11 rfl rfl rfl (wl_field (o := 1) (off' := 1) ff_38_1 rfl rfl rfl (wl_load_blk (i := 0) (vs := [(.int .i64 x1.2)]) (v := (.int .i64 x1.2)) tf_3 rfl rfl hS11 rfl rfl rfl (wl_sub rfl rfl rfl (wl_field (o := 1) (off' := 1) ff_38_1 rfl rfl rfl (wl_load_blk (i := 1) (vs := [(.int .i64 x0.2)]) (v := (.int .i64 x0.2)) tf_3 rfl rfl hS11 rfl rfl rfl (wl_field (o := 1) (off' := 1) ff_38_1 rfl rfl rfl (wl_load_blk (i := 0) (vs := [(.int .i64 x1.2)]) (v := (.int .i64 x1.2)) tf_3 rfl rfl hS11 rfl rfl rfl (wl_sub rfl rfl rfl (wl_mul rfl rfl rfl (wl_add rfl rfl rfl ?_)))))))))))))
 refine wl_assign rfl rfl (WL.nil (fun a ha => hK12 _ _ (W.ret ?_) a ha))
 have hr := Option.some.inj hF
 subst hr
 exact rets (vs := [(.int .i64 (w64 ((w64 ((w64 (x0.1 - x1.1)) * (w64 (x0.1 - x1.1)))) + (w64 ((w64 (x0.2 - x1.2)) * (w64 (x0.2 - x1.2)))))))]) hQ rfl ⟨rv_tmp rfl, trivial⟩ ⟨rfl, hB10⟩
theorem C_impl_withinStep (w0 : World) (x0 : ((Int × Int) × (Int × Int) × Int)) (x1 : Int) (r : Bool) (hF : F_impl_withinStep x0 x1 = some r) :
  Calls Tryz.prog 39 [(.agg #[(.int .i64 x0.1.1), (.int .i64 x0.1.2), (.int .i64 x0.2.1.1), (.int .i64 x0.2.1.2), (.int .i64 x0.2.2)]), (.int .i64 x1)].toArray w0 fun e w' => e = .returned (.bool r) ∧ Below w0.heap.size w0 w' := by
 refine calls_mk' Tryz.func39 rfl Tryz.ntmps39 rfl rfl fun Q hQ hP => ?_
 have hB : Below w0.heap.size w0 w0 := Below.refl _ _
 have hS : Sep w0.heap.size w0 [] := Sep.nil _ _
 unfold F_impl_withinStep at hF
 refine W.seq fun K1 hK1 => W.region (wl_box (cs := [(.int .i64 x0.1.1), (.int .i64 x0.1.2), (.int .i64 x0.2.1.1), (.int .i64 x0.2.1.2), (.int .i64 x0.2.2)]) rfl rfl rfl hB hS ?_)
 intro b2 w3 hb4 hB5 hS6
 refine wl_assign rfl rfl (WL.nil (fun a ha => hK1 _ _ (W.seq fun K7 hK7 => (W.regionH mixed_ [] hB5 hS6 ?_)) a ha))
 intro w8 hb9 hB10 hS11
 have hSW12 := KeepX.refl w8 []
 refine WH.tk 0 rfl hP hSW12 (pr_field (o := 0) (off' := 0) ff_40_0 rfl rfl rfl (WH.tk 1 rfl hP hSW12 (pr_load_blk (i := 0) (vs := [(.int .i64 x0.1.1), (.int .i64 x0.1.2)]) (v := (.agg #[(.int .i64 x0.1.1), (.int .i64 x0.1.2)])) tf_38 rfl rfl hS11 rfl rfl rfl (by simp) (WH.tk 2 rfl hP hSW12 (pr_field (o := 2) (off' := 2) ff_40_1 rfl rfl rfl (WH.tk 3 rfl hP hSW12 (pr_load_blk (i := 0) (vs := [(.int .i64 x0.2.1.1), (.int .i64 x0.2.1.2)]) (v := (.agg #[(.int .i64 x0.2.1.1), (.int .i64 x0.2.1.2)])) tf_38 rfl rfl hS11 rfl rfl rfl (by simp) (WH.tk 5 rfl hP hSW12 (pr_move rfl rfl (WH.tk 6 rfl hP hSW12 (pr_move rfl rfl (WH.tk 7 rfl hP hSW12 (pr_mul rfl rfl rfl ?_)))))))))))))
 refine WH.tk 8 rfl hP hSW12 (pr_field (o := 4) (off' := 4) ff_40_2 rfl rfl rfl (WH.tk 9 rfl hP hSW12 (pr_load_blk (i := 0) (vs := [(.int .i64 x0.2.2)]) (v := (.int .i64 x0.2.2)) tf_3 rfl rfl hS11 rfl rfl rfl (by simp) (WH.tk 10 rfl hP hSW12 (pr_mul rfl rfl rfl (WH.tk 11 rfl hP hSW12 (pr_field (o := 4) (off' := 4) ff_40_2 rfl rfl rfl (WH.tk 12 rfl hP hSW12 (pr_load_blk (i := 0) (vs := [(.int .i64 x0.2.2)]) (v := (.int .i64 x0.2.2)) tf_3 rfl rfl hS11 rfl rfl rfl (by simp) (WH.tk 13 rfl hP hSW12 (pr_mul rfl rfl rfl (WH.on1 4 rfl ?_))))))))))))
 obtain ⟨u13, hu13, hF⟩ := bindE hF
 refine wl_call rfl Tryz.call78 (C_impl_squareOf w8 x0.1 x0.2.1 _ hu13) rfl ?_
 rintro _ w14 ⟨rfl, hb15⟩
 refine ⟨_, rfl, ?_⟩
 have hB16 := hB10.trans (hb15.mono hB10.size)
 have hSW19 := hSW12.ext hb15
 refine WL.nil (WH.ret hSW19 (WH.tk 14 rfl hP hSW19 (pr_leq rfl rfl rfl (WH.tk 15 rfl hP hSW19 (pr_assign rfl rfl (WH.done (by kernel_rfl) (fun a ha => hK7 _ _ (W.ret ?_) a ha)))))))
 have hr := Option.some.inj hF
 subst hr
 exact rets (vs := [(.bool (decide (u13 ≤ (w64 ((w64 ((w64 (x1 * x1)) * x0.2.2)) * x0.2.2)))))]) hQ rfl ⟨rv_tmp rfl, trivial⟩ ⟨rfl, hB16⟩
theorem C_impl_wideSteps (w0 : World) (x0 : ((List (List (Int × Int))) × (List Int) × Int × Int)) (v0_0 : Value) (h0_0 : rdS ty_51 (· < w0.heap.size) w0 v0_0 x0.1) (v0_1 : Value) (h0_1 : rdS ty_3 (· < w0.heap.size) w0 v0_1 x0.2.1) (x1 : Int) (r : (List Int)) (hF : F_impl_wideSteps x0 x1 = some r) :
  Calls Tryz.prog 69 [(.agg #[v0_0, v0_1, (.int .i64 x0.2.2.1), (.int .i64 x0.2.2.2)]), (.int .i64 x1)].toArray w0 fun e w' => ∃ (q0 : Value) (G0 : List Nat), e = .returned q0 ∧ Below w0.heap.size w0 w' ∧ Sep w0.heap.size w' [R.own ty_3 G0 q0 r] := by
 refine calls_mk' Tryz.func69 rfl Tryz.ntmps69 rfl rfl fun Q hQ hP => ?_
 have hB : Below w0.heap.size w0 w0 := Below.refl _ _
 have hS : Sep w0.heap.size w0 [] := Sep.nil _ _
 unfold F_impl_wideSteps at hF
 refine W.seq fun K1 hK1 => W.region (wl_box (cs := [v0_0, v0_1, (.int .i64 x0.2.2.1), (.int .i64 x0.2.2.2)]) rfl rfl rfl hB hS ?_)
 intro b2 w3 hb4 hB5 hS6
 refine wl_assign rfl rfl (WL.nil (fun a ha => hK1 _ _ (W.seq fun K7 hK7 => (W.region (wl_lit (vs := []) (l := []) fl_3 Tryz.underlying25 rfl rfl rfl rfl rfl rfl hB5 hS6 ?_))) a ha))
 intro v8 F9 w10 hb11 hB12 hS13
 refine wl_assign rfl rfl (WL.nil (fun a ha => hK7 _ _ (W.seq fun K14 hK14 => (W.seq fun K15 hK15 => (W.region (wl_load_blk (i := 1) (vs := [v0_0, v0_1, (.int .i64 x0.2.2.1), (.int .i64 x0.2.2.2)]) (v := (.agg #[v0_0, v0_1, (.int .i64 x0.2.2.1), (.int .i64 x0.2.2.2)])) tf_27 rfl rfl hS13 rfl rfl rfl (wl_move rfl rfl ?_))))) a ha))
 obtain ⟨u16, hu16, hF⟩ := bindE hF
 refine wl_call rfl Tryz.call34 (C_impl_showMoves w10 x0 v0_0 (h0_0.ro hB12) v0_1 (h0_1.ro hB12) x1 _ hu16) rfl ?_
 rintro _ w19 ⟨v17, F18, rfl, hb20, hM23⟩
 refine ⟨_, rfl, ?_⟩
 have hB21 := hB12.trans (hb20.mono hB12.size)
 have hS22 := hS13.join hb20 hM23 hB12.size
 refine wl_lenr (e := ty_40) (l := u16) Tryz.underlying33 rfl rfl (hS22.own_ro (i := 0) rfl) (wl_move rfl rfl (WL.nil (fun a ha => hK15 _ _ (W.block (W.loopk (fun m a w24 => ∃ (l27 : (List Int)) (y30 : Int) (v28 : Value) (F29 : List Nat), St 29 [(2, (.pointer (some ⟨b2, 0, none⟩))), (5, v28), (11, v17), (12, (.int .i64 (List.length u16 : Int))), (13, (.int .i64 y30))] a ∧ Below w0.heap.size w0 w24 ∧ Sep w0.heap.size w24 [R.blk b2 27 [v0_0, v0_1, (.int .i64 x0.2.2.1), (.int .i64 x0.2.2.2)], R.own ty_3 F29 v28 l27, R.own ty_40 F18 v17 u16] ∧ F_impl_wideSteps_L1 u16 x0 m l27 y30 = some r) FU ?_ ?_)) a ha)))
 ·
  exact fun a ha => ⟨[], 0, v8, F9, ha.sub ⟨rfl, rfl, rfl, rfl, rfl, trivial⟩, hB21, (hS22.sel [2, 1, 0] rfl), hF⟩
 ·
  rintro m33 a w24 ⟨l27, y30, v28, F29, ha, hB25, hS26, hF⟩ KL32 hKL32
  refine W.at ?_ ha
  cases m33 with
  | zero => exact noneE hF
  | succ m33 =>
   obtain ⟨nx31, hnx31⟩ : ∃ k, k = F_impl_wideSteps_L1 u16 x0 m33 := ⟨_, rfl⟩
   rw [F_impl_wideSteps_L1, ← hnx31] at hF
   refine W.seq fun K34 hK34 => W.region (wl_lss rfl rfl rfl (WL.nil (fun a ha => hK34 _ _ (W.seq fun K35 hK35 => (W.cond rfl (fun h36 => ?_) (fun h36 => ?_))) a ha)))
   ·replace hF := ifP h36 hF
    refine W.skip fun a ha => hK35 _ _ (W.seq fun K37 hK37 => ?_) a ha
    obtain ⟨k44, hk44, hF⟩ := jE1 hF
    have hJ45 : ∀ (l41 : (List Int)) (v42 : Value) (F43 : List Nat) (w38 : World) (_ : k44 l41 = some r) (_ : Below w0.heap.size w0 w38) (_ : Sep w0.heap.size w38 [R.blk b2 27 [v0_0, v0_1, (.int .i64 x0.2.2.1), (.int .i64 x0.2.2.2)], R.own ty_3 F43 v42 l41, R.own ty_40 F18 v17 u16]), ∀ a, St 29 [(2, (.pointer (some ⟨b2, 0, none⟩))), (5, v42), (11, v17), (12, (.int .i64 (List.length u16 : Int))), (13, (.int .i64 y30))] a → K37 a w38 := by
     intro l41 v42 F43 w38 hF hB39 hS40
     subst hk44
     refine fun a ha => hK37 _ _ (W.region (wl_add rfl rfl rfl (wl_move rfl rfl (WL.nil ?_)))) a ha
     rw [hnx31] at hF
     exact fun a ha => hKL32 a _ m33 (Nat.lt_succ_self m33) ⟨l41, (w64 (y30 + 1)), v42, F43, ha.sub ⟨rfl, rfl, rfl, rfl, rfl, trivial⟩, hB39, (hS40.sel [0, 1, 2] rfl), hF⟩
    refine W.block (W.seq fun K46 hK46 => (W.region (wl_move rfl rfl ?_)))
    obtain ⟨u47, hu47, hF⟩ := bindE hF
    refine wl_indexo (e := ty_40) (i := 2) Tryz.underlying33 rfl rfl rfl hS26 rfl hu47 ?_
    rintro p48 _ rfl hp49 ho50
    refine wl_load_p (vs := [(.int .i64 u47.1.1), (.int .i64 u47.1.2), (.int .i64 u47.2.1.1), (.int .i64 u47.2.1.2), (.int .i64 u47.2.2)]) (v := (.agg #[(.int .i64 u47.1.1), (.int .i64 u47.1.2), (.int .i64 u47.2.1.1), (.int .i64 u47.2.1.2), (.int .i64 u47.2.2)])) tf_40 rfl rfl hp49 rfl rfl (wl_alloc (cs := [(.int .i64 0), (.int .i64 0), (.int .i64 0), (.int .i64 0), (.int .i64 0)]) tf_40 rfl rfl hB25 hS26 ?_)
    intro b51 w52 hb53 hB54 hS55
    refine wl_assign rfl rfl (wl_store_blk (i := 0) (vs := [(.int .i64 u47.1.1), (.int .i64 u47.1.2), (.int .i64 u47.2.1.1), (.int .i64 u47.2.1.2), (.int .i64 u47.2.2)]) (cs' := [(.int .i64 u47.1.1), (.int .i64 u47.1.2), (.int .i64 u47.2.1.1), (.int .i64 u47.2.1.2), (.int .i64 u47.2.2)]) tf_40 rfl rfl rfl rfl hB54 hS55 rfl rfl ⟨rfl, rfl, rfl, rfl, rfl, trivial⟩ rfl ?_)
    intro w56 hk59 hB57 hS58
    refine WL.nil fun a ha => hK46 _ _ (W.seq fun K60 hK60 => (W.region (wl_load_blk (i := 0) (vs := [(.int .i64 u47.1.1), (.int .i64 u47.1.2), (.int .i64 u47.2.1.1), (.int .i64 u47.2.1.2), (.int .i64 u47.2.2)]) (v := (.agg #[(.int .i64 u47.1.1), (.int .i64 u47.1.2), (.int .i64 u47.2.1.1), (.int .i64 u47.2.1.2), (.int .i64 u47.2.2)])) tf_40 rfl rfl hS58 rfl rfl rfl (wl_field (o := 3) (off' := 3) ff_27_3 rfl rfl rfl (wl_load_blk (i := 1) (vs := [(.int .i64 x0.2.2.2)]) (v := (.int .i64 x0.2.2.2)) tf_3 rfl rfl hS58 rfl rfl rfl ?_))))) a ha
    obtain ⟨u61, hu61, hF⟩ := bindE hF
    refine wl_call rfl Tryz.call39 (C_impl_withinStep w56 u47 x0.2.2.2 _ hu61) rfl ?_
    rintro _ w62 ⟨rfl, hb63⟩
    refine ⟨_, rfl, ?_⟩
    have hB64 := hB57.trans (hb63.mono hB57.size)
    have hS65 := hS58.below hb63
    refine wl_not rfl rfl (WL.nil (fun a ha => hK60 _ _ (W.cond rfl (fun h67 => ?_) (fun h67 => ?_)) a ha))
    ·replace hF := ifP h67 hF
     refine W.region (wl_move rfl rfl (wl_move rfl rfl (wl_lit (vs := [(.int .i64 y30)]) (l := [y30]) fl_3 Tryz.underlying25 rfl rfl rfl rfl rfl rfl hB64 hS65 ?_)))
     intro v68 F69 w70 hb71 hB72 hS73
     obtain ⟨u74, hu74, hF⟩ := bindE hF
     refine wl_append (i := 3) (S := (· < w70.heap.size)) fl_3 Tryz.underlying25 rfl rfl rfl hB72 hS73 rfl (hS73.own_ro (i := 0) rfl) hu74 ?_
     intro v75 F76 w77 hk78 hB79 hS80
     refine wl_assign rfl rfl (WL.nil ?_)
     exact fun a ha => hJ45 (u74) (v75) (F76) _ hF hB79 (hS80.sel [2, 3, 4] rfl) a (ha.sub ⟨rfl, rfl, rfl, rfl, rfl, trivial⟩)
    ·replace hF := ifN h67 hF
     refine W.skip ?_
     exact fun a ha => hJ45 (l27) (v28) (F29) _ hF hB64 (hS65.sel [1, 2, 3] rfl) a (ha.sub ⟨rfl, rfl, rfl, rfl, rfl, trivial⟩)
   ·replace hF := ifN h36 hF
    refine W.exit fun a ha => hK14 _ _ (W.seq fun K81 hK81 => (W.region (wl_move rfl rfl (wl_assign rfl rfl (WL.nil (fun a ha => hK81 _ _ (W.ret ?_) a ha)))))) a ha
    have hr := Option.some.inj hF
    subst hr
    exact rets (vs := [v28]) hQ rfl ⟨rv_tmp rfl, trivial⟩ ⟨v28, F29, rfl, hB25, hS26.sel [1] rfl⟩
theorem C_impl_between (w0 : World) (x0 : ((Int × Int) × (Int × Int) × Int)) (x1 : ((Int × Int) × (Int × Int) × Int)) (r : ((Int × Int) × (Int × Int) × Int × Int)) (hF : F_impl_between x0 x1 = some r) :
  Calls Tryz.prog 79 [(.agg #[(.int .i64 x0.1.1), (.int .i64 x0.1.2), (.int .i64 x0.2.1.1), (.int .i64 x0.2.1.2), (.int .i64 x0.2.2)]), (.agg #[(.int .i64 x1.1.1), (.int .i64 x1.1.2), (.int .i64 x1.2.1.1), (.int .i64 x1.2.1.2), (.int .i64 x1.2.2)])].toArray w0 fun e w' => e = .returned (.tuple #[(.agg #[(.int .i64 r.1.1), (.int .i64 r.1.2)]), (.agg #[(.int .i64 r.2.1.1), (.int .i64 r.2.1.2)]), (.int .i64 r.2.2.1), (.int .i64 r.2.2.2)]) ∧ Below w0.heap.size w0 w' := by
 refine calls_mk' Tryz.func79 rfl Tryz.ntmps79 rfl rfl fun Q hQ hP => ?_
 have hB : Below w0.heap.size w0 w0 := Below.refl _ _
 have hS : Sep w0.heap.size w0 [] := Sep.nil _ _
 unfold F_impl_between at hF
 refine W.seq fun K1 hK1 => W.region (wl_box (cs := [(.int .i64 x0.1.1), (.int .i64 x0.1.2), (.int .i64 x0.2.1.1), (.int .i64 x0.2.1.2), (.int .i64 x0.2.2)]) rfl rfl rfl hB hS ?_)
 intro b2 w3 hb4 hB5 hS6
 refine wl_box (cs := [(.int .i64 x1.1.1), (.int .i64 x1.1.2), (.int .i64 x1.2.1.1), (.int .i64 x1.2.1.2), (.int .i64 x1.2.2)]) rfl rfl rfl hB5 hS6 ?_
 intro b7 w8 hb9 hB10 hS11
 refine wl_alloc (cs := [(.int .i64 0), (.int .i64 0)]) tf_38 rfl rfl hB10 hS11 ?_
 intro b12 w13 hb14 hB15 hS16
 refine wl_alloc (cs := [(.int .i64 0), (.int .i64 0)]) tf_38 rfl rfl hB15 hS16 ?_
 intro b17 w18 hb19 hB20 hS21
 refine wl_assign rfl rfl (wl_assign rfl rfl (WL.nil (fun a ha => hK1 _ _ (W.seq fun K22 hK22 => (W.region (wl_field (o := 0) (off' := 0) ff_40_0 rfl rfl rfl (wl_field (o := 0) (off' := 0) ff_38_0 rfl rfl rfl (wl_load_blk (i := 3) (vs := [(.int .i64 x0.1.1)]) (v := (.int .i64 x0.1.1)) tf_3 rfl rfl hS21 rfl rfl rfl (wl_field (o := 0) (off' := 0) ff_40_0 rfl rfl rfl (wl_field (o := 0) (off' := 0) ff_38_0 rfl rfl rfl (wl_load_blk (i := 2) (vs := [(.int .i64 x1.1.1)]) (v := (.int .i64 x1.1.1)) tf_3 rfl rfl hS21 rfl rfl rfl (wl_sub rfl rfl rfl (wl_field (o := 0) (off' := 0) ff_40_0 rfl rfl rfl ?_)))))))))) a ha)))
 refine wl_field (o := 1) (off' := 1) ff_38_1 rfl rfl rfl (wl_load_blk (i := 3) (vs := [(.int .i64 x0.1.2)]) (v := (.int .i64 x0.1.2)) tf_3 rfl rfl hS21 rfl rfl rfl (wl_field (o := 0) (off' := 0) ff_40_0 rfl rfl rfl (wl_field (o := 1) (off' := 1) ff_38_1 rfl rfl rfl (wl_load_blk (i := 2) (vs := [(.int .i64 x1.1.2)]) (v := (.int .i64 x1.1.2)) tf_3 rfl rfl hS21 rfl rfl rfl (wl_sub rfl rfl rfl (wl_build (zs := [(.int .i64 0), (.int .i64 0)]) (out := [(.int .i64 (w64 (x0.1.1 - x1.1.1))), (.int .i64 (w64 (x0.1.2 - x1.1.2)))]) (vs := [(.int .i64 (w64 (x0.1.1 - x1.1.1))), (.int .i64 (w64 (x0.1.2 - x1.1.2)))]) (css := [[(.int .i64 (w64 (x0.1.1 - x1.1.1)))], [(.int .i64 (w64 (x0.1.2 - x1.1.2)))]]) tf_38 pl_38 rfl rfl rfl rfl rfl (wl_alloc (cs := [(.int .i64 0), (.int .i64 0)]) tf_38 rfl rfl hB20 hS21 ?_)))))))
 intro b23 w24 hb25 hB26 hS27
 refine wl_store_blk (i := 0) (vs := [(.int .i64 (w64 (x0.1.1 - x1.1.1))), (.int .i64 (w64 (x0.1.2 - x1.1.2)))]) (cs' := [(.int .i64 (w64 (x0.1.1 - x1.1.1))), (.int .i64 (w64 (x0.1.2 - x1.1.2)))]) tf_38 rfl rfl rfl rfl hB26 hS27 rfl rfl ⟨rfl, rfl, trivial⟩ rfl ?_
 intro w28 hk31 hB29 hS30
 refine WL.nil fun a ha => hK22 _ _ (W.seq fun K32 hK32 => (W.region (wl_field (o := 2) (off' := 2) ff_40_1 rfl rfl rfl (wl_field (o := 0) (off' := 2) ff_38_0 rfl rfl rfl (wl_load_blk (i := 4) (vs := [(.int .i64 x0.2.1.1)]) (v := (.int .i64 x0.2.1.1)) tf_3 rfl rfl hS30 rfl rfl rfl (wl_field (o := 2) (off' := 2) ff_40_1 rfl rfl rfl (wl_field (o := 0) (off' := 2) ff_38_0 rfl rfl rfl (wl_load_blk (i := 3) (vs := [(.int .i64 x1.2.1.1)]) (v := (.int .i64 x1.2.1.1)) tf_3 rfl rfl hS30 rfl rfl rfl (wl_sub rfl rfl rfl (wl_field (o := 0) (off' := 0) ff_38_0 rfl rfl rfl (wl_load_blk (i := 0) (vs := [(.int .i64 (w64 (x0.1.1 - x1.1.1)))]) (v := (.int .i64 (w64 (x0.1.1 - x1.1.1)))) tf_3 rfl rfl hS30 rfl rfl rfl (wl_sub rfl rfl rfl ?_)))))))))))) a ha
 refine wl_field (o := 2) (off' := 2) ff_40_1 rfl rfl rfl (wl_field (o := 1) (off' := 3) ff_38_1 rfl rfl rfl (wl_load_blk (i := 4) (vs := [(.int .i64 x0.2.1.2)]) (v := (.int .i64 x0.2.1.2)) tf_3 rfl rfl hS30 rfl rfl rfl (wl_field (o := 2) (off' := 2) ff_40_1 rfl rfl rfl (wl_field (o := 1) (off' := 3) ff_38_1 rfl rfl rfl (wl_load_blk (i := 3) (vs := [(.int .i64 x1.2.1.2)]) (v := (.int .i64 x1.2.1.2)) tf_3 rfl rfl hS30 rfl rfl rfl (wl_sub rfl rfl rfl (wl_field (o := 1) (off' := 1) ff_38_1 rfl rfl rfl (wl_load_blk (i := 0) (vs := [(.int .i64 (w64 (x0.1.2 - x1.1.2)))]) (v := (.int .i64 (w64 (x0.1.2 - x1.1.2)))) tf_3 rfl rfl hS30 rfl rfl rfl (wl_sub rfl rfl rfl ?_)))))))))
 refine wl_build (zs := [(.int .i64 0), (.int .i64 0)]) (out := [(.int .i64 (w64 ((w64 (x0.2.1.1 - x1.2.1.1)) - (w64 (x0.1.1 - x1.1.1))))), (.int .i64 (w64 ((w64 (x0.2.1.2 - x1.2.1.2)) - (w64 (x0.1.2 - x1.1.2)))))]) (vs := [(.int .i64 (w64 ((w64 (x0.2.1.1 - x1.2.1.1)) - (w64 (x0.1.1 - x1.1.1))))), (.int .i64 (w64 ((w64 (x0.2.1.2 - x1.2.1.2)) - (w64 (x0.1.2 - x1.1.2)))))]) (css := [[(.int .i64 (w64 ((w64 (x0.2.1.1 - x1.2.1.1)) - (w64 (x0.1.1 - x1.1.1)))))], [(.int .i64 (w64 ((w64 (x0.2.1.2 - x1.2.1.2)) - (w64 (x0.1.2 - x1.1.2)))))]]) tf_38 pl_38 rfl rfl rfl rfl rfl (wl_alloc (cs := [(.int .i64 0), (.int .i64 0)]) tf_38 rfl rfl hB29 hS30 ?_)
 intro b33 w34 hb35 hB36 hS37
 refine wl_store_blk (i := 0) (vs := [(.int .i64 (w64 ((w64 (x0.2.1.1 - x1.2.1.1)) - (w64 (x0.1.1 - x1.1.1))))), (.int .i64 (w64 ((w64 (x0.2.1.2 - x1.2.1.2)) - (w64 (x0.1.2 - x1.1.2)))))]) (cs' := [(.int .i64 (w64 ((w64 (x0.2.1.1 - x1.2.1.1)) - (w64 (x0.1.1 - x1.1.1))))), (.int .i64 (w64 ((w64 (x0.2.1.2 - x1.2.1.2)) - (w64 (x0.1.2 - x1.1.2)))))]) tf_38 rfl rfl rfl rfl hB36 hS37 rfl rfl ⟨rfl, rfl, trivial⟩ rfl ?_
 intro w38 hk41 hB39 hS40
 refine WL.nil fun a ha => hK32 _ _ (W.seq fun K42 hK42 => (W.regionH mixed_ ([b17] ++ [b12]) hB39 hS40 ?_)) a ha
 intro w43 hb44 hB45 hS46
 have hSW47 := KeepX.refl w43 ([b17] ++ [b12])
 refine WH.tk 0 rfl hP hSW47 (pr_load_blk (i := 1) (vs := [(.int .i64 (w64 (x0.1.1 - x1.1.1))), (.int .i64 (w64 (x0.1.2 - x1.1.2)))]) (v := (.agg #[(.int .i64 (w64 (x0.1.1 - x1.1.1))), (.int .i64 (w64 (x0.1.2 - x1.1.2)))])) tf_38 rfl rfl hS46 rfl rfl rfl (fun hb => (List.mem_append.1 hb).elim (hS46.disj (i := 1) (j := 2) rfl rfl rfl b23 (by simp [R.blk])) (hS46.disj (i := 1) (j := 3) rfl rfl rfl b23 (by simp [R.blk]))) (WH.tk 1 rfl hP hSW47 ?_))
 refine pr_load_blk (i := 0) (vs := [(.int .i64 (w64 ((w64 (x0.2.1.1 - x1.2.1.1)) - (w64 (x0.1.1 - x1.1.1))))), (.int .i64 (w64 ((w64 (x0.2.1.2 - x1.2.1.2)) - (w64 (x0.1.2 - x1.1.2)))))]) (v := (.agg #[(.int .i64 (w64 ((w64 (x0.2.1.1 - x1.2.1.1)) - (w64 (x0.1.1 - x1.1.1))))), (.int .i64 (w64 ((w64 (x0.2.1.2 - x1.2.1.2)) - (w64 (x0.1.2 - x1.1.2)))))])) tf_38 rfl rfl hS46 rfl rfl rfl (fun hb => (List.mem_append.1 hb).elim (hS46.disj (i := 0) (j := 2) rfl rfl rfl b33 (by simp [R.blk])) (hS46.disj (i := 0) (j := 3) rfl rfl rfl b33 (by simp [R.blk]))) (WH.tk 2 rfl hP hSW47 (pr_field (o := 0) (off' := 0) ff_38_0 rfl rfl rfl (WH.tk 3 rfl hP hSW47 ?_)))
 refine pr_load_blk (i := 1) (vs := [(.int .i64 (w64 (x0.1.1 - x1.1.1)))]) (v := (.int .i64 (w64 (x0.1.1 - x1.1.1)))) tf_3 rfl rfl hS46 rfl rfl rfl (fun hb => (List.mem_append.1 hb).elim (hS46.disj (i := 1) (j := 2) rfl rfl rfl b23 (by simp [R.blk])) (hS46.disj (i := 1) (j := 3) rfl rfl rfl b23 (by simp [R.blk]))) (WH.tk 4 rfl hP hSW47 (pr_field (o := 0) (off' := 0) ff_38_0 rfl rfl rfl (WH.tk 5 rfl hP hSW47 (pr_load_blk (i := 0) (vs := [(.int .i64 (w64 ((w64 (x0.2.1.1 - x1.2.1.1)) - (w64 (x0.1.1 - x1.1.1)))))]) (v := (.int .i64 (w64 ((w64 (x0.2.1.1 - x1.2.1.1)) - (w64 (x0.1.1 - x1.1.1)))))) tf_3 rfl rfl hS46 rfl rfl rfl (fun hb => (List.mem_append.1 hb).elim (hS46.disj (i := 0) (j := 2) rfl rfl rfl b33 (by simp [R.blk])) (hS46.disj (i := 0) (j := 3) rfl rfl rfl b33 (by simp [R.blk]))) (WH.tk 6 rfl hP hSW47 (pr_mul rfl rfl rfl (WH.tk 7 rfl hP hSW47 ?_)))))))
 refine pr_field (o := 1) (off' := 1) ff_38_1 rfl rfl rfl (WH.tk 8 rfl hP hSW47 (pr_load_blk (i := 1) (vs := [(.int .i64 (w64 (x0.1.2 - x1.1.2)))]) (v := (.int .i64 (w64 (x0.1.2 - x1.1.2)))) tf_3 rfl rfl hS46 rfl rfl rfl (fun hb => (List.mem_append.1 hb).elim (hS46.disj (i := 1) (j := 2) rfl rfl rfl b23 (by simp [R.blk])) (hS46.disj (i := 1) (j := 3) rfl rfl rfl b23 (by simp [R.blk]))) (WH.tk 9 rfl hP hSW47 (pr_field (o := 1) (off' := 1) ff_38_1 rfl rfl rfl (WH.tk 10 rfl hP hSW47 (pr_load_blk (i := 0) (vs := [(.int .i64 (w64 ((w64 (x0.2.1.2 - x1.2.1.2)) - (w64 (x0.1.2 - x1.1.2)))))]) (v := (.int .i64 (w64 ((w64 (x0.2.1.2 - x1.2.1.2)) - (w64 (x0.1.2 - x1.1.2)))))) tf_3 rfl rfl hS46 rfl rfl rfl (fun hb => (List.mem_append.1 hb).elim (hS46.disj (i := 0) (j := 2) rfl rfl rfl b33 (by simp [R.blk])) (hS46.disj (i := 0) (j := 3) rfl rfl rfl b33 (by simp [R.blk]))) (WH.tk 11 rfl hP hSW47 ?_)))))))
 refine pr_mul rfl rfl rfl (WH.tk 12 rfl hP hSW47 (pr_add rfl rfl rfl (WH.tk 13 rfl hP hSW47 (pr_field (o := 0) (off' := 0) ff_38_0 rfl rfl rfl (WH.tk 14 rfl hP hSW47 (pr_load_blk (i := 0) (vs := [(.int .i64 (w64 ((w64 (x0.2.1.1 - x1.2.1.1)) - (w64 (x0.1.1 - x1.1.1)))))]) (v := (.int .i64 (w64 ((w64 (x0.2.1.1 - x1.2.1.1)) - (w64 (x0.1.1 - x1.1.1)))))) tf_3 rfl rfl hS46 rfl rfl rfl (fun hb => (List.mem_append.1 hb).elim (hS46.disj (i := 0) (j := 2) rfl rfl rfl b33 (by simp [R.blk])) (hS46.disj (i := 0) (j := 3) rfl rfl rfl b33 (by simp [R.blk]))) (WH.tk 15 rfl hP hSW47 (pr_field (o := 0) (off' := 0) ff_38_0 rfl rfl rfl (WH.tk 16 rfl hP hSW47 ?_)))))))))
 refine pr_load_blk (i := 0) (vs := [(.int .i64 (w64 ((w64 (x0.2.1.1 - x1.2.1.1)) - (w64 (x0.1.1 - x1.1.1)))))]) (v := (.int .i64 (w64 ((w64 (x0.2.1.1 - x1.2.1.1)) - (w64 (x0.1.1 - x1.1.1)))))) tf_3 rfl rfl hS46 rfl rfl rfl (fun hb => (List.mem_append.1 hb).elim (hS46.disj (i := 0) (j := 2) rfl rfl rfl b33 (by simp [R.blk])) (hS46.disj (i := 0) (j := 3) rfl rfl rfl b33 (by simp [R.blk]))) (WH.tk 17 rfl hP hSW47 (pr_mul rfl rfl rfl (WH.tk 18 rfl hP hSW47 (pr_field (o := 1) (off' := 1) ff_38_1 rfl rfl rfl (WH.tk 19 rfl hP hSW47 ?_)))))
 refine pr_load_blk (i := 0) (vs := [(.int .i64 (w64 ((w64 (x0.2.1.2 - x1.2.1.2)) - (w64 (x0.1.2 - x1.1.2)))))]) (v := (.int .i64 (w64 ((w64 (x0.2.1.2 - x1.2.1.2)) - (w64 (x0.1.2 - x1.1.2)))))) tf_3 rfl rfl hS46 rfl rfl rfl (fun hb => (List.mem_append.1 hb).elim (hS46.disj (i := 0) (j := 2) rfl rfl rfl b33 (by simp [R.blk])) (hS46.disj (i := 0) (j := 3) rfl rfl rfl b33 (by simp [R.blk]))) (WH.tk 20 rfl hP hSW47 (pr_field (o := 1) (off' := 1) ff_38_1 rfl rfl rfl (WH.tk 21 rfl hP hSW47 (pr_load_blk (i := 0) (vs := [(.int .i64 (w64 ((w64 (x0.2.1.2 - x1.2.1.2)) - (w64 (x0.1.2 - x1.1.2)))))]) (v := (.int .i64 (w64 ((w64 (x0.2.1.2 - x1.2.1.2)) - (w64 (x0.1.2 - x1.1.2)))))) tf_3 rfl rfl hS46 rfl rfl rfl (fun hb => (List.mem_append.1 hb).elim (hS46.disj (i := 0) (j := 2) rfl rfl rfl b33 (by simp [R.blk])) (hS46.disj (i := 0) (j := 3) rfl rfl rfl b33 (by simp [R.blk]))) (WH.tk 22 rfl hP hSW47 ?_)))))
 refine pr_mul rfl rfl rfl (WH.tk 23 rfl hP hSW47 (pr_add rfl rfl rfl (WH.on1 24 rfl (wl_store_blk (i := 3) (vs := [(.int .i64 (w64 (x0.1.1 - x1.1.1))), (.int .i64 (w64 (x0.1.2 - x1.1.2)))]) (cs' := [(.int .i64 (w64 (x0.1.1 - x1.1.1))), (.int .i64 (w64 (x0.1.2 - x1.1.2)))]) tf_38 rfl rfl rfl rfl hB45 hS46 rfl rfl ⟨rfl, rfl, trivial⟩ rfl ?_))))
 intro w48 hk51 hB49 hS50
 have hSW52 := hSW47.wr' hk51.1 hk51.2.1 (fun _ _ h => List.mem_append_right _ h)
 refine WL.nil (WH.ret hSW52 (WH.on1 25 rfl (wl_store_blk (i := 2) (vs := [(.int .i64 (w64 ((w64 (x0.2.1.1 - x1.2.1.1)) - (w64 (x0.1.1 - x1.1.1))))), (.int .i64 (w64 ((w64 (x0.2.1.2 - x1.2.1.2)) - (w64 (x0.1.2 - x1.1.2)))))]) (cs' := [(.int .i64 (w64 ((w64 (x0.2.1.1 - x1.2.1.1)) - (w64 (x0.1.1 - x1.1.1))))), (.int .i64 (w64 ((w64 (x0.2.1.2 - x1.2.1.2)) - (w64 (x0.1.2 - x1.1.2)))))]) tf_38 rfl rfl rfl rfl hB49 hS50 rfl rfl ⟨rfl, rfl, trivial⟩ rfl ?_)))
 intro w54 hk57 hB55 hS56
 have hSW58 := hSW52.wr' hk57.1 hk57.2.1 (fun _ _ h => List.mem_append_left _ (h))
 refine WL.nil (WH.ret hSW58 (WH.tk 26 rfl hP hSW58 (pr_assign rfl rfl (WH.tk 27 rfl hP hSW58 (pr_assign rfl rfl (WH.done (by kernel_rfl) (fun a ha => hK42 _ _ (W.ret ?_) a ha)))))))
 have hr := Option.some.inj hF
 subst hr
 exact rets (vs := [(.agg #[(.int .i64 (w64 (x0.1.1 - x1.1.1))), (.int .i64 (w64 (x0.1.2 - x1.1.2)))]), (.agg #[(.int .i64 (w64 ((w64 (x0.2.1.1 - x1.2.1.1)) - (w64 (x0.1.1 - x1.1.1))))), (.int .i64 (w64 ((w64 (x0.2.1.2 - x1.2.1.2)) - (w64 (x0.1.2 - x1.1.2)))))]), (.int .i64 (w64 ((w64 ((w64 (x0.1.1 - x1.1.1)) * (w64 ((w64 (x0.2.1.1 - x1.2.1.1)) - (w64 (x0.1.1 - x1.1.1)))))) + (w64 ((w64 (x0.1.2 - x1.1.2)) * (w64 ((w64 (x0.2.1.2 - x1.2.1.2)) - (w64 (x0.1.2 - x1.1.2))))))))), (.int .i64 (w64 ((w64 ((w64 ((w64 (x0.2.1.1 - x1.2.1.1)) - (w64 (x0.1.1 - x1.1.1)))) * (w64 ((w64 (x0.2.1.1 - x1.2.1.1)) - (w64 (x0.1.1 - x1.1.1)))))) + (w64 ((w64 ((w64 (x0.2.1.2 - x1.2.1.2)) - (w64 (x0.1.2 - x1.1.2)))) * (w64 ((w64 (x0.2.1.2 - x1.2.1.2)) - (w64 (x0.1.2 - x1.1.2)))))))))]) hQ rfl ⟨rv_cell (i := 3) tf_38 rfl hS56 rfl rfl rfl, rv_cell (i := 2) tf_38 rfl hS56 rfl rfl rfl, rv_tmp rfl, rv_tmp rfl, trivial⟩ ⟨rfl, hB55⟩
theorem C_impl_gcdOf (w0 : World) (x0 : Int) (x1 : Int) (r : Int) (hF : F_impl_gcdOf x0 x1 = some r) :
  Calls Tryz.prog 80 [(.int .i64 x0), (.int .i64 x1)].toArray w0 fun e w' => e = .returned (.int .i64 r) ∧ Below w0.heap.size w0 w' := by
 refine calls_mk' Tryz.func80 rfl Tryz.ntmps80 rfl rfl fun Q hQ hP => ?_
 have hB : Below w0.heap.size w0 w0 := Below.refl _ _
 have hS : Sep w0.heap.size w0 [] := Sep.nil _ _
 unfold F_impl_gcdOf at hF
 refine W.seq fun K1 hK1 => W.region (wl_assign rfl rfl (WL.nil (fun a ha => hK1 _ _ (W.seq fun K2 hK2 => (W.region (wl_move rfl rfl (wl_move rfl rfl (wl_neg rfl rfl (wl_max rfl rfl rfl (wl_move rfl rfl (wl_move rfl rfl (wl_neg rfl rfl ?_))))))))) a ha)))
 refine wl_max rfl rfl rfl (wl_assign rfl rfl (wl_assign rfl rfl (WL.nil (fun a ha => hK2 _ _ (W.seq fun K3 hK3 => (W.block (W.loopk (fun m a w4 => ∃ (y7 : Int) (y8 : Int), St 20 [(0, (.int .i64 y7)), (1, (.int .i64 y8))] a ∧ Below w0.heap.size w0 w4 ∧ Sep w0.heap.size w4 [] ∧ F_impl_gcdOf_L1 m y7 y8 = some r) FU ?_ ?_))) a ha))))
 ·
  exact fun a ha => ⟨(maxI x0 (w64 (0 - x0))), (maxI x1 (w64 (0 - x1))), ha.sub ⟨rfl, rfl, trivial⟩, hB, (hS.sel [] rfl), hF⟩
 ·
  rintro m11 a w4 ⟨y7, y8, ha, hB5, hS6, hF⟩ KL10 hKL10
  refine W.at ?_ ha
  cases m11 with
  | zero => exact noneE hF
  | succ m11 =>
   obtain ⟨nx9, hnx9⟩ : ∃ k, k = F_impl_gcdOf_L1 m11 := ⟨_, rfl⟩
   rw [F_impl_gcdOf_L1, ← hnx9] at hF
   refine W.seq fun K12 hK12 => W.seq fun K13 hK13 => W.region (wl_move rfl rfl (wl_neq rfl rfl rfl (WL.nil (fun a ha => hK13 _ _ (W.cond rfl (fun h14 => ?_) (fun h14 => ?_)) a ha))))
   ·replace hF := ifP h14 hF
    refine W.skip fun a ha => hK12 _ _ (W.block (W.regionH mixed_ [] hB5 hS6 ?_)) a ha
    intro w15 hb16 hB17 hS18
    have hSW19 := KeepX.refl w15 []
    refine WH.tk 0 rfl hP hSW19 (pr_move rfl rfl (WH.tk 1 rfl hP hSW19 (pr_move rfl rfl (WH.tk 2 rfl hP hSW19 (pr_move rfl rfl ?_)))))
    have h20 : y8 ≠ 0 := fun h20 => noneE (ifP h20 hF)
    replace hF := ifNP h20 hF
    refine WH.tk 3 rfl hP hSW19 (pr_rem rfl rfl rfl h20 (WH.tk 4 rfl hP hSW19 (pr_assign rfl rfl (WH.tk 5 rfl hP hSW19 (pr_assign rfl rfl (WH.done (by kernel_rfl) ?_))))))
    rw [hnx9] at hF
    exact fun a ha => hKL10 a _ m11 (Nat.lt_succ_self m11) ⟨y8, (Int.tmod y7 y8), ha.sub ⟨rfl, rfl, trivial⟩, hB17, (hS18.sel [] rfl), hF⟩
   ·replace hF := ifN h14 hF
    refine W.exit fun a ha => hK3 _ _ (W.seq fun K21 hK21 => (W.region (wl_move rfl rfl (wl_assign rfl rfl (WL.nil (fun a ha => hK21 _ _ (W.ret ?_) a ha)))))) a ha
    have hr := Option.some.inj hF
    subst hr
    exact rets (vs := [(.int .i64 y7)]) hQ rfl ⟨rv_tmp rfl, trivial⟩ ⟨rfl, hB5⟩
theorem C_impl_lowestTerms (w0 : World) (x0 : Int) (x1 : Int) (r : (Int × Int)) (hF : F_impl_lowestTerms x0 x1 = some r) :
  Calls Tryz.prog 43 [(.int .i64 x0), (.int .i64 x1)].toArray w0 fun e w' => e = .returned (.tuple #[(.int .i64 r.1), (.int .i64 r.2)]) ∧ Below w0.heap.size w0 w' := by
 refine calls_mk' Tryz.func43 rfl Tryz.ntmps43 rfl rfl fun Q hQ hP => ?_
 have hB : Below w0.heap.size w0 w0 := Below.refl _ _
 have hS : Sep w0.heap.size w0 [] := Sep.nil _ _
 unfold F_impl_lowestTerms at hF
 refine W.seq fun K1 hK1 => W.region (wl_assign rfl rfl (wl_assign rfl rfl (WL.nil (fun a ha => hK1 _ _ (W.seq fun K2 hK2 => (W.region (wl_move rfl rfl (wl_move rfl rfl ?_)))) a ha))))
 obtain ⟨u3, hu3, hF⟩ := bindE hF
 refine wl_call rfl Tryz.call80 (C_impl_gcdOf w0 x0 x1 _ hu3) rfl ?_
 rintro _ w4 ⟨rfl, hb5⟩
 refine ⟨_, rfl, ?_⟩
 have hB6 := hB.trans (hb5.mono hB.size)
 have hS7 := hS.below hb5
 refine wl_assign rfl rfl (WL.nil (fun a ha => hK2 _ _ (W.seq fun K9 hK9 => (W.regionH mixed_ [] hB6 hS7 ?_)) a ha))
 intro w10 hb11 hB12 hS13
 have hSW14 := KeepX.refl w10 []
 refine WH.tk 0 rfl hP hSW14 (pr_move rfl rfl (WH.tk 1 rfl hP hSW14 (pr_move rfl rfl ?_)))
 have h15 : u3 ≠ 0 := fun h15 => noneE (ifP h15 hF)
 replace hF := ifNP h15 hF
 refine WH.tk 2 rfl hP hSW14 (pr_quo rfl rfl rfl h15 (WH.tk 3 rfl hP hSW14 (pr_move rfl rfl (WH.tk 4 rfl hP hSW14 (pr_move rfl rfl ?_)))))
 have h16 : u3 ≠ 0 := fun h16 => noneE (ifP h16 hF)
 replace hF := ifNP h16 hF
 refine WH.tk 5 rfl hP hSW14 (pr_quo rfl rfl rfl h16 (WH.tk 6 rfl hP hSW14 (pr_assign rfl rfl (WH.tk 7 rfl hP hSW14 (pr_assign rfl rfl (WH.done (by kernel_rfl) (fun a ha => hK9 _ _ (W.ret ?_) a ha)))))))
 have hr := Option.some.inj hF
 subst hr
 exact rets (vs := [(.int .i64 (w64 (Int.tdiv x0 u3))), (.int .i64 (w64 (Int.tdiv x1 u3)))]) hQ rfl ⟨rv_tmp rfl, rv_tmp rfl, trivial⟩ ⟨rfl, hB12⟩
theorem C_impl_leastApart (w0 : World) (x0 : ((Int × Int) × (Int × Int) × Int)) (x1 : ((Int × Int) × (Int × Int) × Int)) (r : (Int × Int)) (hF : F_impl_leastApart x0 x1 = some r) :
  Calls Tryz.prog 41 [(.agg #[(.int .i64 x0.1.1), (.int .i64 x0.1.2), (.int .i64 x0.2.1.1), (.int .i64 x0.2.1.2), (.int .i64 x0.2.2)]), (.agg #[(.int .i64 x1.1.1), (.int .i64 x1.1.2), (.int .i64 x1.2.1.1), (.int .i64 x1.2.1.2), (.int .i64 x1.2.2)])].toArray w0 fun e w' => e = .returned (.tuple #[(.int .i64 r.1), (.int .i64 r.2)]) ∧ Below w0.heap.size w0 w' := by
 refine calls_mk' Tryz.func41 rfl Tryz.ntmps41 rfl rfl fun Q hQ hP => ?_
 have hB : Below w0.heap.size w0 w0 := Below.refl _ _
 have hS : Sep w0.heap.size w0 [] := Sep.nil _ _
 unfold F_impl_leastApart at hF
 refine W.seq fun K1 hK1 => W.region (wl_box (cs := [(.int .i64 x0.1.1), (.int .i64 x0.1.2), (.int .i64 x0.2.1.1), (.int .i64 x0.2.1.2), (.int .i64 x0.2.2)]) rfl rfl rfl hB hS ?_)
 intro b2 w3 hb4 hB5 hS6
 refine wl_box (cs := [(.int .i64 x1.1.1), (.int .i64 x1.1.2), (.int .i64 x1.2.1.1), (.int .i64 x1.2.1.2), (.int .i64 x1.2.2)]) rfl rfl rfl hB5 hS6 ?_
 intro b7 w8 hb9 hB10 hS11
 refine wl_assign rfl rfl (wl_assign rfl rfl (WL.nil (fun a ha => hK1 _ _ (W.seq fun K12 hK12 => (W.region (wl_load_blk (i := 1) (vs := [(.int .i64 x0.1.1), (.int .i64 x0.1.2), (.int .i64 x0.2.1.1), (.int .i64 x0.2.1.2), (.int .i64 x0.2.2)]) (v := (.agg #[(.int .i64 x0.1.1), (.int .i64 x0.1.2), (.int .i64 x0.2.1.1), (.int .i64 x0.2.1.2), (.int .i64 x0.2.2)])) tf_40 rfl rfl hS11 rfl rfl rfl (wl_load_blk (i := 0) (vs := [(.int .i64 x1.1.1), (.int .i64 x1.1.2), (.int .i64 x1.2.1.1), (.int .i64 x1.2.1.2), (.int .i64 x1.2.2)]) (v := (.agg #[(.int .i64 x1.1.1), (.int .i64 x1.1.2), (.int .i64 x1.2.1.1), (.int .i64 x1.2.1.2), (.int .i64 x1.2.2)])) tf_40 rfl rfl hS11 rfl rfl rfl ?_)))) a ha)))
 obtain ⟨u13, hu13, hF⟩ := bindE hF
 refine wl_call rfl Tryz.call79 (C_impl_between w8 x0 x1 _ hu13) rfl ?_
 rintro _ w14 ⟨rfl, hb15⟩
 refine ⟨_, rfl, ?_⟩
 have hB16 := hB10.trans (hb15.mono hB10.size)
 have hS17 := hS11.below hb15
 refine wl_move rfl rfl (wl_extract rfl rfl rfl (wl_extract rfl rfl rfl (wl_extract rfl rfl rfl (wl_extract rfl rfl rfl (wl_alloc (cs := [(.int .i64 0), (.int .i64 0)]) tf_38 rfl rfl hB16 hS17 ?_)))))
 intro b19 w20 hb21 hB22 hS23
 refine wl_alloc (cs := [(.int .i64 0), (.int .i64 0)]) tf_38 rfl rfl hB22 hS23 ?_
 intro b24 w25 hb26 hB27 hS28
 refine wl_store_blk (i := 1) (vs := [(.int .i64 u13.1.1), (.int .i64 u13.1.2)]) (cs' := [(.int .i64 u13.1.1), (.int .i64 u13.1.2)]) tf_38 rfl rfl rfl rfl hB27 hS28 rfl rfl ⟨rfl, rfl, trivial⟩ rfl ?_
 intro w29 hk32 hB30 hS31
 refine wl_store_blk (i := 0) (vs := [(.int .i64 u13.2.1.1), (.int .i64 u13.2.1.2)]) (cs' := [(.int .i64 u13.2.1.1), (.int .i64 u13.2.1.2)]) tf_38 rfl rfl rfl rfl hB30 hS31 rfl rfl ⟨rfl, rfl, trivial⟩ rfl ?_
 intro w33 hk36 hB34 hS35
 refine wl_assign rfl rfl (wl_assign rfl rfl (WL.nil (fun a ha => hK12 _ _ (W.seq fun K37 hK37 => (W.block (W.seq fun K38 hK38 => (W.region (wl_move rfl rfl (wl_geq rfl rfl rfl (wl_assign rfl rfl (WL.nil (fun a ha => hK38 _ _ (W.cond rfl (fun h39 => ?_) (fun h39 => ?_)) a ha))))))))) a ha)))
 ·replace hF := ifP h39 hF
  refine W.seq fun K40 hK40 => W.region (wl_field (o := 0) (off' := 0) ff_38_0 rfl rfl rfl (wl_load_blk (i := 1) (vs := [(.int .i64 u13.1.1)]) (v := (.int .i64 u13.1.1)) tf_3 rfl rfl hS35 rfl rfl rfl (wl_field (o := 0) (off' := 0) ff_38_0 rfl rfl rfl (wl_load_blk (i := 1) (vs := [(.int .i64 u13.1.1)]) (v := (.int .i64 u13.1.1)) tf_3 rfl rfl hS35 rfl rfl rfl (wl_mul rfl rfl rfl (wl_field (o := 1) (off' := 1) ff_38_1 rfl rfl rfl (wl_load_blk (i := 1) (vs := [(.int .i64 u13.1.2)]) (v := (.int .i64 u13.1.2)) tf_3 rfl rfl hS35 rfl rfl rfl (wl_field (o := 1) (off' := 1) ff_38_1 rfl rfl rfl (wl_load_blk (i := 1) (vs := [(.int .i64 u13.1.2)]) (v := (.int .i64 u13.1.2)) tf_3 rfl rfl hS35 rfl rfl rfl (wl_mul rfl rfl rfl (wl_add rfl rfl rfl (wl_assign rfl rfl ?_))))))))))))
  refine wl_assign rfl rfl (WL.nil (fun a ha => hK40 _ _ (W.ret ?_) a ha))
  have hr := Option.some.inj hF
  subst hr
  exact rets (vs := [(.int .i64 (w64 ((w64 (u13.1.1 * u13.1.1)) + (w64 (u13.1.2 * u13.1.2))))), (.int .i64 1)]) hQ rfl ⟨rv_tmp rfl, rv_tmp rfl, trivial⟩ ⟨rfl, hB34⟩
 ·replace hF := ifN h39 hF
  refine W.seq fun K41 hK41 => W.region (wl_move rfl rfl (wl_neg rfl rfl (wl_move rfl rfl (wl_geq rfl rfl rfl (wl_assign rfl rfl (WL.nil (fun a ha => hK41 _ _ (W.cond rfl (fun h42 => ?_) (fun h42 => ?_)) a ha)))))))
  ·replace hF := ifP h42 hF
   refine W.seq fun K43 hK43 => W.region (wl_field (o := 2) (off' := 2) ff_40_1 rfl rfl rfl (wl_load_blk (i := 3) (vs := [(.int .i64 x0.2.1.1), (.int .i64 x0.2.1.2)]) (v := (.agg #[(.int .i64 x0.2.1.1), (.int .i64 x0.2.1.2)])) tf_38 rfl rfl hS35 rfl rfl rfl (wl_field (o := 2) (off' := 2) ff_40_1 rfl rfl rfl (wl_load_blk (i := 2) (vs := [(.int .i64 x1.2.1.1), (.int .i64 x1.2.1.2)]) (v := (.agg #[(.int .i64 x1.2.1.1), (.int .i64 x1.2.1.2)])) tf_38 rfl rfl hS35 rfl rfl rfl ?_))))
   obtain ⟨u44, hu44, hF⟩ := bindE hF
   refine wl_call rfl Tryz.call78 (C_impl_squareOf w33 x0.2.1 x1.2.1 _ hu44) rfl ?_
   rintro _ w45 ⟨rfl, hb46⟩
   refine ⟨_, rfl, ?_⟩
   have hB47 := hB34.trans (hb46.mono hB34.size)
   refine wl_assign rfl rfl (wl_assign rfl rfl (WL.nil (fun a ha => hK43 _ _ (W.ret ?_) a ha)))
   have hr := Option.some.inj hF
   subst hr
   exact rets (vs := [(.int .i64 u44), (.int .i64 1)]) hQ rfl ⟨rv_tmp rfl, rv_tmp rfl, trivial⟩ ⟨rfl, hB47⟩
  ·replace hF := ifN h42 hF
   refine W.skip fun a ha => hK37 _ _ (W.seq fun K50 hK50 => (W.region (wl_field (o := 0) (off' := 0) ff_38_0 rfl rfl rfl (wl_load_blk (i := 1) (vs := [(.int .i64 u13.1.1)]) (v := (.int .i64 u13.1.1)) tf_3 rfl rfl hS35 rfl rfl rfl (wl_field (o := 1) (off' := 1) ff_38_1 rfl rfl rfl (wl_load_blk (i := 0) (vs := [(.int .i64 u13.2.1.2)]) (v := (.int .i64 u13.2.1.2)) tf_3 rfl rfl hS35 rfl rfl rfl (wl_mul rfl rfl rfl (wl_field (o := 1) (off' := 1) ff_38_1 rfl rfl rfl (wl_load_blk (i := 1) (vs := [(.int .i64 u13.1.2)]) (v := (.int .i64 u13.1.2)) tf_3 rfl rfl hS35 rfl rfl rfl (wl_field (o := 0) (off' := 0) ff_38_0 rfl rfl rfl (wl_load_blk (i := 0) (vs := [(.int .i64 u13.2.1.1)]) (v := (.int .i64 u13.2.1.1)) tf_3 rfl rfl hS35 rfl rfl rfl (wl_mul rfl rfl rfl ?_)))))))))))) a ha
   refine wl_sub rfl rfl rfl (wl_assign rfl rfl (WL.nil (fun a ha => hK50 _ _ (W.seq fun K51 hK51 => (W.region (wl_move rfl rfl (wl_move rfl rfl (wl_mul rfl rfl rfl (wl_move rfl rfl ?_)))))) a ha)))
   obtain ⟨u52, hu52, hF⟩ := bindE hF
   refine wl_call rfl Tryz.call43 (C_impl_lowestTerms w33 (w64 ((w64 ((w64 (u13.1.1 * u13.2.1.2)) - (w64 (u13.1.2 * u13.2.1.1)))) * (w64 ((w64 (u13.1.1 * u13.2.1.2)) - (w64 (u13.1.2 * u13.2.1.1)))))) u13.2.2.2 _ hu52) rfl ?_
   rintro _ w53 ⟨rfl, hb54⟩
   refine ⟨_, rfl, ?_⟩
   have hB55 := hB34.trans (hb54.mono hB34.size)
   refine wl_extract rfl rfl rfl (wl_extract rfl rfl rfl (wl_assign rfl rfl (wl_assign rfl rfl (WL.nil (fun a ha => hK51 _ _ (W.ret ?_) a ha)))))
   have hr := Option.some.inj hF
   subst hr
   exact rets (vs := [(.int .i64 u52.1), (.int .i64 u52.2)]) hQ rfl ⟨rv_tmp rfl, rv_tmp rfl, trivial⟩ ⟨rfl, hB55⟩
theorem C_impl_stayApart (w0 : World) (x0 : ((Int × Int) × (Int × Int) × Int)) (x1 : ((Int × Int) × (Int × Int) × Int)) (x2 : Int) (r : Bool) (hF : F_impl_stayApart x0 x1 x2 = some r) :
  Calls Tryz.prog 99 [(.agg #[(.int .i64 x0.1.1), (.int .i64 x0.1.2), (.int .i64 x0.2.1.1), (.int .i64 x0.2.1.2), (.int .i64 x0.2.2)]), (.agg #[(.int .i64 x1.1.1), (.int .i64 x1.1.2), (.int .i64 x1.2.1.1), (.int .i64 x1.2.1.2), (.int .i64 x1.2.2)]), (.int .i64 x2)].toArray w0 fun e w' => e = .returned (.bool r) ∧ Below w0.heap.size w0 w' := by
 refine calls_mk' Tryz.func99 rfl Tryz.ntmps99 rfl rfl fun Q hQ hP => ?_
 have hB : Below w0.heap.size w0 w0 := Below.refl _ _
 have hS : Sep w0.heap.size w0 [] := Sep.nil _ _
 unfold F_impl_stayApart at hF
 refine W.seq fun K1 hK1 => W.region (wl_box (cs := [(.int .i64 x0.1.1), (.int .i64 x0.1.2), (.int .i64 x0.2.1.1), (.int .i64 x0.2.1.2), (.int .i64 x0.2.2)]) rfl rfl rfl hB hS ?_)
 intro b2 w3 hb4 hB5 hS6
 refine wl_box (cs := [(.int .i64 x1.1.1), (.int .i64 x1.1.2), (.int .i64 x1.2.1.1), (.int .i64 x1.2.1.2), (.int .i64 x1.2.2)]) rfl rfl rfl hB5 hS6 ?_
 intro b7 w8 hb9 hB10 hS11
 refine wl_assign rfl rfl (WL.nil (fun a ha => hK1 _ _ (W.seq fun K12 hK12 => (W.region (wl_load_blk (i := 1) (vs := [(.int .i64 x0.1.1), (.int .i64 x0.1.2), (.int .i64 x0.2.1.1), (.int .i64 x0.2.1.2), (.int .i64 x0.2.2)]) (v := (.agg #[(.int .i64 x0.1.1), (.int .i64 x0.1.2), (.int .i64 x0.2.1.1), (.int .i64 x0.2.1.2), (.int .i64 x0.2.2)])) tf_40 rfl rfl hS11 rfl rfl rfl (wl_load_blk (i := 0) (vs := [(.int .i64 x1.1.1), (.int .i64 x1.1.2), (.int .i64 x1.2.1.1), (.int .i64 x1.2.1.2), (.int .i64 x1.2.2)]) (v := (.agg #[(.int .i64 x1.1.1), (.int .i64 x1.1.2), (.int .i64 x1.2.1.1), (.int .i64 x1.2.1.2), (.int .i64 x1.2.2)])) tf_40 rfl rfl hS11 rfl rfl rfl ?_)))) a ha))
 obtain ⟨u13, hu13, hF⟩ := bindE hF
 refine wl_call rfl Tryz.call41 (C_impl_leastApart w8 x0 x1 _ hu13) rfl ?_
 rintro _ w14 ⟨rfl, hb15⟩
 refine ⟨_, rfl, ?_⟩
 have hB16 := hB10.trans (hb15.mono hB10.size)
 refine wl_move rfl rfl (wl_extract rfl rfl rfl (wl_extract rfl rfl rfl (wl_assign rfl rfl (wl_assign rfl rfl (WL.nil (fun a ha => hK12 _ _ (W.seq fun K19 hK19 => (W.region (wl_move rfl rfl (wl_move rfl rfl (wl_move rfl rfl (wl_mul rfl rfl rfl (wl_move rfl rfl ?_))))))) a ha))))))
 refine wl_mul rfl rfl rfl (wl_geq rfl rfl rfl (wl_assign rfl rfl (WL.nil (fun a ha => hK19 _ _ (W.ret ?_) a ha))))
 have hr := Option.some.inj hF
 subst hr
 exact rets (vs := [(.bool (decide ((w64 ((w64 (x2 * x2)) * u13.2)) ≤ u13.1)))]) hQ rfl ⟨rv_tmp rfl, trivial⟩ ⟨rfl, hB16⟩
theorem C_impl_pairsTooClose (w0 : World) (x0 : (List ((Int × Int) × (Int × Int) × Int))) (v0_0 : Value) (h0_0 : rdS ty_40 (· < w0.heap.size) w0 v0_0 x0) (x1 : Int) (r : (List (List Int))) (hF : F_impl_pairsTooClose x0 x1 = some r) :
  Calls Tryz.prog 70 [v0_0, (.int .i64 x1)].toArray w0 fun e w' => ∃ (q0 : Value) (G0 : List Nat), e = .returned q0 ∧ Below w0.heap.size w0 w' ∧ Sep w0.heap.size w' [R.own ty_25 G0 q0 r] := by
 refine calls_mk' Tryz.func70 rfl Tryz.ntmps70 rfl rfl fun Q hQ hP => ?_
 have hB : Below w0.heap.size w0 w0 := Below.refl _ _
 have hS : Sep w0.heap.size w0 [] := Sep.nil _ _
 unfold F_impl_pairsTooClose at hF
 refine W.seq fun K1 hK1 => W.region (wl_assign rfl rfl (WL.nil (fun a ha => hK1 _ _ (W.seq fun K2 hK2 => (W.region (wl_lit0 (e := ty_25) Tryz.underlying117 rfl hB hS ?_))) a ha)))
 intro v3 F4 w5 hb6 hB7 hS8
 refine wl_assign rfl rfl (WL.nil (fun a ha => hK2 _ _ (W.seq fun K9 hK9 => (W.seq fun K10 hK10 => (W.region (wl_move rfl rfl (wl_lenr (e := ty_40) (l := x0) Tryz.underlying33 rfl rfl h0_0 (wl_move rfl rfl (WL.nil (fun a ha => hK10 _ _ (W.block (W.loopk (fun m a w11 => ∃ (l14 : (List (List Int))) (y17 : Int) (v15 : Value) (F16 : List Nat), St 41 [(0, v0_0), (1, (.int .i64 x1)), (5, v15), (10, (.int .i64 (List.length x0 : Int))), (11, (.int .i64 y17))] a ∧ Below w0.heap.size w0 w11 ∧ Sep w0.heap.size w11 [R.own ty_25 F16 v15 l14] ∧ F_impl_pairsTooClose_L1 x0 x1 m l14 y17 = some r) FU ?_ ?_)) a ha)))))))) a ha))
 ·
  exact fun a ha => ⟨[], 0, v3, F4, ha.sub ⟨rfl, rfl, rfl, rfl, rfl, trivial⟩, hB7, (hS8.sel [0] rfl), hF⟩
 ·
  rintro m20 a w11 ⟨l14, y17, v15, F16, ha, hB12, hS13, hF⟩ KL19 hKL19
  refine W.at ?_ ha
  cases m20 with
  | zero => exact noneE hF
  | succ m20 =>
   obtain ⟨nx18, hnx18⟩ : ∃ k, k = F_impl_pairsTooClose_L1 x0 x1 m20 := ⟨_, rfl⟩
   rw [F_impl_pairsTooClose_L1, ← hnx18] at hF
   refine W.seq fun K21 hK21 => W.region (wl_lss rfl rfl rfl (WL.nil (fun a ha => hK21 _ _ (W.seq fun K22 hK22 => (W.cond rfl (fun h23 => ?_) (fun h23 => ?_))) a ha)))
   ·replace hF := ifP h23 hF
    refine W.skip fun a ha => hK22 _ _ (W.seq fun K24 hK24 => (W.block (W.seq fun K25 hK25 => (W.region (wl_move rfl rfl (wl_assign rfl rfl (WL.nil (fun a ha => hK25 _ _ (W.seq fun K26 hK26 => (W.region (wl_move rfl rfl (wl_add rfl rfl rfl ?_)))) a ha)))))))) a ha
    refine wl_assign rfl rfl (WL.nil (fun a ha => hK26 _ _ (W.block (W.loopk (fun m a w27 => ∃ (l30 : (List (List Int))) (y33 : Int) (v31 : Value) (F32 : List Nat), St 41 [(0, v0_0), (1, (.int .i64 x1)), (5, v31), (6, (.int .i64 y17)), (7, (.int .i64 y33)), (10, (.int .i64 (List.length x0 : Int))), (11, (.int .i64 y17))] a ∧ Below w0.heap.size w0 w27 ∧ Sep w0.heap.size w27 [R.own ty_25 F32 v31 l30] ∧ F_impl_pairsTooClose_L2 x0 y17 x1 nx18 m l30 y33 = some r) FU ?_ ?_)) a ha))
    ·
     exact fun a ha => ⟨l14, (w64 (y17 + 1)), v15, F16, ha.sub ⟨rfl, rfl, rfl, rfl, rfl, rfl, rfl, trivial⟩, hB12, (hS13.sel [0] rfl), hF⟩
    ·
     rintro m36 a w27 ⟨l30, y33, v31, F32, ha, hB28, hS29, hF⟩ KL35 hKL35
     refine W.at ?_ ha
     cases m36 with
     | zero => exact noneE hF
     | succ m36 =>
      obtain ⟨nx34, hnx34⟩ : ∃ k, k = F_impl_pairsTooClose_L2 x0 y17 x1 nx18 m36 := ⟨_, rfl⟩
      rw [F_impl_pairsTooClose_L2, ← hnx34] at hF
      refine W.seq fun K37 hK37 => W.seq fun K38 hK38 => W.region (wl_move rfl rfl (wl_move rfl rfl (wl_lenr (e := ty_40) (l := x0) Tryz.underlying33 rfl rfl h0_0 (wl_lss rfl rfl rfl (WL.nil (fun a ha => hK38 _ _ (W.cond rfl (fun h39 => ?_) (fun h39 => ?_)) a ha))))))
      ·replace hF := ifP h39 hF
       refine W.skip fun a ha => hK37 _ _ (W.seq fun K40 hK40 => ?_) a ha
       obtain ⟨k47, hk47, hF⟩ := jE1 hF
       have hJ48 : ∀ (l44 : (List (List Int))) (v45 : Value) (F46 : List Nat) (w41 : World) (_ : k47 l44 = some r) (_ : Below w0.heap.size w0 w41) (_ : Sep w0.heap.size w41 [R.own ty_25 F46 v45 l44]), ∀ a, St 41 [(0, v0_0), (1, (.int .i64 x1)), (5, v45), (6, (.int .i64 y17)), (7, (.int .i64 y33)), (10, (.int .i64 (List.length x0 : Int))), (11, (.int .i64 y17))] a → K40 a w41 := by
        intro l44 v45 F46 w41 hF hB42 hS43
        subst hk47
        refine fun a ha => hK40 _ _ (W.region (wl_move rfl rfl (wl_add rfl rfl rfl (wl_assign rfl rfl (WL.nil ?_))))) a ha
        rw [hnx34] at hF
        exact fun a ha => hKL35 a _ m36 (Nat.lt_succ_self m36) ⟨l44, (w64 (y33 + 1)), v45, F46, ha.sub ⟨rfl, rfl, rfl, rfl, rfl, rfl, rfl, trivial⟩, hB42, (hS43.sel [0] rfl), hF⟩
       refine W.block (W.seq fun K49 hK49 => (W.regionH mixed_ [] hB28 hS29 ?_))
       intro w50 hb51 hB52 hS53
       have hSW54 := KeepX.refl w50 []
       refine WH.tk 0 rfl hP hSW54 (pr_move rfl rfl (WH.tk 1 rfl hP hSW54 (pr_move rfl rfl ?_)))
       obtain ⟨u55, hu55, hF⟩ := bindE hF
       refine WH.tk 2 rfl hP hSW54 (pr_index (e := ty_40) Tryz.underlying33 rfl rfl rfl h0_0 hu55 ?_)
       rintro p56 _ rfl hp57
       refine WH.tk 3 rfl hP hSW54 (pr_load_p (vs := [(.int .i64 u55.1.1), (.int .i64 u55.1.2), (.int .i64 u55.2.1.1), (.int .i64 u55.2.1.2), (.int .i64 u55.2.2)]) (v := (.agg #[(.int .i64 u55.1.1), (.int .i64 u55.1.2), (.int .i64 u55.2.1.1), (.int .i64 u55.2.1.2), (.int .i64 u55.2.2)])) tf_40 rfl rfl (hp57.kx hB52 (by simp)) rfl rfl (WH.tk 4 rfl hP hSW54 (pr_move rfl rfl (WH.tk 5 rfl hP hSW54 (pr_move rfl rfl ?_)))))
       obtain ⟨u58, hu58, hF⟩ := bindE hF
       refine WH.tk 6 rfl hP hSW54 (pr_index (e := ty_40) Tryz.underlying33 rfl rfl rfl h0_0 hu58 ?_)
       rintro p59 _ rfl hp60
       refine WH.tk 7 rfl hP hSW54 (pr_load_p (vs := [(.int .i64 u58.1.1), (.int .i64 u58.1.2), (.int .i64 u58.2.1.1), (.int .i64 u58.2.1.2), (.int .i64 u58.2.2)]) (v := (.agg #[(.int .i64 u58.1.1), (.int .i64 u58.1.2), (.int .i64 u58.2.1.1), (.int .i64 u58.2.1.2), (.int .i64 u58.2.2)])) tf_40 rfl rfl (hp60.kx hB52 (by simp)) rfl rfl (WH.tk 8 rfl hP hSW54 (pr_move rfl rfl (WH.on1 9 rfl ?_))))
       obtain ⟨u61, hu61, hF⟩ := bindE hF
       refine wl_call rfl Tryz.call99 (C_impl_stayApart w50 u55 u58 x1 _ hu61) rfl ?_
       rintro _ w62 ⟨rfl, hb63⟩
       refine ⟨_, rfl, ?_⟩
       have hB64 := hB52.trans (hb63.mono hB52.size)
       have hS65 := hS53.below hb63
       have hSW67 := hSW54.ext hb63
       refine WL.nil (WH.ret hSW67 (WH.tk 10 rfl hP hSW67 (pr_not rfl rfl (WH.done (by kernel_rfl) (fun a ha => hK49 _ _ (W.cond rfl (fun h68 => ?_) (fun h68 => ?_)) a ha)))))
       ·replace hF := ifP h68 hF
        refine W.region (wl_move rfl rfl (wl_move rfl rfl (wl_move rfl rfl (wl_lit (vs := [(.int .i64 y17), (.int .i64 y33)]) (l := [y17, y33]) fl_3 Tryz.underlying25 rfl rfl rfl rfl rfl rfl hB64 hS65 ?_))))
        intro v69 F70 w71 hb72 hB73 hS74
        have hq75 := hS74.sel [0, 1] rfl
        have hq76 := hq75.head (r' := R.cel ty_25 F70 [v69] [y17, y33]) (rfl) fun _ h0 => ⟨_, rfl, h0⟩
        refine wl_lit1 (e := ty_25) (vs := [v69]) Tryz.underlying117 rfl rfl (cells_one (hS74.own_ro (i := 0) rfl).one) rfl hB73 hq76 ?_
        intro v77 F78 w79 hb80 hf81 hB82 hS83
        obtain ⟨u84, hu84, hF⟩ := bindE hF
        refine wl_appendn (e := ty_25) Tryz.underlying117 rfl rfl rfl hB82 (hS83.sel [1, 0] rfl) hu84 ?_
        intro v85 F86 w87 hk88 hB89 hS90
        refine wl_assign rfl rfl (WL.nil ?_)
        exact fun a ha => hJ48 (u84) (v85) (F86) _ hF hB89 (hS90.sel [0] rfl) a (ha.sub ⟨rfl, rfl, rfl, rfl, rfl, rfl, rfl, trivial⟩)
       ·replace hF := ifN h68 hF
        refine W.skip ?_
        exact fun a ha => hJ48 (l30) (v31) (F32) _ hF hB64 (hS65.sel [0] rfl) a (ha.sub ⟨rfl, rfl, rfl, rfl, rfl, rfl, rfl, trivial⟩)
      ·replace hF := ifN h39 hF
       refine W.exit fun a ha => hK24 _ _ (W.region (wl_add rfl rfl rfl (wl_move rfl rfl (WL.nil ?_)))) a ha
       rw [hnx18] at hF
       exact fun a ha => hKL19 a _ m20 (Nat.lt_succ_self m20) ⟨l30, (w64 (y17 + 1)), v31, F32, ha.sub ⟨rfl, rfl, rfl, rfl, rfl, trivial⟩, hB28, (hS29.sel [0] rfl), hF⟩
   ·replace hF := ifN h23 hF
    refine W.exit fun a ha => hK9 _ _ (W.seq fun K91 hK91 => (W.region (wl_move rfl rfl (wl_assign rfl rfl (WL.nil (fun a ha => hK91 _ _ (W.ret ?_) a ha)))))) a ha
    have hr := Option.some.inj hF
    subst hr
    exact rets (vs := [v15]) hQ rfl ⟨rv_tmp rfl, trivial⟩ ⟨v15, F16, rfl, hB12, hS13.sel [0] rfl⟩
theorem C_impl_unsafParts (w0 : World) (x0 : ((List (List (Int × Int))) × (List Int) × Int × Int)) (v0_0 : Value) (h0_0 : rdS ty_51 (· < w0.heap.size) w0 v0_0 x0.1) (v0_1 : Value) (h0_1 : rdS ty_3 (· < w0.heap.size) w0 v0_1 x0.2.1) (r : (List Int)) (hF : F_impl_unsafParts x0 = some r) :
  Calls Tryz.prog 28 [(.agg #[v0_0, v0_1, (.int .i64 x0.2.2.1), (.int .i64 x0.2.2.2)])].toArray w0 fun e w' => ∃ (q0 : Value) (G0 : List Nat), e = .returned q0 ∧ Below w0.heap.size w0 w' ∧ Sep w0.heap.size w' [R.own ty_3 G0 q0 r] := by
 refine calls_mk' Tryz.func28 rfl Tryz.ntmps28 rfl rfl fun Q hQ hP => ?_
 have hB : Below w0.heap.size w0 w0 := Below.refl _ _
 have hS : Sep w0.heap.size w0 [] := Sep.nil _ _
 unfold F_impl_unsafParts at hF
 refine W.seq fun K1 hK1 => W.region (wl_box (cs := [v0_0, v0_1, (.int .i64 x0.2.2.1), (.int .i64 x0.2.2.2)]) rfl rfl rfl hB hS ?_)
 intro b2 w3 hb4 hB5 hS6
 refine wl_assign rfl rfl (WL.nil (fun a ha => hK1 _ _ (W.seq fun K7 hK7 => (W.region (wl_lit (vs := []) (l := []) fl_3 Tryz.underlying25 rfl rfl rfl rfl rfl rfl hB5 hS6 ?_))) a ha))
 intro v8 F9 w10 hb11 hB12 hS13
 refine wl_assign rfl rfl (WL.nil (fun a ha => hK7 _ _ (W.seq fun K14 hK14 => (W.seq fun K15 hK15 => (W.region (wl_field (o := 1) (off' := 1) ff_27_1 rfl rfl rfl (wl_load_blk (i := 1) (vs := [v0_1]) (v := v0_1) tf_25 rfl rfl hS13 rfl rfl rfl (wl_lenr (e := ty_3) (l := x0.2.1) Tryz.underlying25 rfl rfl h0_1 (wl_move rfl rfl (WL.nil (fun a ha => hK15 _ _ (W.block (W.loopk (fun m a w16 => ∃ (l19 : (List Int)) (y22 : Int) (v20 : Value) (F21 : List Nat), St 33 [(1, (.pointer (some ⟨b2, 0, none⟩))), (3, v20), (8, (.int .i64 (List.length x0.2.1 : Int))), (9, (.int .i64 y22))] a ∧ Below w0.heap.size w0 w16 ∧ Sep w0.heap.size w16 [R.blk b2 27 [v0_0, v0_1, (.int .i64 x0.2.2.1), (.int .i64 x0.2.2.2)], R.own ty_3 F21 v20 l19] ∧ F_impl_unsafParts_L1 x0 m l19 y22 = some r) FU ?_ ?_)) a ha))))))))) a ha))
 ·
  exact fun a ha => ⟨[], 0, v8, F9, ha.sub ⟨rfl, rfl, rfl, rfl, trivial⟩, hB12, (hS13.sel [1, 0] rfl), hF⟩
 ·
  rintro m25 a w16 ⟨l19, y22, v20, F21, ha, hB17, hS18, hF⟩ KL24 hKL24
  refine W.at ?_ ha
  cases m25 with
  | zero => exact noneE hF
  | succ m25 =>
   obtain ⟨nx23, hnx23⟩ : ∃ k, k = F_impl_unsafParts_L1 x0 m25 := ⟨_, rfl⟩
   rw [F_impl_unsafParts_L1, ← hnx23] at hF
   refine W.seq fun K26 hK26 => W.region (wl_lss rfl rfl rfl (WL.nil (fun a ha => hK26 _ _ (W.seq fun K27 hK27 => (W.cond rfl (fun h28 => ?_) (fun h28 => ?_))) a ha)))
   ·replace hF := ifP h28 hF
    refine W.skip fun a ha => hK27 _ _ (W.seq fun K29 hK29 => ?_) a ha
    obtain ⟨k36, hk36, hF⟩ := jE1 hF
    have hJ37 : ∀ (l33 : (List Int)) (v34 : Value) (F35 : List Nat) (w30 : World) (_ : k36 l33 = some r) (_ : Below w0.heap.size w0 w30) (_ : Sep w0.heap.size w30 [R.blk b2 27 [v0_0, v0_1, (.int .i64 x0.2.2.1), (.int .i64 x0.2.2.2)], R.own ty_3 F35 v34 l33]), ∀ a, St 33 [(1, (.pointer (some ⟨b2, 0, none⟩))), (3, v34), (8, (.int .i64 (List.length x0.2.1 : Int))), (9, (.int .i64 y22))] a → K29 a w30 := by
     intro l33 v34 F35 w30 hF hB31 hS32
     subst hk36
     refine fun a ha => hK29 _ _ (W.region (wl_add rfl rfl rfl (wl_move rfl rfl (WL.nil ?_)))) a ha
     rw [hnx23] at hF
     exact fun a ha => hKL24 a _ m25 (Nat.lt_succ_self m25) ⟨l33, (w64 (y22 + 1)), v34, F35, ha.sub ⟨rfl, rfl, rfl, rfl, trivial⟩, hB31, (hS32.sel [0, 1] rfl), hF⟩
    refine W.block (W.seq fun K38 hK38 => (W.region (wl_move rfl rfl (wl_assign rfl rfl (WL.nil (fun a ha => hK38 _ _ (W.seq fun K39 hK39 => ?_) a ha))))))
    obtain ⟨k44, hk44, hF⟩ := jE1 hF
    have hJ45 : ∀ (y43 : Bool) (w40 : World) (_ : k44 y43 = some r) (_ : Below w0.heap.size w0 w40) (_ : Sep w0.heap.size w40 [R.blk b2 27 [v0_0, v0_1, (.int .i64 x0.2.2.1), (.int .i64 x0.2.2.2)], R.own ty_3 F21 v20 l19]), ∀ a, St 33 [(1, (.pointer (some ⟨b2, 0, none⟩))), (3, v20), (4, (.int .i64 y22)), (8, (.int .i64 (List.length x0.2.1 : Int))), (9, (.int .i64 y22)), (26, (.bool y43))] a → K39 a w40 := by
     intro y43 w40 hF hB41 hS42
     subst hk44
     refine fun a ha => hK39 _ _ (W.cond rfl (fun h46 => ?_) (fun h46 => ?_)) a ha
     ·replace hF := ifP h46 hF
      refine W.region (wl_move rfl rfl (wl_move rfl rfl (wl_lit (vs := [(.int .i64 y22)]) (l := [y22]) fl_3 Tryz.underlying25 rfl rfl rfl rfl rfl rfl hB41 hS42 ?_)))
      intro v47 F48 w49 hb50 hB51 hS52
      obtain ⟨u53, hu53, hF⟩ := bindE hF
      refine wl_append (i := 2) (S := (· < w49.heap.size)) fl_3 Tryz.underlying25 rfl rfl rfl hB51 hS52 rfl (hS52.own_ro (i := 0) rfl) hu53 ?_
      intro v54 F55 w56 hk57 hB58 hS59
      refine wl_assign rfl rfl (WL.nil ?_)
      exact fun a ha => hJ37 (u53) (v54) (F55) _ hF hB58 (hS59.sel [1, 2] rfl) a (ha.sub ⟨rfl, rfl, rfl, rfl, trivial⟩)
     ·replace hF := ifN h46 hF
      refine W.skip ?_
      exact fun a ha => hJ37 (l19) (v20) (F21) _ hF hB41 (hS42.sel [0, 1] rfl) a (ha.sub ⟨rfl, rfl, rfl, rfl, trivial⟩)
    refine W.regionH mixed_ [] hB17 hS18 ?_
    intro w60 hb61 hB62 hS63
    have hSW64 := KeepX.refl w60 []
    refine WH.tk 0 rfl hP hSW64 (pr_load_blk (i := 0) (vs := [v0_0, v0_1, (.int .i64 x0.2.2.1), (.int .i64 x0.2.2.2)]) (v := (.agg #[v0_0, v0_1, (.int .i64 x0.2.2.1), (.int .i64 x0.2.2.2)])) tf_27 rfl rfl hS63 rfl rfl rfl (by simp) (WH.tk 1 rfl hP hSW64 (pr_move rfl rfl (WH.on1 2 rfl ?_))))
    obtain ⟨u65, hu65, hF⟩ := bindE hF
    refine wl_call rfl Tryz.call69 (C_impl_wideSteps w60 x0 v0_0 (h0_0.ro hB62) v0_1 (h0_1.ro hB62) y22 _ hu65) rfl ?_
    rintro _ w68 ⟨v66, F67, rfl, hb69, hM72⟩
    refine ⟨_, rfl, ?_⟩
    have hB70 := hB62.trans (hb69.mono hB62.size)
    have hS71 := hS63.join hb69 hM72 hB62.size
    have hSW74 := hSW64.ext hb69
    refine WL.nil (WH.ret hSW74 (WH.tk 3 rfl hP hSW74 (pr_lenr (e := ty_3) (l := u65) Tryz.underlying25 rfl rfl (hS71.own_ro (i := 0) rfl) (WH.tk 4 rfl hP hSW74 (pr_gtr rfl rfl rfl (WH.tk 5 rfl hP hSW74 (pr_move rfl rfl ?_)))))))
    rcases bE (decide (0 < (List.length u65 : Int))) with h75 | h75
    ·replace hF := ifP h75 hF
     refine WH.off (i := 6) rfl (by kernel_rfl) (by kernel_rfl) (by kernel_rfl) hP rfl rfl h75 rfl hSW74 (WH.off (i := 7) rfl (by kernel_rfl) (by kernel_rfl) (by kernel_rfl) hP rfl rfl h75 rfl hSW74 (WH.off (i := 8) rfl (by kernel_rfl) (by kernel_rfl) (by kernel_rfl) hP rfl rfl h75 rfl hSW74 (WH.off (i := 9) rfl (by kernel_rfl) (by kernel_rfl) (by kernel_rfl) hP rfl rfl h75 rfl hSW74 (WH.off (i := 10) rfl (by kernel_rfl) (by kernel_rfl) (by kernel_rfl) hP rfl rfl h75 rfl hSW74 (WH.off (i := 11) rfl (by kernel_rfl) (by kernel_rfl) (by kernel_rfl) hP rfl rfl h75 rfl hSW74 (WH.off (i := 12) rfl (by kernel_rfl) (by kernel_rfl) (by kernel_rfl) hP rfl rfl h75 rfl hSW74 (WH.off (i := 13) rfl (by kernel_rfl) (by kernel_rfl) (by kernel_rfl) hP rfl rfl h75 rfl hSW74 (WH.tk 14 rfl hP hSW74 (pr_pick_t rfl rfl h75 rfl (WH.done (by kernel_rfl) ?_))))))))))
     exact fun a ha => hJ45 (true) _ hF hB70 (hS71.sel [1, 2] rfl) a (ha.sub ⟨rfl, rfl, rfl, rfl, rfl, rfl, trivial⟩)
    ·replace hF := ifN h75 hF
     refine WH.takexg (i := 6) rfl (by kernel_rfl) (by kernel_rfl) (by kernel_rfl) hP rfl rfl h75 hSW74 (pr_load_blk (i := 0) (vs := [v0_0, v0_1, (.int .i64 x0.2.2.1), (.int .i64 x0.2.2.2)]) (v := (.agg #[v0_0, v0_1, (.int .i64 x0.2.2.1), (.int .i64 x0.2.2.2)])) tf_27 rfl rfl hS63 rfl rfl rfl (by simp) (WH.takexg (i := 7) rfl (by kernel_rfl) (by kernel_rfl) (by kernel_rfl) hP rfl rfl h75 hSW74 (pr_move rfl rfl (WH.takexg (i := 9) rfl (by kernel_rfl) (by kernel_rfl) (by kernel_rfl) hP rfl rfl h75 hSW74 (pr_field (o := 2) (off' := 2) ff_27_2 rfl rfl rfl (WH.takexg (i := 10) rfl (by kernel_rfl) (by kernel_rfl) (by kernel_rfl) hP rfl rfl h75 hSW74 (pr_load_blk (i := 0) (vs := [(.int .i64 x0.2.2.1)]) (v := (.int .i64 x0.2.2.1)) tf_3 rfl rfl hS63 rfl rfl rfl (by simp) (WH.on1 8 rfl (wl_on rfl rfl h75 ?_)))))))))
     obtain ⟨u76, hu76, hF⟩ := bindE hF
     refine wl_call rfl Tryz.call34 (C_impl_showMoves w68 x0 v0_0 (h0_0.ro hB70) v0_1 (h0_1.ro hB70) y22 _ hu76) rfl ?_
     rintro _ w79 ⟨v77, F78, rfl, hb80, hM83⟩
     refine ⟨_, rfl, ?_⟩
     have hB81 := hB70.trans (hb80.mono hB70.size)
     have hS82 := hS71.join hb80 hM83 hB70.size
     have hSW85 := hSW74.ext hb80
     refine WL.nil (WH.ret hSW85 (WH.on1 11 rfl (wl_on rfl rfl h75 ?_)))
     obtain ⟨u86, hu86, hF⟩ := bindE hF
     refine wl_call rfl Tryz.call70 (C_impl_pairsTooClose w79 u76 v77 (hS82.own_ro (i := 0) rfl) x0.2.2.1 _ hu86) rfl ?_
     rintro _ w89 ⟨v87, F88, rfl, hb90, hM93⟩
     refine ⟨_, rfl, ?_⟩
     have hB91 := hB81.trans (hb90.mono hB81.size)
     have hS92 := hS82.join hb90 hM93 hB81.size
     have hSW95 := hSW85.ext hb90
     refine WL.nil (WH.ret hSW95 (WH.takexg (i := 12) rfl (by kernel_rfl) (by kernel_rfl) (by kernel_rfl) hP rfl rfl h75 hSW95 (pr_lenr (e := ty_25) (l := u86) Tryz.underlying117 rfl rfl (hS92.own_ro (i := 0) rfl) (WH.takexg (i := 13) rfl (by kernel_rfl) (by kernel_rfl) (by kernel_rfl) hP rfl rfl h75 hSW95 (pr_gtr rfl rfl rfl (WH.tk 14 rfl hP hSW95 (pr_pick_f rfl rfl h75 rfl (WH.done (by kernel_rfl) ?_))))))))
     exact fun a ha => hJ45 ((decide (0 < (List.length u86 : Int)))) _ hF hB91 (hS92.sel [3, 4] rfl) a (ha.sub ⟨rfl, rfl, rfl, rfl, rfl, rfl, trivial⟩)
   ·replace hF := ifN h28 hF
    refine W.exit fun a ha => hK14 _ _ (W.seq fun K96 hK96 => (W.region (wl_move rfl rfl (wl_assign rfl rfl (WL.nil (fun a ha => hK96 _ _ (W.ret ?_) a ha)))))) a ha
    have hr := Option.some.inj hF
    subst hr
    exact rets (vs := [v20]) hQ rfl ⟨rv_tmp rfl, trivial⟩ ⟨v20, F21, rfl, hB17, hS18.sel [1] rfl⟩
theorem C_impl_sheetOf (w0 : World) (x0 : (List (List (Int × Int)))) (v0_0 : Value) (h0_0 : rdS ty_51 (· < w0.heap.size) w0 v0_0 x0) (x1 : (List Int)) (v1_0 : Value) (h1_0 : rdS ty_3 (· < w0.heap.size) w0 v1_0 x1) (x2 : Int) (r : (Int × (Int × Int) × (List (Int × (Int × Int))))) (hF : F_impl_sheetOf x0 x1 x2 = some r) :
  Calls Tryz.prog 29 [v0_0, v1_0, (.int .i64 x2)].toArray w0 fun e w' => ∃ (q0 : Value) (G0 : List Nat), e = .returned (.agg #[(.int .i64 r.1), (.int .i64 r.2.1.1), (.int .i64 r.2.1.2), q0]) ∧ Below w0.heap.size w0 w' ∧ Sep w0.heap.size w' [R.own ty_101 G0 q0 r.2.2] := by
 refine calls_mk' Tryz.func29 rfl Tryz.ntmps29 rfl rfl fun Q hQ hP => ?_
 have hB : Below w0.heap.size w0 w0 := Below.refl _ _
 have hS : Sep w0.heap.size w0 [] := Sep.nil _ _
 unfold F_impl_sheetOf at hF
 refine W.seq fun K1 hK1 => W.region (wl_alloc (cs := [(.int .i64 0), (.int .i64 0), (.int .i64 0), (.slice none 0 0)]) tf_48 rfl rfl hB hS ?_)
 intro b2 w3 hb4 hB5 hS6
 refine WL.nil fun a ha => hK1 _ _ (W.seq fun K7 hK7 => (W.region (wl_move rfl rfl (wl_move rfl rfl ?_)))) a ha
 obtain ⟨u8, hu8, hF⟩ := bindE hF
 refine wl_index (e := ty_51) Tryz.underlying24 rfl rfl rfl h0_0 hu8 ?_
 rintro p9 _ ⟨v11, rfl, hv12⟩ hp10
 refine wl_load_p (vs := [v11]) (v := v11) tf_51 rfl rfl (hp10.ro hB5) rfl rfl (wl_move rfl rfl ?_)
 obtain ⟨u13, hu13, hF⟩ := bindE hF
 refine wl_index (e := ty_38) Tryz.underlying51 rfl rfl rfl hv12 hu13 ?_
 rintro p14 _ rfl hp15
 refine wl_load_p (vs := [(.int .i64 u13.1), (.int .i64 u13.2)]) (v := (.agg #[(.int .i64 u13.1), (.int .i64 u13.2)])) tf_38 rfl rfl (hp15.ro hB5) rfl rfl (wl_lit (vs := []) (l := []) fl_101 Tryz.underlying46 rfl rfl rfl rfl rfl rfl hB5 hS6 ?_)
 intro v16 F17 w18 hb19 hB20 hS21
 refine wl_build (zs := [(.int .i64 0), (.int .i64 0), (.int .i64 0), (.slice none 0 0)]) (out := [(.int .i64 x2), (.int .i64 u13.1), (.int .i64 u13.2), v16]) (vs := [(.int .i64 x2), (.agg #[(.int .i64 u13.1), (.int .i64 u13.2)]), v16]) (css := [[(.int .i64 x2)], [(.int .i64 u13.1), (.int .i64 u13.2)], [v16]]) tf_48 pl_48 rfl rfl (by simp only [List.map_cons, List.map_nil, cells_one ((hS21.own_ro (i := 0) rfl).one)] <;> rfl) rfl rfl (wl_alloc (cs := [(.int .i64 0), (.int .i64 0), (.int .i64 0), (.slice none 0 0)]) tf_48 rfl rfl hB20 hS21 ?_)
 intro b22 w23 hb24 hB25 hS26
 refine wl_store_blk (i := 0) (vs := [(.int .i64 x2), (.int .i64 u13.1), (.int .i64 u13.2), v16]) (cs' := [(.int .i64 x2), (.int .i64 u13.1), (.int .i64 u13.2), v16]) tf_48 rfl rfl rfl rfl hB25 hS26 rfl rfl ⟨rfl, rfl, rfl, (hS26.own_ro (i := 1) rfl).one, trivial⟩ rfl ?_
 intro w27 hk30 hB28 hS29
 refine WL.nil fun a ha => hK7 _ _ (W.seq fun K31 hK31 => (W.seq fun K32 hK32 => (W.region (wl_move rfl rfl (wl_lenr (e := ty_3) (l := x1) Tryz.underlying25 rfl rfl h1_0 (wl_move rfl rfl (WL.nil (fun a ha => hK32 _ _ (W.block (W.loopk (fun m a w33 => ∃ (l36 : (List (Int × (Int × Int)))) (y39 : Int) (v37 : Value) (F38 : List Nat), St 43 [(0, v0_0), (2, (.int .i64 x2)), (6, (.pointer (some ⟨b2, 0, none⟩))), (7, (.pointer (some ⟨b22, 0, none⟩))), (19, v1_0), (20, (.int .i64 (List.length x1 : Int))), (21, (.int .i64 y39))] a ∧ Below w0.heap.size w0 w33 ∧ Sep w0.heap.size w33 [R.blk b2 48 [(.int .i64 0), (.int .i64 0), (.int .i64 0), (.slice none 0 0)], R.own ty_101 F38 v37 l36, R.blk b22 48 [(.int .i64 x2), (.int .i64 u13.1), (.int .i64 u13.2), v37]] ∧ F_impl_sheetOf_L1 x1 x0 x2 u13 m l36 y39 = some r) FU ?_ ?_)) a ha)))))))) a ha
 ·
  exact fun a ha => ⟨[], 0, v16, F17, ha.sub ⟨rfl, rfl, rfl, rfl, rfl, rfl, rfl, trivial⟩, hB28, (hS29.sel [2, 1, 0] rfl), hF⟩
 ·
  rintro m42 a w33 ⟨l36, y39, v37, F38, ha, hB34, hS35, hF⟩ KL41 hKL41
  refine W.at ?_ ha
  cases m42 with
  | zero => exact noneE hF
  | succ m42 =>
   obtain ⟨nx40, hnx40⟩ : ∃ k, k = F_impl_sheetOf_L1 x1 x0 x2 u13 m42 := ⟨_, rfl⟩
   rw [F_impl_sheetOf_L1, ← hnx40] at hF
   refine W.seq fun K43 hK43 => W.region (wl_lss rfl rfl rfl (WL.nil (fun a ha => hK43 _ _ (W.seq fun K44 hK44 => (W.cond rfl (fun h45 => ?_) (fun h45 => ?_))) a ha)))
   ·replace hF := ifP h45 hF
    refine W.skip fun a ha => hK44 _ _ (W.seq fun K46 hK46 => ?_) a ha
    obtain ⟨k53, hk53, hF⟩ := jE1 hF
    have hJ54 : ∀ (l50 : (List (Int × (Int × Int)))) (v51 : Value) (F52 : List Nat) (w47 : World) (_ : k53 l50 = some r) (_ : Below w0.heap.size w0 w47) (_ : Sep w0.heap.size w47 [R.blk b2 48 [(.int .i64 0), (.int .i64 0), (.int .i64 0), (.slice none 0 0)], R.own ty_101 F52 v51 l50, R.blk b22 48 [(.int .i64 x2), (.int .i64 u13.1), (.int .i64 u13.2), v51]]), ∀ a, St 43 [(0, v0_0), (2, (.int .i64 x2)), (6, (.pointer (some ⟨b2, 0, none⟩))), (7, (.pointer (some ⟨b22, 0, none⟩))), (19, v1_0), (20, (.int .i64 (List.length x1 : Int))), (21, (.int .i64 y39))] a → K46 a w47 := by
     intro l50 v51 F52 w47 hF hB48 hS49
     subst hk53
     refine fun a ha => hK46 _ _ (W.region (wl_add rfl rfl rfl (wl_move rfl rfl (WL.nil ?_)))) a ha
     rw [hnx40] at hF
     exact fun a ha => hKL41 a _ m42 (Nat.lt_succ_self m42) ⟨l50, (w64 (y39 + 1)), v51, F52, ha.sub ⟨rfl, rfl, rfl, rfl, rfl, rfl, rfl, trivial⟩, hB48, (hS49.sel [0, 1, 2] rfl), hF⟩
    refine W.block (W.seq fun K55 hK55 => (W.region (wl_move rfl rfl ?_)))
    obtain ⟨u56, hu56, hF⟩ := bindE hF
    refine wl_index (e := ty_3) Tryz.underlying25 rfl rfl rfl h1_0 hu56 ?_
    rintro p57 _ rfl hp58
    refine wl_load_p (vs := [(.int .i64 u56)]) (v := (.int .i64 u56)) tf_3 rfl rfl (hp58.ro hB34) rfl rfl (wl_assign rfl rfl (wl_assign rfl rfl (WL.nil (fun a ha => hK55 _ _ (W.regionH mixed_ (F38 ++ [b22]) hB34 hS35 ?_) a ha))))
    intro w59 hb60 hB61 hS62
    have hSW63 := KeepX.refl w59 (F38 ++ [b22])
    refine WH.tk 0 rfl hP hSW63 (pr_field (o := 3) (off' := 3) ff_48_2 rfl rfl rfl (WH.tk 2 rfl hP hSW63 (pr_move rfl rfl (WH.tk 3 rfl hP hSW63 (pr_move rfl rfl (WH.tk 4 rfl hP hSW63 (pr_move rfl rfl (WH.tk 5 rfl hP hSW63 (pr_add rfl rfl rfl ?_)))))))))
    obtain ⟨u64, hu64, hF⟩ := bindE hF
    refine WH.tk 6 rfl hP hSW63 (pr_index (e := ty_51) Tryz.underlying24 rfl rfl rfl h0_0 hu64 ?_)
    rintro p65 _ ⟨v67, rfl, hv68⟩ hp66
    refine WH.tk 7 rfl hP hSW63 (pr_load_p (vs := [v67]) (v := v67) tf_51 rfl rfl (hp66.kx hB61 (fun b hb => ((List.mem_append.1 hb).elim (fun hb => (((hS62.get (i := 1) rfl).2.1 b hb).1)) (fun hb => (((hS62.get (i := 2) rfl).2.1 b hb).1))))) rfl rfl (WH.tk 8 rfl hP hSW63 (pr_move rfl rfl ?_)))
    obtain ⟨u69, hu69, hF⟩ := bindE hF
    refine WH.tk 9 rfl hP hSW63 (pr_index (e := ty_38) Tryz.underlying51 rfl rfl rfl hv68 hu69 ?_)
    rintro p70 _ rfl hp71
    refine WH.tk 10 rfl hP hSW63 (pr_load_p (vs := [(.int .i64 u69.1), (.int .i64 u69.2)]) (v := (.agg #[(.int .i64 u69.1), (.int .i64 u69.2)])) tf_38 rfl rfl (hp71.kx hB61 (fun b hb => ((List.mem_append.1 hb).elim (fun hb => (((hS62.get (i := 1) rfl).2.1 b hb).1)) (fun hb => (((hS62.get (i := 2) rfl).2.1 b hb).1))))) rfl rfl (WH.tk 11 rfl hP hSW63 (pr_build (zs := [(.int .i64 0), (.int .i64 0), (.int .i64 0)]) (out := [(.int .i64 u56), (.int .i64 u69.1), (.int .i64 u69.2)]) (vs := [(.int .i64 u56), (.agg #[(.int .i64 u69.1), (.int .i64 u69.2)])]) (css := [[(.int .i64 u56)], [(.int .i64 u69.1), (.int .i64 u69.2)]]) tf_101 pl_101 rfl rfl rfl rfl rfl (WH.many (is := [1, 12]) (by kernel_rfl) rfl (List.forall_mem_cons.2 ⟨⟨_, rfl, ?_⟩, List.forall_mem_cons.2 ⟨⟨_, rfl, ?_⟩, fun _ h => by cases h⟩⟩)))))
    ·
     refine wl_load_blk (i := 2) (vs := [v37]) (v := v37) tf_46 rfl rfl hS62 rfl rfl rfl (WL.nil (WH.ret hSW63 (WH.on1 12 rfl (wl_lit (vs := [(.agg #[(.int .i64 u56), (.int .i64 u69.1), (.int .i64 u69.2)])]) (l := [(u56, u69)]) fl_101 Tryz.underlying46 rfl rfl rfl rfl rfl rfl (Below.self w59) (Sep.nil _ _) ?_))))
     intro v72 F73 w74 hb75 hB78 hM79
     have hB76 := hB61.trans (hb75.mono hB61.size)
     have hS77 := hS62.join hb75 hM79 hB61.size
     have hSW81 := hSW63.ext hb75
     refine WL.nil (WH.ret hSW81 (WH.on1 13 rfl ?_))
     obtain ⟨u83, hu83, hF⟩ := bindE hF
     refine wl_append (i := 2) (S := (· < w74.heap.size)) fl_101 Tryz.underlying46 rfl rfl rfl hB76 hS77 rfl (hS77.own_ro (i := 0) rfl) hu83 ?_
     intro v84 F85 w86 hk87 hB88 hS89
     have hSW90 := hSW81.wr' hk87.1 hk87.2.1 (fun _ _ h => List.mem_append_left _ (h))
     refine WL.nil (WH.ret hSW90 (WH.tk 14 rfl hP hSW90 (pr_field (o := 3) (off' := 3) ff_48_2 rfl rfl rfl (WH.on1 15 rfl (wl_store_blk (i := 3) (vs := [v84]) (cs' := [(.int .i64 x2), (.int .i64 u13.1), (.int .i64 u13.2), v84]) tf_46 rfl rfl (cells_one (hS89.own_ro (i := 2) rfl).one) rfl hB88 hS89 rfl rfl ⟨(hS89.own_ro (i := 2) rfl).one, trivial⟩ rfl ?_)))))
     intro w92 hk95 hB93 hS94
     have hSW96 := hSW90.wr' hk95.1 hk95.2.1 (fun _ _ h => List.mem_append_right _ h)
     refine WL.nil (WH.ret hSW96 (WH.done (by kernel_rfl) ?_))
     exact fun a ha => hJ54 (u83) (v84) (F85) _ hF hB93 (hS94.sel [1, 2, 3] rfl) a (ha.sub ⟨rfl, rfl, rfl, rfl, rfl, rfl, rfl, trivial⟩)
    ·
     refine wl_lit (vs := [(.agg #[(.int .i64 u56), (.int .i64 u69.1), (.int .i64 u69.2)])]) (l := [(u56, u69)]) fl_101 Tryz.underlying46 rfl rfl rfl rfl rfl rfl (Below.self w59) (Sep.nil _ _) ?_
     intro v98 F99 w100 hb101 hB104 hM105
     have hB102 := hB61.trans (hb101.mono hB61.size)
     have hS103 := hS62.join hb101 hM105 hB61.size
     have hSW107 := hSW63.ext hb101
     refine WL.nil (WH.ret hSW107 (WH.on1 1 rfl (wl_load_blk (i := 3) (vs := [v37]) (v := v37) tf_46 rfl rfl hS103 rfl rfl rfl (WL.nil (WH.ret hSW107 (WH.on1 13 rfl ?_))))))
     obtain ⟨u109, hu109, hF⟩ := bindE hF
     refine wl_append (i := 2) (S := (· < w100.heap.size)) fl_101 Tryz.underlying46 rfl rfl rfl hB102 hS103 rfl (hS103.own_ro (i := 0) rfl) hu109 ?_
     intro v110 F111 w112 hk113 hB114 hS115
     have hSW116 := hSW107.wr' hk113.1 hk113.2.1 (fun _ _ h => List.mem_append_left _ (h))
     refine WL.nil (WH.ret hSW116 (WH.tk 14 rfl hP hSW116 (pr_field (o := 3) (off' := 3) ff_48_2 rfl rfl rfl (WH.on1 15 rfl (wl_store_blk (i := 3) (vs := [v110]) (cs' := [(.int .i64 x2), (.int .i64 u13.1), (.int .i64 u13.2), v110]) tf_46 rfl rfl (cells_one (hS115.own_ro (i := 2) rfl).one) rfl hB114 hS115 rfl rfl ⟨(hS115.own_ro (i := 2) rfl).one, trivial⟩ rfl ?_)))))
     intro w118 hk121 hB119 hS120
     have hSW122 := hSW116.wr' hk121.1 hk121.2.1 (fun _ _ h => List.mem_append_right _ h)
     refine WL.nil (WH.ret hSW122 (WH.done (by kernel_rfl) ?_))
     exact fun a ha => hJ54 (u109) (v110) (F111) _ hF hB119 (hS120.sel [1, 2, 3] rfl) a (ha.sub ⟨rfl, rfl, rfl, rfl, rfl, rfl, rfl, trivial⟩)
   ·replace hF := ifN h45 hF
    refine W.exit fun a ha => hK31 _ _ (W.seq fun K124 hK124 => (W.region (wl_load_blk (i := 2) (vs := [(.int .i64 x2), (.int .i64 u13.1), (.int .i64 u13.2), v37]) (v := (.agg #[(.int .i64 x2), (.int .i64 u13.1), (.int .i64 u13.2), v37])) tf_48 rfl rfl hS35 rfl rfl rfl (wl_store_blk (i := 0) (vs := [(.int .i64 x2), (.int .i64 u13.1), (.int .i64 u13.2), v37]) (cs' := [(.int .i64 x2), (.int .i64 u13.1), (.int .i64 u13.2), v37]) tf_48 rfl rfl rfl rfl hB34 hS35 rfl rfl ⟨rfl, rfl, rfl, (hS35.own_ro (i := 1) rfl).one, trivial⟩ rfl ?_)))) a ha
    intro w125 hk128 hB126 hS127
    refine WL.nil fun a ha => hK124 _ _ (W.ret ?_) a ha
    have hr := Option.some.inj hF
    subst hr
    exact rets (vs := [(.agg #[(.int .i64 x2), (.int .i64 u13.1), (.int .i64 u13.2), v37])]) hQ rfl ⟨rv_cell (i := 0) tf_48 rfl hS127 rfl rfl rfl, trivial⟩ ⟨v37, F38, rfl, hB126, hS127.sel [1] rfl⟩
theorem C_impl_PublishSheets (w0 : World) (x0 : ((List (List (Int × Int))) × (List Int) × Int × Int)) (v0_0 : Value) (h0_0 : rdS ty_51 (· < w0.heap.size) w0 v0_0 x0.1) (v0_1 : Value) (h0_1 : rdS ty_3 (· < w0.heap.size) w0 v0_1 x0.2.1) (r : ((List (Int × (Int × Int) × (List (Int × (Int × Int))))) × Bool)) (hF : F_impl_PublishSheets x0 = some r) :
  Calls Tryz.prog 6 [(.agg #[v0_0, v0_1, (.int .i64 x0.2.2.1), (.int .i64 x0.2.2.2)])].toArray w0 fun e w' => ∃ (q0 : Value) (G0 : List Nat), e = .returned (.tuple #[q0, (.bool r.2)]) ∧ Below w0.heap.size w0 w' ∧ Sep w0.heap.size w' [R.own ty_48 G0 q0 r.1] := by
 refine calls_mk' Tryz.func6 rfl Tryz.ntmps6 rfl rfl fun Q hQ hP => ?_
 have hB : Below w0.heap.size w0 w0 := Below.refl _ _
 have hS : Sep w0.heap.size w0 [] := Sep.nil _ _
 unfold F_impl_PublishSheets at hF
 refine W.seq fun K1 hK1 => W.region (wl_box (cs := [v0_0, v0_1, (.int .i64 x0.2.2.1), (.int .i64 x0.2.2.2)]) rfl rfl rfl hB hS ?_)
 intro b2 w3 hb4 hB5 hS6
 refine wl_assign rfl rfl (wl_assign rfl rfl (WL.nil (fun a ha => hK1 _ _ (W.seq fun K7 hK7 => (W.seq fun K8 hK8 => ?_)) a ha)))
 obtain ⟨k13, hk13, hF⟩ := jE1 hF
 have hJ14 : ∀ (y12 : Bool) (w9 : World) (_ : k13 y12 = some r) (_ : Below w0.heap.size w0 w9) (_ : Sep w0.heap.size w9 [R.blk b2 27 [v0_0, v0_1, (.int .i64 x0.2.2.1), (.int .i64 x0.2.2.2)]]), ∀ a, St 35 [(1, (.pointer (some ⟨b2, 0, none⟩))), (14, (.bool y12))] a → K8 a w9 := by
  intro y12 w9 hF hB10 hS11
  subst hk13
  refine fun a ha => hK8 _ _ (W.cond rfl (fun h15 => ?_) (fun h15 => ?_)) a ha
  ·replace hF := ifP h15 hF
   refine W.seq fun K16 hK16 => W.region (wl_assign rfl rfl (wl_assign rfl rfl (WL.nil (fun a ha => hK16 _ _ (W.ret ?_) a ha))))
   have hS17 := hS11.push0 (r := R.own ty_48 [] (.slice none 0 0) []) rfl fun _ => .inl ⟨rfl, rfl, rfl⟩
   have hr := Option.some.inj hF
   subst hr
   exact rets (vs := [(.slice none 0 0), (.bool false)]) hQ rfl ⟨rv_tmp rfl, rv_tmp rfl, trivial⟩ ⟨(.slice none 0 0), [], rfl, hB10, hS17.sel [0] rfl⟩
  ·replace hF := ifN h15 hF
   refine W.skip fun a ha => hK7 _ _ (W.seq fun K18 hK18 => (W.region (wl_lit0 (e := ty_48) Tryz.underlying29 rfl hB10 hS11 ?_))) a ha
   intro v19 F20 w21 hb22 hB23 hS24
   refine wl_assign rfl rfl (WL.nil (fun a ha => hK18 _ _ (W.seq fun K25 hK25 => (W.seq fun K26 hK26 => (W.region (wl_field (o := 0) (off' := 0) ff_27_0 rfl rfl rfl (wl_load_blk (i := 1) (vs := [v0_0]) (v := v0_0) tf_24 rfl rfl hS24 rfl rfl rfl ?_))))) a ha))
   obtain ⟨u27, hu27, hF⟩ := bindE hF
   refine wl_index (e := ty_51) Tryz.underlying24 rfl rfl rfl h0_0 hu27 ?_
   rintro p28 _ ⟨v30, rfl, hv31⟩ hp29
   refine wl_load_p (vs := [v30]) (v := v30) tf_51 rfl rfl (hp29.ro hB23) rfl rfl (wl_lenr (e := ty_38) (l := u27) Tryz.underlying51 rfl rfl hv31 (wl_move rfl rfl (WL.nil (fun a ha => hK26 _ _ (W.block (W.loopk (fun m a w32 => ∃ (l35 : (List (Int × (Int × Int) × (List (Int × (Int × Int)))))) (y38 : Int) (v36 : Value) (F37 : List Nat), St 35 [(1, (.pointer (some ⟨b2, 0, none⟩))), (4, v36), (20, (.int .i64 (List.length u27 : Int))), (21, (.int .i64 y38))] a ∧ Below w0.heap.size w0 w32 ∧ Sep w0.heap.size w32 [R.blk b2 27 [v0_0, v0_1, (.int .i64 x0.2.2.1), (.int .i64 x0.2.2.2)], R.own ty_48 F37 v36 l35] ∧ F_impl_PublishSheets_L1 u27 x0 m l35 y38 = some r) FU ?_ ?_)) a ha))))
   ·
    exact fun a ha => ⟨[], 0, v19, F20, ha.sub ⟨rfl, rfl, rfl, rfl, trivial⟩, hB23, (hS24.sel [1, 0] rfl), hF⟩
   ·
    rintro m41 a w32 ⟨l35, y38, v36, F37, ha, hB33, hS34, hF⟩ KL40 hKL40
    refine W.at ?_ ha
    cases m41 with
    | zero => exact noneE hF
    | succ m41 =>
     obtain ⟨nx39, hnx39⟩ : ∃ k, k = F_impl_PublishSheets_L1 u27 x0 m41 := ⟨_, rfl⟩
     rw [F_impl_PublishSheets_L1, ← hnx39] at hF
     refine W.seq fun K42 hK42 => W.region (wl_lss rfl rfl rfl (WL.nil (fun a ha => hK42 _ _ (W.seq fun K43 hK43 => (W.cond rfl (fun h44 => ?_) (fun h44 => ?_))) a ha)))
     ·replace hF := ifP h44 hF
      refine W.skip fun a ha => hK43 _ _ (W.seq fun K45 hK45 => (W.block (W.seq fun K46 hK46 => (W.region (wl_move rfl rfl (wl_assign rfl rfl (WL.nil (fun a ha => hK46 _ _ (W.region (wl_move rfl rfl (wl_field (o := 0) (off' := 0) ff_27_0 rfl rfl rfl (wl_load_blk (i := 0) (vs := [v0_0]) (v := v0_0) tf_24 rfl rfl hS34 rfl rfl rfl ?_)))) a ha)))))))) a ha
      refine wl_field (o := 1) (off' := 1) ff_27_1 rfl rfl rfl (wl_load_blk (i := 0) (vs := [v0_1]) (v := v0_1) tf_25 rfl rfl hS34 rfl rfl rfl (wl_move rfl rfl ?_))
      obtain ⟨u47, hu47, hF⟩ := bindE hF
      refine wl_call rfl Tryz.call29 (C_impl_sheetOf w32 x0.1 v0_0 (h0_0.ro hB33) x0.2.1 v0_1 (h0_1.ro hB33) y38 _ hu47) rfl ?_
      rintro _ w50 ⟨v48, F49, rfl, hb51, hM54⟩
      refine ⟨_, rfl, ?_⟩
      have hB52 := hB33.trans (hb51.mono hB33.size)
      have hS53 := hS34.join hb51 hM54 hB33.size
      have hq55 := hS53.sel [0, 1, 2] rfl
      have hq56 := hq55.head (r' := R.cel ty_48 F49 [(.int .i64 u47.1), (.int .i64 u47.2.1.1), (.int .i64 u47.2.1.2), v48] u47) (rfl) fun _ h0 => ⟨[(.int .i64 u47.1)], [(.int .i64 u47.2.1.1), (.int .i64 u47.2.1.2), v48], [], F49, rfl, rfl, ⟨rfl, rfl⟩, ⟨[(.int .i64 u47.2.1.1), (.int .i64 u47.2.1.2)], [v48], [], F49, rfl, rfl, ⟨rfl, rfl⟩, ⟨_, rfl, h0⟩⟩⟩
      refine wl_lit1 (e := ty_48) (vs := [(.int .i64 u47.1), (.int .i64 u47.2.1.1), (.int .i64 u47.2.1.2), v48]) Tryz.underlying29 rfl rfl rfl rfl hB52 hq56 ?_
      intro v57 F58 w59 hb60 hf61 hB62 hS63
      obtain ⟨u64, hu64, hF⟩ := bindE hF
      refine wl_appendn (e := ty_48) Tryz.underlying29 rfl rfl rfl hB62 (hS63.sel [2, 0, 1] rfl) hu64 ?_
      intro v65 F66 w67 hk68 hB69 hS70
      refine wl_assign rfl rfl (WL.nil (fun a ha => hK45 _ _ (W.region (wl_add rfl rfl rfl (wl_move rfl rfl (WL.nil ?_)))) a ha))
      rw [hnx39] at hF
      exact fun a ha => hKL40 a _ m41 (Nat.lt_succ_self m41) ⟨u64, (w64 (y38 + 1)), v65, F66, ha.sub ⟨rfl, rfl, rfl, rfl, trivial⟩, hB69, (hS70.sel [1, 0] rfl), hF⟩
     ·replace hF := ifN h44 hF
      refine W.exit fun a ha => hK25 _ _ (W.seq fun K71 hK71 => (W.region (wl_move rfl rfl (wl_assign rfl rfl (wl_assign rfl rfl (WL.nil (fun a ha => hK71 _ _ (W.ret ?_) a ha))))))) a ha
      have hr := Option.some.inj hF
      subst hr
      exact rets (vs := [v36, (.bool true)]) hQ rfl ⟨rv_tmp rfl, rv_tmp rfl, trivial⟩ ⟨v36, F37, rfl, hB33, hS34.sel [1] rfl⟩
 refine W.region (wl_load_blk (i := 0) (vs := [v0_0, v0_1, (.int .i64 x0.2.2.1), (.int .i64 x0.2.2.2)]) (v := (.agg #[v0_0, v0_1, (.int .i64 x0.2.2.1), (.int .i64 x0.2.2.2)])) tf_27 rfl rfl hS6 rfl rfl rfl ?_)
 obtain ⟨u72, hu72, hF⟩ := bindE hF
 refine wl_call rfl Tryz.call27 (C_impl_IsShow w3 x0 v0_0 (h0_0.ro hB5) v0_1 (h0_1.ro hB5) _ hu72) rfl ?_
 rintro _ w73 ⟨rfl, hb74⟩
 refine ⟨_, rfl, ?_⟩
 have hB75 := hB5.trans (hb74.mono hB5.size)
 have hS76 := hS6.below hb74
 refine wl_not rfl rfl (wl_move rfl rfl ?_)
 rcases bE (!u72) with h78 | h78
 ·replace hF := ifP h78 hF
  refine wl_off rfl rfl rfl h78 (wl_off rfl rfl rfl h78 (wl_off rfl rfl rfl h78 (wl_off rfl rfl rfl h78 (wl_pick_t rfl rfl h78 rfl (WL.nil ?_)))))
  exact fun a ha => hJ14 (true) _ hF hB75 (hS76.sel [0] rfl) a (ha.sub ⟨rfl, rfl, trivial⟩)
 ·replace hF := ifN h78 hF
  refine wl_on rfl rfl h78 (wl_load_blk (i := 0) (vs := [v0_0, v0_1, (.int .i64 x0.2.2.1), (.int .i64 x0.2.2.2)]) (v := (.agg #[v0_0, v0_1, (.int .i64 x0.2.2.1), (.int .i64 x0.2.2.2)])) tf_27 rfl rfl hS76 rfl rfl rfl (wl_on rfl rfl h78 ?_))
  obtain ⟨u79, hu79, hF⟩ := bindE hF
  refine wl_call rfl Tryz.call28 (C_impl_unsafParts w73 x0 v0_0 (h0_0.ro hB75) v0_1 (h0_1.ro hB75) _ hu79) rfl ?_
  rintro _ w82 ⟨v80, F81, rfl, hb83, hM86⟩
  refine ⟨_, rfl, ?_⟩
  have hB84 := hB75.trans (hb83.mono hB75.size)
  have hS85 := hS76.join hb83 hM86 hB75.size
  refine wl_on rfl rfl h78 (wl_lenr (e := ty_3) (l := u79) Tryz.underlying25 rfl rfl (hS85.own_ro (i := 0) rfl) (wl_on rfl rfl h78 (wl_gtr rfl rfl rfl (wl_pick_f rfl rfl h78 rfl (WL.nil ?_)))))
  exact fun a ha => hJ14 ((decide (0 < (List.length u79 : Int)))) _ hF hB84 (hS85.sel [1] rfl) a (ha.sub ⟨rfl, rfl, trivial⟩)
theorem C_spec_l1All (w0 : World) (x0 : (List Int)) (v0_0 : Value) (h0_0 : rdS ty_3 (· < w0.heap.size) w0 v0_0 x0) (x1 : Int) (x2 : Int) (r : Bool) (hF : F_spec_l1All x0 x1 x2 = some r) :
  Calls Tryz.prog 72 [v0_0, (.int .i64 x1), (.int .i64 x2)].toArray w0 fun e w' => e = .returned (.bool r) ∧ Below w0.heap.size w0 w' := by
 refine calls_mk' Tryz.func72 rfl Tryz.ntmps72 rfl rfl fun Q hQ hP => ?_
 have hB : Below w0.heap.size w0 w0 := Below.refl _ _
 have hS : Sep w0.heap.size w0 [] := Sep.nil _ _
 unfold F_spec_l1All at hF
 refine W.seq fun K1 hK1 => W.region (wl_assign rfl rfl (WL.nil (fun a ha => hK1 _ _ (W.seq fun K2 hK2 => (W.seq fun K3 hK3 => (W.region (wl_move rfl rfl (wl_lenr (e := ty_3) (l := x0) Tryz.underlying25 rfl rfl h0_0 (wl_move rfl rfl (WL.nil (fun a ha => hK3 _ _ (W.block ?_) a ha)))))))) a ha)))
 refine W.loopk (fun m a w4 => ∃ (y7 : Int), St 21 [(1, (.int .i64 x1)), (2, (.int .i64 x2)), (9, v0_0), (10, (.int .i64 (List.length x0 : Int))), (11, (.int .i64 y7))] a ∧ Below w0.heap.size w0 w4 ∧ Sep w0.heap.size w4 [] ∧ F_spec_l1All_L1 x0 x1 x2 m y7 = some r) FU ?_ ?_
 ·
  exact fun a ha => ⟨0, ha.sub ⟨rfl, rfl, rfl, rfl, rfl, trivial⟩, hB, (hS.sel [] rfl), hF⟩
 ·
  rintro m10 a w4 ⟨y7, ha, hB5, hS6, hF⟩ KL9 hKL9
  refine W.at ?_ ha
  cases m10 with
  | zero => exact noneE hF
  | succ m10 =>
   obtain ⟨nx8, hnx8⟩ : ∃ k, k = F_spec_l1All_L1 x0 x1 x2 m10 := ⟨_, rfl⟩
   rw [F_spec_l1All_L1, ← hnx8] at hF
   refine W.seq fun K11 hK11 => W.region (wl_lss rfl rfl rfl (WL.nil (fun a ha => hK11 _ _ (W.seq fun K12 hK12 => (W.cond rfl (fun h13 => ?_) (fun h13 => ?_))) a ha)))
   ·replace hF := ifP h13 hF
    refine W.skip fun a ha => hK12 _ _ (W.seq fun K14 hK14 => (W.block (W.seq fun K15 hK15 => (W.region ?_)))) a ha
    obtain ⟨u16, hu16, hF⟩ := bindE hF
    refine wl_index (e := ty_3) Tryz.underlying25 rfl rfl rfl h0_0 hu16 ?_
    rintro p17 _ rfl hp18
    refine wl_load_p (vs := [(.int .i64 u16)]) (v := (.int .i64 u16)) tf_3 rfl rfl (hp18.ro hB5) rfl rfl (wl_assign rfl rfl (WL.nil (fun a ha => hK15 _ _ (W.seq fun K19 hK19 => (W.region (wl_move rfl rfl (wl_move rfl rfl (wl_move rfl rfl ?_))))) a ha)))
    obtain ⟨u20, hu20, hF⟩ := bindE hF
    refine wl_call rfl Tryz.call71 (C_spec_l1In w4 u16 x1 x2 _ hu20) rfl ?_
    rintro _ w21 ⟨rfl, hb22⟩
    refine ⟨_, rfl, ?_⟩
    have hB23 := hB5.trans (hb22.mono hB5.size)
    have hS24 := hS6.below hb22
    refine wl_not rfl rfl (WL.nil (fun a ha => hK19 _ _ (W.cond rfl (fun h26 => ?_) (fun h26 => ?_)) a ha))
    ·replace hF := ifP h26 hF
     refine W.seq fun K27 hK27 => W.region (wl_assign rfl rfl (WL.nil (fun a ha => hK27 _ _ (W.ret ?_) a ha)))
     have hr := Option.some.inj hF
     subst hr
     exact rets (vs := [(.bool false)]) hQ rfl ⟨rv_tmp rfl, trivial⟩ ⟨rfl, hB23⟩
    ·replace hF := ifN h26 hF
     refine W.skip fun a ha => hK14 _ _ (W.region (wl_add rfl rfl rfl (wl_move rfl rfl (WL.nil ?_)))) a ha
     rw [hnx8] at hF
     exact fun a ha => hKL9 a _ m10 (Nat.lt_succ_self m10) ⟨(w64 (y7 + 1)), ha.sub ⟨rfl, rfl, rfl, rfl, rfl, trivial⟩, hB23, (hS24.sel [] rfl), hF⟩
   ·replace hF := ifN h13 hF
    refine W.exit fun a ha => hK2 _ _ (W.seq fun K28 hK28 => (W.region (wl_assign rfl rfl (WL.nil (fun a ha => hK28 _ _ (W.ret ?_) a ha))))) a ha
    have hr := Option.some.inj hF
    subst hr
    exact rets (vs := [(.bool true)]) hQ rfl ⟨rv_tmp rfl, trivial⟩ ⟨rfl, hB5⟩
theorem C_spec_apDistance (w0 : World) (x0 : Int) (r : Bool) (hF : F_spec_apDistance x0 = some r) :
  Calls Tryz.prog 73 [(.int .i64 x0)].toArray w0 fun e w' => e = .returned (.bool r) ∧ Below w0.heap.size w0 w' := by
 refine calls_mk' Tryz.func73 rfl Tryz.ntmps73 rfl rfl fun Q hQ hP => ?_
 have hB : Below w0.heap.size w0 w0 := Below.refl _ _
 unfold F_spec_apDistance at hF
 refine W.seq fun K1 hK1 => W.region (wl_assign rfl rfl (WL.nil (fun a ha => hK1 _ _ (W.seq fun K2 hK2 => (W.region (wl_move rfl rfl ?_))) a ha)))
 obtain ⟨u3, hu3, hF⟩ := bindE hF
 refine wl_call rfl Tryz.call71 (C_spec_l1In w0 x0 0 80 _ hu3) rfl ?_
 rintro _ w4 ⟨rfl, hb5⟩
 refine ⟨_, rfl, ?_⟩
 have hB6 := hB.trans (hb5.mono hB.size)
 refine wl_assign rfl rfl (WL.nil (fun a ha => hK2 _ _ (W.ret ?_) a ha))
 have hr := Option.some.inj hF
 subst hr
 exact rets (vs := [(.bool u3)]) hQ rfl ⟨rv_tmp rfl, trivial⟩ ⟨rfl, hB6⟩
theorem C_spec_mvStep (w0 : World) (x0 : Int) (r : Bool) (hF : F_spec_mvStep x0 = some r) :
  Calls Tryz.prog 74 [(.int .i64 x0)].toArray w0 fun e w' => e = .returned (.bool r) ∧ Below w0.heap.size w0 w' := by
 refine calls_mk' Tryz.func74 rfl Tryz.ntmps74 rfl rfl fun Q hQ hP => ?_
 have hB : Below w0.heap.size w0 w0 := Below.refl _ _
 unfold F_spec_mvStep at hF
 refine W.seq fun K1 hK1 => W.region (wl_assign rfl rfl (WL.nil (fun a ha => hK1 _ _ (W.seq fun K2 hK2 => (W.region (wl_move rfl rfl ?_))) a ha)))
 obtain ⟨u3, hu3, hF⟩ := bindE hF
 refine wl_call rfl Tryz.call71 (C_spec_l1In w0 x0 1 24 _ hu3) rfl ?_
 rintro _ w4 ⟨rfl, hb5⟩
 refine ⟨_, rfl, ?_⟩
 have hB6 := hB.trans (hb5.mono hB.size)
 refine wl_assign rfl rfl (WL.nil (fun a ha => hK2 _ _ (W.ret ?_) a ha))
 have hr := Option.some.inj hF
 subst hr
 exact rets (vs := [(.bool u3)]) hQ rfl ⟨rv_tmp rfl, trivial⟩ ⟨rfl, hB6⟩
theorem C_spec_swGood (w0 : World) (x0 : ((List (List (Int × Int))) × (List Int) × Int × Int)) (v0_0 : Value) (h0_0 : rdS ty_51 (· < w0.heap.size) w0 v0_0 x0.1) (v0_1 : Value) (h0_1 : rdS ty_3 (· < w0.heap.size) w0 v0_1 x0.2.1) (r : Bool) (hF : F_spec_swGood x0 = some r) :
  Calls Tryz.prog 30 [(.agg #[v0_0, v0_1, (.int .i64 x0.2.2.1), (.int .i64 x0.2.2.2)])].toArray w0 fun e w' => e = .returned (.bool r) ∧ Below w0.heap.size w0 w' := by
 refine calls_mk' Tryz.func30 rfl Tryz.ntmps30 rfl rfl fun Q hQ hP => ?_
 have hB : Below w0.heap.size w0 w0 := Below.refl _ _
 have hS : Sep w0.heap.size w0 [] := Sep.nil _ _
 unfold F_spec_swGood at hF
 refine W.seq fun K1 hK1 => W.region (wl_box (cs := [v0_0, v0_1, (.int .i64 x0.2.2.1), (.int .i64 x0.2.2.2)]) rfl rfl rfl hB hS ?_)
 intro b2 w3 hb4 hB5 hS6
 refine wl_assign rfl rfl (WL.nil (fun a ha => hK1 _ _ (W.seq fun K7 hK7 => (W.seq fun K8 hK8 => (W.region (wl_field (o := 0) (off' := 0) ff_27_0 rfl rfl rfl (wl_load_blk (i := 0) (vs := [v0_0]) (v := v0_0) tf_24 rfl rfl hS6 rfl rfl rfl (wl_lenr (e := ty_51) (l := x0.1) Tryz.underlying24 rfl rfl h0_0 (wl_move rfl rfl (WL.nil (fun a ha => hK8 _ _ (W.block (W.loopk (fun m a w9 => ∃ (y12 : Int), St 55 [(1, (.pointer (some ⟨b2, 0, none⟩))), (6, v0_0), (7, (.int .i64 (List.length x0.1 : Int))), (8, (.int .i64 y12))] a ∧ Below w0.heap.size w0 w9 ∧ Sep w0.heap.size w9 [R.blk b2 27 [v0_0, v0_1, (.int .i64 x0.2.2.1), (.int .i64 x0.2.2.2)]] ∧ F_spec_swGood_L1 x0 m y12 = some r) FU ?_ ?_)) a ha))))))))) a ha))
 ·
  exact fun a ha => ⟨0, ha.sub ⟨rfl, rfl, rfl, rfl, trivial⟩, hB5, (hS6.sel [0] rfl), hF⟩
 ·
  rintro m15 a w9 ⟨y12, ha, hB10, hS11, hF⟩ KL14 hKL14
  refine W.at ?_ ha
  cases m15 with
  | zero => exact noneE hF
  | succ m15 =>
   obtain ⟨nx13, hnx13⟩ : ∃ k, k = F_spec_swGood_L1 x0 m15 := ⟨_, rfl⟩
   rw [F_spec_swGood_L1, ← hnx13] at hF
   refine W.seq fun K16 hK16 => W.region (wl_lss rfl rfl rfl (WL.nil (fun a ha => hK16 _ _ (W.seq fun K17 hK17 => (W.cond rfl (fun h18 => ?_) (fun h18 => ?_))) a ha)))
   ·replace hF := ifP h18 hF
    refine W.skip fun a ha => hK17 _ _ (W.seq fun K19 hK19 => (W.block (W.seq fun K20 hK20 => (W.region ?_)))) a ha
    obtain ⟨u21, hu21, hF⟩ := bindE hF
    refine wl_index (e := ty_51) Tryz.underlying24 rfl rfl rfl h0_0 hu21 ?_
    rintro p22 _ ⟨v24, rfl, hv25⟩ hp23
    refine wl_load_p (vs := [v24]) (v := v24) tf_51 rfl rfl (hp23.ro hB10) rfl rfl (wl_assign rfl rfl (WL.nil (fun a ha => hK20 _ _ (W.seq fun K26 hK26 => ?_) a ha)))
    obtain ⟨k31, hk31, hF⟩ := jE1 hF
    have hJ32 : ∀ (y30 : Bool) (w27 : World) (_ : k31 y30 = some r) (_ : Below w0.heap.size w0 w27) (_ : Sep w0.heap.size w27 [R.blk b2 27 [v0_0, v0_1, (.int .i64 x0.2.2.1), (.int .i64 x0.2.2.2)]]), ∀ a, St 55 [(1, (.pointer (some ⟨b2, 0, none⟩))), (6, v0_0), (7, (.int .i64 (List.length x0.1 : Int))), (8, (.int .i64 y12)), (24, (.bool y30))] a → K26 a w27 := by
     intro y30 w27 hF hB28 hS29
     subst hk31
     refine fun a ha => hK26 _ _ (W.cond rfl (fun h33 => ?_) (fun h33 => ?_)) a ha
     ·replace hF := ifP h33 hF
      refine W.seq fun K34 hK34 => W.region (wl_assign rfl rfl (WL.nil (fun a ha => hK34 _ _ (W.ret ?_) a ha)))
      have hr := Option.some.inj hF
      subst hr
      exact rets (vs := [(.bool false)]) hQ rfl ⟨rv_tmp rfl, trivial⟩ ⟨rfl, hB28⟩
     ·replace hF := ifN h33 hF
      refine W.skip fun a ha => hK19 _ _ (W.region (wl_add rfl rfl rfl (wl_move rfl rfl (WL.nil ?_)))) a ha
      rw [hnx13] at hF
      exact fun a ha => hKL14 a _ m15 (Nat.lt_succ_self m15) ⟨(w64 (y12 + 1)), ha.sub ⟨rfl, rfl, rfl, rfl, trivial⟩, hB28, (hS29.sel [0] rfl), hF⟩
    refine W.region (wl_move rfl rfl ?_)
    obtain ⟨u35, hu35, hF⟩ := bindE hF
    refine wl_call rfl Tryz.call65 (C_spec_chGood w9 u21 v24 (hv25.ro hB10) _ hu35) rfl ?_
    rintro _ w36 ⟨rfl, hb37⟩
    refine ⟨_, rfl, ?_⟩
    have hB38 := hB10.trans (hb37.mono hB10.size)
    have hS39 := hS11.below hb37
    refine wl_not rfl rfl (wl_move rfl rfl ?_)
    rcases bE (!u35) with h41 | h41
    ·replace hF := ifP h41 hF
     refine wl_off rfl rfl rfl h41 (wl_off rfl rfl rfl h41 (wl_off rfl rfl rfl h41 (wl_off rfl rfl rfl h41 (wl_off rfl rfl rfl h41 (wl_off rfl rfl rfl h41 (wl_off rfl rfl rfl h41 (wl_off rfl rfl rfl h41 (wl_pick_t rfl rfl h41 rfl (WL.nil ?_)))))))))
     exact fun a ha => hJ32 (true) _ hF hB38 (hS39.sel [0] rfl) a (ha.sub ⟨rfl, rfl, rfl, rfl, rfl, trivial⟩)
    ·replace hF := ifN h41 hF
     refine wl_on rfl rfl h41 (wl_move rfl rfl (wl_on rfl rfl h41 (wl_lenr (e := ty_38) (l := u21) Tryz.underlying51 rfl rfl hv25 (wl_on rfl rfl h41 (wl_field (o := 0) (off' := 0) ff_27_0 rfl rfl rfl (wl_on rfl rfl h41 (wl_load_blk (i := 0) (vs := [v0_0]) (v := v0_0) tf_24 rfl rfl hS39 rfl rfl rfl (wl_on rfl rfl h41 ?_))))))))
     obtain ⟨u42, hu42, hF⟩ := bindE hF
     refine wl_index (e := ty_51) Tryz.underlying24 rfl rfl rfl h0_0 hu42 ?_
     rintro p43 _ ⟨v45, rfl, hv46⟩ hp44
     refine wl_on rfl rfl h41 (wl_load_p (vs := [v45]) (v := v45) tf_51 rfl rfl (hp44.ro hB38) rfl rfl (wl_on rfl rfl h41 (wl_lenr (e := ty_38) (l := u42) Tryz.underlying51 rfl rfl hv46 (wl_on rfl rfl h41 (wl_neq rfl rfl rfl (wl_pick_f rfl rfl h41 rfl (WL.nil ?_)))))))
     exact fun a ha => hJ32 (((List.length u21 : Int) != (List.length u42 : Int))) _ hF hB38 (hS39.sel [0] rfl) a (ha.sub ⟨rfl, rfl, rfl, rfl, rfl, trivial⟩)
   ·replace hF := ifN h18 hF
    refine W.exit fun a ha => hK7 _ _ (W.seq fun K47 hK47 => ?_) a ha
    obtain ⟨k52, hk52, hF⟩ := jE1 hF
    have hJ53 : ∀ (y51 : Bool) (w48 : World) (_ : k52 y51 = some r) (_ : Below w0.heap.size w0 w48) (_ : Sep w0.heap.size w48 []), ∀ a, St 55 [(2, (.bool y51))] a → K47 a w48 := by
     intro y51 w48 hF hB49 hS50
     subst hk52
     refine fun a ha => hK47 _ _ (W.ret ?_) a ha
     have hr := Option.some.inj hF
     subst hr
     exact rets (vs := [(.bool y51)]) hQ rfl ⟨rv_tmp rfl, trivial⟩ ⟨rfl, hB49⟩
    refine W.region (wl_field (o := 0) (off' := 0) ff_27_0 rfl rfl rfl (wl_load_blk (i := 0) (vs := [v0_0]) (v := v0_0) tf_24 rfl rfl hS11 rfl rfl rfl (wl_lenr (e := ty_51) (l := x0.1) Tryz.underlying24 rfl rfl h0_0 ?_)))
    obtain ⟨u54, hu54, hF⟩ := bindE hF
    refine wl_call rfl Tryz.call71 (C_spec_l1In w9 (List.length x0.1 : Int) 2 8 _ hu54) rfl ?_
    rintro _ w55 ⟨rfl, hb56⟩
    refine ⟨_, rfl, ?_⟩
    have hB57 := hB10.trans (hb56.mono hB10.size)
    have hS58 := hS11.below hb56
    refine wl_move rfl rfl ?_
    rcases bE u54 with h60 | h60
    ·replace hF := ifP h60 hF
     refine wl_on rfl rfl h60 (wl_field (o := 1) (off' := 1) ff_27_1 rfl rfl rfl (wl_on rfl rfl h60 (wl_load_blk (i := 0) (vs := [v0_1]) (v := v0_1) tf_25 rfl rfl hS58 rfl rfl rfl (wl_on rfl rfl h60 (wl_lenr (e := ty_3) (l := x0.2.1) Tryz.underlying25 rfl rfl h0_1 (wl_on rfl rfl h60 (wl_field (o := 0) (off' := 0) ff_27_0 rfl rfl rfl (wl_on rfl rfl h60 (wl_load_blk (i := 0) (vs := [v0_0]) (v := v0_0) tf_24 rfl rfl hS58 rfl rfl rfl (wl_on rfl rfl h60 (wl_lenr (e := ty_51) (l := x0.1) Tryz.underlying24 rfl rfl h0_0 (wl_on rfl rfl h60 (wl_sub rfl rfl rfl ?_)))))))))))))
     refine wl_on rfl rfl h60 (wl_eql rfl rfl rfl (wl_pick_t rfl rfl h60 rfl (wl_move rfl rfl ?_)))
     rcases bE ((List.length x0.2.1 : Int) == (w64 ((List.length x0.1 : Int) - 1))) with h61 | h61
     ·replace hF := ifP h61 hF
      refine wl_on rfl rfl h61 (wl_field (o := 1) (off' := 1) ff_27_1 rfl rfl rfl (wl_on rfl rfl h61 (wl_load_blk (i := 0) (vs := [v0_1]) (v := v0_1) tf_25 rfl rfl hS58 rfl rfl rfl (wl_on rfl rfl h61 ?_))))
      obtain ⟨u62, hu62, hF⟩ := bindE hF
      refine wl_call rfl Tryz.call72 (C_spec_l1All w55 x0.2.1 v0_1 (h0_1.ro hB57) 1 64 _ hu62) rfl ?_
      rintro _ w63 ⟨rfl, hb64⟩
      refine ⟨_, rfl, ?_⟩
      have hB65 := hB57.trans (hb64.mono hB57.size)
      have hS66 := hS58.below hb64
      refine wl_pick_t rfl rfl h61 rfl (wl_move rfl rfl ?_)
      rcases bE u62 with h68 | h68
      ·replace hF := ifP h68 hF
       refine wl_on rfl rfl h68 (wl_field (o := 2) (off' := 2) ff_27_2 rfl rfl rfl (wl_on rfl rfl h68 (wl_load_blk (i := 0) (vs := [(.int .i64 x0.2.2.1)]) (v := (.int .i64 x0.2.2.1)) tf_3 rfl rfl hS66 rfl rfl rfl (wl_on rfl rfl h68 ?_))))
       obtain ⟨u69, hu69, hF⟩ := bindE hF
       refine wl_call rfl Tryz.call73 (C_spec_apDistance w63 x0.2.2.1 _ hu69) rfl ?_
       rintro _ w70 ⟨rfl, hb71⟩
       refine ⟨_, rfl, ?_⟩
       have hB72 := hB65.trans (hb71.mono hB65.size)
       have hS73 := hS66.below hb71
       refine wl_pick_t rfl rfl h68 rfl (wl_move rfl rfl ?_)
       rcases bE u69 with h75 | h75
       ·replace hF := ifP h75 hF
        refine wl_on rfl rfl h75 (wl_field (o := 3) (off' := 3) ff_27_3 rfl rfl rfl (wl_on rfl rfl h75 (wl_load_blk (i := 0) (vs := [(.int .i64 x0.2.2.2)]) (v := (.int .i64 x0.2.2.2)) tf_3 rfl rfl hS73 rfl rfl rfl (wl_on rfl rfl h75 ?_))))
        obtain ⟨u76, hu76, hF⟩ := bindE hF
        refine wl_call rfl Tryz.call74 (C_spec_mvStep w70 x0.2.2.2 _ hu76) rfl ?_
        rintro _ w77 ⟨rfl, hb78⟩
        refine ⟨_, rfl, ?_⟩
        have hB79 := hB72.trans (hb78.mono hB72.size)
        have hS80 := hS73.below hb78
        refine wl_pick_t rfl rfl h75 rfl (wl_assign rfl rfl (WL.nil ?_))
        exact fun a ha => hJ53 (u76) _ hF hB79 (hS80.sel [] rfl) a (ha.sub ⟨rfl, trivial⟩)
       ·replace hF := ifN h75 hF
        refine wl_off rfl rfl rfl h75 (wl_off rfl rfl rfl h75 (wl_off rfl rfl rfl h75 (wl_pick_f rfl rfl h75 rfl (wl_assign rfl rfl (WL.nil ?_)))))
        exact fun a ha => hJ53 (false) _ hF hB72 (hS73.sel [] rfl) a (ha.sub ⟨rfl, trivial⟩)
      ·replace hF := ifN h68 hF
       refine wl_off rfl rfl rfl h68 (wl_off rfl rfl rfl h68 (wl_off rfl rfl rfl h68 (wl_pick_f rfl rfl h68 rfl (wl_move rfl rfl (wl_off rfl rfl rfl rfl (wl_off rfl rfl rfl rfl (wl_off rfl rfl rfl rfl (wl_pick_f rfl rfl rfl rfl (wl_assign rfl rfl (WL.nil ?_))))))))))
       exact fun a ha => hJ53 (false) _ hF hB65 (hS66.sel [] rfl) a (ha.sub ⟨rfl, trivial⟩)
     ·replace hF := ifN h61 hF
      refine wl_off rfl rfl rfl h61 (wl_off rfl rfl rfl h61 (wl_off rfl rfl rfl h61 (wl_pick_f rfl rfl h61 rfl (wl_move rfl rfl (wl_off rfl rfl rfl rfl (wl_off rfl rfl rfl rfl (wl_off rfl rfl rfl rfl (wl_pick_f rfl rfl rfl rfl (wl_move rfl rfl (wl_off rfl rfl rfl rfl (wl_off rfl rfl rfl rfl (wl_off rfl rfl rfl rfl (wl_pick_f rfl rfl rfl rfl ?_)))))))))))))
      refine wl_assign rfl rfl (WL.nil ?_)
      exact fun a ha => hJ53 (false) _ hF hB57 (hS58.sel [] rfl) a (ha.sub ⟨rfl, trivial⟩)
    ·replace hF := ifN h60 hF
     refine wl_off rfl rfl rfl h60 (wl_off rfl rfl rfl h60 (wl_off rfl rfl rfl h60 (wl_off rfl rfl rfl h60 (wl_off rfl rfl rfl h60 (wl_off rfl rfl rfl h60 (wl_off rfl rfl rfl h60 (wl_off rfl rfl rfl h60 (wl_pick_f rfl rfl h60 rfl (wl_move rfl rfl (wl_off rfl rfl rfl rfl (wl_off rfl rfl rfl rfl (wl_off rfl rfl rfl rfl (wl_pick_f rfl rfl rfl rfl ?_)))))))))))))
     refine wl_move rfl rfl (wl_off rfl rfl rfl rfl (wl_off rfl rfl rfl rfl (wl_off rfl rfl rfl rfl (wl_pick_f rfl rfl rfl rfl (wl_move rfl rfl (wl_off rfl rfl rfl rfl (wl_off rfl rfl rfl rfl (wl_off rfl rfl rfl rfl (wl_pick_f rfl rfl rfl rfl (wl_assign rfl rfl (WL.nil ?_)))))))))))
     exact fun a ha => hJ53 (false) _ hF hB57 (hS58.sel [] rfl) a (ha.sub ⟨rfl, trivial⟩)
theorem C_spec_swMoves (w0 : World) (x0 : ((List (List (Int × Int))) × (List Int) × Int × Int)) (v0_0 : Value) (h0_0 : rdS ty_51 (· < w0.heap.size) w0 v0_0 x0.1) (v0_1 : Value) (h0_1 : rdS ty_3 (· < w0.heap.size) w0 v0_1 x0.2.1) (x1 : Int) (r : (List ((Int × Int) × (Int × Int) × Int))) (hF : F_spec_swMoves x0 x1 = some r) :
  Calls Tryz.prog 36 [(.agg #[v0_0, v0_1, (.int .i64 x0.2.2.1), (.int .i64 x0.2.2.2)]), (.int .i64 x1)].toArray w0 fun e w' => ∃ (q0 : Value) (G0 : List Nat), e = .returned q0 ∧ Below w0.heap.size w0 w' ∧ Sep w0.heap.size w' [R.own ty_40 G0 q0 r] := by
 refine calls_mk' Tryz.func36 rfl Tryz.ntmps36 rfl rfl fun Q hQ hP => ?_
 have hB : Below w0.heap.size w0 w0 := Below.refl _ _
 have hS : Sep w0.heap.size w0 [] := Sep.nil _ _
 unfold F_spec_swMoves at hF
 refine W.seq fun K1 hK1 => W.region (wl_box (cs := [v0_0, v0_1, (.int .i64 x0.2.2.1), (.int .i64 x0.2.2.2)]) rfl rfl rfl hB hS ?_)
 intro b2 w3 hb4 hB5 hS6
 refine wl_assign rfl rfl (WL.nil (fun a ha => hK1 _ _ (W.seq fun K7 hK7 => (W.region (wl_assign rfl rfl (WL.nil (fun a ha => hK7 _ _ (W.seq fun K8 hK8 => (W.seq fun K9 hK9 => (W.region (wl_field (o := 0) (off' := 0) ff_27_0 rfl rfl rfl (wl_load_blk (i := 0) (vs := [v0_0]) (v := v0_0) tf_24 rfl rfl hS6 rfl rfl rfl (wl_move rfl rfl ?_)))))) a ha))))) a ha))
 obtain ⟨u10, hu10, hF⟩ := bindE hF
 refine wl_index (e := ty_51) Tryz.underlying24 rfl rfl rfl h0_0 hu10 ?_
 rintro p11 _ ⟨v13, rfl, hv14⟩ hp12
 refine wl_load_p (vs := [v13]) (v := v13) tf_51 rfl rfl (hp12.ro hB5) rfl rfl (wl_lenr (e := ty_38) (l := u10) Tryz.underlying51 rfl rfl hv14 (wl_move rfl rfl (WL.nil (fun a ha => hK9 _ _ (W.block (W.loopk (fun m a w15 => ∃ (l18 : (List ((Int × Int) × (Int × Int) × Int))) (y21 : Int) (v19 : Value) (F20 : List Nat), St 40 [(1, (.int .i64 x1)), (2, (.pointer (some ⟨b2, 0, none⟩))), (5, v19), (12, v13), (13, (.int .i64 (List.length u10 : Int))), (14, (.int .i64 y21))] a ∧ Below w0.heap.size w0 w15 ∧ Sep w0.heap.size w15 [R.blk b2 27 [v0_0, v0_1, (.int .i64 x0.2.2.1), (.int .i64 x0.2.2.2)], R.own ty_40 F20 v19 l18] ∧ F_spec_swMoves_L1 u10 x0 x1 m l18 y21 = some r) FU ?_ ?_)) a ha))))
 ·
  have hS23 := hS6.push0 (r := R.own ty_40 [] (.slice none 0 0) []) rfl fun _ => .inl ⟨rfl, rfl, rfl⟩
  exact fun a ha => ⟨[], 0, (.slice none 0 0), [], ha.sub ⟨rfl, rfl, rfl, rfl, rfl, rfl, trivial⟩, hB5, (hS23.sel [1, 0] rfl), hF⟩
 ·
  rintro m25 a w15 ⟨l18, y21, v19, F20, ha, hB16, hS17, hF⟩ KL24 hKL24
  refine W.at ?_ ha
  cases m25 with
  | zero => exact noneE hF
  | succ m25 =>
   obtain ⟨nx22, hnx22⟩ : ∃ k, k = F_spec_swMoves_L1 u10 x0 x1 m25 := ⟨_, rfl⟩
   rw [F_spec_swMoves_L1, ← hnx22] at hF
   refine W.seq fun K26 hK26 => W.region (wl_lss rfl rfl rfl (WL.nil (fun a ha => hK26 _ _ (W.seq fun K27 hK27 => (W.cond rfl (fun h28 => ?_) (fun h28 => ?_))) a ha)))
   ·replace hF := ifP h28 hF
    refine W.skip fun a ha => hK27 _ _ (W.seq fun K29 hK29 => (W.block (W.seq fun K30 hK30 => (W.region (wl_move rfl rfl ?_))))) a ha
    obtain ⟨u31, hu31, hF⟩ := bindE hF
    refine wl_index (e := ty_38) Tryz.underlying51 rfl rfl rfl hv14 hu31 ?_
    rintro p32 _ rfl hp33
    refine wl_load_p (vs := [(.int .i64 u31.1), (.int .i64 u31.2)]) (v := (.agg #[(.int .i64 u31.1), (.int .i64 u31.2)])) tf_38 rfl rfl (hp33.ro hB16) rfl rfl (wl_alloc (cs := [(.int .i64 0), (.int .i64 0)]) tf_38 rfl rfl hB16 hS17 ?_)
    intro b34 w35 hb36 hB37 hS38
    refine wl_assign rfl rfl (wl_store_blk (i := 0) (vs := [(.int .i64 u31.1), (.int .i64 u31.2)]) (cs' := [(.int .i64 u31.1), (.int .i64 u31.2)]) tf_38 rfl rfl rfl rfl hB37 hS38 rfl rfl ⟨rfl, rfl, trivial⟩ rfl ?_)
    intro w39 hk42 hB40 hS41
    refine WL.nil fun a ha => hK30 _ _ (W.regionH mixed_ F20 hB40 hS41 ?_) a ha
    intro w43 hb44 hB45 hS46
    have hSW47 := KeepX.refl w43 F20
    refine WH.tk 0 rfl hP hSW47 (pr_move rfl rfl (WH.tk 1 rfl hP hSW47 (pr_load_blk (i := 0) (vs := [(.int .i64 u31.1), (.int .i64 u31.2)]) (v := (.agg #[(.int .i64 u31.1), (.int .i64 u31.2)])) tf_38 rfl rfl hS46 rfl rfl rfl (hS46.disj (i := 0) (j := 2) rfl rfl rfl b34 (by simp [R.blk])) (WH.tk 2 rfl hP hSW47 (pr_field (o := 0) (off' := 0) ff_27_0 rfl rfl rfl (WH.tk 3 rfl hP hSW47 (pr_load_blk (i := 1) (vs := [v0_0]) (v := v0_0) tf_24 rfl rfl hS46 rfl rfl rfl (hS46.disj (i := 1) (j := 2) rfl rfl rfl b2 (by simp [R.blk])) (WH.tk 4 rfl hP hSW47 (pr_move rfl rfl (WH.tk 5 rfl hP hSW47 (pr_add rfl rfl rfl ?_)))))))))))
    obtain ⟨u48, hu48, hF⟩ := bindE hF
    refine WH.tk 6 rfl hP hSW47 (pr_index (e := ty_51) Tryz.underlying24 rfl rfl rfl h0_0 hu48 ?_)
    rintro p49 _ ⟨v51, rfl, hv52⟩ hp50
    refine WH.tk 7 rfl hP hSW47 (pr_load_p (vs := [v51]) (v := v51) tf_51 rfl rfl (hp50.kx hB45 (fun b hb => (((hS46.get (i := 2) rfl).2.1 b hb).1))) rfl rfl (WH.tk 8 rfl hP hSW47 (pr_move rfl rfl ?_)))
    obtain ⟨u53, hu53, hF⟩ := bindE hF
    refine WH.tk 9 rfl hP hSW47 (pr_index (e := ty_38) Tryz.underlying51 rfl rfl rfl hv52 hu53 ?_)
    rintro p54 _ rfl hp55
    refine WH.tk 10 rfl hP hSW47 (pr_load_p (vs := [(.int .i64 u53.1), (.int .i64 u53.2)]) (v := (.agg #[(.int .i64 u53.1), (.int .i64 u53.2)])) tf_38 rfl rfl (hp55.kx hB45 (fun b hb => (((hS46.get (i := 2) rfl).2.1 b hb).1))) rfl rfl (WH.tk 11 rfl hP hSW47 (pr_field (o := 1) (off' := 1) ff_27_1 rfl rfl rfl (WH.tk 12 rfl hP hSW47 (pr_load_blk (i := 1) (vs := [v0_1]) (v := v0_1) tf_25 rfl rfl hS46 rfl rfl rfl (hS46.disj (i := 1) (j := 2) rfl rfl rfl b2 (by simp [R.blk])) (WH.tk 13 rfl hP hSW47 (pr_move rfl rfl ?_)))))))
    obtain ⟨u56, hu56, hF⟩ := bindE hF
    refine WH.tk 14 rfl hP hSW47 (pr_index (e := ty_3) Tryz.underlying25 rfl rfl rfl h0_1 hu56 ?_)
    rintro p57 _ rfl hp58
    refine WH.tk 15 rfl hP hSW47 (pr_load_p (vs := [(.int .i64 u56)]) (v := (.int .i64 u56)) tf_3 rfl rfl (hp58.kx hB45 (fun b hb => (((hS46.get (i := 2) rfl).2.1 b hb).1))) rfl rfl (WH.tk 16 rfl hP hSW47 (pr_build (zs := [(.int .i64 0), (.int .i64 0), (.int .i64 0), (.int .i64 0), (.int .i64 0)]) (out := [(.int .i64 u31.1), (.int .i64 u31.2), (.int .i64 u53.1), (.int .i64 u53.2), (.int .i64 u56)]) (vs := [(.agg #[(.int .i64 u31.1), (.int .i64 u31.2)]), (.agg #[(.int .i64 u53.1), (.int .i64 u53.2)]), (.int .i64 u56)]) (css := [[(.int .i64 u31.1), (.int .i64 u31.2)], [(.int .i64 u53.1), (.int .i64 u53.2)], [(.int .i64 u56)]]) tf_40 pl_40 rfl rfl rfl rfl rfl (WH.on1 17 rfl ?_))))
    refine wl_lit (vs := [(.agg #[(.int .i64 u31.1), (.int .i64 u31.2), (.int .i64 u53.1), (.int .i64 u53.2), (.int .i64 u56)])]) (l := [(u31, u53, u56)]) fl_40 Tryz.underlying33 rfl rfl rfl rfl rfl rfl (Below.self w43) (Sep.nil _ _) ?_
    intro v59 F60 w61 hb62 hB65 hM66
    have hB63 := hB45.trans (hb62.mono hB45.size)
    have hS64 := hS46.join hb62 hM66 hB45.size
    have hSW68 := hSW47.ext hb62
    refine WL.nil (WH.ret hSW68 (WH.on1 18 rfl ?_))
    obtain ⟨u70, hu70, hF⟩ := bindE hF
    refine wl_append (i := 3) (S := (· < w61.heap.size)) fl_40 Tryz.underlying33 rfl rfl rfl hB63 hS64 rfl (hS64.own_ro (i := 0) rfl) hu70 ?_
    intro v71 F72 w73 hk74 hB75 hS76
    have hSW77 := hSW68.wr' hk74.1 hk74.2.1 (fun _ _ h => h)
    refine WL.nil (WH.ret hSW77 (WH.tk 19 rfl hP hSW77 (pr_assign rfl rfl (WH.done (by kernel_rfl) (fun a ha => hK29 _ _ (W.region (wl_add rfl rfl rfl (wl_move rfl rfl (WL.nil ?_)))) a ha)))))
    rw [hnx22] at hF
    exact fun a ha => hKL24 a _ m25 (Nat.lt_succ_self m25) ⟨u70, (w64 (y21 + 1)), v71, F72, ha.sub ⟨rfl, rfl, rfl, rfl, rfl, rfl, trivial⟩, hB75, (hS76.sel [2, 3] rfl), hF⟩
   ·replace hF := ifN h28 hF
    refine W.exit fun a ha => hK8 _ _ (W.seq fun K79 hK79 => (W.region (wl_move rfl rfl (wl_assign rfl rfl (WL.nil (fun a ha => hK79 _ _ (W.ret ?_) a ha)))))) a ha
    have hr := Option.some.inj hF
    subst hr
    exact rets (vs := [v19]) hQ rfl ⟨rv_tmp rfl, trivial⟩ ⟨v19, F20, rfl, hB16, hS17.sel [1] rfl⟩
theorem C_spec_apEnds (w0 : World) (x0 : ((Int × Int) × (Int × Int) × Int)) (x1 : ((Int × Int) × (Int × Int) × Int)) (r : (Int × Int × Int × Int)) (hF : F_spec_apEnds x0 x1 = some r) :
  Calls Tryz.prog 123 [(.agg #[(.int .i64 x0.1.1), (.int .i64 x0.1.2), (.int .i64 x0.2.1.1), (.int .i64 x0.2.1.2), (.int .i64 x0.2.2)]), (.agg #[(.int .i64 x1.1.1), (.int .i64 x1.1.2), (.int .i64 x1.2.1.1), (.int .i64 x1.2.1.2), (.int .i64 x1.2.2)])].toArray w0 fun e w' => e = .returned (.tuple #[(.int .i64 r.1), (.int .i64 r.2.1), (.int .i64 r.2.2.1), (.int .i64 r.2.2.2)]) ∧ Below w0.heap.size w0 w' := by
 refine calls_mk' Tryz.func123 rfl Tryz.ntmps123 rfl rfl fun Q hQ hP => ?_
 have hB : Below w0.heap.size w0 w0 := Below.refl _ _
 have hS : Sep w0.heap.size w0 [] := Sep.nil _ _
 unfold F_spec_apEnds at hF
 refine W.seq fun K1 hK1 => W.region (wl_box (cs := [(.int .i64 x0.1.1), (.int .i64 x0.1.2), (.int .i64 x0.2.1.1), (.int .i64 x0.2.1.2), (.int .i64 x0.2.2)]) rfl rfl rfl hB hS ?_)
 intro b2 w3 hb4 hB5 hS6
 refine wl_box (cs := [(.int .i64 x1.1.1), (.int .i64 x1.1.2), (.int .i64 x1.2.1.1), (.int .i64 x1.2.1.2), (.int .i64 x1.2.2)]) rfl rfl rfl hB5 hS6 ?_
 intro b7 w8 hb9 hB10 hS11
 refine wl_assign rfl rfl (wl_assign rfl rfl (wl_assign rfl rfl (wl_assign rfl rfl (WL.nil (fun a ha => hK1 _ _ (W.seq fun K12 hK12 => (W.regionH mixed_ [] hB10 hS11 ?_)) a ha)))))
 intro w13 hb14 hB15 hS16
 have hSW17 := KeepX.refl w13 []
 refine WH.tk 0 rfl hP hSW17 (pr_field (o := 0) (off' := 0) ff_40_0 rfl rfl rfl (WH.tk 1 rfl hP hSW17 (pr_field (o := 0) (off' := 0) ff_38_0 rfl rfl rfl (WH.tk 2 rfl hP hSW17 (pr_load_blk (i := 1) (vs := [(.int .i64 x0.1.1)]) (v := (.int .i64 x0.1.1)) tf_3 rfl rfl hS16 rfl rfl rfl (by simp) (WH.tk 3 rfl hP hSW17 (pr_field (o := 0) (off' := 0) ff_40_0 rfl rfl rfl (WH.tk 4 rfl hP hSW17 (pr_field (o := 0) (off' := 0) ff_38_0 rfl rfl rfl (WH.tk 5 rfl hP hSW17 (pr_load_blk (i := 0) (vs := [(.int .i64 x1.1.1)]) (v := (.int .i64 x1.1.1)) tf_3 rfl rfl hS16 rfl rfl rfl (by simp) (WH.tk 6 rfl hP hSW17 (pr_sub rfl rfl rfl ?_)))))))))))))
 refine WH.tk 7 rfl hP hSW17 (pr_field (o := 0) (off' := 0) ff_40_0 rfl rfl rfl (WH.tk 8 rfl hP hSW17 (pr_field (o := 1) (off' := 1) ff_38_1 rfl rfl rfl (WH.tk 9 rfl hP hSW17 (pr_load_blk (i := 1) (vs := [(.int .i64 x0.1.2)]) (v := (.int .i64 x0.1.2)) tf_3 rfl rfl hS16 rfl rfl rfl (by simp) (WH.tk 10 rfl hP hSW17 (pr_field (o := 0) (off' := 0) ff_40_0 rfl rfl rfl (WH.tk 11 rfl hP hSW17 (pr_field (o := 1) (off' := 1) ff_38_1 rfl rfl rfl (WH.tk 12 rfl hP hSW17 (pr_load_blk (i := 0) (vs := [(.int .i64 x1.1.2)]) (v := (.int .i64 x1.1.2)) tf_3 rfl rfl hS16 rfl rfl rfl (by simp) (WH.tk 13 rfl hP hSW17 (pr_sub rfl rfl rfl ?_)))))))))))))
 refine WH.tk 14 rfl hP hSW17 (pr_field (o := 2) (off' := 2) ff_40_1 rfl rfl rfl (WH.tk 15 rfl hP hSW17 (pr_field (o := 0) (off' := 2) ff_38_0 rfl rfl rfl (WH.tk 16 rfl hP hSW17 (pr_load_blk (i := 1) (vs := [(.int .i64 x0.2.1.1)]) (v := (.int .i64 x0.2.1.1)) tf_3 rfl rfl hS16 rfl rfl rfl (by simp) (WH.tk 17 rfl hP hSW17 (pr_field (o := 2) (off' := 2) ff_40_1 rfl rfl rfl (WH.tk 18 rfl hP hSW17 (pr_field (o := 0) (off' := 2) ff_38_0 rfl rfl rfl (WH.tk 19 rfl hP hSW17 (pr_load_blk (i := 0) (vs := [(.int .i64 x1.2.1.1)]) (v := (.int .i64 x1.2.1.1)) tf_3 rfl rfl hS16 rfl rfl rfl (by simp) (WH.tk 20 rfl hP hSW17 (pr_sub rfl rfl rfl ?_)))))))))))))
 refine WH.tk 21 rfl hP hSW17 (pr_field (o := 2) (off' := 2) ff_40_1 rfl rfl rfl (WH.tk 22 rfl hP hSW17 (pr_field (o := 1) (off' := 3) ff_38_1 rfl rfl rfl (WH.tk 23 rfl hP hSW17 (pr_load_blk (i := 1) (vs := [(.int .i64 x0.2.1.2)]) (v := (.int .i64 x0.2.1.2)) tf_3 rfl rfl hS16 rfl rfl rfl (by simp) (WH.tk 24 rfl hP hSW17 (pr_field (o := 2) (off' := 2) ff_40_1 rfl rfl rfl (WH.tk 25 rfl hP hSW17 (pr_field (o := 1) (off' := 3) ff_38_1 rfl rfl rfl (WH.tk 26 rfl hP hSW17 (pr_load_blk (i := 0) (vs := [(.int .i64 x1.2.1.2)]) (v := (.int .i64 x1.2.1.2)) tf_3 rfl rfl hS16 rfl rfl rfl (by simp) (WH.tk 27 rfl hP hSW17 (pr_sub rfl rfl rfl ?_)))))))))))))
 refine WH.tk 28 rfl hP hSW17 (pr_assign rfl rfl (WH.tk 29 rfl hP hSW17 (pr_assign rfl rfl (WH.tk 30 rfl hP hSW17 (pr_assign rfl rfl (WH.tk 31 rfl hP hSW17 (pr_assign rfl rfl (WH.done (by kernel_rfl) (fun a ha => hK12 _ _ (W.ret ?_) a ha)))))))))
 have hr := Option.some.inj hF
 subst hr
 exact rets (vs := [(.int .i64 (w64 (x0.1.1 - x1.1.1))), (.int .i64 (w64 (x0.1.2 - x1.1.2))), (.int .i64 (w64 (x0.2.1.1 - x1.2.1.1))), (.int .i64 (w64 (x0.2.1.2 - x1.2.1.2)))]) hQ rfl ⟨rv_tmp rfl, rv_tmp rfl, rv_tmp rfl, rv_tmp rfl, trivial⟩ ⟨rfl, hB15⟩
theorem C_spec_apInner (w0 : World) (x0 : ((Int × Int) × (Int × Int) × Int)) (x1 : ((Int × Int) × (Int × Int) × Int)) (r : (Int × Int)) (hF : F_spec_apInner x0 x1 = some r) :
  Calls Tryz.prog 124 [(.agg #[(.int .i64 x0.1.1), (.int .i64 x0.1.2), (.int .i64 x0.2.1.1), (.int .i64 x0.2.1.2), (.int .i64 x0.2.2)]), (.agg #[(.int .i64 x1.1.1), (.int .i64 x1.1.2), (.int .i64 x1.2.1.1), (.int .i64 x1.2.1.2), (.int .i64 x1.2.2)])].toArray w0 fun e w' => e = .returned (.tuple #[(.int .i64 r.1), (.int .i64 r.2)]) ∧ Below w0.heap.size w0 w' := by
 refine calls_mk' Tryz.func124 rfl Tryz.ntmps124 rfl rfl fun Q hQ hP => ?_
 have hB : Below w0.heap.size w0 w0 := Below.refl _ _
 have hS : Sep w0.heap.size w0 [] := Sep.nil _ _
 unfold F_spec_apInner at hF
 refine W.seq fun K1 hK1 => W.region (wl_box (cs := [(.int .i64 x0.1.1), (.int .i64 x0.1.2), (.int .i64 x0.2.1.1), (.int .i64 x0.2.1.2), (.int .i64 x0.2.2)]) rfl rfl rfl hB hS ?_)
 intro b2 w3 hb4 hB5 hS6
 refine wl_box (cs := [(.int .i64 x1.1.1), (.int .i64 x1.1.2), (.int .i64 x1.2.1.1), (.int .i64 x1.2.1.2), (.int .i64 x1.2.2)]) rfl rfl rfl hB5 hS6 ?_
 intro b7 w8 hb9 hB10 hS11
 refine wl_assign rfl rfl (wl_assign rfl rfl (WL.nil (fun a ha => hK1 _ _ (W.seq fun K12 hK12 => (W.region (wl_load_blk (i := 1) (vs := [(.int .i64 x0.1.1), (.int .i64 x0.1.2), (.int .i64 x0.2.1.1), (.int .i64 x0.2.1.2), (.int .i64 x0.2.2)]) (v := (.agg #[(.int .i64 x0.1.1), (.int .i64 x0.1.2), (.int .i64 x0.2.1.1), (.int .i64 x0.2.1.2), (.int .i64 x0.2.2)])) tf_40 rfl rfl hS11 rfl rfl rfl (wl_load_blk (i := 0) (vs := [(.int .i64 x1.1.1), (.int .i64 x1.1.2), (.int .i64 x1.2.1.1), (.int .i64 x1.2.1.2), (.int .i64 x1.2.2)]) (v := (.agg #[(.int .i64 x1.1.1), (.int .i64 x1.1.2), (.int .i64 x1.2.1.1), (.int .i64 x1.2.1.2), (.int .i64 x1.2.2)])) tf_40 rfl rfl hS11 rfl rfl rfl ?_)))) a ha)))
 obtain ⟨u13, hu13, hF⟩ := bindE hF
 refine wl_call rfl Tryz.call123 (C_spec_apEnds w8 x0 x1 _ hu13) rfl ?_
 rintro _ w14 ⟨rfl, hb15⟩
 refine ⟨_, rfl, ?_⟩
 have hB16 := hB10.trans (hb15.mono hB10.size)
 have hS17 := hS11.below hb15
 refine wl_move rfl rfl (wl_extract rfl rfl rfl (wl_extract rfl rfl rfl (wl_extract rfl rfl rfl (wl_extract rfl rfl rfl (wl_assign rfl rfl (wl_assign rfl rfl (wl_assign rfl rfl (wl_assign rfl rfl (WL.nil (fun a ha => hK12 _ _ (W.seq fun K19 hK19 => (W.region (wl_move rfl rfl ?_))) a ha))))))))))
 refine wl_move rfl rfl (wl_sub rfl rfl rfl (wl_move rfl rfl (wl_move rfl rfl (wl_sub rfl rfl rfl (wl_assign rfl rfl (wl_assign rfl rfl (WL.nil (fun a ha => hK19 _ _ (W.seq fun K20 hK20 => (W.region (wl_move rfl rfl (wl_move rfl rfl (wl_mul rfl rfl rfl ?_))))) a ha))))))))
 refine wl_move rfl rfl (wl_move rfl rfl (wl_mul rfl rfl rfl (wl_add rfl rfl rfl (wl_neg rfl rfl (wl_move rfl rfl (wl_move rfl rfl (wl_mul rfl rfl rfl (wl_move rfl rfl (wl_move rfl rfl (wl_mul rfl rfl rfl (wl_add rfl rfl rfl (wl_assign rfl rfl (wl_assign rfl rfl ?_)))))))))))))
 refine WL.nil fun a ha => hK20 _ _ (W.seq fun K21 hK21 => (W.seq fun K22 hK22 => ?_)) a ha
 obtain ⟨k27, hk27, hF⟩ := jE1 hF
 have hJ28 : ∀ (y26 : Bool) (w23 : World) (_ : k27 y26 = some r) (_ : Below w0.heap.size w0 w23) (_ : Sep w0.heap.size w23 []), ∀ a, St 52 [(12, (.int .i64 (w64 (0 - (w64 ((w64 (u13.1 * (w64 (u13.2.2.1 - u13.1)))) + (w64 (u13.2.1 * (w64 (u13.2.2.2 - u13.2.1)))))))))), (13, (.int .i64 (w64 ((w64 ((w64 (u13.2.2.1 - u13.1)) * (w64 (u13.2.2.1 - u13.1)))) + (w64 ((w64 (u13.2.2.2 - u13.2.1)) * (w64 (u13.2.2.2 - u13.2.1)))))))), (49, (.bool y26))] a → K22 a w23 := by
  intro y26 w23 hF hB24 hS25
  subst hk27
  refine fun a ha => hK22 _ _ (W.cond rfl (fun h29 => ?_) (fun h29 => ?_)) a ha
  ·replace hF := ifP h29 hF
   refine W.seq fun K30 hK30 => W.region (wl_assign rfl rfl (wl_assign rfl rfl (WL.nil (fun a ha => hK30 _ _ (W.ret ?_) a ha))))
   have hr := Option.some.inj hF
   subst hr
   exact rets (vs := [(.int .i64 0), (.int .i64 0)]) hQ rfl ⟨rv_tmp rfl, rv_tmp rfl, trivial⟩ ⟨rfl, hB24⟩
  ·replace hF := ifN h29 hF
   refine W.skip fun a ha => hK21 _ _ (W.seq fun K31 hK31 => (W.region (wl_move rfl rfl (wl_move rfl rfl (wl_assign rfl rfl (wl_assign rfl rfl (WL.nil (fun a ha => hK31 _ _ (W.ret ?_) a ha)))))))) a ha
   have hr := Option.some.inj hF
   subst hr
   exact rets (vs := [(.int .i64 (w64 (0 - (w64 ((w64 (u13.1 * (w64 (u13.2.2.1 - u13.1)))) + (w64 (u13.2.1 * (w64 (u13.2.2.2 - u13.2.1))))))))), (.int .i64 (w64 ((w64 ((w64 (u13.2.2.1 - u13.1)) * (w64 (u13.2.2.1 - u13.1)))) + (w64 ((w64 (u13.2.2.2 - u13.2.1)) * (w64 (u13.2.2.2 - u13.2.1)))))))]) hQ rfl ⟨rv_tmp rfl, rv_tmp rfl, trivial⟩ ⟨rfl, hB24⟩
 refine W.region (wl_move rfl rfl (wl_leq rfl rfl rfl (wl_move rfl rfl ?_)))
 rcases bE (decide ((w64 (0 - (w64 ((w64 (u13.1 * (w64 (u13.2.2.1 - u13.1)))) + (w64 (u13.2.1 * (w64 (u13.2.2.2 - u13.2.1)))))))) ≤ 0)) with h32 | h32
 ·replace hF := ifP h32 hF
  refine wl_off rfl rfl rfl h32 (wl_off rfl rfl rfl h32 (wl_off rfl rfl rfl h32 (wl_pick_t rfl rfl h32 rfl (WL.nil ?_))))
  exact fun a ha => hJ28 (true) _ hF hB16 (hS17.sel [] rfl) a (ha.sub ⟨rfl, rfl, rfl, trivial⟩)
 ·replace hF := ifN h32 hF
  refine wl_on rfl rfl h32 (wl_move rfl rfl (wl_on rfl rfl h32 (wl_move rfl rfl (wl_on rfl rfl h32 (wl_geq rfl rfl rfl (wl_pick_f rfl rfl h32 rfl (WL.nil ?_)))))))
  exact fun a ha => hJ28 ((decide ((w64 ((w64 ((w64 (u13.2.2.1 - u13.1)) * (w64 (u13.2.2.1 - u13.1)))) + (w64 ((w64 (u13.2.2.2 - u13.2.1)) * (w64 (u13.2.2.2 - u13.2.1)))))) ≤ (w64 (0 - (w64 ((w64 (u13.1 * (w64 (u13.2.2.1 - u13.1)))) + (w64 (u13.2.1 * (w64 (u13.2.2.2 - u13.2.1))))))))))) _ hF hB16 (hS17.sel [] rfl) a (ha.sub ⟨rfl, rfl, rfl, trivial⟩)
theorem C_spec_l1Most (w0 : World) (x0 : Int) (x1 : Int) (r : Int) (hF : F_spec_l1Most x0 x1 = some r) :
  Calls Tryz.prog 139 [(.int .i64 x0), (.int .i64 x1)].toArray w0 fun e w' => e = .returned (.int .i64 r) ∧ Below w0.heap.size w0 w' := by
 refine calls_mk' Tryz.func139 rfl Tryz.ntmps139 rfl rfl fun Q hQ hP => ?_
 have hB : Below w0.heap.size w0 w0 := Below.refl _ _
 unfold F_spec_l1Most at hF
 refine W.seq fun K1 hK1 => W.region (wl_assign rfl rfl (WL.nil (fun a ha => hK1 _ _ (W.seq fun K2 hK2 => (W.seq fun K3 hK3 => (W.region (wl_move rfl rfl (wl_move rfl rfl (wl_gtr rfl rfl rfl (WL.nil (fun a ha => hK3 _ _ (W.cond rfl (fun h4 => ?_) (fun h4 => ?_)) a ha)))))))) a ha)))
 ·replace hF := ifP h4 hF
  refine W.seq fun K5 hK5 => W.region (wl_move rfl rfl (wl_assign rfl rfl (WL.nil (fun a ha => hK5 _ _ (W.ret ?_) a ha))))
  have hr := Option.some.inj hF
  subst hr
  exact rets (vs := [(.int .i64 x0)]) hQ rfl ⟨rv_tmp rfl, trivial⟩ ⟨rfl, hB⟩
 ·replace hF := ifN h4 hF
  refine W.skip fun a ha => hK2 _ _ (W.seq fun K6 hK6 => (W.region (wl_move rfl rfl (wl_assign rfl rfl (WL.nil (fun a ha => hK6 _ _ (W.ret ?_) a ha)))))) a ha
  have hr := Option.some.inj hF
  subst hr
  exact rets (vs := [(.int .i64 x1)]) hQ rfl ⟨rv_tmp rfl, trivial⟩ ⟨rfl, hB⟩
theorem C_spec_l1Abs (w0 : World) (x0 : Int) (r : Int) (hF : F_spec_l1Abs x0 = some r) :
  Calls Tryz.prog 133 [(.int .i64 x0)].toArray w0 fun e w' => e = .returned (.int .i64 r) ∧ Below w0.heap.size w0 w' := by
 refine calls_mk' Tryz.func133 rfl Tryz.ntmps133 rfl rfl fun Q hQ hP => ?_
 have hB : Below w0.heap.size w0 w0 := Below.refl _ _
 unfold F_spec_l1Abs at hF
 refine W.seq fun K1 hK1 => W.region (wl_assign rfl rfl (WL.nil (fun a ha => hK1 _ _ (W.seq fun K2 hK2 => (W.region (wl_move rfl rfl (wl_move rfl rfl (wl_neg rfl rfl ?_))))) a ha)))
 obtain ⟨u3, hu3, hF⟩ := bindE hF
 refine wl_call rfl Tryz.call139 (C_spec_l1Most w0 x0 (w64 (0 - x0)) _ hu3) rfl ?_
 rintro _ w4 ⟨rfl, hb5⟩
 refine ⟨_, rfl, ?_⟩
 have hB6 := hB.trans (hb5.mono hB.size)
 refine wl_assign rfl rfl (WL.nil (fun a ha => hK2 _ _ (W.ret ?_) a ha))
 have hr := Option.some.inj hF
 subst hr
 exact rets (vs := [(.int .i64 u3)]) hQ rfl ⟨rv_tmp rfl, trivial⟩ ⟨rfl, hB6⟩
theorem C_spec_mvPart (w0 : World) (x0 : Int) (x1 : Int) (r : (Int × Int)) (hF : F_spec_mvPart x0 x1 = some r) :
  Calls Tryz.prog 125 [(.int .i64 x0), (.int .i64 x1)].toArray w0 fun e w' => e = .returned (.tuple #[(.int .i64 r.1), (.int .i64 r.2)]) ∧ Below w0.heap.size w0 w' := by
 refine calls_mk' Tryz.func125 rfl Tryz.ntmps125 rfl rfl fun Q hQ hP => ?_
 have hB : Below w0.heap.size w0 w0 := Below.refl _ _
 have hS : Sep w0.heap.size w0 [] := Sep.nil _ _
 unfold F_spec_mvPart at hF
 refine W.seq fun K1 hK1 => W.region (wl_assign rfl rfl (wl_assign rfl rfl (WL.nil (fun a ha => hK1 _ _ (W.seq fun K2 hK2 => (W.region (wl_move rfl rfl ?_))) a ha))))
 obtain ⟨u3, hu3, hF⟩ := bindE hF
 refine wl_call rfl Tryz.call133 (C_spec_l1Abs w0 x0 _ hu3) rfl ?_
 rintro _ w4 ⟨rfl, hb5⟩
 refine ⟨_, rfl, ?_⟩
 have hB6 := hB.trans (hb5.mono hB.size)
 have hS7 := hS.below hb5
 refine wl_move rfl rfl (wl_assign rfl rfl (wl_assign rfl rfl (WL.nil (fun a ha => hK2 _ _ (W.seq fun K9 hK9 => (W.block (W.loopk (fun m a w10 => ∃ (y13 : Int) (y14 : Int), St 25 [(0, (.int .i64 x0)), (1, (.int .i64 x1)), (6, (.int .i64 y13)), (7, (.int .i64 y14))] a ∧ Below w0.heap.size w0 w10 ∧ Sep w0.heap.size w10 [] ∧ F_spec_mvPart_L1 x0 x1 m y13 y14 = some r) FU ?_ ?_))) a ha))))
 ·
  exact fun a ha => ⟨u3, x1, ha.sub ⟨rfl, rfl, rfl, rfl, trivial⟩, hB6, (hS7.sel [] rfl), hF⟩
 ·
  rintro m17 a w10 ⟨y13, y14, ha, hB11, hS12, hF⟩ KL16 hKL16
  refine W.at ?_ ha
  cases m17 with
  | zero => exact noneE hF
  | succ m17 =>
   obtain ⟨nx15, hnx15⟩ : ∃ k, k = F_spec_mvPart_L1 x0 x1 m17 := ⟨_, rfl⟩
   rw [F_spec_mvPart_L1, ← hnx15] at hF
   refine W.seq fun K18 hK18 => W.seq fun K19 hK19 => W.region (wl_move rfl rfl (wl_gtr rfl rfl rfl (WL.nil (fun a ha => hK19 _ _ (W.cond rfl (fun h20 => ?_) (fun h20 => ?_)) a ha))))
   ·replace hF := ifP h20 hF
    refine W.skip fun a ha => hK18 _ _ (W.block (W.seq fun K21 hK21 => (W.region (wl_move rfl rfl (wl_move rfl rfl ?_))))) a ha
    have h22 : y14 ≠ 0 := fun h22 => noneE (ifP h22 hF)
    replace hF := ifNP h22 hF
    refine wl_rem rfl rfl rfl h22 (wl_assign rfl rfl (WL.nil (fun a ha => hK21 _ _ (W.seq fun K23 hK23 => (W.region (wl_move rfl rfl (wl_assign rfl rfl (WL.nil (fun a ha => hK23 _ _ (W.region (wl_move rfl rfl (wl_assign rfl rfl (WL.nil ?_)))) a ha)))))) a ha)))
    rw [hnx15] at hF
    exact fun a ha => hKL16 a _ m17 (Nat.lt_succ_self m17) ⟨y14, (Int.tmod y13 y14), ha.sub ⟨rfl, rfl, rfl, rfl, trivial⟩, hB11, (hS12.sel [] rfl), hF⟩
   ·replace hF := ifN h20 hF
    refine W.exit fun a ha => hK9 _ _ (W.seq fun K24 hK24 => (W.regionH mixed_ [] hB11 hS12 ?_)) a ha
    intro w25 hb26 hB27 hS28
    have hSW29 := KeepX.refl w25 []
    refine WH.tk 0 rfl hP hSW29 (pr_move rfl rfl (WH.tk 1 rfl hP hSW29 (pr_move rfl rfl ?_)))
    have h30 : y13 ≠ 0 := fun h30 => noneE (ifP h30 hF)
    replace hF := ifNP h30 hF
    refine WH.tk 2 rfl hP hSW29 (pr_quo rfl rfl rfl h30 (WH.tk 3 rfl hP hSW29 (pr_move rfl rfl (WH.tk 4 rfl hP hSW29 (pr_move rfl rfl ?_)))))
    have h31 : y13 ≠ 0 := fun h31 => noneE (ifP h31 hF)
    replace hF := ifNP h31 hF
    refine WH.tk 5 rfl hP hSW29 (pr_quo rfl rfl rfl h31 (WH.tk 6 rfl hP hSW29 (pr_assign rfl rfl (WH.tk 7 rfl hP hSW29 (pr_assign rfl rfl (WH.done (by kernel_rfl) (fun a ha => hK24 _ _ (W.ret ?_) a ha)))))))
    have hr := Option.some.inj hF
    subst hr
    exact rets (vs := [(.int .i64 (w64 (Int.tdiv x0 y13))), (.int .i64 (w64 (Int.tdiv x1 y13)))]) hQ rfl ⟨rv_tmp rfl, rv_tmp rfl, trivial⟩ ⟨rfl, hB27⟩
theorem C_spec_apLeast (w0 : World) (x0 : ((Int × Int) × (Int × Int) × Int)) (x1 : ((Int × Int) × (Int × Int) × Int)) (r : (Int × Int)) (hF : F_spec_apLeast x0 x1 = some r) :
  Calls Tryz.prog 111 [(.agg #[(.int .i64 x0.1.1), (.int .i64 x0.1.2), (.int .i64 x0.2.1.1), (.int .i64 x0.2.1.2), (.int .i64 x0.2.2)]), (.agg #[(.int .i64 x1.1.1), (.int .i64 x1.1.2), (.int .i64 x1.2.1.1), (.int .i64 x1.2.1.2), (.int .i64 x1.2.2)])].toArray w0 fun e w' => e = .returned (.tuple #[(.int .i64 r.1), (.int .i64 r.2)]) ∧ Below w0.heap.size w0 w' := by
 refine calls_mk' Tryz.func111 rfl Tryz.ntmps111 rfl rfl fun Q hQ hP => ?_
 have hB : Below w0.heap.size w0 w0 := Below.refl _ _
 have hS : Sep w0.heap.size w0 [] := Sep.nil _ _
 unfold F_spec_apLeast at hF
 refine W.seq fun K1 hK1 => W.region (wl_box (cs := [(.int .i64 x0.1.1), (.int .i64 x0.1.2), (.int .i64 x0.2.1.1), (.int .i64 x0.2.1.2), (.int .i64 x0.2.2)]) rfl rfl rfl hB hS ?_)
 intro b2 w3 hb4 hB5 hS6
 refine wl_box (cs := [(.int .i64 x1.1.1), (.int .i64 x1.1.2), (.int .i64 x1.2.1.1), (.int .i64 x1.2.1.2), (.int .i64 x1.2.2)]) rfl rfl rfl hB5 hS6 ?_
 intro b7 w8 hb9 hB10 hS11
 refine wl_assign rfl rfl (wl_assign rfl rfl (WL.nil (fun a ha => hK1 _ _ (W.seq fun K12 hK12 => (W.region (wl_load_blk (i := 1) (vs := [(.int .i64 x0.1.1), (.int .i64 x0.1.2), (.int .i64 x0.2.1.1), (.int .i64 x0.2.1.2), (.int .i64 x0.2.2)]) (v := (.agg #[(.int .i64 x0.1.1), (.int .i64 x0.1.2), (.int .i64 x0.2.1.1), (.int .i64 x0.2.1.2), (.int .i64 x0.2.2)])) tf_40 rfl rfl hS11 rfl rfl rfl (wl_load_blk (i := 0) (vs := [(.int .i64 x1.1.1), (.int .i64 x1.1.2), (.int .i64 x1.2.1.1), (.int .i64 x1.2.1.2), (.int .i64 x1.2.2)]) (v := (.agg #[(.int .i64 x1.1.1), (.int .i64 x1.1.2), (.int .i64 x1.2.1.1), (.int .i64 x1.2.1.2), (.int .i64 x1.2.2)])) tf_40 rfl rfl hS11 rfl rfl rfl ?_)))) a ha)))
 obtain ⟨u13, hu13, hF⟩ := bindE hF
 refine wl_call rfl Tryz.call123 (C_spec_apEnds w8 x0 x1 _ hu13) rfl ?_
 rintro _ w14 ⟨rfl, hb15⟩
 refine ⟨_, rfl, ?_⟩
 have hB16 := hB10.trans (hb15.mono hB10.size)
 have hS17 := hS11.below hb15
 refine wl_move rfl rfl (wl_extract rfl rfl rfl (wl_extract rfl rfl rfl (wl_extract rfl rfl rfl (wl_extract rfl rfl rfl (wl_assign rfl rfl (wl_assign rfl rfl (wl_assign rfl rfl (wl_assign rfl rfl (WL.nil (fun a ha => hK12 _ _ (W.seq fun K19 hK19 => (W.seq fun K20 hK20 => (W.region ?_))) a ha))))))))))
 refine wl_load_blk (i := 1) (vs := [(.int .i64 x0.1.1), (.int .i64 x0.1.2), (.int .i64 x0.2.1.1), (.int .i64 x0.2.1.2), (.int .i64 x0.2.2)]) (v := (.agg #[(.int .i64 x0.1.1), (.int .i64 x0.1.2), (.int .i64 x0.2.1.1), (.int .i64 x0.2.1.2), (.int .i64 x0.2.2)])) tf_40 rfl rfl hS17 rfl rfl rfl (wl_load_blk (i := 0) (vs := [(.int .i64 x1.1.1), (.int .i64 x1.1.2), (.int .i64 x1.2.1.1), (.int .i64 x1.2.1.2), (.int .i64 x1.2.2)]) (v := (.agg #[(.int .i64 x1.1.1), (.int .i64 x1.1.2), (.int .i64 x1.2.1.1), (.int .i64 x1.2.1.2), (.int .i64 x1.2.2)])) tf_40 rfl rfl hS17 rfl rfl rfl ?_)
 obtain ⟨u21, hu21, hF⟩ := bindE hF
 refine wl_call rfl Tryz.call124 (C_spec_apInner w14 x0 x1 _ hu21) rfl ?_
 rintro _ w22 ⟨rfl, hb23⟩
 refine ⟨_, rfl, ?_⟩
 have hB24 := hB16.trans (hb23.mono hB16.size)
 refine wl_move rfl rfl (wl_extract rfl rfl rfl (wl_extract rfl rfl rfl (wl_assign rfl rfl (wl_assign rfl rfl (WL.nil (fun a ha => hK20 _ _ (W.seq fun K27 hK27 => (W.region (wl_move rfl rfl (wl_gtr rfl rfl rfl (WL.nil (fun a ha => hK27 _ _ (W.cond rfl (fun h28 => ?_) (fun h28 => ?_)) a ha)))))) a ha))))))
 ·replace hF := ifP h28 hF
  refine W.seq fun K29 hK29 => W.region (wl_move rfl rfl (wl_move rfl rfl (wl_mul rfl rfl rfl (wl_move rfl rfl (wl_move rfl rfl (wl_mul rfl rfl rfl (wl_sub rfl rfl rfl (wl_assign rfl rfl (WL.nil (fun a ha => hK29 _ _ (W.seq fun K30 hK30 => (W.region ?_)) a ha))))))))))
  refine wl_move rfl rfl (wl_move rfl rfl (wl_mul rfl rfl rfl (wl_move rfl rfl ?_)))
  obtain ⟨u31, hu31, hF⟩ := bindE hF
  refine wl_call rfl Tryz.call125 (C_spec_mvPart w22 (w64 ((w64 ((w64 (u13.1 * u13.2.2.2)) - (w64 (u13.2.1 * u13.2.2.1)))) * (w64 ((w64 (u13.1 * u13.2.2.2)) - (w64 (u13.2.1 * u13.2.2.1)))))) u21.2 _ hu31) rfl ?_
  rintro _ w32 ⟨rfl, hb33⟩
  refine ⟨_, rfl, ?_⟩
  have hB34 := hB24.trans (hb33.mono hB24.size)
  refine wl_extract rfl rfl rfl (wl_extract rfl rfl rfl (wl_assign rfl rfl (wl_assign rfl rfl (WL.nil (fun a ha => hK30 _ _ (W.ret ?_) a ha)))))
  have hr := Option.some.inj hF
  subst hr
  exact rets (vs := [(.int .i64 u31.1), (.int .i64 u31.2)]) hQ rfl ⟨rv_tmp rfl, rv_tmp rfl, trivial⟩ ⟨rfl, hB34⟩
 ·replace hF := ifN h28 hF
  refine W.skip fun a ha => hK19 _ _ (W.seq fun K37 hK37 => (W.region (wl_move rfl rfl (wl_move rfl rfl (wl_mul rfl rfl rfl (wl_move rfl rfl (wl_move rfl rfl (wl_mul rfl rfl rfl (wl_add rfl rfl rfl (wl_move rfl rfl (wl_move rfl rfl (wl_mul rfl rfl rfl ?_)))))))))))) a ha
  refine wl_move rfl rfl (wl_move rfl rfl (wl_mul rfl rfl rfl (wl_add rfl rfl rfl ?_)))
  obtain ⟨u38, hu38, hF⟩ := bindE hF
  refine wl_call rfl Tryz.call64 (C_spec_l1Least w22 (w64 ((w64 (u13.1 * u13.1)) + (w64 (u13.2.1 * u13.2.1)))) (w64 ((w64 (u13.2.2.1 * u13.2.2.1)) + (w64 (u13.2.2.2 * u13.2.2.2)))) _ hu38) rfl ?_
  rintro _ w39 ⟨rfl, hb40⟩
  refine ⟨_, rfl, ?_⟩
  have hB41 := hB24.trans (hb40.mono hB24.size)
  refine wl_assign rfl rfl (wl_assign rfl rfl (WL.nil (fun a ha => hK37 _ _ (W.ret ?_) a ha)))
  have hr := Option.some.inj hF
  subst hr
  exact rets (vs := [(.int .i64 u38), (.int .i64 1)]) hQ rfl ⟨rv_tmp rfl, rv_tmp rfl, trivial⟩ ⟨rfl, hB41⟩
theorem C_spec_apStay (w0 : World) (x0 : ((Int × Int) × (Int × Int) × Int)) (x1 : ((Int × Int) × (Int × Int) × Int)) (x2 : Int) (r : Bool) (hF : F_spec_apStay x0 x1 x2 = some r) :
  Calls Tryz.prog 100 [(.agg #[(.int .i64 x0.1.1), (.int .i64 x0.1.2), (.int .i64 x0.2.1.1), (.int .i64 x0.2.1.2), (.int .i64 x0.2.2)]), (.agg #[(.int .i64 x1.1.1), (.int .i64 x1.1.2), (.int .i64 x1.2.1.1), (.int .i64 x1.2.1.2), (.int .i64 x1.2.2)]), (.int .i64 x2)].toArray w0 fun e w' => e = .returned (.bool r) ∧ Below w0.heap.size w0 w' := by
 refine calls_mk' Tryz.func100 rfl Tryz.ntmps100 rfl rfl fun Q hQ hP => ?_
 have hB : Below w0.heap.size w0 w0 := Below.refl _ _
 have hS : Sep w0.heap.size w0 [] := Sep.nil _ _
 unfold F_spec_apStay at hF
 refine W.seq fun K1 hK1 => W.region (wl_box (cs := [(.int .i64 x0.1.1), (.int .i64 x0.1.2), (.int .i64 x0.2.1.1), (.int .i64 x0.2.1.2), (.int .i64 x0.2.2)]) rfl rfl rfl hB hS ?_)
 intro b2 w3 hb4 hB5 hS6
 refine wl_box (cs := [(.int .i64 x1.1.1), (.int .i64 x1.1.2), (.int .i64 x1.2.1.1), (.int .i64 x1.2.1.2), (.int .i64 x1.2.2)]) rfl rfl rfl hB5 hS6 ?_
 intro b7 w8 hb9 hB10 hS11
 refine wl_assign rfl rfl (WL.nil (fun a ha => hK1 _ _ (W.seq fun K12 hK12 => (W.region (wl_load_blk (i := 1) (vs := [(.int .i64 x0.1.1), (.int .i64 x0.1.2), (.int .i64 x0.2.1.1), (.int .i64 x0.2.1.2), (.int .i64 x0.2.2)]) (v := (.agg #[(.int .i64 x0.1.1), (.int .i64 x0.1.2), (.int .i64 x0.2.1.1), (.int .i64 x0.2.1.2), (.int .i64 x0.2.2)])) tf_40 rfl rfl hS11 rfl rfl rfl (wl_load_blk (i := 0) (vs := [(.int .i64 x1.1.1), (.int .i64 x1.1.2), (.int .i64 x1.2.1.1), (.int .i64 x1.2.1.2), (.int .i64 x1.2.2)]) (v := (.agg #[(.int .i64 x1.1.1), (.int .i64 x1.1.2), (.int .i64 x1.2.1.1), (.int .i64 x1.2.1.2), (.int .i64 x1.2.2)])) tf_40 rfl rfl hS11 rfl rfl rfl ?_)))) a ha))
 obtain ⟨u13, hu13, hF⟩ := bindE hF
 refine wl_call rfl Tryz.call111 (C_spec_apLeast w8 x0 x1 _ hu13) rfl ?_
 rintro _ w14 ⟨rfl, hb15⟩
 refine ⟨_, rfl, ?_⟩
 have hB16 := hB10.trans (hb15.mono hB10.size)
 refine wl_move rfl rfl (wl_extract rfl rfl rfl (wl_extract rfl rfl rfl (wl_assign rfl rfl (wl_assign rfl rfl (WL.nil (fun a ha => hK12 _ _ (W.seq fun K19 hK19 => (W.region (wl_move rfl rfl (wl_move rfl rfl (wl_move rfl rfl (wl_mul rfl rfl rfl (wl_move rfl rfl ?_))))))) a ha))))))
 refine wl_mul rfl rfl rfl (wl_geq rfl rfl rfl (wl_assign rfl rfl (WL.nil (fun a ha => hK19 _ _ (W.ret ?_) a ha))))
 have hr := Option.some.inj hF
 subst hr
 exact rets (vs := [(.bool (decide ((w64 ((w64 (x2 * x2)) * u13.2)) ≤ u13.1)))]) hQ rfl ⟨rv_tmp rfl, trivial⟩ ⟨rfl, hB16⟩
theorem C_spec_swClose (w0 : World) (x0 : ((List (List (Int × Int))) × (List Int) × Int × Int)) (v0_0 : Value) (h0_0 : rdS ty_51 (· < w0.heap.size) w0 v0_0 x0.1) (v0_1 : Value) (h0_1 : rdS ty_3 (· < w0.heap.size) w0 v0_1 x0.2.1) (x1 : Int) (r : (List (List Int))) (hF : F_spec_swClose x0 x1 = some r) :
  Calls Tryz.prog 75 [(.agg #[v0_0, v0_1, (.int .i64 x0.2.2.1), (.int .i64 x0.2.2.2)]), (.int .i64 x1)].toArray w0 fun e w' => ∃ (q0 : Value) (G0 : List Nat), e = .returned q0 ∧ Below w0.heap.size w0 w' ∧ Sep w0.heap.size w' [R.own ty_25 G0 q0 r] := by
 refine calls_mk' Tryz.func75 rfl Tryz.ntmps75 rfl rfl fun Q hQ hP => ?_
 have hB : Below w0.heap.size w0 w0 := Below.refl _ _
 have hS : Sep w0.heap.size w0 [] := Sep.nil _ _
 unfold F_spec_swClose at hF
 refine W.seq fun K1 hK1 => W.region (wl_box (cs := [v0_0, v0_1, (.int .i64 x0.2.2.1), (.int .i64 x0.2.2.2)]) rfl rfl rfl hB hS ?_)
 intro b2 w3 hb4 hB5 hS6
 refine wl_assign rfl rfl (WL.nil (fun a ha => hK1 _ _ (W.seq fun K7 hK7 => (W.region (wl_load_blk (i := 0) (vs := [v0_0, v0_1, (.int .i64 x0.2.2.1), (.int .i64 x0.2.2.2)]) (v := (.agg #[v0_0, v0_1, (.int .i64 x0.2.2.1), (.int .i64 x0.2.2.2)])) tf_27 rfl rfl hS6 rfl rfl rfl (wl_move rfl rfl ?_)))) a ha))
 obtain ⟨u8, hu8, hF⟩ := bindE hF
 refine wl_call rfl Tryz.call36 (C_spec_swMoves w3 x0 v0_0 (h0_0.ro hB5) v0_1 (h0_1.ro hB5) x1 _ hu8) rfl ?_
 rintro _ w11 ⟨v9, F10, rfl, hb12, hM15⟩
 refine ⟨_, rfl, ?_⟩
 have hB13 := hB5.trans (hb12.mono hB5.size)
 have hS14 := hS6.join hb12 hM15 hB5.size
 refine wl_assign rfl rfl (WL.nil (fun a ha => hK7 _ _ (W.seq fun K16 hK16 => (W.region (wl_assign rfl rfl (WL.nil (fun a ha => hK16 _ _ (W.seq fun K17 hK17 => (W.seq fun K18 hK18 => (W.region (wl_move rfl rfl (wl_lenr (e := ty_40) (l := u8) Tryz.underlying33 rfl rfl (hS14.own_ro (i := 0) rfl) (wl_move rfl rfl ?_)))))) a ha))))) a ha))
 refine WL.nil fun a ha => hK18 _ _ (W.block (W.loopk (fun m a w19 => ∃ (l22 : (List (List Int))) (y25 : Int) (v23 : Value) (F24 : List Nat), St 45 [(2, (.pointer (some ⟨b2, 0, none⟩))), (5, v9), (6, v23), (13, v9), (14, (.int .i64 (List.length u8 : Int))), (15, (.int .i64 y25))] a ∧ Below w0.heap.size w0 w19 ∧ Sep w0.heap.size w19 [R.blk b2 27 [v0_0, v0_1, (.int .i64 x0.2.2.1), (.int .i64 x0.2.2.2)], R.own ty_40 F10 v9 u8, R.own ty_25 F24 v23 l22] ∧ F_spec_swClose_L1 u8 x0 m l22 y25 = some r) FU ?_ ?_)) a ha
 ·
  have hS27 := hS14.push0 (r := R.own ty_25 [] (.slice none 0 0) []) rfl fun _ => .inl ⟨rfl, rfl, rfl⟩
  exact fun a ha => ⟨[], 0, (.slice none 0 0), [], ha.sub ⟨rfl, rfl, rfl, rfl, rfl, rfl, trivial⟩, hB13, (hS27.sel [2, 1, 0] rfl), hF⟩
 ·
  rintro m29 a w19 ⟨l22, y25, v23, F24, ha, hB20, hS21, hF⟩ KL28 hKL28
  refine W.at ?_ ha
  cases m29 with
  | zero => exact noneE hF
  | succ m29 =>
   obtain ⟨nx26, hnx26⟩ : ∃ k, k = F_spec_swClose_L1 u8 x0 m29 := ⟨_, rfl⟩
   rw [F_spec_swClose_L1, ← hnx26] at hF
   refine W.seq fun K30 hK30 => W.region (wl_lss rfl rfl rfl (WL.nil (fun a ha => hK30 _ _ (W.seq fun K31 hK31 => (W.cond rfl (fun h32 => ?_) (fun h32 => ?_))) a ha)))
   ·replace hF := ifP h32 hF
    refine W.skip fun a ha => hK31 _ _ (W.seq fun K33 hK33 => (W.block (W.seq fun K34 hK34 => (W.region (wl_move rfl rfl ?_))))) a ha
    obtain ⟨u35, hu35, hF⟩ := bindE hF
    refine wl_indexo (e := ty_40) (i := 1) Tryz.underlying33 rfl rfl rfl hS21 rfl hu35 ?_
    rintro p36 _ rfl hp37 ho38
    refine wl_load_p (vs := [(.int .i64 u35.1.1), (.int .i64 u35.1.2), (.int .i64 u35.2.1.1), (.int .i64 u35.2.1.2), (.int .i64 u35.2.2)]) (v := (.agg #[(.int .i64 u35.1.1), (.int .i64 u35.1.2), (.int .i64 u35.2.1.1), (.int .i64 u35.2.1.2), (.int .i64 u35.2.2)])) tf_40 rfl rfl hp37 rfl rfl (wl_alloc (cs := [(.int .i64 0), (.int .i64 0), (.int .i64 0), (.int .i64 0), (.int .i64 0)]) tf_40 rfl rfl hB20 hS21 ?_)
    intro b39 w40 hb41 hB42 hS43
    refine wl_assign rfl rfl (wl_store_blk (i := 0) (vs := [(.int .i64 u35.1.1), (.int .i64 u35.1.2), (.int .i64 u35.2.1.1), (.int .i64 u35.2.1.2), (.int .i64 u35.2.2)]) (cs' := [(.int .i64 u35.1.1), (.int .i64 u35.1.2), (.int .i64 u35.2.1.1), (.int .i64 u35.2.1.2), (.int .i64 u35.2.2)]) tf_40 rfl rfl rfl rfl hB42 hS43 rfl rfl ⟨rfl, rfl, rfl, rfl, rfl, trivial⟩ rfl ?_)
    intro w44 hk47 hB45 hS46
    refine WL.nil fun a ha => hK34 _ _ (W.seq fun K48 hK48 => (W.region (wl_move rfl rfl (wl_add rfl rfl rfl (wl_assign rfl rfl (WL.nil (fun a ha => hK48 _ _ (W.block (W.loopk (fun m a w49 => ∃ (l52 : (List (List Int))) (y55 : Int) (v53 : Value) (F54 : List Nat), St 45 [(2, (.pointer (some ⟨b2, 0, none⟩))), (5, v9), (6, v53), (7, (.int .i64 y25)), (8, (.pointer (some ⟨b39, 0, none⟩))), (9, (.int .i64 y55)), (13, v9), (14, (.int .i64 (List.length u8 : Int))), (15, (.int .i64 y25))] a ∧ Below w0.heap.size w0 w49 ∧ Sep w0.heap.size w49 [R.blk b2 27 [v0_0, v0_1, (.int .i64 x0.2.2.1), (.int .i64 x0.2.2.2)], R.own ty_40 F10 v9 u8, R.own ty_25 F54 v53 l52, R.blk b39 40 [(.int .i64 u35.1.1), (.int .i64 u35.1.2), (.int .i64 u35.2.1.1), (.int .i64 u35.2.1.2), (.int .i64 u35.2.2)]] ∧ F_spec_swClose_L2 u8 u35 x0 y25 nx26 m l52 y55 = some r) FU ?_ ?_)) a ha))))))) a ha
    ·
     exact fun a ha => ⟨l22, (w64 (y25 + 1)), v23, F24, ha.sub ⟨rfl, rfl, rfl, rfl, rfl, rfl, rfl, rfl, rfl, trivial⟩, hB45, (hS46.sel [1, 2, 3, 0] rfl), hF⟩
    ·
     rintro m58 a w49 ⟨l52, y55, v53, F54, ha, hB50, hS51, hF⟩ KL57 hKL57
     refine W.at ?_ ha
     cases m58 with
     | zero => exact noneE hF
     | succ m58 =>
      obtain ⟨nx56, hnx56⟩ : ∃ k, k = F_spec_swClose_L2 u8 u35 x0 y25 nx26 m58 := ⟨_, rfl⟩
      rw [F_spec_swClose_L2, ← hnx56] at hF
      refine W.seq fun K59 hK59 => W.seq fun K60 hK60 => W.region (wl_move rfl rfl (wl_move rfl rfl (wl_lenr (e := ty_40) (l := u8) Tryz.underlying33 rfl rfl (hS51.own_ro (i := 1) rfl) (wl_lss rfl rfl rfl (WL.nil (fun a ha => hK60 _ _ (W.cond rfl (fun h61 => ?_) (fun h61 => ?_)) a ha))))))
      ·replace hF := ifP h61 hF
       refine W.skip fun a ha => hK59 _ _ (W.seq fun K62 hK62 => ?_) a ha
       obtain ⟨k69, hk69, hF⟩ := jE1 hF
       have hJ70 : ∀ (l66 : (List (List Int))) (v67 : Value) (F68 : List Nat) (w63 : World) (_ : k69 l66 = some r) (_ : Below w0.heap.size w0 w63) (_ : Sep w0.heap.size w63 [R.blk b2 27 [v0_0, v0_1, (.int .i64 x0.2.2.1), (.int .i64 x0.2.2.2)], R.own ty_40 F10 v9 u8, R.own ty_25 F68 v67 l66, R.blk b39 40 [(.int .i64 u35.1.1), (.int .i64 u35.1.2), (.int .i64 u35.2.1.1), (.int .i64 u35.2.1.2), (.int .i64 u35.2.2)]]), ∀ a, St 45 [(2, (.pointer (some ⟨b2, 0, none⟩))), (5, v9), (6, v67), (7, (.int .i64 y25)), (8, (.pointer (some ⟨b39, 0, none⟩))), (9, (.int .i64 y55)), (13, v9), (14, (.int .i64 (List.length u8 : Int))), (15, (.int .i64 y25))] a → K62 a w63 := by
        intro l66 v67 F68 w63 hF hB64 hS65
        subst hk69
        refine fun a ha => hK62 _ _ (W.region (wl_move rfl rfl (wl_add rfl rfl rfl (wl_assign rfl rfl (WL.nil ?_))))) a ha
        rw [hnx56] at hF
        exact fun a ha => hKL57 a _ m58 (Nat.lt_succ_self m58) ⟨l66, (w64 (y55 + 1)), v67, F68, ha.sub ⟨rfl, rfl, rfl, rfl, rfl, rfl, rfl, rfl, rfl, trivial⟩, hB64, (hS65.sel [0, 1, 2, 3] rfl), hF⟩
       refine W.block (W.seq fun K71 hK71 => (W.regionH mixed_ [] hB50 hS51 ?_))
       intro w72 hb73 hB74 hS75
       have hSW76 := KeepX.refl w72 []
       refine WH.tk 0 rfl hP hSW76 (pr_load_blk (i := 3) (vs := [(.int .i64 u35.1.1), (.int .i64 u35.1.2), (.int .i64 u35.2.1.1), (.int .i64 u35.2.1.2), (.int .i64 u35.2.2)]) (v := (.agg #[(.int .i64 u35.1.1), (.int .i64 u35.1.2), (.int .i64 u35.2.1.1), (.int .i64 u35.2.1.2), (.int .i64 u35.2.2)])) tf_40 rfl rfl hS75 rfl rfl rfl (by simp) (WH.tk 1 rfl hP hSW76 (pr_move rfl rfl (WH.tk 2 rfl hP hSW76 (pr_move rfl rfl ?_)))))
       obtain ⟨u77, hu77, hF⟩ := bindE hF
       refine WH.tk 3 rfl hP hSW76 (pr_indexo (e := ty_40) (i := 1) Tryz.underlying33 rfl rfl rfl hS75 rfl hu77 ?_)
       rintro p78 _ rfl hp79 ho80
       refine WH.tk 4 rfl hP hSW76 (pr_load_p (vs := [(.int .i64 u77.1.1), (.int .i64 u77.1.2), (.int .i64 u77.2.1.1), (.int .i64 u77.2.1.2), (.int .i64 u77.2.2)]) (v := (.agg #[(.int .i64 u77.1.1), (.int .i64 u77.1.2), (.int .i64 u77.2.1.1), (.int .i64 u77.2.1.2), (.int .i64 u77.2.2)])) tf_40 rfl rfl (hp79.kx0) rfl rfl (WH.tk 5 rfl hP hSW76 (pr_field (o := 2) (off' := 2) ff_27_2 rfl rfl rfl (WH.tk 6 rfl hP hSW76 (pr_load_blk (i := 0) (vs := [(.int .i64 x0.2.2.1)]) (v := (.int .i64 x0.2.2.1)) tf_3 rfl rfl hS75 rfl rfl rfl (by simp) (WH.on1 7 rfl ?_))))))
       obtain ⟨u81, hu81, hF⟩ := bindE hF
       refine wl_call rfl Tryz.call100 (C_spec_apStay w72 u35 u77 x0.2.2.1 _ hu81) rfl ?_
       rintro _ w82 ⟨rfl, hb83⟩
       refine ⟨_, rfl, ?_⟩
       have hB84 := hB74.trans (hb83.mono hB74.size)
       have hS85 := hS75.below hb83
       have hSW87 := hSW76.ext hb83
       refine WL.nil (WH.ret hSW87 (WH.tk 8 rfl hP hSW87 (pr_not rfl rfl (WH.done (by kernel_rfl) (fun a ha => hK71 _ _ (W.cond rfl (fun h88 => ?_) (fun h88 => ?_)) a ha)))))
       ·replace hF := ifP h88 hF
        refine W.region (wl_move rfl rfl (wl_move rfl rfl (wl_move rfl rfl (wl_lit (vs := [(.int .i64 y25), (.int .i64 y55)]) (l := [y25, y55]) fl_3 Tryz.underlying25 rfl rfl rfl rfl rfl rfl hB84 hS85 ?_))))
        intro v89 F90 w91 hb92 hB93 hS94
        have hq95 := hS94.sel [0, 1, 2, 3, 4] rfl
        have hq96 := hq95.head (r' := R.cel ty_25 F90 [v89] [y25, y55]) (rfl) fun _ h0 => ⟨_, rfl, h0⟩
        refine wl_lit1 (e := ty_25) (vs := [v89]) Tryz.underlying117 rfl rfl (cells_one (hS94.own_ro (i := 0) rfl).one) rfl hB93 hq96 ?_
        intro v97 F98 w99 hb100 hf101 hB102 hS103
        obtain ⟨u104, hu104, hF⟩ := bindE hF
        refine wl_appendn (e := ty_25) Tryz.underlying117 rfl rfl rfl hB102 (hS103.sel [3, 0, 1, 2, 4] rfl) hu104 ?_
        intro v105 F106 w107 hk108 hB109 hS110
        refine wl_assign rfl rfl (WL.nil ?_)
        exact fun a ha => hJ70 (u104) (v105) (F106) _ hF hB109 (hS110.sel [1, 2, 0, 3] rfl) a (ha.sub ⟨rfl, rfl, rfl, rfl, rfl, rfl, rfl, rfl, rfl, trivial⟩)
       ·replace hF := ifN h88 hF
        refine W.skip ?_
        exact fun a ha => hJ70 (l52) (v53) (F54) _ hF hB84 (hS85.sel [0, 1, 2, 3] rfl) a (ha.sub ⟨rfl, rfl, rfl, rfl, rfl, rfl, rfl, rfl, rfl, trivial⟩)
      ·replace hF := ifN h61 hF
       refine W.exit fun a ha => hK33 _ _ (W.region (wl_add rfl rfl rfl (wl_move rfl rfl (WL.nil ?_)))) a ha
       rw [hnx26] at hF
       exact fun a ha => hKL28 a _ m29 (Nat.lt_succ_self m29) ⟨l52, (w64 (y25 + 1)), v53, F54, ha.sub ⟨rfl, rfl, rfl, rfl, rfl, rfl, trivial⟩, hB50, (hS51.sel [0, 1, 2] rfl), hF⟩
   ·replace hF := ifN h32 hF
    refine W.exit fun a ha => hK17 _ _ (W.seq fun K111 hK111 => (W.region (wl_move rfl rfl (wl_assign rfl rfl (WL.nil (fun a ha => hK111 _ _ (W.ret ?_) a ha)))))) a ha
    have hr := Option.some.inj hF
    subst hr
    exact rets (vs := [v23]) hQ rfl ⟨rv_tmp rfl, trivial⟩ ⟨v23, F24, rfl, hB20, hS21.sel [2] rfl⟩
theorem C_spec_stSquare (w0 : World) (x0 : (Int × Int)) (x1 : (Int × Int)) (r : Int) (hF : F_spec_stSquare x0 x1 = some r) :
  Calls Tryz.prog 112 [(.agg #[(.int .i64 x0.1), (.int .i64 x0.2)]), (.agg #[(.int .i64 x1.1), (.int .i64 x1.2)])].toArray w0 fun e w' => e = .returned (.int .i64 r) ∧ Below w0.heap.size w0 w' := by
 refine calls_mk' Tryz.func112 rfl Tryz.ntmps112 rfl rfl fun Q hQ hP => ?_
 have hB : Below w0.heap.size w0 w0 := Below.refl _ _
 have hS : Sep w0.heap.size w0 [] := Sep.nil _ _
 unfold F_spec_stSquare at hF
 refine W.seq fun K1 hK1 => W.region (wl_box (cs := [(.int .i64 x0.1), (.int .i64 x0.2)]) rfl rfl rfl hB hS ?_)
 intro b2 w3 hb4 hB5 hS6
 refine wl_box (cs := [(.int .i64 x1.1), (.int .i64 x1.2)]) rfl rfl rfl hB5 hS6 ?_
 intro b7 w8 hb9 hB10 hS11
 refine wl_assign rfl rfl (WL.nil (fun a ha => hK1 _ _ (W.seq fun K12 hK12 => (W.region (wl_field (o := 0) (off' := 0) ff_38_0 rfl rfl rfl (wl_load_blk (i := 1) (vs := [(.int .i64 x0.1)]) (v := (.int .i64 x0.1)) tf_3 rfl rfl hS11 rfl rfl rfl (wl_field (o := 0) (off' := 0) ff_38_0 rfl rfl rfl (wl_load_blk (i := 0) (vs := [(.int .i64 x1.1)]) (v := (.int .i64 x1.1)) tf_3 rfl rfl hS11 rfl rfl rfl (wl_sub rfl rfl rfl (wl_field (o := 0) (off' := 0) ff_38_0 rfl rfl rfl (wl_load_blk (i := 1) (vs := [(.int .i64 x0.1)]) (v := (.int .i64 x0.1)) tf_3 rfl rfl hS11 rfl rfl rfl (wl_field (o := 0) (off' := 0) ff_38_0 rfl rfl rfl (wl_load_blk (i := 0) (vs := [(.int .i64 x1.1)]) (v := (.int .i64 x1.1)) tf_3 rfl rfl hS11 rfl rfl rfl ?_))))))))))) a ha))
 refine wl_sub rfl rfl rfl (wl_mul rfl rfl rfl (wl_field (o := 1) (off' := 1) ff_38_1 rfl rfl rfl (wl_load_blk (i := 1) (vs := [(.int .i64 x0.2)]) (v := (.int .i64 x0.2)) tf_3 rfl rfl hS11 rfl rfl rfl (wl_field (o := 1) (off' := 1) ff_38_1 rfl rfl rfl (wl_load_blk (i := 0) (vs := [(.int .i64 x1.2)]) (v := (.int .i64 x1.2)) tf_3 rfl rfl hS11 rfl rfl rfl (wl_sub rfl rfl rfl (wl_field (o := 1) (off' := 1) ff_38_1 rfl rfl rfl (wl_load_blk (i := 1) (vs := [(.int .i64 x0.2)]) (v := (.int .i64 x0.2)) tf_3 rfl rfl hS11 rfl rfl rfl (wl_field (o := 1) (off' := 1) ff_38_1 rfl rfl rfl (wl_load_blk (i := 0) (vs := [(.int .i64 x1.2)]) (v := (.int .i64 x1.2)) tf_3 rfl rfl hS11 rfl rfl rfl (wl_sub rfl rfl rfl (wl_mul rfl rfl rfl (wl_add rfl rfl rfl ?_)))))))))))))
 refine wl_assign rfl rfl (WL.nil (fun a ha => hK12 _ _ (W.ret ?_) a ha))
 have hr := Option.some.inj hF
 subst hr
 exact rets (vs := [(.int .i64 (w64 ((w64 ((w64 (x0.1 - x1.1)) * (w64 (x0.1 - x1.1)))) + (w64 ((w64 (x0.2 - x1.2)) * (w64 (x0.2 - x1.2)))))))]) hQ rfl ⟨rv_tmp rfl, trivial⟩ ⟨rfl, hB10⟩
theorem C_spec_mvWithin (w0 : World) (x0 : ((Int × Int) × (Int × Int) × Int)) (x1 : Int) (r : Bool) (hF : F_spec_mvWithin x0 x1 = some r) :
  Calls Tryz.prog 101 [(.agg #[(.int .i64 x0.1.1), (.int .i64 x0.1.2), (.int .i64 x0.2.1.1), (.int .i64 x0.2.1.2), (.int .i64 x0.2.2)]), (.int .i64 x1)].toArray w0 fun e w' => e = .returned (.bool r) ∧ Below w0.heap.size w0 w' := by
 refine calls_mk' Tryz.func101 rfl Tryz.ntmps101 rfl rfl fun Q hQ hP => ?_
 have hB : Below w0.heap.size w0 w0 := Below.refl _ _
 have hS : Sep w0.heap.size w0 [] := Sep.nil _ _
 unfold F_spec_mvWithin at hF
 refine W.seq fun K1 hK1 => W.region (wl_box (cs := [(.int .i64 x0.1.1), (.int .i64 x0.1.2), (.int .i64 x0.2.1.1), (.int .i64 x0.2.1.2), (.int .i64 x0.2.2)]) rfl rfl rfl hB hS ?_)
 intro b2 w3 hb4 hB5 hS6
 refine wl_assign rfl rfl (WL.nil (fun a ha => hK1 _ _ (W.seq fun K7 hK7 => (W.regionH mixed_ [] hB5 hS6 ?_)) a ha))
 intro w8 hb9 hB10 hS11
 have hSW12 := KeepX.refl w8 []
 refine WH.tk 0 rfl hP hSW12 (pr_field (o := 0) (off' := 0) ff_40_0 rfl rfl rfl (WH.tk 1 rfl hP hSW12 (pr_load_blk (i := 0) (vs := [(.int .i64 x0.1.1), (.int .i64 x0.1.2)]) (v := (.agg #[(.int .i64 x0.1.1), (.int .i64 x0.1.2)])) tf_38 rfl rfl hS11 rfl rfl rfl (by simp) (WH.tk 2 rfl hP hSW12 (pr_field (o := 2) (off' := 2) ff_40_1 rfl rfl rfl (WH.tk 3 rfl hP hSW12 (pr_load_blk (i := 0) (vs := [(.int .i64 x0.2.1.1), (.int .i64 x0.2.1.2)]) (v := (.agg #[(.int .i64 x0.2.1.1), (.int .i64 x0.2.1.2)])) tf_38 rfl rfl hS11 rfl rfl rfl (by simp) (WH.tk 5 rfl hP hSW12 (pr_move rfl rfl (WH.tk 6 rfl hP hSW12 (pr_move rfl rfl (WH.tk 7 rfl hP hSW12 (pr_mul rfl rfl rfl ?_)))))))))))))
 refine WH.tk 8 rfl hP hSW12 (pr_field (o := 4) (off' := 4) ff_40_2 rfl rfl rfl (WH.tk 9 rfl hP hSW12 (pr_load_blk (i := 0) (vs := [(.int .i64 x0.2.2)]) (v := (.int .i64 x0.2.2)) tf_3 rfl rfl hS11 rfl rfl rfl (by simp) (WH.tk 10 rfl hP hSW12 (pr_mul rfl rfl rfl (WH.tk 11 rfl hP hSW12 (pr_field (o := 4) (off' := 4) ff_40_2 rfl rfl rfl (WH.tk 12 rfl hP hSW12 (pr_load_blk (i := 0) (vs := [(.int .i64 x0.2.2)]) (v := (.int .i64 x0.2.2)) tf_3 rfl rfl hS11 rfl rfl rfl (by simp) (WH.tk 13 rfl hP hSW12 (pr_mul rfl rfl rfl (WH.on1 4 rfl ?_))))))))))))
 obtain ⟨u13, hu13, hF⟩ := bindE hF
 refine wl_call rfl Tryz.call112 (C_spec_stSquare w8 x0.1 x0.2.1 _ hu13) rfl ?_
 rintro _ w14 ⟨rfl, hb15⟩
 refine ⟨_, rfl, ?_⟩
 have hB16 := hB10.trans (hb15.mono hB10.size)
 have hSW19 := hSW12.ext hb15
 refine WL.nil (WH.ret hSW19 (WH.tk 14 rfl hP hSW19 (pr_leq rfl rfl rfl (WH.tk 15 rfl hP hSW19 (pr_assign rfl rfl (WH.done (by kernel_rfl) (fun a ha => hK7 _ _ (W.ret ?_) a ha)))))))
 have hr := Option.some.inj hF
 subst hr
 exact rets (vs := [(.bool (decide (u13 ≤ (w64 ((w64 ((w64 (x1 * x1)) * x0.2.2)) * x0.2.2)))))]) hQ rfl ⟨rv_tmp rfl, trivial⟩ ⟨rfl, hB16⟩
theorem C_spec_swWide (w0 : World) (x0 : ((List (List (Int × Int))) × (List Int) × Int × Int)) (v0_0 : Value) (h0_0 : rdS ty_51 (· < w0.heap.size) w0 v0_0 x0.1) (v0_1 : Value) (h0_1 : rdS ty_3 (· < w0.heap.size) w0 v0_1 x0.2.1) (x1 : Int) (r : (List Int)) (hF : F_spec_swWide x0 x1 = some r) :
  Calls Tryz.prog 76 [(.agg #[v0_0, v0_1, (.int .i64 x0.2.2.1), (.int .i64 x0.2.2.2)]), (.int .i64 x1)].toArray w0 fun e w' => ∃ (q0 : Value) (G0 : List Nat), e = .returned q0 ∧ Below w0.heap.size w0 w' ∧ Sep w0.heap.size w' [R.own ty_3 G0 q0 r] := by
 refine calls_mk' Tryz.func76 rfl Tryz.ntmps76 rfl rfl fun Q hQ hP => ?_
 have hB : Below w0.heap.size w0 w0 := Below.refl _ _
 have hS : Sep w0.heap.size w0 [] := Sep.nil _ _
 unfold F_spec_swWide at hF
 refine W.seq fun K1 hK1 => W.region (wl_box (cs := [v0_0, v0_1, (.int .i64 x0.2.2.1), (.int .i64 x0.2.2.2)]) rfl rfl rfl hB hS ?_)
 intro b2 w3 hb4 hB5 hS6
 refine wl_assign rfl rfl (WL.nil (fun a ha => hK1 _ _ (W.seq fun K7 hK7 => (W.region (wl_assign rfl rfl (WL.nil (fun a ha => hK7 _ _ (W.seq fun K8 hK8 => (W.seq fun K9 hK9 => (W.region (wl_load_blk (i := 0) (vs := [v0_0, v0_1, (.int .i64 x0.2.2.1), (.int .i64 x0.2.2.2)]) (v := (.agg #[v0_0, v0_1, (.int .i64 x0.2.2.1), (.int .i64 x0.2.2.2)])) tf_27 rfl rfl hS6 rfl rfl rfl (wl_move rfl rfl ?_))))) a ha))))) a ha))
 obtain ⟨u10, hu10, hF⟩ := bindE hF
 refine wl_call rfl Tryz.call36 (C_spec_swMoves w3 x0 v0_0 (h0_0.ro hB5) v0_1 (h0_1.ro hB5) x1 _ hu10) rfl ?_
 rintro _ w13 ⟨v11, F12, rfl, hb14, hM17⟩
 refine ⟨_, rfl, ?_⟩
 have hB15 := hB5.trans (hb14.mono hB5.size)
 have hS16 := hS6.join hb14 hM17 hB5.size
 refine wl_lenr (e := ty_40) (l := u10) Tryz.underlying33 rfl rfl (hS16.own_ro (i := 0) rfl) (wl_move rfl rfl (WL.nil (fun a ha => hK9 _ _ (W.block (W.loopk (fun m a w18 => ∃ (l21 : (List Int)) (y24 : Int) (v22 : Value) (F23 : List Nat), St 28 [(2, (.pointer (some ⟨b2, 0, none⟩))), (5, v22), (10, v11), (11, (.int .i64 (List.length u10 : Int))), (12, (.int .i64 y24))] a ∧ Below w0.heap.size w0 w18 ∧ Sep w0.heap.size w18 [R.blk b2 27 [v0_0, v0_1, (.int .i64 x0.2.2.1), (.int .i64 x0.2.2.2)], R.own ty_3 F23 v22 l21, R.own ty_40 F12 v11 u10] ∧ F_spec_swWide_L1 u10 x0 m l21 y24 = some r) FU ?_ ?_)) a ha)))
 ·
  have hS26 := hS16.push0 (r := R.own ty_3 [] (.slice none 0 0) []) rfl fun _ => .inl ⟨rfl, rfl, rfl⟩
  exact fun a ha => ⟨[], 0, (.slice none 0 0), [], ha.sub ⟨rfl, rfl, rfl, rfl, rfl, trivial⟩, hB15, (hS26.sel [2, 0, 1] rfl), hF⟩
 ·
  rintro m28 a w18 ⟨l21, y24, v22, F23, ha, hB19, hS20, hF⟩ KL27 hKL27
  refine W.at ?_ ha
  cases m28 with
  | zero => exact noneE hF
  | succ m28 =>
   obtain ⟨nx25, hnx25⟩ : ∃ k, k = F_spec_swWide_L1 u10 x0 m28 := ⟨_, rfl⟩
   rw [F_spec_swWide_L1, ← hnx25] at hF
   refine W.seq fun K29 hK29 => W.region (wl_lss rfl rfl rfl (WL.nil (fun a ha => hK29 _ _ (W.seq fun K30 hK30 => (W.cond rfl (fun h31 => ?_) (fun h31 => ?_))) a ha)))
   ·replace hF := ifP h31 hF
    refine W.skip fun a ha => hK30 _ _ (W.seq fun K32 hK32 => ?_) a ha
    obtain ⟨k39, hk39, hF⟩ := jE1 hF
    have hJ40 : ∀ (l36 : (List Int)) (v37 : Value) (F38 : List Nat) (w33 : World) (_ : k39 l36 = some r) (_ : Below w0.heap.size w0 w33) (_ : Sep w0.heap.size w33 [R.blk b2 27 [v0_0, v0_1, (.int .i64 x0.2.2.1), (.int .i64 x0.2.2.2)], R.own ty_3 F38 v37 l36, R.own ty_40 F12 v11 u10]), ∀ a, St 28 [(2, (.pointer (some ⟨b2, 0, none⟩))), (5, v37), (10, v11), (11, (.int .i64 (List.length u10 : Int))), (12, (.int .i64 y24))] a → K32 a w33 := by
     intro l36 v37 F38 w33 hF hB34 hS35
     subst hk39
     refine fun a ha => hK32 _ _ (W.region (wl_add rfl rfl rfl (wl_move rfl rfl (WL.nil ?_)))) a ha
     rw [hnx25] at hF
     exact fun a ha => hKL27 a _ m28 (Nat.lt_succ_self m28) ⟨l36, (w64 (y24 + 1)), v37, F38, ha.sub ⟨rfl, rfl, rfl, rfl, rfl, trivial⟩, hB34, (hS35.sel [0, 1, 2] rfl), hF⟩
    refine W.block (W.seq fun K41 hK41 => (W.region (wl_move rfl rfl ?_)))
    obtain ⟨u42, hu42, hF⟩ := bindE hF
    refine wl_indexo (e := ty_40) (i := 2) Tryz.underlying33 rfl rfl rfl hS20 rfl hu42 ?_
    rintro p43 _ rfl hp44 ho45
    refine wl_load_p (vs := [(.int .i64 u42.1.1), (.int .i64 u42.1.2), (.int .i64 u42.2.1.1), (.int .i64 u42.2.1.2), (.int .i64 u42.2.2)]) (v := (.agg #[(.int .i64 u42.1.1), (.int .i64 u42.1.2), (.int .i64 u42.2.1.1), (.int .i64 u42.2.1.2), (.int .i64 u42.2.2)])) tf_40 rfl rfl hp44 rfl rfl (wl_alloc (cs := [(.int .i64 0), (.int .i64 0), (.int .i64 0), (.int .i64 0), (.int .i64 0)]) tf_40 rfl rfl hB19 hS20 ?_)
    intro b46 w47 hb48 hB49 hS50
    refine wl_assign rfl rfl (wl_store_blk (i := 0) (vs := [(.int .i64 u42.1.1), (.int .i64 u42.1.2), (.int .i64 u42.2.1.1), (.int .i64 u42.2.1.2), (.int .i64 u42.2.2)]) (cs' := [(.int .i64 u42.1.1), (.int .i64 u42.1.2), (.int .i64 u42.2.1.1), (.int .i64 u42.2.1.2), (.int .i64 u42.2.2)]) tf_40 rfl rfl rfl rfl hB49 hS50 rfl rfl ⟨rfl, rfl, rfl, rfl, rfl, trivial⟩ rfl ?_)
    intro w51 hk54 hB52 hS53
    refine WL.nil fun a ha => hK41 _ _ (W.seq fun K55 hK55 => (W.region (wl_load_blk (i := 0) (vs := [(.int .i64 u42.1.1), (.int .i64 u42.1.2), (.int .i64 u42.2.1.1), (.int .i64 u42.2.1.2), (.int .i64 u42.2.2)]) (v := (.agg #[(.int .i64 u42.1.1), (.int .i64 u42.1.2), (.int .i64 u42.2.1.1), (.int .i64 u42.2.1.2), (.int .i64 u42.2.2)])) tf_40 rfl rfl hS53 rfl rfl rfl (wl_field (o := 3) (off' := 3) ff_27_3 rfl rfl rfl (wl_load_blk (i := 1) (vs := [(.int .i64 x0.2.2.2)]) (v := (.int .i64 x0.2.2.2)) tf_3 rfl rfl hS53 rfl rfl rfl ?_))))) a ha
    obtain ⟨u56, hu56, hF⟩ := bindE hF
    refine wl_call rfl Tryz.call101 (C_spec_mvWithin w51 u42 x0.2.2.2 _ hu56) rfl ?_
    rintro _ w57 ⟨rfl, hb58⟩
    refine ⟨_, rfl, ?_⟩
    have hB59 := hB52.trans (hb58.mono hB52.size)
    have hS60 := hS53.below hb58
    refine wl_not rfl rfl (WL.nil (fun a ha => hK55 _ _ (W.cond rfl (fun h62 => ?_) (fun h62 => ?_)) a ha))
    ·replace hF := ifP h62 hF
     refine W.region (wl_move rfl rfl (wl_move rfl rfl (wl_lit (vs := [(.int .i64 y24)]) (l := [y24]) fl_3 Tryz.underlying25 rfl rfl rfl rfl rfl rfl hB59 hS60 ?_)))
     intro v63 F64 w65 hb66 hB67 hS68
     obtain ⟨u69, hu69, hF⟩ := bindE hF
     refine wl_append (i := 3) (S := (· < w65.heap.size)) fl_3 Tryz.underlying25 rfl rfl rfl hB67 hS68 rfl (hS68.own_ro (i := 0) rfl) hu69 ?_
     intro v70 F71 w72 hk73 hB74 hS75
     refine wl_assign rfl rfl (WL.nil ?_)
     exact fun a ha => hJ40 (u69) (v70) (F71) _ hF hB74 (hS75.sel [2, 3, 4] rfl) a (ha.sub ⟨rfl, rfl, rfl, rfl, rfl, trivial⟩)
    ·replace hF := ifN h62 hF
     refine W.skip ?_
     exact fun a ha => hJ40 (l21) (v22) (F23) _ hF hB59 (hS60.sel [1, 2, 3] rfl) a (ha.sub ⟨rfl, rfl, rfl, rfl, rfl, trivial⟩)
   ·replace hF := ifN h31 hF
    refine W.exit fun a ha => hK8 _ _ (W.seq fun K76 hK76 => (W.region (wl_move rfl rfl (wl_assign rfl rfl (WL.nil (fun a ha => hK76 _ _ (W.ret ?_) a ha)))))) a ha
    have hr := Option.some.inj hF
    subst hr
    exact rets (vs := [v22]) hQ rfl ⟨rv_tmp rfl, trivial⟩ ⟨v22, F23, rfl, hB19, hS20.sel [1] rfl⟩
theorem C_spec_swUnsafe (w0 : World) (x0 : ((List (List (Int × Int))) × (List Int) × Int × Int)) (v0_0 : Value) (h0_0 : rdS ty_51 (· < w0.heap.size) w0 v0_0 x0.1) (v0_1 : Value) (h0_1 : rdS ty_3 (· < w0.heap.size) w0 v0_1 x0.2.1) (r : (List Int)) (hF : F_spec_swUnsafe x0 = some r) :
  Calls Tryz.prog 31 [(.agg #[v0_0, v0_1, (.int .i64 x0.2.2.1), (.int .i64 x0.2.2.2)])].toArray w0 fun e w' => ∃ (q0 : Value) (G0 : List Nat), e = .returned q0 ∧ Below w0.heap.size w0 w' ∧ Sep w0.heap.size w' [R.own ty_3 G0 q0 r] := by
 refine calls_mk' Tryz.func31 rfl Tryz.ntmps31 rfl rfl fun Q hQ hP => ?_
 have hB : Below w0.heap.size w0 w0 := Below.refl _ _
 have hS : Sep w0.heap.size w0 [] := Sep.nil _ _
 unfold F_spec_swUnsafe at hF
 refine W.seq fun K1 hK1 => W.region (wl_box (cs := [v0_0, v0_1, (.int .i64 x0.2.2.1), (.int .i64 x0.2.2.2)]) rfl rfl rfl hB hS ?_)
 intro b2 w3 hb4 hB5 hS6
 refine wl_assign rfl rfl (WL.nil (fun a ha => hK1 _ _ (W.seq fun K7 hK7 => (W.region (wl_assign rfl rfl (WL.nil (fun a ha => hK7 _ _ (W.seq fun K8 hK8 => (W.seq fun K9 hK9 => (W.region (wl_field (o := 1) (off' := 1) ff_27_1 rfl rfl rfl (wl_load_blk (i := 0) (vs := [v0_1]) (v := v0_1) tf_25 rfl rfl hS6 rfl rfl rfl (wl_lenr (e := ty_3) (l := x0.2.1) Tryz.underlying25 rfl rfl h0_1 ?_)))))) a ha))))) a ha))
 refine wl_move rfl rfl (WL.nil (fun a ha => hK9 _ _ (W.block (W.loopk (fun m a w10 => ∃ (l13 : (List Int)) (y16 : Int) (v14 : Value) (F15 : List Nat), St 27 [(1, (.pointer (some ⟨b2, 0, none⟩))), (3, v14), (7, (.int .i64 (List.length x0.2.1 : Int))), (8, (.int .i64 y16))] a ∧ Below w0.heap.size w0 w10 ∧ Sep w0.heap.size w10 [R.blk b2 27 [v0_0, v0_1, (.int .i64 x0.2.2.1), (.int .i64 x0.2.2.2)], R.own ty_3 F15 v14 l13] ∧ F_spec_swUnsafe_L1 x0 m l13 y16 = some r) FU ?_ ?_)) a ha))
 ·
  have hS18 := hS6.push0 (r := R.own ty_3 [] (.slice none 0 0) []) rfl fun _ => .inl ⟨rfl, rfl, rfl⟩
  exact fun a ha => ⟨[], 0, (.slice none 0 0), [], ha.sub ⟨rfl, rfl, rfl, rfl, trivial⟩, hB5, (hS18.sel [1, 0] rfl), hF⟩
 ·
  rintro m20 a w10 ⟨l13, y16, v14, F15, ha, hB11, hS12, hF⟩ KL19 hKL19
  refine W.at ?_ ha
  cases m20 with
  | zero => exact noneE hF
  | succ m20 =>
   obtain ⟨nx17, hnx17⟩ : ∃ k, k = F_spec_swUnsafe_L1 x0 m20 := ⟨_, rfl⟩
   rw [F_spec_swUnsafe_L1, ← hnx17] at hF
   refine W.seq fun K21 hK21 => W.region (wl_lss rfl rfl rfl (WL.nil (fun a ha => hK21 _ _ (W.seq fun K22 hK22 => (W.cond rfl (fun h23 => ?_) (fun h23 => ?_))) a ha)))
   ·replace hF := ifP h23 hF
    refine W.skip fun a ha => hK22 _ _ (W.seq fun K24 hK24 => ?_) a ha
    obtain ⟨k31, hk31, hF⟩ := jE1 hF
    have hJ32 : ∀ (l28 : (List Int)) (v29 : Value) (F30 : List Nat) (w25 : World) (_ : k31 l28 = some r) (_ : Below w0.heap.size w0 w25) (_ : Sep w0.heap.size w25 [R.blk b2 27 [v0_0, v0_1, (.int .i64 x0.2.2.1), (.int .i64 x0.2.2.2)], R.own ty_3 F30 v29 l28]), ∀ a, St 27 [(1, (.pointer (some ⟨b2, 0, none⟩))), (3, v29), (7, (.int .i64 (List.length x0.2.1 : Int))), (8, (.int .i64 y16))] a → K24 a w25 := by
     intro l28 v29 F30 w25 hF hB26 hS27
     subst hk31
     refine fun a ha => hK24 _ _ (W.region (wl_add rfl rfl rfl (wl_move rfl rfl (WL.nil ?_)))) a ha
     rw [hnx17] at hF
     exact fun a ha => hKL19 a _ m20 (Nat.lt_succ_self m20) ⟨l28, (w64 (y16 + 1)), v29, F30, ha.sub ⟨rfl, rfl, rfl, rfl, trivial⟩, hB26, (hS27.sel [0, 1] rfl), hF⟩
    refine W.block (W.seq fun K33 hK33 => (W.region (wl_move rfl rfl (wl_assign rfl rfl (WL.nil (fun a ha => hK33 _ _ (W.seq fun K34 hK34 => (W.regionH mixed_ [] hB11 hS12 ?_)) a ha))))))
    intro w35 hb36 hB37 hS38
    have hSW39 := KeepX.refl w35 []
    refine WH.tk 0 rfl hP hSW39 (pr_load_blk (i := 0) (vs := [v0_0, v0_1, (.int .i64 x0.2.2.1), (.int .i64 x0.2.2.2)]) (v := (.agg #[v0_0, v0_1, (.int .i64 x0.2.2.1), (.int .i64 x0.2.2.2)])) tf_27 rfl rfl hS38 rfl rfl rfl (by simp) (WH.tk 1 rfl hP hSW39 (pr_move rfl rfl (WH.tk 4 rfl hP hSW39 (pr_load_blk (i := 0) (vs := [v0_0, v0_1, (.int .i64 x0.2.2.1), (.int .i64 x0.2.2.2)]) (v := (.agg #[v0_0, v0_1, (.int .i64 x0.2.2.1), (.int .i64 x0.2.2.2)])) tf_27 rfl rfl hS38 rfl rfl rfl (by simp) (WH.tk 5 rfl hP hSW39 (pr_move rfl rfl (WH.on1 2 rfl ?_))))))))
    obtain ⟨u40, hu40, hF⟩ := bindE hF
    refine wl_call rfl Tryz.call75 (C_spec_swClose w35 x0 v0_0 (h0_0.ro hB37) v0_1 (h0_1.ro hB37) y16 _ hu40) rfl ?_
    rintro _ w43 ⟨v41, F42, rfl, hb44, hM47⟩
    refine ⟨_, rfl, ?_⟩
    have hB45 := hB37.trans (hb44.mono hB37.size)
    have hS46 := hS38.join hb44 hM47 hB37.size
    have hSW49 := hSW39.ext hb44
    refine WL.nil (WH.ret hSW49 (WH.tk 3 rfl hP hSW49 (pr_lenr (e := ty_25) (l := u40) Tryz.underlying117 rfl rfl (hS46.own_ro (i := 0) rfl) (WH.on1 6 rfl ?_))))
    obtain ⟨u50, hu50, hF⟩ := bindE hF
    refine wl_call rfl Tryz.call76 (C_spec_swWide w43 x0 v0_0 (h0_0.ro hB45) v0_1 (h0_1.ro hB45) y16 _ hu50) rfl ?_
    rintro _ w53 ⟨v51, F52, rfl, hb54, hM57⟩
    refine ⟨_, rfl, ?_⟩
    have hB55 := hB45.trans (hb54.mono hB45.size)
    have hS56 := hS46.join hb54 hM57 hB45.size
    have hSW59 := hSW49.ext hb54
    refine WL.nil (WH.ret hSW59 (WH.tk 7 rfl hP hSW59 (pr_lenr (e := ty_3) (l := u50) Tryz.underlying25 rfl rfl (hS56.own_ro (i := 0) rfl) (WH.tk 8 rfl hP hSW59 (pr_add rfl rfl rfl (WH.tk 9 rfl hP hSW59 (pr_gtr rfl rfl rfl (WH.done (by kernel_rfl) (fun a ha => hK34 _ _ (W.cond rfl (fun h60 => ?_) (fun h60 => ?_)) a ha)))))))))
    ·replace hF := ifP h60 hF
     refine W.region (wl_move rfl rfl (wl_move rfl rfl (wl_lit (vs := [(.int .i64 y16)]) (l := [y16]) fl_3 Tryz.underlying25 rfl rfl rfl rfl rfl rfl hB55 hS56 ?_)))
     intro v61 F62 w63 hb64 hB65 hS66
     obtain ⟨u67, hu67, hF⟩ := bindE hF
     refine wl_append (i := 4) (S := (· < w63.heap.size)) fl_3 Tryz.underlying25 rfl rfl rfl hB65 hS66 rfl (hS66.own_ro (i := 0) rfl) hu67 ?_
     intro v68 F69 w70 hk71 hB72 hS73
     refine wl_assign rfl rfl (WL.nil ?_)
     exact fun a ha => hJ32 (u67) (v68) (F69) _ hF hB72 (hS73.sel [3, 4] rfl) a (ha.sub ⟨rfl, rfl, rfl, rfl, trivial⟩)
    ·replace hF := ifN h60 hF
     refine W.skip ?_
     exact fun a ha => hJ32 (l13) (v14) (F15) _ hF hB55 (hS56.sel [2, 3] rfl) a (ha.sub ⟨rfl, rfl, rfl, rfl, trivial⟩)
   ·replace hF := ifN h23 hF
    refine W.exit fun a ha => hK8 _ _ (W.seq fun K74 hK74 => (W.region (wl_move rfl rfl (wl_assign rfl rfl (WL.nil (fun a ha => hK74 _ _ (W.ret ?_) a ha)))))) a ha
    have hr := Option.some.inj hF
    subst hr
    exact rets (vs := [v14]) hQ rfl ⟨rv_tmp rfl, trivial⟩ ⟨v14, F15, rfl, hB11, hS12.sel [1] rfl⟩
end Go.Proofs.YtejhnpimhjmpdaaGreatDoor
