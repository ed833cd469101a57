/-
  THE WALKS of functions of this seat, by program (gen.py, prune.py).
-/
import Derived.Test.YtejhnpimhjmpdaaGreatDoorBld
set_option linter.unusedSimpArgs false
set_option linter.unusedVariables false
set_option maxRecDepth 100000
set_option maxHeartbeats 1600000
namespace Go.Proofs.YtejhnpimhjmpdaaGreatDoor
open Go Go.RowKit
theorem C_laws_big (w0 : World) (x0 : (List Int)) (v0_0 : Value) (h0_0 : rdS ty_5 (· < w0.heap.size) w0 v0_0 x0) (x1 : (List Int)) (v1_0 : Value) (h1_0 : rdS ty_5 (· < w0.heap.size) w0 v1_0 x1) (r : Bool) (hF : F_laws_big x0 x1 = some r) :
  Calls Tryz.prog 4 [v0_0, v1_0].toArray w0 fun e w' => e = .returned (.bool r) ∧ Below w0.heap.size w0 w' := by
 refine calls_mk' Tryz.func4 rfl Tryz.ntmps4 rfl rfl fun Q hQ hP => ?_
 have hB : Below w0.heap.size w0 w0 := Below.refl _ _
 have hS : Sep w0.heap.size w0 [] := Sep.nil _ _
 unfold F_laws_big at hF
 refine W.seq fun K1 hK1 => W.region (wl_assign rfl rfl (WL.nil (fun a ha => hK1 _ _ (W.seq fun K2 hK2 => ?_) a ha)))
 obtain ⟨k7, hk7, hF⟩ := jE1 hF
 have hJ8 : ∀ (y6 : Bool) (w3 : World) (_ : k7 y6 = some r) (_ : Below w0.heap.size w0 w3) (_ : Sep w0.heap.size w3 []), ∀ a, St 16 [(4, (.bool y6))] a → K2 a w3 := by
  intro y6 w3 hF hB4 hS5
  subst hk7
  refine fun a ha => hK2 _ _ (W.ret ?_) a ha
  have hr := Option.some.inj hF
  subst hr
  exact rets (vs := [(.bool y6)]) hQ rfl ⟨rv_tmp rfl, trivial⟩ ⟨rfl, hB4⟩
 refine W.region (wl_move rfl rfl (wl_lenr (e := ty_5) (l := x0) Tryz.underlying22 rfl rfl h0_0 (wl_gtr rfl rfl rfl (wl_move rfl rfl ?_))))
 rcases bE (decide (1048576 < (List.length x0 : Int))) with h9 | h9
 ·replace hF := ifP h9 hF
  refine wl_off rfl rfl rfl h9 (wl_off rfl rfl rfl h9 (wl_off rfl rfl rfl h9 (wl_off rfl rfl rfl h9 (wl_off rfl rfl rfl h9 (wl_off rfl rfl rfl h9 (wl_pick_t rfl rfl h9 rfl (wl_assign rfl rfl (WL.nil ?_))))))))
  exact fun a ha => hJ8 (true) _ hF hB (hS.sel [] rfl) a (ha.sub ⟨rfl, trivial⟩)
 ·replace hF := ifN h9 hF
  refine wl_on rfl rfl h9 (wl_move rfl rfl (wl_on rfl rfl h9 (wl_lenr (e := ty_5) (l := x1) Tryz.underlying22 rfl rfl h1_0 (wl_on rfl rfl h9 (wl_move rfl rfl (wl_on rfl rfl h9 (wl_lenr (e := ty_5) (l := x0) Tryz.underlying22 rfl rfl h0_0 (wl_on rfl rfl h9 (wl_sub rfl rfl rfl (wl_on rfl rfl h9 (wl_gtr rfl rfl rfl (wl_pick_f rfl rfl h9 rfl (wl_assign rfl rfl ?_)))))))))))))
  refine WL.nil ?_
  exact fun a ha => hJ8 ((decide ((w64 (1048576 - (List.length x0 : Int))) < (List.length x1 : Int)))) _ hF hB (hS.sel [] rfl) a (ha.sub ⟨rfl, trivial⟩)
theorem C_spec_l1Least (w0 : World) (x0 : Int) (x1 : Int) (r : Int) (hF : F_spec_l1Least x0 x1 = some r) :
  Calls Tryz.prog 64 [(.int .i64 x0), (.int .i64 x1)].toArray w0 fun e w' => e = .returned (.int .i64 r) ∧ Below w0.heap.size w0 w' := by
 refine calls_mk' Tryz.func64 rfl Tryz.ntmps64 rfl rfl fun Q hQ hP => ?_
 have hB : Below w0.heap.size w0 w0 := Below.refl _ _
 unfold F_spec_l1Least at hF
 refine W.seq fun K1 hK1 => W.region (wl_assign rfl rfl (WL.nil (fun a ha => hK1 _ _ (W.seq fun K2 hK2 => (W.seq fun K3 hK3 => (W.region (wl_move rfl rfl (wl_move rfl rfl (wl_lss rfl rfl rfl (WL.nil (fun a ha => hK3 _ _ (W.cond rfl (fun h4 => ?_) (fun h4 => ?_)) a ha)))))))) a ha)))
 ·replace hF := ifP h4 hF
  refine W.seq fun K5 hK5 => W.region (wl_move rfl rfl (wl_assign rfl rfl (WL.nil (fun a ha => hK5 _ _ (W.ret ?_) a ha))))
  have hr := Option.some.inj hF
  subst hr
  exact rets (vs := [(.int .i64 x0)]) hQ rfl ⟨rv_tmp rfl, trivial⟩ ⟨rfl, hB⟩
 ·replace hF := ifN h4 hF
  refine W.skip fun a ha => hK2 _ _ (W.seq fun K6 hK6 => (W.region (wl_move rfl rfl (wl_assign rfl rfl (WL.nil (fun a ha => hK6 _ _ (W.ret ?_) a ha)))))) a ha
  have hr := Option.some.inj hF
  subst hr
  exact rets (vs := [(.int .i64 x1)]) hQ rfl ⟨rv_tmp rfl, trivial⟩ ⟨rfl, hB⟩
theorem C_spec_chFind (w0 : World) (x0 : (List (Int × Int))) (v0_0 : Value) (h0_0 : rdS ty_38 (· < w0.heap.size) w0 v0_0 x0) (x1 : (Int × Int)) (r : Int) (hF : F_spec_chFind x0 x1 = some r) :
  Calls Tryz.prog 94 [v0_0, (.agg #[(.int .i64 x1.1), (.int .i64 x1.2)])].toArray w0 fun e w' => e = .returned (.int .i64 r) ∧ Below w0.heap.size w0 w' := by
 refine calls_mk' Tryz.func94 rfl Tryz.ntmps94 rfl rfl fun Q hQ hP => ?_
 have hB : Below w0.heap.size w0 w0 := Below.refl _ _
 have hS : Sep w0.heap.size w0 [] := Sep.nil _ _
 unfold F_spec_chFind at hF
 refine W.seq fun K1 hK1 => W.region (wl_box (cs := [(.int .i64 x1.1), (.int .i64 x1.2)]) rfl rfl rfl hB hS ?_)
 intro b2 w3 hb4 hB5 hS6
 refine wl_assign rfl rfl (WL.nil (fun a ha => hK1 _ _ (W.seq fun K7 hK7 => (W.seq fun K8 hK8 => (W.region (wl_move rfl rfl (wl_lenr (e := ty_38) (l := x0) Tryz.underlying51 rfl rfl h0_0 (wl_move rfl rfl (WL.nil (fun a ha => hK8 _ _ (W.block (W.loopk (fun m a w9 => ∃ (y12 : Int), St 19 [(3, (.pointer (some ⟨b2, 0, none⟩))), (7, v0_0), (8, (.int .i64 (List.length x0 : Int))), (9, (.int .i64 y12))] a ∧ Below w0.heap.size w0 w9 ∧ Sep w0.heap.size w9 [R.blk b2 38 [(.int .i64 x1.1), (.int .i64 x1.2)]] ∧ F_spec_chFind_L1 x0 x1 m y12 = some r) FU ?_ ?_)) a ha)))))))) a ha))
 ·
  exact fun a ha => ⟨0, ha.sub ⟨rfl, rfl, rfl, rfl, trivial⟩, hB5, (hS6.sel [0] rfl), hF⟩
 ·
  rintro m15 a w9 ⟨y12, ha, hB10, hS11, hF⟩ KL14 hKL14
  refine W.at ?_ ha
  cases m15 with
  | zero => exact noneE hF
  | succ m15 =>
   obtain ⟨nx13, hnx13⟩ : ∃ k, k = F_spec_chFind_L1 x0 x1 m15 := ⟨_, rfl⟩
   rw [F_spec_chFind_L1, ← hnx13] at hF
   refine W.seq fun K16 hK16 => W.region (wl_lss rfl rfl rfl (WL.nil (fun a ha => hK16 _ _ (W.seq fun K17 hK17 => (W.cond rfl (fun h18 => ?_) (fun h18 => ?_))) a ha)))
   ·replace hF := ifP h18 hF
    refine W.skip fun a ha => hK17 _ _ (W.seq fun K19 hK19 => (W.block (W.seq fun K20 hK20 => (W.region (wl_move rfl rfl ?_))))) a ha
    obtain ⟨u21, hu21, hF⟩ := bindE hF
    refine wl_index (e := ty_38) Tryz.underlying51 rfl rfl rfl h0_0 hu21 ?_
    rintro p22 _ rfl hp23
    refine wl_load_p (vs := [(.int .i64 u21.1), (.int .i64 u21.2)]) (v := (.agg #[(.int .i64 u21.1), (.int .i64 u21.2)])) tf_38 rfl rfl (hp23.ro hB10) rfl rfl (wl_alloc (cs := [(.int .i64 0), (.int .i64 0)]) tf_38 rfl rfl hB10 hS11 ?_)
    intro b24 w25 hb26 hB27 hS28
    refine wl_assign rfl rfl (wl_store_blk (i := 0) (vs := [(.int .i64 u21.1), (.int .i64 u21.2)]) (cs' := [(.int .i64 u21.1), (.int .i64 u21.2)]) tf_38 rfl rfl rfl rfl hB27 hS28 rfl rfl ⟨rfl, rfl, trivial⟩ rfl ?_)
    intro w29 hk32 hB30 hS31
    refine WL.nil fun a ha => hK20 _ _ (W.seq fun K33 hK33 => (W.region (wl_load_blk (i := 0) (vs := [(.int .i64 u21.1), (.int .i64 u21.2)]) (v := (.agg #[(.int .i64 u21.1), (.int .i64 u21.2)])) tf_38 rfl rfl hS31 rfl rfl rfl (wl_load_blk (i := 1) (vs := [(.int .i64 x1.1), (.int .i64 x1.2)]) (v := (.agg #[(.int .i64 x1.1), (.int .i64 x1.2)])) tf_38 rfl rfl hS31 rfl rfl rfl (wl_eqs Tryz.eqGuardType38 (eq_38 u21 x1) rfl rfl rfl (WL.nil (fun a ha => hK33 _ _ (W.cond rfl (fun h34 => ?_) (fun h34 => ?_)) a ha))))))) a ha
    ·replace hF := ifP h34 hF
     refine W.seq fun K35 hK35 => W.region (wl_move rfl rfl (wl_assign rfl rfl (WL.nil (fun a ha => hK35 _ _ (W.ret ?_) a ha))))
     have hr := Option.some.inj hF
     subst hr
     exact rets (vs := [(.int .i64 y12)]) hQ rfl ⟨rv_tmp rfl, trivial⟩ ⟨rfl, hB30⟩
    ·replace hF := ifN h34 hF
     refine W.skip fun a ha => hK19 _ _ (W.region (wl_add rfl rfl rfl (wl_move rfl rfl (WL.nil ?_)))) a ha
     rw [hnx13] at hF
     exact fun a ha => hKL14 a _ m15 (Nat.lt_succ_self m15) ⟨(w64 (y12 + 1)), ha.sub ⟨rfl, rfl, rfl, rfl, trivial⟩, hB30, (hS31.sel [1] rfl), hF⟩
   ·replace hF := ifN h18 hF
    refine W.exit fun a ha => hK7 _ _ (W.seq fun K36 hK36 => (W.region (wl_assign rfl rfl (WL.nil (fun a ha => hK36 _ _ (W.ret ?_) a ha))))) a ha
    have hr := Option.some.inj hF
    subst hr
    exact rets (vs := [(.int .i64 (-1))]) hQ rfl ⟨rv_tmp rfl, trivial⟩ ⟨rfl, hB10⟩
theorem C_spec_chOwn (w0 : World) (x0 : (List (Int × Int))) (v0_0 : Value) (h0_0 : rdS ty_38 (· < w0.heap.size) w0 v0_0 x0) (r : (List (Int × Int))) (hF : F_spec_chOwn x0 = some r) :
  Calls Tryz.prog 63 [v0_0].toArray w0 fun e w' => ∃ (q0 : Value) (G0 : List Nat), e = .returned q0 ∧ Below w0.heap.size w0 w' ∧ Sep w0.heap.size w' [R.own ty_38 G0 q0 r] := by
 refine calls_mk' Tryz.func63 rfl Tryz.ntmps63 rfl rfl fun Q hQ hP => ?_
 have hB : Below w0.heap.size w0 w0 := Below.refl _ _
 have hS : Sep w0.heap.size w0 [] := Sep.nil _ _
 unfold F_spec_chOwn at hF
 refine W.seq fun K1 hK1 => W.region (wl_assign rfl rfl (WL.nil (fun a ha => hK1 _ _ (W.seq fun K2 hK2 => (W.region (wl_lit (vs := []) (l := []) fl_38 Tryz.underlying51 rfl rfl rfl rfl rfl rfl hB hS ?_))) a ha)))
 intro v3 F4 w5 hb6 hB7 hS8
 refine wl_move rfl rfl ?_
 obtain ⟨u9, hu9, hF⟩ := bindE hF
 refine wl_append (i := 0) (S := (· < w5.heap.size)) fl_38 Tryz.underlying51 rfl rfl rfl hB7 hS8 rfl (h0_0.ro hB7) hu9 ?_
 intro v10 F11 w12 hk13 hB14 hS15
 refine wl_assign rfl rfl (WL.nil (fun a ha => hK2 _ _ (W.ret ?_) a ha))
 have hr := Option.some.inj hF
 subst hr
 exact rets (vs := [v10]) hQ rfl ⟨rv_tmp rfl, trivial⟩ ⟨v10, F11, rfl, hB14, hS15.sel [0] rfl⟩
theorem C_spec_l1In (w0 : World) (x0 : Int) (x1 : Int) (x2 : Int) (r : Bool) (hF : F_spec_l1In x0 x1 x2 = some r) :
  Calls Tryz.prog 71 [(.int .i64 x0), (.int .i64 x1), (.int .i64 x2)].toArray w0 fun e w' => e = .returned (.bool r) ∧ Below w0.heap.size w0 w' := by
 refine calls_mk' Tryz.func71 rfl Tryz.ntmps71 rfl rfl fun Q hQ hP => ?_
 have hB : Below w0.heap.size w0 w0 := Below.refl _ _
 have hS : Sep w0.heap.size w0 [] := Sep.nil _ _
 unfold F_spec_l1In at hF
 refine W.seq fun K1 hK1 => W.region (wl_assign rfl rfl (WL.nil (fun a ha => hK1 _ _ (W.seq fun K2 hK2 => ?_) a ha)))
 obtain ⟨k7, hk7, hF⟩ := jE1 hF
 have hJ8 : ∀ (y6 : Bool) (w3 : World) (_ : k7 y6 = some r) (_ : Below w0.heap.size w0 w3) (_ : Sep w0.heap.size w3 []), ∀ a, St 15 [(6, (.bool y6))] a → K2 a w3 := by
  intro y6 w3 hF hB4 hS5
  subst hk7
  refine fun a ha => hK2 _ _ (W.ret ?_) a ha
  have hr := Option.some.inj hF
  subst hr
  exact rets (vs := [(.bool y6)]) hQ rfl ⟨rv_tmp rfl, trivial⟩ ⟨rfl, hB4⟩
 refine W.region (wl_move rfl rfl (wl_move rfl rfl (wl_geq rfl rfl rfl (wl_move rfl rfl ?_))))
 rcases bE (decide (x1 ≤ x0)) with h9 | h9
 ·replace hF := ifP h9 hF
  refine wl_on rfl rfl h9 (wl_move rfl rfl (wl_on rfl rfl h9 (wl_move rfl rfl (wl_on rfl rfl h9 (wl_leq rfl rfl rfl (wl_pick_t rfl rfl h9 rfl (wl_assign rfl rfl (WL.nil ?_))))))))
  exact fun a ha => hJ8 ((decide (x0 ≤ x2))) _ hF hB (hS.sel [] rfl) a (ha.sub ⟨rfl, trivial⟩)
 ·replace hF := ifN h9 hF
  refine wl_off rfl rfl rfl h9 (wl_off rfl rfl rfl h9 (wl_off rfl rfl rfl h9 (wl_pick_f rfl rfl h9 rfl (wl_assign rfl rfl (WL.nil ?_)))))
  exact fun a ha => hJ8 (false) _ hF hB (hS.sel [] rfl) a (ha.sub ⟨rfl, trivial⟩)
theorem C_spec_stGood (w0 : World) (x0 : (Int × Int)) (r : Bool) (hF : F_spec_stGood x0 = some r) :
  Calls Tryz.prog 95 [(.agg #[(.int .i64 x0.1), (.int .i64 x0.2)])].toArray w0 fun e w' => e = .returned (.bool r) ∧ Below w0.heap.size w0 w' := by
 refine calls_mk' Tryz.func95 rfl Tryz.ntmps95 rfl rfl fun Q hQ hP => ?_
 have hB : Below w0.heap.size w0 w0 := Below.refl _ _
 have hS : Sep w0.heap.size w0 [] := Sep.nil _ _
 unfold F_spec_stGood at hF
 refine W.seq fun K1 hK1 => W.region (wl_box (cs := [(.int .i64 x0.1), (.int .i64 x0.2)]) rfl rfl rfl hB hS ?_)
 intro b2 w3 hb4 hB5 hS6
 refine wl_assign rfl rfl (WL.nil (fun a ha => hK1 _ _ (W.seq fun K7 hK7 => ?_) a ha))
 obtain ⟨k12, hk12, hF⟩ := jE1 hF
 have hJ13 : ∀ (y11 : Bool) (w8 : World) (_ : k12 y11 = some r) (_ : Below w0.heap.size w0 w8) (_ : Sep w0.heap.size w8 []), ∀ a, St 11 [(2, (.bool y11))] a → K7 a w8 := by
  intro y11 w8 hF hB9 hS10
  subst hk12
  refine fun a ha => hK7 _ _ (W.ret ?_) a ha
  have hr := Option.some.inj hF
  subst hr
  exact rets (vs := [(.bool y11)]) hQ rfl ⟨rv_tmp rfl, trivial⟩ ⟨rfl, hB9⟩
 refine W.region (wl_field (o := 0) (off' := 0) ff_38_0 rfl rfl rfl (wl_load_blk (i := 0) (vs := [(.int .i64 x0.1)]) (v := (.int .i64 x0.1)) tf_3 rfl rfl hS6 rfl rfl rfl ?_))
 obtain ⟨u14, hu14, hF⟩ := bindE hF
 refine wl_call rfl Tryz.call71 (C_spec_l1In w3 x0.1 0 1280 _ hu14) rfl ?_
 rintro _ w15 ⟨rfl, hb16⟩
 refine ⟨_, rfl, ?_⟩
 have hB17 := hB5.trans (hb16.mono hB5.size)
 have hS18 := hS6.below hb16
 refine wl_move rfl rfl ?_
 rcases bE u14 with h20 | h20
 ·replace hF := ifP h20 hF
  refine wl_on rfl rfl h20 (wl_field (o := 1) (off' := 1) ff_38_1 rfl rfl rfl (wl_on rfl rfl h20 (wl_load_blk (i := 0) (vs := [(.int .i64 x0.2)]) (v := (.int .i64 x0.2)) tf_3 rfl rfl hS18 rfl rfl rfl (wl_on rfl rfl h20 ?_))))
  obtain ⟨u21, hu21, hF⟩ := bindE hF
  refine wl_call rfl Tryz.call71 (C_spec_l1In w15 x0.2 0 672 _ hu21) rfl ?_
  rintro _ w22 ⟨rfl, hb23⟩
  refine ⟨_, rfl, ?_⟩
  have hB24 := hB17.trans (hb23.mono hB17.size)
  have hS25 := hS18.below hb23
  refine wl_pick_t rfl rfl h20 rfl (wl_assign rfl rfl (WL.nil ?_))
  exact fun a ha => hJ13 (u21) _ hF hB24 (hS25.sel [] rfl) a (ha.sub ⟨rfl, trivial⟩)
 ·replace hF := ifN h20 hF
  refine wl_off rfl rfl rfl h20 (wl_off rfl rfl rfl h20 (wl_off rfl rfl rfl h20 (wl_pick_f rfl rfl h20 rfl (wl_assign rfl rfl (WL.nil ?_)))))
  exact fun a ha => hJ13 (false) _ hF hB17 (hS18.sel [] rfl) a (ha.sub ⟨rfl, trivial⟩)
theorem C_spec_chGood (w0 : World) (x0 : (List (Int × Int))) (v0_0 : Value) (h0_0 : rdS ty_38 (· < w0.heap.size) w0 v0_0 x0) (r : Bool) (hF : F_spec_chGood x0 = some r) :
  Calls Tryz.prog 65 [v0_0].toArray w0 fun e w' => e = .returned (.bool r) ∧ Below w0.heap.size w0 w' := by
 refine calls_mk' Tryz.func65 rfl Tryz.ntmps65 rfl rfl fun Q hQ hP => ?_
 have hB : Below w0.heap.size w0 w0 := Below.refl _ _
 have hS : Sep w0.heap.size w0 [] := Sep.nil _ _
 unfold F_spec_chGood at hF
 refine W.seq fun K1 hK1 => W.region (wl_assign rfl rfl (WL.nil (fun a ha => hK1 _ _ (W.seq fun K2 hK2 => (W.seq fun K3 hK3 => (W.region (wl_move rfl rfl (wl_lenr (e := ty_38) (l := x0) Tryz.underlying51 rfl rfl h0_0 (wl_move rfl rfl (WL.nil (fun a ha => hK3 _ _ (W.block ?_) a ha)))))))) a ha)))
 refine W.loopk (fun m a w4 => ∃ (y7 : Int), St 33 [(0, v0_0), (7, v0_0), (8, (.int .i64 (List.length x0 : Int))), (9, (.int .i64 y7))] a ∧ Below w0.heap.size w0 w4 ∧ Sep w0.heap.size w4 [] ∧ F_spec_chGood_L1 x0 m y7 = some r) FU ?_ ?_
 ·
  exact fun a ha => ⟨0, ha.sub ⟨rfl, rfl, rfl, rfl, trivial⟩, hB, (hS.sel [] rfl), hF⟩
 ·
  rintro m10 a w4 ⟨y7, ha, hB5, hS6, hF⟩ KL9 hKL9
  refine W.at ?_ ha
  cases m10 with
  | zero => exact noneE hF
  | succ m10 =>
   obtain ⟨nx8, hnx8⟩ : ∃ k, k = F_spec_chGood_L1 x0 m10 := ⟨_, rfl⟩
   rw [F_spec_chGood_L1, ← hnx8] at hF
   refine W.seq fun K11 hK11 => W.region (wl_lss rfl rfl rfl (WL.nil (fun a ha => hK11 _ _ (W.seq fun K12 hK12 => (W.cond rfl (fun h13 => ?_) (fun h13 => ?_))) a ha)))
   ·replace hF := ifP h13 hF
    refine W.skip fun a ha => hK12 _ _ (W.seq fun K14 hK14 => (W.block (W.seq fun K15 hK15 => (W.region (wl_move rfl rfl ?_))))) a ha
    obtain ⟨u16, hu16, hF⟩ := bindE hF
    refine wl_index (e := ty_38) Tryz.underlying51 rfl rfl rfl h0_0 hu16 ?_
    rintro p17 _ rfl hp18
    refine wl_load_p (vs := [(.int .i64 u16.1), (.int .i64 u16.2)]) (v := (.agg #[(.int .i64 u16.1), (.int .i64 u16.2)])) tf_38 rfl rfl (hp18.ro hB5) rfl rfl (wl_alloc (cs := [(.int .i64 0), (.int .i64 0)]) tf_38 rfl rfl hB5 hS6 ?_)
    intro b19 w20 hb21 hB22 hS23
    refine wl_assign rfl rfl (wl_store_blk (i := 0) (vs := [(.int .i64 u16.1), (.int .i64 u16.2)]) (cs' := [(.int .i64 u16.1), (.int .i64 u16.2)]) tf_38 rfl rfl rfl rfl hB22 hS23 rfl rfl ⟨rfl, rfl, trivial⟩ rfl ?_)
    intro w24 hk27 hB25 hS26
    refine WL.nil fun a ha => hK15 _ _ (W.seq fun K28 hK28 => (W.seq fun K29 hK29 => (W.region (wl_load_blk (i := 0) (vs := [(.int .i64 u16.1), (.int .i64 u16.2)]) (v := (.agg #[(.int .i64 u16.1), (.int .i64 u16.2)])) tf_38 rfl rfl hS26 rfl rfl rfl ?_)))) a ha
    obtain ⟨u30, hu30, hF⟩ := bindE hF
    refine wl_call rfl Tryz.call95 (C_spec_stGood w24 u16 _ hu30) rfl ?_
    rintro _ w31 ⟨rfl, hb32⟩
    refine ⟨_, rfl, ?_⟩
    have hB33 := hB25.trans (hb32.mono hB25.size)
    have hS34 := hS26.below hb32
    refine wl_not rfl rfl (WL.nil (fun a ha => hK29 _ _ (W.cond rfl (fun h36 => ?_) (fun h36 => ?_)) a ha))
    ·replace hF := ifP h36 hF
     refine W.seq fun K37 hK37 => W.region (wl_assign rfl rfl (WL.nil (fun a ha => hK37 _ _ (W.ret ?_) a ha)))
     have hr := Option.some.inj hF
     subst hr
     exact rets (vs := [(.bool false)]) hQ rfl ⟨rv_tmp rfl, trivial⟩ ⟨rfl, hB33⟩
    ·replace hF := ifN h36 hF
     refine W.skip fun a ha => hK28 _ _ (W.seq fun K38 hK38 => (W.region (wl_move rfl rfl (wl_move rfl rfl ?_)))) a ha
     obtain ⟨u39, hu39, hF⟩ := bindE hF
     refine wl_slice (e := ty_38) Tryz.underlying51 rfl rfl h0_0 hu39 (.inl ⟨rfl, rfl⟩) (.inr ⟨_, _, rfl, rfl⟩) ?_
     intro v40 hv41
     refine wl_lenr (e := ty_38) (l := u39) Tryz.underlying51 rfl rfl hv41 (wl_move rfl rfl (WL.nil (fun a ha => hK38 _ _ (W.block (W.loopk (fun m a w42 => ∃ (y45 : Int), St 33 [(0, v0_0), (4, (.pointer (some ⟨b19, 0, none⟩))), (7, v0_0), (8, (.int .i64 (List.length x0 : Int))), (9, (.int .i64 y7)), (19, v40), (20, (.int .i64 (List.length u39 : Int))), (21, (.int .i64 y45))] a ∧ Below w0.heap.size w0 w42 ∧ Sep w0.heap.size w42 [R.blk b19 38 [(.int .i64 u16.1), (.int .i64 u16.2)]] ∧ F_spec_chGood_L2 u39 u16 nx8 y7 m y45 = some r) FU ?_ ?_)) a ha)))
     ·
      exact fun a ha => ⟨0, ha.sub ⟨rfl, rfl, rfl, rfl, rfl, rfl, rfl, rfl, trivial⟩, hB33, (hS34.sel [0] rfl), hF⟩
     ·
      rintro m48 a w42 ⟨y45, ha, hB43, hS44, hF⟩ KL47 hKL47
      refine W.at ?_ ha
      cases m48 with
      | zero => exact noneE hF
      | succ m48 =>
       obtain ⟨nx46, hnx46⟩ : ∃ k, k = F_spec_chGood_L2 u39 u16 nx8 y7 m48 := ⟨_, rfl⟩
       rw [F_spec_chGood_L2, ← hnx46] at hF
       refine W.seq fun K49 hK49 => W.region (wl_lss rfl rfl rfl (WL.nil (fun a ha => hK49 _ _ (W.seq fun K50 hK50 => (W.cond rfl (fun h51 => ?_) (fun h51 => ?_))) a ha)))
       ·replace hF := ifP h51 hF
        refine W.skip fun a ha => hK50 _ _ (W.seq fun K52 hK52 => (W.block (W.seq fun K53 hK53 => (W.region ?_)))) a ha
        obtain ⟨u54, hu54, hF⟩ := bindE hF
        refine wl_index (e := ty_38) Tryz.underlying51 rfl rfl rfl hv41 hu54 ?_
        rintro p55 _ rfl hp56
        refine wl_load_p (vs := [(.int .i64 u54.1), (.int .i64 u54.2)]) (v := (.agg #[(.int .i64 u54.1), (.int .i64 u54.2)])) tf_38 rfl rfl (hp56.ro hB43) rfl rfl (wl_alloc (cs := [(.int .i64 0), (.int .i64 0)]) tf_38 rfl rfl hB43 hS44 ?_)
        intro b57 w58 hb59 hB60 hS61
        refine wl_store_blk (i := 0) (vs := [(.int .i64 u54.1), (.int .i64 u54.2)]) (cs' := [(.int .i64 u54.1), (.int .i64 u54.2)]) tf_38 rfl rfl rfl rfl hB60 hS61 rfl rfl ⟨rfl, rfl, trivial⟩ rfl ?_
        intro w62 hk65 hB63 hS64
        refine WL.nil fun a ha => hK53 _ _ (W.seq fun K66 hK66 => (W.region (wl_load_blk (i := 1) (vs := [(.int .i64 u16.1), (.int .i64 u16.2)]) (v := (.agg #[(.int .i64 u16.1), (.int .i64 u16.2)])) tf_38 rfl rfl hS64 rfl rfl rfl (wl_load_blk (i := 0) (vs := [(.int .i64 u54.1), (.int .i64 u54.2)]) (v := (.agg #[(.int .i64 u54.1), (.int .i64 u54.2)])) tf_38 rfl rfl hS64 rfl rfl rfl (wl_eqs Tryz.eqGuardType38 (eq_38 u16 u54) rfl rfl rfl (WL.nil (fun a ha => hK66 _ _ (W.cond rfl (fun h67 => ?_) (fun h67 => ?_)) a ha))))))) a ha
        ·replace hF := ifP h67 hF
         refine W.seq fun K68 hK68 => W.region (wl_assign rfl rfl (WL.nil (fun a ha => hK68 _ _ (W.ret ?_) a ha)))
         have hr := Option.some.inj hF
         subst hr
         exact rets (vs := [(.bool false)]) hQ rfl ⟨rv_tmp rfl, trivial⟩ ⟨rfl, hB63⟩
        ·replace hF := ifN h67 hF
         refine W.skip fun a ha => hK52 _ _ (W.region (wl_add rfl rfl rfl (wl_move rfl rfl (WL.nil ?_)))) a ha
         rw [hnx46] at hF
         exact fun a ha => hKL47 a _ m48 (Nat.lt_succ_self m48) ⟨(w64 (y45 + 1)), ha.sub ⟨rfl, rfl, rfl, rfl, rfl, rfl, rfl, rfl, trivial⟩, hB63, (hS64.sel [1] rfl), hF⟩
       ·replace hF := ifN h51 hF
        refine W.exit fun a ha => hK14 _ _ (W.region (wl_add rfl rfl rfl (wl_move rfl rfl (WL.nil ?_)))) a ha
        rw [hnx8] at hF
        exact fun a ha => hKL9 a _ m10 (Nat.lt_succ_self m10) ⟨(w64 (y7 + 1)), ha.sub ⟨rfl, rfl, rfl, rfl, trivial⟩, hB43, (hS44.sel [] rfl), hF⟩
   ·replace hF := ifN h13 hF
    refine W.exit fun a ha => hK2 _ _ (W.seq fun K69 hK69 => (W.region (wl_move rfl rfl (wl_lenr (e := ty_38) (l := x0) Tryz.underlying51 rfl rfl h0_0 ?_)))) a ha
    obtain ⟨u70, hu70, hF⟩ := bindE hF
    refine wl_call rfl Tryz.call71 (C_spec_l1In w4 (List.length x0 : Int) 1 12 _ hu70) rfl ?_
    rintro _ w71 ⟨rfl, hb72⟩
    refine ⟨_, rfl, ?_⟩
    have hB73 := hB5.trans (hb72.mono hB5.size)
    refine wl_assign rfl rfl (WL.nil (fun a ha => hK69 _ _ (W.ret ?_) a ha))
    have hr := Option.some.inj hF
    subst hr
    exact rets (vs := [(.bool u70)]) hQ rfl ⟨rv_tmp rfl, trivial⟩ ⟨rfl, hB73⟩
theorem C_spec_l1Cur__next__mut__box (w0 : World) (x0 : ((List Int) × Int × Int)) (b0 : Nat) (v0_0 : Value) (h0_0 : rdS ty_5 (Out (fps [R.blk b0 73 [v0_0, (.int .i64 x0.2.1), (.int .u64 x0.2.2)]]) w0) w0 v0_0 x0.1) (hS0 : Sep 0 w0 [R.blk b0 73 [v0_0, (.int .i64 x0.2.1), (.int .u64 x0.2.2)]]) (r : (Int × ((List Int) × Int × Int))) (hF : F_spec_l1Cur__next__mut__box x0 = some r) :
  Calls Tryz.prog 92 [(.pointer (some ⟨b0, 0, none⟩))].toArray w0 fun e w' => e = .returned (.int .i64 r.1) ∧ Below 0 (wE w0) w' ∧ Sep 0 w' [R.rest w0 (fps [R.blk b0 73 [v0_0, (.int .i64 x0.2.1), (.int .u64 x0.2.2)]]), R.blk b0 73 [v0_0, (.int .i64 r.2.2.1), (.int .u64 r.2.2.2)]] := by
 refine calls_mk' Tryz.func92 rfl Tryz.ntmps92 rfl rfl fun Q hQ hP => ?_
 have hB : Below (wE w0).heap.size (wE w0) w0 := wE_below w0
 have hS : Sep (wE w0).heap.size w0 [R.rest w0 (fps [R.blk b0 73 [v0_0, (.int .i64 x0.2.1), (.int .u64 x0.2.2)]]), R.blk b0 73 [v0_0, (.int .i64 x0.2.1), (.int .u64 x0.2.2)]] := hS0.rest
 unfold F_spec_l1Cur__next__mut__box at hF
 refine W.seq fun K1 hK1 => W.region (wl_assign rfl rfl (WL.nil (fun a ha => hK1 _ _ (W.seq fun K2 hK2 => (W.region (wl_assign rfl rfl (WL.nil (fun a ha => hK2 _ _ (W.seq fun K3 hK3 => ?_) a ha))))) a ha)))
 obtain ⟨k8, hk8, hF⟩ := jE1 hF
 have hJ9 : ∀ (y7 : Int) (w4 : World) (_ : k8 y7 = some r) (_ : Below (wE w0).heap.size (wE w0) w4) (_ : Sep (wE w0).heap.size w4 [R.rest w0 (fps [R.blk b0 73 [v0_0, (.int .i64 x0.2.1), (.int .u64 x0.2.2)]]), R.blk b0 73 [v0_0, (.int .i64 x0.2.1), (.int .u64 x0.2.2)]]), ∀ a, St 62 [(0, (.pointer (some ⟨b0, 0, none⟩))), (3, (.int .i64 y7))] a → K3 a w4 := by
  intro y7 w4 hF hB5 hS6
  subst hk8
  refine fun a ha => hK3 _ _ (W.seq fun K10 hK10 => (W.region (wl_move rfl rfl (wl_nilCheck rfl rfl (wl_field (o := 1) (off' := 1) ff_73_1 rfl rfl rfl (wl_load_blk (i := 1) (vs := [(.int .i64 x0.2.1)]) (v := (.int .i64 x0.2.1)) tf_3 rfl rfl hS6 rfl rfl rfl (wl_add rfl rfl rfl (wl_nilCheck rfl rfl (wl_field (o := 1) (off' := 1) ff_73_1 rfl rfl rfl (wl_store_blk (i := 1) (vs := [(.int .i64 (w64 (x0.2.1 + 1)))]) (cs' := [v0_0, (.int .i64 (w64 (x0.2.1 + 1))), (.int .u64 x0.2.2)]) tf_3 rfl rfl rfl rfl hB5 hS6 rfl rfl ⟨rfl, trivial⟩ rfl ?_)))))))))) a ha
  intro w11 hk14 hB12 hS13
  refine WL.nil fun a ha => hK10 _ _ (W.seq fun K15 hK15 => (W.region (wl_move rfl rfl (wl_move rfl rfl (wl_nilCheck rfl rfl (wl_field (o := 2) (off' := 2) ff_73_2 rfl rfl rfl (wl_load_blk (i := 1) (vs := [(.int .u64 x0.2.2)]) (v := (.int .u64 x0.2.2)) tf_71 rfl rfl hS13 rfl rfl rfl (wl_mul rfl rfl rfl (wl_move rfl rfl (wl_convi Tryz.underlying3 Tryz.underlying71 rfl rfl (wl_add rfl rfl rfl (wl_add rfl rfl rfl ?_)))))))))))) a ha
  refine wl_nilCheck rfl rfl (wl_field (o := 2) (off' := 2) ff_73_2 rfl rfl rfl (wl_store_blk (i := 1) (vs := [(.int .u64 (wu64 ((wu64 ((wu64 (x0.2.2 * 6364136223846793005)) + (wu64 y7))) + 1442695040888963407)))]) (cs' := [v0_0, (.int .i64 (w64 (x0.2.1 + 1))), (.int .u64 (wu64 ((wu64 ((wu64 (x0.2.2 * 6364136223846793005)) + (wu64 y7))) + 1442695040888963407)))]) tf_71 rfl rfl rfl rfl hB12 hS13 rfl rfl ⟨rfl, trivial⟩ rfl ?_))
  intro w16 hk19 hB17 hS18
  refine WL.nil fun a ha => hK15 _ _ (W.seq fun K20 hK20 => (W.seq fun K21 hK21 => (W.regionH mixed_ [] hB17 hS18 ?_))) a ha
  intro w22 hb23 hB24 hS25
  have hSW26 := KeepX.refl w22 []
  refine WH.tk 0 rfl hP hSW26 (pr_move rfl rfl (WH.tk 1 rfl hP hSW26 (pr_nilCheck rfl rfl (WH.tk 2 rfl hP hSW26 (pr_field (o := 1) (off' := 1) ff_73_1 rfl rfl rfl (WH.tk 3 rfl hP hSW26 (pr_load_blk (i := 1) (vs := [(.int .i64 (w64 (x0.2.1 + 1)))]) (v := (.int .i64 (w64 (x0.2.1 + 1)))) tf_3 rfl rfl hS25 rfl rfl rfl (by simp) (WH.tk 4 rfl hP hSW26 (pr_move rfl rfl (WH.tk 5 rfl hP hSW26 (pr_nilCheck rfl rfl (WH.tk 6 rfl hP hSW26 (pr_field (o := 0) (off' := 0) ff_73_0 rfl rfl rfl ?_)))))))))))))
  refine WH.tk 7 rfl hP hSW26 (pr_load_blk (i := 1) (vs := [v0_0]) (v := v0_0) tf_22 rfl rfl hS25 rfl rfl rfl (by simp) (WH.tk 8 rfl hP hSW26 (pr_lenr (e := ty_5) (l := x0.1) Tryz.underlying22 rfl rfl h0_0 (WH.tk 9 rfl hP hSW26 (pr_leq rfl rfl rfl (WH.done (by kernel_rfl) (fun a ha => hK21 _ _ (W.cond rfl (fun h27 => ?_) (fun h27 => ?_)) a ha)))))))
  ·replace hF := ifP h27 hF
   refine W.seq fun K28 hK28 => W.region (wl_move rfl rfl (wl_assign rfl rfl (WL.nil (fun a ha => hK28 _ _ (W.ret ?_) a ha))))
   have hr := Option.some.inj hF
   subst hr
   exact rets (vs := [(.int .i64 y7)]) hQ rfl ⟨rv_tmp rfl, trivial⟩ ⟨rfl, hB24, hS25.sel [0, 1] rfl⟩
  ·replace hF := ifN h27 hF
   refine W.skip fun a ha => hK20 _ _ (W.seq fun K29 hK29 => (W.region (wl_move rfl rfl (wl_nilCheck rfl rfl (wl_field (o := 2) (off' := 2) ff_73_2 rfl rfl rfl (wl_load_blk (i := 1) (vs := [(.int .u64 (wu64 ((wu64 ((wu64 (x0.2.2 * 6364136223846793005)) + (wu64 y7))) + 1442695040888963407)))]) (v := (.int .u64 (wu64 ((wu64 ((wu64 (x0.2.2 * 6364136223846793005)) + (wu64 y7))) + 1442695040888963407)))) tf_71 rfl rfl hS25 rfl rfl rfl (wl_shr rfl rfl rfl rfl (wl_and rfl rfl rfl (wl_convi Tryz.underlying71 Tryz.underlying3 rfl rfl (wl_assign rfl rfl (WL.nil (fun a ha => hK29 _ _ ?_ a ha)))))))))))) a ha
   refine W.ret ?_
   have hr := Option.some.inj hF
   subst hr
   exact rets (vs := [(.int .i64 (w64 (andK .u64 (shrK .u64 (wu64 ((wu64 ((wu64 (x0.2.2 * 6364136223846793005)) + (wu64 y7))) + 1442695040888963407)) 40) 255)))]) hQ rfl ⟨rv_tmp rfl, trivial⟩ ⟨rfl, hB24, hS25.sel [0, 1] rfl⟩
 refine W.seq fun K30 hK30 => W.regionH mixed_ [] hB hS ?_
 intro w31 hb32 hB33 hS34
 have hSW35 := KeepX.refl w31 []
 refine WH.tk 0 rfl hP hSW35 (pr_move rfl rfl (WH.tk 1 rfl hP hSW35 (pr_nilCheck rfl rfl (WH.tk 2 rfl hP hSW35 (pr_field (o := 1) (off' := 1) ff_73_1 rfl rfl rfl (WH.tk 3 rfl hP hSW35 (pr_load_blk (i := 1) (vs := [(.int .i64 x0.2.1)]) (v := (.int .i64 x0.2.1)) tf_3 rfl rfl hS34 rfl rfl rfl (by simp) (WH.tk 4 rfl hP hSW35 (pr_move rfl rfl (WH.tk 5 rfl hP hSW35 (pr_nilCheck rfl rfl (WH.tk 6 rfl hP hSW35 (pr_field (o := 0) (off' := 0) ff_73_0 rfl rfl rfl ?_)))))))))))))
 refine WH.tk 7 rfl hP hSW35 (pr_load_blk (i := 1) (vs := [v0_0]) (v := v0_0) tf_22 rfl rfl hS34 rfl rfl rfl (by simp) (WH.tk 8 rfl hP hSW35 (pr_lenr (e := ty_5) (l := x0.1) Tryz.underlying22 rfl rfl h0_0 (WH.tk 9 rfl hP hSW35 (pr_lss rfl rfl rfl (WH.done (by kernel_rfl) (fun a ha => hK30 _ _ (W.cond rfl (fun h36 => ?_) (fun h36 => ?_)) a ha)))))))
 ·replace hF := ifP h36 hF
  refine W.regionH mixed_ [] hB33 hS34 ?_
  intro w37 hb38 hB39 hS40
  have hSW41 := KeepX.refl w37 []
  refine WH.tk 0 rfl hP hSW41 (pr_move rfl rfl (WH.tk 1 rfl hP hSW41 (pr_nilCheck rfl rfl (WH.tk 2 rfl hP hSW41 (pr_field (o := 0) (off' := 0) ff_73_0 rfl rfl rfl (WH.tk 3 rfl hP hSW41 (pr_load_blk (i := 1) (vs := [v0_0]) (v := v0_0) tf_22 rfl rfl hS40 rfl rfl rfl (by simp) (WH.tk 4 rfl hP hSW41 (pr_move rfl rfl (WH.tk 5 rfl hP hSW41 (pr_nilCheck rfl rfl (WH.tk 6 rfl hP hSW41 (pr_field (o := 1) (off' := 1) ff_73_1 rfl rfl rfl ?_)))))))))))))
  refine WH.tk 7 rfl hP hSW41 (pr_load_blk (i := 1) (vs := [(.int .i64 x0.2.1)]) (v := (.int .i64 x0.2.1)) tf_3 rfl rfl hS40 rfl rfl rfl (by simp) ?_)
  obtain ⟨u42, hu42, hF⟩ := bindE hF
  refine WH.tk 8 rfl hP hSW41 (pr_index (e := ty_5) Tryz.underlying22 rfl rfl rfl h0_0 hu42 ?_)
  rintro p43 _ rfl hp44
  refine WH.tk 9 rfl hP hSW41 (pr_load_p (vs := [(.int .u8 u42)]) (v := (.int .u8 u42)) tf_5 rfl rfl (hp44.kxr (i := 0) hS40 rfl (fun b h0 => (by simp))) rfl rfl (WH.tk 10 rfl hP hSW41 (pr_convi Tryz.underlying5 Tryz.underlying3 rfl rfl (WH.tk 11 rfl hP hSW41 (pr_assign rfl rfl (WH.done (by kernel_rfl) ?_))))))
  exact fun a ha => hJ9 ((w64 u42)) _ hF hB39 (hS40.sel [0, 1] rfl) a (ha.sub ⟨rfl, rfl, trivial⟩)
 ·replace hF := ifN h36 hF
  refine W.skip ?_
  exact fun a ha => hJ9 (0) _ hF hB33 (hS34.sel [0, 1] rfl) a (ha.sub ⟨rfl, rfl, trivial⟩)
theorem C_spec_l1Cur__pick__mut__box (w0 : World) (x0 : ((List Int) × Int × Int)) (b0 : Nat) (v0_0 : Value) (h0_0 : rdS ty_5 (Out (fps [R.blk b0 73 [v0_0, (.int .i64 x0.2.1), (.int .u64 x0.2.2)]]) w0) w0 v0_0 x0.1) (x1 : Int) (hS0 : Sep 0 w0 [R.blk b0 73 [v0_0, (.int .i64 x0.2.1), (.int .u64 x0.2.2)]]) (r : (Int × ((List Int) × Int × Int))) (hF : F_spec_l1Cur__pick__mut__box x0 x1 = some r) :
  Calls Tryz.prog 59 [(.pointer (some ⟨b0, 0, none⟩)), (.int .i64 x1)].toArray w0 fun e w' => e = .returned (.int .i64 r.1) ∧ Below 0 (wE w0) w' ∧ Sep 0 w' [R.rest w0 (fps [R.blk b0 73 [v0_0, (.int .i64 x0.2.1), (.int .u64 x0.2.2)]]), R.blk b0 73 [v0_0, (.int .i64 r.2.2.1), (.int .u64 r.2.2.2)]] := by
 refine calls_mk' Tryz.func59 rfl Tryz.ntmps59 rfl rfl fun Q hQ hP => ?_
 have hB : Below (wE w0).heap.size (wE w0) w0 := wE_below w0
 have hS : Sep (wE w0).heap.size w0 [R.rest w0 (fps [R.blk b0 73 [v0_0, (.int .i64 x0.2.1), (.int .u64 x0.2.2)]]), R.blk b0 73 [v0_0, (.int .i64 x0.2.1), (.int .u64 x0.2.2)]] := hS0.rest
 unfold F_spec_l1Cur__pick__mut__box at hF
 refine W.seq fun K1 hK1 => W.region (wl_assign rfl rfl (WL.nil (fun a ha => hK1 _ _ (W.seq fun K2 hK2 => (W.seq fun K3 hK3 => (W.region (wl_move rfl rfl (wl_leq rfl rfl rfl (WL.nil (fun a ha => hK3 _ _ (W.cond rfl (fun h4 => ?_) (fun h4 => ?_)) a ha))))))) a ha)))
 ·replace hF := ifP h4 hF
  refine W.seq fun K5 hK5 => W.region (wl_assign rfl rfl (WL.nil (fun a ha => hK5 _ _ (W.ret ?_) a ha)))
  have hr := Option.some.inj hF
  subst hr
  exact rets (vs := [(.int .i64 0)]) hQ rfl ⟨rv_tmp rfl, trivial⟩ ⟨rfl, hB, hS.sel [0, 1] rfl⟩
 ·replace hF := ifN h4 hF
  refine W.skip fun a ha => hK2 _ _ (W.seq fun K6 hK6 => (W.region (wl_move rfl rfl ?_))) a ha
  obtain ⟨u7, hu7, hF⟩ := bindE hF
  refine wl_call rfl Tryz.call92 (C_spec_l1Cur__next__mut__box w0 x0 b0 v0_0 (h0_0.rsto (hS.sel [0, 1] rfl)) (hS.sel [1] rfl).base0 _ hu7) rfl ?_
  rintro _ w8 ⟨rfl, hE9, hM10⟩
  refine ⟨_, rfl, ?_⟩
  have hB11 := hS.takeB [1] rfl (M := [R.blk b0 73 [v0_0, (.int .i64 x0.2.1), (.int .u64 x0.2.2)]]) rfl hB hE9 hM10
  have hS12 : Sep (wE w0).heap.size w8 [R.blk b0 73 [v0_0, (.int .i64 u7.2.2.1), (.int .u64 u7.2.2.2)], R.rest w0 (fps [R.blk b0 73 [v0_0, (.int .i64 x0.2.1), (.int .u64 x0.2.2)]])] := hS.take [1] [0] rfl (M := [R.blk b0 73 [v0_0, (.int .i64 x0.2.1), (.int .u64 x0.2.2)]]) rfl hM10 hB.size
  refine wl_assign rfl rfl (WL.nil (fun a ha => hK6 _ _ (W.seq fun K13 hK13 => ?_) a ha))
  obtain ⟨k20, hk20, hF⟩ := jE3 hF
  have hJ21 : ∀ (y17 : Int) (y18 : Int) (y19 : Int) (w14 : World) (_ : k20 y17 y18 y19 = some r) (_ : Below (wE w0).heap.size (wE w0) w14) (_ : Sep (wE w0).heap.size w14 [R.rest w0 (fps [R.blk b0 73 [v0_0, (.int .i64 x0.2.1), (.int .u64 x0.2.2)]]), R.blk b0 73 [v0_0, (.int .i64 y17), (.int .u64 y18)]]), ∀ a, St 20 [(1, (.int .i64 x1)), (5, (.int .i64 y19))] a → K13 a w14 := by
   intro y17 y18 y19 w14 hF hB15 hS16
   subst hk20
   refine fun a ha => hK13 _ _ (W.seq fun K22 hK22 => (W.region (wl_move rfl rfl (wl_move rfl rfl ?_)))) a ha
   have h23 : x1 ≠ 0 := fun h23 => noneE (ifP h23 hF)
   replace hF := ifNP h23 hF
   refine wl_rem rfl rfl rfl h23 (wl_assign rfl rfl (WL.nil (fun a ha => hK22 _ _ (W.ret ?_) a ha)))
   have hr := Option.some.inj hF
   subst hr
   exact rets (vs := [(.int .i64 (Int.tmod y19 x1))]) hQ rfl ⟨rv_tmp rfl, trivial⟩ ⟨rfl, hB15, hS16.sel [0, 1] rfl⟩
  refine W.seq fun K24 hK24 => W.region (wl_move rfl rfl (wl_gtr rfl rfl rfl (WL.nil (fun a ha => hK24 _ _ (W.cond rfl (fun h25 => ?_) (fun h25 => ?_)) a ha))))
  ·replace hF := ifP h25 hF
   refine W.region (wl_move rfl rfl (wl_mul rfl rfl rfl (wl_move rfl rfl ?_)))
   obtain ⟨u26, hu26, hF⟩ := bindE hF
   refine wl_call rfl Tryz.call92 (C_spec_l1Cur__next__mut__box w8 (x0.1, u7.2.2.1, u7.2.2.2) b0 v0_0 (h0_0.rsto (hS12.sel [1, 0] rfl)) (hS12.sel [0] rfl).base0 _ hu26) rfl ?_
   rintro _ w27 ⟨rfl, hE28, hM29⟩
   refine ⟨_, rfl, ?_⟩
   have hB30 := hS12.takeB [0] rfl (M := [R.blk b0 73 [v0_0, (.int .i64 u7.2.2.1), (.int .u64 u7.2.2.2)]]) rfl hB11 hE28 hM29
   have hS31 : Sep (wE w0).heap.size w27 [R.blk b0 73 [v0_0, (.int .i64 u26.2.2.1), (.int .u64 u26.2.2.2)], R.rest w0 (fps [R.blk b0 73 [v0_0, (.int .i64 x0.2.1), (.int .u64 x0.2.2)]])] := hS12.take [0] [1] rfl (M := [R.blk b0 73 [v0_0, (.int .i64 u7.2.2.1), (.int .u64 u7.2.2.2)]]) rfl hM29 hB11.size
   refine wl_add rfl rfl rfl (wl_assign rfl rfl (WL.nil ?_))
   exact fun a ha => hJ21 (u26.2.2.1) (u26.2.2.2) ((w64 ((w64 (u7.1 * 256)) + u26.1))) _ hF hB30 (hS31.sel [1, 0] rfl) a (ha.sub ⟨rfl, rfl, trivial⟩)
  ·replace hF := ifN h25 hF
   refine W.skip ?_
   exact fun a ha => hJ21 (u7.2.2.1) (u7.2.2.2) (u7.1) _ hF hB11 (hS12.sel [1, 0] rfl) a (ha.sub ⟨rfl, rfl, trivial⟩)
theorem C_spec_l1Cur__among__mut__box (w0 : World) (x0 : ((List Int) × Int × Int)) (b0 : Nat) (v0_0 : Value) (h0_0 : rdS ty_5 (Out (fps [R.blk b0 73 [v0_0, (.int .i64 x0.2.1), (.int .u64 x0.2.2)]]) w0) w0 v0_0 x0.1) (x1 : (List Int)) (v1_0 : Value) (h1_0 : rdS ty_3 (Out (fps [R.blk b0 73 [v0_0, (.int .i64 x0.2.1), (.int .u64 x0.2.2)]]) w0) w0 v1_0 x1) (hS0 : Sep 0 w0 [R.blk b0 73 [v0_0, (.int .i64 x0.2.1), (.int .u64 x0.2.2)]]) (r : (Int × ((List Int) × Int × Int))) (hF : F_spec_l1Cur__among__mut__box x0 x1 = some r) :
  Calls Tryz.prog 61 [(.pointer (some ⟨b0, 0, none⟩)), v1_0].toArray w0 fun e w' => e = .returned (.int .i64 r.1) ∧ Below 0 (wE w0) w' ∧ Sep 0 w' [R.rest w0 (fps [R.blk b0 73 [v0_0, (.int .i64 x0.2.1), (.int .u64 x0.2.2)]]), R.blk b0 73 [v0_0, (.int .i64 r.2.2.1), (.int .u64 r.2.2.2)]] := by
 refine calls_mk' Tryz.func61 rfl Tryz.ntmps61 rfl rfl fun Q hQ hP => ?_
 have hB : Below (wE w0).heap.size (wE w0) w0 := wE_below w0
 have hS : Sep (wE w0).heap.size w0 [R.rest w0 (fps [R.blk b0 73 [v0_0, (.int .i64 x0.2.1), (.int .u64 x0.2.2)]]), R.blk b0 73 [v0_0, (.int .i64 x0.2.1), (.int .u64 x0.2.2)]] := hS0.rest
 unfold F_spec_l1Cur__among__mut__box at hF
 refine W.seq fun K1 hK1 => W.region (wl_assign rfl rfl (WL.nil (fun a ha => hK1 _ _ (W.seq fun K2 hK2 => (W.region (wl_move rfl rfl (wl_move rfl rfl (wl_move rfl rfl (wl_lenr (e := ty_3) (l := x1) Tryz.underlying25 rfl rfl h1_0 ?_)))))) a ha)))
 obtain ⟨u3, hu3, hF⟩ := bindE hF
 refine wl_call rfl Tryz.call59 (C_spec_l1Cur__pick__mut__box w0 x0 b0 v0_0 (h0_0.rsto (hS.sel [0, 1] rfl)) (List.length x1 : Int) (hS.sel [1] rfl).base0 _ hu3) rfl ?_
 rintro _ w4 ⟨rfl, hE5, hM6⟩
 refine ⟨_, rfl, ?_⟩
 have hB7 := hS.takeB [1] rfl (M := [R.blk b0 73 [v0_0, (.int .i64 x0.2.1), (.int .u64 x0.2.2)]]) rfl hB hE5 hM6
 have hS8 : Sep (wE w0).heap.size w4 [R.blk b0 73 [v0_0, (.int .i64 u3.2.2.1), (.int .u64 u3.2.2.2)], R.rest w0 (fps [R.blk b0 73 [v0_0, (.int .i64 x0.2.1), (.int .u64 x0.2.2)]])] := hS.take [1] [0] rfl (M := [R.blk b0 73 [v0_0, (.int .i64 x0.2.1), (.int .u64 x0.2.2)]]) rfl hM6 hB.size
 obtain ⟨u9, hu9, hF⟩ := bindE hF
 refine wl_index (e := ty_3) Tryz.underlying25 rfl rfl rfl h1_0 hu9 ?_
 rintro p10 _ rfl hp11
 refine wl_load_p (vs := [(.int .i64 u9)]) (v := (.int .i64 u9)) tf_3 rfl rfl (hp11.rst (i := 1) hS8 rfl) rfl rfl (wl_assign rfl rfl (WL.nil (fun a ha => hK2 _ _ (W.ret ?_) a ha)))
 have hr := Option.some.inj hF
 subst hr
 exact rets (vs := [(.int .i64 u9)]) hQ rfl ⟨rv_tmp rfl, trivial⟩ ⟨rfl, hB7, hS8.sel [1, 0] rfl⟩
theorem C_spec_l1Cur__spot__mut__box (w0 : World) (x0 : ((List Int) × Int × Int)) (b0 : Nat) (v0_0 : Value) (h0_0 : rdS ty_5 (Out (fps [R.blk b0 73 [v0_0, (.int .i64 x0.2.1), (.int .u64 x0.2.2)]]) w0) w0 v0_0 x0.1) (hS0 : Sep 0 w0 [R.blk b0 73 [v0_0, (.int .i64 x0.2.1), (.int .u64 x0.2.2)]]) (r : ((Int × Int) × ((List Int) × Int × Int))) (hF : F_spec_l1Cur__spot__mut__box x0 = some r) :
  Calls Tryz.prog 93 [(.pointer (some ⟨b0, 0, none⟩))].toArray w0 fun e w' => e = .returned (.agg #[(.int .i64 r.1.1), (.int .i64 r.1.2)]) ∧ Below 0 (wE w0) w' ∧ Sep 0 w' [R.rest w0 (fps [R.blk b0 73 [v0_0, (.int .i64 x0.2.1), (.int .u64 x0.2.2)]]), R.blk b0 73 [v0_0, (.int .i64 r.2.2.1), (.int .u64 r.2.2.2)]] := by
 refine calls_mk' Tryz.func93 rfl Tryz.ntmps93 rfl rfl fun Q hQ hP => ?_
 have hB : Below (wE w0).heap.size (wE w0) w0 := wE_below w0
 have hS : Sep (wE w0).heap.size w0 [R.rest w0 (fps [R.blk b0 73 [v0_0, (.int .i64 x0.2.1), (.int .u64 x0.2.2)]]), R.blk b0 73 [v0_0, (.int .i64 x0.2.1), (.int .u64 x0.2.2)]] := hS0.rest
 unfold F_spec_l1Cur__spot__mut__box at hF
 refine W.seq fun K1 hK1 => W.region (wl_alloc (cs := [(.int .i64 0), (.int .i64 0)]) tf_38 rfl rfl hB hS ?_)
 intro b2 w3 hb4 hB5 hS6
 refine WL.nil fun a ha => hK1 _ _ (W.seq fun K7 hK7 => (W.region (wl_move rfl rfl (wl_move rfl rfl ?_)))) a ha
 obtain ⟨u8, hu8, hF⟩ := bindE hF
 refine wl_call rfl Tryz.call59 (C_spec_l1Cur__pick__mut__box w3 x0 b0 v0_0 (h0_0.rsto (hS6.sel [1, 2] rfl)) 161 (hS6.sel [2] rfl).base0 _ hu8) rfl ?_
 rintro _ w9 ⟨rfl, hE10, hM11⟩
 refine ⟨_, rfl, ?_⟩
 have hB12 := hS6.takeB [2] rfl (M := [R.blk b0 73 [v0_0, (.int .i64 x0.2.1), (.int .u64 x0.2.2)]]) rfl hB5 hE10 hM11
 have hS13 : Sep (wE w0).heap.size w9 [R.blk b0 73 [v0_0, (.int .i64 u8.2.2.1), (.int .u64 u8.2.2.2)], R.blk b2 38 [(.int .i64 0), (.int .i64 0)], R.rest w0 (fps [R.blk b0 73 [v0_0, (.int .i64 x0.2.1), (.int .u64 x0.2.2)]])] := hS6.take [2] [0, 1] rfl (M := [R.blk b0 73 [v0_0, (.int .i64 x0.2.1), (.int .u64 x0.2.2)]]) rfl hM11 hB5.size
 refine wl_mul rfl rfl rfl (wl_move rfl rfl ?_)
 obtain ⟨u14, hu14, hF⟩ := bindE hF
 refine wl_call rfl Tryz.call59 (C_spec_l1Cur__pick__mut__box w9 (x0.1, u8.2.2.1, u8.2.2.2) b0 v0_0 (h0_0.rsto (hS13.sel [2, 0] rfl)) 1281 (hS13.sel [0] rfl).base0 _ hu14) rfl ?_
 rintro _ w15 ⟨rfl, hE16, hM17⟩
 refine ⟨_, rfl, ?_⟩
 have hB18 := hS13.takeB [0] rfl (M := [R.blk b0 73 [v0_0, (.int .i64 u8.2.2.1), (.int .u64 u8.2.2.2)]]) rfl hB12 hE16 hM17
 have hS19 : Sep (wE w0).heap.size w15 [R.blk b0 73 [v0_0, (.int .i64 u14.2.2.1), (.int .u64 u14.2.2.2)], R.blk b2 38 [(.int .i64 0), (.int .i64 0)], R.rest w0 (fps [R.blk b0 73 [v0_0, (.int .i64 x0.2.1), (.int .u64 x0.2.2)]])] := hS13.take [0] [1, 2] rfl (M := [R.blk b0 73 [v0_0, (.int .i64 u8.2.2.1), (.int .u64 u8.2.2.2)]]) rfl hM17 hB12.size
 refine wl_lit (vs := [(.int .i64 0), (.int .i64 80), (.int .i64 160), (.int .i64 640), (.int .i64 (w64 (8 * u8.1))), (.int .i64 u14.1), (.int .i64 1280)]) (l := [0, 80, 160, 640, (w64 (8 * u8.1)), u14.1, 1280]) fl_3 Tryz.underlying25 rfl rfl rfl rfl rfl rfl hB18 hS19 ?_
 intro v20 F21 w22 hb23 hB24 hS25
 obtain ⟨u26, hu26, hF⟩ := bindE hF
 refine wl_call rfl Tryz.call61 (C_spec_l1Cur__among__mut__box w22 (x0.1, u14.2.2.1, u14.2.2.2) b0 v0_0 (h0_0.rsto (hS25.sel [3, 1] rfl)) [0, 80, 160, 640, (w64 (8 * u8.1)), u14.1, 1280] v20 (own_out (hS25.sel [0, 1] rfl)) (hS25.sel [1] rfl).base0 _ hu26) rfl ?_
 rintro _ w27 ⟨rfl, hE28, hM29⟩
 refine ⟨_, rfl, ?_⟩
 have hB30 := hS25.takeB [1] rfl (M := [R.blk b0 73 [v0_0, (.int .i64 u14.2.2.1), (.int .u64 u14.2.2.2)]]) rfl hB24 hE28 hM29
 have hS31 : Sep (wE w0).heap.size w27 [R.blk b0 73 [v0_0, (.int .i64 u26.2.2.1), (.int .u64 u26.2.2.2)], R.own ty_3 F21 v20 [0, 80, 160, 640, (w64 (8 * u8.1)), u14.1, 1280], R.blk b2 38 [(.int .i64 0), (.int .i64 0)], R.rest w0 (fps [R.blk b0 73 [v0_0, (.int .i64 x0.2.1), (.int .u64 x0.2.2)]])] := hS25.take [1] [0, 2, 3] rfl (M := [R.blk b0 73 [v0_0, (.int .i64 u14.2.2.1), (.int .u64 u14.2.2.2)]]) rfl hM29 hB24.size
 refine wl_move rfl rfl (wl_move rfl rfl ?_)
 obtain ⟨u32, hu32, hF⟩ := bindE hF
 refine wl_call rfl Tryz.call59 (C_spec_l1Cur__pick__mut__box w27 (x0.1, u26.2.2.1, u26.2.2.2) b0 v0_0 (h0_0.rsto (hS31.sel [3, 0] rfl)) 85 (hS31.sel [0] rfl).base0 _ hu32) rfl ?_
 rintro _ w33 ⟨rfl, hE34, hM35⟩
 refine ⟨_, rfl, ?_⟩
 have hB36 := hS31.takeB [0] rfl (M := [R.blk b0 73 [v0_0, (.int .i64 u26.2.2.1), (.int .u64 u26.2.2.2)]]) rfl hB30 hE34 hM35
 have hS37 : Sep (wE w0).heap.size w33 [R.blk b0 73 [v0_0, (.int .i64 u32.2.2.1), (.int .u64 u32.2.2.2)], R.own ty_3 F21 v20 [0, 80, 160, 640, (w64 (8 * u8.1)), u14.1, 1280], R.blk b2 38 [(.int .i64 0), (.int .i64 0)], R.rest w0 (fps [R.blk b0 73 [v0_0, (.int .i64 x0.2.1), (.int .u64 x0.2.2)]])] := hS31.take [0] [1, 2, 3] rfl (M := [R.blk b0 73 [v0_0, (.int .i64 u26.2.2.1), (.int .u64 u26.2.2.2)]]) rfl hM35 hB30.size
 refine wl_mul rfl rfl rfl (wl_move rfl rfl ?_)
 obtain ⟨u38, hu38, hF⟩ := bindE hF
 refine wl_call rfl Tryz.call59 (C_spec_l1Cur__pick__mut__box w33 (x0.1, u32.2.2.1, u32.2.2.2) b0 v0_0 (h0_0.rsto (hS37.sel [3, 0] rfl)) 673 (hS37.sel [0] rfl).base0 _ hu38) rfl ?_
 rintro _ w39 ⟨rfl, hE40, hM41⟩
 refine ⟨_, rfl, ?_⟩
 have hB42 := hS37.takeB [0] rfl (M := [R.blk b0 73 [v0_0, (.int .i64 u32.2.2.1), (.int .u64 u32.2.2.2)]]) rfl hB36 hE40 hM41
 have hS43 : Sep (wE w0).heap.size w39 [R.blk b0 73 [v0_0, (.int .i64 u38.2.2.1), (.int .u64 u38.2.2.2)], R.own ty_3 F21 v20 [0, 80, 160, 640, (w64 (8 * u8.1)), u14.1, 1280], R.blk b2 38 [(.int .i64 0), (.int .i64 0)], R.rest w0 (fps [R.blk b0 73 [v0_0, (.int .i64 x0.2.1), (.int .u64 x0.2.2)]])] := hS37.take [0] [1, 2, 3] rfl (M := [R.blk b0 73 [v0_0, (.int .i64 u32.2.2.1), (.int .u64 u32.2.2.2)]]) rfl hM41 hB36.size
 refine wl_lit (vs := [(.int .i64 0), (.int .i64 80), (.int .i64 336), (.int .i64 (w64 (8 * u32.1))), (.int .i64 u38.1), (.int .i64 672)]) (l := [0, 80, 336, (w64 (8 * u32.1)), u38.1, 672]) fl_3 Tryz.underlying25 rfl rfl rfl rfl rfl rfl hB42 hS43 ?_
 intro v44 F45 w46 hb47 hB48 hS49
 obtain ⟨u50, hu50, hF⟩ := bindE hF
 refine wl_call rfl Tryz.call61 (C_spec_l1Cur__among__mut__box w46 (x0.1, u38.2.2.1, u38.2.2.2) b0 v0_0 (h0_0.rsto (hS49.sel [4, 1] rfl)) [0, 80, 336, (w64 (8 * u32.1)), u38.1, 672] v44 (own_out (hS49.sel [0, 1] rfl)) (hS49.sel [1] rfl).base0 _ hu50) rfl ?_
 rintro _ w51 ⟨rfl, hE52, hM53⟩
 refine ⟨_, rfl, ?_⟩
 have hB54 := hS49.takeB [1] rfl (M := [R.blk b0 73 [v0_0, (.int .i64 u38.2.2.1), (.int .u64 u38.2.2.2)]]) rfl hB48 hE52 hM53
 have hS55 : Sep (wE w0).heap.size w51 [R.blk b0 73 [v0_0, (.int .i64 u50.2.2.1), (.int .u64 u50.2.2.2)], R.own ty_3 F45 v44 [0, 80, 336, (w64 (8 * u32.1)), u38.1, 672], R.own ty_3 F21 v20 [0, 80, 160, 640, (w64 (8 * u8.1)), u14.1, 1280], R.blk b2 38 [(.int .i64 0), (.int .i64 0)], R.rest w0 (fps [R.blk b0 73 [v0_0, (.int .i64 x0.2.1), (.int .u64 x0.2.2)]])] := hS49.take [1] [0, 2, 3, 4] rfl (M := [R.blk b0 73 [v0_0, (.int .i64 u38.2.2.1), (.int .u64 u38.2.2.2)]]) rfl hM53 hB48.size
 refine wl_build (zs := [(.int .i64 0), (.int .i64 0)]) (out := [(.int .i64 u26.1), (.int .i64 u50.1)]) (vs := [(.int .i64 u26.1), (.int .i64 u50.1)]) (css := [[(.int .i64 u26.1)], [(.int .i64 u50.1)]]) tf_38 pl_38 rfl rfl rfl rfl rfl (wl_store_blk (i := 3) (vs := [(.int .i64 u26.1), (.int .i64 u50.1)]) (cs' := [(.int .i64 u26.1), (.int .i64 u50.1)]) tf_38 rfl rfl rfl rfl hB54 hS55 rfl rfl ⟨rfl, rfl, trivial⟩ rfl ?_)
 intro w56 hk59 hB57 hS58
 refine WL.nil fun a ha => hK7 _ _ (W.ret ?_) a ha
 have hr := Option.some.inj hF
 subst hr
 exact rets (vs := [(.agg #[(.int .i64 u26.1), (.int .i64 u50.1)])]) hQ rfl ⟨rv_cell (i := 3) tf_38 rfl hS58 rfl rfl rfl, trivial⟩ ⟨rfl, hB57, hS58.sel [4, 0] rfl⟩
theorem C_spec_l1Cur__one__mut__box (w0 : World) (x0 : ((List Int) × Int × Int)) (b0 : Nat) (v0_0 : Value) (h0_0 : rdS ty_5 (Out (fps [R.blk b0 73 [v0_0, (.int .i64 x0.2.1), (.int .u64 x0.2.2)]]) w0) w0 v0_0 x0.1) (x1 : Int) (hS0 : Sep 0 w0 [R.blk b0 73 [v0_0, (.int .i64 x0.2.1), (.int .u64 x0.2.2)]]) (r : (Bool × ((List Int) × Int × Int))) (hF : F_spec_l1Cur__one__mut__box x0 x1 = some r) :
  Calls Tryz.prog 62 [(.pointer (some ⟨b0, 0, none⟩)), (.int .i64 x1)].toArray w0 fun e w' => e = .returned (.bool r.1) ∧ Below 0 (wE w0) w' ∧ Sep 0 w' [R.rest w0 (fps [R.blk b0 73 [v0_0, (.int .i64 x0.2.1), (.int .u64 x0.2.2)]]), R.blk b0 73 [v0_0, (.int .i64 r.2.2.1), (.int .u64 r.2.2.2)]] := by
 refine calls_mk' Tryz.func62 rfl Tryz.ntmps62 rfl rfl fun Q hQ hP => ?_
 have hB : Below (wE w0).heap.size (wE w0) w0 := wE_below w0
 have hS : Sep (wE w0).heap.size w0 [R.rest w0 (fps [R.blk b0 73 [v0_0, (.int .i64 x0.2.1), (.int .u64 x0.2.2)]]), R.blk b0 73 [v0_0, (.int .i64 x0.2.1), (.int .u64 x0.2.2)]] := hS0.rest
 unfold F_spec_l1Cur__one__mut__box at hF
 refine W.seq fun K1 hK1 => W.region (wl_assign rfl rfl (WL.nil (fun a ha => hK1 _ _ (W.seq fun K2 hK2 => (W.region (wl_move rfl rfl (wl_move rfl rfl ?_)))) a ha)))
 obtain ⟨u3, hu3, hF⟩ := bindE hF
 refine wl_call rfl Tryz.call59 (C_spec_l1Cur__pick__mut__box w0 x0 b0 v0_0 (h0_0.rsto (hS.sel [0, 1] rfl)) x1 (hS.sel [1] rfl).base0 _ hu3) rfl ?_
 rintro _ w4 ⟨rfl, hE5, hM6⟩
 refine ⟨_, rfl, ?_⟩
 have hB7 := hS.takeB [1] rfl (M := [R.blk b0 73 [v0_0, (.int .i64 x0.2.1), (.int .u64 x0.2.2)]]) rfl hB hE5 hM6
 have hS8 : Sep (wE w0).heap.size w4 [R.blk b0 73 [v0_0, (.int .i64 u3.2.2.1), (.int .u64 u3.2.2.2)], R.rest w0 (fps [R.blk b0 73 [v0_0, (.int .i64 x0.2.1), (.int .u64 x0.2.2)]])] := hS.take [1] [0] rfl (M := [R.blk b0 73 [v0_0, (.int .i64 x0.2.1), (.int .u64 x0.2.2)]]) rfl hM6 hB.size
 refine wl_eql rfl rfl rfl (wl_assign rfl rfl (WL.nil (fun a ha => hK2 _ _ (W.ret ?_) a ha)))
 have hr := Option.some.inj hF
 subst hr
 exact rets (vs := [(.bool (u3.1 == 0))]) hQ rfl ⟨rv_tmp rfl, trivial⟩ ⟨rfl, hB7, hS8.sel [1, 0] rfl⟩
theorem C_spec_l1Cur__chartOf__mut__box (w0 : World) (x0 : ((List Int) × Int × Int)) (b0 : Nat) (v0_0 : Value) (h0_0 : rdS ty_5 (Out (fps [R.blk b0 73 [v0_0, (.int .i64 x0.2.1), (.int .u64 x0.2.2)]]) w0) w0 v0_0 x0.1) (x1 : Int) (hS0 : Sep 0 w0 [R.blk b0 73 [v0_0, (.int .i64 x0.2.1), (.int .u64 x0.2.2)]]) (r : ((List (Int × Int)) × ((List Int) × Int × Int))) (hF : F_spec_l1Cur__chartOf__mut__box x0 x1 = some r) :
  Calls Tryz.prog 60 [(.pointer (some ⟨b0, 0, none⟩)), (.int .i64 x1)].toArray w0 fun e w' => ∃ (q0 : Value) (G0 : List Nat), e = .returned q0 ∧ Below 0 (wE w0) w' ∧ Sep 0 w' [R.rest w0 (fps [R.blk b0 73 [v0_0, (.int .i64 x0.2.1), (.int .u64 x0.2.2)]]), R.blk b0 73 [v0_0, (.int .i64 r.2.2.1), (.int .u64 r.2.2.2)], R.own ty_38 G0 q0 r.1] := by
 refine calls_mk' Tryz.func60 rfl Tryz.ntmps60 rfl rfl fun Q hQ hP => ?_
 have hB : Below (wE w0).heap.size (wE w0) w0 := wE_below w0
 have hS : Sep (wE w0).heap.size w0 [R.rest w0 (fps [R.blk b0 73 [v0_0, (.int .i64 x0.2.1), (.int .u64 x0.2.2)]]), R.blk b0 73 [v0_0, (.int .i64 x0.2.1), (.int .u64 x0.2.2)]] := hS0.rest
 unfold F_spec_l1Cur__chartOf__mut__box at hF
 refine W.seq fun K1 hK1 => W.region (wl_assign rfl rfl (WL.nil (fun a ha => hK1 _ _ (W.seq fun K2 hK2 => (W.region (wl_assign rfl rfl (WL.nil (fun a ha => hK2 _ _ (W.seq fun K3 hK3 => (W.seq fun K4 hK4 => (W.region (wl_assign rfl rfl ?_)))) a ha))))) a ha)))
 refine WL.nil fun a ha => hK4 _ _ (W.block (W.loopk (fun m a w5 => ∃ (y8 : Int) (y9 : Int) (l10 : (List (Int × Int))) (y13 : Int) (v11 : Value) (F12 : List Nat), St 63 [(0, (.pointer (some ⟨b0, 0, none⟩))), (1, (.int .i64 x1)), (5, v11), (6, (.int .i64 y13))] a ∧ Below (wE w0).heap.size (wE w0) w5 ∧ Sep (wE w0).heap.size w5 [R.rest w0 (fps [R.blk b0 73 [v0_0, (.int .i64 x0.2.1), (.int .u64 x0.2.2)]]), R.blk b0 73 [v0_0, (.int .i64 y8), (.int .u64 y9)], R.own ty_38 F12 v11 l10] ∧ F_spec_l1Cur__chartOf__mut__box_L1 x1 x0 m y8 y9 l10 y13 = some r) FU ?_ ?_)) a ha
 ·
  have hS15 := hS.push0 (r := R.own ty_38 [] (.slice none 0 0) []) rfl fun _ => .inl ⟨rfl, rfl, rfl⟩
  exact fun a ha => ⟨x0.2.1, x0.2.2, [], 0, (.slice none 0 0), [], ha.sub ⟨rfl, rfl, rfl, rfl, trivial⟩, hB, (hS15.sel [1, 2, 0] rfl), hF⟩
 ·
  rintro m17 a w5 ⟨y8, y9, l10, y13, v11, F12, ha, hB6, hS7, hF⟩ KL16 hKL16
  refine W.at ?_ ha
  cases m17 with
  | zero => exact noneE hF
  | succ m17 =>
   obtain ⟨nx14, hnx14⟩ : ∃ k, k = F_spec_l1Cur__chartOf__mut__box_L1 x1 x0 m17 := ⟨_, rfl⟩
   rw [F_spec_l1Cur__chartOf__mut__box_L1, ← hnx14] at hF
   refine W.seq fun K18 hK18 => W.seq fun K19 hK19 => W.region (wl_move rfl rfl (wl_lenr (e := ty_38) (l := l10) Tryz.underlying51 rfl rfl (hS7.own_ro (i := 2) rfl) (wl_move rfl rfl (wl_lss rfl rfl rfl (WL.nil (fun a ha => hK19 _ _ (W.cond rfl (fun h20 => ?_) (fun h20 => ?_)) a ha))))))
   ·replace hF := ifP h20 hF
    refine W.skip fun a ha => hK18 _ _ (W.seq fun K21 hK21 => ?_) a ha
    obtain ⟨k30, hk30, hF⟩ := jE3 hF
    have hJ31 : ∀ (y25 : Int) (y26 : Int) (l27 : (List (Int × Int))) (v28 : Value) (F29 : List Nat) (w22 : World) (_ : k30 y25 y26 l27 = some r) (_ : Below (wE w0).heap.size (wE w0) w22) (_ : Sep (wE w0).heap.size w22 [R.rest w0 (fps [R.blk b0 73 [v0_0, (.int .i64 x0.2.1), (.int .u64 x0.2.2)]]), R.blk b0 73 [v0_0, (.int .i64 y25), (.int .u64 y26)], R.own ty_38 F29 v28 l27]), ∀ a, St 63 [(0, (.pointer (some ⟨b0, 0, none⟩))), (1, (.int .i64 x1)), (5, v28), (6, (.int .i64 y13))] a → K21 a w22 := by
     intro y25 y26 l27 v28 F29 w22 hF hB23 hS24
     subst hk30
     refine fun a ha => hK21 _ _ (W.region (wl_move rfl rfl (wl_add rfl rfl rfl (wl_assign rfl rfl (WL.nil ?_))))) a ha
     rw [hnx14] at hF
     exact fun a ha => hKL16 a _ m17 (Nat.lt_succ_self m17) ⟨y25, y26, l27, (w64 (y13 + 1)), v28, F29, ha.sub ⟨rfl, rfl, rfl, rfl, trivial⟩, hB23, (hS24.sel [0, 1, 2] rfl), hF⟩
    refine W.block (W.seq fun K32 hK32 => (W.region (wl_move rfl rfl ?_)))
    obtain ⟨u33, hu33, hF⟩ := bindE hF
    refine wl_call rfl Tryz.call93 (C_spec_l1Cur__spot__mut__box w5 (x0.1, y8, y9) b0 v0_0 (h0_0.rsto (hS7.sel [0, 1] rfl)) (hS7.sel [1] rfl).base0 _ hu33) rfl ?_
    rintro _ w34 ⟨rfl, hE35, hM36⟩
    refine ⟨_, rfl, ?_⟩
    have hB37 := hS7.takeB [1] rfl (M := [R.blk b0 73 [v0_0, (.int .i64 y8), (.int .u64 y9)]]) rfl hB6 hE35 hM36
    have hS38 : Sep (wE w0).heap.size w34 [R.blk b0 73 [v0_0, (.int .i64 u33.2.2.1), (.int .u64 u33.2.2.2)], R.rest w0 (fps [R.blk b0 73 [v0_0, (.int .i64 x0.2.1), (.int .u64 x0.2.2)]]), R.own ty_38 F12 v11 l10] := hS7.take [1] [0, 2] rfl (M := [R.blk b0 73 [v0_0, (.int .i64 y8), (.int .u64 y9)]]) rfl hM36 hB6.size
    refine wl_alloc (cs := [(.int .i64 0), (.int .i64 0)]) tf_38 rfl rfl hB37 hS38 ?_
    intro b39 w40 hb41 hB42 hS43
    refine wl_store_blk (i := 0) (vs := [(.int .i64 u33.1.1), (.int .i64 u33.1.2)]) (cs' := [(.int .i64 u33.1.1), (.int .i64 u33.1.2)]) tf_38 rfl rfl rfl rfl hB42 hS43 rfl rfl ⟨rfl, rfl, trivial⟩ rfl ?_
    intro w44 hk47 hB45 hS46
    refine WL.nil fun a ha => hK32 _ _ (W.seq fun K48 hK48 => ?_) a ha
    obtain ⟨k56, hk56, hF⟩ := jE4 hF
    have hJ57 : ∀ (y52 : Int) (y53 : Int) (y54 : Int) (y55 : Int) (w49 : World) (_ : k56 y52 y53 y54 y55 = some r) (_ : Below (wE w0).heap.size (wE w0) w49) (_ : Sep (wE w0).heap.size w49 [R.rest w0 (fps [R.blk b0 73 [v0_0, (.int .i64 x0.2.1), (.int .u64 x0.2.2)]]), R.blk b0 73 [v0_0, (.int .i64 y52), (.int .u64 y53)], R.own ty_38 F12 v11 l10, R.blk b39 38 [(.int .i64 y54), (.int .i64 y55)]]), ∀ a, St 63 [(0, (.pointer (some ⟨b0, 0, none⟩))), (1, (.int .i64 x1)), (5, v11), (6, (.int .i64 y13)), (7, (.pointer (some ⟨b39, 0, none⟩)))] a → K48 a w49 := by
     intro y52 y53 y54 y55 w49 hF hB50 hS51
     subst hk56
     refine fun a ha => hK48 _ _ (W.seq fun K58 hK58 => ?_) a ha
     obtain ⟨k64, hk64, hF⟩ := jE2 hF
     have hJ65 : ∀ (y62 : Int) (y63 : Int) (w59 : World) (_ : k64 y62 y63 = some r) (_ : Below (wE w0).heap.size (wE w0) w59) (_ : Sep (wE w0).heap.size w59 [R.rest w0 (fps [R.blk b0 73 [v0_0, (.int .i64 x0.2.1), (.int .u64 x0.2.2)]]), R.blk b0 73 [v0_0, (.int .i64 y52), (.int .u64 y53)], R.own ty_38 F12 v11 l10, R.blk b39 38 [(.int .i64 y62), (.int .i64 y63)]]), ∀ a, St 63 [(0, (.pointer (some ⟨b0, 0, none⟩))), (1, (.int .i64 x1)), (5, v11), (6, (.int .i64 y13)), (7, (.pointer (some ⟨b39, 0, none⟩)))] a → K58 a w59 := by
      intro y62 y63 w59 hF hB60 hS61
      subst hk64
      refine fun a ha => hK58 _ _ (W.seq fun K66 hK66 => (W.region (wl_move rfl rfl (wl_load_blk (i := 3) (vs := [(.int .i64 y62), (.int .i64 y63)]) (v := (.agg #[(.int .i64 y62), (.int .i64 y63)])) tf_38 rfl rfl hS61 rfl rfl rfl ?_)))) a ha
      obtain ⟨u67, hu67, hF⟩ := bindE hF
      refine wl_call rfl Tryz.call94 (C_spec_chFind w59 l10 v11 (hS61.own_ro (i := 2) rfl) (y62, y63) _ hu67) rfl ?_
      rintro _ w68 ⟨rfl, hb69⟩
      refine ⟨_, rfl, ?_⟩
      have hB70 := hB60.trans (hb69.mono hB60.size)
      have hS71 := hS61.below hb69
      refine wl_lss rfl rfl rfl (WL.nil (fun a ha => hK66 _ _ (W.cond rfl (fun h73 => ?_) (fun h73 => ?_)) a ha))
      ·replace hF := ifP h73 hF
       refine W.region (wl_move rfl rfl (wl_load_blk (i := 3) (vs := [(.int .i64 y62), (.int .i64 y63)]) (v := (.agg #[(.int .i64 y62), (.int .i64 y63)])) tf_38 rfl rfl hS71 rfl rfl rfl (wl_lit (vs := [(.agg #[(.int .i64 y62), (.int .i64 y63)])]) (l := [(y62, y63)]) fl_38 Tryz.underlying51 rfl rfl rfl rfl rfl rfl hB70 hS71 ?_)))
       intro v74 F75 w76 hb77 hB78 hS79
       obtain ⟨u80, hu80, hF⟩ := bindE hF
       refine wl_append (i := 3) (S := (· < w76.heap.size)) fl_38 Tryz.underlying51 rfl rfl rfl hB78 hS79 rfl (hS79.own_ro (i := 0) rfl) hu80 ?_
       intro v81 F82 w83 hk84 hB85 hS86
       refine wl_assign rfl rfl (WL.nil ?_)
       exact fun a ha => hJ31 (y52) (y53) (u80) (v81) (F82) _ hF hB85 (hS86.sel [1, 2, 3] rfl) a (ha.sub ⟨rfl, rfl, rfl, rfl, trivial⟩)
      ·replace hF := ifN h73 hF
       refine W.skip ?_
       exact fun a ha => hJ31 (y52) (y53) (l10) (v11) (F12) _ hF hB70 (hS71.sel [0, 1, 2] rfl) a (ha.sub ⟨rfl, rfl, rfl, rfl, trivial⟩)
     refine W.seq fun K87 hK87 => W.region (wl_move rfl rfl (wl_gtr rfl rfl rfl (WL.nil (fun a ha => hK87 _ _ (W.cond rfl (fun h88 => ?_) (fun h88 => ?_)) a ha))))
     ·replace hF := ifP h88 hF
      refine W.region (wl_move rfl rfl (wl_lenr (e := ty_38) (l := l10) Tryz.underlying51 rfl rfl (hS51.own_ro (i := 2) rfl) (wl_mul rfl rfl rfl (wl_move rfl rfl (wl_add rfl rfl rfl (wl_build (zs := [(.int .i64 0), (.int .i64 0)]) (out := [(.int .i64 (w64 (3 * (List.length l10 : Int)))), (.int .i64 (w64 (7 + y13)))]) (vs := [(.int .i64 (w64 (3 * (List.length l10 : Int)))), (.int .i64 (w64 (7 + y13)))]) (css := [[(.int .i64 (w64 (3 * (List.length l10 : Int))))], [(.int .i64 (w64 (7 + y13)))]]) tf_38 pl_38 rfl rfl rfl rfl rfl (wl_store_blk (i := 3) (vs := [(.int .i64 (w64 (3 * (List.length l10 : Int)))), (.int .i64 (w64 (7 + y13)))]) (cs' := [(.int .i64 (w64 (3 * (List.length l10 : Int)))), (.int .i64 (w64 (7 + y13)))]) tf_38 rfl rfl rfl rfl hB50 hS51 rfl rfl ⟨rfl, rfl, trivial⟩ rfl ?_)))))))
      intro w89 hk92 hB90 hS91
      refine WL.nil ?_
      exact fun a ha => hJ65 ((w64 (3 * (List.length l10 : Int)))) ((w64 (7 + y13))) _ hF hB90 (hS91.sel [0, 1, 2, 3] rfl) a (ha.sub ⟨rfl, rfl, rfl, rfl, rfl, trivial⟩)
     ·replace hF := ifN h88 hF
      refine W.skip ?_
      exact fun a ha => hJ65 (y54) (y55) _ hF hB50 (hS51.sel [0, 1, 2, 3] rfl) a (ha.sub ⟨rfl, rfl, rfl, rfl, rfl, trivial⟩)
    refine W.seq fun K93 hK93 => ?_
    obtain ⟨k100, hk100, hF⟩ := jE3 hF
    have hJ101 : ∀ (y97 : Int) (y98 : Int) (y99 : Bool) (w94 : World) (_ : k100 y97 y98 y99 = some r) (_ : Below (wE w0).heap.size (wE w0) w94) (_ : Sep (wE w0).heap.size w94 [R.rest w0 (fps [R.blk b0 73 [v0_0, (.int .i64 x0.2.1), (.int .u64 x0.2.2)]]), R.blk b0 73 [v0_0, (.int .i64 y97), (.int .u64 y98)], R.own ty_38 F12 v11 l10, R.blk b39 38 [(.int .i64 u33.1.1), (.int .i64 u33.1.2)]]), ∀ a, St 63 [(0, (.pointer (some ⟨b0, 0, none⟩))), (1, (.int .i64 x1)), (5, v11), (6, (.int .i64 y13)), (7, (.pointer (some ⟨b39, 0, none⟩))), (23, (.bool y99))] a → K93 a w94 := by
     intro y97 y98 y99 w94 hF hB95 hS96
     subst hk100
     refine fun a ha => hK93 _ _ (W.cond rfl (fun h102 => ?_) (fun h102 => ?_)) a ha
     ·replace hF := ifP h102 hF
      refine W.seq fun K103 hK103 => W.region (wl_move rfl rfl (wl_move rfl rfl (wl_move rfl rfl (wl_lenr (e := ty_38) (l := l10) Tryz.underlying51 rfl rfl (hS96.own_ro (i := 2) rfl) ?_))))
      obtain ⟨u104, hu104, hF⟩ := bindE hF
      refine wl_call rfl Tryz.call59 (C_spec_l1Cur__pick__mut__box w94 (x0.1, y97, y98) b0 v0_0 (h0_0.rsto (hS96.sel [0, 1] rfl)) (List.length l10 : Int) (hS96.sel [1] rfl).base0 _ hu104) rfl ?_
      rintro _ w105 ⟨rfl, hE106, hM107⟩
      refine ⟨_, rfl, ?_⟩
      have hB108 := hS96.takeB [1] rfl (M := [R.blk b0 73 [v0_0, (.int .i64 y97), (.int .u64 y98)]]) rfl hB95 hE106 hM107
      have hS109 : Sep (wE w0).heap.size w105 [R.blk b0 73 [v0_0, (.int .i64 u104.2.2.1), (.int .u64 u104.2.2.2)], R.rest w0 (fps [R.blk b0 73 [v0_0, (.int .i64 x0.2.1), (.int .u64 x0.2.2)]]), R.own ty_38 F12 v11 l10, R.blk b39 38 [(.int .i64 u33.1.1), (.int .i64 u33.1.2)]] := hS96.take [1] [0, 2, 3] rfl (M := [R.blk b0 73 [v0_0, (.int .i64 y97), (.int .u64 y98)]]) rfl hM107 hB95.size
      obtain ⟨u110, hu110, hF⟩ := bindE hF
      refine wl_indexoF (e := ty_38) (i := 2) Tryz.underlying51 rfl rfl rfl hS109 rfl hu110 ?_
      rintro p111 _ rfl hp112 ho113
      refine wl_load_p (vs := [(.int .i64 u110.1), (.int .i64 u110.2)]) (v := (.agg #[(.int .i64 u110.1), (.int .i64 u110.2)])) tf_38 rfl rfl hp112 rfl rfl (wl_alloc (cs := [(.int .i64 0), (.int .i64 0)]) tf_38 rfl rfl hB108 hS109 ?_)
      intro b114 w115 hb116 hB117 hS118
      have hp112 := hp112.keepS (fun b hb => hb116.block b (((hS109.get (i := 2) rfl).2.1 b hb).2)) (fun _ h => h)
      refine wl_store_blk (i := 0) (vs := [(.int .i64 u110.1), (.int .i64 u110.2)]) (cs' := [(.int .i64 u110.1), (.int .i64 u110.2)]) tf_38 rfl rfl rfl rfl hB117 hS118 rfl rfl ⟨rfl, rfl, trivial⟩ rfl ?_
      intro w119 hk122 hB120 hS121
      have hp112 := hp112.keepS (fun b hb => hk122.2.1 b (((hS118.get (i := 3) rfl).2.1 b hb).2) (hS118.disj (i := 3) (j := 0) rfl rfl rfl b hb)) (fun _ h => h)
      refine WL.nil fun a ha => hK103 _ _ (W.regionH mixed_ ([b0] ++ [b39]) hB120 hS121 ?_) a ha
      intro w123 hb124 hB125 hS126
      have hp112 := hp112.keepS (fun b hb => hb124.block b (((hS121.get (i := 3) rfl).2.1 b hb).2)) (fun _ h => h)
      have hSW127 := KeepX.refl w123 ([b0] ++ [b39])
      refine WH.tk 0 rfl hP hSW127 (pr_field (o := 0) (off' := 0) ff_38_0 rfl rfl rfl (WH.tk 1 rfl hP hSW127 (pr_load_blk (i := 0) (vs := [(.int .i64 u110.1)]) (v := (.int .i64 u110.1)) tf_3 rfl rfl hS126 rfl rfl rfl (fun hb => (List.mem_append.1 hb).elim (hS126.disj (i := 0) (j := 1) rfl rfl rfl b114 (by simp [R.blk])) (hS126.disj (i := 0) (j := 4) rfl rfl rfl b114 (by simp [R.blk]))) (WH.tk 2 rfl hP hSW127 (pr_move rfl rfl (WH.tk 7 rfl hP hSW127 (pr_field (o := 1) (off' := 1) ff_38_1 rfl rfl rfl (WH.tk 8 rfl hP hSW127 (pr_load_blk (i := 0) (vs := [(.int .i64 u110.2)]) (v := (.int .i64 u110.2)) tf_3 rfl rfl hS126 rfl rfl rfl (fun hb => (List.mem_append.1 hb).elim (hS126.disj (i := 0) (j := 1) rfl rfl rfl b114 (by simp [R.blk])) (hS126.disj (i := 0) (j := 4) rfl rfl rfl b114 (by simp [R.blk]))) (WH.tk 9 rfl hP hSW127 (pr_move rfl rfl (WH.many (is := [3, 10]) (by kernel_rfl) rfl ?_))))))))))))
      refine List.forall_mem_cons.2 ⟨⟨_, rfl, ?_⟩, List.forall_mem_cons.2 ⟨⟨_, rfl, ?_⟩, fun _ h => by cases h⟩⟩
      ·
       refine wl_lit (vs := [(.int .i64 0), (.int .i64 8), (.int .i64 16), (.int .i64 24), (.int .i64 5)]) (l := [0, 8, 16, 24, 5]) fl_3 Tryz.underlying25 rfl rfl rfl rfl rfl rfl (Below.self w123) (Sep.nil _ _) ?_
       intro v128 F129 w130 hb131 hB134 hM135
       have hB132 := hB125.trans (hb131.mono hB125.size)
       have hS133 := hS126.join hb131 hM135 hB125.size
       have hpv137 := hp112.keepS (fun b hb => hb131.block b (((hS126.get (i := 3) rfl).2.1 b hb).2)) (fun _ h => h)
       have hSW138 := hSW127.ext hb131
       refine WL.nil (WH.ret hSW138 (WH.many (is := [4, 10]) (by kernel_rfl) rfl (List.forall_mem_cons.2 ⟨⟨_, rfl, ?_⟩, List.forall_mem_cons.2 ⟨⟨_, rfl, ?_⟩, fun _ h => by cases h⟩⟩)))
       ·
        obtain ⟨u140, hu140, hF⟩ := bindE hF
        refine wl_call rfl Tryz.call61 (C_spec_l1Cur__among__mut__box w130 (x0.1, u104.2.2.1, u104.2.2.2) b0 v0_0 (h0_0.rsto (hS133.sel [3, 2] rfl)) [0, 8, 16, 24, 5] v128 (own_out (hS133.sel [0, 2] rfl)) (hS133.sel [2] rfl).base0 _ hu140) rfl ?_
        rintro _ w141 ⟨rfl, hE142, hM143⟩
        refine ⟨_, rfl, ?_⟩
        have hB144 := hS133.takeB [2] rfl (M := [R.blk b0 73 [v0_0, (.int .i64 u104.2.2.1), (.int .u64 u104.2.2.2)]]) rfl hB132 hE142 hM143
        have hS145 : Sep (wE w0).heap.size w141 [R.blk b0 73 [v0_0, (.int .i64 u140.2.2.1), (.int .u64 u140.2.2.2)], R.own ty_3 F129 v128 [0, 8, 16, 24, 5], R.blk b114 38 [(.int .i64 u110.1), (.int .i64 u110.2)], R.rest w0 (fps [R.blk b0 73 [v0_0, (.int .i64 x0.2.1), (.int .u64 x0.2.2)]]), R.own ty_38 F12 v11 l10, R.blk b39 38 [(.int .i64 u33.1.1), (.int .i64 u33.1.2)]] := hS133.take [2] [0, 1, 3, 4, 5] rfl (M := [R.blk b0 73 [v0_0, (.int .i64 u104.2.2.1), (.int .u64 u104.2.2.2)]]) rfl hM143 hB132.size
        have hk146 := box_kept hM143
        have hpv147 := hpv137.keepS (fun b hb => hk146.2.1 b (((hS133.get (i := 4) rfl).2.1 b hb).2) (hS133.disj (i := 4) (j := 2) rfl rfl rfl b hb)) (fun _ h => h)
        have hSW148 := hSW138.wr' hk146.1 hk146.2.1 (fun _ _ h => List.mem_append_left _ (h))
        have hbs149 : ∀ b, b < w123.heap.size → b ∈ [b0] → b ∈ ([b0] ++ [b39]) := fun b hlt hb => (hk146.2.2 b hb).elim ((fun _ _ h => List.mem_append_left _ (h)) b hlt) (fun h => absurd hlt (Nat.not_lt.2 (Nat.le_trans hSW138.size h)))
        refine WL.nil (WH.ret hSW148 (WH.tk 5 rfl hP hSW148 (pr_add rfl rfl rfl (WH.many (is := [6, 10]) (by kernel_rfl) rfl (List.forall_mem_cons.2 ⟨⟨_, rfl, ?_⟩, List.forall_mem_cons.2 ⟨⟨_, rfl, ?_⟩, fun _ h => by cases h⟩⟩)))))
        ·
         obtain ⟨u150, hu150, hF⟩ := bindE hF
         refine wl_call rfl Tryz.call64 (C_spec_l1Least w141 1280 (w64 (u110.1 + u140.1)) _ hu150) rfl ?_
         rintro _ w151 ⟨rfl, hb152⟩
         refine ⟨_, rfl, ?_⟩
         have hB153 := hB144.trans (hb152.mono hB144.size)
         have hS154 := hS145.below hb152
         have hpv156 := hpv147.keepS (fun b hb => hb152.block b (((hS145.get (i := 4) rfl).2.1 b hb).2)) (fun _ h => h)
         have hSW157 := hSW148.ext hb152
         refine WL.nil (WH.ret hSW157 (WH.on1 10 rfl (wl_lit (vs := [(.int .i64 0), (.int .i64 8), (.int .i64 16), (.int .i64 3)]) (l := [0, 8, 16, 3]) fl_3 Tryz.underlying25 rfl rfl rfl rfl rfl rfl (Below.self w151) (Sep.nil _ _) ?_)))
         intro v158 F159 w160 hb161 hB164 hM165
         have hB162 := hB153.trans (hb161.mono hB153.size)
         have hS163 := hS154.join hb161 hM165 hB153.size
         have hpv167 := hpv156.keepS (fun b hb => hb161.block b (((hS154.get (i := 4) rfl).2.1 b hb).2)) (fun _ h => h)
         have hSW168 := hSW157.ext hb161
         refine WL.nil (WH.ret hSW168 (WH.on1 11 rfl ?_))
         obtain ⟨u169, hu169, hF⟩ := bindE hF
         refine wl_call rfl Tryz.call61 (C_spec_l1Cur__among__mut__box w160 (x0.1, u140.2.2.1, u140.2.2.2) b0 v0_0 (h0_0.rsto (hS163.sel [4, 1] rfl)) [0, 8, 16, 3] v158 (own_out (hS163.sel [0, 1] rfl)) (hS163.sel [1] rfl).base0 _ hu169) rfl ?_
         rintro _ w170 ⟨rfl, hE171, hM172⟩
         refine ⟨_, rfl, ?_⟩
         have hB173 := hS163.takeB [1] rfl (M := [R.blk b0 73 [v0_0, (.int .i64 u140.2.2.1), (.int .u64 u140.2.2.2)]]) rfl hB162 hE171 hM172
         have hS174 : Sep (wE w0).heap.size w170 [R.blk b0 73 [v0_0, (.int .i64 u169.2.2.1), (.int .u64 u169.2.2.2)], R.own ty_3 F159 v158 [0, 8, 16, 3], R.own ty_3 F129 v128 [0, 8, 16, 24, 5], R.blk b114 38 [(.int .i64 u110.1), (.int .i64 u110.2)], R.rest w0 (fps [R.blk b0 73 [v0_0, (.int .i64 x0.2.1), (.int .u64 x0.2.2)]]), R.own ty_38 F12 v11 l10, R.blk b39 38 [(.int .i64 u33.1.1), (.int .i64 u33.1.2)]] := hS163.take [1] [0, 2, 3, 4, 5, 6] rfl (M := [R.blk b0 73 [v0_0, (.int .i64 u140.2.2.1), (.int .u64 u140.2.2.2)]]) rfl hM172 hB162.size
         have hk175 := box_kept hM172
         have hpv176 := hpv167.keepS (fun b hb => hk175.2.1 b (((hS163.get (i := 5) rfl).2.1 b hb).2) (hS163.disj (i := 5) (j := 1) rfl rfl rfl b hb)) (fun _ h => h)
         have hSW177 := hSW168.wr' hk175.1 hk175.2.1 (hbs149)
         refine WL.nil (WH.ret hSW177 (WH.tk 12 rfl hP hSW177 (pr_add rfl rfl rfl (WH.on1 13 rfl ?_))))
         obtain ⟨u179, hu179, hF⟩ := bindE hF
         refine wl_call rfl Tryz.call64 (C_spec_l1Least w170 672 (w64 (u110.2 + u169.1)) _ hu179) rfl ?_
         rintro _ w180 ⟨rfl, hb181⟩
         refine ⟨_, rfl, ?_⟩
         have hB182 := hB173.trans (hb181.mono hB173.size)
         have hS183 := hS174.below hb181
         have hpv185 := hpv176.keepS (fun b hb => hb181.block b (((hS174.get (i := 5) rfl).2.1 b hb).2)) (fun _ h => h)
         have hSW186 := hSW177.ext hb181
         refine WL.nil (WH.ret hSW186 (WH.tk 14 rfl hP hSW186 (pr_build (zs := [(.int .i64 0), (.int .i64 0)]) (out := [(.int .i64 u150), (.int .i64 u179)]) (vs := [(.int .i64 u150), (.int .i64 u179)]) (css := [[(.int .i64 u150)], [(.int .i64 u179)]]) tf_38 pl_38 rfl rfl rfl rfl rfl (WH.on1 15 rfl (wl_store_blk (i := 6) (vs := [(.int .i64 u150), (.int .i64 u179)]) (cs' := [(.int .i64 u150), (.int .i64 u179)]) tf_38 rfl rfl rfl rfl hB182 hS183 rfl rfl ⟨rfl, rfl, trivial⟩ rfl ?_)))))
         intro w187 hk190 hB188 hS189
         have hpv191 := hpv185.keepS (fun b hb => hk190.2.1 b (((hS183.get (i := 5) rfl).2.1 b hb).2) (hS183.disj (i := 5) (j := 6) rfl rfl rfl b hb)) (fun _ h => h)
         have hSW192 := hSW186.wr' hk190.1 hk190.2.1 (fun _ _ h => List.mem_append_right _ h)
         refine WL.nil (WH.ret hSW192 (WH.done (by kernel_rfl) ?_))
         have hp112 := hpv191
         exact fun a ha => hJ57 (u169.2.2.1) (u169.2.2.2) (u150) (u179) _ hF hB188 (hS189.sel [4, 0, 5, 6] rfl) a (ha.sub ⟨rfl, rfl, rfl, rfl, rfl, trivial⟩)
        ·
         refine wl_lit (vs := [(.int .i64 0), (.int .i64 8), (.int .i64 16), (.int .i64 3)]) (l := [0, 8, 16, 3]) fl_3 Tryz.underlying25 rfl rfl rfl rfl rfl rfl (Below.self w141) (Sep.nil _ _) ?_
         intro v194 F195 w196 hb197 hB200 hM201
         have hB198 := hB144.trans (hb197.mono hB144.size)
         have hS199 := hS145.join hb197 hM201 hB144.size
         have hpv203 := hpv147.keepS (fun b hb => hb197.block b (((hS145.get (i := 4) rfl).2.1 b hb).2)) (fun _ h => h)
         have hSW204 := hSW148.ext hb197
         refine WL.nil (WH.ret hSW204 (WH.on1 6 rfl ?_))
         obtain ⟨u205, hu205, hF⟩ := bindE hF
         refine wl_call rfl Tryz.call64 (C_spec_l1Least w196 1280 (w64 (u110.1 + u140.1)) _ hu205) rfl ?_
         rintro _ w206 ⟨rfl, hb207⟩
         refine ⟨_, rfl, ?_⟩
         have hB208 := hB198.trans (hb207.mono hB198.size)
         have hS209 := hS199.below hb207
         have hpv211 := hpv203.keepS (fun b hb => hb207.block b (((hS199.get (i := 5) rfl).2.1 b hb).2)) (fun _ h => h)
         have hSW212 := hSW204.ext hb207
         refine WL.nil (WH.ret hSW212 (WH.on1 11 rfl ?_))
         obtain ⟨u213, hu213, hF⟩ := bindE hF
         refine wl_call rfl Tryz.call61 (C_spec_l1Cur__among__mut__box w206 (x0.1, u140.2.2.1, u140.2.2.2) b0 v0_0 (h0_0.rsto (hS209.sel [4, 1] rfl)) [0, 8, 16, 3] v194 (own_out (hS209.sel [0, 1] rfl)) (hS209.sel [1] rfl).base0 _ hu213) rfl ?_
         rintro _ w214 ⟨rfl, hE215, hM216⟩
         refine ⟨_, rfl, ?_⟩
         have hB217 := hS209.takeB [1] rfl (M := [R.blk b0 73 [v0_0, (.int .i64 u140.2.2.1), (.int .u64 u140.2.2.2)]]) rfl hB208 hE215 hM216
         have hS218 : Sep (wE w0).heap.size w214 [R.blk b0 73 [v0_0, (.int .i64 u213.2.2.1), (.int .u64 u213.2.2.2)], R.own ty_3 F195 v194 [0, 8, 16, 3], R.own ty_3 F129 v128 [0, 8, 16, 24, 5], R.blk b114 38 [(.int .i64 u110.1), (.int .i64 u110.2)], R.rest w0 (fps [R.blk b0 73 [v0_0, (.int .i64 x0.2.1), (.int .u64 x0.2.2)]]), R.own ty_38 F12 v11 l10, R.blk b39 38 [(.int .i64 u33.1.1), (.int .i64 u33.1.2)]] := hS209.take [1] [0, 2, 3, 4, 5, 6] rfl (M := [R.blk b0 73 [v0_0, (.int .i64 u140.2.2.1), (.int .u64 u140.2.2.2)]]) rfl hM216 hB208.size
         have hk219 := box_kept hM216
         have hpv220 := hpv211.keepS (fun b hb => hk219.2.1 b (((hS209.get (i := 5) rfl).2.1 b hb).2) (hS209.disj (i := 5) (j := 1) rfl rfl rfl b hb)) (fun _ h => h)
         have hSW221 := hSW212.wr' hk219.1 hk219.2.1 (hbs149)
         refine WL.nil (WH.ret hSW221 (WH.tk 12 rfl hP hSW221 (pr_add rfl rfl rfl (WH.on1 13 rfl ?_))))
         obtain ⟨u223, hu223, hF⟩ := bindE hF
         refine wl_call rfl Tryz.call64 (C_spec_l1Least w214 672 (w64 (u110.2 + u213.1)) _ hu223) rfl ?_
         rintro _ w224 ⟨rfl, hb225⟩
         refine ⟨_, rfl, ?_⟩
         have hB226 := hB217.trans (hb225.mono hB217.size)
         have hS227 := hS218.below hb225
         have hpv229 := hpv220.keepS (fun b hb => hb225.block b (((hS218.get (i := 5) rfl).2.1 b hb).2)) (fun _ h => h)
         have hSW230 := hSW221.ext hb225
         refine WL.nil (WH.ret hSW230 (WH.tk 14 rfl hP hSW230 (pr_build (zs := [(.int .i64 0), (.int .i64 0)]) (out := [(.int .i64 u205), (.int .i64 u223)]) (vs := [(.int .i64 u205), (.int .i64 u223)]) (css := [[(.int .i64 u205)], [(.int .i64 u223)]]) tf_38 pl_38 rfl rfl rfl rfl rfl (WH.on1 15 rfl (wl_store_blk (i := 6) (vs := [(.int .i64 u205), (.int .i64 u223)]) (cs' := [(.int .i64 u205), (.int .i64 u223)]) tf_38 rfl rfl rfl rfl hB226 hS227 rfl rfl ⟨rfl, rfl, trivial⟩ rfl ?_)))))
         intro w231 hk234 hB232 hS233
         have hpv235 := hpv229.keepS (fun b hb => hk234.2.1 b (((hS227.get (i := 5) rfl).2.1 b hb).2) (hS227.disj (i := 5) (j := 6) rfl rfl rfl b hb)) (fun _ h => h)
         have hSW236 := hSW230.wr' hk234.1 hk234.2.1 (fun _ _ h => List.mem_append_right _ h)
         refine WL.nil (WH.ret hSW236 (WH.done (by kernel_rfl) ?_))
         have hp112 := hpv235
         exact fun a ha => hJ57 (u213.2.2.1) (u213.2.2.2) (u205) (u223) _ hF hB232 (hS233.sel [4, 0, 5, 6] rfl) a (ha.sub ⟨rfl, rfl, rfl, rfl, rfl, trivial⟩)
       ·
        refine wl_lit (vs := [(.int .i64 0), (.int .i64 8), (.int .i64 16), (.int .i64 3)]) (l := [0, 8, 16, 3]) fl_3 Tryz.underlying25 rfl rfl rfl rfl rfl rfl (Below.self w130) (Sep.nil _ _) ?_
        intro v238 F239 w240 hb241 hB244 hM245
        have hB242 := hB132.trans (hb241.mono hB132.size)
        have hS243 := hS133.join hb241 hM245 hB132.size
        have hpv247 := hpv137.keepS (fun b hb => hb241.block b (((hS133.get (i := 4) rfl).2.1 b hb).2)) (fun _ h => h)
        have hSW248 := hSW138.ext hb241
        refine WL.nil (WH.ret hSW248 (WH.on1 4 rfl ?_))
        obtain ⟨u250, hu250, hF⟩ := bindE hF
        refine wl_call rfl Tryz.call61 (C_spec_l1Cur__among__mut__box w240 (x0.1, u104.2.2.1, u104.2.2.2) b0 v0_0 (h0_0.rsto (hS243.sel [4, 3] rfl)) [0, 8, 16, 24, 5] v128 (own_out (hS243.sel [1, 3] rfl)) (hS243.sel [3] rfl).base0 _ hu250) rfl ?_
        rintro _ w251 ⟨rfl, hE252, hM253⟩
        refine ⟨_, rfl, ?_⟩
        have hB254 := hS243.takeB [3] rfl (M := [R.blk b0 73 [v0_0, (.int .i64 u104.2.2.1), (.int .u64 u104.2.2.2)]]) rfl hB242 hE252 hM253
        have hS255 : Sep (wE w0).heap.size w251 [R.blk b0 73 [v0_0, (.int .i64 u250.2.2.1), (.int .u64 u250.2.2.2)], R.own ty_3 F239 v238 [0, 8, 16, 3], R.own ty_3 F129 v128 [0, 8, 16, 24, 5], R.blk b114 38 [(.int .i64 u110.1), (.int .i64 u110.2)], R.rest w0 (fps [R.blk b0 73 [v0_0, (.int .i64 x0.2.1), (.int .u64 x0.2.2)]]), R.own ty_38 F12 v11 l10, R.blk b39 38 [(.int .i64 u33.1.1), (.int .i64 u33.1.2)]] := hS243.take [3] [0, 1, 2, 4, 5, 6] rfl (M := [R.blk b0 73 [v0_0, (.int .i64 u104.2.2.1), (.int .u64 u104.2.2.2)]]) rfl hM253 hB242.size
        have hk256 := box_kept hM253
        have hpv257 := hpv247.keepS (fun b hb => hk256.2.1 b (((hS243.get (i := 5) rfl).2.1 b hb).2) (hS243.disj (i := 5) (j := 3) rfl rfl rfl b hb)) (fun _ h => h)
        have hSW258 := hSW248.wr' hk256.1 hk256.2.1 (fun _ _ h => List.mem_append_left _ (h))
        have hbs259 : ∀ b, b < w123.heap.size → b ∈ [b0] → b ∈ ([b0] ++ [b39]) := fun b hlt hb => (hk256.2.2 b hb).elim ((fun _ _ h => List.mem_append_left _ (h)) b hlt) (fun h => absurd hlt (Nat.not_lt.2 (Nat.le_trans hSW248.size h)))
        refine WL.nil (WH.ret hSW258 (WH.tk 5 rfl hP hSW258 (pr_add rfl rfl rfl (WH.on1 6 rfl ?_))))
        obtain ⟨u260, hu260, hF⟩ := bindE hF
        refine wl_call rfl Tryz.call64 (C_spec_l1Least w251 1280 (w64 (u110.1 + u250.1)) _ hu260) rfl ?_
        rintro _ w261 ⟨rfl, hb262⟩
        refine ⟨_, rfl, ?_⟩
        have hB263 := hB254.trans (hb262.mono hB254.size)
        have hS264 := hS255.below hb262
        have hpv266 := hpv257.keepS (fun b hb => hb262.block b (((hS255.get (i := 5) rfl).2.1 b hb).2)) (fun _ h => h)
        have hSW267 := hSW258.ext hb262
        refine WL.nil (WH.ret hSW267 (WH.on1 11 rfl ?_))
        obtain ⟨u268, hu268, hF⟩ := bindE hF
        refine wl_call rfl Tryz.call61 (C_spec_l1Cur__among__mut__box w261 (x0.1, u250.2.2.1, u250.2.2.2) b0 v0_0 (h0_0.rsto (hS264.sel [4, 0] rfl)) [0, 8, 16, 3] v238 (own_out (hS264.sel [1, 0] rfl)) (hS264.sel [0] rfl).base0 _ hu268) rfl ?_
        rintro _ w269 ⟨rfl, hE270, hM271⟩
        refine ⟨_, rfl, ?_⟩
        have hB272 := hS264.takeB [0] rfl (M := [R.blk b0 73 [v0_0, (.int .i64 u250.2.2.1), (.int .u64 u250.2.2.2)]]) rfl hB263 hE270 hM271
        have hS273 : Sep (wE w0).heap.size w269 [R.blk b0 73 [v0_0, (.int .i64 u268.2.2.1), (.int .u64 u268.2.2.2)], R.own ty_3 F239 v238 [0, 8, 16, 3], R.own ty_3 F129 v128 [0, 8, 16, 24, 5], R.blk b114 38 [(.int .i64 u110.1), (.int .i64 u110.2)], R.rest w0 (fps [R.blk b0 73 [v0_0, (.int .i64 x0.2.1), (.int .u64 x0.2.2)]]), R.own ty_38 F12 v11 l10, R.blk b39 38 [(.int .i64 u33.1.1), (.int .i64 u33.1.2)]] := hS264.take [0] [1, 2, 3, 4, 5, 6] rfl (M := [R.blk b0 73 [v0_0, (.int .i64 u250.2.2.1), (.int .u64 u250.2.2.2)]]) rfl hM271 hB263.size
        have hk274 := box_kept hM271
        have hpv275 := hpv266.keepS (fun b hb => hk274.2.1 b (((hS264.get (i := 5) rfl).2.1 b hb).2) (hS264.disj (i := 5) (j := 0) rfl rfl rfl b hb)) (fun _ h => h)
        have hSW276 := hSW267.wr' hk274.1 hk274.2.1 (hbs259)
        refine WL.nil (WH.ret hSW276 (WH.tk 12 rfl hP hSW276 (pr_add rfl rfl rfl (WH.on1 13 rfl ?_))))
        obtain ⟨u278, hu278, hF⟩ := bindE hF
        refine wl_call rfl Tryz.call64 (C_spec_l1Least w269 672 (w64 (u110.2 + u268.1)) _ hu278) rfl ?_
        rintro _ w279 ⟨rfl, hb280⟩
        refine ⟨_, rfl, ?_⟩
        have hB281 := hB272.trans (hb280.mono hB272.size)
        have hS282 := hS273.below hb280
        have hpv284 := hpv275.keepS (fun b hb => hb280.block b (((hS273.get (i := 5) rfl).2.1 b hb).2)) (fun _ h => h)
        have hSW285 := hSW276.ext hb280
        refine WL.nil (WH.ret hSW285 (WH.tk 14 rfl hP hSW285 (pr_build (zs := [(.int .i64 0), (.int .i64 0)]) (out := [(.int .i64 u260), (.int .i64 u278)]) (vs := [(.int .i64 u260), (.int .i64 u278)]) (css := [[(.int .i64 u260)], [(.int .i64 u278)]]) tf_38 pl_38 rfl rfl rfl rfl rfl (WH.on1 15 rfl (wl_store_blk (i := 6) (vs := [(.int .i64 u260), (.int .i64 u278)]) (cs' := [(.int .i64 u260), (.int .i64 u278)]) tf_38 rfl rfl rfl rfl hB281 hS282 rfl rfl ⟨rfl, rfl, trivial⟩ rfl ?_)))))
        intro w286 hk289 hB287 hS288
        have hpv290 := hpv284.keepS (fun b hb => hk289.2.1 b (((hS282.get (i := 5) rfl).2.1 b hb).2) (hS282.disj (i := 5) (j := 6) rfl rfl rfl b hb)) (fun _ h => h)
        have hSW291 := hSW285.wr' hk289.1 hk289.2.1 (fun _ _ h => List.mem_append_right _ h)
        refine WL.nil (WH.ret hSW291 (WH.done (by kernel_rfl) ?_))
        have hp112 := hpv290
        exact fun a ha => hJ57 (u268.2.2.1) (u268.2.2.2) (u260) (u278) _ hF hB287 (hS288.sel [4, 0, 5, 6] rfl) a (ha.sub ⟨rfl, rfl, rfl, rfl, rfl, trivial⟩)
      ·
       refine wl_lit (vs := [(.int .i64 0), (.int .i64 8), (.int .i64 16), (.int .i64 3)]) (l := [0, 8, 16, 3]) fl_3 Tryz.underlying25 rfl rfl rfl rfl rfl rfl (Below.self w123) (Sep.nil _ _) ?_
       intro v293 F294 w295 hb296 hB299 hM300
       have hB297 := hB125.trans (hb296.mono hB125.size)
       have hS298 := hS126.join hb296 hM300 hB125.size
       have hpv302 := hp112.keepS (fun b hb => hb296.block b (((hS126.get (i := 3) rfl).2.1 b hb).2)) (fun _ h => h)
       have hSW303 := hSW127.ext hb296
       refine WL.nil (WH.ret hSW303 (WH.on1 3 rfl (wl_lit (vs := [(.int .i64 0), (.int .i64 8), (.int .i64 16), (.int .i64 24), (.int .i64 5)]) (l := [0, 8, 16, 24, 5]) fl_3 Tryz.underlying25 rfl rfl rfl rfl rfl rfl (Below.self w295) (Sep.nil _ _) ?_)))
       intro v305 F306 w307 hb308 hB311 hM312
       have hB309 := hB297.trans (hb308.mono hB297.size)
       have hS310 := hS298.join hb308 hM312 hB297.size
       have hpv314 := hpv302.keepS (fun b hb => hb308.block b (((hS298.get (i := 4) rfl).2.1 b hb).2)) (fun _ h => h)
       have hSW315 := hSW303.ext hb308
       refine WL.nil (WH.ret hSW315 (WH.on1 4 rfl ?_))
       obtain ⟨u317, hu317, hF⟩ := bindE hF
       refine wl_call rfl Tryz.call61 (C_spec_l1Cur__among__mut__box w307 (x0.1, u104.2.2.1, u104.2.2.2) b0 v0_0 (h0_0.rsto (hS310.sel [4, 3] rfl)) [0, 8, 16, 24, 5] v305 (own_out (hS310.sel [0, 3] rfl)) (hS310.sel [3] rfl).base0 _ hu317) rfl ?_
       rintro _ w318 ⟨rfl, hE319, hM320⟩
       refine ⟨_, rfl, ?_⟩
       have hB321 := hS310.takeB [3] rfl (M := [R.blk b0 73 [v0_0, (.int .i64 u104.2.2.1), (.int .u64 u104.2.2.2)]]) rfl hB309 hE319 hM320
       have hS322 : Sep (wE w0).heap.size w318 [R.blk b0 73 [v0_0, (.int .i64 u317.2.2.1), (.int .u64 u317.2.2.2)], R.own ty_3 F306 v305 [0, 8, 16, 24, 5], R.own ty_3 F294 v293 [0, 8, 16, 3], R.blk b114 38 [(.int .i64 u110.1), (.int .i64 u110.2)], R.rest w0 (fps [R.blk b0 73 [v0_0, (.int .i64 x0.2.1), (.int .u64 x0.2.2)]]), R.own ty_38 F12 v11 l10, R.blk b39 38 [(.int .i64 u33.1.1), (.int .i64 u33.1.2)]] := hS310.take [3] [0, 1, 2, 4, 5, 6] rfl (M := [R.blk b0 73 [v0_0, (.int .i64 u104.2.2.1), (.int .u64 u104.2.2.2)]]) rfl hM320 hB309.size
       have hk323 := box_kept hM320
       have hpv324 := hpv314.keepS (fun b hb => hk323.2.1 b (((hS310.get (i := 5) rfl).2.1 b hb).2) (hS310.disj (i := 5) (j := 3) rfl rfl rfl b hb)) (fun _ h => h)
       have hSW325 := hSW315.wr' hk323.1 hk323.2.1 (fun _ _ h => List.mem_append_left _ (h))
       have hbs326 : ∀ b, b < w123.heap.size → b ∈ [b0] → b ∈ ([b0] ++ [b39]) := fun b hlt hb => (hk323.2.2 b hb).elim ((fun _ _ h => List.mem_append_left _ (h)) b hlt) (fun h => absurd hlt (Nat.not_lt.2 (Nat.le_trans hSW315.size h)))
       refine WL.nil (WH.ret hSW325 (WH.tk 5 rfl hP hSW325 (pr_add rfl rfl rfl (WH.on1 6 rfl ?_))))
       obtain ⟨u327, hu327, hF⟩ := bindE hF
       refine wl_call rfl Tryz.call64 (C_spec_l1Least w318 1280 (w64 (u110.1 + u317.1)) _ hu327) rfl ?_
       rintro _ w328 ⟨rfl, hb329⟩
       refine ⟨_, rfl, ?_⟩
       have hB330 := hB321.trans (hb329.mono hB321.size)
       have hS331 := hS322.below hb329
       have hpv333 := hpv324.keepS (fun b hb => hb329.block b (((hS322.get (i := 5) rfl).2.1 b hb).2)) (fun _ h => h)
       have hSW334 := hSW325.ext hb329
       refine WL.nil (WH.ret hSW334 (WH.on1 11 rfl ?_))
       obtain ⟨u335, hu335, hF⟩ := bindE hF
       refine wl_call rfl Tryz.call61 (C_spec_l1Cur__among__mut__box w328 (x0.1, u317.2.2.1, u317.2.2.2) b0 v0_0 (h0_0.rsto (hS331.sel [4, 0] rfl)) [0, 8, 16, 3] v293 (own_out (hS331.sel [2, 0] rfl)) (hS331.sel [0] rfl).base0 _ hu335) rfl ?_
       rintro _ w336 ⟨rfl, hE337, hM338⟩
       refine ⟨_, rfl, ?_⟩
       have hB339 := hS331.takeB [0] rfl (M := [R.blk b0 73 [v0_0, (.int .i64 u317.2.2.1), (.int .u64 u317.2.2.2)]]) rfl hB330 hE337 hM338
       have hS340 : Sep (wE w0).heap.size w336 [R.blk b0 73 [v0_0, (.int .i64 u335.2.2.1), (.int .u64 u335.2.2.2)], R.own ty_3 F306 v305 [0, 8, 16, 24, 5], R.own ty_3 F294 v293 [0, 8, 16, 3], R.blk b114 38 [(.int .i64 u110.1), (.int .i64 u110.2)], R.rest w0 (fps [R.blk b0 73 [v0_0, (.int .i64 x0.2.1), (.int .u64 x0.2.2)]]), R.own ty_38 F12 v11 l10, R.blk b39 38 [(.int .i64 u33.1.1), (.int .i64 u33.1.2)]] := hS331.take [0] [1, 2, 3, 4, 5, 6] rfl (M := [R.blk b0 73 [v0_0, (.int .i64 u317.2.2.1), (.int .u64 u317.2.2.2)]]) rfl hM338 hB330.size
       have hk341 := box_kept hM338
       have hpv342 := hpv333.keepS (fun b hb => hk341.2.1 b (((hS331.get (i := 5) rfl).2.1 b hb).2) (hS331.disj (i := 5) (j := 0) rfl rfl rfl b hb)) (fun _ h => h)
       have hSW343 := hSW334.wr' hk341.1 hk341.2.1 (hbs326)
       refine WL.nil (WH.ret hSW343 (WH.tk 12 rfl hP hSW343 (pr_add rfl rfl rfl (WH.on1 13 rfl ?_))))
       obtain ⟨u345, hu345, hF⟩ := bindE hF
       refine wl_call rfl Tryz.call64 (C_spec_l1Least w336 672 (w64 (u110.2 + u335.1)) _ hu345) rfl ?_
       rintro _ w346 ⟨rfl, hb347⟩
       refine ⟨_, rfl, ?_⟩
       have hB348 := hB339.trans (hb347.mono hB339.size)
       have hS349 := hS340.below hb347
       have hpv351 := hpv342.keepS (fun b hb => hb347.block b (((hS340.get (i := 5) rfl).2.1 b hb).2)) (fun _ h => h)
       have hSW352 := hSW343.ext hb347
       refine WL.nil (WH.ret hSW352 (WH.tk 14 rfl hP hSW352 (pr_build (zs := [(.int .i64 0), (.int .i64 0)]) (out := [(.int .i64 u327), (.int .i64 u345)]) (vs := [(.int .i64 u327), (.int .i64 u345)]) (css := [[(.int .i64 u327)], [(.int .i64 u345)]]) tf_38 pl_38 rfl rfl rfl rfl rfl (WH.on1 15 rfl (wl_store_blk (i := 6) (vs := [(.int .i64 u327), (.int .i64 u345)]) (cs' := [(.int .i64 u327), (.int .i64 u345)]) tf_38 rfl rfl rfl rfl hB348 hS349 rfl rfl ⟨rfl, rfl, trivial⟩ rfl ?_)))))
       intro w353 hk356 hB354 hS355
       have hpv357 := hpv351.keepS (fun b hb => hk356.2.1 b (((hS349.get (i := 5) rfl).2.1 b hb).2) (hS349.disj (i := 5) (j := 6) rfl rfl rfl b hb)) (fun _ h => h)
       have hSW358 := hSW352.wr' hk356.1 hk356.2.1 (fun _ _ h => List.mem_append_right _ h)
       refine WL.nil (WH.ret hSW358 (WH.done (by kernel_rfl) ?_))
       have hp112 := hpv357
       exact fun a ha => hJ57 (u335.2.2.1) (u335.2.2.2) (u327) (u345) _ hF hB354 (hS355.sel [4, 0, 5, 6] rfl) a (ha.sub ⟨rfl, rfl, rfl, rfl, rfl, trivial⟩)
     ·replace hF := ifN h102 hF
      refine W.skip ?_
      exact fun a ha => hJ57 (y97) (y98) (u33.1.1) (u33.1.2) _ hF hB95 (hS96.sel [0, 1, 2, 3] rfl) a (ha.sub ⟨rfl, rfl, rfl, rfl, rfl, trivial⟩)
    refine W.region (wl_move rfl rfl (wl_lenr (e := ty_38) (l := l10) Tryz.underlying51 rfl rfl (hS46.own_ro (i := 3) rfl) (wl_gtr rfl rfl rfl (wl_move rfl rfl ?_))))
    rcases bE (decide (0 < (List.length l10 : Int))) with h360 | h360
    ·replace hF := ifP h360 hF
     refine wl_on rfl rfl h360 (wl_move rfl rfl (wl_on rfl rfl h360 ?_))
     obtain ⟨u361, hu361, hF⟩ := bindE hF
     refine wl_call rfl Tryz.call62 (C_spec_l1Cur__one__mut__box w44 (x0.1, u33.2.2.1, u33.2.2.2) b0 v0_0 (h0_0.rsto (hS46.sel [2, 1] rfl)) 2 (hS46.sel [1] rfl).base0 _ hu361) rfl ?_
     rintro _ w362 ⟨rfl, hE363, hM364⟩
     refine ⟨_, rfl, ?_⟩
     have hB365 := hS46.takeB [1] rfl (M := [R.blk b0 73 [v0_0, (.int .i64 u33.2.2.1), (.int .u64 u33.2.2.2)]]) rfl hB45 hE363 hM364
     have hS366 : Sep (wE w0).heap.size w362 [R.blk b0 73 [v0_0, (.int .i64 u361.2.2.1), (.int .u64 u361.2.2.2)], R.blk b39 38 [(.int .i64 u33.1.1), (.int .i64 u33.1.2)], R.rest w0 (fps [R.blk b0 73 [v0_0, (.int .i64 x0.2.1), (.int .u64 x0.2.2)]]), R.own ty_38 F12 v11 l10] := hS46.take [1] [0, 2, 3] rfl (M := [R.blk b0 73 [v0_0, (.int .i64 u33.2.2.1), (.int .u64 u33.2.2.2)]]) rfl hM364 hB45.size
     refine wl_pick_t rfl rfl h360 rfl (WL.nil ?_)
     exact fun a ha => hJ101 (u361.2.2.1) (u361.2.2.2) (u361.1) _ hF hB365 (hS366.sel [2, 0, 3, 1] rfl) a (ha.sub ⟨rfl, rfl, rfl, rfl, rfl, rfl, trivial⟩)
    ·replace hF := ifN h360 hF
     refine wl_off rfl rfl rfl h360 (wl_off rfl rfl rfl h360 (wl_pick_f rfl rfl h360 rfl (WL.nil ?_)))
     exact fun a ha => hJ101 (u33.2.2.1) (u33.2.2.2) (false) _ hF hB45 (hS46.sel [2, 1, 3, 0] rfl) a (ha.sub ⟨rfl, rfl, rfl, rfl, rfl, rfl, trivial⟩)
   ·replace hF := ifN h20 hF
    refine W.exit fun a ha => hK3 _ _ (W.seq fun K367 hK367 => (W.region (wl_move rfl rfl (wl_assign rfl rfl (WL.nil (fun a ha => hK367 _ _ (W.ret ?_) a ha)))))) a ha
    have hr := Option.some.inj hF
    subst hr
    exact rets (vs := [v11]) hQ rfl ⟨rv_tmp rfl, trivial⟩ ⟨v11, F12, rfl, hB6, hS7.sel [0, 1, 2] rfl⟩
theorem C_spec_l1Cur__chart__mut__box (w0 : World) (x0 : ((List Int) × Int × Int)) (b0 : Nat) (v0_0 : Value) (h0_0 : rdS ty_5 (Out (fps [R.blk b0 73 [v0_0, (.int .i64 x0.2.1), (.int .u64 x0.2.2)]]) w0) w0 v0_0 x0.1) (hS0 : Sep 0 w0 [R.blk b0 73 [v0_0, (.int .i64 x0.2.1), (.int .u64 x0.2.2)]]) (r : ((List (Int × Int)) × ((List Int) × Int × Int))) (hF : F_spec_l1Cur__chart__mut__box x0 = some r) :
  Calls Tryz.prog 96 [(.pointer (some ⟨b0, 0, none⟩))].toArray w0 fun e w' => ∃ (q0 : Value) (G0 : List Nat), e = .returned q0 ∧ Below 0 (wE w0) w' ∧ Sep 0 w' [R.rest w0 (fps [R.blk b0 73 [v0_0, (.int .i64 x0.2.1), (.int .u64 x0.2.2)]]), R.blk b0 73 [v0_0, (.int .i64 r.2.2.1), (.int .u64 r.2.2.2)], R.own ty_38 G0 q0 r.1] := by
 refine calls_mk' Tryz.func96 rfl Tryz.ntmps96 rfl rfl fun Q hQ hP => ?_
 have hB : Below (wE w0).heap.size (wE w0) w0 := wE_below w0
 have hS : Sep (wE w0).heap.size w0 [R.rest w0 (fps [R.blk b0 73 [v0_0, (.int .i64 x0.2.1), (.int .u64 x0.2.2)]]), R.blk b0 73 [v0_0, (.int .i64 x0.2.1), (.int .u64 x0.2.2)]] := hS0.rest
 unfold F_spec_l1Cur__chart__mut__box at hF
 refine W.seq fun K1 hK1 => W.region (wl_assign rfl rfl (WL.nil (fun a ha => hK1 _ _ (W.seq fun K2 hK2 => (W.seq fun K3 hK3 => (W.region (wl_move rfl rfl ?_)))) a ha)))
 obtain ⟨u4, hu4, hF⟩ := bindE hF
 refine wl_call rfl Tryz.call62 (C_spec_l1Cur__one__mut__box w0 x0 b0 v0_0 (h0_0.rsto (hS.sel [0, 1] rfl)) 20 (hS.sel [1] rfl).base0 _ hu4) rfl ?_
 rintro _ w5 ⟨rfl, hE6, hM7⟩
 refine ⟨_, rfl, ?_⟩
 have hB8 := hS.takeB [1] rfl (M := [R.blk b0 73 [v0_0, (.int .i64 x0.2.1), (.int .u64 x0.2.2)]]) rfl hB hE6 hM7
 have hS9 : Sep (wE w0).heap.size w5 [R.blk b0 73 [v0_0, (.int .i64 u4.2.2.1), (.int .u64 u4.2.2.2)], R.rest w0 (fps [R.blk b0 73 [v0_0, (.int .i64 x0.2.1), (.int .u64 x0.2.2)]])] := hS.take [1] [0] rfl (M := [R.blk b0 73 [v0_0, (.int .i64 x0.2.1), (.int .u64 x0.2.2)]]) rfl hM7 hB.size
 refine WL.nil fun a ha => hK3 _ _ (W.cond rfl (fun h10 => ?_) (fun h10 => ?_)) a ha
 ·replace hF := ifP h10 hF
  refine W.seq fun K11 hK11 => W.region (wl_move rfl rfl ?_)
  obtain ⟨u12, hu12, hF⟩ := bindE hF
  refine wl_call rfl Tryz.call60 (C_spec_l1Cur__chartOf__mut__box w5 (x0.1, u4.2.2.1, u4.2.2.2) b0 v0_0 (h0_0.rsto (hS9.sel [1, 0] rfl)) 12 (hS9.sel [0] rfl).base0 _ hu12) rfl ?_
  rintro _ w13 ⟨v18, F19, rfl, hE14, hM15⟩
  refine ⟨_, rfl, ?_⟩
  have hB16 := hS9.takeB [0] rfl (M := [R.blk b0 73 [v0_0, (.int .i64 u4.2.2.1), (.int .u64 u4.2.2.2)]]) rfl hB8 hE14 hM15
  have hS17 : Sep (wE w0).heap.size w13 [R.blk b0 73 [v0_0, (.int .i64 u12.2.2.1), (.int .u64 u12.2.2.2)], R.own ty_38 F19 v18 u12.1, R.rest w0 (fps [R.blk b0 73 [v0_0, (.int .i64 x0.2.1), (.int .u64 x0.2.2)]])] := hS9.take [0] [1] rfl (M := [R.blk b0 73 [v0_0, (.int .i64 u4.2.2.1), (.int .u64 u4.2.2.2)]]) rfl hM15 hB8.size
  refine wl_assign rfl rfl (WL.nil (fun a ha => hK11 _ _ (W.ret ?_) a ha))
  have hr := Option.some.inj hF
  subst hr
  exact rets (vs := [v18]) hQ rfl ⟨rv_tmp rfl, trivial⟩ ⟨v18, F19, rfl, hB16, hS17.sel [2, 0, 1] rfl⟩
 ·replace hF := ifN h10 hF
  refine W.skip fun a ha => hK2 _ _ (W.seq fun K20 hK20 => (W.region (wl_move rfl rfl (wl_move rfl rfl ?_)))) a ha
  obtain ⟨u21, hu21, hF⟩ := bindE hF
  refine wl_call rfl Tryz.call59 (C_spec_l1Cur__pick__mut__box w5 (x0.1, u4.2.2.1, u4.2.2.2) b0 v0_0 (h0_0.rsto (hS9.sel [1, 0] rfl)) 6 (hS9.sel [0] rfl).base0 _ hu21) rfl ?_
  rintro _ w22 ⟨rfl, hE23, hM24⟩
  refine ⟨_, rfl, ?_⟩
  have hB25 := hS9.takeB [0] rfl (M := [R.blk b0 73 [v0_0, (.int .i64 u4.2.2.1), (.int .u64 u4.2.2.2)]]) rfl hB8 hE23 hM24
  have hS26 : Sep (wE w0).heap.size w22 [R.blk b0 73 [v0_0, (.int .i64 u21.2.2.1), (.int .u64 u21.2.2.2)], R.rest w0 (fps [R.blk b0 73 [v0_0, (.int .i64 x0.2.1), (.int .u64 x0.2.2)]])] := hS9.take [0] [1] rfl (M := [R.blk b0 73 [v0_0, (.int .i64 u4.2.2.1), (.int .u64 u4.2.2.2)]]) rfl hM24 hB8.size
  refine wl_add rfl rfl rfl ?_
  obtain ⟨u27, hu27, hF⟩ := bindE hF
  refine wl_call rfl Tryz.call60 (C_spec_l1Cur__chartOf__mut__box w22 (x0.1, u21.2.2.1, u21.2.2.2) b0 v0_0 (h0_0.rsto (hS26.sel [1, 0] rfl)) (w64 (1 + u21.1)) (hS26.sel [0] rfl).base0 _ hu27) rfl ?_
  rintro _ w28 ⟨v33, F34, rfl, hE29, hM30⟩
  refine ⟨_, rfl, ?_⟩
  have hB31 := hS26.takeB [0] rfl (M := [R.blk b0 73 [v0_0, (.int .i64 u21.2.2.1), (.int .u64 u21.2.2.2)]]) rfl hB25 hE29 hM30
  have hS32 : Sep (wE w0).heap.size w28 [R.blk b0 73 [v0_0, (.int .i64 u27.2.2.1), (.int .u64 u27.2.2.2)], R.own ty_38 F34 v33 u27.1, R.rest w0 (fps [R.blk b0 73 [v0_0, (.int .i64 x0.2.1), (.int .u64 x0.2.2)]])] := hS26.take [0] [1] rfl (M := [R.blk b0 73 [v0_0, (.int .i64 u21.2.2.1), (.int .u64 u21.2.2.2)]]) rfl hM30 hB25.size
  refine wl_assign rfl rfl (WL.nil (fun a ha => hK20 _ _ (W.ret ?_) a ha))
  have hr := Option.some.inj hF
  subst hr
  exact rets (vs := [v33]) hQ rfl ⟨rv_tmp rfl, trivial⟩ ⟨v33, F34, rfl, hB31, hS32.sel [2, 0, 1] rfl⟩
theorem C_spec_l1Cur__anySpot__mut__box (w0 : World) (x0 : ((List Int) × Int × Int)) (b0 : Nat) (v0_0 : Value) (h0_0 : rdS ty_5 (Out (fps [R.blk b0 73 [v0_0, (.int .i64 x0.2.1), (.int .u64 x0.2.2)]]) w0) w0 v0_0 x0.1) (hS0 : Sep 0 w0 [R.blk b0 73 [v0_0, (.int .i64 x0.2.1), (.int .u64 x0.2.2)]]) (r : ((Int × Int) × ((List Int) × Int × Int))) (hF : F_spec_l1Cur__anySpot__mut__box x0 = some r) :
  Calls Tryz.prog 97 [(.pointer (some ⟨b0, 0, none⟩))].toArray w0 fun e w' => e = .returned (.agg #[(.int .i64 r.1.1), (.int .i64 r.1.2)]) ∧ Below 0 (wE w0) w' ∧ Sep 0 w' [R.rest w0 (fps [R.blk b0 73 [v0_0, (.int .i64 x0.2.1), (.int .u64 x0.2.2)]]), R.blk b0 73 [v0_0, (.int .i64 r.2.2.1), (.int .u64 r.2.2.2)]] := by
 refine calls_mk' Tryz.func97 rfl Tryz.ntmps97 rfl rfl fun Q hQ hP => ?_
 have hB : Below (wE w0).heap.size (wE w0) w0 := wE_below w0
 have hS : Sep (wE w0).heap.size w0 [R.rest w0 (fps [R.blk b0 73 [v0_0, (.int .i64 x0.2.1), (.int .u64 x0.2.2)]]), R.blk b0 73 [v0_0, (.int .i64 x0.2.1), (.int .u64 x0.2.2)]] := hS0.rest
 unfold F_spec_l1Cur__anySpot__mut__box at hF
 refine W.seq fun K1 hK1 => W.region (wl_alloc (cs := [(.int .i64 0), (.int .i64 0)]) tf_38 rfl rfl hB hS ?_)
 intro b2 w3 hb4 hB5 hS6
 refine WL.nil fun a ha => hK1 _ _ (W.seq fun K7 hK7 => (W.region (wl_move rfl rfl ?_))) a ha
 obtain ⟨u8, hu8, hF⟩ := bindE hF
 refine wl_call rfl Tryz.call93 (C_spec_l1Cur__spot__mut__box w3 x0 b0 v0_0 (h0_0.rsto (hS6.sel [1, 2] rfl)) (hS6.sel [2] rfl).base0 _ hu8) rfl ?_
 rintro _ w9 ⟨rfl, hE10, hM11⟩
 refine ⟨_, rfl, ?_⟩
 have hB12 := hS6.takeB [2] rfl (M := [R.blk b0 73 [v0_0, (.int .i64 x0.2.1), (.int .u64 x0.2.2)]]) rfl hB5 hE10 hM11
 have hS13 : Sep (wE w0).heap.size w9 [R.blk b0 73 [v0_0, (.int .i64 u8.2.2.1), (.int .u64 u8.2.2.2)], R.blk b2 38 [(.int .i64 0), (.int .i64 0)], R.rest w0 (fps [R.blk b0 73 [v0_0, (.int .i64 x0.2.1), (.int .u64 x0.2.2)]])] := hS6.take [2] [0, 1] rfl (M := [R.blk b0 73 [v0_0, (.int .i64 x0.2.1), (.int .u64 x0.2.2)]]) rfl hM11 hB5.size
 refine wl_alloc (cs := [(.int .i64 0), (.int .i64 0)]) tf_38 rfl rfl hB12 hS13 ?_
 intro b14 w15 hb16 hB17 hS18
 refine wl_store_blk (i := 0) (vs := [(.int .i64 u8.1.1), (.int .i64 u8.1.2)]) (cs' := [(.int .i64 u8.1.1), (.int .i64 u8.1.2)]) tf_38 rfl rfl rfl rfl hB17 hS18 rfl rfl ⟨rfl, rfl, trivial⟩ rfl ?_
 intro w19 hk22 hB20 hS21
 refine WL.nil fun a ha => hK7 _ _ (W.seq fun K23 hK23 => ?_) a ha
 obtain ⟨k31, hk31, hF⟩ := jE4 hF
 have hJ32 : ∀ (y27 : Int) (y28 : Int) (y29 : Int) (y30 : Int) (w24 : World) (_ : k31 y27 y28 y29 y30 = some r) (_ : Below (wE w0).heap.size (wE w0) w24) (_ : Sep (wE w0).heap.size w24 [R.rest w0 (fps [R.blk b0 73 [v0_0, (.int .i64 x0.2.1), (.int .u64 x0.2.2)]]), R.blk b0 73 [v0_0, (.int .i64 y27), (.int .u64 y28)], R.blk b2 38 [(.int .i64 0), (.int .i64 0)], R.blk b14 38 [(.int .i64 y29), (.int .i64 y30)]]), ∀ a, St 21 [(2, (.pointer (some ⟨b2, 0, none⟩))), (3, (.pointer (some ⟨b14, 0, none⟩)))] a → K23 a w24 := by
  intro y27 y28 y29 y30 w24 hF hB25 hS26
  subst hk31
  refine fun a ha => hK23 _ _ (W.seq fun K33 hK33 => (W.region (wl_load_blk (i := 3) (vs := [(.int .i64 y29), (.int .i64 y30)]) (v := (.agg #[(.int .i64 y29), (.int .i64 y30)])) tf_38 rfl rfl hS26 rfl rfl rfl (wl_store_blk (i := 2) (vs := [(.int .i64 y29), (.int .i64 y30)]) (cs' := [(.int .i64 y29), (.int .i64 y30)]) tf_38 rfl rfl rfl rfl hB25 hS26 rfl rfl ⟨rfl, rfl, trivial⟩ rfl ?_)))) a ha
  intro w34 hk37 hB35 hS36
  refine WL.nil fun a ha => hK33 _ _ (W.ret ?_) a ha
  have hr := Option.some.inj hF
  subst hr
  exact rets (vs := [(.agg #[(.int .i64 y29), (.int .i64 y30)])]) hQ rfl ⟨rv_cell (i := 2) tf_38 rfl hS36 rfl rfl rfl, trivial⟩ ⟨rfl, hB35, hS36.sel [0, 1] rfl⟩
 refine W.seq fun K38 hK38 => W.region (wl_move rfl rfl ?_)
 obtain ⟨u39, hu39, hF⟩ := bindE hF
 refine wl_call rfl Tryz.call59 (C_spec_l1Cur__pick__mut__box w19 (x0.1, u8.2.2.1, u8.2.2.2) b0 v0_0 (h0_0.rsto (hS21.sel [3, 1] rfl)) 30 (hS21.sel [1] rfl).base0 _ hu39) rfl ?_
 rintro _ w40 ⟨rfl, hE41, hM42⟩
 refine ⟨_, rfl, ?_⟩
 have hB43 := hS21.takeB [1] rfl (M := [R.blk b0 73 [v0_0, (.int .i64 u8.2.2.1), (.int .u64 u8.2.2.2)]]) rfl hB20 hE41 hM42
 have hS44 : Sep (wE w0).heap.size w40 [R.blk b0 73 [v0_0, (.int .i64 u39.2.2.1), (.int .u64 u39.2.2.2)], R.blk b14 38 [(.int .i64 u8.1.1), (.int .i64 u8.1.2)], R.blk b2 38 [(.int .i64 0), (.int .i64 0)], R.rest w0 (fps [R.blk b0 73 [v0_0, (.int .i64 x0.2.1), (.int .u64 x0.2.2)]])] := hS21.take [1] [0, 2, 3] rfl (M := [R.blk b0 73 [v0_0, (.int .i64 u8.2.2.1), (.int .u64 u8.2.2.2)]]) rfl hM42 hB20.size
 refine WL.nil fun a ha => hK38 _ _ (W.block (W.seq fun K45 hK45 => (W.region (wl_eql rfl rfl rfl (wl_assign rfl rfl (WL.nil (fun a ha => hK45 _ _ (W.cond rfl (fun h46 => ?_) (fun h46 => ?_)) a ha))))))) a ha
 ·replace hF := ifP h46 hF
  refine W.region (wl_move rfl rfl (wl_lit (vs := [(.int .i64 (-1)), (.int .i64 1281)]) (l := [(-1), 1281]) fl_3 Tryz.underlying25 rfl rfl rfl rfl rfl rfl hB43 hS44 ?_))
  intro v47 F48 w49 hb50 hB51 hS52
  obtain ⟨u53, hu53, hF⟩ := bindE hF
  refine wl_call rfl Tryz.call61 (C_spec_l1Cur__among__mut__box w49 (x0.1, u39.2.2.1, u39.2.2.2) b0 v0_0 (h0_0.rsto (hS52.sel [4, 1] rfl)) [(-1), 1281] v47 (own_out (hS52.sel [0, 1] rfl)) (hS52.sel [1] rfl).base0 _ hu53) rfl ?_
  rintro _ w54 ⟨rfl, hE55, hM56⟩
  refine ⟨_, rfl, ?_⟩
  have hB57 := hS52.takeB [1] rfl (M := [R.blk b0 73 [v0_0, (.int .i64 u39.2.2.1), (.int .u64 u39.2.2.2)]]) rfl hB51 hE55 hM56
  have hS58 : Sep (wE w0).heap.size w54 [R.blk b0 73 [v0_0, (.int .i64 u53.2.2.1), (.int .u64 u53.2.2.2)], R.own ty_3 F48 v47 [(-1), 1281], R.blk b14 38 [(.int .i64 u8.1.1), (.int .i64 u8.1.2)], R.blk b2 38 [(.int .i64 0), (.int .i64 0)], R.rest w0 (fps [R.blk b0 73 [v0_0, (.int .i64 x0.2.1), (.int .u64 x0.2.2)]])] := hS52.take [1] [0, 2, 3, 4] rfl (M := [R.blk b0 73 [v0_0, (.int .i64 u39.2.2.1), (.int .u64 u39.2.2.2)]]) rfl hM56 hB51.size
  refine wl_field (o := 0) (off' := 0) ff_38_0 rfl rfl rfl (wl_store_blk (i := 2) (vs := [(.int .i64 u53.1)]) (cs' := [(.int .i64 u53.1), (.int .i64 u8.1.2)]) tf_3 rfl rfl rfl rfl hB57 hS58 rfl rfl ⟨rfl, trivial⟩ rfl ?_)
  intro w59 hk62 hB60 hS61
  refine WL.nil ?_
  exact fun a ha => hJ32 (u53.2.2.1) (u53.2.2.2) (u53.1) (u8.1.2) _ hF hB60 (hS61.sel [4, 0, 3, 2] rfl) a (ha.sub ⟨rfl, rfl, trivial⟩)
 ·replace hF := ifN h46 hF
  refine W.seq fun K63 hK63 => W.region (wl_eql rfl rfl rfl (wl_assign rfl rfl (WL.nil (fun a ha => hK63 _ _ (W.cond rfl (fun h64 => ?_) (fun h64 => ?_)) a ha))))
  ·replace hF := ifP h64 hF
   refine W.region (wl_move rfl rfl (wl_lit (vs := [(.int .i64 (-1)), (.int .i64 673)]) (l := [(-1), 673]) fl_3 Tryz.underlying25 rfl rfl rfl rfl rfl rfl hB43 hS44 ?_))
   intro v65 F66 w67 hb68 hB69 hS70
   obtain ⟨u71, hu71, hF⟩ := bindE hF
   refine wl_call rfl Tryz.call61 (C_spec_l1Cur__among__mut__box w67 (x0.1, u39.2.2.1, u39.2.2.2) b0 v0_0 (h0_0.rsto (hS70.sel [4, 1] rfl)) [(-1), 673] v65 (own_out (hS70.sel [0, 1] rfl)) (hS70.sel [1] rfl).base0 _ hu71) rfl ?_
   rintro _ w72 ⟨rfl, hE73, hM74⟩
   refine ⟨_, rfl, ?_⟩
   have hB75 := hS70.takeB [1] rfl (M := [R.blk b0 73 [v0_0, (.int .i64 u39.2.2.1), (.int .u64 u39.2.2.2)]]) rfl hB69 hE73 hM74
   have hS76 : Sep (wE w0).heap.size w72 [R.blk b0 73 [v0_0, (.int .i64 u71.2.2.1), (.int .u64 u71.2.2.2)], R.own ty_3 F66 v65 [(-1), 673], R.blk b14 38 [(.int .i64 u8.1.1), (.int .i64 u8.1.2)], R.blk b2 38 [(.int .i64 0), (.int .i64 0)], R.rest w0 (fps [R.blk b0 73 [v0_0, (.int .i64 x0.2.1), (.int .u64 x0.2.2)]])] := hS70.take [1] [0, 2, 3, 4] rfl (M := [R.blk b0 73 [v0_0, (.int .i64 u39.2.2.1), (.int .u64 u39.2.2.2)]]) rfl hM74 hB69.size
   refine wl_field (o := 1) (off' := 1) ff_38_1 rfl rfl rfl (wl_store_blk (i := 2) (vs := [(.int .i64 u71.1)]) (cs' := [(.int .i64 u8.1.1), (.int .i64 u71.1)]) tf_3 rfl rfl rfl rfl hB75 hS76 rfl rfl ⟨rfl, trivial⟩ rfl ?_)
   intro w77 hk80 hB78 hS79
   refine WL.nil ?_
   exact fun a ha => hJ32 (u71.2.2.1) (u71.2.2.2) (u8.1.1) (u71.1) _ hF hB78 (hS79.sel [4, 0, 3, 2] rfl) a (ha.sub ⟨rfl, rfl, trivial⟩)
  ·replace hF := ifN h64 hF
   refine W.skip ?_
   exact fun a ha => hJ32 (u39.2.2.1) (u39.2.2.2) (u8.1.1) (u8.1.2) _ hF hB43 (hS44.sel [3, 0, 2, 1] rfl) a (ha.sub ⟨rfl, rfl, trivial⟩)
theorem C_spec_l1Cur__anyChart__mut__box (w0 : World) (x0 : ((List Int) × Int × Int)) (b0 : Nat) (v0_0 : Value) (h0_0 : rdS ty_5 (Out (fps [R.blk b0 73 [v0_0, (.int .i64 x0.2.1), (.int .u64 x0.2.2)]]) w0) w0 v0_0 x0.1) (hS0 : Sep 0 w0 [R.blk b0 73 [v0_0, (.int .i64 x0.2.1), (.int .u64 x0.2.2)]]) (r : ((List (Int × Int)) × ((List Int) × Int × Int))) (hF : F_spec_l1Cur__anyChart__mut__box x0 = some r) :
  Calls Tryz.prog 66 [(.pointer (some ⟨b0, 0, none⟩))].toArray w0 fun e w' => ∃ (q0 : Value) (G0 : List Nat), e = .returned q0 ∧ Below 0 (wE w0) w' ∧ Sep 0 w' [R.rest w0 (fps [R.blk b0 73 [v0_0, (.int .i64 x0.2.1), (.int .u64 x0.2.2)]]), R.blk b0 73 [v0_0, (.int .i64 r.2.2.1), (.int .u64 r.2.2.2)], R.own ty_38 G0 q0 r.1] := by
 refine calls_mk' Tryz.func66 rfl Tryz.ntmps66 rfl rfl fun Q hQ hP => ?_
 have hB : Below (wE w0).heap.size (wE w0) w0 := wE_below w0
 have hS : Sep (wE w0).heap.size w0 [R.rest w0 (fps [R.blk b0 73 [v0_0, (.int .i64 x0.2.1), (.int .u64 x0.2.2)]]), R.blk b0 73 [v0_0, (.int .i64 x0.2.1), (.int .u64 x0.2.2)]] := hS0.rest
 unfold F_spec_l1Cur__anyChart__mut__box at hF
 refine W.seq fun K1 hK1 => W.region (wl_assign rfl rfl (WL.nil (fun a ha => hK1 _ _ (W.seq fun K2 hK2 => (W.region (wl_move rfl rfl ?_))) a ha)))
 obtain ⟨u3, hu3, hF⟩ := bindE hF
 refine wl_call rfl Tryz.call96 (C_spec_l1Cur__chart__mut__box w0 x0 b0 v0_0 (h0_0.rsto (hS.sel [0, 1] rfl)) (hS.sel [1] rfl).base0 _ hu3) rfl ?_
 rintro _ w4 ⟨v9, F10, rfl, hE5, hM6⟩
 refine ⟨_, rfl, ?_⟩
 have hB7 := hS.takeB [1] rfl (M := [R.blk b0 73 [v0_0, (.int .i64 x0.2.1), (.int .u64 x0.2.2)]]) rfl hB hE5 hM6
 have hS8 : Sep (wE w0).heap.size w4 [R.blk b0 73 [v0_0, (.int .i64 u3.2.2.1), (.int .u64 u3.2.2.2)], R.own ty_38 F10 v9 u3.1, R.rest w0 (fps [R.blk b0 73 [v0_0, (.int .i64 x0.2.1), (.int .u64 x0.2.2)]])] := hS.take [1] [0] rfl (M := [R.blk b0 73 [v0_0, (.int .i64 x0.2.1), (.int .u64 x0.2.2)]]) rfl hM6 hB.size
 refine wl_assign rfl rfl (WL.nil (fun a ha => hK2 _ _ (W.seq fun K11 hK11 => (W.region (wl_move rfl rfl (wl_move rfl rfl (wl_lenr (e := ty_38) (l := u3.1) Tryz.underlying51 rfl rfl (hS8.own_ro (i := 1) rfl) ?_))))) a ha))
 obtain ⟨u12, hu12, hF⟩ := bindE hF
 refine wl_call rfl Tryz.call59 (C_spec_l1Cur__pick__mut__box w4 (x0.1, u3.2.2.1, u3.2.2.2) b0 v0_0 (h0_0.rsto (hS8.sel [2, 0] rfl)) (List.length u3.1 : Int) (hS8.sel [0] rfl).base0 _ hu12) rfl ?_
 rintro _ w13 ⟨rfl, hE14, hM15⟩
 refine ⟨_, rfl, ?_⟩
 have hB16 := hS8.takeB [0] rfl (M := [R.blk b0 73 [v0_0, (.int .i64 u3.2.2.1), (.int .u64 u3.2.2.2)]]) rfl hB7 hE14 hM15
 have hS17 : Sep (wE w0).heap.size w13 [R.blk b0 73 [v0_0, (.int .i64 u12.2.2.1), (.int .u64 u12.2.2.2)], R.own ty_38 F10 v9 u3.1, R.rest w0 (fps [R.blk b0 73 [v0_0, (.int .i64 x0.2.1), (.int .u64 x0.2.2)]])] := hS8.take [0] [1, 2] rfl (M := [R.blk b0 73 [v0_0, (.int .i64 u3.2.2.1), (.int .u64 u3.2.2.2)]]) rfl hM15 hB7.size
 refine wl_assign rfl rfl (WL.nil (fun a ha => hK11 _ _ (W.seq fun K18 hK18 => ?_) a ha))
 obtain ⟨k27, hk27, hF⟩ := jE3 hF
 have hJ28 : ∀ (y22 : Int) (y23 : Int) (l24 : (List (Int × Int))) (v25 : Value) (F26 : List Nat) (w19 : World) (_ : k27 y22 y23 l24 = some r) (_ : Below (wE w0).heap.size (wE w0) w19) (_ : Sep (wE w0).heap.size w19 [R.rest w0 (fps [R.blk b0 73 [v0_0, (.int .i64 x0.2.1), (.int .u64 x0.2.2)]]), R.blk b0 73 [v0_0, (.int .i64 y22), (.int .u64 y23)], R.own ty_38 F26 v25 l24]), ∀ a, St 35 [(3, v25)] a → K18 a w19 := by
  intro y22 y23 l24 v25 F26 w19 hF hB20 hS21
  subst hk27
  refine fun a ha => hK18 _ _ (W.seq fun K29 hK29 => (W.region (wl_move rfl rfl (wl_assign rfl rfl (WL.nil (fun a ha => hK29 _ _ (W.ret ?_) a ha)))))) a ha
  have hr := Option.some.inj hF
  subst hr
  exact rets (vs := [v25]) hQ rfl ⟨rv_tmp rfl, trivial⟩ ⟨v25, F26, rfl, hB20, hS21.sel [0, 1, 2] rfl⟩
 refine W.seq fun K30 hK30 => W.region (wl_move rfl rfl ?_)
 obtain ⟨u31, hu31, hF⟩ := bindE hF
 refine wl_call rfl Tryz.call59 (C_spec_l1Cur__pick__mut__box w13 (x0.1, u12.2.2.1, u12.2.2.2) b0 v0_0 (h0_0.rsto (hS17.sel [2, 0] rfl)) 30 (hS17.sel [0] rfl).base0 _ hu31) rfl ?_
 rintro _ w32 ⟨rfl, hE33, hM34⟩
 refine ⟨_, rfl, ?_⟩
 have hB35 := hS17.takeB [0] rfl (M := [R.blk b0 73 [v0_0, (.int .i64 u12.2.2.1), (.int .u64 u12.2.2.2)]]) rfl hB16 hE33 hM34
 have hS36 : Sep (wE w0).heap.size w32 [R.blk b0 73 [v0_0, (.int .i64 u31.2.2.1), (.int .u64 u31.2.2.2)], R.own ty_38 F10 v9 u3.1, R.rest w0 (fps [R.blk b0 73 [v0_0, (.int .i64 x0.2.1), (.int .u64 x0.2.2)]])] := hS17.take [0] [1, 2] rfl (M := [R.blk b0 73 [v0_0, (.int .i64 u12.2.2.1), (.int .u64 u12.2.2.2)]]) rfl hM34 hB16.size
 refine WL.nil fun a ha => hK30 _ _ (W.block (W.seq fun K37 hK37 => (W.region (wl_eql rfl rfl rfl (wl_assign rfl rfl (WL.nil (fun a ha => hK37 _ _ (W.cond rfl (fun h38 => ?_) (fun h38 => ?_)) a ha))))))) a ha
 ·replace hF := ifP h38 hF
  refine W.region (wl_move rfl rfl (wl_move rfl rfl (wl_move rfl rfl ?_)))
  obtain ⟨u39, hu39, hF⟩ := bindE hF
  refine wl_call rfl Tryz.call97 (C_spec_l1Cur__anySpot__mut__box w32 (x0.1, u31.2.2.1, u31.2.2.2) b0 v0_0 (h0_0.rsto (hS36.sel [2, 0] rfl)) (hS36.sel [0] rfl).base0 _ hu39) rfl ?_
  rintro _ w40 ⟨rfl, hE41, hM42⟩
  refine ⟨_, rfl, ?_⟩
  have hB43 := hS36.takeB [0] rfl (M := [R.blk b0 73 [v0_0, (.int .i64 u31.2.2.1), (.int .u64 u31.2.2.2)]]) rfl hB35 hE41 hM42
  have hS44 : Sep (wE w0).heap.size w40 [R.blk b0 73 [v0_0, (.int .i64 u39.2.2.1), (.int .u64 u39.2.2.2)], R.own ty_38 F10 v9 u3.1, R.rest w0 (fps [R.blk b0 73 [v0_0, (.int .i64 x0.2.1), (.int .u64 x0.2.2)]])] := hS36.take [0] [1, 2] rfl (M := [R.blk b0 73 [v0_0, (.int .i64 u31.2.2.1), (.int .u64 u31.2.2.2)]]) rfl hM42 hB35.size
  obtain ⟨u45, hu45, hF⟩ := bindE hF
  refine wl_indexoF (e := ty_38) (i := 1) Tryz.underlying51 rfl rfl rfl hS44 rfl hu45 ?_
  rintro p46 _ rfl hp47 ho48
  refine wl_storeo (i := 1) (o := 0) (vs := [(.int .i64 u39.1.1), (.int .i64 u39.1.2)]) (u' := u39.1) fl_38 tf_38 rfl rfl rfl rfl ho48 hu45 hB43 hS44 rfl rfl ⟨rfl, rfl, trivial⟩ rfl ?_
  intro w49 hk52 hB50 hS51
  refine WL.nil ?_
  exact fun a ha => hJ28 (u39.2.2.1) (u39.2.2.2) ((seti u3.1 u12.1 u39.1)) (v9) (F10) _ hF hB50 (hS51.sel [2, 0, 1] rfl) a (ha.sub ⟨rfl, trivial⟩)
 ·replace hF := ifN h38 hF
  refine W.seq fun K53 hK53 => W.region (wl_eql rfl rfl rfl (wl_assign rfl rfl (WL.nil (fun a ha => hK53 _ _ (W.cond rfl (fun h54 => ?_) (fun h54 => ?_)) a ha))))
  ·replace hF := ifP h54 hF
   refine W.region (wl_move rfl rfl (wl_move rfl rfl (wl_move rfl rfl ?_)))
   obtain ⟨u55, hu55, hF⟩ := bindE hF
   refine wl_indexoF (e := ty_38) (i := 1) Tryz.underlying51 rfl rfl rfl hS36 rfl hu55 ?_
   rintro p56 _ rfl hp57 ho58
   refine wl_load_p (vs := [(.int .i64 u55.1), (.int .i64 u55.2)]) (v := (.agg #[(.int .i64 u55.1), (.int .i64 u55.2)])) tf_38 rfl rfl hp57 rfl rfl ?_
   obtain ⟨u59, hu59, hF⟩ := bindE hF
   refine wl_indexoF (e := ty_38) (i := 1) Tryz.underlying51 rfl rfl rfl hS36 rfl hu59 ?_
   rintro p60 _ rfl hp61 ho62
   refine wl_storeo (i := 1) (o := 0) (vs := [(.int .i64 u55.1), (.int .i64 u55.2)]) (u' := u55) fl_38 tf_38 rfl rfl rfl rfl ho62 hu59 hB35 hS36 rfl rfl ⟨rfl, rfl, trivial⟩ rfl ?_
   intro w63 hk66 hB64 hS65
   refine WL.nil ?_
   exact fun a ha => hJ28 (u31.2.2.1) (u31.2.2.2) ((seti u3.1 u12.1 u55)) (v9) (F10) _ hF hB64 (hS65.sel [2, 0, 1] rfl) a (ha.sub ⟨rfl, trivial⟩)
  ·replace hF := ifN h54 hF
   refine W.seq fun K67 hK67 => W.region (wl_eql rfl rfl rfl (wl_assign rfl rfl (WL.nil (fun a ha => hK67 _ _ (W.cond rfl (fun h68 => ?_) (fun h68 => ?_)) a ha))))
   ·replace hF := ifP h68 hF
    refine W.seq fun K69 hK69 => W.region (wl_assign rfl rfl (WL.nil (fun a ha => hK69 _ _ (W.ret ?_) a ha)))
    have hS70 := hS36.push0 (r := R.own ty_38 [] (.slice none 0 0) []) rfl fun _ => .inl ⟨rfl, rfl, rfl⟩
    have hr := Option.some.inj hF
    subst hr
    exact rets (vs := [(.slice none 0 0)]) hQ rfl ⟨rv_tmp rfl, trivial⟩ ⟨(.slice none 0 0), [], rfl, hB35, hS70.sel [3, 1, 0] rfl⟩
   ·replace hF := ifN h68 hF
    refine W.seq fun K71 hK71 => W.region (wl_eql rfl rfl rfl (wl_assign rfl rfl (WL.nil (fun a ha => hK71 _ _ (W.cond rfl (fun h72 => ?_) (fun h72 => ?_)) a ha))))
    ·replace hF := ifP h72 hF
     refine W.seq fun K73 hK73 => W.region (wl_move rfl rfl ?_)
     obtain ⟨u74, hu74, hF⟩ := bindE hF
     refine wl_call rfl Tryz.call60 (C_spec_l1Cur__chartOf__mut__box w32 (x0.1, u31.2.2.1, u31.2.2.2) b0 v0_0 (h0_0.rsto (hS36.sel [2, 0] rfl)) 13 (hS36.sel [0] rfl).base0 _ hu74) rfl ?_
     rintro _ w75 ⟨v80, F81, rfl, hE76, hM77⟩
     refine ⟨_, rfl, ?_⟩
     have hB78 := hS36.takeB [0] rfl (M := [R.blk b0 73 [v0_0, (.int .i64 u31.2.2.1), (.int .u64 u31.2.2.2)]]) rfl hB35 hE76 hM77
     have hS79 : Sep (wE w0).heap.size w75 [R.blk b0 73 [v0_0, (.int .i64 u74.2.2.1), (.int .u64 u74.2.2.2)], R.own ty_38 F81 v80 u74.1, R.own ty_38 F10 v9 u3.1, R.rest w0 (fps [R.blk b0 73 [v0_0, (.int .i64 x0.2.1), (.int .u64 x0.2.2)]])] := hS36.take [0] [1, 2] rfl (M := [R.blk b0 73 [v0_0, (.int .i64 u31.2.2.1), (.int .u64 u31.2.2.2)]]) rfl hM77 hB35.size
     refine wl_assign rfl rfl (WL.nil (fun a ha => hK73 _ _ (W.ret ?_) a ha))
     have hr := Option.some.inj hF
     subst hr
     exact rets (vs := [v80]) hQ rfl ⟨rv_tmp rfl, trivial⟩ ⟨v80, F81, rfl, hB78, hS79.sel [3, 0, 1] rfl⟩
    ·replace hF := ifN h72 hF
     refine W.skip ?_
     exact fun a ha => hJ28 (u31.2.2.1) (u31.2.2.2) (u3.1) (v9) (F10) _ hF hB35 (hS36.sel [2, 0, 1] rfl) a (ha.sub ⟨rfl, trivial⟩)
theorem C_spec_l1Cur__show__mut__box (w0 : World) (x0 : ((List Int) × Int × Int)) (b0 : Nat) (v0_0 : Value) (h0_0 : rdS ty_5 (Out (fps [R.blk b0 73 [v0_0, (.int .i64 x0.2.1), (.int .u64 x0.2.2)]]) w0) w0 v0_0 x0.1) (hS0 : Sep 0 w0 [R.blk b0 73 [v0_0, (.int .i64 x0.2.1), (.int .u64 x0.2.2)]]) (r : (((List (List (Int × Int))) × (List Int) × Int × Int) × ((List Int) × Int × Int))) (hF : F_spec_l1Cur__show__mut__box x0 = some r) :
  Calls Tryz.prog 26 [(.pointer (some ⟨b0, 0, none⟩))].toArray w0 fun e w' => ∃ (q0 : Value) (G0 : List Nat) (q1 : Value) (G1 : List Nat), e = .returned (.agg #[q0, q1, (.int .i64 r.1.2.2.1), (.int .i64 r.1.2.2.2)]) ∧ Below 0 (wE w0) w' ∧ Sep 0 w' [R.rest w0 (fps [R.blk b0 73 [v0_0, (.int .i64 x0.2.1), (.int .u64 x0.2.2)]]), R.blk b0 73 [v0_0, (.int .i64 r.2.2.1), (.int .u64 r.2.2.2)], R.own ty_51 G0 q0 r.1.1, R.own ty_3 G1 q1 r.1.2.1] := by
 refine calls_mk' Tryz.func26 rfl Tryz.ntmps26 rfl rfl fun Q hQ hP => ?_
 have hB : Below (wE w0).heap.size (wE w0) w0 := wE_below w0
 have hS : Sep (wE w0).heap.size w0 [R.rest w0 (fps [R.blk b0 73 [v0_0, (.int .i64 x0.2.1), (.int .u64 x0.2.2)]]), R.blk b0 73 [v0_0, (.int .i64 x0.2.1), (.int .u64 x0.2.2)]] := hS0.rest
 unfold F_spec_l1Cur__show__mut__box at hF
 refine W.seq fun K1 hK1 => W.region (wl_alloc (cs := [(.slice none 0 0), (.slice none 0 0), (.int .i64 0), (.int .i64 0)]) tf_27 rfl rfl hB hS ?_)
 intro b2 w3 hb4 hB5 hS6
 refine WL.nil fun a ha => hK1 _ _ (W.seq fun K7 hK7 => (W.region (wl_move rfl rfl ?_))) a ha
 obtain ⟨u8, hu8, hF⟩ := bindE hF
 refine wl_call rfl Tryz.call59 (C_spec_l1Cur__pick__mut__box w3 x0 b0 v0_0 (h0_0.rsto (hS6.sel [1, 2] rfl)) 4 (hS6.sel [2] rfl).base0 _ hu8) rfl ?_
 rintro _ w9 ⟨rfl, hE10, hM11⟩
 refine ⟨_, rfl, ?_⟩
 have hB12 := hS6.takeB [2] rfl (M := [R.blk b0 73 [v0_0, (.int .i64 x0.2.1), (.int .u64 x0.2.2)]]) rfl hB5 hE10 hM11
 have hS13 : Sep (wE w0).heap.size w9 [R.blk b0 73 [v0_0, (.int .i64 u8.2.2.1), (.int .u64 u8.2.2.2)], R.blk b2 27 [(.slice none 0 0), (.slice none 0 0), (.int .i64 0), (.int .i64 0)], R.rest w0 (fps [R.blk b0 73 [v0_0, (.int .i64 x0.2.1), (.int .u64 x0.2.2)]])] := hS6.take [2] [0, 1] rfl (M := [R.blk b0 73 [v0_0, (.int .i64 x0.2.1), (.int .u64 x0.2.2)]]) rfl hM11 hB5.size
 refine wl_add rfl rfl rfl (wl_assign rfl rfl (WL.nil (fun a ha => hK7 _ _ (W.seq fun K14 hK14 => (W.region (wl_move rfl rfl (wl_move rfl rfl ?_)))) a ha)))
 obtain ⟨u15, hu15, hF⟩ := bindE hF
 refine wl_call rfl Tryz.call60 (C_spec_l1Cur__chartOf__mut__box w9 (x0.1, u8.2.2.1, u8.2.2.2) b0 v0_0 (h0_0.rsto (hS13.sel [2, 0] rfl)) (w64 (1 + u8.1)) (hS13.sel [0] rfl).base0 _ hu15) rfl ?_
 rintro _ w16 ⟨v21, F22, rfl, hE17, hM18⟩
 refine ⟨_, rfl, ?_⟩
 have hB19 := hS13.takeB [0] rfl (M := [R.blk b0 73 [v0_0, (.int .i64 u8.2.2.1), (.int .u64 u8.2.2.2)]]) rfl hB12 hE17 hM18
 have hS20 : Sep (wE w0).heap.size w16 [R.blk b0 73 [v0_0, (.int .i64 u15.2.2.1), (.int .u64 u15.2.2.2)], R.own ty_38 F22 v21 u15.1, R.blk b2 27 [(.slice none 0 0), (.slice none 0 0), (.int .i64 0), (.int .i64 0)], R.rest w0 (fps [R.blk b0 73 [v0_0, (.int .i64 x0.2.1), (.int .u64 x0.2.2)]])] := hS13.take [0] [1, 2] rfl (M := [R.blk b0 73 [v0_0, (.int .i64 u8.2.2.1), (.int .u64 u8.2.2.2)]]) rfl hM18 hB12.size
 have hq23 := hS20.sel [1, 0, 2, 3] rfl
 have hq24 := hq23.head (r' := R.cel ty_51 F22 [v21] u15.1) (rfl) fun _ h0 => ⟨_, rfl, h0⟩
 refine wl_lit1 (e := ty_51) (vs := [v21]) Tryz.underlying24 rfl rfl (cells_one (hS20.own_ro (i := 1) rfl).one) rfl hB19 hq24 ?_
 intro v25 F26 w27 hb28 hf29 hB30 hS31
 refine wl_move rfl rfl (wl_lit (vs := [(.int .i64 0), (.int .i64 1), (.int .i64 8), (.int .i64 8), (.int .i64 16)]) (l := [0, 1, 8, 8, 16]) fl_3 Tryz.underlying25 rfl rfl rfl rfl rfl rfl hB30 hS31 ?_)
 intro v32 F33 w34 hb35 hB36 hS37
 obtain ⟨u38, hu38, hF⟩ := bindE hF
 refine wl_call rfl Tryz.call61 (C_spec_l1Cur__among__mut__box w34 (x0.1, u15.2.2.1, u15.2.2.2) b0 v0_0 (h0_0.rsto (hS37.sel [4, 2] rfl)) [0, 1, 8, 8, 16] v32 (own_out (hS37.sel [0, 2] rfl)) (hS37.sel [2] rfl).base0 _ hu38) rfl ?_
 rintro _ w39 ⟨rfl, hE40, hM41⟩
 refine ⟨_, rfl, ?_⟩
 have hB42 := hS37.takeB [2] rfl (M := [R.blk b0 73 [v0_0, (.int .i64 u15.2.2.1), (.int .u64 u15.2.2.2)]]) rfl hB36 hE40 hM41
 have hS43 : Sep (wE w0).heap.size w39 [R.blk b0 73 [v0_0, (.int .i64 u38.2.2.1), (.int .u64 u38.2.2.2)], R.own ty_3 F33 v32 [0, 1, 8, 8, 16], R.own ty_51 F26 v25 [u15.1], R.blk b2 27 [(.slice none 0 0), (.slice none 0 0), (.int .i64 0), (.int .i64 0)], R.rest w0 (fps [R.blk b0 73 [v0_0, (.int .i64 x0.2.1), (.int .u64 x0.2.2)]])] := hS37.take [2] [0, 1, 3, 4] rfl (M := [R.blk b0 73 [v0_0, (.int .i64 u15.2.2.1), (.int .u64 u15.2.2.2)]]) rfl hM41 hB36.size
 refine wl_move rfl rfl (wl_lit (vs := [(.int .i64 8), (.int .i64 12), (.int .i64 24), (.int .i64 24)]) (l := [8, 12, 24, 24]) fl_3 Tryz.underlying25 rfl rfl rfl rfl rfl rfl hB42 hS43 ?_)
 intro v44 F45 w46 hb47 hB48 hS49
 obtain ⟨u50, hu50, hF⟩ := bindE hF
 refine wl_call rfl Tryz.call61 (C_spec_l1Cur__among__mut__box w46 (x0.1, u38.2.2.1, u38.2.2.2) b0 v0_0 (h0_0.rsto (hS49.sel [5, 1] rfl)) [8, 12, 24, 24] v44 (own_out (hS49.sel [0, 1] rfl)) (hS49.sel [1] rfl).base0 _ hu50) rfl ?_
 rintro _ w51 ⟨rfl, hE52, hM53⟩
 refine ⟨_, rfl, ?_⟩
 have hB54 := hS49.takeB [1] rfl (M := [R.blk b0 73 [v0_0, (.int .i64 u38.2.2.1), (.int .u64 u38.2.2.2)]]) rfl hB48 hE52 hM53
 have hS55 : Sep (wE w0).heap.size w51 [R.blk b0 73 [v0_0, (.int .i64 u50.2.2.1), (.int .u64 u50.2.2.2)], R.own ty_3 F45 v44 [8, 12, 24, 24], R.own ty_3 F33 v32 [0, 1, 8, 8, 16], R.own ty_51 F26 v25 [u15.1], R.blk b2 27 [(.slice none 0 0), (.slice none 0 0), (.int .i64 0), (.int .i64 0)], R.rest w0 (fps [R.blk b0 73 [v0_0, (.int .i64 x0.2.1), (.int .u64 x0.2.2)]])] := hS49.take [1] [0, 2, 3, 4, 5] rfl (M := [R.blk b0 73 [v0_0, (.int .i64 u38.2.2.1), (.int .u64 u38.2.2.2)]]) rfl hM53 hB48.size
 refine wl_build (zs := [(.slice none 0 0), (.slice none 0 0), (.int .i64 0), (.int .i64 0)]) (out := [v25, (.slice none 0 0), (.int .i64 u38.1), (.int .i64 u50.1)]) (vs := [v25, (.int .i64 u38.1), (.int .i64 u50.1)]) (css := [[v25], [(.int .i64 u38.1)], [(.int .i64 u50.1)]]) tf_27 pl_27 rfl rfl (by simp only [List.map_cons, List.map_nil, cells_one ((hS55.own_ro (i := 3) rfl).one)] <;> rfl) rfl rfl (wl_alloc (cs := [(.slice none 0 0), (.slice none 0 0), (.int .i64 0), (.int .i64 0)]) tf_27 rfl rfl hB54 hS55 ?_)
 intro b56 w57 hb58 hB59 hS60
 refine wl_store_blk (i := 0) (vs := [v25, (.slice none 0 0), (.int .i64 u38.1), (.int .i64 u50.1)]) (cs' := [v25, (.slice none 0 0), (.int .i64 u38.1), (.int .i64 u50.1)]) tf_27 rfl rfl rfl rfl hB59 hS60 rfl rfl ⟨(hS60.own_ro (i := 4) rfl).one, rfl, rfl, rfl, trivial⟩ rfl ?_
 intro w61 hk64 hB62 hS63
 refine WL.nil fun a ha => hK14 _ _ (W.seq fun K65 hK65 => (W.region (wl_move rfl rfl ?_))) a ha
 obtain ⟨u66, hu66, hF⟩ := bindE hF
 refine wl_call rfl Tryz.call59 (C_spec_l1Cur__pick__mut__box w61 (x0.1, u50.2.2.1, u50.2.2.2) b0 v0_0 (h0_0.rsto (hS63.sel [6, 1] rfl)) 3 (hS63.sel [1] rfl).base0 _ hu66) rfl ?_
 rintro _ w67 ⟨rfl, hE68, hM69⟩
 refine ⟨_, rfl, ?_⟩
 have hB70 := hS63.takeB [1] rfl (M := [R.blk b0 73 [v0_0, (.int .i64 u50.2.2.1), (.int .u64 u50.2.2.2)]]) rfl hB62 hE68 hM69
 have hS71 : Sep (wE w0).heap.size w67 [R.blk b0 73 [v0_0, (.int .i64 u66.2.2.1), (.int .u64 u66.2.2.2)], R.blk b56 27 [v25, (.slice none 0 0), (.int .i64 u38.1), (.int .i64 u50.1)], R.own ty_3 F45 v44 [8, 12, 24, 24], R.own ty_3 F33 v32 [0, 1, 8, 8, 16], R.own ty_51 F26 v25 [u15.1], R.blk b2 27 [(.slice none 0 0), (.slice none 0 0), (.int .i64 0), (.int .i64 0)], R.rest w0 (fps [R.blk b0 73 [v0_0, (.int .i64 x0.2.1), (.int .u64 x0.2.2)]])] := hS63.take [1] [0, 2, 3, 4, 5, 6] rfl (M := [R.blk b0 73 [v0_0, (.int .i64 u50.2.2.1), (.int .u64 u50.2.2.2)]]) rfl hM69 hB62.size
 refine wl_add rfl rfl rfl (wl_assign rfl rfl (WL.nil (fun a ha => hK65 _ _ (W.seq fun K72 hK72 => ?_) a ha)))
 obtain ⟨k79, hk79, hF⟩ := jE3 hF
 have hJ80 : ∀ (y76 : Int) (y77 : Int) (y78 : Int) (w73 : World) (_ : k79 y76 y77 y78 = some r) (_ : Below (wE w0).heap.size (wE w0) w73) (_ : Sep (wE w0).heap.size w73 [R.rest w0 (fps [R.blk b0 73 [v0_0, (.int .i64 x0.2.1), (.int .u64 x0.2.2)]]), R.blk b0 73 [v0_0, (.int .i64 y76), (.int .u64 y77)], R.blk b2 27 [(.slice none 0 0), (.slice none 0 0), (.int .i64 0), (.int .i64 0)], R.own ty_51 F26 v25 [u15.1], R.blk b56 27 [v25, (.slice none 0 0), (.int .i64 u38.1), (.int .i64 u50.1)]]), ∀ a, St 139 [(0, (.pointer (some ⟨b0, 0, none⟩))), (2, (.pointer (some ⟨b2, 0, none⟩))), (3, (.int .i64 (w64 (1 + u8.1)))), (4, (.pointer (some ⟨b56, 0, none⟩))), (5, (.int .i64 y78))] a → K72 a w73 := by
  intro y76 y77 y78 w73 hF hB74 hS75
  subst hk79
  refine fun a ha => hK72 _ _ (W.seq fun K81 hK81 => (W.block (W.loopk (fun m a w82 => ∃ (y85 : Int) (y86 : Int) (l87 : (List (List (Int × Int)))) (l90 : (List Int)) (v88 : Value) (F89 : List Nat) (v91 : Value) (F92 : List Nat), St 139 [(0, (.pointer (some ⟨b0, 0, none⟩))), (2, (.pointer (some ⟨b2, 0, none⟩))), (3, (.int .i64 (w64 (1 + u8.1)))), (4, (.pointer (some ⟨b56, 0, none⟩))), (5, (.int .i64 y78))] a ∧ Below (wE w0).heap.size (wE w0) w82 ∧ Sep (wE w0).heap.size w82 [R.rest w0 (fps [R.blk b0 73 [v0_0, (.int .i64 x0.2.1), (.int .u64 x0.2.2)]]), R.blk b0 73 [v0_0, (.int .i64 y85), (.int .u64 y86)], R.blk b2 27 [(.slice none 0 0), (.slice none 0 0), (.int .i64 0), (.int .i64 0)], R.own ty_51 F89 v88 l87, R.own ty_3 F92 v91 l90, R.blk b56 27 [v88, v91, (.int .i64 u38.1), (.int .i64 u50.1)]] ∧ F_spec_l1Cur__show__mut__box_L1 y78 x0 u8 u50 u38 m y85 y86 l87 l90 = some r) FU ?_ ?_))) a ha
  ·
   have hS94 := hS75.push0 (r := R.own ty_3 [] (.slice none 0 0) []) rfl fun _ => .inl ⟨rfl, rfl, rfl⟩
   exact fun a ha => ⟨y76, y77, [u15.1], [], v25, F26, (.slice none 0 0), [], ha.sub ⟨rfl, rfl, rfl, rfl, rfl, trivial⟩, hB74, (hS94.sel [1, 2, 3, 4, 0, 5] rfl), hF⟩
  ·
   rintro m96 a w82 ⟨y85, y86, l87, l90, v88, F89, v91, F92, ha, hB83, hS84, hF⟩ KL95 hKL95
   refine W.at ?_ ha
   cases m96 with
   | zero => exact noneE hF
   | succ m96 =>
    obtain ⟨nx93, hnx93⟩ : ∃ k, k = F_spec_l1Cur__show__mut__box_L1 y78 x0 u8 u50 u38 m96 := ⟨_, rfl⟩
    rw [F_spec_l1Cur__show__mut__box_L1, ← hnx93] at hF
    refine W.seq fun K97 hK97 => W.seq fun K98 hK98 => W.region (wl_field (o := 0) (off' := 0) ff_27_0 rfl rfl rfl (wl_load_blk (i := 5) (vs := [v88]) (v := v88) tf_24 rfl rfl hS84 rfl rfl rfl (wl_lenr (e := ty_51) (l := l87) Tryz.underlying24 rfl rfl (hS84.own_ro (i := 3) rfl) (wl_move rfl rfl (wl_lss rfl rfl rfl (WL.nil (fun a ha => hK98 _ _ (W.cond rfl (fun h99 => ?_) (fun h99 => ?_)) a ha)))))))
    ·replace hF := ifP h99 hF
     refine W.skip fun a ha => hK97 _ _ (W.block (W.seq fun K100 hK100 => (W.region (wl_field (o := 0) (off' := 0) ff_27_0 rfl rfl rfl (wl_load_blk (i := 5) (vs := [v88]) (v := v88) tf_24 rfl rfl hS84 rfl rfl rfl (wl_field (o := 0) (off' := 0) ff_27_0 rfl rfl rfl (wl_load_blk (i := 5) (vs := [v88]) (v := v88) tf_24 rfl rfl hS84 rfl rfl rfl (wl_lenr (e := ty_51) (l := l87) Tryz.underlying24 rfl rfl (hS84.own_ro (i := 3) rfl) (wl_sub rfl rfl rfl ?_))))))))) a ha
     obtain ⟨u101, hu101, hF⟩ := bindE hF
     refine wl_indexoF (e := ty_51) (i := 3) Tryz.underlying24 rfl rfl rfl hS84 rfl hu101 ?_
     rintro p102 _ ⟨v104, rfl, hv105⟩ hp103 ho106
     refine wl_load_p (vs := [v104]) (v := v104) tf_51 rfl rfl hp103 rfl rfl (wl_assign rfl rfl (WL.nil (fun a ha => hK100 _ _ (W.seq fun K107 hK107 => (W.region (wl_move rfl rfl (wl_move rfl rfl ?_)))) a ha)))
     obtain ⟨u108, hu108, hF⟩ := bindE hF
     refine wl_call rfl Tryz.call60 (C_spec_l1Cur__chartOf__mut__box w82 (x0.1, y85, y86) b0 v0_0 (h0_0.rsto (hS84.sel [0, 1] rfl)) (w64 (1 + u8.1)) (hS84.sel [1] rfl).base0 _ hu108) rfl ?_
     rintro _ w109 ⟨v114, F115, rfl, hE110, hM111⟩
     refine ⟨_, rfl, ?_⟩
     have hB112 := hS84.takeB [1] rfl (M := [R.blk b0 73 [v0_0, (.int .i64 y85), (.int .u64 y86)]]) rfl hB83 hE110 hM111
     have hS113 : Sep (wE w0).heap.size w109 [R.blk b0 73 [v0_0, (.int .i64 u108.2.2.1), (.int .u64 u108.2.2.2)], R.own ty_38 F115 v114 u108.1, R.rest w0 (fps [R.blk b0 73 [v0_0, (.int .i64 x0.2.1), (.int .u64 x0.2.2)]]), R.blk b2 27 [(.slice none 0 0), (.slice none 0 0), (.int .i64 0), (.int .i64 0)], R.own ty_51 F89 v88 l87, R.own ty_3 F92 v91 l90, R.blk b56 27 [v88, v91, (.int .i64 u38.1), (.int .i64 u50.1)]] := hS84.take [1] [0, 2, 3, 4, 5] rfl (M := [R.blk b0 73 [v0_0, (.int .i64 y85), (.int .u64 y86)]]) rfl hM111 hB83.size
     have hp103 := hp103.keepS (fun b hb => mut_kept hM111 b (((hS84.get (i := 3) rfl).2.1 b hb).2) (nf_cons (hS84.disj (i := 3) (j := 1) rfl rfl rfl b hb) nf_nil)) (fun _ h => h)
     have hv105 := hv105.keep (fun b hb => mut_kept hM111 b (((hS84.get (i := 3) rfl).2.1 b hb).2) (nf_cons (hS84.disj (i := 3) (j := 1) rfl rfl rfl b hb) nf_nil))
     refine wl_assign rfl rfl (WL.nil (fun a ha => hK107 _ _ (W.seq fun K116 hK116 => ?_) a ha))
     obtain ⟨k125, hk125, hF⟩ := jE3 hF
     have hJ126 : ∀ (y120 : Int) (y121 : Int) (l122 : (List (Int × Int))) (v123 : Value) (F124 : List Nat) (w117 : World) (_ : k125 y120 y121 l122 = some r) (_ : Below (wE w0).heap.size (wE w0) w117) (_ : Sep (wE w0).heap.size w117 [R.rest w0 (fps [R.blk b0 73 [v0_0, (.int .i64 x0.2.1), (.int .u64 x0.2.2)]]), R.blk b0 73 [v0_0, (.int .i64 y120), (.int .u64 y121)], R.blk b2 27 [(.slice none 0 0), (.slice none 0 0), (.int .i64 0), (.int .i64 0)], R.own ty_51 F89 v88 l87, R.own ty_3 F92 v91 l90, R.blk b56 27 [v88, v91, (.int .i64 u38.1), (.int .i64 u50.1)], R.own ty_38 F124 v123 l122]), ∀ a, St 139 [(0, (.pointer (some ⟨b0, 0, none⟩))), (2, (.pointer (some ⟨b2, 0, none⟩))), (3, (.int .i64 (w64 (1 + u8.1)))), (4, (.pointer (some ⟨b56, 0, none⟩))), (5, (.int .i64 y78)), (7, v123)] a → K116 a w117 := by
      intro y120 y121 l122 v123 F124 w117 hF hB118 hS119
      subst hk125
      refine fun a ha => hK116 _ _ (W.seq fun K127 hK127 => (W.region (wl_field (o := 0) (off' := 0) ff_27_0 rfl rfl rfl (wl_load_blk (i := 5) (vs := [v88]) (v := v88) tf_24 rfl rfl hS119 rfl rfl rfl (wl_move rfl rfl ?_))))) a ha
      have hq128 := hS119.sel [6, 0, 1, 2, 3, 4, 5] rfl
      have hq129 := hq128.head (r' := R.cel ty_51 F124 [v123] l122) (rfl) fun _ h0 => ⟨_, rfl, h0⟩
      refine wl_lit1 (e := ty_51) (vs := [v123]) Tryz.underlying24 rfl rfl (cells_one (hS119.own_ro (i := 6) rfl).one) rfl hB118 hq129 ?_
      intro v130 F131 w132 hb133 hf134 hB135 hS136
      obtain ⟨u137, hu137, hF⟩ := bindE hF
      refine wl_appendn (e := ty_51) Tryz.underlying24 rfl rfl rfl hB135 (hS136.sel [4, 0, 1, 2, 3, 5, 6] rfl) hu137 ?_
      intro v138 F139 w140 hk141 hB142 hS143
      refine wl_field (o := 0) (off' := 0) ff_27_0 rfl rfl rfl (wl_store_blk (i := 5) (vs := [v138]) (cs' := [v138, v91, (.int .i64 u38.1), (.int .i64 u50.1)]) tf_24 rfl rfl (cells_one (hS143.own_ro (i := 0) rfl).one) rfl hB142 hS143 rfl rfl ⟨(hS143.own_ro (i := 0) rfl).one, trivial⟩ rfl ?_)
      intro w144 hk147 hB145 hS146
      refine WL.nil fun a ha => hK127 _ _ (W.regionH mixed_ (([b0] ++ F92) ++ [b56]) hB145 hS146 ?_) a ha
      intro w148 hb149 hB150 hS151
      have hSW152 := KeepX.refl w148 (([b0] ++ F92) ++ [b56])
      refine WH.tk 0 rfl hP hSW152 (pr_field (o := 1) (off' := 1) ff_27_1 rfl rfl rfl (WH.tk 2 rfl hP hSW152 (pr_move rfl rfl (WH.many (is := [1, 3]) (by kernel_rfl) rfl (List.forall_mem_cons.2 ⟨⟨_, rfl, ?_⟩, List.forall_mem_cons.2 ⟨⟨_, rfl, ?_⟩, fun _ h => by cases h⟩⟩)))))
      ·
       refine wl_load_blk (i := 5) (vs := [v91]) (v := v91) tf_25 rfl rfl hS151 rfl rfl rfl (WL.nil (WH.ret hSW152 (WH.on1 3 rfl (wl_lit (vs := [(.int .i64 1), (.int .i64 4), (.int .i64 8), (.int .i64 16), (.int .i64 64)]) (l := [1, 4, 8, 16, 64]) fl_3 Tryz.underlying25 rfl rfl rfl rfl rfl rfl (Below.self w148) (Sep.nil _ _) ?_))))
       intro v153 F154 w155 hb156 hB159 hM160
       have hB157 := hB150.trans (hb156.mono hB150.size)
       have hS158 := hS151.join hb156 hM160 hB150.size
       have hSW162 := hSW152.ext hb156
       refine WL.nil (WH.ret hSW162 (WH.on1 4 rfl ?_))
       obtain ⟨u164, hu164, hF⟩ := bindE hF
       refine wl_call rfl Tryz.call61 (C_spec_l1Cur__among__mut__box w155 (x0.1, y120, y121) b0 v0_0 (h0_0.rsto (hS158.sel [2, 3] rfl)) [1, 4, 8, 16, 64] v153 (own_out (hS158.sel [0, 3] rfl)) (hS158.sel [3] rfl).base0 _ hu164) rfl ?_
       rintro _ w165 ⟨rfl, hE166, hM167⟩
       refine ⟨_, rfl, ?_⟩
       have hB168 := hS158.takeB [3] rfl (M := [R.blk b0 73 [v0_0, (.int .i64 y120), (.int .u64 y121)]]) rfl hB157 hE166 hM167
       have hS169 : Sep (wE w0).heap.size w165 [R.blk b0 73 [v0_0, (.int .i64 u164.2.2.1), (.int .u64 u164.2.2.2)], R.own ty_3 F154 v153 [1, 4, 8, 16, 64], R.own ty_51 F139 v138 u137, R.rest w0 (fps [R.blk b0 73 [v0_0, (.int .i64 x0.2.1), (.int .u64 x0.2.2)]]), R.blk b2 27 [(.slice none 0 0), (.slice none 0 0), (.int .i64 0), (.int .i64 0)], R.own ty_3 F92 v91 l90, R.blk b56 27 [v138, v91, (.int .i64 u38.1), (.int .i64 u50.1)]] := hS158.take [3] [0, 1, 2, 4, 5, 6] rfl (M := [R.blk b0 73 [v0_0, (.int .i64 y120), (.int .u64 y121)]]) rfl hM167 hB157.size
       have hk170 := box_kept hM167
       have hSW171 := hSW162.wr' hk170.1 hk170.2.1 (fun _ _ h => List.mem_append_left _ (List.mem_append_left _ (h)))
       refine WL.nil (WH.ret hSW171 (WH.on1 5 rfl (wl_lit (vs := [(.int .i64 u164.1)]) (l := [u164.1]) fl_3 Tryz.underlying25 rfl rfl rfl rfl rfl rfl (Below.self w165) (Sep.nil _ _) ?_)))
       intro v173 F174 w175 hb176 hB179 hM180
       have hB177 := hB168.trans (hb176.mono hB168.size)
       have hS178 := hS169.join hb176 hM180 hB168.size
       have hSW182 := hSW171.ext hb176
       refine WL.nil (WH.ret hSW182 (WH.on1 6 rfl ?_))
       obtain ⟨u183, hu183, hF⟩ := bindE hF
       refine wl_append (i := 6) (S := (· < w175.heap.size)) fl_3 Tryz.underlying25 rfl rfl rfl hB177 hS178 rfl (hS178.own_ro (i := 0) rfl) hu183 ?_
       intro v184 F185 w186 hk187 hB188 hS189
       have hSW190 := hSW182.wr' hk187.1 hk187.2.1 (fun _ _ h => List.mem_append_left _ (List.mem_append_right _ h))
       refine WL.nil (WH.ret hSW190 (WH.tk 7 rfl hP hSW190 (pr_field (o := 1) (off' := 1) ff_27_1 rfl rfl rfl (WH.on1 8 rfl (wl_store_blk (i := 7) (vs := [v184]) (cs' := [v138, v184, (.int .i64 u38.1), (.int .i64 u50.1)]) tf_25 rfl rfl (cells_one (hS189.own_ro (i := 6) rfl).one) rfl hB188 hS189 rfl rfl ⟨(hS189.own_ro (i := 6) rfl).one, trivial⟩ rfl ?_)))))
       intro w192 hk195 hB193 hS194
       have hSW196 := hSW190.wr' hk195.1 hk195.2.1 (fun _ _ h => List.mem_append_right _ h)
       refine WL.nil (WH.ret hSW196 (WH.done (by kernel_rfl) ?_))
       rw [hnx93] at hF
       exact fun a ha => hKL95 a _ m96 (Nat.lt_succ_self m96) ⟨u164.2.2.1, u164.2.2.2, u137, u183, v138, F139, v184, F185, ha.sub ⟨rfl, rfl, rfl, rfl, rfl, trivial⟩, hB193, (hS194.sel [4, 1, 5, 3, 6, 7] rfl), hF⟩
      ·
       refine wl_lit (vs := [(.int .i64 1), (.int .i64 4), (.int .i64 8), (.int .i64 16), (.int .i64 64)]) (l := [1, 4, 8, 16, 64]) fl_3 Tryz.underlying25 rfl rfl rfl rfl rfl rfl (Below.self w148) (Sep.nil _ _) ?_
       intro v198 F199 w200 hb201 hB204 hM205
       have hB202 := hB150.trans (hb201.mono hB150.size)
       have hS203 := hS151.join hb201 hM205 hB150.size
       have hSW207 := hSW152.ext hb201
       refine WL.nil (WH.ret hSW207 (WH.many (is := [1, 4]) (by kernel_rfl) rfl (List.forall_mem_cons.2 ⟨⟨_, rfl, ?_⟩, List.forall_mem_cons.2 ⟨⟨_, rfl, ?_⟩, fun _ h => by cases h⟩⟩)))
       ·
        refine wl_load_blk (i := 6) (vs := [v91]) (v := v91) tf_25 rfl rfl hS203 rfl rfl rfl (WL.nil (WH.ret hSW207 (WH.on1 4 rfl ?_)))
        obtain ⟨u209, hu209, hF⟩ := bindE hF
        refine wl_call rfl Tryz.call61 (C_spec_l1Cur__among__mut__box w200 (x0.1, y120, y121) b0 v0_0 (h0_0.rsto (hS203.sel [2, 3] rfl)) [1, 4, 8, 16, 64] v198 (own_out (hS203.sel [0, 3] rfl)) (hS203.sel [3] rfl).base0 _ hu209) rfl ?_
        rintro _ w210 ⟨rfl, hE211, hM212⟩
        refine ⟨_, rfl, ?_⟩
        have hB213 := hS203.takeB [3] rfl (M := [R.blk b0 73 [v0_0, (.int .i64 y120), (.int .u64 y121)]]) rfl hB202 hE211 hM212
        have hS214 : Sep (wE w0).heap.size w210 [R.blk b0 73 [v0_0, (.int .i64 u209.2.2.1), (.int .u64 u209.2.2.2)], R.own ty_3 F199 v198 [1, 4, 8, 16, 64], R.own ty_51 F139 v138 u137, R.rest w0 (fps [R.blk b0 73 [v0_0, (.int .i64 x0.2.1), (.int .u64 x0.2.2)]]), R.blk b2 27 [(.slice none 0 0), (.slice none 0 0), (.int .i64 0), (.int .i64 0)], R.own ty_3 F92 v91 l90, R.blk b56 27 [v138, v91, (.int .i64 u38.1), (.int .i64 u50.1)]] := hS203.take [3] [0, 1, 2, 4, 5, 6] rfl (M := [R.blk b0 73 [v0_0, (.int .i64 y120), (.int .u64 y121)]]) rfl hM212 hB202.size
        have hk215 := box_kept hM212
        have hSW216 := hSW207.wr' hk215.1 hk215.2.1 (fun _ _ h => List.mem_append_left _ (List.mem_append_left _ (h)))
        refine WL.nil (WH.ret hSW216 (WH.on1 5 rfl (wl_lit (vs := [(.int .i64 u209.1)]) (l := [u209.1]) fl_3 Tryz.underlying25 rfl rfl rfl rfl rfl rfl (Below.self w210) (Sep.nil _ _) ?_)))
        intro v218 F219 w220 hb221 hB224 hM225
        have hB222 := hB213.trans (hb221.mono hB213.size)
        have hS223 := hS214.join hb221 hM225 hB213.size
        have hSW227 := hSW216.ext hb221
        refine WL.nil (WH.ret hSW227 (WH.on1 6 rfl ?_))
        obtain ⟨u228, hu228, hF⟩ := bindE hF
        refine wl_append (i := 6) (S := (· < w220.heap.size)) fl_3 Tryz.underlying25 rfl rfl rfl hB222 hS223 rfl (hS223.own_ro (i := 0) rfl) hu228 ?_
        intro v229 F230 w231 hk232 hB233 hS234
        have hSW235 := hSW227.wr' hk232.1 hk232.2.1 (fun _ _ h => List.mem_append_left _ (List.mem_append_right _ h))
        refine WL.nil (WH.ret hSW235 (WH.tk 7 rfl hP hSW235 (pr_field (o := 1) (off' := 1) ff_27_1 rfl rfl rfl (WH.on1 8 rfl (wl_store_blk (i := 7) (vs := [v229]) (cs' := [v138, v229, (.int .i64 u38.1), (.int .i64 u50.1)]) tf_25 rfl rfl (cells_one (hS234.own_ro (i := 6) rfl).one) rfl hB233 hS234 rfl rfl ⟨(hS234.own_ro (i := 6) rfl).one, trivial⟩ rfl ?_)))))
        intro w237 hk240 hB238 hS239
        have hSW241 := hSW235.wr' hk240.1 hk240.2.1 (fun _ _ h => List.mem_append_right _ h)
        refine WL.nil (WH.ret hSW241 (WH.done (by kernel_rfl) ?_))
        rw [hnx93] at hF
        exact fun a ha => hKL95 a _ m96 (Nat.lt_succ_self m96) ⟨u209.2.2.1, u209.2.2.2, u137, u228, v138, F139, v229, F230, ha.sub ⟨rfl, rfl, rfl, rfl, rfl, trivial⟩, hB238, (hS239.sel [4, 1, 5, 3, 6, 7] rfl), hF⟩
       ·
        obtain ⟨u243, hu243, hF⟩ := bindE hF
        refine wl_call rfl Tryz.call61 (C_spec_l1Cur__among__mut__box w200 (x0.1, y120, y121) b0 v0_0 (h0_0.rsto (hS203.sel [2, 3] rfl)) [1, 4, 8, 16, 64] v198 (own_out (hS203.sel [0, 3] rfl)) (hS203.sel [3] rfl).base0 _ hu243) rfl ?_
        rintro _ w244 ⟨rfl, hE245, hM246⟩
        refine ⟨_, rfl, ?_⟩
        have hB247 := hS203.takeB [3] rfl (M := [R.blk b0 73 [v0_0, (.int .i64 y120), (.int .u64 y121)]]) rfl hB202 hE245 hM246
        have hS248 : Sep (wE w0).heap.size w244 [R.blk b0 73 [v0_0, (.int .i64 u243.2.2.1), (.int .u64 u243.2.2.2)], R.own ty_3 F199 v198 [1, 4, 8, 16, 64], R.own ty_51 F139 v138 u137, R.rest w0 (fps [R.blk b0 73 [v0_0, (.int .i64 x0.2.1), (.int .u64 x0.2.2)]]), R.blk b2 27 [(.slice none 0 0), (.slice none 0 0), (.int .i64 0), (.int .i64 0)], R.own ty_3 F92 v91 l90, R.blk b56 27 [v138, v91, (.int .i64 u38.1), (.int .i64 u50.1)]] := hS203.take [3] [0, 1, 2, 4, 5, 6] rfl (M := [R.blk b0 73 [v0_0, (.int .i64 y120), (.int .u64 y121)]]) rfl hM246 hB202.size
        have hk249 := box_kept hM246
        have hSW250 := hSW207.wr' hk249.1 hk249.2.1 (fun _ _ h => List.mem_append_left _ (List.mem_append_left _ (h)))
        refine WL.nil (WH.ret hSW250 (WH.many (is := [1, 5]) (by kernel_rfl) rfl (List.forall_mem_cons.2 ⟨⟨_, rfl, ?_⟩, List.forall_mem_cons.2 ⟨⟨_, rfl, ?_⟩, fun _ h => by cases h⟩⟩)))
        ·
         refine wl_load_blk (i := 6) (vs := [v91]) (v := v91) tf_25 rfl rfl hS248 rfl rfl rfl (WL.nil (WH.ret hSW250 (WH.on1 5 rfl (wl_lit (vs := [(.int .i64 u243.1)]) (l := [u243.1]) fl_3 Tryz.underlying25 rfl rfl rfl rfl rfl rfl (Below.self w244) (Sep.nil _ _) ?_))))
         intro v252 F253 w254 hb255 hB258 hM259
         have hB256 := hB247.trans (hb255.mono hB247.size)
         have hS257 := hS248.join hb255 hM259 hB247.size
         have hSW261 := hSW250.ext hb255
         refine WL.nil (WH.ret hSW261 (WH.on1 6 rfl ?_))
         obtain ⟨u262, hu262, hF⟩ := bindE hF
         refine wl_append (i := 6) (S := (· < w254.heap.size)) fl_3 Tryz.underlying25 rfl rfl rfl hB256 hS257 rfl (hS257.own_ro (i := 0) rfl) hu262 ?_
         intro v263 F264 w265 hk266 hB267 hS268
         have hSW269 := hSW261.wr' hk266.1 hk266.2.1 (fun _ _ h => List.mem_append_left _ (List.mem_append_right _ h))
         refine WL.nil (WH.ret hSW269 (WH.tk 7 rfl hP hSW269 (pr_field (o := 1) (off' := 1) ff_27_1 rfl rfl rfl (WH.on1 8 rfl (wl_store_blk (i := 7) (vs := [v263]) (cs' := [v138, v263, (.int .i64 u38.1), (.int .i64 u50.1)]) tf_25 rfl rfl (cells_one (hS268.own_ro (i := 6) rfl).one) rfl hB267 hS268 rfl rfl ⟨(hS268.own_ro (i := 6) rfl).one, trivial⟩ rfl ?_)))))
         intro w271 hk274 hB272 hS273
         have hSW275 := hSW269.wr' hk274.1 hk274.2.1 (fun _ _ h => List.mem_append_right _ h)
         refine WL.nil (WH.ret hSW275 (WH.done (by kernel_rfl) ?_))
         rw [hnx93] at hF
         exact fun a ha => hKL95 a _ m96 (Nat.lt_succ_self m96) ⟨u243.2.2.1, u243.2.2.2, u137, u262, v138, F139, v263, F264, ha.sub ⟨rfl, rfl, rfl, rfl, rfl, trivial⟩, hB272, (hS273.sel [4, 1, 5, 3, 6, 7] rfl), hF⟩
        ·
         refine wl_lit (vs := [(.int .i64 u243.1)]) (l := [u243.1]) fl_3 Tryz.underlying25 rfl rfl rfl rfl rfl rfl (Below.self w244) (Sep.nil _ _) ?_
         intro v277 F278 w279 hb280 hB283 hM284
         have hB281 := hB247.trans (hb280.mono hB247.size)
         have hS282 := hS248.join hb280 hM284 hB247.size
         have hSW286 := hSW250.ext hb280
         refine WL.nil (WH.ret hSW286 (WH.on1 1 rfl (wl_load_blk (i := 7) (vs := [v91]) (v := v91) tf_25 rfl rfl hS282 rfl rfl rfl (WL.nil (WH.ret hSW286 (WH.on1 6 rfl ?_))))))
         obtain ⟨u287, hu287, hF⟩ := bindE hF
         refine wl_append (i := 6) (S := (· < w279.heap.size)) fl_3 Tryz.underlying25 rfl rfl rfl hB281 hS282 rfl (hS282.own_ro (i := 0) rfl) hu287 ?_
         intro v288 F289 w290 hk291 hB292 hS293
         have hSW294 := hSW286.wr' hk291.1 hk291.2.1 (fun _ _ h => List.mem_append_left _ (List.mem_append_right _ h))
         refine WL.nil (WH.ret hSW294 (WH.tk 7 rfl hP hSW294 (pr_field (o := 1) (off' := 1) ff_27_1 rfl rfl rfl (WH.on1 8 rfl (wl_store_blk (i := 7) (vs := [v288]) (cs' := [v138, v288, (.int .i64 u38.1), (.int .i64 u50.1)]) tf_25 rfl rfl (cells_one (hS293.own_ro (i := 6) rfl).one) rfl hB292 hS293 rfl rfl ⟨(hS293.own_ro (i := 6) rfl).one, trivial⟩ rfl ?_)))))
         intro w296 hk299 hB297 hS298
         have hSW300 := hSW294.wr' hk299.1 hk299.2.1 (fun _ _ h => List.mem_append_right _ h)
         refine WL.nil (WH.ret hSW300 (WH.done (by kernel_rfl) ?_))
         rw [hnx93] at hF
         exact fun a ha => hKL95 a _ m96 (Nat.lt_succ_self m96) ⟨u243.2.2.1, u243.2.2.2, u137, u287, v138, F139, v288, F289, ha.sub ⟨rfl, rfl, rfl, rfl, rfl, trivial⟩, hB297, (hS298.sel [4, 1, 5, 3, 6, 7] rfl), hF⟩
     refine W.seq fun K302 hK302 => W.region (wl_move rfl rfl ?_)
     obtain ⟨u303, hu303, hF⟩ := bindE hF
     refine wl_call rfl Tryz.call62 (C_spec_l1Cur__one__mut__box w109 (x0.1, u108.2.2.1, u108.2.2.2) b0 v0_0 (h0_0.rsto (hS113.sel [2, 0] rfl)) 3 (hS113.sel [0] rfl).base0 _ hu303) rfl ?_
     rintro _ w304 ⟨rfl, hE305, hM306⟩
     refine ⟨_, rfl, ?_⟩
     have hB307 := hS113.takeB [0] rfl (M := [R.blk b0 73 [v0_0, (.int .i64 u108.2.2.1), (.int .u64 u108.2.2.2)]]) rfl hB112 hE305 hM306
     have hS308 : Sep (wE w0).heap.size w304 [R.blk b0 73 [v0_0, (.int .i64 u303.2.2.1), (.int .u64 u303.2.2.2)], R.own ty_38 F115 v114 u108.1, R.rest w0 (fps [R.blk b0 73 [v0_0, (.int .i64 x0.2.1), (.int .u64 x0.2.2)]]), R.blk b2 27 [(.slice none 0 0), (.slice none 0 0), (.int .i64 0), (.int .i64 0)], R.own ty_51 F89 v88 l87, R.own ty_3 F92 v91 l90, R.blk b56 27 [v88, v91, (.int .i64 u38.1), (.int .i64 u50.1)]] := hS113.take [0] [1, 2, 3, 4, 5, 6] rfl (M := [R.blk b0 73 [v0_0, (.int .i64 u108.2.2.1), (.int .u64 u108.2.2.2)]]) rfl hM306 hB112.size
     have hp103 := hp103.keepS (fun b hb => mut_kept hM306 b (((hS113.get (i := 4) rfl).2.1 b hb).2) (nf_cons (hS113.disj (i := 4) (j := 0) rfl rfl rfl b hb) nf_nil)) (fun _ h => h)
     have hv105 := hv105.keep (fun b hb => mut_kept hM306 b (((hS113.get (i := 4) rfl).2.1 b hb).2) (nf_cons (hS113.disj (i := 4) (j := 0) rfl rfl rfl b hb) nf_nil))
     refine wl_not rfl rfl (WL.nil (fun a ha => hK302 _ _ (W.cond rfl (fun h309 => ?_) (fun h309 => ?_)) a ha))
     ·replace hF := ifP h309 hF
      refine W.seq fun K310 hK310 => W.region (wl_move rfl rfl ?_)
      obtain ⟨u311, hu311, hF⟩ := bindE hF
      refine wl_call rfl Tryz.call63 (C_spec_chOwn w304 u101 v104 (hv105.mono (fun b hb => ((hS308.get (i := 4) rfl).2.1 b hb).2)) _ hu311) rfl ?_
      rintro _ w314 ⟨v312, F313, rfl, hb315, hM318⟩
      refine ⟨_, rfl, ?_⟩
      have hB316 := hB307.trans (hb315.mono hB307.size)
      have hS317 := hS308.join hb315 hM318 hB307.size
      have hp103 := hp103.keepS (fun b hb => hb315.block b (((hS308.get (i := 4) rfl).2.1 b hb).2)) (fun _ h => h)
      have hv105 := hv105.keep (fun b hb => hb315.block b (((hS308.get (i := 4) rfl).2.1 b hb).2))
      refine wl_assign rfl rfl (WL.nil (fun a ha => hK310 _ _ (W.seq fun K319 hK319 => (W.seq fun K320 hK320 => (W.region (wl_move rfl rfl (wl_lenr (e := ty_38) (l := u311) Tryz.underlying51 rfl rfl (hS317.own_ro (i := 0) rfl) (wl_move rfl rfl (WL.nil (fun a ha => hK320 _ _ (W.block ?_) a ha)))))))) a ha))
      refine W.loopk (fun m a w321 => ∃ (y324 : Int) (y325 : Int) (l327 : (List (Int × Int))) (y330 : Int) (v328 : Value) (F329 : List Nat), St 139 [(0, (.pointer (some ⟨b0, 0, none⟩))), (2, (.pointer (some ⟨b2, 0, none⟩))), (3, (.int .i64 (w64 (1 + u8.1)))), (4, (.pointer (some ⟨b56, 0, none⟩))), (5, (.int .i64 y78)), (6, v104), (7, v328), (53, (.int .i64 (List.length u311 : Int))), (54, (.int .i64 y330))] a ∧ Below (wE w0).heap.size (wE w0) w321 ∧ Sep (wE w0).heap.size w321 [R.rest w0 (fps [R.blk b0 73 [v0_0, (.int .i64 x0.2.1), (.int .u64 x0.2.2)]]), R.blk b0 73 [v0_0, (.int .i64 y324), (.int .u64 y325)], R.blk b2 27 [(.slice none 0 0), (.slice none 0 0), (.int .i64 0), (.int .i64 0)], R.own ty_51 F89 v88 l87, R.own ty_3 F92 v91 l90, R.blk b56 27 [v88, v91, (.int .i64 u38.1), (.int .i64 u50.1)], R.own ty_38 F329 v328 l327] ∧ (rdS ty_38 (· ∈ F89) w321 v104 u101) ∧ F_spec_l1Cur__show__mut__box_L2 u311 x0 u101 k125 m y324 y325 l327 y330 = some r) FU ?_ ?_
      ·
       exact fun a ha => ⟨u303.2.2.1, u303.2.2.2, u311, 0, v312, F313, ha.sub ⟨rfl, rfl, rfl, rfl, rfl, rfl, rfl, rfl, rfl, trivial⟩, hB316, (hS317.sel [3, 1, 4, 5, 6, 7, 0] rfl), hv105, hF⟩
      ·
       rintro m333 a w321 ⟨y324, y325, l327, y330, v328, F329, ha, hB322, hS323, hr326, hF⟩ KL332 hKL332
       refine W.at ?_ ha
       cases m333 with
       | zero => exact noneE hF
       | succ m333 =>
        obtain ⟨nx331, hnx331⟩ : ∃ k, k = F_spec_l1Cur__show__mut__box_L2 u311 x0 u101 k125 m333 := ⟨_, rfl⟩
        rw [F_spec_l1Cur__show__mut__box_L2, ← hnx331] at hF
        refine W.seq fun K334 hK334 => W.region (wl_lss rfl rfl rfl (WL.nil (fun a ha => hK334 _ _ (W.seq fun K335 hK335 => (W.cond rfl (fun h336 => ?_) (fun h336 => ?_))) a ha)))
        ·replace hF := ifP h336 hF
         refine W.skip fun a ha => hK335 _ _ (W.seq fun K337 hK337 => ?_) a ha
         obtain ⟨k347, hk347, hF⟩ := jE3 hF
         have hJ348 : ∀ (y341 : Int) (y342 : Int) (l344 : (List (Int × Int))) (v345 : Value) (F346 : List Nat) (w338 : World) (hr343 : rdS ty_38 (· ∈ F89) w338 v104 u101) (_ : k347 y341 y342 l344 = some r) (_ : Below (wE w0).heap.size (wE w0) w338) (_ : Sep (wE w0).heap.size w338 [R.rest w0 (fps [R.blk b0 73 [v0_0, (.int .i64 x0.2.1), (.int .u64 x0.2.2)]]), R.blk b0 73 [v0_0, (.int .i64 y341), (.int .u64 y342)], R.blk b2 27 [(.slice none 0 0), (.slice none 0 0), (.int .i64 0), (.int .i64 0)], R.own ty_51 F89 v88 l87, R.own ty_3 F92 v91 l90, R.blk b56 27 [v88, v91, (.int .i64 u38.1), (.int .i64 u50.1)], R.own ty_38 F346 v345 l344]), ∀ a, St 139 [(0, (.pointer (some ⟨b0, 0, none⟩))), (2, (.pointer (some ⟨b2, 0, none⟩))), (3, (.int .i64 (w64 (1 + u8.1)))), (4, (.pointer (some ⟨b56, 0, none⟩))), (5, (.int .i64 y78)), (6, v104), (7, v345), (53, (.int .i64 (List.length u311 : Int))), (54, (.int .i64 y330))] a → K337 a w338 := by
          intro y341 y342 l344 v345 F346 w338 hr343 hF hB339 hS340
          subst hk347
          refine fun a ha => hK337 _ _ (W.region (wl_add rfl rfl rfl (wl_move rfl rfl (WL.nil ?_)))) a ha
          rw [hnx331] at hF
          exact fun a ha => hKL332 a _ m333 (Nat.lt_succ_self m333) ⟨y341, y342, l344, (w64 (y330 + 1)), v345, F346, ha.sub ⟨rfl, rfl, rfl, rfl, rfl, rfl, rfl, rfl, rfl, trivial⟩, hB339, (hS340.sel [0, 1, 2, 3, 4, 5, 6] rfl), hr343, hF⟩
         refine W.block (W.seq fun K349 hK349 => (W.region (wl_move rfl rfl (wl_assign rfl rfl (WL.nil (fun a ha => hK349 _ _ (W.regionH mixed_ ([b0] ++ F329) hB322 hS323 ?_) a ha))))))
         intro w350 hb351 hB352 hS353
         have hr326 := hr326.keep (fun b hb => hb351.block b (((hS323.get (i := 3) rfl).2.1 b hb).2))
         have hSW354 := KeepX.refl w350 ([b0] ++ F329)
         refine WH.tk 0 rfl hP hSW354 (pr_move rfl rfl (WH.tk 1 rfl hP hSW354 (pr_move rfl rfl (WH.tk 2 rfl hP hSW354 (pr_move rfl rfl (WH.tk 3 rfl hP hSW354 (pr_move rfl rfl ?_)))))))
         obtain ⟨u355, hu355, hF⟩ := bindE hF
         refine WH.tk 4 rfl hP hSW354 (pr_indexoF (e := ty_38) (i := 6) Tryz.underlying51 rfl rfl rfl hS353 rfl hu355 ?_)
         rintro p356 _ rfl hp357 ho358
         refine WH.tk 5 rfl hP hSW354 (pr_fieldp (o := 0) ff_38_0 rfl rfl (WH.tk 7 rfl hP hSW354 (pr_move rfl rfl (WH.many (is := [6, 8]) (by kernel_rfl) rfl (List.forall_mem_cons.2 ⟨⟨_, rfl, ?_⟩, List.forall_mem_cons.2 ⟨⟨_, rfl, ?_⟩, fun _ h => by cases h⟩⟩)))))
         ·
          refine wl_load_p (vs := [(.int .i64 u355.1)]) (v := (.int .i64 u355.1)) tf_3 rfl rfl (hp357.add 0) rfl rfl (WL.nil (WH.ret hSW354 (WH.on1 8 rfl (wl_lit (vs := [(.int .i64 0), (.int .i64 8), (.int .i64 16), (.int .i64 40)]) (l := [0, 8, 16, 40]) fl_3 Tryz.underlying25 rfl rfl rfl rfl rfl rfl (Below.self w350) (Sep.nil _ _) ?_))))
          intro v359 F360 w361 hb362 hB365 hM366
          have hB363 := hB352.trans (hb362.mono hB352.size)
          have hS364 := hS353.join hb362 hM366 hB352.size
          have hpv368 := hr326.keep (fun b hb => hb362.block b (((hS353.get (i := 3) rfl).2.1 b hb).2))
          have hSW370 := hSW354.ext hb362
          refine WL.nil (WH.ret hSW370 (WH.on1 9 rfl ?_))
          obtain ⟨u372, hu372, hF⟩ := bindE hF
          refine wl_call rfl Tryz.call61 (C_spec_l1Cur__among__mut__box w361 (x0.1, y324, y325) b0 v0_0 (h0_0.rsto (hS364.sel [1, 2] rfl)) [0, 8, 16, 40] v359 (own_out (hS364.sel [0, 2] rfl)) (hS364.sel [2] rfl).base0 _ hu372) rfl ?_
          rintro _ w373 ⟨rfl, hE374, hM375⟩
          refine ⟨_, rfl, ?_⟩
          have hB376 := hS364.takeB [2] rfl (M := [R.blk b0 73 [v0_0, (.int .i64 y324), (.int .u64 y325)]]) rfl hB363 hE374 hM375
          have hS377 : Sep (wE w0).heap.size w373 [R.blk b0 73 [v0_0, (.int .i64 u372.2.2.1), (.int .u64 u372.2.2.2)], R.own ty_3 F360 v359 [0, 8, 16, 40], R.rest w0 (fps [R.blk b0 73 [v0_0, (.int .i64 x0.2.1), (.int .u64 x0.2.2)]]), R.blk b2 27 [(.slice none 0 0), (.slice none 0 0), (.int .i64 0), (.int .i64 0)], R.own ty_51 F89 v88 l87, R.own ty_3 F92 v91 l90, R.blk b56 27 [v88, v91, (.int .i64 u38.1), (.int .i64 u50.1)], R.own ty_38 F329 v328 l327] := hS364.take [2] [0, 1, 3, 4, 5, 6, 7] rfl (M := [R.blk b0 73 [v0_0, (.int .i64 y324), (.int .u64 y325)]]) rfl hM375 hB363.size
          have hk378 := box_kept hM375
          have hpv379 := hpv368.keep (fun b hb => hk378.2.1 b (((hS364.get (i := 4) rfl).2.1 b hb).2) (hS364.disj (i := 4) (j := 2) rfl rfl rfl b hb))
          have hSW381 := hSW370.wr' hk378.1 hk378.2.1 (fun _ _ h => List.mem_append_left _ (h))
          refine WL.nil (WH.ret hSW381 (WH.tk 10 rfl hP hSW381 (pr_add rfl rfl rfl (WH.on1 11 rfl ?_))))
          obtain ⟨u383, hu383, hF⟩ := bindE hF
          refine wl_call rfl Tryz.call64 (C_spec_l1Least w373 1280 (w64 (u355.1 + u372.1)) _ hu383) rfl ?_
          rintro _ w384 ⟨rfl, hb385⟩
          refine ⟨_, rfl, ?_⟩
          have hB386 := hB376.trans (hb385.mono hB376.size)
          have hS387 := hS377.below hb385
          have hpv389 := hpv379.keep (fun b hb => hb385.block b (((hS377.get (i := 4) rfl).2.1 b hb).2))
          have hSW391 := hSW381.ext hb385
          refine WL.nil (WH.ret hSW391 (WH.on1 12 rfl ?_))
          obtain ⟨u392, hu392, hF⟩ := bindE hF
          refine wl_indexoF (e := ty_38) (i := 7) Tryz.underlying51 rfl rfl rfl hS387 rfl hu392 ?_
          rintro p393 _ rfl hp394 ho395
          refine WL.nil (WH.ret hSW391 (WH.tk 13 rfl hP hSW391 (pr_fieldp (o := 0) ff_38_0 rfl rfl (WH.on1 14 rfl (wl_storeo (i := 7) (o := 0) (vs := [(.int .i64 u383)]) (u' := (u383, u392.2)) fl_38 tf_3 rfl rfl rfl rfl ho395 hu392 hB386 hS387 rfl rfl ⟨rfl, trivial⟩ rfl ?_)))))
          intro w396 hk399 hB397 hS398
          have hpv400 := hpv389.keep (fun b hb => hk399.2.1 b (((hS387.get (i := 4) rfl).2.1 b hb).2) (hS387.disj (i := 4) (j := 7) rfl rfl rfl b hb))
          have hSW401 := hSW391.wr' hk399.1 hk399.2.1 (fun _ _ h => List.mem_append_right _ h)
          refine WL.nil (WH.ret hSW401 (WH.done (by kernel_rfl) ?_))
          have hr326 := hpv400
          exact fun a ha => hJ348 (u372.2.2.1) (u372.2.2.2) ((seti l327 y330 (u383, u392.2))) (v328) (F329) _ hr326 hF hB397 (hS398.sel [2, 0, 3, 4, 5, 6, 7] rfl) a (ha.sub ⟨rfl, rfl, rfl, rfl, rfl, rfl, rfl, rfl, rfl, trivial⟩)
         ·
          refine wl_lit (vs := [(.int .i64 0), (.int .i64 8), (.int .i64 16), (.int .i64 40)]) (l := [0, 8, 16, 40]) fl_3 Tryz.underlying25 rfl rfl rfl rfl rfl rfl (Below.self w350) (Sep.nil _ _) ?_
          intro v403 F404 w405 hb406 hB409 hM410
          have hB407 := hB352.trans (hb406.mono hB352.size)
          have hS408 := hS353.join hb406 hM410 hB352.size
          have hpv412 := hr326.keep (fun b hb => hb406.block b (((hS353.get (i := 3) rfl).2.1 b hb).2))
          have hpv413 := hp357.keepS (fun b hb => hb406.block b (((hS353.get (i := 6) rfl).2.1 b hb).2)) (fun _ h => h)
          have hSW414 := hSW354.ext hb406
          refine WL.nil (WH.ret hSW414 (WH.many (is := [6, 9]) (by kernel_rfl) rfl (List.forall_mem_cons.2 ⟨⟨_, rfl, ?_⟩, List.forall_mem_cons.2 ⟨⟨_, rfl, ?_⟩, fun _ h => by cases h⟩⟩)))
          ·
           refine wl_load_p (vs := [(.int .i64 u355.1)]) (v := (.int .i64 u355.1)) tf_3 rfl rfl (hpv413.add 0) rfl rfl (WL.nil (WH.ret hSW414 (WH.on1 9 rfl ?_)))
           obtain ⟨u416, hu416, hF⟩ := bindE hF
           refine wl_call rfl Tryz.call61 (C_spec_l1Cur__among__mut__box w405 (x0.1, y324, y325) b0 v0_0 (h0_0.rsto (hS408.sel [1, 2] rfl)) [0, 8, 16, 40] v403 (own_out (hS408.sel [0, 2] rfl)) (hS408.sel [2] rfl).base0 _ hu416) rfl ?_
           rintro _ w417 ⟨rfl, hE418, hM419⟩
           refine ⟨_, rfl, ?_⟩
           have hB420 := hS408.takeB [2] rfl (M := [R.blk b0 73 [v0_0, (.int .i64 y324), (.int .u64 y325)]]) rfl hB407 hE418 hM419
           have hS421 : Sep (wE w0).heap.size w417 [R.blk b0 73 [v0_0, (.int .i64 u416.2.2.1), (.int .u64 u416.2.2.2)], R.own ty_3 F404 v403 [0, 8, 16, 40], R.rest w0 (fps [R.blk b0 73 [v0_0, (.int .i64 x0.2.1), (.int .u64 x0.2.2)]]), R.blk b2 27 [(.slice none 0 0), (.slice none 0 0), (.int .i64 0), (.int .i64 0)], R.own ty_51 F89 v88 l87, R.own ty_3 F92 v91 l90, R.blk b56 27 [v88, v91, (.int .i64 u38.1), (.int .i64 u50.1)], R.own ty_38 F329 v328 l327] := hS408.take [2] [0, 1, 3, 4, 5, 6, 7] rfl (M := [R.blk b0 73 [v0_0, (.int .i64 y324), (.int .u64 y325)]]) rfl hM419 hB407.size
           have hk422 := box_kept hM419
           have hpv423 := hpv412.keep (fun b hb => hk422.2.1 b (((hS408.get (i := 4) rfl).2.1 b hb).2) (hS408.disj (i := 4) (j := 2) rfl rfl rfl b hb))
           have hSW425 := hSW414.wr' hk422.1 hk422.2.1 (fun _ _ h => List.mem_append_left _ (h))
           refine WL.nil (WH.ret hSW425 (WH.tk 10 rfl hP hSW425 (pr_add rfl rfl rfl (WH.on1 11 rfl ?_))))
           obtain ⟨u427, hu427, hF⟩ := bindE hF
           refine wl_call rfl Tryz.call64 (C_spec_l1Least w417 1280 (w64 (u355.1 + u416.1)) _ hu427) rfl ?_
           rintro _ w428 ⟨rfl, hb429⟩
           refine ⟨_, rfl, ?_⟩
           have hB430 := hB420.trans (hb429.mono hB420.size)
           have hS431 := hS421.below hb429
           have hpv433 := hpv423.keep (fun b hb => hb429.block b (((hS421.get (i := 4) rfl).2.1 b hb).2))
           have hSW435 := hSW425.ext hb429
           refine WL.nil (WH.ret hSW435 (WH.on1 12 rfl ?_))
           obtain ⟨u436, hu436, hF⟩ := bindE hF
           refine wl_indexoF (e := ty_38) (i := 7) Tryz.underlying51 rfl rfl rfl hS431 rfl hu436 ?_
           rintro p437 _ rfl hp438 ho439
           refine WL.nil (WH.ret hSW435 (WH.tk 13 rfl hP hSW435 (pr_fieldp (o := 0) ff_38_0 rfl rfl (WH.on1 14 rfl (wl_storeo (i := 7) (o := 0) (vs := [(.int .i64 u427)]) (u' := (u427, u436.2)) fl_38 tf_3 rfl rfl rfl rfl ho439 hu436 hB430 hS431 rfl rfl ⟨rfl, trivial⟩ rfl ?_)))))
           intro w440 hk443 hB441 hS442
           have hpv444 := hpv433.keep (fun b hb => hk443.2.1 b (((hS431.get (i := 4) rfl).2.1 b hb).2) (hS431.disj (i := 4) (j := 7) rfl rfl rfl b hb))
           have hSW445 := hSW435.wr' hk443.1 hk443.2.1 (fun _ _ h => List.mem_append_right _ h)
           refine WL.nil (WH.ret hSW445 (WH.done (by kernel_rfl) ?_))
           have hr326 := hpv444
           exact fun a ha => hJ348 (u416.2.2.1) (u416.2.2.2) ((seti l327 y330 (u427, u436.2))) (v328) (F329) _ hr326 hF hB441 (hS442.sel [2, 0, 3, 4, 5, 6, 7] rfl) a (ha.sub ⟨rfl, rfl, rfl, rfl, rfl, rfl, rfl, rfl, rfl, trivial⟩)
          ·
           obtain ⟨u447, hu447, hF⟩ := bindE hF
           refine wl_call rfl Tryz.call61 (C_spec_l1Cur__among__mut__box w405 (x0.1, y324, y325) b0 v0_0 (h0_0.rsto (hS408.sel [1, 2] rfl)) [0, 8, 16, 40] v403 (own_out (hS408.sel [0, 2] rfl)) (hS408.sel [2] rfl).base0 _ hu447) rfl ?_
           rintro _ w448 ⟨rfl, hE449, hM450⟩
           refine ⟨_, rfl, ?_⟩
           have hB451 := hS408.takeB [2] rfl (M := [R.blk b0 73 [v0_0, (.int .i64 y324), (.int .u64 y325)]]) rfl hB407 hE449 hM450
           have hS452 : Sep (wE w0).heap.size w448 [R.blk b0 73 [v0_0, (.int .i64 u447.2.2.1), (.int .u64 u447.2.2.2)], R.own ty_3 F404 v403 [0, 8, 16, 40], R.rest w0 (fps [R.blk b0 73 [v0_0, (.int .i64 x0.2.1), (.int .u64 x0.2.2)]]), R.blk b2 27 [(.slice none 0 0), (.slice none 0 0), (.int .i64 0), (.int .i64 0)], R.own ty_51 F89 v88 l87, R.own ty_3 F92 v91 l90, R.blk b56 27 [v88, v91, (.int .i64 u38.1), (.int .i64 u50.1)], R.own ty_38 F329 v328 l327] := hS408.take [2] [0, 1, 3, 4, 5, 6, 7] rfl (M := [R.blk b0 73 [v0_0, (.int .i64 y324), (.int .u64 y325)]]) rfl hM450 hB407.size
           have hk453 := box_kept hM450
           have hpv454 := hpv412.keep (fun b hb => hk453.2.1 b (((hS408.get (i := 4) rfl).2.1 b hb).2) (hS408.disj (i := 4) (j := 2) rfl rfl rfl b hb))
           have hpv455 := hpv413.keepS (fun b hb => hk453.2.1 b (((hS408.get (i := 7) rfl).2.1 b hb).2) (hS408.disj (i := 7) (j := 2) rfl rfl rfl b hb)) (fun _ h => h)
           have hSW456 := hSW414.wr' hk453.1 hk453.2.1 (fun _ _ h => List.mem_append_left _ (h))
           refine WL.nil (WH.ret hSW456 (WH.on1 6 rfl (wl_load_p (vs := [(.int .i64 u355.1)]) (v := (.int .i64 u355.1)) tf_3 rfl rfl (hpv455.add 0) rfl rfl (WL.nil (WH.ret hSW456 (WH.tk 10 rfl hP hSW456 (pr_add rfl rfl rfl (WH.on1 11 rfl ?_))))))))
           obtain ⟨u458, hu458, hF⟩ := bindE hF
           refine wl_call rfl Tryz.call64 (C_spec_l1Least w448 1280 (w64 (u355.1 + u447.1)) _ hu458) rfl ?_
           rintro _ w459 ⟨rfl, hb460⟩
           refine ⟨_, rfl, ?_⟩
           have hB461 := hB451.trans (hb460.mono hB451.size)
           have hS462 := hS452.below hb460
           have hpv464 := hpv454.keep (fun b hb => hb460.block b (((hS452.get (i := 4) rfl).2.1 b hb).2))
           have hSW466 := hSW456.ext hb460
           refine WL.nil (WH.ret hSW466 (WH.on1 12 rfl ?_))
           obtain ⟨u467, hu467, hF⟩ := bindE hF
           refine wl_indexoF (e := ty_38) (i := 7) Tryz.underlying51 rfl rfl rfl hS462 rfl hu467 ?_
           rintro p468 _ rfl hp469 ho470
           refine WL.nil (WH.ret hSW466 (WH.tk 13 rfl hP hSW466 (pr_fieldp (o := 0) ff_38_0 rfl rfl (WH.on1 14 rfl (wl_storeo (i := 7) (o := 0) (vs := [(.int .i64 u458)]) (u' := (u458, u467.2)) fl_38 tf_3 rfl rfl rfl rfl ho470 hu467 hB461 hS462 rfl rfl ⟨rfl, trivial⟩ rfl ?_)))))
           intro w471 hk474 hB472 hS473
           have hpv475 := hpv464.keep (fun b hb => hk474.2.1 b (((hS462.get (i := 4) rfl).2.1 b hb).2) (hS462.disj (i := 4) (j := 7) rfl rfl rfl b hb))
           have hSW476 := hSW466.wr' hk474.1 hk474.2.1 (fun _ _ h => List.mem_append_right _ h)
           refine WL.nil (WH.ret hSW476 (WH.done (by kernel_rfl) ?_))
           have hr326 := hpv475
           exact fun a ha => hJ348 (u447.2.2.1) (u447.2.2.2) ((seti l327 y330 (u458, u467.2))) (v328) (F329) _ hr326 hF hB472 (hS473.sel [2, 0, 3, 4, 5, 6, 7] rfl) a (ha.sub ⟨rfl, rfl, rfl, rfl, rfl, rfl, rfl, rfl, rfl, trivial⟩)
        ·replace hF := ifN h336 hF
         refine W.exit fun a ha => hK319 _ _ (W.seq fun K478 hK478 => (W.region (wl_move rfl rfl ?_))) a ha
         obtain ⟨u479, hu479, hF⟩ := bindE hF
         refine wl_call rfl Tryz.call65 (C_spec_chGood w321 l327 v328 (hS323.own_ro (i := 6) rfl) _ hu479) rfl ?_
         rintro _ w480 ⟨rfl, hb481⟩
         refine ⟨_, rfl, ?_⟩
         have hB482 := hB322.trans (hb481.mono hB322.size)
         have hS483 := hS323.below hb481
         have hr326 := hr326.keep (fun b hb => hb481.block b (((hS323.get (i := 3) rfl).2.1 b hb).2))
         refine wl_not rfl rfl (WL.nil (fun a ha => hK478 _ _ (W.cond rfl (fun h485 => ?_) (fun h485 => ?_)) a ha))
         ·replace hF := ifP h485 hF
          refine W.region (wl_move rfl rfl ?_)
          obtain ⟨u486, hu486, hF⟩ := bindE hF
          refine wl_call rfl Tryz.call63 (C_spec_chOwn w480 u101 v104 (hr326.mono (fun b hb => ((hS483.get (i := 3) rfl).2.1 b hb).2)) _ hu486) rfl ?_
          rintro _ w489 ⟨v487, F488, rfl, hb490, hM493⟩
          refine ⟨_, rfl, ?_⟩
          have hB491 := hB482.trans (hb490.mono hB482.size)
          have hS492 := hS483.join hb490 hM493 hB482.size
          have hr326 := hr326.keep (fun b hb => hb490.block b (((hS483.get (i := 3) rfl).2.1 b hb).2))
          refine wl_assign rfl rfl (WL.nil ?_)
          exact fun a ha => hJ126 (y324) (y325) (u486) (v487) (F488) _ hF hB491 (hS492.sel [1, 2, 3, 4, 5, 6, 0] rfl) a (ha.sub ⟨rfl, rfl, rfl, rfl, rfl, rfl, trivial⟩)
         ·replace hF := ifN h485 hF
          refine W.skip ?_
          exact fun a ha => hJ126 (y324) (y325) (l327) (v328) (F329) _ hF hB482 (hS483.sel [0, 1, 2, 3, 4, 5, 6] rfl) a (ha.sub ⟨rfl, rfl, rfl, rfl, rfl, rfl, trivial⟩)
     ·replace hF := ifN h309 hF
      refine W.skip ?_
      exact fun a ha => hJ126 (u303.2.2.1) (u303.2.2.2) (u108.1) (v114) (F115) _ hF hB307 (hS308.sel [2, 0, 3, 4, 5, 6, 1] rfl) a (ha.sub ⟨rfl, rfl, rfl, rfl, rfl, rfl, trivial⟩)
    ·replace hF := ifN h99 hF
     refine W.exit fun a ha => hK81 _ _ (W.seq fun K494 hK494 => ?_) a ha
     obtain ⟨k508, hk508, hF⟩ := jE6 hF
     have hJ509 : ∀ (y498 : Int) (y499 : Int) (l500 : (List (List (Int × Int)))) (l503 : (List Int)) (y506 : Int) (y507 : Int) (v501 : Value) (F502 : List Nat) (v504 : Value) (F505 : List Nat) (w495 : World) (_ : k508 y498 y499 l500 l503 y506 y507 = some r) (_ : Below (wE w0).heap.size (wE w0) w495) (_ : Sep (wE w0).heap.size w495 [R.rest w0 (fps [R.blk b0 73 [v0_0, (.int .i64 x0.2.1), (.int .u64 x0.2.2)]]), R.blk b0 73 [v0_0, (.int .i64 y498), (.int .u64 y499)], R.blk b2 27 [(.slice none 0 0), (.slice none 0 0), (.int .i64 0), (.int .i64 0)], R.own ty_51 F502 v501 l500, R.own ty_3 F505 v504 l503, R.blk b56 27 [v501, v504, (.int .i64 y506), (.int .i64 y507)]]), ∀ a, St 139 [(2, (.pointer (some ⟨b2, 0, none⟩))), (4, (.pointer (some ⟨b56, 0, none⟩)))] a → K494 a w495 := by
      intro y498 y499 l500 l503 y506 y507 v501 F502 v504 F505 w495 hF hB496 hS497
      subst hk508
      refine fun a ha => hK494 _ _ (W.seq fun K510 hK510 => (W.region (wl_load_blk (i := 5) (vs := [v501, v504, (.int .i64 y506), (.int .i64 y507)]) (v := (.agg #[v501, v504, (.int .i64 y506), (.int .i64 y507)])) tf_27 rfl rfl hS497 rfl rfl rfl (wl_store_blk (i := 2) (vs := [v501, v504, (.int .i64 y506), (.int .i64 y507)]) (cs' := [v501, v504, (.int .i64 y506), (.int .i64 y507)]) tf_27 rfl rfl rfl rfl hB496 hS497 rfl rfl ⟨(hS497.own_ro (i := 3) rfl).one, (hS497.own_ro (i := 4) rfl).one, rfl, rfl, trivial⟩ rfl ?_)))) a ha
      intro w511 hk514 hB512 hS513
      refine WL.nil fun a ha => hK510 _ _ (W.ret ?_) a ha
      have hr := Option.some.inj hF
      subst hr
      exact rets (vs := [(.agg #[v501, v504, (.int .i64 y506), (.int .i64 y507)])]) hQ rfl ⟨rv_cell (i := 2) tf_27 rfl hS513 rfl rfl rfl, trivial⟩ ⟨v501, F502, v504, F505, rfl, hB512, hS513.sel [0, 1, 3, 4] rfl⟩
     refine W.seq fun K515 hK515 => W.region (wl_move rfl rfl ?_)
     obtain ⟨u516, hu516, hF⟩ := bindE hF
     refine wl_call rfl Tryz.call59 (C_spec_l1Cur__pick__mut__box w82 (x0.1, y85, y86) b0 v0_0 (h0_0.rsto (hS84.sel [0, 1] rfl)) 36 (hS84.sel [1] rfl).base0 _ hu516) rfl ?_
     rintro _ w517 ⟨rfl, hE518, hM519⟩
     refine ⟨_, rfl, ?_⟩
     have hB520 := hS84.takeB [1] rfl (M := [R.blk b0 73 [v0_0, (.int .i64 y85), (.int .u64 y86)]]) rfl hB83 hE518 hM519
     have hS521 : Sep (wE w0).heap.size w517 [R.blk b0 73 [v0_0, (.int .i64 u516.2.2.1), (.int .u64 u516.2.2.2)], R.rest w0 (fps [R.blk b0 73 [v0_0, (.int .i64 x0.2.1), (.int .u64 x0.2.2)]]), R.blk b2 27 [(.slice none 0 0), (.slice none 0 0), (.int .i64 0), (.int .i64 0)], R.own ty_51 F89 v88 l87, R.own ty_3 F92 v91 l90, R.blk b56 27 [v88, v91, (.int .i64 u38.1), (.int .i64 u50.1)]] := hS84.take [1] [0, 2, 3, 4, 5] rfl (M := [R.blk b0 73 [v0_0, (.int .i64 y85), (.int .u64 y86)]]) rfl hM519 hB83.size
     refine WL.nil fun a ha => hK515 _ _ (W.block (W.seq fun K522 hK522 => (W.region (wl_eql rfl rfl rfl (wl_assign rfl rfl (WL.nil (fun a ha => hK522 _ _ (W.cond rfl (fun h523 => ?_) (fun h523 => ?_)) a ha))))))) a ha
     ·replace hF := ifP h523 hF
      refine W.region (wl_move rfl rfl (wl_lit (vs := [(.int .i64 (-1)), (.int .i64 80), (.int .i64 81)]) (l := [(-1), 80, 81]) fl_3 Tryz.underlying25 rfl rfl rfl rfl rfl rfl hB520 hS521 ?_))
      intro v524 F525 w526 hb527 hB528 hS529
      obtain ⟨u530, hu530, hF⟩ := bindE hF
      refine wl_call rfl Tryz.call61 (C_spec_l1Cur__among__mut__box w526 (x0.1, u516.2.2.1, u516.2.2.2) b0 v0_0 (h0_0.rsto (hS529.sel [2, 1] rfl)) [(-1), 80, 81] v524 (own_out (hS529.sel [0, 1] rfl)) (hS529.sel [1] rfl).base0 _ hu530) rfl ?_
      rintro _ w531 ⟨rfl, hE532, hM533⟩
      refine ⟨_, rfl, ?_⟩
      have hB534 := hS529.takeB [1] rfl (M := [R.blk b0 73 [v0_0, (.int .i64 u516.2.2.1), (.int .u64 u516.2.2.2)]]) rfl hB528 hE532 hM533
      have hS535 : Sep (wE w0).heap.size w531 [R.blk b0 73 [v0_0, (.int .i64 u530.2.2.1), (.int .u64 u530.2.2.2)], R.own ty_3 F525 v524 [(-1), 80, 81], R.rest w0 (fps [R.blk b0 73 [v0_0, (.int .i64 x0.2.1), (.int .u64 x0.2.2)]]), R.blk b2 27 [(.slice none 0 0), (.slice none 0 0), (.int .i64 0), (.int .i64 0)], R.own ty_51 F89 v88 l87, R.own ty_3 F92 v91 l90, R.blk b56 27 [v88, v91, (.int .i64 u38.1), (.int .i64 u50.1)]] := hS529.take [1] [0, 2, 3, 4, 5, 6] rfl (M := [R.blk b0 73 [v0_0, (.int .i64 u516.2.2.1), (.int .u64 u516.2.2.2)]]) rfl hM533 hB528.size
      refine wl_field (o := 2) (off' := 2) ff_27_2 rfl rfl rfl (wl_store_blk (i := 6) (vs := [(.int .i64 u530.1)]) (cs' := [v88, v91, (.int .i64 u530.1), (.int .i64 u50.1)]) tf_3 rfl rfl rfl rfl hB534 hS535 rfl rfl ⟨rfl, trivial⟩ rfl ?_)
      intro w536 hk539 hB537 hS538
      refine WL.nil ?_
      exact fun a ha => hJ509 (u530.2.2.1) (u530.2.2.2) (l87) (l90) (u530.1) (u50.1) (v88) (F89) (v91) (F92) _ hF hB537 (hS538.sel [2, 0, 3, 4, 5, 6] rfl) a (ha.sub ⟨rfl, rfl, trivial⟩)
     ·replace hF := ifN h523 hF
      refine W.seq fun K540 hK540 => W.region (wl_eql rfl rfl rfl (wl_assign rfl rfl (WL.nil (fun a ha => hK540 _ _ (W.cond rfl (fun h541 => ?_) (fun h541 => ?_)) a ha))))
      ·replace hF := ifP h541 hF
       refine W.region (wl_move rfl rfl (wl_lit (vs := [(.int .i64 0), (.int .i64 1), (.int .i64 25)]) (l := [0, 1, 25]) fl_3 Tryz.underlying25 rfl rfl rfl rfl rfl rfl hB520 hS521 ?_))
       intro v542 F543 w544 hb545 hB546 hS547
       obtain ⟨u548, hu548, hF⟩ := bindE hF
       refine wl_call rfl Tryz.call61 (C_spec_l1Cur__among__mut__box w544 (x0.1, u516.2.2.1, u516.2.2.2) b0 v0_0 (h0_0.rsto (hS547.sel [2, 1] rfl)) [0, 1, 25] v542 (own_out (hS547.sel [0, 1] rfl)) (hS547.sel [1] rfl).base0 _ hu548) rfl ?_
       rintro _ w549 ⟨rfl, hE550, hM551⟩
       refine ⟨_, rfl, ?_⟩
       have hB552 := hS547.takeB [1] rfl (M := [R.blk b0 73 [v0_0, (.int .i64 u516.2.2.1), (.int .u64 u516.2.2.2)]]) rfl hB546 hE550 hM551
       have hS553 : Sep (wE w0).heap.size w549 [R.blk b0 73 [v0_0, (.int .i64 u548.2.2.1), (.int .u64 u548.2.2.2)], R.own ty_3 F543 v542 [0, 1, 25], R.rest w0 (fps [R.blk b0 73 [v0_0, (.int .i64 x0.2.1), (.int .u64 x0.2.2)]]), R.blk b2 27 [(.slice none 0 0), (.slice none 0 0), (.int .i64 0), (.int .i64 0)], R.own ty_51 F89 v88 l87, R.own ty_3 F92 v91 l90, R.blk b56 27 [v88, v91, (.int .i64 u38.1), (.int .i64 u50.1)]] := hS547.take [1] [0, 2, 3, 4, 5, 6] rfl (M := [R.blk b0 73 [v0_0, (.int .i64 u516.2.2.1), (.int .u64 u516.2.2.2)]]) rfl hM551 hB546.size
       refine wl_field (o := 3) (off' := 3) ff_27_3 rfl rfl rfl (wl_store_blk (i := 6) (vs := [(.int .i64 u548.1)]) (cs' := [v88, v91, (.int .i64 u38.1), (.int .i64 u548.1)]) tf_3 rfl rfl rfl rfl hB552 hS553 rfl rfl ⟨rfl, trivial⟩ rfl ?_)
       intro w554 hk557 hB555 hS556
       refine WL.nil ?_
       exact fun a ha => hJ509 (u548.2.2.1) (u548.2.2.2) (l87) (l90) (u38.1) (u548.1) (v88) (F89) (v91) (F92) _ hF hB555 (hS556.sel [2, 0, 3, 4, 5, 6] rfl) a (ha.sub ⟨rfl, rfl, trivial⟩)
      ·replace hF := ifN h541 hF
       refine W.seq fun K558 hK558 => W.region (wl_eql rfl rfl rfl (wl_assign rfl rfl (WL.nil (fun a ha => hK558 _ _ (W.cond rfl (fun h559 => ?_) (fun h559 => ?_)) a ha))))
       ·replace hF := ifP h559 hF
        refine W.regionH mixed_ (([b0] ++ F92) ++ [b56]) hB520 hS521 ?_
        intro w560 hb561 hB562 hS563
        have hSW564 := KeepX.refl w560 (([b0] ++ F92) ++ [b56])
        refine WH.tk 0 rfl hP hSW564 (pr_field (o := 1) (off' := 1) ff_27_1 rfl rfl rfl (WH.tk 2 rfl hP hSW564 (pr_move rfl rfl (WH.many (is := [1, 3]) (by kernel_rfl) rfl (List.forall_mem_cons.2 ⟨⟨_, rfl, ?_⟩, List.forall_mem_cons.2 ⟨⟨_, rfl, ?_⟩, fun _ h => by cases h⟩⟩)))))
        ·
         refine wl_load_blk (i := 5) (vs := [v91]) (v := v91) tf_25 rfl rfl hS563 rfl rfl rfl (WL.nil (WH.ret hSW564 (WH.on1 3 rfl (wl_lit (vs := [(.int .i64 0), (.int .i64 64), (.int .i64 65)]) (l := [0, 64, 65]) fl_3 Tryz.underlying25 rfl rfl rfl rfl rfl rfl (Below.self w560) (Sep.nil _ _) ?_))))
         intro v565 F566 w567 hb568 hB571 hM572
         have hB569 := hB562.trans (hb568.mono hB562.size)
         have hS570 := hS563.join hb568 hM572 hB562.size
         have hSW574 := hSW564.ext hb568
         refine WL.nil (WH.ret hSW574 (WH.on1 4 rfl ?_))
         obtain ⟨u576, hu576, hF⟩ := bindE hF
         refine wl_call rfl Tryz.call61 (C_spec_l1Cur__among__mut__box w567 (x0.1, u516.2.2.1, u516.2.2.2) b0 v0_0 (h0_0.rsto (hS570.sel [2, 1] rfl)) [0, 64, 65] v565 (own_out (hS570.sel [0, 1] rfl)) (hS570.sel [1] rfl).base0 _ hu576) rfl ?_
         rintro _ w577 ⟨rfl, hE578, hM579⟩
         refine ⟨_, rfl, ?_⟩
         have hB580 := hS570.takeB [1] rfl (M := [R.blk b0 73 [v0_0, (.int .i64 u516.2.2.1), (.int .u64 u516.2.2.2)]]) rfl hB569 hE578 hM579
         have hS581 : Sep (wE w0).heap.size w577 [R.blk b0 73 [v0_0, (.int .i64 u576.2.2.1), (.int .u64 u576.2.2.2)], R.own ty_3 F566 v565 [0, 64, 65], R.rest w0 (fps [R.blk b0 73 [v0_0, (.int .i64 x0.2.1), (.int .u64 x0.2.2)]]), R.blk b2 27 [(.slice none 0 0), (.slice none 0 0), (.int .i64 0), (.int .i64 0)], R.own ty_51 F89 v88 l87, R.own ty_3 F92 v91 l90, R.blk b56 27 [v88, v91, (.int .i64 u38.1), (.int .i64 u50.1)]] := hS570.take [1] [0, 2, 3, 4, 5, 6] rfl (M := [R.blk b0 73 [v0_0, (.int .i64 u516.2.2.1), (.int .u64 u516.2.2.2)]]) rfl hM579 hB569.size
         have hk582 := box_kept hM579
         have hSW583 := hSW574.wr' hk582.1 hk582.2.1 (fun _ _ h => List.mem_append_left _ (List.mem_append_left _ (h)))
         refine WL.nil (WH.ret hSW583 (WH.on1 5 rfl ?_))
         obtain ⟨u585, hu585, hF⟩ := bindE hF
         refine wl_indexoF (e := ty_3) (i := 5) Tryz.underlying25 rfl rfl rfl hS581 rfl hu585 ?_
         rintro p586 _ rfl hp587 ho588
         refine WL.nil (WH.ret hSW583 (WH.on1 6 rfl (wl_storeo (i := 5) (o := 0) (vs := [(.int .i64 u576.1)]) (u' := u576.1) fl_3 tf_3 rfl rfl rfl rfl ho588 hu585 hB580 hS581 rfl rfl ⟨rfl, trivial⟩ rfl ?_)))
         intro w589 hk592 hB590 hS591
         have hSW593 := hSW583.wr' hk592.1 hk592.2.1 (fun _ _ h => List.mem_append_left _ (List.mem_append_right _ h))
         refine WL.nil (WH.ret hSW593 (WH.done (by kernel_rfl) ?_))
         exact fun a ha => hJ509 (u576.2.2.1) (u576.2.2.2) (l87) ((seti l90 0 u576.1)) (u38.1) (u50.1) (v88) (F89) (v91) (F92) _ hF hB590 (hS591.sel [2, 0, 3, 4, 5, 6] rfl) a (ha.sub ⟨rfl, rfl, trivial⟩)
        ·
         refine wl_lit (vs := [(.int .i64 0), (.int .i64 64), (.int .i64 65)]) (l := [0, 64, 65]) fl_3 Tryz.underlying25 rfl rfl rfl rfl rfl rfl (Below.self w560) (Sep.nil _ _) ?_
         intro v595 F596 w597 hb598 hB601 hM602
         have hB599 := hB562.trans (hb598.mono hB562.size)
         have hS600 := hS563.join hb598 hM602 hB562.size
         have hSW604 := hSW564.ext hb598
         refine WL.nil (WH.ret hSW604 (WH.many (is := [1, 4]) (by kernel_rfl) rfl (List.forall_mem_cons.2 ⟨⟨_, rfl, ?_⟩, List.forall_mem_cons.2 ⟨⟨_, rfl, ?_⟩, fun _ h => by cases h⟩⟩)))
         ·
          refine wl_load_blk (i := 6) (vs := [v91]) (v := v91) tf_25 rfl rfl hS600 rfl rfl rfl (WL.nil (WH.ret hSW604 (WH.on1 4 rfl ?_)))
          obtain ⟨u606, hu606, hF⟩ := bindE hF
          refine wl_call rfl Tryz.call61 (C_spec_l1Cur__among__mut__box w597 (x0.1, u516.2.2.1, u516.2.2.2) b0 v0_0 (h0_0.rsto (hS600.sel [2, 1] rfl)) [0, 64, 65] v595 (own_out (hS600.sel [0, 1] rfl)) (hS600.sel [1] rfl).base0 _ hu606) rfl ?_
          rintro _ w607 ⟨rfl, hE608, hM609⟩
          refine ⟨_, rfl, ?_⟩
          have hB610 := hS600.takeB [1] rfl (M := [R.blk b0 73 [v0_0, (.int .i64 u516.2.2.1), (.int .u64 u516.2.2.2)]]) rfl hB599 hE608 hM609
          have hS611 : Sep (wE w0).heap.size w607 [R.blk b0 73 [v0_0, (.int .i64 u606.2.2.1), (.int .u64 u606.2.2.2)], R.own ty_3 F596 v595 [0, 64, 65], R.rest w0 (fps [R.blk b0 73 [v0_0, (.int .i64 x0.2.1), (.int .u64 x0.2.2)]]), R.blk b2 27 [(.slice none 0 0), (.slice none 0 0), (.int .i64 0), (.int .i64 0)], R.own ty_51 F89 v88 l87, R.own ty_3 F92 v91 l90, R.blk b56 27 [v88, v91, (.int .i64 u38.1), (.int .i64 u50.1)]] := hS600.take [1] [0, 2, 3, 4, 5, 6] rfl (M := [R.blk b0 73 [v0_0, (.int .i64 u516.2.2.1), (.int .u64 u516.2.2.2)]]) rfl hM609 hB599.size
          have hk612 := box_kept hM609
          have hSW613 := hSW604.wr' hk612.1 hk612.2.1 (fun _ _ h => List.mem_append_left _ (List.mem_append_left _ (h)))
          refine WL.nil (WH.ret hSW613 (WH.on1 5 rfl ?_))
          obtain ⟨u615, hu615, hF⟩ := bindE hF
          refine wl_indexoF (e := ty_3) (i := 5) Tryz.underlying25 rfl rfl rfl hS611 rfl hu615 ?_
          rintro p616 _ rfl hp617 ho618
          refine WL.nil (WH.ret hSW613 (WH.on1 6 rfl (wl_storeo (i := 5) (o := 0) (vs := [(.int .i64 u606.1)]) (u' := u606.1) fl_3 tf_3 rfl rfl rfl rfl ho618 hu615 hB610 hS611 rfl rfl ⟨rfl, trivial⟩ rfl ?_)))
          intro w619 hk622 hB620 hS621
          have hSW623 := hSW613.wr' hk622.1 hk622.2.1 (fun _ _ h => List.mem_append_left _ (List.mem_append_right _ h))
          refine WL.nil (WH.ret hSW623 (WH.done (by kernel_rfl) ?_))
          exact fun a ha => hJ509 (u606.2.2.1) (u606.2.2.2) (l87) ((seti l90 0 u606.1)) (u38.1) (u50.1) (v88) (F89) (v91) (F92) _ hF hB620 (hS621.sel [2, 0, 3, 4, 5, 6] rfl) a (ha.sub ⟨rfl, rfl, trivial⟩)
         ·
          obtain ⟨u625, hu625, hF⟩ := bindE hF
          refine wl_call rfl Tryz.call61 (C_spec_l1Cur__among__mut__box w597 (x0.1, u516.2.2.1, u516.2.2.2) b0 v0_0 (h0_0.rsto (hS600.sel [2, 1] rfl)) [0, 64, 65] v595 (own_out (hS600.sel [0, 1] rfl)) (hS600.sel [1] rfl).base0 _ hu625) rfl ?_
          rintro _ w626 ⟨rfl, hE627, hM628⟩
          refine ⟨_, rfl, ?_⟩
          have hB629 := hS600.takeB [1] rfl (M := [R.blk b0 73 [v0_0, (.int .i64 u516.2.2.1), (.int .u64 u516.2.2.2)]]) rfl hB599 hE627 hM628
          have hS630 : Sep (wE w0).heap.size w626 [R.blk b0 73 [v0_0, (.int .i64 u625.2.2.1), (.int .u64 u625.2.2.2)], R.own ty_3 F596 v595 [0, 64, 65], R.rest w0 (fps [R.blk b0 73 [v0_0, (.int .i64 x0.2.1), (.int .u64 x0.2.2)]]), R.blk b2 27 [(.slice none 0 0), (.slice none 0 0), (.int .i64 0), (.int .i64 0)], R.own ty_51 F89 v88 l87, R.own ty_3 F92 v91 l90, R.blk b56 27 [v88, v91, (.int .i64 u38.1), (.int .i64 u50.1)]] := hS600.take [1] [0, 2, 3, 4, 5, 6] rfl (M := [R.blk b0 73 [v0_0, (.int .i64 u516.2.2.1), (.int .u64 u516.2.2.2)]]) rfl hM628 hB599.size
          have hk631 := box_kept hM628
          have hSW632 := hSW604.wr' hk631.1 hk631.2.1 (fun _ _ h => List.mem_append_left _ (List.mem_append_left _ (h)))
          refine WL.nil (WH.ret hSW632 (WH.on1 1 rfl (wl_load_blk (i := 6) (vs := [v91]) (v := v91) tf_25 rfl rfl hS630 rfl rfl rfl (WL.nil (WH.ret hSW632 (WH.on1 5 rfl ?_))))))
          obtain ⟨u634, hu634, hF⟩ := bindE hF
          refine wl_indexoF (e := ty_3) (i := 5) Tryz.underlying25 rfl rfl rfl hS630 rfl hu634 ?_
          rintro p635 _ rfl hp636 ho637
          refine WL.nil (WH.ret hSW632 (WH.on1 6 rfl (wl_storeo (i := 5) (o := 0) (vs := [(.int .i64 u625.1)]) (u' := u625.1) fl_3 tf_3 rfl rfl rfl rfl ho637 hu634 hB629 hS630 rfl rfl ⟨rfl, trivial⟩ rfl ?_)))
          intro w638 hk641 hB639 hS640
          have hSW642 := hSW632.wr' hk641.1 hk641.2.1 (fun _ _ h => List.mem_append_left _ (List.mem_append_right _ h))
          refine WL.nil (WH.ret hSW642 (WH.done (by kernel_rfl) ?_))
          exact fun a ha => hJ509 (u625.2.2.1) (u625.2.2.2) (l87) ((seti l90 0 u625.1)) (u38.1) (u50.1) (v88) (F89) (v91) (F92) _ hF hB639 (hS640.sel [2, 0, 3, 4, 5, 6] rfl) a (ha.sub ⟨rfl, rfl, trivial⟩)
       ·replace hF := ifN h559 hF
        refine W.seq fun K644 hK644 => W.region (wl_eql rfl rfl rfl (wl_assign rfl rfl (WL.nil (fun a ha => hK644 _ _ (W.cond rfl (fun h645 => ?_) (fun h645 => ?_)) a ha))))
        ·replace hF := ifP h645 hF
         refine W.regionH mixed_ (([b0] ++ F89) ++ [b56]) hB520 hS521 ?_
         intro w646 hb647 hB648 hS649
         have hSW650 := KeepX.refl w646 (([b0] ++ F89) ++ [b56])
         refine WH.tk 0 rfl hP hSW650 (pr_field (o := 0) (off' := 0) ff_27_0 rfl rfl rfl (WH.tk 2 rfl hP hSW650 (pr_field (o := 0) (off' := 0) ff_27_0 rfl rfl rfl (WH.tk 6 rfl hP hSW650 (pr_move rfl rfl (WH.many (is := [1, 3, 7]) (by kernel_rfl) rfl (List.forall_mem_cons.2 ⟨⟨_, rfl, ?_⟩, List.forall_mem_cons.2 ⟨⟨_, rfl, ?_⟩, List.forall_mem_cons.2 ⟨⟨_, rfl, ?_⟩, fun _ h => by cases h⟩⟩⟩)))))))
         ·
          refine wl_load_blk (i := 5) (vs := [v88]) (v := v88) tf_24 rfl rfl hS649 rfl rfl rfl (WL.nil (WH.ret hSW650 (WH.many (is := [3, 7]) (by kernel_rfl) rfl (List.forall_mem_cons.2 ⟨⟨_, rfl, ?_⟩, List.forall_mem_cons.2 ⟨⟨_, rfl, ?_⟩, fun _ h => by cases h⟩⟩))))
          ·
           refine wl_load_blk (i := 5) (vs := [v88]) (v := v88) tf_24 rfl rfl hS649 rfl rfl rfl (WL.nil (WH.ret hSW650 (WH.tk 4 rfl hP hSW650 (pr_lenr (e := ty_51) (l := l87) Tryz.underlying24 rfl rfl (hS649.own_ro (i := 3) rfl) (WH.tk 5 rfl hP hSW650 (pr_sub rfl rfl rfl (WH.on1 7 rfl ?_)))))))
           obtain ⟨u651, hu651, hF⟩ := bindE hF
           refine wl_call rfl Tryz.call66 (C_spec_l1Cur__anyChart__mut__box w646 (x0.1, u516.2.2.1, u516.2.2.2) b0 v0_0 (h0_0.rsto (hS649.sel [1, 0] rfl)) (hS649.sel [0] rfl).base0 _ hu651) rfl ?_
           rintro _ w652 ⟨v657, F658, rfl, hE653, hM654⟩
           refine ⟨_, rfl, ?_⟩
           have hB655 := hS649.takeB [0] rfl (M := [R.blk b0 73 [v0_0, (.int .i64 u516.2.2.1), (.int .u64 u516.2.2.2)]]) rfl hB648 hE653 hM654
           have hS656 : Sep (wE w0).heap.size w652 [R.blk b0 73 [v0_0, (.int .i64 u651.2.2.1), (.int .u64 u651.2.2.2)], R.own ty_38 F658 v657 u651.1, R.rest w0 (fps [R.blk b0 73 [v0_0, (.int .i64 x0.2.1), (.int .u64 x0.2.2)]]), R.blk b2 27 [(.slice none 0 0), (.slice none 0 0), (.int .i64 0), (.int .i64 0)], R.own ty_51 F89 v88 l87, R.own ty_3 F92 v91 l90, R.blk b56 27 [v88, v91, (.int .i64 u38.1), (.int .i64 u50.1)]] := hS649.take [0] [1, 2, 3, 4, 5] rfl (M := [R.blk b0 73 [v0_0, (.int .i64 u516.2.2.1), (.int .u64 u516.2.2.2)]]) rfl hM654 hB648.size
           have hk659 := box_kept hM654
           have hSW661 := hSW650.wr' hk659.1 hk659.2.1 (fun _ _ h => List.mem_append_left _ (List.mem_append_left _ (h)))
           refine WL.nil (WH.ret hSW661 (WH.on1 8 rfl ?_))
           obtain ⟨u663, hu663, hF⟩ := bindE hF
           refine wl_indexoF (e := ty_51) (i := 4) Tryz.underlying24 rfl rfl rfl hS656 rfl hu663 ?_
           rintro p664 _ ⟨v666, rfl, hv667⟩ hp665 ho668
           refine WL.nil (WH.ret hSW661 (WH.on1 9 rfl (wl_storenk (vs := [v657]) (u' := u651.1) tf_51 rfl rfl (cells_one (hS656.own_ro (i := 1) rfl).one) rfl ho668 hu663 hB655 (((hS656.sel [1, 4, 0, 2, 3, 5, 6] rfl).cel1 (e := ty_51) (fun _ _ _ _ h => ⟨_, rfl, h⟩)).sel [1, 0, 2, 3, 4, 5, 6] rfl) rfl ⟨(hS656.own_ro (i := 1) rfl).one, trivial⟩ ?_)))
           intro w669 F672 hk673 hB670 hS671
           have hSW674 := hSW661.wr' hk673.1 hk673.2.1 (fun _ _ h => List.mem_append_left _ (List.mem_append_right _ h))
           refine WL.nil (WH.ret hSW674 (WH.done (by kernel_rfl) ?_))
           exact fun a ha => hJ509 (u651.2.2.1) (u651.2.2.2) ((seti l87 (w64 ((List.length l87 : Int) - 1)) u651.1)) (l90) (u38.1) (u50.1) (v88) (F672) (v91) (F92) _ hF hB670 (hS671.sel [2, 1, 3, 0, 4, 5] rfl) a (ha.sub ⟨rfl, rfl, trivial⟩)
          ·
           obtain ⟨u676, hu676, hF⟩ := bindE hF
           refine wl_call rfl Tryz.call66 (C_spec_l1Cur__anyChart__mut__box w646 (x0.1, u516.2.2.1, u516.2.2.2) b0 v0_0 (h0_0.rsto (hS649.sel [1, 0] rfl)) (hS649.sel [0] rfl).base0 _ hu676) rfl ?_
           rintro _ w677 ⟨v682, F683, rfl, hE678, hM679⟩
           refine ⟨_, rfl, ?_⟩
           have hB680 := hS649.takeB [0] rfl (M := [R.blk b0 73 [v0_0, (.int .i64 u516.2.2.1), (.int .u64 u516.2.2.2)]]) rfl hB648 hE678 hM679
           have hS681 : Sep (wE w0).heap.size w677 [R.blk b0 73 [v0_0, (.int .i64 u676.2.2.1), (.int .u64 u676.2.2.2)], R.own ty_38 F683 v682 u676.1, R.rest w0 (fps [R.blk b0 73 [v0_0, (.int .i64 x0.2.1), (.int .u64 x0.2.2)]]), R.blk b2 27 [(.slice none 0 0), (.slice none 0 0), (.int .i64 0), (.int .i64 0)], R.own ty_51 F89 v88 l87, R.own ty_3 F92 v91 l90, R.blk b56 27 [v88, v91, (.int .i64 u38.1), (.int .i64 u50.1)]] := hS649.take [0] [1, 2, 3, 4, 5] rfl (M := [R.blk b0 73 [v0_0, (.int .i64 u516.2.2.1), (.int .u64 u516.2.2.2)]]) rfl hM679 hB648.size
           have hk684 := box_kept hM679
           have hSW686 := hSW650.wr' hk684.1 hk684.2.1 (fun _ _ h => List.mem_append_left _ (List.mem_append_left _ (h)))
           refine WL.nil (WH.ret hSW686 (WH.on1 3 rfl (wl_load_blk (i := 6) (vs := [v88]) (v := v88) tf_24 rfl rfl hS681 rfl rfl rfl (WL.nil (WH.ret hSW686 (WH.tk 4 rfl hP hSW686 (pr_lenr (e := ty_51) (l := l87) Tryz.underlying24 rfl rfl (hS681.own_ro (i := 4) rfl) (WH.tk 5 rfl hP hSW686 (pr_sub rfl rfl rfl (WH.on1 8 rfl ?_))))))))))
           obtain ⟨u688, hu688, hF⟩ := bindE hF
           refine wl_indexoF (e := ty_51) (i := 4) Tryz.underlying24 rfl rfl rfl hS681 rfl hu688 ?_
           rintro p689 _ ⟨v691, rfl, hv692⟩ hp690 ho693
           refine WL.nil (WH.ret hSW686 (WH.on1 9 rfl (wl_storenk (vs := [v682]) (u' := u676.1) tf_51 rfl rfl (cells_one (hS681.own_ro (i := 1) rfl).one) rfl ho693 hu688 hB680 (((hS681.sel [1, 4, 0, 2, 3, 5, 6] rfl).cel1 (e := ty_51) (fun _ _ _ _ h => ⟨_, rfl, h⟩)).sel [1, 0, 2, 3, 4, 5, 6] rfl) rfl ⟨(hS681.own_ro (i := 1) rfl).one, trivial⟩ ?_)))
           intro w694 F697 hk698 hB695 hS696
           have hSW699 := hSW686.wr' hk698.1 hk698.2.1 (fun _ _ h => List.mem_append_left _ (List.mem_append_right _ h))
           refine WL.nil (WH.ret hSW699 (WH.done (by kernel_rfl) ?_))
           exact fun a ha => hJ509 (u676.2.2.1) (u676.2.2.2) ((seti l87 (w64 ((List.length l87 : Int) - 1)) u676.1)) (l90) (u38.1) (u50.1) (v88) (F697) (v91) (F92) _ hF hB695 (hS696.sel [2, 1, 3, 0, 4, 5] rfl) a (ha.sub ⟨rfl, rfl, trivial⟩)
         ·
          refine wl_load_blk (i := 5) (vs := [v88]) (v := v88) tf_24 rfl rfl hS649 rfl rfl rfl (WL.nil (WH.ret hSW650 (WH.tk 4 rfl hP hSW650 (pr_lenr (e := ty_51) (l := l87) Tryz.underlying24 rfl rfl (hS649.own_ro (i := 3) rfl) (WH.tk 5 rfl hP hSW650 (pr_sub rfl rfl rfl (WH.many (is := [1, 7]) (by kernel_rfl) rfl (List.forall_mem_cons.2 ⟨⟨_, rfl, ?_⟩, List.forall_mem_cons.2 ⟨⟨_, rfl, ?_⟩, fun _ h => by cases h⟩⟩))))))))
          ·
           refine wl_load_blk (i := 5) (vs := [v88]) (v := v88) tf_24 rfl rfl hS649 rfl rfl rfl (WL.nil (WH.ret hSW650 (WH.on1 7 rfl ?_)))
           obtain ⟨u701, hu701, hF⟩ := bindE hF
           refine wl_call rfl Tryz.call66 (C_spec_l1Cur__anyChart__mut__box w646 (x0.1, u516.2.2.1, u516.2.2.2) b0 v0_0 (h0_0.rsto (hS649.sel [1, 0] rfl)) (hS649.sel [0] rfl).base0 _ hu701) rfl ?_
           rintro _ w702 ⟨v707, F708, rfl, hE703, hM704⟩
           refine ⟨_, rfl, ?_⟩
           have hB705 := hS649.takeB [0] rfl (M := [R.blk b0 73 [v0_0, (.int .i64 u516.2.2.1), (.int .u64 u516.2.2.2)]]) rfl hB648 hE703 hM704
           have hS706 : Sep (wE w0).heap.size w702 [R.blk b0 73 [v0_0, (.int .i64 u701.2.2.1), (.int .u64 u701.2.2.2)], R.own ty_38 F708 v707 u701.1, R.rest w0 (fps [R.blk b0 73 [v0_0, (.int .i64 x0.2.1), (.int .u64 x0.2.2)]]), R.blk b2 27 [(.slice none 0 0), (.slice none 0 0), (.int .i64 0), (.int .i64 0)], R.own ty_51 F89 v88 l87, R.own ty_3 F92 v91 l90, R.blk b56 27 [v88, v91, (.int .i64 u38.1), (.int .i64 u50.1)]] := hS649.take [0] [1, 2, 3, 4, 5] rfl (M := [R.blk b0 73 [v0_0, (.int .i64 u516.2.2.1), (.int .u64 u516.2.2.2)]]) rfl hM704 hB648.size
           have hk709 := box_kept hM704
           have hSW711 := hSW650.wr' hk709.1 hk709.2.1 (fun _ _ h => List.mem_append_left _ (List.mem_append_left _ (h)))
           refine WL.nil (WH.ret hSW711 (WH.on1 8 rfl ?_))
           obtain ⟨u713, hu713, hF⟩ := bindE hF
           refine wl_indexoF (e := ty_51) (i := 4) Tryz.underlying24 rfl rfl rfl hS706 rfl hu713 ?_
           rintro p714 _ ⟨v716, rfl, hv717⟩ hp715 ho718
           refine WL.nil (WH.ret hSW711 (WH.on1 9 rfl (wl_storenk (vs := [v707]) (u' := u701.1) tf_51 rfl rfl (cells_one (hS706.own_ro (i := 1) rfl).one) rfl ho718 hu713 hB705 (((hS706.sel [1, 4, 0, 2, 3, 5, 6] rfl).cel1 (e := ty_51) (fun _ _ _ _ h => ⟨_, rfl, h⟩)).sel [1, 0, 2, 3, 4, 5, 6] rfl) rfl ⟨(hS706.own_ro (i := 1) rfl).one, trivial⟩ ?_)))
           intro w719 F722 hk723 hB720 hS721
           have hSW724 := hSW711.wr' hk723.1 hk723.2.1 (fun _ _ h => List.mem_append_left _ (List.mem_append_right _ h))
           refine WL.nil (WH.ret hSW724 (WH.done (by kernel_rfl) ?_))
           exact fun a ha => hJ509 (u701.2.2.1) (u701.2.2.2) ((seti l87 (w64 ((List.length l87 : Int) - 1)) u701.1)) (l90) (u38.1) (u50.1) (v88) (F722) (v91) (F92) _ hF hB720 (hS721.sel [2, 1, 3, 0, 4, 5] rfl) a (ha.sub ⟨rfl, rfl, trivial⟩)
          ·
           obtain ⟨u726, hu726, hF⟩ := bindE hF
           refine wl_call rfl Tryz.call66 (C_spec_l1Cur__anyChart__mut__box w646 (x0.1, u516.2.2.1, u516.2.2.2) b0 v0_0 (h0_0.rsto (hS649.sel [1, 0] rfl)) (hS649.sel [0] rfl).base0 _ hu726) rfl ?_
           rintro _ w727 ⟨v732, F733, rfl, hE728, hM729⟩
           refine ⟨_, rfl, ?_⟩
           have hB730 := hS649.takeB [0] rfl (M := [R.blk b0 73 [v0_0, (.int .i64 u516.2.2.1), (.int .u64 u516.2.2.2)]]) rfl hB648 hE728 hM729
           have hS731 : Sep (wE w0).heap.size w727 [R.blk b0 73 [v0_0, (.int .i64 u726.2.2.1), (.int .u64 u726.2.2.2)], R.own ty_38 F733 v732 u726.1, R.rest w0 (fps [R.blk b0 73 [v0_0, (.int .i64 x0.2.1), (.int .u64 x0.2.2)]]), R.blk b2 27 [(.slice none 0 0), (.slice none 0 0), (.int .i64 0), (.int .i64 0)], R.own ty_51 F89 v88 l87, R.own ty_3 F92 v91 l90, R.blk b56 27 [v88, v91, (.int .i64 u38.1), (.int .i64 u50.1)]] := hS649.take [0] [1, 2, 3, 4, 5] rfl (M := [R.blk b0 73 [v0_0, (.int .i64 u516.2.2.1), (.int .u64 u516.2.2.2)]]) rfl hM729 hB648.size
           have hk734 := box_kept hM729
           have hSW736 := hSW650.wr' hk734.1 hk734.2.1 (fun _ _ h => List.mem_append_left _ (List.mem_append_left _ (h)))
           refine WL.nil (WH.ret hSW736 (WH.on1 1 rfl (wl_load_blk (i := 6) (vs := [v88]) (v := v88) tf_24 rfl rfl hS731 rfl rfl rfl (WL.nil (WH.ret hSW736 (WH.on1 8 rfl ?_))))))
           obtain ⟨u738, hu738, hF⟩ := bindE hF
           refine wl_indexoF (e := ty_51) (i := 4) Tryz.underlying24 rfl rfl rfl hS731 rfl hu738 ?_
           rintro p739 _ ⟨v741, rfl, hv742⟩ hp740 ho743
           refine WL.nil (WH.ret hSW736 (WH.on1 9 rfl (wl_storenk (vs := [v732]) (u' := u726.1) tf_51 rfl rfl (cells_one (hS731.own_ro (i := 1) rfl).one) rfl ho743 hu738 hB730 (((hS731.sel [1, 4, 0, 2, 3, 5, 6] rfl).cel1 (e := ty_51) (fun _ _ _ _ h => ⟨_, rfl, h⟩)).sel [1, 0, 2, 3, 4, 5, 6] rfl) rfl ⟨(hS731.own_ro (i := 1) rfl).one, trivial⟩ ?_)))
           intro w744 F747 hk748 hB745 hS746
           have hSW749 := hSW736.wr' hk748.1 hk748.2.1 (fun _ _ h => List.mem_append_left _ (List.mem_append_right _ h))
           refine WL.nil (WH.ret hSW749 (WH.done (by kernel_rfl) ?_))
           exact fun a ha => hJ509 (u726.2.2.1) (u726.2.2.2) ((seti l87 (w64 ((List.length l87 : Int) - 1)) u726.1)) (l90) (u38.1) (u50.1) (v88) (F747) (v91) (F92) _ hF hB745 (hS746.sel [2, 1, 3, 0, 4, 5] rfl) a (ha.sub ⟨rfl, rfl, trivial⟩)
         ·
          obtain ⟨u751, hu751, hF⟩ := bindE hF
          refine wl_call rfl Tryz.call66 (C_spec_l1Cur__anyChart__mut__box w646 (x0.1, u516.2.2.1, u516.2.2.2) b0 v0_0 (h0_0.rsto (hS649.sel [1, 0] rfl)) (hS649.sel [0] rfl).base0 _ hu751) rfl ?_
          rintro _ w752 ⟨v757, F758, rfl, hE753, hM754⟩
          refine ⟨_, rfl, ?_⟩
          have hB755 := hS649.takeB [0] rfl (M := [R.blk b0 73 [v0_0, (.int .i64 u516.2.2.1), (.int .u64 u516.2.2.2)]]) rfl hB648 hE753 hM754
          have hS756 : Sep (wE w0).heap.size w752 [R.blk b0 73 [v0_0, (.int .i64 u751.2.2.1), (.int .u64 u751.2.2.2)], R.own ty_38 F758 v757 u751.1, R.rest w0 (fps [R.blk b0 73 [v0_0, (.int .i64 x0.2.1), (.int .u64 x0.2.2)]]), R.blk b2 27 [(.slice none 0 0), (.slice none 0 0), (.int .i64 0), (.int .i64 0)], R.own ty_51 F89 v88 l87, R.own ty_3 F92 v91 l90, R.blk b56 27 [v88, v91, (.int .i64 u38.1), (.int .i64 u50.1)]] := hS649.take [0] [1, 2, 3, 4, 5] rfl (M := [R.blk b0 73 [v0_0, (.int .i64 u516.2.2.1), (.int .u64 u516.2.2.2)]]) rfl hM754 hB648.size
          have hk759 := box_kept hM754
          have hSW761 := hSW650.wr' hk759.1 hk759.2.1 (fun _ _ h => List.mem_append_left _ (List.mem_append_left _ (h)))
          refine WL.nil (WH.ret hSW761 (WH.many (is := [1, 3]) (by kernel_rfl) rfl (List.forall_mem_cons.2 ⟨⟨_, rfl, ?_⟩, List.forall_mem_cons.2 ⟨⟨_, rfl, ?_⟩, fun _ h => by cases h⟩⟩)))
          ·
           refine wl_load_blk (i := 6) (vs := [v88]) (v := v88) tf_24 rfl rfl hS756 rfl rfl rfl (WL.nil (WH.ret hSW761 (WH.on1 3 rfl (wl_load_blk (i := 6) (vs := [v88]) (v := v88) tf_24 rfl rfl hS756 rfl rfl rfl (WL.nil (WH.ret hSW761 (WH.tk 4 rfl hP hSW761 (pr_lenr (e := ty_51) (l := l87) Tryz.underlying24 rfl rfl (hS756.own_ro (i := 4) rfl) (WH.tk 5 rfl hP hSW761 (pr_sub rfl rfl rfl (WH.on1 8 rfl ?_)))))))))))
           obtain ⟨u763, hu763, hF⟩ := bindE hF
           refine wl_indexoF (e := ty_51) (i := 4) Tryz.underlying24 rfl rfl rfl hS756 rfl hu763 ?_
           rintro p764 _ ⟨v766, rfl, hv767⟩ hp765 ho768
           refine WL.nil (WH.ret hSW761 (WH.on1 9 rfl (wl_storenk (vs := [v757]) (u' := u751.1) tf_51 rfl rfl (cells_one (hS756.own_ro (i := 1) rfl).one) rfl ho768 hu763 hB755 (((hS756.sel [1, 4, 0, 2, 3, 5, 6] rfl).cel1 (e := ty_51) (fun _ _ _ _ h => ⟨_, rfl, h⟩)).sel [1, 0, 2, 3, 4, 5, 6] rfl) rfl ⟨(hS756.own_ro (i := 1) rfl).one, trivial⟩ ?_)))
           intro w769 F772 hk773 hB770 hS771
           have hSW774 := hSW761.wr' hk773.1 hk773.2.1 (fun _ _ h => List.mem_append_left _ (List.mem_append_right _ h))
           refine WL.nil (WH.ret hSW774 (WH.done (by kernel_rfl) ?_))
           exact fun a ha => hJ509 (u751.2.2.1) (u751.2.2.2) ((seti l87 (w64 ((List.length l87 : Int) - 1)) u751.1)) (l90) (u38.1) (u50.1) (v88) (F772) (v91) (F92) _ hF hB770 (hS771.sel [2, 1, 3, 0, 4, 5] rfl) a (ha.sub ⟨rfl, rfl, trivial⟩)
          ·
           refine wl_load_blk (i := 6) (vs := [v88]) (v := v88) tf_24 rfl rfl hS756 rfl rfl rfl (WL.nil (WH.ret hSW761 (WH.tk 4 rfl hP hSW761 (pr_lenr (e := ty_51) (l := l87) Tryz.underlying24 rfl rfl (hS756.own_ro (i := 4) rfl) (WH.tk 5 rfl hP hSW761 (pr_sub rfl rfl rfl (WH.on1 1 rfl (wl_load_blk (i := 6) (vs := [v88]) (v := v88) tf_24 rfl rfl hS756 rfl rfl rfl (WL.nil (WH.ret hSW761 (WH.on1 8 rfl ?_)))))))))))
           obtain ⟨u776, hu776, hF⟩ := bindE hF
           refine wl_indexoF (e := ty_51) (i := 4) Tryz.underlying24 rfl rfl rfl hS756 rfl hu776 ?_
           rintro p777 _ ⟨v779, rfl, hv780⟩ hp778 ho781
           refine WL.nil (WH.ret hSW761 (WH.on1 9 rfl (wl_storenk (vs := [v757]) (u' := u751.1) tf_51 rfl rfl (cells_one (hS756.own_ro (i := 1) rfl).one) rfl ho781 hu776 hB755 (((hS756.sel [1, 4, 0, 2, 3, 5, 6] rfl).cel1 (e := ty_51) (fun _ _ _ _ h => ⟨_, rfl, h⟩)).sel [1, 0, 2, 3, 4, 5, 6] rfl) rfl ⟨(hS756.own_ro (i := 1) rfl).one, trivial⟩ ?_)))
           intro w782 F785 hk786 hB783 hS784
           have hSW787 := hSW761.wr' hk786.1 hk786.2.1 (fun _ _ h => List.mem_append_left _ (List.mem_append_right _ h))
           refine WL.nil (WH.ret hSW787 (WH.done (by kernel_rfl) ?_))
           exact fun a ha => hJ509 (u751.2.2.1) (u751.2.2.2) ((seti l87 (w64 ((List.length l87 : Int) - 1)) u751.1)) (l90) (u38.1) (u50.1) (v88) (F785) (v91) (F92) _ hF hB783 (hS784.sel [2, 1, 3, 0, 4, 5] rfl) a (ha.sub ⟨rfl, rfl, trivial⟩)
        ·replace hF := ifN h645 hF
         refine W.seq fun K789 hK789 => W.region (wl_eql rfl rfl rfl (wl_assign rfl rfl (WL.nil (fun a ha => hK789 _ _ (W.cond rfl (fun h790 => ?_) (fun h790 => ?_)) a ha))))
         ·replace hF := ifP h790 hF
          refine W.region (wl_field (o := 1) (off' := 1) ff_27_1 rfl rfl rfl (wl_load_blk (i := 5) (vs := [v91]) (v := v91) tf_25 rfl rfl hS521 rfl rfl rfl (wl_lit (vs := [(.int .i64 8)]) (l := [8]) fl_3 Tryz.underlying25 rfl rfl rfl rfl rfl rfl hB520 hS521 ?_)))
          intro v791 F792 w793 hb794 hB795 hS796
          obtain ⟨u797, hu797, hF⟩ := bindE hF
          refine wl_append (i := 5) (S := (· < w793.heap.size)) fl_3 Tryz.underlying25 rfl rfl rfl hB795 hS796 rfl (hS796.own_ro (i := 0) rfl) hu797 ?_
          intro v798 F799 w800 hk801 hB802 hS803
          refine wl_field (o := 1) (off' := 1) ff_27_1 rfl rfl rfl (wl_store_blk (i := 6) (vs := [v798]) (cs' := [v88, v798, (.int .i64 u38.1), (.int .i64 u50.1)]) tf_25 rfl rfl (cells_one (hS803.own_ro (i := 5) rfl).one) rfl hB802 hS803 rfl rfl ⟨(hS803.own_ro (i := 5) rfl).one, trivial⟩ rfl ?_)
          intro w804 hk807 hB805 hS806
          refine WL.nil ?_
          exact fun a ha => hJ509 (u516.2.2.1) (u516.2.2.2) (l87) (u797) (u38.1) (u50.1) (v88) (F89) (v798) (F799) _ hF hB805 (hS806.sel [2, 1, 3, 4, 5, 6] rfl) a (ha.sub ⟨rfl, rfl, trivial⟩)
         ·replace hF := ifN h790 hF
          refine W.seq fun K808 hK808 => W.region (wl_eql rfl rfl rfl (wl_assign rfl rfl (WL.nil (fun a ha => hK808 _ _ (W.cond rfl (fun h809 => ?_) (fun h809 => ?_)) a ha))))
          ·replace hF := ifP h809 hF
           refine W.seq fun K810 hK810 => W.region (wl_field (o := 0) (off' := 0) ff_27_0 rfl rfl rfl (wl_load_blk (i := 5) (vs := [v88]) (v := v88) tf_24 rfl rfl hS521 rfl rfl rfl ?_))
           obtain ⟨u811, hu811, hF⟩ := bindE hF
           refine wl_sliceof (e := ty_51) Tryz.underlying24 rfl rfl (hS521.ok (i := 3) rfl : ownS ty_51 _ _ _ _).rd hu811 (.inl ⟨rfl, rfl⟩) (.inr ⟨_, _, rfl, rfl⟩) ?_
           intro v812 hv815 hs814
           refine wl_field (o := 0) (off' := 0) ff_27_0 rfl rfl rfl ?_
           obtain ⟨F820, hq821, hq822, hq823⟩ := own_pre (hS521.ok (i := 3) rfl : ownS ty_51 _ _ _ _) (hS521.get (i := 3) rfl).1 hs814 (sl_le hu811).1
           rw [show List.take (1 : Int).toNat l87 = u811 from (sl_le hu811).2.symm] at hq821
           have hS819 := (hS521.sel [3, 0, 1, 2, 4, 5] rfl).shrink (r' := R.own ty_51 F820 v812 u811) hq822 hq823 fun _ hk => hq821.keep hk
           refine wl_store_blk (i := 5) (vs := [v812]) (cs' := [v812, v91, (.int .i64 u38.1), (.int .i64 u50.1)]) tf_24 rfl rfl (cells_one (hS819.own_ro (i := 0) rfl).one) rfl hB520 hS819 rfl rfl ⟨(hS819.own_ro (i := 0) rfl).one, trivial⟩ rfl ?_
           intro w816 hk825 hB817 hS818
           refine WL.nil fun a ha => hK810 _ _ (W.region (wl_field (o := 1) (off' := 1) ff_27_1 rfl rfl rfl (wl_store_blk (i := 5) (vs := [(.slice none 0 0)]) (cs' := [v812, (.slice none 0 0), (.int .i64 u38.1), (.int .i64 u50.1)]) tf_25 rfl rfl rfl rfl hB817 hS818 rfl rfl ⟨rfl, trivial⟩ rfl ?_))) a ha
           intro w826 hk829 hB827 hS828
           refine WL.nil ?_
           have hS830 := hS828.push0 (r := R.own ty_3 [] (.slice none 0 0) []) rfl fun _ => .inl ⟨rfl, rfl, rfl⟩
           exact fun a ha => hJ509 (u516.2.2.1) (u516.2.2.2) (u811) ([]) (u38.1) (u50.1) (v812) (F820) ((.slice none 0 0)) ([]) _ hF hB827 (hS830.sel [3, 2, 4, 1, 0, 6] rfl) a (ha.sub ⟨rfl, rfl, trivial⟩)
          ·replace hF := ifN h809 hF
           refine W.skip ?_
           exact fun a ha => hJ509 (u516.2.2.1) (u516.2.2.2) (l87) (l90) (u38.1) (u50.1) (v88) (F89) (v91) (F92) _ hF hB520 (hS521.sel [1, 0, 2, 3, 4, 5] rfl) a (ha.sub ⟨rfl, rfl, trivial⟩)
 refine W.seq fun K831 hK831 => W.region (wl_move rfl rfl ?_)
 obtain ⟨u832, hu832, hF⟩ := bindE hF
 refine wl_call rfl Tryz.call62 (C_spec_l1Cur__one__mut__box w67 (x0.1, u66.2.2.1, u66.2.2.2) b0 v0_0 (h0_0.rsto (hS71.sel [6, 0] rfl)) 20 (hS71.sel [0] rfl).base0 _ hu832) rfl ?_
 rintro _ w833 ⟨rfl, hE834, hM835⟩
 refine ⟨_, rfl, ?_⟩
 have hB836 := hS71.takeB [0] rfl (M := [R.blk b0 73 [v0_0, (.int .i64 u66.2.2.1), (.int .u64 u66.2.2.2)]]) rfl hB70 hE834 hM835
 have hS837 : Sep (wE w0).heap.size w833 [R.blk b0 73 [v0_0, (.int .i64 u832.2.2.1), (.int .u64 u832.2.2.2)], R.blk b56 27 [v25, (.slice none 0 0), (.int .i64 u38.1), (.int .i64 u50.1)], R.own ty_3 F45 v44 [8, 12, 24, 24], R.own ty_3 F33 v32 [0, 1, 8, 8, 16], R.own ty_51 F26 v25 [u15.1], R.blk b2 27 [(.slice none 0 0), (.slice none 0 0), (.int .i64 0), (.int .i64 0)], R.rest w0 (fps [R.blk b0 73 [v0_0, (.int .i64 x0.2.1), (.int .u64 x0.2.2)]])] := hS71.take [0] [1, 2, 3, 4, 5, 6] rfl (M := [R.blk b0 73 [v0_0, (.int .i64 u66.2.2.1), (.int .u64 u66.2.2.2)]]) rfl hM835 hB70.size
 refine WL.nil fun a ha => hK831 _ _ (W.cond rfl (fun h838 => ?_) (fun h838 => ?_)) a ha
 ·replace hF := ifP h838 hF
  refine W.region (wl_move rfl rfl ?_)
  obtain ⟨u839, hu839, hF⟩ := bindE hF
  refine wl_call rfl Tryz.call59 (C_spec_l1Cur__pick__mut__box w833 (x0.1, u832.2.2.1, u832.2.2.2) b0 v0_0 (h0_0.rsto (hS837.sel [6, 0] rfl)) 2 (hS837.sel [0] rfl).base0 _ hu839) rfl ?_
  rintro _ w840 ⟨rfl, hE841, hM842⟩
  refine ⟨_, rfl, ?_⟩
  have hB843 := hS837.takeB [0] rfl (M := [R.blk b0 73 [v0_0, (.int .i64 u832.2.2.1), (.int .u64 u832.2.2.2)]]) rfl hB836 hE841 hM842
  have hS844 : Sep (wE w0).heap.size w840 [R.blk b0 73 [v0_0, (.int .i64 u839.2.2.1), (.int .u64 u839.2.2.2)], R.blk b56 27 [v25, (.slice none 0 0), (.int .i64 u38.1), (.int .i64 u50.1)], R.own ty_3 F45 v44 [8, 12, 24, 24], R.own ty_3 F33 v32 [0, 1, 8, 8, 16], R.own ty_51 F26 v25 [u15.1], R.blk b2 27 [(.slice none 0 0), (.slice none 0 0), (.int .i64 0), (.int .i64 0)], R.rest w0 (fps [R.blk b0 73 [v0_0, (.int .i64 x0.2.1), (.int .u64 x0.2.2)]])] := hS837.take [0] [1, 2, 3, 4, 5, 6] rfl (M := [R.blk b0 73 [v0_0, (.int .i64 u832.2.2.1), (.int .u64 u832.2.2.2)]]) rfl hM842 hB836.size
  refine wl_add rfl rfl rfl (wl_assign rfl rfl (WL.nil ?_))
  exact fun a ha => hJ80 (u839.2.2.1) (u839.2.2.2) ((w64 (8 + u839.1))) _ hF hB843 (hS844.sel [6, 0, 5, 4, 1] rfl) a (ha.sub ⟨rfl, rfl, rfl, rfl, rfl, trivial⟩)
 ·replace hF := ifN h838 hF
  refine W.skip ?_
  exact fun a ha => hJ80 (u832.2.2.1) (u832.2.2.2) ((w64 (2 + u66.1))) _ hF hB836 (hS837.sel [6, 0, 5, 4, 1] rfl) a (ha.sub ⟨rfl, rfl, rfl, rfl, rfl, trivial⟩)
theorem C_spec_DrawIsShow (w0 : World) (x0 : (List Int)) (v0_0 : Value) (h0_0 : rdS ty_5 (· < w0.heap.size) w0 v0_0 x0) (r : ((List (List (Int × Int))) × (List Int) × Int × Int)) (hF : F_spec_DrawIsShow x0 = some r) :
  Calls Tryz.prog 5 [v0_0].toArray w0 fun e w' => ∃ (q0 : Value) (G0 : List Nat) (q1 : Value) (G1 : List Nat), e = .returned (.agg #[q0, q1, (.int .i64 r.2.2.1), (.int .i64 r.2.2.2)]) ∧ Below w0.heap.size w0 w' ∧ Sep w0.heap.size w' [R.own ty_51 G0 q0 r.1, R.own ty_3 G1 q1 r.2.1] := by
 refine calls_mk' Tryz.func5 rfl Tryz.ntmps5 rfl rfl fun Q hQ hP => ?_
 have hB : Below w0.heap.size w0 w0 := Below.refl _ _
 have hS : Sep w0.heap.size w0 [] := Sep.nil _ _
 unfold F_spec_DrawIsShow at hF
 refine W.seq fun K1 hK1 => W.region (wl_alloc (cs := [(.slice none 0 0), (.slice none 0 0), (.int .i64 0), (.int .i64 0)]) tf_27 rfl rfl hB hS ?_)
 intro b2 w3 hb4 hB5 hS6
 refine WL.nil fun a ha => hK1 _ _ (W.seq fun K7 hK7 => (W.region (wl_move rfl rfl (wl_build (zs := [(.slice none 0 0), (.int .i64 0), (.int .u64 0)]) (out := [v0_0, (.int .i64 0), (.int .u64 0)]) (vs := [v0_0]) (css := [[v0_0]]) tf_73 pl_73 rfl rfl (by simp only [List.map_cons, List.map_nil, cells_one ((h0_0.ro hB5).one)] <;> rfl) rfl rfl (wl_box (cs := [v0_0, (.int .i64 0), (.int .u64 0)]) rfl rfl rfl hB5 hS6 ?_))))) a ha
 intro b8 w9 hb10 hB11 hS12
 refine wl_assign rfl rfl (WL.nil (fun a ha => hK7 _ _ (W.seq fun K13 hK13 => (W.region (wl_move rfl rfl ?_))) a ha))
 obtain ⟨u14, hu14, hF⟩ := bindE hF
 refine wl_call rfl Tryz.call26 (C_spec_l1Cur__show__mut__box w9 (x0, 0, 0) b8 v0_0 (h0_0.oldo hB11 (hS12.sel [0] rfl)) (hS12.sel [0] rfl).base0 _ hu14) rfl ?_
 rintro _ w15 ⟨v20, F21, v22, F23, rfl, hE16, hM17⟩
 refine ⟨_, rfl, ?_⟩
 have hB18 := hS12.takeB [0] rfl (M := [R.blk b8 73 [v0_0, (.int .i64 0), (.int .u64 0)]]) rfl hB11 hE16 hM17
 have hS19 : Sep w0.heap.size w15 [R.blk b8 73 [v0_0, (.int .i64 u14.2.2.1), (.int .u64 u14.2.2.2)], R.own ty_51 F21 v20 u14.1.1, R.own ty_3 F23 v22 u14.1.2.1, R.blk b2 27 [(.slice none 0 0), (.slice none 0 0), (.int .i64 0), (.int .i64 0)]] := hS12.take [0] [1] rfl (M := [R.blk b8 73 [v0_0, (.int .i64 0), (.int .u64 0)]]) rfl hM17 hB11.size
 refine wl_store_blk (i := 3) (vs := [v20, v22, (.int .i64 u14.1.2.2.1), (.int .i64 u14.1.2.2.2)]) (cs' := [v20, v22, (.int .i64 u14.1.2.2.1), (.int .i64 u14.1.2.2.2)]) tf_27 rfl rfl rfl rfl hB18 hS19 rfl rfl ⟨(hS19.own_ro (i := 1) rfl).one, (hS19.own_ro (i := 2) rfl).one, rfl, rfl, trivial⟩ rfl ?_
 intro w24 hk27 hB25 hS26
 refine WL.nil fun a ha => hK13 _ _ (W.ret ?_) a ha
 have hr := Option.some.inj hF
 subst hr
 exact rets (vs := [(.agg #[v20, v22, (.int .i64 u14.1.2.2.1), (.int .i64 u14.1.2.2.2)])]) hQ rfl ⟨rv_cell (i := 3) tf_27 rfl hS26 rfl rfl rfl, trivial⟩ ⟨v20, F21, v22, F23, rfl, hB25, hS26.sel [1, 2] rfl⟩
theorem C_impl_within (w0 : World) (x0 : Int) (x1 : Int) (x2 : Int) (r : Bool) (hF : F_impl_within x0 x1 x2 = some r) :
  Calls Tryz.prog 38 [(.int .i64 x0), (.int .i64 x1), (.int .i64 x2)].toArray w0 fun e w' => e = .returned (.bool r) ∧ Below w0.heap.size w0 w' := by
 refine calls_mk' Tryz.func38 rfl Tryz.ntmps38 rfl rfl fun Q hQ hP => ?_
 have hB : Below w0.heap.size w0 w0 := Below.refl _ _
 have hS : Sep w0.heap.size w0 [] := Sep.nil _ _
 unfold F_impl_within at hF
 refine W.seq fun K1 hK1 => W.region (wl_assign rfl rfl (WL.nil (fun a ha => hK1 _ _ (W.seq fun K2 hK2 => ?_) a ha)))
 obtain ⟨k7, hk7, hF⟩ := jE1 hF
 have hJ8 : ∀ (y6 : Bool) (w3 : World) (_ : k7 y6 = some r) (_ : Below w0.heap.size w0 w3) (_ : Sep w0.heap.size w3 []), ∀ a, St 15 [(6, (.bool y6))] a → K2 a w3 := by
  intro y6 w3 hF hB4 hS5
  subst hk7
  refine fun a ha => hK2 _ _ (W.ret ?_) a ha
  have hr := Option.some.inj hF
  subst hr
  exact rets (vs := [(.bool y6)]) hQ rfl ⟨rv_tmp rfl, trivial⟩ ⟨rfl, hB4⟩
 refine W.region (wl_move rfl rfl (wl_move rfl rfl (wl_geq rfl rfl rfl (wl_move rfl rfl ?_))))
 rcases bE (decide (x1 ≤ x0)) with h9 | h9
 ·replace hF := ifP h9 hF
  refine wl_on rfl rfl h9 (wl_move rfl rfl (wl_on rfl rfl h9 (wl_move rfl rfl (wl_on rfl rfl h9 (wl_leq rfl rfl rfl (wl_pick_t rfl rfl h9 rfl (wl_assign rfl rfl (WL.nil ?_))))))))
  exact fun a ha => hJ8 ((decide (x0 ≤ x2))) _ hF hB (hS.sel [] rfl) a (ha.sub ⟨rfl, trivial⟩)
 ·replace hF := ifN h9 hF
  refine wl_off rfl rfl rfl h9 (wl_off rfl rfl rfl h9 (wl_off rfl rfl rfl h9 (wl_pick_f rfl rfl h9 rfl (wl_assign rfl rfl (WL.nil ?_)))))
  exact fun a ha => hJ8 (false) _ hF hB (hS.sel [] rfl) a (ha.sub ⟨rfl, trivial⟩)
end Go.Proofs.YtejhnpimhjmpdaaGreatDoor
