/-
  THE WALKS of functions of this seat, by program (gen.py, prune.py).
-/
import Derived.Test.YtmkignciedkidaaWXFnPlacesNowd
set_option linter.unusedSimpArgs false
set_option linter.unusedVariables false
set_option maxRecDepth 100000
set_option maxHeartbeats 1600000
namespace Go.Proofs.Ytmkignciedkidaa
open Go Go.RowKit
theorem C_impl_placesNow (w0 : World) (x0 : (((List (List (Int × Int))) × (List Int) × Int × Int) × Int × (List Int) × (List Int))) (v0_0 : Value) (h0_0 : rdS ty_63 (· < w0.heap.size) w0 v0_0 x0.1.1) (v0_1 : Value) (h0_1 : rdS ty_3 (· < w0.heap.size) w0 v0_1 x0.1.2.1) (v0_2 : Value) (h0_2 : rdS ty_3 (· < w0.heap.size) w0 v0_2 x0.2.2.1) (v0_3 : Value) (h0_3 : rdS ty_3 (· < w0.heap.size) w0 v0_3 x0.2.2.2) (r : (List (Int × Int))) (hF : F_impl_placesNow x0 = some r) :
  Calls Try.prog 194 [(.agg #[v0_0, v0_1, (.int .i64 x0.1.2.2.1), (.int .i64 x0.1.2.2.2), (.int .i64 x0.2.1), v0_2, v0_3])].toArray w0 fun e w' => ∃ (q0 : Value) (G0 : List Nat), e = .returned q0 ∧ Below w0.heap.size w0 w' ∧ Sep w0.heap.size w' [R.own ty_68 G0 q0 r] := by
 refine calls_mk' Try.func194 rfl Try.ntmps194 rfl rfl fun Q hQ hP => ?_
 have hB : Below w0.heap.size w0 w0 := Below.refl _ _
 have hS : Sep w0.heap.size w0 [] := Sep.nil _ _
 unfold F_impl_placesNow at hF
 refine W.seq fun K1 hK1 => W.region (wl_box (cs := [v0_0, v0_1, (.int .i64 x0.1.2.2.1), (.int .i64 x0.1.2.2.2), (.int .i64 x0.2.1), v0_2, v0_3]) rfl rfl rfl hB hS ?_)
 intro b2 w3 hb4 hB5 hS6
 refine wl_assign rfl rfl (WL.nil (fun a ha => hK1 _ _ (W.seq fun K7 hK7 => (W.region (wl_lit (vs := []) (l := []) fl_68 Try.underlying63 rfl rfl rfl rfl rfl rfl hB5 hS6 ?_))) a ha))
 intro v8 F9 w10 hb11 hB12 hS13
 refine wl_assign rfl rfl (WL.nil (fun a ha => hK7 _ _ (W.seq fun K14 hK14 => (W.seq fun K15 hK15 => (W.region (wl_field (o := 6) (off' := 6) ff_102_3 rfl rfl rfl (wl_load_blk (i := 1) (vs := [v0_3]) (v := v0_3) tf_29 rfl rfl hS13 rfl rfl rfl (wl_lenr (e := ty_3) (l := x0.2.2.2) Try.underlying29 rfl rfl h0_3 (wl_move rfl rfl (WL.nil (fun a ha => hK15 _ _ (W.block (W.loopk (fun m a w16 => ∃ (l19 : (List (Int × Int))) (y22 : Int) (v20 : Value) (F21 : List Nat), St 20 [(1, (.pointer (some ⟨b2, 0, none⟩))), (3, v20), (8, (.int .i64 (List.length x0.2.2.2 : Int))), (9, (.int .i64 y22))] a ∧ Below w0.heap.size w0 w16 ∧ Sep w0.heap.size w16 [R.blk b2 102 [v0_0, v0_1, (.int .i64 x0.1.2.2.1), (.int .i64 x0.1.2.2.2), (.int .i64 x0.2.1), v0_2, v0_3], R.own ty_68 F21 v20 l19] ∧ F_impl_placesNow_L1 x0 m l19 y22 = some r) FU ?_ ?_)) a ha))))))))) a ha))
 ·
  exact fun a ha => ⟨[], 0, v8, F9, ha.sub ⟨rfl, rfl, rfl, rfl, trivial⟩, hB12, (hS13.sel [1, 0] rfl), hF⟩
 ·
  rintro m25 a w16 ⟨l19, y22, v20, F21, ha, hB17, hS18, hF⟩ KL24 hKL24
  refine W.at ?_ ha
  cases m25 with
  | zero => exact noneE hF
  | succ m25 =>
   obtain ⟨nx23, hnx23⟩ : ∃ k, k = F_impl_placesNow_L1 x0 m25 := ⟨_, rfl⟩
   rw [F_impl_placesNow_L1, ← hnx23] at hF
   refine W.seq fun K26 hK26 => W.region (wl_lss rfl rfl rfl (WL.nil (fun a ha => hK26 _ _ (W.seq fun K27 hK27 => (W.cond rfl (fun h28 => ?_) (fun h28 => ?_))) a ha)))
   ·replace hF := ifP h28 hF
    refine W.skip fun a ha => hK27 _ _ (W.seq fun K29 hK29 => (W.block (W.seq fun K30 hK30 => (W.region (wl_move rfl rfl (wl_assign rfl rfl (WL.nil (fun a ha => hK30 _ _ (W.region (wl_move rfl rfl (wl_load_blk (i := 0) (vs := [v0_0, v0_1, (.int .i64 x0.1.2.2.1), (.int .i64 x0.1.2.2.2), (.int .i64 x0.2.1), v0_2, v0_3]) (v := (.agg #[v0_0, v0_1, (.int .i64 x0.1.2.2.1), (.int .i64 x0.1.2.2.2), (.int .i64 x0.2.1), v0_2, v0_3])) tf_102 rfl rfl hS18 rfl rfl rfl (wl_move rfl rfl ?_)))) a ha)))))))) a ha
    obtain ⟨u31, hu31, hF⟩ := bindE hF
    refine wl_call rfl Try.call202 (C_impl_whereNow w16 x0 v0_0 (h0_0.ro hB17) v0_1 (h0_1.ro hB17) v0_2 (h0_2.ro hB17) v0_3 (h0_3.ro hB17) y22 _ hu31) rfl ?_
    rintro _ w32 ⟨rfl, hb33⟩
    refine ⟨_, rfl, ?_⟩
    have hB34 := hB17.trans (hb33.mono hB17.size)
    have hS35 := hS18.below hb33
    refine wl_lit (vs := [(.agg #[(.int .i64 u31.1), (.int .i64 u31.2)])]) (l := [u31]) fl_68 Try.underlying63 rfl rfl rfl rfl rfl rfl hB34 hS35 ?_
    intro v37 F38 w39 hb40 hB41 hS42
    obtain ⟨u43, hu43, hF⟩ := bindE hF
    refine wl_append (i := 2) (S := (· < w39.heap.size)) fl_68 Try.underlying63 rfl rfl rfl hB41 hS42 rfl (hS42.own_ro (i := 0) rfl) hu43 ?_
    intro v44 F45 w46 hk47 hB48 hS49
    refine wl_assign rfl rfl (WL.nil (fun a ha => hK29 _ _ (W.region (wl_add rfl rfl rfl (wl_move rfl rfl (WL.nil ?_)))) a ha))
    rw [hnx23] at hF
    exact fun a ha => hKL24 a _ m25 (Nat.lt_succ_self m25) ⟨u43, (w64 (y22 + 1)), v44, F45, ha.sub ⟨rfl, rfl, rfl, rfl, trivial⟩, hB48, (hS49.sel [1, 2] rfl), hF⟩
   ·replace hF := ifN h28 hF
    refine W.exit fun a ha => hK14 _ _ (W.seq fun K50 hK50 => (W.region (wl_move rfl rfl (wl_assign rfl rfl (WL.nil (fun a ha => hK50 _ _ (W.ret ?_) a ha)))))) a ha
    have hr := Option.some.inj hF
    subst hr
    exact rets (vs := [v20]) hQ rfl ⟨rv_tmp rfl, trivial⟩ ⟨v20, F21, rfl, hB17, hS18.sel [1] rfl⟩
theorem C_impl_PlacesNow (w0 : World) (x0 : (((List (List (Int × Int))) × (List Int) × Int × Int) × Int × (List Int) × (List Int))) (v0_0 : Value) (h0_0 : rdS ty_63 (· < w0.heap.size) w0 v0_0 x0.1.1) (v0_1 : Value) (h0_1 : rdS ty_3 (· < w0.heap.size) w0 v0_1 x0.1.2.1) (v0_2 : Value) (h0_2 : rdS ty_3 (· < w0.heap.size) w0 v0_2 x0.2.2.1) (v0_3 : Value) (h0_3 : rdS ty_3 (· < w0.heap.size) w0 v0_3 x0.2.2.2) (r : ((List (Int × Int)) × Bool)) (hF : F_impl_PlacesNow x0 = some r) :
  Calls Try.prog 91 [(.agg #[v0_0, v0_1, (.int .i64 x0.1.2.2.1), (.int .i64 x0.1.2.2.2), (.int .i64 x0.2.1), v0_2, v0_3])].toArray w0 fun e w' => ∃ (q0 : Value) (G0 : List Nat), e = .returned (.tuple #[q0, (.bool r.2)]) ∧ Below w0.heap.size w0 w' ∧ Sep w0.heap.size w' [R.own ty_68 G0 q0 r.1] := by
 refine calls_mk' Try.func91 rfl Try.ntmps91 rfl rfl fun Q hQ hP => ?_
 have hB : Below w0.heap.size w0 w0 := Below.refl _ _
 have hS : Sep w0.heap.size w0 [] := Sep.nil _ _
 unfold F_impl_PlacesNow at hF
 refine W.seq fun K1 hK1 => W.region (wl_box (cs := [v0_0, v0_1, (.int .i64 x0.1.2.2.1), (.int .i64 x0.1.2.2.2), (.int .i64 x0.2.1), v0_2, v0_3]) rfl rfl rfl hB hS ?_)
 intro b2 w3 hb4 hB5 hS6
 refine wl_assign rfl rfl (wl_assign rfl rfl (WL.nil (fun a ha => hK1 _ _ (W.seq fun K7 hK7 => (W.seq fun K8 hK8 => (W.region (wl_load_blk (i := 0) (vs := [v0_0, v0_1, (.int .i64 x0.1.2.2.1), (.int .i64 x0.1.2.2.2), (.int .i64 x0.2.1), v0_2, v0_3]) (v := (.agg #[v0_0, v0_1, (.int .i64 x0.1.2.2.1), (.int .i64 x0.1.2.2.2), (.int .i64 x0.2.1), v0_2, v0_3])) tf_102 rfl rfl hS6 rfl rfl rfl ?_)))) a ha)))
 obtain ⟨u9, hu9, hF⟩ := bindE hF
 refine wl_call rfl Try.call100 (C_impl_IsMarch w3 x0 v0_0 (h0_0.ro hB5) v0_1 (h0_1.ro hB5) v0_2 (h0_2.ro hB5) v0_3 (h0_3.ro hB5) _ hu9) rfl ?_
 rintro _ w10 ⟨rfl, hb11⟩
 refine ⟨_, rfl, ?_⟩
 have hB12 := hB5.trans (hb11.mono hB5.size)
 have hS13 := hS6.below hb11
 refine wl_not rfl rfl (WL.nil (fun a ha => hK8 _ _ (W.cond rfl (fun h15 => ?_) (fun h15 => ?_)) a ha))
 ·replace hF := ifP h15 hF
  refine W.seq fun K16 hK16 => W.region (wl_assign rfl rfl (wl_assign rfl rfl (WL.nil (fun a ha => hK16 _ _ (W.ret ?_) a ha))))
  have hS17 := hS13.push0 (r := R.own ty_68 [] (.slice none 0 0) []) rfl fun _ => .inl ⟨rfl, rfl, rfl⟩
  have hr := Option.some.inj hF
  subst hr
  exact rets (vs := [(.slice none 0 0), (.bool false)]) hQ rfl ⟨rv_tmp rfl, rv_tmp rfl, trivial⟩ ⟨(.slice none 0 0), [], rfl, hB12, hS17.sel [0] rfl⟩
 ·replace hF := ifN h15 hF
  refine W.skip fun a ha => hK7 _ _ (W.seq fun K18 hK18 => (W.region (wl_load_blk (i := 0) (vs := [v0_0, v0_1, (.int .i64 x0.1.2.2.1), (.int .i64 x0.1.2.2.2), (.int .i64 x0.2.1), v0_2, v0_3]) (v := (.agg #[v0_0, v0_1, (.int .i64 x0.1.2.2.1), (.int .i64 x0.1.2.2.2), (.int .i64 x0.2.1), v0_2, v0_3])) tf_102 rfl rfl hS13 rfl rfl rfl ?_))) a ha
  obtain ⟨u19, hu19, hF⟩ := bindE hF
  refine wl_call rfl Try.call194 (C_impl_placesNow w10 x0 v0_0 (h0_0.ro hB12) v0_1 (h0_1.ro hB12) v0_2 (h0_2.ro hB12) v0_3 (h0_3.ro hB12) _ hu19) rfl ?_
  rintro _ w22 ⟨v20, F21, rfl, hb23, hM26⟩
  refine ⟨_, rfl, ?_⟩
  have hB24 := hB12.trans (hb23.mono hB12.size)
  have hS25 := hS13.join hb23 hM26 hB12.size
  refine wl_assign rfl rfl (wl_assign rfl rfl (WL.nil (fun a ha => hK18 _ _ (W.ret ?_) a ha)))
  have hr := Option.some.inj hF
  subst hr
  exact rets (vs := [v20, (.bool true)]) hQ rfl ⟨rv_tmp rfl, rv_tmp rfl, trivial⟩ ⟨v20, F21, rfl, hB24, hS25.sel [0] rfl⟩
theorem C_spec_l1Rising (w0 : World) (x0 : (List Int)) (v0_0 : Value) (h0_0 : rdS ty_3 (· < w0.heap.size) w0 v0_0 x0) (x1 : Int) (x2 : Int) (r : Bool) (hF : F_spec_l1Rising x0 x1 x2 = some r) :
  Calls Try.prog 246 [v0_0, (.int .i64 x1), (.int .i64 x2)].toArray w0 fun e w' => e = .returned (.bool r) ∧ Below w0.heap.size w0 w' := by
 refine calls_mk' Try.func246 rfl Try.ntmps246 rfl rfl fun Q hQ hP => ?_
 have hB : Below w0.heap.size w0 w0 := Below.refl _ _
 have hS : Sep w0.heap.size w0 [] := Sep.nil _ _
 unfold F_spec_l1Rising at hF
 refine W.seq fun K1 hK1 => W.region (wl_assign rfl rfl (WL.nil (fun a ha => hK1 _ _ (W.seq fun K2 hK2 => (W.seq fun K3 hK3 => (W.region (wl_move rfl rfl (wl_lenr (e := ty_3) (l := x0) Try.underlying29 rfl rfl h0_0 (wl_move rfl rfl (WL.nil (fun a ha => hK3 _ _ (W.block ?_) a ha)))))))) a ha)))
 refine W.loopk (fun m a w4 => ∃ (y7 : Int), St 35 [(0, v0_0), (1, (.int .i64 x1)), (2, (.int .i64 x2)), (9, v0_0), (10, (.int .i64 (List.length x0 : Int))), (11, (.int .i64 y7))] a ∧ Below w0.heap.size w0 w4 ∧ Sep w0.heap.size w4 [] ∧ F_spec_l1Rising_L1 x0 x1 x2 m y7 = some r) FU ?_ ?_
 ·
  exact fun a ha => ⟨0, ha.sub ⟨rfl, rfl, rfl, rfl, rfl, rfl, trivial⟩, hB, (hS.sel [] rfl), hF⟩
 ·
  rintro m10 a w4 ⟨y7, ha, hB5, hS6, hF⟩ KL9 hKL9
  refine W.at ?_ ha
  cases m10 with
  | zero => exact noneE hF
  | succ m10 =>
   obtain ⟨nx8, hnx8⟩ : ∃ k, k = F_spec_l1Rising_L1 x0 x1 x2 m10 := ⟨_, rfl⟩
   rw [F_spec_l1Rising_L1, ← hnx8] at hF
   refine W.seq fun K11 hK11 => W.region (wl_lss rfl rfl rfl (WL.nil (fun a ha => hK11 _ _ (W.seq fun K12 hK12 => (W.cond rfl (fun h13 => ?_) (fun h13 => ?_))) a ha)))
   ·replace hF := ifP h13 hF
    refine W.skip fun a ha => hK12 _ _ (W.seq fun K14 hK14 => (W.block (W.seq fun K15 hK15 => (W.region (wl_move rfl rfl ?_))))) a ha
    obtain ⟨u16, hu16, hF⟩ := bindE hF
    refine wl_index (e := ty_3) Try.underlying29 rfl rfl rfl h0_0 hu16 ?_
    rintro p17 _ rfl hp18
    refine wl_load_p (vs := [(.int .i64 u16)]) (v := (.int .i64 u16)) tf_3 rfl rfl (hp18.ro hB5) rfl rfl (wl_assign rfl rfl (wl_assign rfl rfl (WL.nil (fun a ha => hK15 _ _ (W.seq fun K19 hK19 => ?_) a ha))))
    obtain ⟨k24, hk24, hF⟩ := jE1 hF
    have hJ25 : ∀ (y23 : Bool) (w20 : World) (_ : k24 y23 = some r) (_ : Below w0.heap.size w0 w20) (_ : Sep w0.heap.size w20 []), ∀ a, St 35 [(0, v0_0), (1, (.int .i64 x1)), (2, (.int .i64 x2)), (9, v0_0), (10, (.int .i64 (List.length x0 : Int))), (11, (.int .i64 y7)), (33, (.bool y23))] a → K19 a w20 := by
     intro y23 w20 hF hB21 hS22
     subst hk24
     refine fun a ha => hK19 _ _ (W.cond rfl (fun h26 => ?_) (fun h26 => ?_)) a ha
     ·replace hF := ifP h26 hF
      refine W.seq fun K27 hK27 => W.region (wl_assign rfl rfl (WL.nil (fun a ha => hK27 _ _ (W.ret ?_) a ha)))
      have hr := Option.some.inj hF
      subst hr
      exact rets (vs := [(.bool false)]) hQ rfl ⟨rv_tmp rfl, trivial⟩ ⟨rfl, hB21⟩
     ·replace hF := ifN h26 hF
      refine W.skip fun a ha => hK14 _ _ (W.region (wl_add rfl rfl rfl (wl_move rfl rfl (WL.nil ?_)))) a ha
      rw [hnx8] at hF
      exact fun a ha => hKL9 a _ m10 (Nat.lt_succ_self m10) ⟨(w64 (y7 + 1)), ha.sub ⟨rfl, rfl, rfl, rfl, rfl, rfl, trivial⟩, hB21, (hS22.sel [] rfl), hF⟩
    refine W.region (wl_move rfl rfl (wl_move rfl rfl (wl_move rfl rfl ?_)))
    obtain ⟨u28, hu28, hF⟩ := bindE hF
    refine wl_call rfl Try.call138 (C_spec_l1In w4 u16 x1 x2 _ hu28) rfl ?_
    rintro _ w29 ⟨rfl, hb30⟩
    refine ⟨_, rfl, ?_⟩
    have hB31 := hB5.trans (hb30.mono hB5.size)
    have hS32 := hS6.below hb30
    refine wl_not rfl rfl (wl_move rfl rfl ?_)
    rcases bE (!u28) with h34 | h34
    ·replace hF := ifP h34 hF
     refine wl_off rfl rfl rfl h34 (wl_off rfl rfl rfl h34 (wl_off rfl rfl rfl h34 (wl_offu rfl rfl rfl (wl_offu rfl rfl rfl (wl_offu rfl rfl rfl (wl_offu rfl rfl rfl (wl_offu rfl rfl rfl (wl_offu rfl rfl rfl (wl_offu rfl rfl rfl (wl_off rfl rfl rfl h34 (wl_pick_t rfl rfl h34 rfl (WL.nil ?_))))))))))))
     exact fun a ha => hJ25 (true) _ hF hB31 (hS32.sel [] rfl) a (ha.sub ⟨rfl, rfl, rfl, rfl, rfl, rfl, rfl, trivial⟩)
    ·replace hF := ifN h34 hF
     refine wl_on rfl rfl h34 (wl_move rfl rfl (wl_on rfl rfl h34 (wl_gtr rfl rfl rfl (wl_on rfl rfl h34 (wl_move rfl rfl ?_)))))
     rcases bE (decide (0 < y7)) with h35 | h35
     ·replace hF := ifP h35 hF
      refine wl_on rfl rfl h35 (wl_move rfl rfl (wl_on rfl rfl h35 (wl_move rfl rfl (wl_on rfl rfl h35 (wl_sub rfl rfl rfl (wl_on rfl rfl h35 ?_))))))
      obtain ⟨u36, hu36, hF⟩ := bindE hF
      refine wl_index (e := ty_3) Try.underlying29 rfl rfl rfl h0_0 hu36 ?_
      rintro p37 _ rfl hp38
      refine wl_on rfl rfl h35 (wl_load_p (vs := [(.int .i64 u36)]) (v := (.int .i64 u36)) tf_3 rfl rfl (hp38.ro hB31) rfl rfl (wl_on rfl rfl h35 (wl_move rfl rfl (wl_on rfl rfl h35 (wl_geq rfl rfl rfl (wl_on rfl rfl h34 (wl_pick_t rfl rfl h35 rfl (wl_pick_f rfl rfl h34 rfl (WL.nil ?_)))))))))
      exact fun a ha => hJ25 ((decide (u16 ≤ u36))) _ hF hB31 (hS32.sel [] rfl) a (ha.sub ⟨rfl, rfl, rfl, rfl, rfl, rfl, rfl, trivial⟩)
     ·replace hF := ifN h35 hF
      refine wl_off rfl rfl rfl h35 (wl_off rfl rfl rfl h35 (wl_off rfl rfl rfl h35 (wl_off rfl rfl rfl h35 (wl_off rfl rfl rfl h35 (wl_off rfl rfl rfl h35 (wl_off rfl rfl rfl h35 (wl_on rfl rfl h34 (wl_pick_f rfl rfl h35 rfl (wl_pick_f rfl rfl h34 rfl (WL.nil ?_))))))))))
      exact fun a ha => hJ25 (false) _ hF hB31 (hS32.sel [] rfl) a (ha.sub ⟨rfl, rfl, rfl, rfl, rfl, rfl, rfl, trivial⟩)
   ·replace hF := ifN h13 hF
    refine W.exit fun a ha => hK2 _ _ (W.seq fun K39 hK39 => (W.region (wl_assign rfl rfl (WL.nil (fun a ha => hK39 _ _ (W.ret ?_) a ha))))) a ha
    have hr := Option.some.inj hF
    subst hr
    exact rets (vs := [(.bool true)]) hQ rfl ⟨rv_tmp rfl, trivial⟩ ⟨rfl, hB5⟩
theorem C_spec_mnGood (w0 : World) (x0 : (((List (List (Int × Int))) × (List Int) × Int × Int) × Int × (List Int) × (List Int))) (v0_0 : Value) (h0_0 : rdS ty_63 (· < w0.heap.size) w0 v0_0 x0.1.1) (v0_1 : Value) (h0_1 : rdS ty_3 (· < w0.heap.size) w0 v0_1 x0.1.2.1) (v0_2 : Value) (h0_2 : rdS ty_3 (· < w0.heap.size) w0 v0_2 x0.2.2.1) (v0_3 : Value) (h0_3 : rdS ty_3 (· < w0.heap.size) w0 v0_3 x0.2.2.2) (r : Bool) (hF : F_spec_mnGood x0 = some r) :
  Calls Try.prog 195 [(.agg #[v0_0, v0_1, (.int .i64 x0.1.2.2.1), (.int .i64 x0.1.2.2.2), (.int .i64 x0.2.1), v0_2, v0_3])].toArray w0 fun e w' => e = .returned (.bool r) ∧ Below w0.heap.size w0 w' := by
 refine calls_mk' Try.func195 rfl Try.ntmps195 rfl rfl fun Q hQ hP => ?_
 have hB : Below w0.heap.size w0 w0 := Below.refl _ _
 have hS : Sep w0.heap.size w0 [] := Sep.nil _ _
 unfold F_spec_mnGood at hF
 refine W.seq fun K1 hK1 => W.region (wl_box (cs := [v0_0, v0_1, (.int .i64 x0.1.2.2.1), (.int .i64 x0.1.2.2.2), (.int .i64 x0.2.1), v0_2, v0_3]) rfl rfl rfl hB hS ?_)
 intro b2 w3 hb4 hB5 hS6
 refine wl_assign rfl rfl (WL.nil (fun a ha => hK1 _ _ (W.seq fun K7 hK7 => (W.seq fun K8 hK8 => ?_)) a ha))
 obtain ⟨k13, hk13, hF⟩ := jE1 hF
 have hJ14 : ∀ (y12 : Bool) (w9 : World) (_ : k13 y12 = some r) (_ : Below w0.heap.size w0 w9) (_ : Sep w0.heap.size w9 [R.blk b2 102 [v0_0, v0_1, (.int .i64 x0.1.2.2.1), (.int .i64 x0.1.2.2.2), (.int .i64 x0.2.1), v0_2, v0_3]]), ∀ a, St 39 [(1, (.pointer (some ⟨b2, 0, none⟩))), (13, (.bool y12))] a → K8 a w9 := by
  intro y12 w9 hF hB10 hS11
  subst hk13
  refine fun a ha => hK8 _ _ (W.cond rfl (fun h15 => ?_) (fun h15 => ?_)) a ha
  ·replace hF := ifP h15 hF
   refine W.seq fun K16 hK16 => W.region (wl_assign rfl rfl (WL.nil (fun a ha => hK16 _ _ (W.ret ?_) a ha)))
   have hr := Option.some.inj hF
   subst hr
   exact rets (vs := [(.bool false)]) hQ rfl ⟨rv_tmp rfl, trivial⟩ ⟨rfl, hB10⟩
  ·replace hF := ifN h15 hF
   refine W.skip fun a ha => hK7 _ _ (W.seq fun K17 hK17 => (W.region (wl_field (o := 0) (off' := 0) ff_102_0 rfl rfl rfl (wl_field (o := 0) (off' := 0) ff_53_0 rfl rfl rfl (wl_load_blk (i := 0) (vs := [v0_0]) (v := v0_0) tf_51 rfl rfl hS11 rfl rfl rfl ?_))))) a ha
   obtain ⟨u18, hu18, hF⟩ := bindE hF
   refine wl_index (e := ty_63) Try.underlying51 rfl rfl rfl h0_0 hu18 ?_
   rintro p19 _ ⟨v21, rfl, hv22⟩ hp20
   refine wl_load_p (vs := [v21]) (v := v21) tf_63 rfl rfl (hp20.ro hB10) rfl rfl (wl_lenr (e := ty_68) (l := u18) Try.underlying63 rfl rfl hv22 (wl_assign rfl rfl (WL.nil (fun a ha => hK17 _ _ (W.seq fun K23 hK23 => ?_) a ha))))
   obtain ⟨k28, hk28, hF⟩ := jE1 hF
   have hJ29 : ∀ (y27 : Bool) (w24 : World) (_ : k28 y27 = some r) (_ : Below w0.heap.size w0 w24) (_ : Sep w0.heap.size w24 []), ∀ a, St 39 [(2, (.bool y27))] a → K23 a w24 := by
    intro y27 w24 hF hB25 hS26
    subst hk28
    refine fun a ha => hK23 _ _ (W.ret ?_) a ha
    have hr := Option.some.inj hF
    subst hr
    exact rets (vs := [(.bool y27)]) hQ rfl ⟨rv_tmp rfl, trivial⟩ ⟨rfl, hB25⟩
   refine W.region (wl_field (o := 5) (off' := 5) ff_102_2 rfl rfl rfl (wl_load_blk (i := 0) (vs := [v0_2]) (v := v0_2) tf_29 rfl rfl hS11 rfl rfl rfl (wl_move rfl rfl (wl_sub rfl rfl rfl ?_))))
   obtain ⟨u30, hu30, hF⟩ := bindE hF
   refine wl_call rfl Try.call246 (C_spec_l1Rising w9 x0.2.2.1 v0_2 (h0_2.ro hB10) 0 (w64 ((List.length u18 : Int) - 1)) _ hu30) rfl ?_
   rintro _ w31 ⟨rfl, hb32⟩
   refine ⟨_, rfl, ?_⟩
   have hB33 := hB10.trans (hb32.mono hB10.size)
   have hS34 := hS11.below hb32
   refine wl_move rfl rfl ?_
   rcases bE u30 with h36 | h36
   ·replace hF := ifP h36 hF
    refine wl_on rfl rfl h36 (wl_field (o := 6) (off' := 6) ff_102_3 rfl rfl rfl (wl_on rfl rfl h36 (wl_load_blk (i := 0) (vs := [v0_3]) (v := v0_3) tf_29 rfl rfl hS34 rfl rfl rfl (wl_on rfl rfl h36 (wl_lenr (e := ty_3) (l := x0.2.2.2) Try.underlying29 rfl rfl h0_3 (wl_on rfl rfl h36 (wl_move rfl rfl (wl_on rfl rfl h36 (wl_eql rfl rfl rfl (wl_pick_t rfl rfl h36 rfl (wl_move rfl rfl ?_)))))))))))
    rcases bE ((List.length x0.2.2.2 : Int) == (List.length u18 : Int)) with h37 | h37
    ·replace hF := ifP h37 hF
     refine wl_on rfl rfl h37 (wl_field (o := 6) (off' := 6) ff_102_3 rfl rfl rfl (wl_on rfl rfl h37 (wl_load_blk (i := 0) (vs := [v0_3]) (v := v0_3) tf_29 rfl rfl hS34 rfl rfl rfl (wl_on rfl rfl h37 (wl_field (o := 4) (off' := 4) ff_102_1 rfl rfl rfl (wl_on rfl rfl h37 (wl_load_blk (i := 0) (vs := [(.int .i64 x0.2.1)]) (v := (.int .i64 x0.2.1)) tf_3 rfl rfl hS34 rfl rfl rfl (wl_on rfl rfl h37 ?_))))))))
     obtain ⟨u38, hu38, hF⟩ := bindE hF
     refine wl_call rfl Try.call227 (C_spec_l1All w31 x0.2.2.2 v0_3 (h0_3.ro hB33) 0 x0.2.1 _ hu38) rfl ?_
     rintro _ w39 ⟨rfl, hb40⟩
     refine ⟨_, rfl, ?_⟩
     have hB41 := hB33.trans (hb40.mono hB33.size)
     have hS42 := hS34.below hb40
     refine wl_pick_t rfl rfl h37 rfl (wl_assign rfl rfl (WL.nil ?_))
     exact fun a ha => hJ29 (u38) _ hF hB41 (hS42.sel [] rfl) a (ha.sub ⟨rfl, trivial⟩)
    ·replace hF := ifN h37 hF
     refine wl_off rfl rfl rfl h37 (wl_off rfl rfl rfl h37 (wl_off rfl rfl rfl h37 (wl_off rfl rfl rfl h37 (wl_off rfl rfl rfl h37 (wl_pick_f rfl rfl h37 rfl (wl_assign rfl rfl (WL.nil ?_)))))))
     exact fun a ha => hJ29 (false) _ hF hB33 (hS34.sel [] rfl) a (ha.sub ⟨rfl, trivial⟩)
   ·replace hF := ifN h36 hF
    refine wl_off rfl rfl rfl h36 (wl_off rfl rfl rfl h36 (wl_off rfl rfl rfl h36 (wl_off rfl rfl rfl h36 (wl_off rfl rfl rfl h36 (wl_pick_f rfl rfl h36 rfl (wl_move rfl rfl (wl_off rfl rfl rfl rfl (wl_off rfl rfl rfl rfl (wl_off rfl rfl rfl rfl (wl_off rfl rfl rfl rfl (wl_off rfl rfl rfl rfl (wl_pick_f rfl rfl rfl rfl (wl_assign rfl rfl ?_)))))))))))))
    refine WL.nil ?_
    exact fun a ha => hJ29 (false) _ hF hB33 (hS34.sel [] rfl) a (ha.sub ⟨rfl, trivial⟩)
 refine W.region (wl_field (o := 0) (off' := 0) ff_102_0 rfl rfl rfl (wl_load_blk (i := 0) (vs := [v0_0, v0_1, (.int .i64 x0.1.2.2.1), (.int .i64 x0.1.2.2.2)]) (v := (.agg #[v0_0, v0_1, (.int .i64 x0.1.2.2.1), (.int .i64 x0.1.2.2.2)])) tf_53 rfl rfl hS6 rfl rfl rfl ?_))
 obtain ⟨u44, hu44, hF⟩ := bindE hF
 refine wl_call rfl Try.call145 (C_spec_swGood w3 x0.1 v0_0 (h0_0.ro hB5) v0_1 (h0_1.ro hB5) _ hu44) rfl ?_
 rintro _ w45 ⟨rfl, hb46⟩
 refine ⟨_, rfl, ?_⟩
 have hB47 := hB5.trans (hb46.mono hB5.size)
 have hS48 := hS6.below hb46
 refine wl_not rfl rfl (wl_move rfl rfl ?_)
 rcases bE (!u44) with h50 | h50
 ·replace hF := ifP h50 hF
  refine wl_off rfl rfl rfl h50 (wl_off rfl rfl rfl h50 (wl_off rfl rfl rfl h50 (wl_off rfl rfl rfl h50 (wl_pick_t rfl rfl h50 rfl (WL.nil ?_)))))
  exact fun a ha => hJ14 (true) _ hF hB47 (hS48.sel [0] rfl) a (ha.sub ⟨rfl, rfl, trivial⟩)
 ·replace hF := ifN h50 hF
  refine wl_on rfl rfl h50 (wl_field (o := 4) (off' := 4) ff_102_1 rfl rfl rfl (wl_on rfl rfl h50 (wl_load_blk (i := 0) (vs := [(.int .i64 x0.2.1)]) (v := (.int .i64 x0.2.1)) tf_3 rfl rfl hS48 rfl rfl rfl (wl_on rfl rfl h50 ?_))))
  obtain ⟨u51, hu51, hF⟩ := bindE hF
  refine wl_call rfl Try.call138 (C_spec_l1In w45 x0.2.1 0 1000 _ hu51) rfl ?_
  rintro _ w52 ⟨rfl, hb53⟩
  refine ⟨_, rfl, ?_⟩
  have hB54 := hB47.trans (hb53.mono hB47.size)
  have hS55 := hS48.below hb53
  refine wl_on rfl rfl h50 (wl_not rfl rfl (wl_pick_f rfl rfl h50 rfl (WL.nil ?_)))
  exact fun a ha => hJ14 ((!u51)) _ hF hB54 (hS55.sel [0] rfl) a (ha.sub ⟨rfl, rfl, trivial⟩)
theorem C_spec_mnCount (w0 : World) (x0 : (((List (List (Int × Int))) × (List Int) × Int × Int) × Int × (List Int) × (List Int))) (v0_0 : Value) (h0_0 : rdS ty_63 (· < w0.heap.size) w0 v0_0 x0.1.1) (v0_1 : Value) (h0_1 : rdS ty_3 (· < w0.heap.size) w0 v0_1 x0.1.2.1) (v0_2 : Value) (h0_2 : rdS ty_3 (· < w0.heap.size) w0 v0_2 x0.2.2.1) (v0_3 : Value) (h0_3 : rdS ty_3 (· < w0.heap.size) w0 v0_3 x0.2.2.2) (x1 : Int) (r : Int) (hF : F_spec_mnCount x0 x1 = some r) :
  Calls Try.prog 199 [(.agg #[v0_0, v0_1, (.int .i64 x0.1.2.2.1), (.int .i64 x0.1.2.2.2), (.int .i64 x0.2.1), v0_2, v0_3]), (.int .i64 x1)].toArray w0 fun e w' => e = .returned (.int .i64 r) ∧ Below w0.heap.size w0 w' := by
 refine calls_mk' Try.func199 rfl Try.ntmps199 rfl rfl fun Q hQ hP => ?_
 have hB : Below w0.heap.size w0 w0 := Below.refl _ _
 have hS : Sep w0.heap.size w0 [] := Sep.nil _ _
 unfold F_spec_mnCount at hF
 refine W.seq fun K1 hK1 => W.region (wl_box (cs := [v0_0, v0_1, (.int .i64 x0.1.2.2.1), (.int .i64 x0.1.2.2.2), (.int .i64 x0.2.1), v0_2, v0_3]) rfl rfl rfl hB hS ?_)
 intro b2 w3 hb4 hB5 hS6
 refine wl_assign rfl rfl (WL.nil (fun a ha => hK1 _ _ (W.seq fun K7 hK7 => (W.regionH mixed_ [] hB5 hS6 ?_)) a ha))
 intro w8 hb9 hB10 hS11
 have hSW12 := KeepX.refl w8 []
 refine WH.takex (i := 0) rfl (by kernel_rfl) (by kernel_rfl) (by kernel_rfl) hP hSW12 (pr_field (o := 0) (off' := 0) ff_102_0 rfl rfl rfl (WH.takex (i := 1) rfl (by kernel_rfl) (by kernel_rfl) (by kernel_rfl) hP hSW12 (pr_load_blk (i := 0) (vs := [v0_0, v0_1, (.int .i64 x0.1.2.2.1), (.int .i64 x0.1.2.2.2)]) (v := (.agg #[v0_0, v0_1, (.int .i64 x0.1.2.2.1), (.int .i64 x0.1.2.2.2)])) tf_53 rfl rfl hS11 rfl rfl rfl (by simp) (WH.takex (i := 3) rfl (by kernel_rfl) (by kernel_rfl) (by kernel_rfl) hP hSW12 (pr_field (o := 4) (off' := 4) ff_102_1 rfl rfl rfl (WH.takex (i := 4) rfl (by kernel_rfl) (by kernel_rfl) (by kernel_rfl) hP hSW12 (pr_load_blk (i := 0) (vs := [(.int .i64 x0.2.1)]) (v := (.int .i64 x0.2.1)) tf_3 rfl rfl hS11 rfl rfl rfl (by simp) (WH.takex (i := 5) rfl (by kernel_rfl) (by kernel_rfl) (by kernel_rfl) hP hSW12 (pr_field (o := 6) (off' := 6) ff_102_3 rfl rfl rfl ?_)))))))))
 refine WH.takex (i := 6) rfl (by kernel_rfl) (by kernel_rfl) (by kernel_rfl) hP hSW12 (pr_load_blk (i := 0) (vs := [v0_3]) (v := v0_3) tf_29 rfl rfl hS11 rfl rfl rfl (by simp) (WH.takex (i := 7) rfl (by kernel_rfl) (by kernel_rfl) (by kernel_rfl) hP hSW12 (pr_move rfl rfl ?_)))
 obtain ⟨u13, hu13, hF⟩ := bindE hF
 refine WH.takex (i := 8) rfl (by kernel_rfl) (by kernel_rfl) (by kernel_rfl) hP hSW12 (pr_index (e := ty_3) Try.underlying29 rfl rfl rfl h0_3 hu13 ?_)
 rintro p14 _ rfl hp15
 refine WH.takex (i := 9) rfl (by kernel_rfl) (by kernel_rfl) (by kernel_rfl) hP hSW12 (pr_load_p (vs := [(.int .i64 u13)]) (v := (.int .i64 u13)) tf_3 rfl rfl (hp15.kx hB10 (by simp)) rfl rfl (WH.takex (i := 10) rfl (by kernel_rfl) (by kernel_rfl) (by kernel_rfl) hP hSW12 (pr_sub rfl rfl rfl (WH.one (i := 2) (by kernel_rfl) rfl ?_))))
 obtain ⟨u16, hu16, hF⟩ := bindE hF
 refine wl_call rfl Try.call188 (C_spec_swTotal w8 x0.1 v0_0 (h0_0.ro hB10) v0_1 (h0_1.ro hB10) _ hu16) rfl ?_
 rintro _ w17 ⟨rfl, hb18⟩
 refine ⟨_, rfl, ?_⟩
 have hB19 := hB10.trans (hb18.mono hB10.size)
 have hS20 := hS11.below hb18
 have hSW22 := hSW12.ext hb18
 refine WL.nil (WH.ret hSW22 (WH.one (i := 11) (by kernel_rfl) rfl ?_))
 obtain ⟨u23, hu23, hF⟩ := bindE hF
 refine wl_call rfl Try.call167 (C_spec_l1Least w17 u16 (w64 (x0.2.1 - u13)) _ hu23) rfl ?_
 rintro _ w24 ⟨rfl, hb25⟩
 refine ⟨_, rfl, ?_⟩
 have hB26 := hB19.trans (hb25.mono hB19.size)
 have hS27 := hS20.below hb25
 have hSW29 := hSW22.ext hb25
 refine WL.nil (WH.ret hSW29 (WH.takex (i := 12) rfl (by kernel_rfl) (by kernel_rfl) (by kernel_rfl) hP hSW29 (pr_assign rfl rfl (WH.done (by kernel_rfl) (fun a ha => hK7 _ _ (W.ret ?_) a ha)))))
 have hr := Option.some.inj hF
 subst hr
 exact rets (vs := [(.int .i64 u23)]) hQ rfl ⟨rv_tmp rfl, trivial⟩ ⟨rfl, hB26⟩
theorem C_spec_shGood (w0 : World) (x0 : (Int × (Int × Int) × (List (Int × (Int × Int))))) (v0_0 : Value) (h0_0 : rdS ty_169 (· < w0.heap.size) w0 v0_0 x0.2.2) (r : Bool) (hF : F_spec_shGood x0 = some r) :
  Calls Try.prog 270 [(.agg #[(.int .i64 x0.1), (.int .i64 x0.2.1.1), (.int .i64 x0.2.1.2), v0_0])].toArray w0 fun e w' => e = .returned (.bool r) ∧ Below w0.heap.size w0 w' := by
 refine calls_mk' Try.func270 rfl Try.ntmps270 rfl rfl fun Q hQ hP => ?_
 have hB : Below w0.heap.size w0 w0 := Below.refl _ _
 have hS : Sep w0.heap.size w0 [] := Sep.nil _ _
 unfold F_spec_shGood at hF
 refine W.seq fun K1 hK1 => W.region (wl_box (cs := [(.int .i64 x0.1), (.int .i64 x0.2.1.1), (.int .i64 x0.2.1.2), v0_0]) rfl rfl rfl hB hS ?_)
 intro b2 w3 hb4 hB5 hS6
 refine wl_assign rfl rfl (WL.nil (fun a ha => hK1 _ _ (W.seq fun K7 hK7 => (W.seq fun K8 hK8 => (W.region (wl_field (o := 3) (off' := 3) ff_114_2 rfl rfl rfl (wl_load_blk (i := 0) (vs := [v0_0]) (v := v0_0) tf_112 rfl rfl hS6 rfl rfl rfl (wl_lenr (e := ty_169) (l := x0.2.2) Try.underlying112 rfl rfl h0_0 (wl_move rfl rfl (WL.nil (fun a ha => hK8 _ _ (W.block (W.loopk (fun m a w9 => ∃ (y12 : Int), St 37 [(1, (.pointer (some ⟨b2, 0, none⟩))), (6, v0_0), (7, (.int .i64 (List.length x0.2.2 : Int))), (8, (.int .i64 y12))] a ∧ Below w0.heap.size w0 w9 ∧ Sep w0.heap.size w9 [R.blk b2 114 [(.int .i64 x0.1), (.int .i64 x0.2.1.1), (.int .i64 x0.2.1.2), v0_0]] ∧ F_spec_shGood_L1 x0 m y12 = some r) FU ?_ ?_)) a ha))))))))) a ha))
 ·
  exact fun a ha => ⟨0, ha.sub ⟨rfl, rfl, rfl, rfl, trivial⟩, hB5, (hS6.sel [0] rfl), hF⟩
 ·
  rintro m15 a w9 ⟨y12, ha, hB10, hS11, hF⟩ KL14 hKL14
  refine W.at ?_ ha
  cases m15 with
  | zero => exact noneE hF
  | succ m15 =>
   obtain ⟨nx13, hnx13⟩ : ∃ k, k = F_spec_shGood_L1 x0 m15 := ⟨_, rfl⟩
   rw [F_spec_shGood_L1, ← hnx13] at hF
   refine W.seq fun K16 hK16 => W.region (wl_lss rfl rfl rfl (WL.nil (fun a ha => hK16 _ _ (W.seq fun K17 hK17 => (W.cond rfl (fun h18 => ?_) (fun h18 => ?_))) a ha)))
   ·replace hF := ifP h18 hF
    refine W.skip fun a ha => hK17 _ _ (W.seq fun K19 hK19 => (W.block (W.seq fun K20 hK20 => (W.region ?_)))) a ha
    obtain ⟨u21, hu21, hF⟩ := bindE hF
    refine wl_index (e := ty_169) Try.underlying112 rfl rfl rfl h0_0 hu21 ?_
    rintro p22 _ rfl hp23
    refine wl_load_p (vs := [(.int .i64 u21.1), (.int .i64 u21.2.1), (.int .i64 u21.2.2)]) (v := (.agg #[(.int .i64 u21.1), (.int .i64 u21.2.1), (.int .i64 u21.2.2)])) tf_169 rfl rfl (hp23.ro hB10) rfl rfl (wl_alloc (cs := [(.int .i64 0), (.int .i64 0), (.int .i64 0)]) tf_169 rfl rfl hB10 hS11 ?_)
    intro b24 w25 hb26 hB27 hS28
    refine wl_store_blk (i := 0) (vs := [(.int .i64 u21.1), (.int .i64 u21.2.1), (.int .i64 u21.2.2)]) (cs' := [(.int .i64 u21.1), (.int .i64 u21.2.1), (.int .i64 u21.2.2)]) tf_169 rfl rfl rfl rfl hB27 hS28 rfl rfl ⟨rfl, rfl, rfl, trivial⟩ rfl ?_
    intro w29 hk32 hB30 hS31
    refine WL.nil fun a ha => hK20 _ _ (W.seq fun K33 hK33 => ?_) a ha
    obtain ⟨k38, hk38, hF⟩ := jE1 hF
    have hJ39 : ∀ (y37 : Bool) (w34 : World) (_ : k38 y37 = some r) (_ : Below w0.heap.size w0 w34) (_ : Sep w0.heap.size w34 [R.blk b2 114 [(.int .i64 x0.1), (.int .i64 x0.2.1.1), (.int .i64 x0.2.1.2), v0_0]]), ∀ a, St 37 [(1, (.pointer (some ⟨b2, 0, none⟩))), (6, v0_0), (7, (.int .i64 (List.length x0.2.2 : Int))), (8, (.int .i64 y12)), (21, (.bool y37))] a → K33 a w34 := by
     intro y37 w34 hF hB35 hS36
     subst hk38
     refine fun a ha => hK33 _ _ (W.cond rfl (fun h40 => ?_) (fun h40 => ?_)) a ha
     ·replace hF := ifP h40 hF
      refine W.seq fun K41 hK41 => W.region (wl_assign rfl rfl (WL.nil (fun a ha => hK41 _ _ (W.ret ?_) a ha)))
      have hr := Option.some.inj hF
      subst hr
      exact rets (vs := [(.bool false)]) hQ rfl ⟨rv_tmp rfl, trivial⟩ ⟨rfl, hB35⟩
     ·replace hF := ifN h40 hF
      refine W.skip fun a ha => hK19 _ _ (W.region (wl_add rfl rfl rfl (wl_move rfl rfl (WL.nil ?_)))) a ha
      rw [hnx13] at hF
      exact fun a ha => hKL14 a _ m15 (Nat.lt_succ_self m15) ⟨(w64 (y12 + 1)), ha.sub ⟨rfl, rfl, rfl, rfl, trivial⟩, hB35, (hS36.sel [0] rfl), hF⟩
    refine W.region (wl_field (o := 0) (off' := 0) ff_169_0 rfl rfl rfl (wl_load_blk (i := 0) (vs := [(.int .i64 u21.1)]) (v := (.int .i64 u21.1)) tf_3 rfl rfl hS31 rfl rfl rfl ?_))
    obtain ⟨u42, hu42, hF⟩ := bindE hF
    refine wl_call rfl Try.call138 (C_spec_l1In w29 u21.1 1 64 _ hu42) rfl ?_
    rintro _ w43 ⟨rfl, hb44⟩
    refine ⟨_, rfl, ?_⟩
    have hB45 := hB30.trans (hb44.mono hB30.size)
    have hS46 := hS31.below hb44
    refine wl_not rfl rfl (wl_move rfl rfl ?_)
    rcases bE (!u42) with h48 | h48
    ·replace hF := ifP h48 hF
     refine wl_off rfl rfl rfl h48 (wl_off rfl rfl rfl h48 (wl_off rfl rfl rfl h48 (wl_off rfl rfl rfl h48 (wl_pick_t rfl rfl h48 rfl (WL.nil ?_)))))
     exact fun a ha => hJ39 (true) _ hF hB45 (hS46.sel [1] rfl) a (ha.sub ⟨rfl, rfl, rfl, rfl, rfl, trivial⟩)
    ·replace hF := ifN h48 hF
     refine wl_on rfl rfl h48 (wl_field (o := 1) (off' := 1) ff_169_1 rfl rfl rfl (wl_on rfl rfl h48 (wl_load_blk (i := 0) (vs := [(.int .i64 u21.2.1), (.int .i64 u21.2.2)]) (v := (.agg #[(.int .i64 u21.2.1), (.int .i64 u21.2.2)])) tf_68 rfl rfl hS46 rfl rfl rfl (wl_on rfl rfl h48 ?_))))
     obtain ⟨u49, hu49, hF⟩ := bindE hF
     refine wl_call rfl Try.call257 (C_spec_stGood w43 u21.2 _ hu49) rfl ?_
     rintro _ w50 ⟨rfl, hb51⟩
     refine ⟨_, rfl, ?_⟩
     have hB52 := hB45.trans (hb51.mono hB45.size)
     have hS53 := hS46.below hb51
     refine wl_on rfl rfl h48 (wl_not rfl rfl (wl_pick_f rfl rfl h48 rfl (WL.nil ?_)))
     exact fun a ha => hJ39 ((!u49)) _ hF hB52 (hS53.sel [1] rfl) a (ha.sub ⟨rfl, rfl, rfl, rfl, rfl, trivial⟩)
   ·replace hF := ifN h18 hF
    refine W.exit fun a ha => hK7 _ _ (W.seq fun K55 hK55 => ?_) a ha
    obtain ⟨k60, hk60, hF⟩ := jE1 hF
    have hJ61 : ∀ (y59 : Bool) (w56 : World) (_ : k60 y59 = some r) (_ : Below w0.heap.size w0 w56) (_ : Sep w0.heap.size w56 []), ∀ a, St 37 [(2, (.bool y59))] a → K55 a w56 := by
     intro y59 w56 hF hB57 hS58
     subst hk60
     refine fun a ha => hK55 _ _ (W.ret ?_) a ha
     have hr := Option.some.inj hF
     subst hr
     exact rets (vs := [(.bool y59)]) hQ rfl ⟨rv_tmp rfl, trivial⟩ ⟨rfl, hB57⟩
    refine W.region (wl_field (o := 0) (off' := 0) ff_114_0 rfl rfl rfl (wl_load_blk (i := 0) (vs := [(.int .i64 x0.1)]) (v := (.int .i64 x0.1)) tf_3 rfl rfl hS11 rfl rfl rfl ?_))
    obtain ⟨u62, hu62, hF⟩ := bindE hF
    refine wl_call rfl Try.call138 (C_spec_l1In w9 x0.1 0 11 _ hu62) rfl ?_
    rintro _ w63 ⟨rfl, hb64⟩
    refine ⟨_, rfl, ?_⟩
    have hB65 := hB10.trans (hb64.mono hB10.size)
    have hS66 := hS11.below hb64
    refine wl_move rfl rfl ?_
    rcases bE u62 with h68 | h68
    ·replace hF := ifP h68 hF
     refine wl_on rfl rfl h68 (wl_field (o := 1) (off' := 1) ff_114_1 rfl rfl rfl (wl_on rfl rfl h68 (wl_load_blk (i := 0) (vs := [(.int .i64 x0.2.1.1), (.int .i64 x0.2.1.2)]) (v := (.agg #[(.int .i64 x0.2.1.1), (.int .i64 x0.2.1.2)])) tf_68 rfl rfl hS66 rfl rfl rfl (wl_on rfl rfl h68 ?_))))
     obtain ⟨u69, hu69, hF⟩ := bindE hF
     refine wl_call rfl Try.call257 (C_spec_stGood w63 x0.2.1 _ hu69) rfl ?_
     rintro _ w70 ⟨rfl, hb71⟩
     refine ⟨_, rfl, ?_⟩
     have hB72 := hB65.trans (hb71.mono hB65.size)
     have hS73 := hS66.below hb71
     refine wl_pick_t rfl rfl h68 rfl (wl_move rfl rfl ?_)
     rcases bE u69 with h75 | h75
     ·replace hF := ifP h75 hF
      refine wl_on rfl rfl h75 (wl_field (o := 3) (off' := 3) ff_114_2 rfl rfl rfl (wl_on rfl rfl h75 (wl_load_blk (i := 0) (vs := [v0_0]) (v := v0_0) tf_112 rfl rfl hS73 rfl rfl rfl (wl_on rfl rfl h75 (wl_lenr (e := ty_169) (l := x0.2.2) Try.underlying112 rfl rfl h0_0 (wl_on rfl rfl h75 (wl_leq rfl rfl rfl (wl_pick_t rfl rfl h75 rfl (wl_assign rfl rfl (WL.nil ?_))))))))))
      exact fun a ha => hJ61 ((decide ((List.length x0.2.2 : Int) ≤ 8))) _ hF hB72 (hS73.sel [] rfl) a (ha.sub ⟨rfl, trivial⟩)
     ·replace hF := ifN h75 hF
      refine wl_off rfl rfl rfl h75 (wl_off rfl rfl rfl h75 (wl_off rfl rfl rfl h75 (wl_off rfl rfl rfl h75 (wl_pick_f rfl rfl h75 rfl (wl_assign rfl rfl (WL.nil ?_))))))
      exact fun a ha => hJ61 (false) _ hF hB72 (hS73.sel [] rfl) a (ha.sub ⟨rfl, trivial⟩)
    ·replace hF := ifN h68 hF
     refine wl_off rfl rfl rfl h68 (wl_off rfl rfl rfl h68 (wl_off rfl rfl rfl h68 (wl_pick_f rfl rfl h68 rfl (wl_move rfl rfl (wl_off rfl rfl rfl rfl (wl_off rfl rfl rfl rfl (wl_off rfl rfl rfl rfl (wl_off rfl rfl rfl rfl (wl_pick_f rfl rfl rfl rfl (wl_assign rfl rfl (WL.nil ?_)))))))))))
     exact fun a ha => hJ61 (false) _ hF hB65 (hS66.sel [] rfl) a (ha.sub ⟨rfl, trivial⟩)
theorem C_spec_shRows (w0 : World) (x0 : (Int × (Int × Int) × (List (Int × (Int × Int))))) (v0_0 : Value) (h0_0 : rdS ty_169 (· < w0.heap.size) w0 v0_0 x0.2.2) (r : (List ((Int × Int) × (Int × Int) × Int))) (hF : F_spec_shRows x0 = some r) :
  Calls Try.prog 271 [(.agg #[(.int .i64 x0.1), (.int .i64 x0.2.1.1), (.int .i64 x0.2.1.2), v0_0])].toArray w0 fun e w' => ∃ (q0 : Value) (G0 : List Nat), e = .returned q0 ∧ Below w0.heap.size w0 w' ∧ Sep w0.heap.size w' [R.own ty_70 G0 q0 r] := by
 refine calls_mk' Try.func271 rfl Try.ntmps271 rfl rfl fun Q hQ hP => ?_
 have hB : Below w0.heap.size w0 w0 := Below.refl _ _
 have hS : Sep w0.heap.size w0 [] := Sep.nil _ _
 unfold F_spec_shRows at hF
 refine W.seq fun K1 hK1 => W.region (wl_box (cs := [(.int .i64 x0.1), (.int .i64 x0.2.1.1), (.int .i64 x0.2.1.2), v0_0]) rfl rfl rfl hB hS ?_)
 intro b2 w3 hb4 hB5 hS6
 refine wl_assign rfl rfl (WL.nil (fun a ha => hK1 _ _ (W.seq fun K7 hK7 => (W.region (wl_assign rfl rfl (WL.nil (fun a ha => hK7 _ _ (W.seq fun K8 hK8 => (W.region (wl_field (o := 1) (off' := 1) ff_114_1 rfl rfl rfl (wl_load_blk (i := 0) (vs := [(.int .i64 x0.2.1.1), (.int .i64 x0.2.1.2)]) (v := (.agg #[(.int .i64 x0.2.1.1), (.int .i64 x0.2.1.2)])) tf_68 rfl rfl hS6 rfl rfl rfl (wl_alloc (cs := [(.int .i64 0), (.int .i64 0)]) tf_68 rfl rfl hB5 hS6 ?_))))) a ha))))) a ha))
 intro b9 w10 hb11 hB12 hS13
 refine wl_store_blk (i := 0) (vs := [(.int .i64 x0.2.1.1), (.int .i64 x0.2.1.2)]) (cs' := [(.int .i64 x0.2.1.1), (.int .i64 x0.2.1.2)]) tf_68 rfl rfl rfl rfl hB12 hS13 rfl rfl ⟨rfl, rfl, trivial⟩ rfl ?_
 intro w14 hk17 hB15 hS16
 refine WL.nil fun a ha => hK8 _ _ (W.seq fun K18 hK18 => (W.seq fun K19 hK19 => (W.region (wl_field (o := 3) (off' := 3) ff_114_2 rfl rfl rfl (wl_load_blk (i := 1) (vs := [v0_0]) (v := v0_0) tf_112 rfl rfl hS16 rfl rfl rfl (wl_lenr (e := ty_169) (l := x0.2.2) Try.underlying112 rfl rfl h0_0 (wl_move rfl rfl (WL.nil (fun a ha => hK19 _ _ (W.block (W.loopk (fun m a w20 => ∃ (l23 : (List ((Int × Int) × (Int × Int) × Int))) (y26 : Int) (y27 : Int) (y28 : Int) (v24 : Value) (F25 : List Nat), St 29 [(3, v24), (4, (.pointer (some ⟨b9, 0, none⟩))), (10, v0_0), (11, (.int .i64 (List.length x0.2.2 : Int))), (12, (.int .i64 y28))] a ∧ Below w0.heap.size w0 w20 ∧ Sep w0.heap.size w20 [R.own ty_70 F25 v24 l23, R.blk b9 68 [(.int .i64 y26), (.int .i64 y27)]] ∧ F_spec_shRows_L1 x0 m l23 y26 y27 y28 = some r) FU ?_ ?_)) a ha))))))))) a ha
 ·
  have hS30 := hS16.push0 (r := R.own ty_70 [] (.slice none 0 0) []) rfl fun _ => .inl ⟨rfl, rfl, rfl⟩
  exact fun a ha => ⟨[], x0.2.1.1, x0.2.1.2, 0, (.slice none 0 0), [], ha.sub ⟨rfl, rfl, rfl, rfl, rfl, trivial⟩, hB15, (hS30.sel [0, 1] rfl), hF⟩
 ·
  rintro m32 a w20 ⟨l23, y26, y27, y28, v24, F25, ha, hB21, hS22, hF⟩ KL31 hKL31
  refine W.at ?_ ha
  cases m32 with
  | zero => exact noneE hF
  | succ m32 =>
   obtain ⟨nx29, hnx29⟩ : ∃ k, k = F_spec_shRows_L1 x0 m32 := ⟨_, rfl⟩
   rw [F_spec_shRows_L1, ← hnx29] at hF
   refine W.seq fun K33 hK33 => W.region (wl_lss rfl rfl rfl (WL.nil (fun a ha => hK33 _ _ (W.seq fun K34 hK34 => (W.cond rfl (fun h35 => ?_) (fun h35 => ?_))) a ha)))
   ·replace hF := ifP h35 hF
    refine W.skip fun a ha => hK34 _ _ (W.seq fun K36 hK36 => (W.block (W.seq fun K37 hK37 => (W.region ?_)))) a ha
    obtain ⟨u38, hu38, hF⟩ := bindE hF
    refine wl_index (e := ty_169) Try.underlying112 rfl rfl rfl h0_0 hu38 ?_
    rintro p39 _ rfl hp40
    refine wl_load_p (vs := [(.int .i64 u38.1), (.int .i64 u38.2.1), (.int .i64 u38.2.2)]) (v := (.agg #[(.int .i64 u38.1), (.int .i64 u38.2.1), (.int .i64 u38.2.2)])) tf_169 rfl rfl (hp40.ro hB21) rfl rfl (wl_alloc (cs := [(.int .i64 0), (.int .i64 0), (.int .i64 0)]) tf_169 rfl rfl hB21 hS22 ?_)
    intro b41 w42 hb43 hB44 hS45
    refine wl_store_blk (i := 0) (vs := [(.int .i64 u38.1), (.int .i64 u38.2.1), (.int .i64 u38.2.2)]) (cs' := [(.int .i64 u38.1), (.int .i64 u38.2.1), (.int .i64 u38.2.2)]) tf_169 rfl rfl rfl rfl hB44 hS45 rfl rfl ⟨rfl, rfl, rfl, trivial⟩ rfl ?_
    intro w46 hk49 hB47 hS48
    refine WL.nil fun a ha => hK37 _ _ (W.seq fun K50 hK50 => (W.region (wl_move rfl rfl (wl_load_blk (i := 2) (vs := [(.int .i64 y26), (.int .i64 y27)]) (v := (.agg #[(.int .i64 y26), (.int .i64 y27)])) tf_68 rfl rfl hS48 rfl rfl rfl (wl_field (o := 1) (off' := 1) ff_169_1 rfl rfl rfl (wl_load_blk (i := 0) (vs := [(.int .i64 u38.2.1), (.int .i64 u38.2.2)]) (v := (.agg #[(.int .i64 u38.2.1), (.int .i64 u38.2.2)])) tf_68 rfl rfl hS48 rfl rfl rfl (wl_field (o := 0) (off' := 0) ff_169_0 rfl rfl rfl (wl_load_blk (i := 0) (vs := [(.int .i64 u38.1)]) (v := (.int .i64 u38.1)) tf_3 rfl rfl hS48 rfl rfl rfl ?_)))))))) a ha
    refine wl_build (zs := [(.int .i64 0), (.int .i64 0), (.int .i64 0), (.int .i64 0), (.int .i64 0)]) (out := [(.int .i64 y26), (.int .i64 y27), (.int .i64 u38.2.1), (.int .i64 u38.2.2), (.int .i64 u38.1)]) (vs := [(.agg #[(.int .i64 y26), (.int .i64 y27)]), (.agg #[(.int .i64 u38.2.1), (.int .i64 u38.2.2)]), (.int .i64 u38.1)]) (css := [[(.int .i64 y26), (.int .i64 y27)], [(.int .i64 u38.2.1), (.int .i64 u38.2.2)], [(.int .i64 u38.1)]]) tf_70 pl_70 rfl rfl rfl rfl rfl (wl_lit (vs := [(.agg #[(.int .i64 y26), (.int .i64 y27), (.int .i64 u38.2.1), (.int .i64 u38.2.2), (.int .i64 u38.1)])]) (l := [((y26, y27), u38.2, u38.1)]) fl_70 Try.underlying64 rfl rfl rfl rfl rfl rfl hB47 hS48 ?_)
    intro v51 F52 w53 hb54 hB55 hS56
    obtain ⟨u57, hu57, hF⟩ := bindE hF
    refine wl_append (i := 2) (S := (· < w53.heap.size)) fl_70 Try.underlying64 rfl rfl rfl hB55 hS56 rfl (hS56.own_ro (i := 0) rfl) hu57 ?_
    intro v58 F59 w60 hk61 hB62 hS63
    refine wl_assign rfl rfl (WL.nil (fun a ha => hK50 _ _ (W.region (wl_field (o := 1) (off' := 1) ff_169_1 rfl rfl rfl (wl_load_blk (i := 1) (vs := [(.int .i64 u38.2.1), (.int .i64 u38.2.2)]) (v := (.agg #[(.int .i64 u38.2.1), (.int .i64 u38.2.2)])) tf_68 rfl rfl hS63 rfl rfl rfl (wl_store_blk (i := 3) (vs := [(.int .i64 u38.2.1), (.int .i64 u38.2.2)]) (cs' := [(.int .i64 u38.2.1), (.int .i64 u38.2.2)]) tf_68 rfl rfl rfl rfl hB62 hS63 rfl rfl ⟨rfl, rfl, trivial⟩ rfl ?_)))) a ha))
    intro w65 hk68 hB66 hS67
    refine WL.nil fun a ha => hK36 _ _ (W.region (wl_add rfl rfl rfl (wl_move rfl rfl (WL.nil ?_)))) a ha
    rw [hnx29] at hF
    exact fun a ha => hKL31 a _ m32 (Nat.lt_succ_self m32) ⟨u57, u38.2.1, u38.2.2, (w64 (y28 + 1)), v58, F59, ha.sub ⟨rfl, rfl, rfl, rfl, rfl, trivial⟩, hB66, (hS67.sel [2, 3] rfl), hF⟩
   ·replace hF := ifN h35 hF
    refine W.exit fun a ha => hK18 _ _ (W.seq fun K69 hK69 => (W.region (wl_move rfl rfl (wl_assign rfl rfl (WL.nil (fun a ha => hK69 _ _ (W.ret ?_) a ha)))))) a ha
    have hr := Option.some.inj hF
    subst hr
    exact rets (vs := [v24]) hQ rfl ⟨rv_tmp rfl, trivial⟩ ⟨v24, F25, rfl, hB21, hS22.sel [0] rfl⟩
theorem C_spec_mvAt (w0 : World) (x0 : ((Int × Int) × (Int × Int) × Int)) (x1 : Int) (r : (Int × Int)) (hF : F_spec_mvAt x0 x1 = some r) :
  Calls Try.prog 280 [(.agg #[(.int .i64 x0.1.1), (.int .i64 x0.1.2), (.int .i64 x0.2.1.1), (.int .i64 x0.2.1.2), (.int .i64 x0.2.2)]), (.int .i64 x1)].toArray w0 fun e w' => e = .returned (.tuple #[(.int .i64 r.1), (.int .i64 r.2)]) ∧ Below w0.heap.size w0 w' := by
 refine calls_mk' Try.func280 rfl Try.ntmps280 rfl rfl fun Q hQ hP => ?_
 have hB : Below w0.heap.size w0 w0 := Below.refl _ _
 have hS : Sep w0.heap.size w0 [] := Sep.nil _ _
 unfold F_spec_mvAt at hF
 refine W.seq fun K1 hK1 => W.region (wl_box (cs := [(.int .i64 x0.1.1), (.int .i64 x0.1.2), (.int .i64 x0.2.1.1), (.int .i64 x0.2.1.2), (.int .i64 x0.2.2)]) rfl rfl rfl hB hS ?_)
 intro b2 w3 hb4 hB5 hS6
 refine wl_assign rfl rfl (wl_assign rfl rfl (WL.nil (fun a ha => hK1 _ _ (W.seq fun K7 hK7 => (W.regionH mixed_ [] hB5 hS6 ?_)) a ha)))
 intro w8 hb9 hB10 hS11
 have hSW12 := KeepX.refl w8 []
 refine WH.takex (i := 0) rfl (by kernel_rfl) (by kernel_rfl) (by kernel_rfl) hP hSW12 (pr_field (o := 0) (off' := 0) ff_70_0 rfl rfl rfl (WH.takex (i := 1) rfl (by kernel_rfl) (by kernel_rfl) (by kernel_rfl) hP hSW12 (pr_field (o := 0) (off' := 0) ff_68_0 rfl rfl rfl (WH.takex (i := 2) rfl (by kernel_rfl) (by kernel_rfl) (by kernel_rfl) hP hSW12 (pr_load_blk (i := 0) (vs := [(.int .i64 x0.1.1)]) (v := (.int .i64 x0.1.1)) tf_3 rfl rfl hS11 rfl rfl rfl (by simp) (WH.takex (i := 3) rfl (by kernel_rfl) (by kernel_rfl) (by kernel_rfl) hP hSW12 (pr_field (o := 4) (off' := 4) ff_70_2 rfl rfl rfl (WH.takex (i := 4) rfl (by kernel_rfl) (by kernel_rfl) (by kernel_rfl) hP hSW12 (pr_load_blk (i := 0) (vs := [(.int .i64 x0.2.2)]) (v := (.int .i64 x0.2.2)) tf_3 rfl rfl hS11 rfl rfl rfl (by simp) (WH.takex (i := 5) rfl (by kernel_rfl) (by kernel_rfl) (by kernel_rfl) hP hSW12 (pr_mul rfl rfl rfl ?_)))))))))))
 refine WH.takex (i := 6) rfl (by kernel_rfl) (by kernel_rfl) (by kernel_rfl) hP hSW12 (pr_field (o := 2) (off' := 2) ff_70_1 rfl rfl rfl (WH.takex (i := 7) rfl (by kernel_rfl) (by kernel_rfl) (by kernel_rfl) hP hSW12 (pr_field (o := 0) (off' := 2) ff_68_0 rfl rfl rfl (WH.takex (i := 8) rfl (by kernel_rfl) (by kernel_rfl) (by kernel_rfl) hP hSW12 (pr_load_blk (i := 0) (vs := [(.int .i64 x0.2.1.1)]) (v := (.int .i64 x0.2.1.1)) tf_3 rfl rfl hS11 rfl rfl rfl (by simp) (WH.takex (i := 9) rfl (by kernel_rfl) (by kernel_rfl) (by kernel_rfl) hP hSW12 (pr_field (o := 0) (off' := 0) ff_70_0 rfl rfl rfl (WH.takex (i := 10) rfl (by kernel_rfl) (by kernel_rfl) (by kernel_rfl) hP hSW12 (pr_field (o := 0) (off' := 0) ff_68_0 rfl rfl rfl (WH.takex (i := 11) rfl (by kernel_rfl) (by kernel_rfl) (by kernel_rfl) hP hSW12 ?_))))))))))
 refine pr_load_blk (i := 0) (vs := [(.int .i64 x0.1.1)]) (v := (.int .i64 x0.1.1)) tf_3 rfl rfl hS11 rfl rfl rfl (by simp) (WH.takex (i := 12) rfl (by kernel_rfl) (by kernel_rfl) (by kernel_rfl) hP hSW12 (pr_sub rfl rfl rfl (WH.takex (i := 13) rfl (by kernel_rfl) (by kernel_rfl) (by kernel_rfl) hP hSW12 (pr_move rfl rfl (WH.takex (i := 14) rfl (by kernel_rfl) (by kernel_rfl) (by kernel_rfl) hP hSW12 (pr_mul rfl rfl rfl (WH.takex (i := 15) rfl (by kernel_rfl) (by kernel_rfl) (by kernel_rfl) hP hSW12 (pr_add rfl rfl rfl (WH.takex (i := 16) rfl (by kernel_rfl) (by kernel_rfl) (by kernel_rfl) hP hSW12 (pr_field (o := 0) (off' := 0) ff_70_0 rfl rfl rfl (WH.takex (i := 17) rfl (by kernel_rfl) (by kernel_rfl) (by kernel_rfl) hP hSW12 (pr_field (o := 1) (off' := 1) ff_68_1 rfl rfl rfl (WH.takex (i := 18) rfl (by kernel_rfl) (by kernel_rfl) (by kernel_rfl) hP hSW12 ?_)))))))))))))
 refine pr_load_blk (i := 0) (vs := [(.int .i64 x0.1.2)]) (v := (.int .i64 x0.1.2)) tf_3 rfl rfl hS11 rfl rfl rfl (by simp) (WH.takex (i := 19) rfl (by kernel_rfl) (by kernel_rfl) (by kernel_rfl) hP hSW12 (pr_field (o := 4) (off' := 4) ff_70_2 rfl rfl rfl (WH.takex (i := 20) rfl (by kernel_rfl) (by kernel_rfl) (by kernel_rfl) hP hSW12 (pr_load_blk (i := 0) (vs := [(.int .i64 x0.2.2)]) (v := (.int .i64 x0.2.2)) tf_3 rfl rfl hS11 rfl rfl rfl (by simp) (WH.takex (i := 21) rfl (by kernel_rfl) (by kernel_rfl) (by kernel_rfl) hP hSW12 (pr_mul rfl rfl rfl (WH.takex (i := 22) rfl (by kernel_rfl) (by kernel_rfl) (by kernel_rfl) hP hSW12 (pr_field (o := 2) (off' := 2) ff_70_1 rfl rfl rfl (WH.takex (i := 23) rfl (by kernel_rfl) (by kernel_rfl) (by kernel_rfl) hP hSW12 (pr_field (o := 1) (off' := 3) ff_68_1 rfl rfl rfl ?_))))))))))
 refine WH.takex (i := 24) rfl (by kernel_rfl) (by kernel_rfl) (by kernel_rfl) hP hSW12 (pr_load_blk (i := 0) (vs := [(.int .i64 x0.2.1.2)]) (v := (.int .i64 x0.2.1.2)) tf_3 rfl rfl hS11 rfl rfl rfl (by simp) (WH.takex (i := 25) rfl (by kernel_rfl) (by kernel_rfl) (by kernel_rfl) hP hSW12 (pr_field (o := 0) (off' := 0) ff_70_0 rfl rfl rfl (WH.takex (i := 26) rfl (by kernel_rfl) (by kernel_rfl) (by kernel_rfl) hP hSW12 (pr_field (o := 1) (off' := 1) ff_68_1 rfl rfl rfl (WH.takex (i := 27) rfl (by kernel_rfl) (by kernel_rfl) (by kernel_rfl) hP hSW12 (pr_load_blk (i := 0) (vs := [(.int .i64 x0.1.2)]) (v := (.int .i64 x0.1.2)) tf_3 rfl rfl hS11 rfl rfl rfl (by simp) (WH.takex (i := 28) rfl (by kernel_rfl) (by kernel_rfl) (by kernel_rfl) hP hSW12 (pr_sub rfl rfl rfl (WH.takex (i := 29) rfl (by kernel_rfl) (by kernel_rfl) (by kernel_rfl) hP hSW12 (pr_move rfl rfl ?_)))))))))))
 refine WH.takex (i := 30) rfl (by kernel_rfl) (by kernel_rfl) (by kernel_rfl) hP hSW12 (pr_mul rfl rfl rfl (WH.takex (i := 31) rfl (by kernel_rfl) (by kernel_rfl) (by kernel_rfl) hP hSW12 (pr_add rfl rfl rfl (WH.takex (i := 32) rfl (by kernel_rfl) (by kernel_rfl) (by kernel_rfl) hP hSW12 (pr_assign rfl rfl (WH.takex (i := 33) rfl (by kernel_rfl) (by kernel_rfl) (by kernel_rfl) hP hSW12 (pr_assign rfl rfl (WH.done (by kernel_rfl) (fun a ha => hK7 _ _ (W.ret ?_) a ha)))))))))
 have hr := Option.some.inj hF
 subst hr
 exact rets (vs := [(.int .i64 (w64 ((w64 (x0.1.1 * x0.2.2)) + (w64 ((w64 (x0.2.1.1 - x0.1.1)) * x1))))), (.int .i64 (w64 ((w64 (x0.1.2 * x0.2.2)) + (w64 ((w64 (x0.2.1.2 - x0.1.2)) * x1)))))]) hQ rfl ⟨rv_tmp rfl, rv_tmp rfl, trivial⟩ ⟨rfl, hB10⟩
theorem C_spec_mvRound (w0 : World) (x0 : ((Int × Int) × (Int × Int) × Int)) (x1 : Int) (r : (Int × Int)) (hF : F_spec_mvRound x0 x1 = some r) :
  Calls Try.prog 272 [(.agg #[(.int .i64 x0.1.1), (.int .i64 x0.1.2), (.int .i64 x0.2.1.1), (.int .i64 x0.2.1.2), (.int .i64 x0.2.2)]), (.int .i64 x1)].toArray w0 fun e w' => e = .returned (.agg #[(.int .i64 r.1), (.int .i64 r.2)]) ∧ Below w0.heap.size w0 w' := by
 refine calls_mk' Try.func272 rfl Try.ntmps272 rfl rfl fun Q hQ hP => ?_
 have hB : Below w0.heap.size w0 w0 := Below.refl _ _
 have hS : Sep w0.heap.size w0 [] := Sep.nil _ _
 unfold F_spec_mvRound at hF
 refine W.seq fun K1 hK1 => W.region (wl_box (cs := [(.int .i64 x0.1.1), (.int .i64 x0.1.2), (.int .i64 x0.2.1.1), (.int .i64 x0.2.1.2), (.int .i64 x0.2.2)]) rfl rfl rfl hB hS ?_)
 intro b2 w3 hb4 hB5 hS6
 refine wl_alloc (cs := [(.int .i64 0), (.int .i64 0)]) tf_68 rfl rfl hB5 hS6 ?_
 intro b7 w8 hb9 hB10 hS11
 refine WL.nil fun a ha => hK1 _ _ (W.seq fun K12 hK12 => (W.region (wl_load_blk (i := 1) (vs := [(.int .i64 x0.1.1), (.int .i64 x0.1.2), (.int .i64 x0.2.1.1), (.int .i64 x0.2.1.2), (.int .i64 x0.2.2)]) (v := (.agg #[(.int .i64 x0.1.1), (.int .i64 x0.1.2), (.int .i64 x0.2.1.1), (.int .i64 x0.2.1.2), (.int .i64 x0.2.2)])) tf_70 rfl rfl hS11 rfl rfl rfl (wl_move rfl rfl ?_)))) a ha
 obtain ⟨u13, hu13, hF⟩ := bindE hF
 refine wl_call rfl Try.call280 (C_spec_mvAt w8 x0 x1 _ hu13) rfl ?_
 rintro _ w14 ⟨rfl, hb15⟩
 refine ⟨_, rfl, ?_⟩
 have hB16 := hB10.trans (hb15.mono hB10.size)
 have hS17 := hS11.below hb15
 refine wl_move rfl rfl (wl_extract rfl rfl rfl (wl_extract rfl rfl rfl (wl_assign rfl rfl (wl_assign rfl rfl (WL.nil (fun a ha => hK12 _ _ (W.seq fun K19 hK19 => (W.regionH mixed_ [b7] hB16 hS17 ?_)) a ha))))))
 intro w20 hb21 hB22 hS23
 have hSW24 := KeepX.refl w20 [b7]
 refine WH.takex (i := 0) rfl (by kernel_rfl) (by kernel_rfl) (by kernel_rfl) hP hSW24 (pr_move rfl rfl (WH.takex (i := 1) rfl (by kernel_rfl) (by kernel_rfl) (by kernel_rfl) hP hSW24 (pr_mul rfl rfl rfl (WH.takex (i := 2) rfl (by kernel_rfl) (by kernel_rfl) (by kernel_rfl) hP hSW24 (pr_field (o := 4) (off' := 4) ff_70_2 rfl rfl rfl (WH.takex (i := 3) rfl (by kernel_rfl) (by kernel_rfl) (by kernel_rfl) hP hSW24 (pr_load_blk (i := 1) (vs := [(.int .i64 x0.2.2)]) (v := (.int .i64 x0.2.2)) tf_3 rfl rfl hS23 rfl rfl rfl (hS23.disj (i := 1) (j := 0) rfl rfl rfl b2 (by simp [R.blk])) (WH.takex (i := 4) rfl (by kernel_rfl) (by kernel_rfl) (by kernel_rfl) hP hSW24 (pr_add rfl rfl rfl (WH.takex (i := 5) rfl (by kernel_rfl) (by kernel_rfl) (by kernel_rfl) hP hSW24 (pr_field (o := 4) (off' := 4) ff_70_2 rfl rfl rfl ?_)))))))))))
 refine WH.takex (i := 6) rfl (by kernel_rfl) (by kernel_rfl) (by kernel_rfl) hP hSW24 (pr_load_blk (i := 1) (vs := [(.int .i64 x0.2.2)]) (v := (.int .i64 x0.2.2)) tf_3 rfl rfl hS23 rfl rfl rfl (hS23.disj (i := 1) (j := 0) rfl rfl rfl b2 (by simp [R.blk])) (WH.takex (i := 7) rfl (by kernel_rfl) (by kernel_rfl) (by kernel_rfl) hP hSW24 (pr_mul rfl rfl rfl ?_)))
 have h25 : (w64 (2 * x0.2.2)) ≠ 0 := fun h25 => noneE (ifP h25 hF)
 replace hF := ifNP h25 hF
 refine WH.takex (i := 8) rfl (by kernel_rfl) (by kernel_rfl) (by kernel_rfl) hP hSW24 (pr_quo rfl rfl rfl h25 (WH.takex (i := 9) rfl (by kernel_rfl) (by kernel_rfl) (by kernel_rfl) hP hSW24 (pr_move rfl rfl (WH.takex (i := 10) rfl (by kernel_rfl) (by kernel_rfl) (by kernel_rfl) hP hSW24 (pr_mul rfl rfl rfl (WH.takex (i := 11) rfl (by kernel_rfl) (by kernel_rfl) (by kernel_rfl) hP hSW24 (pr_field (o := 4) (off' := 4) ff_70_2 rfl rfl rfl (WH.takex (i := 12) rfl (by kernel_rfl) (by kernel_rfl) (by kernel_rfl) hP hSW24 (pr_load_blk (i := 1) (vs := [(.int .i64 x0.2.2)]) (v := (.int .i64 x0.2.2)) tf_3 rfl rfl hS23 rfl rfl rfl (hS23.disj (i := 1) (j := 0) rfl rfl rfl b2 (by simp [R.blk])) (WH.takex (i := 13) rfl (by kernel_rfl) (by kernel_rfl) (by kernel_rfl) hP hSW24 (pr_add rfl rfl rfl (WH.takex (i := 14) rfl (by kernel_rfl) (by kernel_rfl) (by kernel_rfl) hP hSW24 ?_))))))))))))
 refine pr_field (o := 4) (off' := 4) ff_70_2 rfl rfl rfl (WH.takex (i := 15) rfl (by kernel_rfl) (by kernel_rfl) (by kernel_rfl) hP hSW24 (pr_load_blk (i := 1) (vs := [(.int .i64 x0.2.2)]) (v := (.int .i64 x0.2.2)) tf_3 rfl rfl hS23 rfl rfl rfl (hS23.disj (i := 1) (j := 0) rfl rfl rfl b2 (by simp [R.blk])) (WH.takex (i := 16) rfl (by kernel_rfl) (by kernel_rfl) (by kernel_rfl) hP hSW24 (pr_mul rfl rfl rfl ?_))))
 have h26 : (w64 (2 * x0.2.2)) ≠ 0 := fun h26 => noneE (ifP h26 hF)
 replace hF := ifNP h26 hF
 refine WH.takex (i := 17) rfl (by kernel_rfl) (by kernel_rfl) (by kernel_rfl) hP hSW24 (pr_quo rfl rfl rfl h26 (WH.takex (i := 18) rfl (by kernel_rfl) (by kernel_rfl) (by kernel_rfl) hP hSW24 (pr_build (zs := [(.int .i64 0), (.int .i64 0)]) (out := [(.int .i64 (w64 (Int.tdiv (w64 ((w64 (2 * u13.1)) + x0.2.2)) (w64 (2 * x0.2.2))))), (.int .i64 (w64 (Int.tdiv (w64 ((w64 (2 * u13.2)) + x0.2.2)) (w64 (2 * x0.2.2)))))]) (vs := [(.int .i64 (w64 (Int.tdiv (w64 ((w64 (2 * u13.1)) + x0.2.2)) (w64 (2 * x0.2.2))))), (.int .i64 (w64 (Int.tdiv (w64 ((w64 (2 * u13.2)) + x0.2.2)) (w64 (2 * x0.2.2)))))]) (css := [[(.int .i64 (w64 (Int.tdiv (w64 ((w64 (2 * u13.1)) + x0.2.2)) (w64 (2 * x0.2.2)))))], [(.int .i64 (w64 (Int.tdiv (w64 ((w64 (2 * u13.2)) + x0.2.2)) (w64 (2 * x0.2.2)))))]]) tf_68 pl_68 rfl rfl rfl rfl rfl (WH.one (i := 19) (by kernel_rfl) rfl ?_))))
 refine wl_store_blk (i := 0) (vs := [(.int .i64 (w64 (Int.tdiv (w64 ((w64 (2 * u13.1)) + x0.2.2)) (w64 (2 * x0.2.2))))), (.int .i64 (w64 (Int.tdiv (w64 ((w64 (2 * u13.2)) + x0.2.2)) (w64 (2 * x0.2.2)))))]) (cs' := [(.int .i64 (w64 (Int.tdiv (w64 ((w64 (2 * u13.1)) + x0.2.2)) (w64 (2 * x0.2.2))))), (.int .i64 (w64 (Int.tdiv (w64 ((w64 (2 * u13.2)) + x0.2.2)) (w64 (2 * x0.2.2)))))]) tf_68 rfl rfl rfl rfl hB22 hS23 rfl rfl ⟨rfl, rfl, trivial⟩ rfl ?_
 intro w27 hk30 hB28 hS29
 have hSW31 := hSW24.wr' hk30.1 hk30.2.1 (fun _ _ h => h)
 have hbs32 : ∀ b, b < w20.heap.size → b ∈ [b7] → b ∈ [b7] := fun b hlt hb => (hk30.2.2 b hb).elim ((fun _ _ h => h) b hlt) (fun h => absurd hlt (Nat.not_lt.2 (Nat.le_trans hSW24.size h)))
 refine WL.nil (WH.ret hSW31 (WH.done (by kernel_rfl) (fun a ha => hK19 _ _ (W.ret ?_) a ha)))
 have hr := Option.some.inj hF
 subst hr
 exact rets (vs := [(.agg #[(.int .i64 (w64 (Int.tdiv (w64 ((w64 (2 * u13.1)) + x0.2.2)) (w64 (2 * x0.2.2))))), (.int .i64 (w64 (Int.tdiv (w64 ((w64 (2 * u13.2)) + x0.2.2)) (w64 (2 * x0.2.2)))))])]) hQ rfl ⟨rv_cell (i := 0) tf_68 rfl hS29 rfl rfl rfl, trivial⟩ ⟨rfl, hB28⟩
theorem C_spec_SpotAfter (w0 : World) (x0 : (Int × (Int × Int) × (List (Int × (Int × Int))))) (v0_0 : Value) (h0_0 : rdS ty_169 (· < w0.heap.size) w0 v0_0 x0.2.2) (x1 : Int) (r : ((Int × Int) × Bool)) (hF : F_spec_SpotAfter x0 x1 = some r) :
  Calls Try.prog 249 [(.agg #[(.int .i64 x0.1), (.int .i64 x0.2.1.1), (.int .i64 x0.2.1.2), v0_0]), (.int .i64 x1)].toArray w0 fun e w' => e = .returned (.tuple #[(.agg #[(.int .i64 r.1.1), (.int .i64 r.1.2)]), (.bool r.2)]) ∧ Below w0.heap.size w0 w' := by
 refine calls_mk' Try.func249 rfl Try.ntmps249 rfl rfl fun Q hQ hP => ?_
 have hB : Below w0.heap.size w0 w0 := Below.refl _ _
 have hS : Sep w0.heap.size w0 [] := Sep.nil _ _
 unfold F_spec_SpotAfter at hF
 refine W.seq fun K1 hK1 => W.region (wl_box (cs := [(.int .i64 x0.1), (.int .i64 x0.2.1.1), (.int .i64 x0.2.1.2), v0_0]) rfl rfl rfl hB hS ?_)
 intro b2 w3 hb4 hB5 hS6
 refine wl_alloc (cs := [(.int .i64 0), (.int .i64 0)]) tf_68 rfl rfl hB5 hS6 ?_
 intro b7 w8 hb9 hB10 hS11
 refine wl_assign rfl rfl (WL.nil (fun a ha => hK1 _ _ (W.seq fun K12 hK12 => (W.seq fun K13 hK13 => ?_)) a ha))
 obtain ⟨k18, hk18, hF⟩ := jE1 hF
 have hJ19 : ∀ (y17 : Bool) (w14 : World) (_ : k18 y17 = some r) (_ : Below w0.heap.size w0 w14) (_ : Sep w0.heap.size w14 [R.blk b2 114 [(.int .i64 x0.1), (.int .i64 x0.2.1.1), (.int .i64 x0.2.1.2), v0_0], R.blk b7 68 [(.int .i64 0), (.int .i64 0)]]), ∀ a, St 40 [(1, (.int .i64 x1)), (2, (.pointer (some ⟨b2, 0, none⟩))), (4, (.pointer (some ⟨b7, 0, none⟩))), (14, (.bool y17))] a → K13 a w14 := by
  intro y17 w14 hF hB15 hS16
  subst hk18
  refine fun a ha => hK13 _ _ (W.cond rfl (fun h20 => ?_) (fun h20 => ?_)) a ha
  ·replace hF := ifP h20 hF
   refine W.seq fun K21 hK21 => W.region (wl_build (zs := [(.int .i64 0), (.int .i64 0)]) (out := [(.int .i64 0), (.int .i64 0)]) (vs := []) (css := []) tf_68 pl_68 rfl rfl rfl rfl rfl (wl_store_blk (i := 1) (vs := [(.int .i64 0), (.int .i64 0)]) (cs' := [(.int .i64 0), (.int .i64 0)]) tf_68 rfl rfl rfl rfl hB15 hS16 rfl rfl ⟨rfl, rfl, trivial⟩ rfl ?_))
   intro w22 hk25 hB23 hS24
   refine wl_assign rfl rfl (WL.nil (fun a ha => hK21 _ _ (W.ret ?_) a ha))
   have hr := Option.some.inj hF
   subst hr
   exact rets (vs := [(.agg #[(.int .i64 0), (.int .i64 0)]), (.bool false)]) hQ rfl ⟨rv_cell (i := 1) tf_68 rfl hS24 rfl rfl rfl, rv_tmp rfl, trivial⟩ ⟨rfl, hB23⟩
  ·replace hF := ifN h20 hF
   refine W.skip fun a ha => hK12 _ _ (W.seq fun K26 hK26 => (W.seq fun K27 hK27 => (W.region (wl_move rfl rfl (wl_eql rfl rfl rfl (WL.nil (fun a ha => hK27 _ _ (W.cond rfl (fun h28 => ?_) (fun h28 => ?_)) a ha))))))) a ha
   ·replace hF := ifP h28 hF
    refine W.seq fun K29 hK29 => W.region (wl_field (o := 1) (off' := 1) ff_114_1 rfl rfl rfl (wl_load_blk (i := 0) (vs := [(.int .i64 x0.2.1.1), (.int .i64 x0.2.1.2)]) (v := (.agg #[(.int .i64 x0.2.1.1), (.int .i64 x0.2.1.2)])) tf_68 rfl rfl hS16 rfl rfl rfl (wl_store_blk (i := 1) (vs := [(.int .i64 x0.2.1.1), (.int .i64 x0.2.1.2)]) (cs' := [(.int .i64 x0.2.1.1), (.int .i64 x0.2.1.2)]) tf_68 rfl rfl rfl rfl hB15 hS16 rfl rfl ⟨rfl, rfl, trivial⟩ rfl ?_)))
    intro w30 hk33 hB31 hS32
    refine wl_assign rfl rfl (WL.nil (fun a ha => hK29 _ _ (W.ret ?_) a ha))
    have hr := Option.some.inj hF
    subst hr
    exact rets (vs := [(.agg #[(.int .i64 x0.2.1.1), (.int .i64 x0.2.1.2)]), (.bool true)]) hQ rfl ⟨rv_cell (i := 1) tf_68 rfl hS32 rfl rfl rfl, rv_tmp rfl, trivial⟩ ⟨rfl, hB31⟩
   ·replace hF := ifN h28 hF
    refine W.skip fun a ha => hK26 _ _ (W.seq fun K34 hK34 => (W.seq fun K35 hK35 => (W.region (wl_load_blk (i := 0) (vs := [(.int .i64 x0.1), (.int .i64 x0.2.1.1), (.int .i64 x0.2.1.2), v0_0]) (v := (.agg #[(.int .i64 x0.1), (.int .i64 x0.2.1.1), (.int .i64 x0.2.1.2), v0_0])) tf_114 rfl rfl hS16 rfl rfl rfl ?_)))) a ha
    obtain ⟨u36, hu36, hF⟩ := bindE hF
    refine wl_call rfl Try.call271 (C_spec_shRows w14 x0 v0_0 (h0_0.ro hB15) _ hu36) rfl ?_
    rintro _ w39 ⟨v37, F38, rfl, hb40, hM43⟩
    refine ⟨_, rfl, ?_⟩
    have hB41 := hB15.trans (hb40.mono hB15.size)
    have hS42 := hS16.join hb40 hM43 hB15.size
    refine wl_lenr (e := ty_70) (l := u36) Try.underlying64 rfl rfl (hS42.own_ro (i := 0) rfl) (wl_move rfl rfl (WL.nil (fun a ha => hK35 _ _ (W.block (W.loopk (fun m a w44 => ∃ (y47 : Int) (y48 : Int), St 40 [(1, (.int .i64 y47)), (4, (.pointer (some ⟨b7, 0, none⟩))), (21, v37), (22, (.int .i64 (List.length u36 : Int))), (23, (.int .i64 y48))] a ∧ Below w0.heap.size w0 w44 ∧ Sep w0.heap.size w44 [R.blk b7 68 [(.int .i64 0), (.int .i64 0)], R.own ty_70 F38 v37 u36] ∧ F_spec_SpotAfter_L1 u36 m y47 y48 = some r) FU ?_ ?_)) a ha)))
    ·
     exact fun a ha => ⟨x1, 0, ha.sub ⟨rfl, rfl, rfl, rfl, rfl, trivial⟩, hB41, (hS42.sel [2, 0] rfl), hF⟩
    ·
     rintro m51 a w44 ⟨y47, y48, ha, hB45, hS46, hF⟩ KL50 hKL50
     refine W.at ?_ ha
     cases m51 with
     | zero => exact noneE hF
     | succ m51 =>
      obtain ⟨nx49, hnx49⟩ : ∃ k, k = F_spec_SpotAfter_L1 u36 m51 := ⟨_, rfl⟩
      rw [F_spec_SpotAfter_L1, ← hnx49] at hF
      refine W.seq fun K52 hK52 => W.region (wl_lss rfl rfl rfl (WL.nil (fun a ha => hK52 _ _ (W.seq fun K53 hK53 => (W.cond rfl (fun h54 => ?_) (fun h54 => ?_))) a ha)))
      ·replace hF := ifP h54 hF
       refine W.skip fun a ha => hK53 _ _ (W.seq fun K55 hK55 => (W.block (W.seq fun K56 hK56 => (W.region ?_)))) a ha
       obtain ⟨u57, hu57, hF⟩ := bindE hF
       refine wl_indexo (e := ty_70) (i := 1) Try.underlying64 rfl rfl rfl hS46 rfl hu57 ?_
       rintro p58 _ rfl hp59 ho60
       refine wl_load_p (vs := [(.int .i64 u57.1.1), (.int .i64 u57.1.2), (.int .i64 u57.2.1.1), (.int .i64 u57.2.1.2), (.int .i64 u57.2.2)]) (v := (.agg #[(.int .i64 u57.1.1), (.int .i64 u57.1.2), (.int .i64 u57.2.1.1), (.int .i64 u57.2.1.2), (.int .i64 u57.2.2)])) tf_70 rfl rfl hp59 rfl rfl (wl_alloc (cs := [(.int .i64 0), (.int .i64 0), (.int .i64 0), (.int .i64 0), (.int .i64 0)]) tf_70 rfl rfl hB45 hS46 ?_)
       intro b61 w62 hb63 hB64 hS65
       refine wl_store_blk (i := 0) (vs := [(.int .i64 u57.1.1), (.int .i64 u57.1.2), (.int .i64 u57.2.1.1), (.int .i64 u57.2.1.2), (.int .i64 u57.2.2)]) (cs' := [(.int .i64 u57.1.1), (.int .i64 u57.1.2), (.int .i64 u57.2.1.1), (.int .i64 u57.2.1.2), (.int .i64 u57.2.2)]) tf_70 rfl rfl rfl rfl hB64 hS65 rfl rfl ⟨rfl, rfl, rfl, rfl, rfl, trivial⟩ rfl ?_
       intro w66 hk69 hB67 hS68
       refine WL.nil fun a ha => hK56 _ _ (W.seq fun K70 hK70 => (W.seq fun K71 hK71 => (W.region (wl_move rfl rfl (wl_field (o := 4) (off' := 4) ff_70_2 rfl rfl rfl (wl_load_blk (i := 0) (vs := [(.int .i64 u57.2.2)]) (v := (.int .i64 u57.2.2)) tf_3 rfl rfl hS68 rfl rfl rfl (wl_leq rfl rfl rfl (WL.nil (fun a ha => hK71 _ _ (W.cond rfl (fun h72 => ?_) (fun h72 => ?_)) a ha))))))))) a ha
       ·replace hF := ifP h72 hF
        refine W.seq fun K73 hK73 => W.region (wl_load_blk (i := 0) (vs := [(.int .i64 u57.1.1), (.int .i64 u57.1.2), (.int .i64 u57.2.1.1), (.int .i64 u57.2.1.2), (.int .i64 u57.2.2)]) (v := (.agg #[(.int .i64 u57.1.1), (.int .i64 u57.1.2), (.int .i64 u57.2.1.1), (.int .i64 u57.2.1.2), (.int .i64 u57.2.2)])) tf_70 rfl rfl hS68 rfl rfl rfl (wl_move rfl rfl ?_))
        obtain ⟨u74, hu74, hF⟩ := bindE hF
        refine wl_call rfl Try.call272 (C_spec_mvRound w66 u57 y47 _ hu74) rfl ?_
        rintro _ w75 ⟨rfl, hb76⟩
        refine ⟨_, rfl, ?_⟩
        have hB77 := hB67.trans (hb76.mono hB67.size)
        have hS78 := hS68.below hb76
        refine wl_store_blk (i := 1) (vs := [(.int .i64 u74.1), (.int .i64 u74.2)]) (cs' := [(.int .i64 u74.1), (.int .i64 u74.2)]) tf_68 rfl rfl rfl rfl hB77 hS78 rfl rfl ⟨rfl, rfl, trivial⟩ rfl ?_
        intro w80 hk83 hB81 hS82
        refine wl_assign rfl rfl (WL.nil (fun a ha => hK73 _ _ (W.ret ?_) a ha))
        have hr := Option.some.inj hF
        subst hr
        exact rets (vs := [(.agg #[(.int .i64 u74.1), (.int .i64 u74.2)]), (.bool true)]) hQ rfl ⟨rv_cell (i := 1) tf_68 rfl hS82 rfl rfl rfl, rv_tmp rfl, trivial⟩ ⟨rfl, hB81⟩
       ·replace hF := ifN h72 hF
        refine W.skip fun a ha => hK70 _ _ (W.region (wl_move rfl rfl (wl_field (o := 4) (off' := 4) ff_70_2 rfl rfl rfl (wl_load_blk (i := 0) (vs := [(.int .i64 u57.2.2)]) (v := (.int .i64 u57.2.2)) tf_3 rfl rfl hS68 rfl rfl rfl (wl_sub rfl rfl rfl (wl_assign rfl rfl (WL.nil (fun a ha => hK55 _ _ (W.region (wl_add rfl rfl rfl (wl_move rfl rfl (WL.nil ?_)))) a ha)))))))) a ha
        rw [hnx49] at hF
        exact fun a ha => hKL50 a _ m51 (Nat.lt_succ_self m51) ⟨(w64 (y47 - u57.2.2)), (w64 (y48 + 1)), ha.sub ⟨rfl, rfl, rfl, rfl, rfl, trivial⟩, hB67, (hS68.sel [1, 2] rfl), hF⟩
      ·replace hF := ifN h54 hF
       refine W.exit fun a ha => hK34 _ _ (W.seq fun K84 hK84 => (W.region (wl_build (zs := [(.int .i64 0), (.int .i64 0)]) (out := [(.int .i64 0), (.int .i64 0)]) (vs := []) (css := []) tf_68 pl_68 rfl rfl rfl rfl rfl (wl_store_blk (i := 0) (vs := [(.int .i64 0), (.int .i64 0)]) (cs' := [(.int .i64 0), (.int .i64 0)]) tf_68 rfl rfl rfl rfl hB45 hS46 rfl rfl ⟨rfl, rfl, trivial⟩ rfl ?_)))) a ha
       intro w85 hk88 hB86 hS87
       refine wl_assign rfl rfl (WL.nil (fun a ha => hK84 _ _ (W.ret ?_) a ha))
       have hr := Option.some.inj hF
       subst hr
       exact rets (vs := [(.agg #[(.int .i64 0), (.int .i64 0)]), (.bool false)]) hQ rfl ⟨rv_cell (i := 0) tf_68 rfl hS87 rfl rfl rfl, rv_tmp rfl, trivial⟩ ⟨rfl, hB86⟩
 refine W.region (wl_load_blk (i := 1) (vs := [(.int .i64 x0.1), (.int .i64 x0.2.1.1), (.int .i64 x0.2.1.2), v0_0]) (v := (.agg #[(.int .i64 x0.1), (.int .i64 x0.2.1.1), (.int .i64 x0.2.1.2), v0_0])) tf_114 rfl rfl hS11 rfl rfl rfl ?_)
 obtain ⟨u89, hu89, hF⟩ := bindE hF
 refine wl_call rfl Try.call270 (C_spec_shGood w8 x0 v0_0 (h0_0.ro hB10) _ hu89) rfl ?_
 rintro _ w90 ⟨rfl, hb91⟩
 refine ⟨_, rfl, ?_⟩
 have hB92 := hB10.trans (hb91.mono hB10.size)
 have hS93 := hS11.below hb91
 refine wl_not rfl rfl (wl_move rfl rfl ?_)
 rcases bE (!u89) with h95 | h95
 ·replace hF := ifP h95 hF
  refine wl_off rfl rfl rfl h95 (wl_off rfl rfl rfl h95 (wl_pick_t rfl rfl h95 rfl (WL.nil ?_)))
  exact fun a ha => hJ19 (true) _ hF hB92 (hS93.sel [1, 0] rfl) a (ha.sub ⟨rfl, rfl, rfl, rfl, trivial⟩)
 ·replace hF := ifN h95 hF
  refine wl_on rfl rfl h95 (wl_move rfl rfl (wl_on rfl rfl h95 (wl_lss rfl rfl rfl (wl_pick_f rfl rfl h95 rfl (WL.nil ?_)))))
  exact fun a ha => hJ19 ((decide (x1 < 0))) _ hF hB92 (hS93.sel [1, 0] rfl) a (ha.sub ⟨rfl, rfl, rfl, rfl, trivial⟩)
theorem C_spec_mnWhere (w0 : World) (x0 : (((List (List (Int × Int))) × (List Int) × Int × Int) × Int × (List Int) × (List Int))) (v0_0 : Value) (h0_0 : rdS ty_63 (· < w0.heap.size) w0 v0_0 x0.1.1) (v0_1 : Value) (h0_1 : rdS ty_3 (· < w0.heap.size) w0 v0_1 x0.1.2.1) (v0_2 : Value) (h0_2 : rdS ty_3 (· < w0.heap.size) w0 v0_2 x0.2.2.1) (v0_3 : Value) (h0_3 : rdS ty_3 (· < w0.heap.size) w0 v0_3 x0.2.2.2) (x1 : Int) (r : (Int × Int)) (hF : F_spec_mnWhere x0 x1 = some r) :
  Calls Try.prog 207 [(.agg #[v0_0, v0_1, (.int .i64 x0.1.2.2.1), (.int .i64 x0.1.2.2.2), (.int .i64 x0.2.1), v0_2, v0_3]), (.int .i64 x1)].toArray w0 fun e w' => e = .returned (.agg #[(.int .i64 r.1), (.int .i64 r.2)]) ∧ Below w0.heap.size w0 w' := by
 refine calls_mk' Try.func207 rfl Try.ntmps207 rfl rfl fun Q hQ hP => ?_
 have hB : Below w0.heap.size w0 w0 := Below.refl _ _
 have hS : Sep w0.heap.size w0 [] := Sep.nil _ _
 unfold F_spec_mnWhere at hF
 refine W.seq fun K1 hK1 => W.region (wl_box (cs := [v0_0, v0_1, (.int .i64 x0.1.2.2.1), (.int .i64 x0.1.2.2.2), (.int .i64 x0.2.1), v0_2, v0_3]) rfl rfl rfl hB hS ?_)
 intro b2 w3 hb4 hB5 hS6
 refine wl_alloc (cs := [(.int .i64 0), (.int .i64 0)]) tf_68 rfl rfl hB5 hS6 ?_
 intro b7 w8 hb9 hB10 hS11
 refine WL.nil fun a ha => hK1 _ _ (W.seq fun K12 hK12 => ?_) a ha
 obtain ⟨k19, hk19, hF⟩ := jE2 hF
 have hJ20 : ∀ (y17 : Int) (y18 : Int) (b16 : Nat) (w13 : World) (_ : k19 y17 y18 = some r) (_ : Below w0.heap.size w0 w13) (_ : Sep w0.heap.size w13 [R.blk b7 68 [(.int .i64 0), (.int .i64 0)], R.blk b16 68 [(.int .i64 y17), (.int .i64 y18)]]), ∀ a, St 23 [(4, (.pointer (some ⟨b7, 0, none⟩))), (5, (.pointer (some ⟨b16, 0, none⟩)))] a → K12 a w13 := by
  intro y17 y18 b16 w13 hF hB14 hS15
  subst hk19
  refine fun a ha => hK12 _ _ (W.seq fun K21 hK21 => (W.region (wl_load_blk (i := 1) (vs := [(.int .i64 y17), (.int .i64 y18)]) (v := (.agg #[(.int .i64 y17), (.int .i64 y18)])) tf_68 rfl rfl hS15 rfl rfl rfl (wl_store_blk (i := 0) (vs := [(.int .i64 y17), (.int .i64 y18)]) (cs' := [(.int .i64 y17), (.int .i64 y18)]) tf_68 rfl rfl rfl rfl hB14 hS15 rfl rfl ⟨rfl, rfl, trivial⟩ rfl ?_)))) a ha
  intro w22 hk25 hB23 hS24
  refine WL.nil fun a ha => hK21 _ _ (W.ret ?_) a ha
  have hr := Option.some.inj hF
  subst hr
  exact rets (vs := [(.agg #[(.int .i64 y17), (.int .i64 y18)])]) hQ rfl ⟨rv_cell (i := 0) tf_68 rfl hS24 rfl rfl rfl, trivial⟩ ⟨rfl, hB23⟩
 refine W.regionH mixed_ [] hB10 hS11 ?_
 intro w26 hb27 hB28 hS29
 have hSW30 := KeepX.refl w26 []
 refine WH.takex (i := 0) rfl (by kernel_rfl) (by kernel_rfl) (by kernel_rfl) hP hSW30 (pr_field (o := 0) (off' := 0) ff_102_0 rfl rfl rfl (WH.takex (i := 1) rfl (by kernel_rfl) (by kernel_rfl) (by kernel_rfl) hP hSW30 (pr_field (o := 0) (off' := 0) ff_53_0 rfl rfl rfl (WH.takex (i := 2) rfl (by kernel_rfl) (by kernel_rfl) (by kernel_rfl) hP hSW30 (pr_load_blk (i := 1) (vs := [v0_0]) (v := v0_0) tf_51 rfl rfl hS29 rfl rfl rfl (by simp) (WH.takex (i := 3) rfl (by kernel_rfl) (by kernel_rfl) (by kernel_rfl) hP hSW30 (pr_field (o := 0) (off' := 0) ff_102_0 rfl rfl rfl (WH.takex (i := 4) rfl (by kernel_rfl) (by kernel_rfl) (by kernel_rfl) hP hSW30 (pr_field (o := 1) (off' := 1) ff_53_1 rfl rfl rfl (WH.takex (i := 5) rfl (by kernel_rfl) (by kernel_rfl) (by kernel_rfl) hP hSW30 (pr_load_blk (i := 1) (vs := [v0_1]) (v := v0_1) tf_29 rfl rfl hS29 rfl rfl rfl (by simp) ?_)))))))))))
 refine WH.takex (i := 6) rfl (by kernel_rfl) (by kernel_rfl) (by kernel_rfl) hP hSW30 (pr_move rfl rfl (WH.takex (i := 8) rfl (by kernel_rfl) (by kernel_rfl) (by kernel_rfl) hP hSW30 (pr_load_blk (i := 1) (vs := [v0_0, v0_1, (.int .i64 x0.1.2.2.1), (.int .i64 x0.1.2.2.2), (.int .i64 x0.2.1), v0_2, v0_3]) (v := (.agg #[v0_0, v0_1, (.int .i64 x0.1.2.2.1), (.int .i64 x0.1.2.2.2), (.int .i64 x0.2.1), v0_2, v0_3])) tf_102 rfl rfl hS29 rfl rfl rfl (by simp) (WH.takex (i := 9) rfl (by kernel_rfl) (by kernel_rfl) (by kernel_rfl) hP hSW30 (pr_move rfl rfl (WH.many (is := [7, 15]) (by kernel_rfl) rfl (List.forall_mem_cons.2 ⟨⟨_, rfl, ?_⟩, List.forall_mem_cons.2 ⟨⟨_, rfl, ?_⟩, fun _ h => by cases h⟩⟩)))))))
 ·
  obtain ⟨u31, hu31, hF⟩ := bindE hF
  refine wl_call rfl Try.call187 (C_spec_shOf w26 x0.1.1 v0_0 (h0_0.ro hB28) x0.1.2.1 v0_1 (h0_1.ro hB28) x1 _ hu31) rfl ?_
  rintro _ w34 ⟨v32, F33, rfl, hb35, hM38⟩
  refine ⟨_, rfl, ?_⟩
  have hB36 := hB28.trans (hb35.mono hB28.size)
  have hn39 : ∀ b ∈ F33, w26.heap.size ≤ b := fun b hb => Nat.le_trans hSW30.size ((hM38.get (i := 0) rfl).2.1 b hb).1
  have hS37 := hS29.join hb35 hM38 hB28.size
  have hSW40 := hSW30.ext hb35
  refine WL.nil (WH.ret hSW40 (WH.many (is := [10, 15]) (by kernel_rfl) rfl (List.forall_mem_cons.2 ⟨⟨_, rfl, ?_⟩, List.forall_mem_cons.2 ⟨⟨_, rfl, ?_⟩, fun _ h => by cases h⟩⟩)))
  ·
   obtain ⟨u41, hu41, hF⟩ := bindE hF
   refine wl_call rfl Try.call199 (C_spec_mnCount w34 x0 v0_0 (h0_0.ro hB36) v0_1 (h0_1.ro hB36) v0_2 (h0_2.ro hB36) v0_3 (h0_3.ro hB36) x1 _ hu41) rfl ?_
   rintro _ w42 ⟨rfl, hb43⟩
   refine ⟨_, rfl, ?_⟩
   have hB44 := hB36.trans (hb43.mono hB36.size)
   have hS45 := hS37.below hb43
   have hSW47 := hSW40.ext hb43
   refine WL.nil (WH.ret hSW47 (WH.many (is := [11, 15]) (by kernel_rfl) rfl (List.forall_mem_cons.2 ⟨⟨_, rfl, ?_⟩, List.forall_mem_cons.2 ⟨⟨_, rfl, ?_⟩, fun _ h => by cases h⟩⟩)))
   ·
    obtain ⟨u48, hu48, hF⟩ := bindE hF
    refine wl_call rfl Try.call249 (C_spec_SpotAfter w42 u31 v32 (hS45.own_ro (i := 0) rfl) u41 _ hu48) rfl ?_
    rintro _ w49 ⟨rfl, hb50⟩
    refine ⟨_, rfl, ?_⟩
    have hB51 := hB44.trans (hb50.mono hB44.size)
    have hS52 := hS45.below hb50
    have hSW54 := hSW47.ext hb50
    refine WL.nil (WH.ret hSW54 (WH.takex (i := 12) rfl (by kernel_rfl) (by kernel_rfl) (by kernel_rfl) hP hSW54 (pr_move rfl rfl (WH.takex (i := 13) rfl (by kernel_rfl) (by kernel_rfl) (by kernel_rfl) hP hSW54 (pr_extract rfl rfl rfl (WH.takex (i := 14) rfl (by kernel_rfl) (by kernel_rfl) (by kernel_rfl) hP hSW54 (pr_extract rfl rfl rfl (WH.one (i := 15) (by kernel_rfl) rfl (wl_alloc (cs := [(.int .i64 0), (.int .i64 0)]) tf_68 rfl rfl (Below.self w49) (Sep.nil _ _) ?_)))))))))
    intro b55 w56 hb57 hB60 hM61
    have hB58 := hB51.trans (hb57.mono hB51.size)
    have hS59 := hS52.join hb57 hM61 hB51.size
    have hn62 : ∀ b ∈ [b55], w26.heap.size ≤ b := fun b hb => Nat.le_trans hSW54.size ((hM61.1 _ (List.mem_cons_self ..)).2.1 b hb).1
    have hSW63 := hSW54.ext hb57
    refine WL.nil (WH.ret hSW63 (WH.one (i := 16) (by kernel_rfl) rfl (wl_store_blk (i := 0) (vs := [(.int .i64 u48.1.1), (.int .i64 u48.1.2)]) (cs' := [(.int .i64 u48.1.1), (.int .i64 u48.1.2)]) tf_68 rfl rfl rfl rfl hB58 hS59 rfl rfl ⟨rfl, rfl, trivial⟩ rfl ?_)))
    intro w65 hk68 hB66 hS67
    have hSW69 := hSW63.wr' hk68.1 hk68.2.1 (fun b hlt hb => absurd hlt (Nat.not_lt.2 (hn62 b hb)))
    have hn70 : ∀ b ∈ [b55], w26.heap.size ≤ b := fun b hb => (hk68.2.2 b hb).elim (hn62 b) fun h => Nat.le_trans hSW63.size h
    refine WL.nil (WH.ret hSW69 (WH.takex (i := 17) rfl (by kernel_rfl) (by kernel_rfl) (by kernel_rfl) hP hSW69 (pr_assign rfl rfl (WH.done (by kernel_rfl) ?_))))
    exact fun a ha => hJ20 (u48.1.1) (u48.1.2) (b55) _ hF hB66 (hS67.sel [2, 0] rfl) a (ha.sub ⟨rfl, rfl, trivial⟩)
   ·
    refine wl_alloc (cs := [(.int .i64 0), (.int .i64 0)]) tf_68 rfl rfl (Below.self w42) (Sep.nil _ _) ?_
    intro b71 w72 hb73 hB76 hM77
    have hB74 := hB44.trans (hb73.mono hB44.size)
    have hS75 := hS45.join hb73 hM77 hB44.size
    have hn78 : ∀ b ∈ [b71], w26.heap.size ≤ b := fun b hb => Nat.le_trans hSW47.size ((hM77.1 _ (List.mem_cons_self ..)).2.1 b hb).1
    have hSW79 := hSW47.ext hb73
    refine WL.nil (WH.ret hSW79 (WH.one (i := 11) (by kernel_rfl) rfl ?_))
    obtain ⟨u80, hu80, hF⟩ := bindE hF
    refine wl_call rfl Try.call249 (C_spec_SpotAfter w72 u31 v32 (hS75.own_ro (i := 1) rfl) u41 _ hu80) rfl ?_
    rintro _ w81 ⟨rfl, hb82⟩
    refine ⟨_, rfl, ?_⟩
    have hB83 := hB74.trans (hb82.mono hB74.size)
    have hS84 := hS75.below hb82
    have hSW86 := hSW79.ext hb82
    refine WL.nil (WH.ret hSW86 (WH.takex (i := 12) rfl (by kernel_rfl) (by kernel_rfl) (by kernel_rfl) hP hSW86 (pr_move rfl rfl (WH.takex (i := 13) rfl (by kernel_rfl) (by kernel_rfl) (by kernel_rfl) hP hSW86 (pr_extract rfl rfl rfl (WH.takex (i := 14) rfl (by kernel_rfl) (by kernel_rfl) (by kernel_rfl) hP hSW86 (pr_extract rfl rfl rfl (WH.one (i := 16) (by kernel_rfl) rfl (wl_store_blk (i := 0) (vs := [(.int .i64 u80.1.1), (.int .i64 u80.1.2)]) (cs' := [(.int .i64 u80.1.1), (.int .i64 u80.1.2)]) tf_68 rfl rfl rfl rfl hB83 hS84 rfl rfl ⟨rfl, rfl, trivial⟩ rfl ?_)))))))))
    intro w87 hk90 hB88 hS89
    have hSW91 := hSW86.wr' hk90.1 hk90.2.1 (fun b hlt hb => absurd hlt (Nat.not_lt.2 (hn78 b hb)))
    have hn92 : ∀ b ∈ [b71], w26.heap.size ≤ b := fun b hb => (hk90.2.2 b hb).elim (hn78 b) fun h => Nat.le_trans hSW86.size h
    refine WL.nil (WH.ret hSW91 (WH.takex (i := 17) rfl (by kernel_rfl) (by kernel_rfl) (by kernel_rfl) hP hSW91 (pr_assign rfl rfl (WH.done (by kernel_rfl) ?_))))
    exact fun a ha => hJ20 (u80.1.1) (u80.1.2) (b71) _ hF hB88 (hS89.sel [2, 0] rfl) a (ha.sub ⟨rfl, rfl, trivial⟩)
  ·
   refine wl_alloc (cs := [(.int .i64 0), (.int .i64 0)]) tf_68 rfl rfl (Below.self w34) (Sep.nil _ _) ?_
   intro b93 w94 hb95 hB98 hM99
   have hB96 := hB36.trans (hb95.mono hB36.size)
   have hS97 := hS37.join hb95 hM99 hB36.size
   have hn100 : ∀ b ∈ [b93], w26.heap.size ≤ b := fun b hb => Nat.le_trans hSW40.size ((hM99.1 _ (List.mem_cons_self ..)).2.1 b hb).1
   have hSW101 := hSW40.ext hb95
   refine WL.nil (WH.ret hSW101 (WH.one (i := 10) (by kernel_rfl) rfl ?_))
   obtain ⟨u102, hu102, hF⟩ := bindE hF
   refine wl_call rfl Try.call199 (C_spec_mnCount w94 x0 v0_0 (h0_0.ro hB96) v0_1 (h0_1.ro hB96) v0_2 (h0_2.ro hB96) v0_3 (h0_3.ro hB96) x1 _ hu102) rfl ?_
   rintro _ w103 ⟨rfl, hb104⟩
   refine ⟨_, rfl, ?_⟩
   have hB105 := hB96.trans (hb104.mono hB96.size)
   have hS106 := hS97.below hb104
   have hSW108 := hSW101.ext hb104
   refine WL.nil (WH.ret hSW108 (WH.one (i := 11) (by kernel_rfl) rfl ?_))
   obtain ⟨u109, hu109, hF⟩ := bindE hF
   refine wl_call rfl Try.call249 (C_spec_SpotAfter w103 u31 v32 (hS106.own_ro (i := 1) rfl) u102 _ hu109) rfl ?_
   rintro _ w110 ⟨rfl, hb111⟩
   refine ⟨_, rfl, ?_⟩
   have hB112 := hB105.trans (hb111.mono hB105.size)
   have hS113 := hS106.below hb111
   have hSW115 := hSW108.ext hb111
   refine WL.nil (WH.ret hSW115 (WH.takex (i := 12) rfl (by kernel_rfl) (by kernel_rfl) (by kernel_rfl) hP hSW115 (pr_move rfl rfl (WH.takex (i := 13) rfl (by kernel_rfl) (by kernel_rfl) (by kernel_rfl) hP hSW115 (pr_extract rfl rfl rfl (WH.takex (i := 14) rfl (by kernel_rfl) (by kernel_rfl) (by kernel_rfl) hP hSW115 (pr_extract rfl rfl rfl (WH.one (i := 16) (by kernel_rfl) rfl (wl_store_blk (i := 0) (vs := [(.int .i64 u109.1.1), (.int .i64 u109.1.2)]) (cs' := [(.int .i64 u109.1.1), (.int .i64 u109.1.2)]) tf_68 rfl rfl rfl rfl hB112 hS113 rfl rfl ⟨rfl, rfl, trivial⟩ rfl ?_)))))))))
   intro w116 hk119 hB117 hS118
   have hSW120 := hSW115.wr' hk119.1 hk119.2.1 (fun b hlt hb => absurd hlt (Nat.not_lt.2 (hn100 b hb)))
   have hn121 : ∀ b ∈ [b93], w26.heap.size ≤ b := fun b hb => (hk119.2.2 b hb).elim (hn100 b) fun h => Nat.le_trans hSW115.size h
   refine WL.nil (WH.ret hSW120 (WH.takex (i := 17) rfl (by kernel_rfl) (by kernel_rfl) (by kernel_rfl) hP hSW120 (pr_assign rfl rfl (WH.done (by kernel_rfl) ?_))))
   exact fun a ha => hJ20 (u109.1.1) (u109.1.2) (b93) _ hF hB117 (hS118.sel [2, 0] rfl) a (ha.sub ⟨rfl, rfl, trivial⟩)
 ·
  refine wl_alloc (cs := [(.int .i64 0), (.int .i64 0)]) tf_68 rfl rfl (Below.self w26) (Sep.nil _ _) ?_
  intro b122 w123 hb124 hB127 hM128
  have hB125 := hB28.trans (hb124.mono hB28.size)
  have hS126 := hS29.join hb124 hM128 hB28.size
  have hn129 : ∀ b ∈ [b122], w26.heap.size ≤ b := fun b hb => Nat.le_trans hSW30.size ((hM128.1 _ (List.mem_cons_self ..)).2.1 b hb).1
  have hSW130 := hSW30.ext hb124
  refine WL.nil (WH.ret hSW130 (WH.one (i := 7) (by kernel_rfl) rfl ?_))
  obtain ⟨u131, hu131, hF⟩ := bindE hF
  refine wl_call rfl Try.call187 (C_spec_shOf w123 x0.1.1 v0_0 (h0_0.ro hB125) x0.1.2.1 v0_1 (h0_1.ro hB125) x1 _ hu131) rfl ?_
  rintro _ w134 ⟨v132, F133, rfl, hb135, hM138⟩
  refine ⟨_, rfl, ?_⟩
  have hB136 := hB125.trans (hb135.mono hB125.size)
  have hn139 : ∀ b ∈ F133, w26.heap.size ≤ b := fun b hb => Nat.le_trans hSW130.size ((hM138.get (i := 0) rfl).2.1 b hb).1
  have hS137 := hS126.join hb135 hM138 hB125.size
  have hSW140 := hSW130.ext hb135
  refine WL.nil (WH.ret hSW140 (WH.one (i := 10) (by kernel_rfl) rfl ?_))
  obtain ⟨u141, hu141, hF⟩ := bindE hF
  refine wl_call rfl Try.call199 (C_spec_mnCount w134 x0 v0_0 (h0_0.ro hB136) v0_1 (h0_1.ro hB136) v0_2 (h0_2.ro hB136) v0_3 (h0_3.ro hB136) x1 _ hu141) rfl ?_
  rintro _ w142 ⟨rfl, hb143⟩
  refine ⟨_, rfl, ?_⟩
  have hB144 := hB136.trans (hb143.mono hB136.size)
  have hS145 := hS137.below hb143
  have hSW147 := hSW140.ext hb143
  refine WL.nil (WH.ret hSW147 (WH.one (i := 11) (by kernel_rfl) rfl ?_))
  obtain ⟨u148, hu148, hF⟩ := bindE hF
  refine wl_call rfl Try.call249 (C_spec_SpotAfter w142 u131 v132 (hS145.own_ro (i := 0) rfl) u141 _ hu148) rfl ?_
  rintro _ w149 ⟨rfl, hb150⟩
  refine ⟨_, rfl, ?_⟩
  have hB151 := hB144.trans (hb150.mono hB144.size)
  have hS152 := hS145.below hb150
  have hSW154 := hSW147.ext hb150
  refine WL.nil (WH.ret hSW154 (WH.takex (i := 12) rfl (by kernel_rfl) (by kernel_rfl) (by kernel_rfl) hP hSW154 (pr_move rfl rfl (WH.takex (i := 13) rfl (by kernel_rfl) (by kernel_rfl) (by kernel_rfl) hP hSW154 (pr_extract rfl rfl rfl (WH.takex (i := 14) rfl (by kernel_rfl) (by kernel_rfl) (by kernel_rfl) hP hSW154 (pr_extract rfl rfl rfl (WH.one (i := 16) (by kernel_rfl) rfl (wl_store_blk (i := 1) (vs := [(.int .i64 u148.1.1), (.int .i64 u148.1.2)]) (cs' := [(.int .i64 u148.1.1), (.int .i64 u148.1.2)]) tf_68 rfl rfl rfl rfl hB151 hS152 rfl rfl ⟨rfl, rfl, trivial⟩ rfl ?_)))))))))
  intro w155 hk158 hB156 hS157
  have hSW159 := hSW154.wr' hk158.1 hk158.2.1 (fun b hlt hb => absurd hlt (Nat.not_lt.2 (hn129 b hb)))
  have hn160 : ∀ b ∈ [b122], w26.heap.size ≤ b := fun b hb => (hk158.2.2 b hb).elim (hn129 b) fun h => Nat.le_trans hSW154.size h
  refine WL.nil (WH.ret hSW159 (WH.takex (i := 17) rfl (by kernel_rfl) (by kernel_rfl) (by kernel_rfl) hP hSW159 (pr_assign rfl rfl (WH.done (by kernel_rfl) ?_))))
  exact fun a ha => hJ20 (u148.1.1) (u148.1.2) (b122) _ hF hB156 (hS157.sel [2, 1] rfl) a (ha.sub ⟨rfl, rfl, trivial⟩)
theorem C_spec_mnPlaces (w0 : World) (x0 : (((List (List (Int × Int))) × (List Int) × Int × Int) × Int × (List Int) × (List Int))) (v0_0 : Value) (h0_0 : rdS ty_63 (· < w0.heap.size) w0 v0_0 x0.1.1) (v0_1 : Value) (h0_1 : rdS ty_3 (· < w0.heap.size) w0 v0_1 x0.1.2.1) (v0_2 : Value) (h0_2 : rdS ty_3 (· < w0.heap.size) w0 v0_2 x0.2.2.1) (v0_3 : Value) (h0_3 : rdS ty_3 (· < w0.heap.size) w0 v0_3 x0.2.2.2) (r : (List (Int × Int))) (hF : F_spec_mnPlaces x0 = some r) :
  Calls Try.prog 196 [(.agg #[v0_0, v0_1, (.int .i64 x0.1.2.2.1), (.int .i64 x0.1.2.2.2), (.int .i64 x0.2.1), v0_2, v0_3])].toArray w0 fun e w' => ∃ (q0 : Value) (G0 : List Nat), e = .returned q0 ∧ Below w0.heap.size w0 w' ∧ Sep w0.heap.size w' [R.own ty_68 G0 q0 r] := by
 refine calls_mk' Try.func196 rfl Try.ntmps196 rfl rfl fun Q hQ hP => ?_
 have hB : Below w0.heap.size w0 w0 := Below.refl _ _
 have hS : Sep w0.heap.size w0 [] := Sep.nil _ _
 unfold F_spec_mnPlaces at hF
 refine W.seq fun K1 hK1 => W.region (wl_box (cs := [v0_0, v0_1, (.int .i64 x0.1.2.2.1), (.int .i64 x0.1.2.2.2), (.int .i64 x0.2.1), v0_2, v0_3]) rfl rfl rfl hB hS ?_)
 intro b2 w3 hb4 hB5 hS6
 refine wl_assign rfl rfl (WL.nil (fun a ha => hK1 _ _ (W.seq fun K7 hK7 => (W.region (wl_assign rfl rfl (WL.nil (fun a ha => hK7 _ _ (W.seq fun K8 hK8 => (W.seq fun K9 hK9 => (W.region (wl_field (o := 6) (off' := 6) ff_102_3 rfl rfl rfl (wl_load_blk (i := 0) (vs := [v0_3]) (v := v0_3) tf_29 rfl rfl hS6 rfl rfl rfl (wl_lenr (e := ty_3) (l := x0.2.2.2) Try.underlying29 rfl rfl h0_3 ?_)))))) a ha))))) a ha))
 refine wl_move rfl rfl (WL.nil (fun a ha => hK9 _ _ (W.block (W.loopk (fun m a w10 => ∃ (l13 : (List (Int × Int))) (y16 : Int) (v14 : Value) (F15 : List Nat), St 19 [(1, (.pointer (some ⟨b2, 0, none⟩))), (3, v14), (7, (.int .i64 (List.length x0.2.2.2 : Int))), (8, (.int .i64 y16))] a ∧ Below w0.heap.size w0 w10 ∧ Sep w0.heap.size w10 [R.blk b2 102 [v0_0, v0_1, (.int .i64 x0.1.2.2.1), (.int .i64 x0.1.2.2.2), (.int .i64 x0.2.1), v0_2, v0_3], R.own ty_68 F15 v14 l13] ∧ F_spec_mnPlaces_L1 x0 m l13 y16 = some r) FU ?_ ?_)) a ha))
 ·
  have hS18 := hS6.push0 (r := R.own ty_68 [] (.slice none 0 0) []) rfl fun _ => .inl ⟨rfl, rfl, rfl⟩
  exact fun a ha => ⟨[], 0, (.slice none 0 0), [], ha.sub ⟨rfl, rfl, rfl, rfl, trivial⟩, hB5, (hS18.sel [1, 0] rfl), hF⟩
 ·
  rintro m20 a w10 ⟨l13, y16, v14, F15, ha, hB11, hS12, hF⟩ KL19 hKL19
  refine W.at ?_ ha
  cases m20 with
  | zero => exact noneE hF
  | succ m20 =>
   obtain ⟨nx17, hnx17⟩ : ∃ k, k = F_spec_mnPlaces_L1 x0 m20 := ⟨_, rfl⟩
   rw [F_spec_mnPlaces_L1, ← hnx17] at hF
   refine W.seq fun K21 hK21 => W.region (wl_lss rfl rfl rfl (WL.nil (fun a ha => hK21 _ _ (W.seq fun K22 hK22 => (W.cond rfl (fun h23 => ?_) (fun h23 => ?_))) a ha)))
   ·replace hF := ifP h23 hF
    refine W.skip fun a ha => hK22 _ _ (W.seq fun K24 hK24 => (W.block (W.seq fun K25 hK25 => (W.region (wl_move rfl rfl (wl_assign rfl rfl (WL.nil (fun a ha => hK25 _ _ (W.region (wl_move rfl rfl (wl_load_blk (i := 0) (vs := [v0_0, v0_1, (.int .i64 x0.1.2.2.1), (.int .i64 x0.1.2.2.2), (.int .i64 x0.2.1), v0_2, v0_3]) (v := (.agg #[v0_0, v0_1, (.int .i64 x0.1.2.2.1), (.int .i64 x0.1.2.2.2), (.int .i64 x0.2.1), v0_2, v0_3])) tf_102 rfl rfl hS12 rfl rfl rfl (wl_move rfl rfl ?_)))) a ha)))))))) a ha
    obtain ⟨u26, hu26, hF⟩ := bindE hF
    refine wl_call rfl Try.call207 (C_spec_mnWhere w10 x0 v0_0 (h0_0.ro hB11) v0_1 (h0_1.ro hB11) v0_2 (h0_2.ro hB11) v0_3 (h0_3.ro hB11) y16 _ hu26) rfl ?_
    rintro _ w27 ⟨rfl, hb28⟩
    refine ⟨_, rfl, ?_⟩
    have hB29 := hB11.trans (hb28.mono hB11.size)
    have hS30 := hS12.below hb28
    refine wl_lit (vs := [(.agg #[(.int .i64 u26.1), (.int .i64 u26.2)])]) (l := [u26]) fl_68 Try.underlying63 rfl rfl rfl rfl rfl rfl hB29 hS30 ?_
    intro v32 F33 w34 hb35 hB36 hS37
    obtain ⟨u38, hu38, hF⟩ := bindE hF
    refine wl_append (i := 2) (S := (· < w34.heap.size)) fl_68 Try.underlying63 rfl rfl rfl hB36 hS37 rfl (hS37.own_ro (i := 0) rfl) hu38 ?_
    intro v39 F40 w41 hk42 hB43 hS44
    refine wl_assign rfl rfl (WL.nil (fun a ha => hK24 _ _ (W.region (wl_add rfl rfl rfl (wl_move rfl rfl (WL.nil ?_)))) a ha))
    rw [hnx17] at hF
    exact fun a ha => hKL19 a _ m20 (Nat.lt_succ_self m20) ⟨u38, (w64 (y16 + 1)), v39, F40, ha.sub ⟨rfl, rfl, rfl, rfl, trivial⟩, hB43, (hS44.sel [1, 2] rfl), hF⟩
   ·replace hF := ifN h23 hF
    refine W.exit fun a ha => hK8 _ _ (W.seq fun K45 hK45 => (W.region (wl_move rfl rfl (wl_assign rfl rfl (WL.nil (fun a ha => hK45 _ _ (W.ret ?_) a ha)))))) a ha
    have hr := Option.some.inj hF
    subst hr
    exact rets (vs := [v14]) hQ rfl ⟨rv_tmp rfl, trivial⟩ ⟨v14, F15, rfl, hB11, hS12.sel [1] rfl⟩
theorem C_spec_PlacesNow (w0 : World) (x0 : (((List (List (Int × Int))) × (List Int) × Int × Int) × Int × (List Int) × (List Int))) (v0_0 : Value) (h0_0 : rdS ty_63 (· < w0.heap.size) w0 v0_0 x0.1.1) (v0_1 : Value) (h0_1 : rdS ty_3 (· < w0.heap.size) w0 v0_1 x0.1.2.1) (v0_2 : Value) (h0_2 : rdS ty_3 (· < w0.heap.size) w0 v0_2 x0.2.2.1) (v0_3 : Value) (h0_3 : rdS ty_3 (· < w0.heap.size) w0 v0_3 x0.2.2.2) (r : ((List (Int × Int)) × Bool)) (hF : F_spec_PlacesNow x0 = some r) :
  Calls Try.prog 92 [(.agg #[v0_0, v0_1, (.int .i64 x0.1.2.2.1), (.int .i64 x0.1.2.2.2), (.int .i64 x0.2.1), v0_2, v0_3])].toArray w0 fun e w' => ∃ (q0 : Value) (G0 : List Nat), e = .returned (.tuple #[q0, (.bool r.2)]) ∧ Below w0.heap.size w0 w' ∧ Sep w0.heap.size w' [R.own ty_68 G0 q0 r.1] := by
 refine calls_mk' Try.func92 rfl Try.ntmps92 rfl rfl fun Q hQ hP => ?_
 have hB : Below w0.heap.size w0 w0 := Below.refl _ _
 have hS : Sep w0.heap.size w0 [] := Sep.nil _ _
 unfold F_spec_PlacesNow at hF
 refine W.seq fun K1 hK1 => W.region (wl_box (cs := [v0_0, v0_1, (.int .i64 x0.1.2.2.1), (.int .i64 x0.1.2.2.2), (.int .i64 x0.2.1), v0_2, v0_3]) rfl rfl rfl hB hS ?_)
 intro b2 w3 hb4 hB5 hS6
 refine wl_assign rfl rfl (wl_assign rfl rfl (WL.nil (fun a ha => hK1 _ _ (W.seq fun K7 hK7 => (W.seq fun K8 hK8 => (W.region (wl_load_blk (i := 0) (vs := [v0_0, v0_1, (.int .i64 x0.1.2.2.1), (.int .i64 x0.1.2.2.2), (.int .i64 x0.2.1), v0_2, v0_3]) (v := (.agg #[v0_0, v0_1, (.int .i64 x0.1.2.2.1), (.int .i64 x0.1.2.2.2), (.int .i64 x0.2.1), v0_2, v0_3])) tf_102 rfl rfl hS6 rfl rfl rfl ?_)))) a ha)))
 obtain ⟨u9, hu9, hF⟩ := bindE hF
 refine wl_call rfl Try.call195 (C_spec_mnGood w3 x0 v0_0 (h0_0.ro hB5) v0_1 (h0_1.ro hB5) v0_2 (h0_2.ro hB5) v0_3 (h0_3.ro hB5) _ hu9) rfl ?_
 rintro _ w10 ⟨rfl, hb11⟩
 refine ⟨_, rfl, ?_⟩
 have hB12 := hB5.trans (hb11.mono hB5.size)
 have hS13 := hS6.below hb11
 refine wl_not rfl rfl (WL.nil (fun a ha => hK8 _ _ (W.cond rfl (fun h15 => ?_) (fun h15 => ?_)) a ha))
 ·replace hF := ifP h15 hF
  refine W.seq fun K16 hK16 => W.region (wl_assign rfl rfl (wl_assign rfl rfl (WL.nil (fun a ha => hK16 _ _ (W.ret ?_) a ha))))
  have hS17 := hS13.push0 (r := R.own ty_68 [] (.slice none 0 0) []) rfl fun _ => .inl ⟨rfl, rfl, rfl⟩
  have hr := Option.some.inj hF
  subst hr
  exact rets (vs := [(.slice none 0 0), (.bool false)]) hQ rfl ⟨rv_tmp rfl, rv_tmp rfl, trivial⟩ ⟨(.slice none 0 0), [], rfl, hB12, hS17.sel [0] rfl⟩
 ·replace hF := ifN h15 hF
  refine W.skip fun a ha => hK7 _ _ (W.seq fun K18 hK18 => (W.region (wl_load_blk (i := 0) (vs := [v0_0, v0_1, (.int .i64 x0.1.2.2.1), (.int .i64 x0.1.2.2.2), (.int .i64 x0.2.1), v0_2, v0_3]) (v := (.agg #[v0_0, v0_1, (.int .i64 x0.1.2.2.1), (.int .i64 x0.1.2.2.2), (.int .i64 x0.2.1), v0_2, v0_3])) tf_102 rfl rfl hS13 rfl rfl rfl ?_))) a ha
  obtain ⟨u19, hu19, hF⟩ := bindE hF
  refine wl_call rfl Try.call196 (C_spec_mnPlaces w10 x0 v0_0 (h0_0.ro hB12) v0_1 (h0_1.ro hB12) v0_2 (h0_2.ro hB12) v0_3 (h0_3.ro hB12) _ hu19) rfl ?_
  rintro _ w22 ⟨v20, F21, rfl, hb23, hM26⟩
  refine ⟨_, rfl, ?_⟩
  have hB24 := hB12.trans (hb23.mono hB12.size)
  have hS25 := hS13.join hb23 hM26 hB12.size
  refine wl_assign rfl rfl (wl_assign rfl rfl (WL.nil (fun a ha => hK18 _ _ (W.ret ?_) a ha)))
  have hr := Option.some.inj hF
  subst hr
  exact rets (vs := [v20, (.bool true)]) hQ rfl ⟨rv_tmp rfl, rv_tmp rfl, trivial⟩ ⟨v20, F21, rfl, hB24, hS25.sel [0] rfl⟩
theorem C_impl_TooCloseNow (w0 : World) (x0 : (((List (List (Int × Int))) × (List Int) × Int × Int) × Int × (List Int) × (List Int))) (v0_0 : Value) (h0_0 : rdS ty_63 (· < w0.heap.size) w0 v0_0 x0.1.1) (v0_1 : Value) (h0_1 : rdS ty_3 (· < w0.heap.size) w0 v0_1 x0.1.2.1) (v0_2 : Value) (h0_2 : rdS ty_3 (· < w0.heap.size) w0 v0_2 x0.2.2.1) (v0_3 : Value) (h0_3 : rdS ty_3 (· < w0.heap.size) w0 v0_3 x0.2.2.2) (r : ((List (List Int)) × Bool)) (hF : F_impl_TooCloseNow x0 = some r) :
  Calls Try.prog 93 [(.agg #[v0_0, v0_1, (.int .i64 x0.1.2.2.1), (.int .i64 x0.1.2.2.2), (.int .i64 x0.2.1), v0_2, v0_3])].toArray w0 fun e w' => ∃ (q0 : Value) (G0 : List Nat), e = .returned (.tuple #[q0, (.bool r.2)]) ∧ Below w0.heap.size w0 w' ∧ Sep w0.heap.size w' [R.own ty_29 G0 q0 r.1] := by
 refine calls_mk' Try.func93 rfl Try.ntmps93 rfl rfl fun Q hQ hP => ?_
 have hB : Below w0.heap.size w0 w0 := Below.refl _ _
 have hS : Sep w0.heap.size w0 [] := Sep.nil _ _
 unfold F_impl_TooCloseNow at hF
 refine W.seq fun K1 hK1 => W.region (wl_box (cs := [v0_0, v0_1, (.int .i64 x0.1.2.2.1), (.int .i64 x0.1.2.2.2), (.int .i64 x0.2.1), v0_2, v0_3]) rfl rfl rfl hB hS ?_)
 intro b2 w3 hb4 hB5 hS6
 refine wl_assign rfl rfl (wl_assign rfl rfl (WL.nil (fun a ha => hK1 _ _ (W.seq fun K7 hK7 => (W.seq fun K8 hK8 => (W.region (wl_load_blk (i := 0) (vs := [v0_0, v0_1, (.int .i64 x0.1.2.2.1), (.int .i64 x0.1.2.2.2), (.int .i64 x0.2.1), v0_2, v0_3]) (v := (.agg #[v0_0, v0_1, (.int .i64 x0.1.2.2.1), (.int .i64 x0.1.2.2.2), (.int .i64 x0.2.1), v0_2, v0_3])) tf_102 rfl rfl hS6 rfl rfl rfl ?_)))) a ha)))
 obtain ⟨u9, hu9, hF⟩ := bindE hF
 refine wl_call rfl Try.call100 (C_impl_IsMarch w3 x0 v0_0 (h0_0.ro hB5) v0_1 (h0_1.ro hB5) v0_2 (h0_2.ro hB5) v0_3 (h0_3.ro hB5) _ hu9) rfl ?_
 rintro _ w10 ⟨rfl, hb11⟩
 refine ⟨_, rfl, ?_⟩
 have hB12 := hB5.trans (hb11.mono hB5.size)
 have hS13 := hS6.below hb11
 refine wl_not rfl rfl (WL.nil (fun a ha => hK8 _ _ (W.cond rfl (fun h15 => ?_) (fun h15 => ?_)) a ha))
 ·replace hF := ifP h15 hF
  refine W.seq fun K16 hK16 => W.region (wl_assign rfl rfl (wl_assign rfl rfl (WL.nil (fun a ha => hK16 _ _ (W.ret ?_) a ha))))
  have hS17 := hS13.push0 (r := R.own ty_29 [] (.slice none 0 0) []) rfl fun _ => .inl ⟨rfl, rfl, rfl⟩
  have hr := Option.some.inj hF
  subst hr
  exact rets (vs := [(.slice none 0 0), (.bool false)]) hQ rfl ⟨rv_tmp rfl, rv_tmp rfl, trivial⟩ ⟨(.slice none 0 0), [], rfl, hB12, hS17.sel [0] rfl⟩
 ·replace hF := ifN h15 hF
  refine W.skip fun a ha => hK7 _ _ (W.seq fun K18 hK18 => (W.region (wl_load_blk (i := 0) (vs := [v0_0, v0_1, (.int .i64 x0.1.2.2.1), (.int .i64 x0.1.2.2.2), (.int .i64 x0.2.1), v0_2, v0_3]) (v := (.agg #[v0_0, v0_1, (.int .i64 x0.1.2.2.1), (.int .i64 x0.1.2.2.2), (.int .i64 x0.2.1), v0_2, v0_3])) tf_102 rfl rfl hS13 rfl rfl rfl ?_))) a ha
  obtain ⟨u19, hu19, hF⟩ := bindE hF
  refine wl_call rfl Try.call194 (C_impl_placesNow w10 x0 v0_0 (h0_0.ro hB12) v0_1 (h0_1.ro hB12) v0_2 (h0_2.ro hB12) v0_3 (h0_3.ro hB12) _ hu19) rfl ?_
  rintro _ w22 ⟨v20, F21, rfl, hb23, hM26⟩
  refine ⟨_, rfl, ?_⟩
  have hB24 := hB12.trans (hb23.mono hB12.size)
  have hS25 := hS13.join hb23 hM26 hB12.size
  refine wl_lit0 (e := ty_29) Try.underlying72 rfl hB24 hS25 ?_
  intro v27 F28 w29 hb30 hB31 hS32
  refine wl_assign rfl rfl (wl_assign rfl rfl (WL.nil (fun a ha => hK18 _ _ (W.seq fun K33 hK33 => (W.seq fun K34 hK34 => (W.region (wl_move rfl rfl (wl_lenr (e := ty_68) (l := u19) Try.underlying63 rfl rfl (hS32.own_ro (i := 1) rfl) (wl_move rfl rfl (WL.nil (fun a ha => hK34 _ _ (W.block (W.loopk (fun m a w35 => ∃ (l38 : (List (List Int))) (y41 : Int) (v39 : Value) (F40 : List Nat), St 52 [(1, (.pointer (some ⟨b2, 0, none⟩))), (4, v20), (5, v39), (15, (.int .i64 (List.length u19 : Int))), (16, (.int .i64 y41))] a ∧ Below w0.heap.size w0 w35 ∧ Sep w0.heap.size w35 [R.blk b2 102 [v0_0, v0_1, (.int .i64 x0.1.2.2.1), (.int .i64 x0.1.2.2.2), (.int .i64 x0.2.1), v0_2, v0_3], R.own ty_68 F21 v20 u19, R.own ty_29 F40 v39 l38] ∧ F_impl_TooCloseNow_L1 u19 x0 m l38 y41 = some r) FU ?_ ?_)) a ha)))))))) a ha)))
  ·
   exact fun a ha => ⟨[], 0, v27, F28, ha.sub ⟨rfl, rfl, rfl, rfl, rfl, trivial⟩, hB31, (hS32.sel [2, 1, 0] rfl), hF⟩
  ·
   rintro m44 a w35 ⟨l38, y41, v39, F40, ha, hB36, hS37, hF⟩ KL43 hKL43
   refine W.at ?_ ha
   cases m44 with
   | zero => exact noneE hF
   | succ m44 =>
    obtain ⟨nx42, hnx42⟩ : ∃ k, k = F_impl_TooCloseNow_L1 u19 x0 m44 := ⟨_, rfl⟩
    rw [F_impl_TooCloseNow_L1, ← hnx42] at hF
    refine W.seq fun K45 hK45 => W.region (wl_lss rfl rfl rfl (WL.nil (fun a ha => hK45 _ _ (W.seq fun K46 hK46 => (W.cond rfl (fun h47 => ?_) (fun h47 => ?_))) a ha)))
    ·replace hF := ifP h47 hF
     refine W.skip fun a ha => hK46 _ _ (W.seq fun K48 hK48 => (W.block (W.seq fun K49 hK49 => (W.region (wl_move rfl rfl (wl_assign rfl rfl (WL.nil (fun a ha => hK49 _ _ (W.seq fun K50 hK50 => (W.region (wl_move rfl rfl (wl_add rfl rfl rfl ?_)))) a ha)))))))) a ha
     refine wl_assign rfl rfl (WL.nil (fun a ha => hK50 _ _ (W.block (W.loopk (fun m a w51 => ∃ (l54 : (List (List Int))) (y57 : Int) (v55 : Value) (F56 : List Nat), St 52 [(1, (.pointer (some ⟨b2, 0, none⟩))), (4, v20), (5, v55), (6, (.int .i64 y41)), (7, (.int .i64 y57)), (15, (.int .i64 (List.length u19 : Int))), (16, (.int .i64 y41))] a ∧ Below w0.heap.size w0 w51 ∧ Sep w0.heap.size w51 [R.blk b2 102 [v0_0, v0_1, (.int .i64 x0.1.2.2.1), (.int .i64 x0.1.2.2.2), (.int .i64 x0.2.1), v0_2, v0_3], R.own ty_68 F21 v20 u19, R.own ty_29 F56 v55 l54] ∧ F_impl_TooCloseNow_L2 u19 y41 x0 nx42 m l54 y57 = some r) FU ?_ ?_)) a ha))
     ·
      exact fun a ha => ⟨l38, (w64 (y41 + 1)), v39, F40, ha.sub ⟨rfl, rfl, rfl, rfl, rfl, rfl, rfl, trivial⟩, hB36, (hS37.sel [0, 1, 2] rfl), hF⟩
     ·
      rintro m60 a w51 ⟨l54, y57, v55, F56, ha, hB52, hS53, hF⟩ KL59 hKL59
      refine W.at ?_ ha
      cases m60 with
      | zero => exact noneE hF
      | succ m60 =>
       obtain ⟨nx58, hnx58⟩ : ∃ k, k = F_impl_TooCloseNow_L2 u19 y41 x0 nx42 m60 := ⟨_, rfl⟩
       rw [F_impl_TooCloseNow_L2, ← hnx58] at hF
       refine W.seq fun K61 hK61 => W.seq fun K62 hK62 => W.region (wl_move rfl rfl (wl_move rfl rfl (wl_lenr (e := ty_68) (l := u19) Try.underlying63 rfl rfl (hS53.own_ro (i := 1) rfl) (wl_lss rfl rfl rfl (WL.nil (fun a ha => hK62 _ _ (W.cond rfl (fun h63 => ?_) (fun h63 => ?_)) a ha))))))
       ·replace hF := ifP h63 hF
        refine W.skip fun a ha => hK61 _ _ (W.seq fun K64 hK64 => ?_) a ha
        obtain ⟨k71, hk71, hF⟩ := jE1 hF
        have hJ72 : ∀ (l68 : (List (List Int))) (v69 : Value) (F70 : List Nat) (w65 : World) (_ : k71 l68 = some r) (_ : Below w0.heap.size w0 w65) (_ : Sep w0.heap.size w65 [R.blk b2 102 [v0_0, v0_1, (.int .i64 x0.1.2.2.1), (.int .i64 x0.1.2.2.2), (.int .i64 x0.2.1), v0_2, v0_3], R.own ty_68 F21 v20 u19, R.own ty_29 F70 v69 l68]), ∀ a, St 52 [(1, (.pointer (some ⟨b2, 0, none⟩))), (4, v20), (5, v69), (6, (.int .i64 y41)), (7, (.int .i64 y57)), (15, (.int .i64 (List.length u19 : Int))), (16, (.int .i64 y41))] a → K64 a w65 := by
         intro l68 v69 F70 w65 hF hB66 hS67
         subst hk71
         refine fun a ha => hK64 _ _ (W.region (wl_move rfl rfl (wl_add rfl rfl rfl (wl_assign rfl rfl (WL.nil ?_))))) a ha
         rw [hnx58] at hF
         exact fun a ha => hKL59 a _ m60 (Nat.lt_succ_self m60) ⟨l68, (w64 (y57 + 1)), v69, F70, ha.sub ⟨rfl, rfl, rfl, rfl, rfl, rfl, rfl, trivial⟩, hB66, (hS67.sel [0, 1, 2] rfl), hF⟩
        refine W.block (W.seq fun K73 hK73 => (W.regionH mixed_ [] hB52 hS53 ?_))
        intro w74 hb75 hB76 hS77
        have hSW78 := KeepX.refl w74 []
        refine WH.takex (i := 0) rfl (by kernel_rfl) (by kernel_rfl) (by kernel_rfl) hP hSW78 (pr_move rfl rfl (WH.takex (i := 1) rfl (by kernel_rfl) (by kernel_rfl) (by kernel_rfl) hP hSW78 (pr_move rfl rfl ?_)))
        obtain ⟨u79, hu79, hF⟩ := bindE hF
        refine WH.takex (i := 2) rfl (by kernel_rfl) (by kernel_rfl) (by kernel_rfl) hP hSW78 (pr_indexo (e := ty_68) (i := 1) Try.underlying63 rfl rfl rfl hS77 rfl hu79 ?_)
        rintro p80 _ rfl hp81 ho82
        refine WH.takex (i := 3) rfl (by kernel_rfl) (by kernel_rfl) (by kernel_rfl) hP hSW78 (pr_load_p (vs := [(.int .i64 u79.1), (.int .i64 u79.2)]) (v := (.agg #[(.int .i64 u79.1), (.int .i64 u79.2)])) tf_68 rfl rfl (hp81.kx0) rfl rfl (WH.takex (i := 4) rfl (by kernel_rfl) (by kernel_rfl) (by kernel_rfl) hP hSW78 (pr_move rfl rfl (WH.takex (i := 5) rfl (by kernel_rfl) (by kernel_rfl) (by kernel_rfl) hP hSW78 (pr_move rfl rfl ?_)))))
        obtain ⟨u83, hu83, hF⟩ := bindE hF
        refine WH.takex (i := 6) rfl (by kernel_rfl) (by kernel_rfl) (by kernel_rfl) hP hSW78 (pr_indexo (e := ty_68) (i := 1) Try.underlying63 rfl rfl rfl hS77 rfl hu83 ?_)
        rintro p84 _ rfl hp85 ho86
        refine WH.takex (i := 7) rfl (by kernel_rfl) (by kernel_rfl) (by kernel_rfl) hP hSW78 (pr_load_p (vs := [(.int .i64 u83.1), (.int .i64 u83.2)]) (v := (.agg #[(.int .i64 u83.1), (.int .i64 u83.2)])) tf_68 rfl rfl (hp85.kx0) rfl rfl (WH.takex (i := 9) rfl (by kernel_rfl) (by kernel_rfl) (by kernel_rfl) hP hSW78 (pr_field (o := 0) (off' := 0) ff_102_0 rfl rfl rfl (WH.takex (i := 10) rfl (by kernel_rfl) (by kernel_rfl) (by kernel_rfl) hP hSW78 (pr_field (o := 2) (off' := 2) ff_53_2 rfl rfl rfl (WH.takex (i := 11) rfl (by kernel_rfl) (by kernel_rfl) (by kernel_rfl) hP hSW78 (pr_load_blk (i := 0) (vs := [(.int .i64 x0.1.2.2.1)]) (v := (.int .i64 x0.1.2.2.1)) tf_3 rfl rfl hS77 rfl rfl rfl (by simp) (WH.takex (i := 12) rfl (by kernel_rfl) (by kernel_rfl) (by kernel_rfl) hP hSW78 (pr_field (o := 0) (off' := 0) ff_102_0 rfl rfl rfl ?_)))))))))
        refine WH.takex (i := 13) rfl (by kernel_rfl) (by kernel_rfl) (by kernel_rfl) hP hSW78 (pr_field (o := 2) (off' := 2) ff_53_2 rfl rfl rfl (WH.takex (i := 14) rfl (by kernel_rfl) (by kernel_rfl) (by kernel_rfl) hP hSW78 (pr_load_blk (i := 0) (vs := [(.int .i64 x0.1.2.2.1)]) (v := (.int .i64 x0.1.2.2.1)) tf_3 rfl rfl hS77 rfl rfl rfl (by simp) (WH.takex (i := 15) rfl (by kernel_rfl) (by kernel_rfl) (by kernel_rfl) hP hSW78 (pr_mul rfl rfl rfl (WH.one (i := 8) (by kernel_rfl) rfl ?_))))))
        obtain ⟨u87, hu87, hF⟩ := bindE hF
        refine wl_call rfl Try.call153 (C_impl_squareOf w74 u79 u83 _ hu87) rfl ?_
        rintro _ w88 ⟨rfl, hb89⟩
        refine ⟨_, rfl, ?_⟩
        have hB90 := hB76.trans (hb89.mono hB76.size)
        have hS91 := hS77.below hb89
        have hSW93 := hSW78.ext hb89
        refine WL.nil (WH.ret hSW93 (WH.takex (i := 16) rfl (by kernel_rfl) (by kernel_rfl) (by kernel_rfl) hP hSW93 (pr_lss rfl rfl rfl (WH.done (by kernel_rfl) (fun a ha => hK73 _ _ (W.cond rfl (fun h94 => ?_) (fun h94 => ?_)) a ha)))))
        ·replace hF := ifP h94 hF
         refine W.region (wl_move rfl rfl (wl_move rfl rfl (wl_move rfl rfl (wl_lit (vs := [(.int .i64 y41), (.int .i64 y57)]) (l := [y41, y57]) fl_3 Try.underlying29 rfl rfl rfl rfl rfl rfl hB90 hS91 ?_))))
         intro v95 F96 w97 hb98 hB99 hS100
         have hq101 := hS100.sel [0, 1, 2, 3] rfl
         have hq102 := hq101.head (r' := R.cel ty_29 F96 [v95] [y41, y57]) (rfl) fun _ h0 => ⟨_, rfl, h0⟩
         refine wl_lit1 (e := ty_29) (vs := [v95]) Try.underlying72 rfl rfl (cells_one (hS100.own_ro (i := 0) rfl).one) rfl hB99 hq102 ?_
         intro v103 F104 w105 hb106 hf107 hB108 hS109
         obtain ⟨u110, hu110, hF⟩ := bindE hF
         refine wl_appendn (e := ty_29) Try.underlying72 rfl rfl rfl hB108 (hS109.sel [3, 0, 1, 2] rfl) hu110 ?_
         intro v111 F112 w113 hk114 hB115 hS116
         refine wl_assign rfl rfl (WL.nil ?_)
         exact fun a ha => hJ72 (u110) (v111) (F112) _ hF hB115 (hS116.sel [1, 2, 0] rfl) a (ha.sub ⟨rfl, rfl, rfl, rfl, rfl, rfl, rfl, trivial⟩)
        ·replace hF := ifN h94 hF
         refine W.skip ?_
         exact fun a ha => hJ72 (l54) (v55) (F56) _ hF hB90 (hS91.sel [0, 1, 2] rfl) a (ha.sub ⟨rfl, rfl, rfl, rfl, rfl, rfl, rfl, trivial⟩)
       ·replace hF := ifN h63 hF
        refine W.exit fun a ha => hK48 _ _ (W.region (wl_add rfl rfl rfl (wl_move rfl rfl (WL.nil ?_)))) a ha
        rw [hnx42] at hF
        exact fun a ha => hKL43 a _ m44 (Nat.lt_succ_self m44) ⟨l54, (w64 (y41 + 1)), v55, F56, ha.sub ⟨rfl, rfl, rfl, rfl, rfl, trivial⟩, hB52, (hS53.sel [0, 1, 2] rfl), hF⟩
    ·replace hF := ifN h47 hF
     refine W.exit fun a ha => hK33 _ _ (W.seq fun K117 hK117 => (W.region (wl_move rfl rfl (wl_assign rfl rfl (wl_assign rfl rfl (WL.nil (fun a ha => hK117 _ _ (W.ret ?_) a ha))))))) a ha
     have hr := Option.some.inj hF
     subst hr
     exact rets (vs := [v39, (.bool true)]) hQ rfl ⟨rv_tmp rfl, rv_tmp rfl, trivial⟩ ⟨v39, F40, rfl, hB36, hS37.sel [2] rfl⟩
theorem C_spec_TooCloseNow (w0 : World) (x0 : (((List (List (Int × Int))) × (List Int) × Int × Int) × Int × (List Int) × (List Int))) (v0_0 : Value) (h0_0 : rdS ty_63 (· < w0.heap.size) w0 v0_0 x0.1.1) (v0_1 : Value) (h0_1 : rdS ty_3 (· < w0.heap.size) w0 v0_1 x0.1.2.1) (v0_2 : Value) (h0_2 : rdS ty_3 (· < w0.heap.size) w0 v0_2 x0.2.2.1) (v0_3 : Value) (h0_3 : rdS ty_3 (· < w0.heap.size) w0 v0_3 x0.2.2.2) (r : ((List (List Int)) × Bool)) (hF : F_spec_TooCloseNow x0 = some r) :
  Calls Try.prog 94 [(.agg #[v0_0, v0_1, (.int .i64 x0.1.2.2.1), (.int .i64 x0.1.2.2.2), (.int .i64 x0.2.1), v0_2, v0_3])].toArray w0 fun e w' => ∃ (q0 : Value) (G0 : List Nat), e = .returned (.tuple #[q0, (.bool r.2)]) ∧ Below w0.heap.size w0 w' ∧ Sep w0.heap.size w' [R.own ty_29 G0 q0 r.1] := by
 refine calls_mk' Try.func94 rfl Try.ntmps94 rfl rfl fun Q hQ hP => ?_
 have hB : Below w0.heap.size w0 w0 := Below.refl _ _
 have hS : Sep w0.heap.size w0 [] := Sep.nil _ _
 unfold F_spec_TooCloseNow at hF
 refine W.seq fun K1 hK1 => W.region (wl_box (cs := [v0_0, v0_1, (.int .i64 x0.1.2.2.1), (.int .i64 x0.1.2.2.2), (.int .i64 x0.2.1), v0_2, v0_3]) rfl rfl rfl hB hS ?_)
 intro b2 w3 hb4 hB5 hS6
 refine wl_assign rfl rfl (wl_assign rfl rfl (WL.nil (fun a ha => hK1 _ _ (W.seq fun K7 hK7 => (W.seq fun K8 hK8 => (W.region (wl_load_blk (i := 0) (vs := [v0_0, v0_1, (.int .i64 x0.1.2.2.1), (.int .i64 x0.1.2.2.2), (.int .i64 x0.2.1), v0_2, v0_3]) (v := (.agg #[v0_0, v0_1, (.int .i64 x0.1.2.2.1), (.int .i64 x0.1.2.2.2), (.int .i64 x0.2.1), v0_2, v0_3])) tf_102 rfl rfl hS6 rfl rfl rfl ?_)))) a ha)))
 obtain ⟨u9, hu9, hF⟩ := bindE hF
 refine wl_call rfl Try.call195 (C_spec_mnGood w3 x0 v0_0 (h0_0.ro hB5) v0_1 (h0_1.ro hB5) v0_2 (h0_2.ro hB5) v0_3 (h0_3.ro hB5) _ hu9) rfl ?_
 rintro _ w10 ⟨rfl, hb11⟩
 refine ⟨_, rfl, ?_⟩
 have hB12 := hB5.trans (hb11.mono hB5.size)
 have hS13 := hS6.below hb11
 refine wl_not rfl rfl (WL.nil (fun a ha => hK8 _ _ (W.cond rfl (fun h15 => ?_) (fun h15 => ?_)) a ha))
 ·replace hF := ifP h15 hF
  refine W.seq fun K16 hK16 => W.region (wl_assign rfl rfl (wl_assign rfl rfl (WL.nil (fun a ha => hK16 _ _ (W.ret ?_) a ha))))
  have hS17 := hS13.push0 (r := R.own ty_29 [] (.slice none 0 0) []) rfl fun _ => .inl ⟨rfl, rfl, rfl⟩
  have hr := Option.some.inj hF
  subst hr
  exact rets (vs := [(.slice none 0 0), (.bool false)]) hQ rfl ⟨rv_tmp rfl, rv_tmp rfl, trivial⟩ ⟨(.slice none 0 0), [], rfl, hB12, hS17.sel [0] rfl⟩
 ·replace hF := ifN h15 hF
  refine W.skip fun a ha => hK7 _ _ (W.seq fun K18 hK18 => (W.region (wl_load_blk (i := 0) (vs := [v0_0, v0_1, (.int .i64 x0.1.2.2.1), (.int .i64 x0.1.2.2.2), (.int .i64 x0.2.1), v0_2, v0_3]) (v := (.agg #[v0_0, v0_1, (.int .i64 x0.1.2.2.1), (.int .i64 x0.1.2.2.2), (.int .i64 x0.2.1), v0_2, v0_3])) tf_102 rfl rfl hS13 rfl rfl rfl ?_))) a ha
  obtain ⟨u19, hu19, hF⟩ := bindE hF
  refine wl_call rfl Try.call196 (C_spec_mnPlaces w10 x0 v0_0 (h0_0.ro hB12) v0_1 (h0_1.ro hB12) v0_2 (h0_2.ro hB12) v0_3 (h0_3.ro hB12) _ hu19) rfl ?_
  rintro _ w22 ⟨v20, F21, rfl, hb23, hM26⟩
  refine ⟨_, rfl, ?_⟩
  have hB24 := hB12.trans (hb23.mono hB12.size)
  have hS25 := hS13.join hb23 hM26 hB12.size
  refine wl_assign rfl rfl (WL.nil (fun a ha => hK18 _ _ (W.seq fun K27 hK27 => (W.region (wl_assign rfl rfl (WL.nil (fun a ha => hK27 _ _ (W.seq fun K28 hK28 => (W.seq fun K29 hK29 => (W.region (wl_move rfl rfl (wl_lenr (e := ty_68) (l := u19) Try.underlying63 rfl rfl (hS25.own_ro (i := 0) rfl) (wl_move rfl rfl ?_)))))) a ha))))) a ha))
  refine WL.nil fun a ha => hK29 _ _ (W.block (W.loopk (fun m a w30 => ∃ (l33 : (List (List Int))) (y36 : Int) (v34 : Value) (F35 : List Nat), St 51 [(1, (.pointer (some ⟨b2, 0, none⟩))), (4, v20), (5, v34), (14, v20), (15, (.int .i64 (List.length u19 : Int))), (16, (.int .i64 y36))] a ∧ Below w0.heap.size w0 w30 ∧ Sep w0.heap.size w30 [R.blk b2 102 [v0_0, v0_1, (.int .i64 x0.1.2.2.1), (.int .i64 x0.1.2.2.2), (.int .i64 x0.2.1), v0_2, v0_3], R.own ty_68 F21 v20 u19, R.own ty_29 F35 v34 l33] ∧ F_spec_TooCloseNow_L1 u19 x0 m l33 y36 = some r) FU ?_ ?_)) a ha
  ·
   have hS38 := hS25.push0 (r := R.own ty_29 [] (.slice none 0 0) []) rfl fun _ => .inl ⟨rfl, rfl, rfl⟩
   exact fun a ha => ⟨[], 0, (.slice none 0 0), [], ha.sub ⟨rfl, rfl, rfl, rfl, rfl, rfl, trivial⟩, hB24, (hS38.sel [2, 1, 0] rfl), hF⟩
  ·
   rintro m40 a w30 ⟨l33, y36, v34, F35, ha, hB31, hS32, hF⟩ KL39 hKL39
   refine W.at ?_ ha
   cases m40 with
   | zero => exact noneE hF
   | succ m40 =>
    obtain ⟨nx37, hnx37⟩ : ∃ k, k = F_spec_TooCloseNow_L1 u19 x0 m40 := ⟨_, rfl⟩
    rw [F_spec_TooCloseNow_L1, ← hnx37] at hF
    refine W.seq fun K41 hK41 => W.region (wl_lss rfl rfl rfl (WL.nil (fun a ha => hK41 _ _ (W.seq fun K42 hK42 => (W.cond rfl (fun h43 => ?_) (fun h43 => ?_))) a ha)))
    ·replace hF := ifP h43 hF
     refine W.skip fun a ha => hK42 _ _ (W.seq fun K44 hK44 => (W.block (W.seq fun K45 hK45 => (W.region (wl_move rfl rfl ?_))))) a ha
     obtain ⟨u46, hu46, hF⟩ := bindE hF
     refine wl_indexo (e := ty_68) (i := 1) Try.underlying63 rfl rfl rfl hS32 rfl hu46 ?_
     rintro p47 _ rfl hp48 ho49
     refine wl_load_p (vs := [(.int .i64 u46.1), (.int .i64 u46.2)]) (v := (.agg #[(.int .i64 u46.1), (.int .i64 u46.2)])) tf_68 rfl rfl hp48 rfl rfl (wl_alloc (cs := [(.int .i64 0), (.int .i64 0)]) tf_68 rfl rfl hB31 hS32 ?_)
     intro b50 w51 hb52 hB53 hS54
     refine wl_assign rfl rfl (wl_store_blk (i := 0) (vs := [(.int .i64 u46.1), (.int .i64 u46.2)]) (cs' := [(.int .i64 u46.1), (.int .i64 u46.2)]) tf_68 rfl rfl rfl rfl hB53 hS54 rfl rfl ⟨rfl, rfl, trivial⟩ rfl ?_)
     intro w55 hk58 hB56 hS57
     refine WL.nil fun a ha => hK45 _ _ (W.seq fun K59 hK59 => (W.region (wl_move rfl rfl (wl_add rfl rfl rfl (wl_assign rfl rfl (WL.nil (fun a ha => hK59 _ _ (W.block (W.loopk (fun m a w60 => ∃ (l63 : (List (List Int))) (y66 : Int) (v64 : Value) (F65 : List Nat), St 51 [(1, (.pointer (some ⟨b2, 0, none⟩))), (4, v20), (5, v64), (6, (.int .i64 y36)), (7, (.pointer (some ⟨b50, 0, none⟩))), (8, (.int .i64 y66)), (14, v20), (15, (.int .i64 (List.length u19 : Int))), (16, (.int .i64 y36))] a ∧ Below w0.heap.size w0 w60 ∧ Sep w0.heap.size w60 [R.blk b2 102 [v0_0, v0_1, (.int .i64 x0.1.2.2.1), (.int .i64 x0.1.2.2.2), (.int .i64 x0.2.1), v0_2, v0_3], R.own ty_68 F21 v20 u19, R.own ty_29 F65 v64 l63, R.blk b50 68 [(.int .i64 u46.1), (.int .i64 u46.2)]] ∧ F_spec_TooCloseNow_L2 u19 u46 x0 y36 nx37 m l63 y66 = some r) FU ?_ ?_)) a ha))))))) a ha
     ·
      exact fun a ha => ⟨l33, (w64 (y36 + 1)), v34, F35, ha.sub ⟨rfl, rfl, rfl, rfl, rfl, rfl, rfl, rfl, rfl, trivial⟩, hB56, (hS57.sel [1, 2, 3, 0] rfl), hF⟩
     ·
      rintro m69 a w60 ⟨l63, y66, v64, F65, ha, hB61, hS62, hF⟩ KL68 hKL68
      refine W.at ?_ ha
      cases m69 with
      | zero => exact noneE hF
      | succ m69 =>
       obtain ⟨nx67, hnx67⟩ : ∃ k, k = F_spec_TooCloseNow_L2 u19 u46 x0 y36 nx37 m69 := ⟨_, rfl⟩
       rw [F_spec_TooCloseNow_L2, ← hnx67] at hF
       refine W.seq fun K70 hK70 => W.seq fun K71 hK71 => W.region (wl_move rfl rfl (wl_move rfl rfl (wl_lenr (e := ty_68) (l := u19) Try.underlying63 rfl rfl (hS62.own_ro (i := 1) rfl) (wl_lss rfl rfl rfl (WL.nil (fun a ha => hK71 _ _ (W.cond rfl (fun h72 => ?_) (fun h72 => ?_)) a ha))))))
       ·replace hF := ifP h72 hF
        refine W.skip fun a ha => hK70 _ _ (W.seq fun K73 hK73 => ?_) a ha
        obtain ⟨k80, hk80, hF⟩ := jE1 hF
        have hJ81 : ∀ (l77 : (List (List Int))) (v78 : Value) (F79 : List Nat) (w74 : World) (_ : k80 l77 = some r) (_ : Below w0.heap.size w0 w74) (_ : Sep w0.heap.size w74 [R.blk b2 102 [v0_0, v0_1, (.int .i64 x0.1.2.2.1), (.int .i64 x0.1.2.2.2), (.int .i64 x0.2.1), v0_2, v0_3], R.own ty_68 F21 v20 u19, R.own ty_29 F79 v78 l77, R.blk b50 68 [(.int .i64 u46.1), (.int .i64 u46.2)]]), ∀ a, St 51 [(1, (.pointer (some ⟨b2, 0, none⟩))), (4, v20), (5, v78), (6, (.int .i64 y36)), (7, (.pointer (some ⟨b50, 0, none⟩))), (8, (.int .i64 y66)), (14, v20), (15, (.int .i64 (List.length u19 : Int))), (16, (.int .i64 y36))] a → K73 a w74 := by
         intro l77 v78 F79 w74 hF hB75 hS76
         subst hk80
         refine fun a ha => hK73 _ _ (W.region (wl_move rfl rfl (wl_add rfl rfl rfl (wl_assign rfl rfl (WL.nil ?_))))) a ha
         rw [hnx67] at hF
         exact fun a ha => hKL68 a _ m69 (Nat.lt_succ_self m69) ⟨l77, (w64 (y66 + 1)), v78, F79, ha.sub ⟨rfl, rfl, rfl, rfl, rfl, rfl, rfl, rfl, rfl, trivial⟩, hB75, (hS76.sel [0, 1, 2, 3] rfl), hF⟩
        refine W.block (W.seq fun K82 hK82 => (W.regionH mixed_ [] hB61 hS62 ?_))
        intro w83 hb84 hB85 hS86
        have hSW87 := KeepX.refl w83 []
        refine WH.takex (i := 0) rfl (by kernel_rfl) (by kernel_rfl) (by kernel_rfl) hP hSW87 (pr_load_blk (i := 3) (vs := [(.int .i64 u46.1), (.int .i64 u46.2)]) (v := (.agg #[(.int .i64 u46.1), (.int .i64 u46.2)])) tf_68 rfl rfl hS86 rfl rfl rfl (by simp) (WH.takex (i := 1) rfl (by kernel_rfl) (by kernel_rfl) (by kernel_rfl) hP hSW87 (pr_move rfl rfl (WH.takex (i := 2) rfl (by kernel_rfl) (by kernel_rfl) (by kernel_rfl) hP hSW87 (pr_move rfl rfl ?_)))))
        obtain ⟨u88, hu88, hF⟩ := bindE hF
        refine WH.takex (i := 3) rfl (by kernel_rfl) (by kernel_rfl) (by kernel_rfl) hP hSW87 (pr_indexo (e := ty_68) (i := 1) Try.underlying63 rfl rfl rfl hS86 rfl hu88 ?_)
        rintro p89 _ rfl hp90 ho91
        refine WH.takex (i := 4) rfl (by kernel_rfl) (by kernel_rfl) (by kernel_rfl) hP hSW87 (pr_load_p (vs := [(.int .i64 u88.1), (.int .i64 u88.2)]) (v := (.agg #[(.int .i64 u88.1), (.int .i64 u88.2)])) tf_68 rfl rfl (hp90.kx0) rfl rfl (WH.takex (i := 6) rfl (by kernel_rfl) (by kernel_rfl) (by kernel_rfl) hP hSW87 (pr_field (o := 0) (off' := 0) ff_102_0 rfl rfl rfl (WH.takex (i := 7) rfl (by kernel_rfl) (by kernel_rfl) (by kernel_rfl) hP hSW87 (pr_field (o := 2) (off' := 2) ff_53_2 rfl rfl rfl (WH.takex (i := 8) rfl (by kernel_rfl) (by kernel_rfl) (by kernel_rfl) hP hSW87 (pr_load_blk (i := 0) (vs := [(.int .i64 x0.1.2.2.1)]) (v := (.int .i64 x0.1.2.2.1)) tf_3 rfl rfl hS86 rfl rfl rfl (by simp) (WH.takex (i := 9) rfl (by kernel_rfl) (by kernel_rfl) (by kernel_rfl) hP hSW87 (pr_field (o := 0) (off' := 0) ff_102_0 rfl rfl rfl ?_)))))))))
        refine WH.takex (i := 10) rfl (by kernel_rfl) (by kernel_rfl) (by kernel_rfl) hP hSW87 (pr_field (o := 2) (off' := 2) ff_53_2 rfl rfl rfl (WH.takex (i := 11) rfl (by kernel_rfl) (by kernel_rfl) (by kernel_rfl) hP hSW87 (pr_load_blk (i := 0) (vs := [(.int .i64 x0.1.2.2.1)]) (v := (.int .i64 x0.1.2.2.1)) tf_3 rfl rfl hS86 rfl rfl rfl (by simp) (WH.takex (i := 12) rfl (by kernel_rfl) (by kernel_rfl) (by kernel_rfl) hP hSW87 (pr_mul rfl rfl rfl (WH.one (i := 5) (by kernel_rfl) rfl ?_))))))
        obtain ⟨u92, hu92, hF⟩ := bindE hF
        refine wl_call rfl Try.call197 (C_spec_stSquare w83 u46 u88 _ hu92) rfl ?_
        rintro _ w93 ⟨rfl, hb94⟩
        refine ⟨_, rfl, ?_⟩
        have hB95 := hB85.trans (hb94.mono hB85.size)
        have hS96 := hS86.below hb94
        have hSW98 := hSW87.ext hb94
        refine WL.nil (WH.ret hSW98 (WH.takex (i := 13) rfl (by kernel_rfl) (by kernel_rfl) (by kernel_rfl) hP hSW98 (pr_lss rfl rfl rfl (WH.done (by kernel_rfl) (fun a ha => hK82 _ _ (W.cond rfl (fun h99 => ?_) (fun h99 => ?_)) a ha)))))
        ·replace hF := ifP h99 hF
         refine W.region (wl_move rfl rfl (wl_move rfl rfl (wl_move rfl rfl (wl_lit (vs := [(.int .i64 y36), (.int .i64 y66)]) (l := [y36, y66]) fl_3 Try.underlying29 rfl rfl rfl rfl rfl rfl hB95 hS96 ?_))))
         intro v100 F101 w102 hb103 hB104 hS105
         have hq106 := hS105.sel [0, 1, 2, 3, 4] rfl
         have hq107 := hq106.head (r' := R.cel ty_29 F101 [v100] [y36, y66]) (rfl) fun _ h0 => ⟨_, rfl, h0⟩
         refine wl_lit1 (e := ty_29) (vs := [v100]) Try.underlying72 rfl rfl (cells_one (hS105.own_ro (i := 0) rfl).one) rfl hB104 hq107 ?_
         intro v108 F109 w110 hb111 hf112 hB113 hS114
         obtain ⟨u115, hu115, hF⟩ := bindE hF
         refine wl_appendn (e := ty_29) Try.underlying72 rfl rfl rfl hB113 (hS114.sel [3, 0, 1, 2, 4] rfl) hu115 ?_
         intro v116 F117 w118 hk119 hB120 hS121
         refine wl_assign rfl rfl (WL.nil ?_)
         exact fun a ha => hJ81 (u115) (v116) (F117) _ hF hB120 (hS121.sel [1, 2, 0, 3] rfl) a (ha.sub ⟨rfl, rfl, rfl, rfl, rfl, rfl, rfl, rfl, rfl, trivial⟩)
        ·replace hF := ifN h99 hF
         refine W.skip ?_
         exact fun a ha => hJ81 (l63) (v64) (F65) _ hF hB95 (hS96.sel [0, 1, 2, 3] rfl) a (ha.sub ⟨rfl, rfl, rfl, rfl, rfl, rfl, rfl, rfl, rfl, trivial⟩)
       ·replace hF := ifN h72 hF
        refine W.exit fun a ha => hK44 _ _ (W.region (wl_add rfl rfl rfl (wl_move rfl rfl (WL.nil ?_)))) a ha
        rw [hnx37] at hF
        exact fun a ha => hKL39 a _ m40 (Nat.lt_succ_self m40) ⟨l63, (w64 (y36 + 1)), v64, F65, ha.sub ⟨rfl, rfl, rfl, rfl, rfl, rfl, trivial⟩, hB61, (hS62.sel [0, 1, 2] rfl), hF⟩
    ·replace hF := ifN h43 hF
     refine W.exit fun a ha => hK28 _ _ (W.seq fun K122 hK122 => (W.region (wl_move rfl rfl (wl_assign rfl rfl (wl_assign rfl rfl (WL.nil (fun a ha => hK122 _ _ (W.ret ?_) a ha))))))) a ha
     have hr := Option.some.inj hF
     subst hr
     exact rets (vs := [v34, (.bool true)]) hQ rfl ⟨rv_tmp rfl, rv_tmp rfl, trivial⟩ ⟨v34, F35, rfl, hB31, hS32.sel [2] rfl⟩
theorem C_impl_StillGoing (w0 : World) (x0 : (((List (List (Int × Int))) × (List Int) × Int × Int) × Int × (List Int) × (List Int))) (v0_0 : Value) (h0_0 : rdS ty_63 (· < w0.heap.size) w0 v0_0 x0.1.1) (v0_1 : Value) (h0_1 : rdS ty_3 (· < w0.heap.size) w0 v0_1 x0.1.2.1) (v0_2 : Value) (h0_2 : rdS ty_3 (· < w0.heap.size) w0 v0_2 x0.2.2.1) (v0_3 : Value) (h0_3 : rdS ty_3 (· < w0.heap.size) w0 v0_3 x0.2.2.2) (r : ((List Int) × Bool)) (hF : F_impl_StillGoing x0 = some r) :
  Calls Try.prog 95 [(.agg #[v0_0, v0_1, (.int .i64 x0.1.2.2.1), (.int .i64 x0.1.2.2.2), (.int .i64 x0.2.1), v0_2, v0_3])].toArray w0 fun e w' => ∃ (q0 : Value) (G0 : List Nat), e = .returned (.tuple #[q0, (.bool r.2)]) ∧ Below w0.heap.size w0 w' ∧ Sep w0.heap.size w' [R.own ty_3 G0 q0 r.1] := by
 refine calls_mk' Try.func95 rfl Try.ntmps95 rfl rfl fun Q hQ hP => ?_
 have hB : Below w0.heap.size w0 w0 := Below.refl _ _
 have hS : Sep w0.heap.size w0 [] := Sep.nil _ _
 unfold F_impl_StillGoing at hF
 refine W.seq fun K1 hK1 => W.region (wl_box (cs := [v0_0, v0_1, (.int .i64 x0.1.2.2.1), (.int .i64 x0.1.2.2.2), (.int .i64 x0.2.1), v0_2, v0_3]) rfl rfl rfl hB hS ?_)
 intro b2 w3 hb4 hB5 hS6
 refine wl_assign rfl rfl (wl_assign rfl rfl (WL.nil (fun a ha => hK1 _ _ (W.seq fun K7 hK7 => (W.seq fun K8 hK8 => (W.region (wl_load_blk (i := 0) (vs := [v0_0, v0_1, (.int .i64 x0.1.2.2.1), (.int .i64 x0.1.2.2.2), (.int .i64 x0.2.1), v0_2, v0_3]) (v := (.agg #[v0_0, v0_1, (.int .i64 x0.1.2.2.1), (.int .i64 x0.1.2.2.2), (.int .i64 x0.2.1), v0_2, v0_3])) tf_102 rfl rfl hS6 rfl rfl rfl ?_)))) a ha)))
 obtain ⟨u9, hu9, hF⟩ := bindE hF
 refine wl_call rfl Try.call100 (C_impl_IsMarch w3 x0 v0_0 (h0_0.ro hB5) v0_1 (h0_1.ro hB5) v0_2 (h0_2.ro hB5) v0_3 (h0_3.ro hB5) _ hu9) rfl ?_
 rintro _ w10 ⟨rfl, hb11⟩
 refine ⟨_, rfl, ?_⟩
 have hB12 := hB5.trans (hb11.mono hB5.size)
 have hS13 := hS6.below hb11
 refine wl_not rfl rfl (WL.nil (fun a ha => hK8 _ _ (W.cond rfl (fun h15 => ?_) (fun h15 => ?_)) a ha))
 ·replace hF := ifP h15 hF
  refine W.seq fun K16 hK16 => W.region (wl_assign rfl rfl (wl_assign rfl rfl (WL.nil (fun a ha => hK16 _ _ (W.ret ?_) a ha))))
  have hS17 := hS13.push0 (r := R.own ty_3 [] (.slice none 0 0) []) rfl fun _ => .inl ⟨rfl, rfl, rfl⟩
  have hr := Option.some.inj hF
  subst hr
  exact rets (vs := [(.slice none 0 0), (.bool false)]) hQ rfl ⟨rv_tmp rfl, rv_tmp rfl, trivial⟩ ⟨(.slice none 0 0), [], rfl, hB12, hS17.sel [0] rfl⟩
 ·replace hF := ifN h15 hF
  refine W.skip fun a ha => hK7 _ _ (W.seq fun K18 hK18 => (W.region (wl_lit (vs := []) (l := []) fl_3 Try.underlying29 rfl rfl rfl rfl rfl rfl hB12 hS13 ?_))) a ha
  intro v19 F20 w21 hb22 hB23 hS24
  refine wl_assign rfl rfl (WL.nil (fun a ha => hK18 _ _ (W.seq fun K25 hK25 => (W.seq fun K26 hK26 => (W.region (wl_field (o := 6) (off' := 6) ff_102_3 rfl rfl rfl (wl_load_blk (i := 1) (vs := [v0_3]) (v := v0_3) tf_29 rfl rfl hS24 rfl rfl rfl (wl_lenr (e := ty_3) (l := x0.2.2.2) Try.underlying29 rfl rfl h0_3 (wl_move rfl rfl (WL.nil (fun a ha => hK26 _ _ (W.block (W.loopk (fun m a w27 => ∃ (l30 : (List Int)) (y33 : Int) (v31 : Value) (F32 : List Nat), St 29 [(1, (.pointer (some ⟨b2, 0, none⟩))), (4, v31), (12, (.int .i64 (List.length x0.2.2.2 : Int))), (13, (.int .i64 y33))] a ∧ Below w0.heap.size w0 w27 ∧ Sep w0.heap.size w27 [R.blk b2 102 [v0_0, v0_1, (.int .i64 x0.1.2.2.1), (.int .i64 x0.1.2.2.2), (.int .i64 x0.2.1), v0_2, v0_3], R.own ty_3 F32 v31 l30] ∧ F_impl_StillGoing_L1 x0 m l30 y33 = some r) FU ?_ ?_)) a ha))))))))) a ha))
  ·
   exact fun a ha => ⟨[], 0, v19, F20, ha.sub ⟨rfl, rfl, rfl, rfl, trivial⟩, hB23, (hS24.sel [1, 0] rfl), hF⟩
  ·
   rintro m36 a w27 ⟨l30, y33, v31, F32, ha, hB28, hS29, hF⟩ KL35 hKL35
   refine W.at ?_ ha
   cases m36 with
   | zero => exact noneE hF
   | succ m36 =>
    obtain ⟨nx34, hnx34⟩ : ∃ k, k = F_impl_StillGoing_L1 x0 m36 := ⟨_, rfl⟩
    rw [F_impl_StillGoing_L1, ← hnx34] at hF
    refine W.seq fun K37 hK37 => W.region (wl_lss rfl rfl rfl (WL.nil (fun a ha => hK37 _ _ (W.seq fun K38 hK38 => (W.cond rfl (fun h39 => ?_) (fun h39 => ?_))) a ha)))
    ·replace hF := ifP h39 hF
     refine W.skip fun a ha => hK38 _ _ (W.seq fun K40 hK40 => ?_) a ha
     obtain ⟨k47, hk47, hF⟩ := jE1 hF
     have hJ48 : ∀ (l44 : (List Int)) (v45 : Value) (F46 : List Nat) (w41 : World) (_ : k47 l44 = some r) (_ : Below w0.heap.size w0 w41) (_ : Sep w0.heap.size w41 [R.blk b2 102 [v0_0, v0_1, (.int .i64 x0.1.2.2.1), (.int .i64 x0.1.2.2.2), (.int .i64 x0.2.1), v0_2, v0_3], R.own ty_3 F46 v45 l44]), ∀ a, St 29 [(1, (.pointer (some ⟨b2, 0, none⟩))), (4, v45), (12, (.int .i64 (List.length x0.2.2.2 : Int))), (13, (.int .i64 y33))] a → K40 a w41 := by
      intro l44 v45 F46 w41 hF hB42 hS43
      subst hk47
      refine fun a ha => hK40 _ _ (W.region (wl_add rfl rfl rfl (wl_move rfl rfl (WL.nil ?_)))) a ha
      rw [hnx34] at hF
      exact fun a ha => hKL35 a _ m36 (Nat.lt_succ_self m36) ⟨l44, (w64 (y33 + 1)), v45, F46, ha.sub ⟨rfl, rfl, rfl, rfl, trivial⟩, hB42, (hS43.sel [0, 1] rfl), hF⟩
     refine W.block (W.seq fun K49 hK49 => (W.region (wl_move rfl rfl (wl_assign rfl rfl (WL.nil (fun a ha => hK49 _ _ (W.seq fun K50 hK50 => (W.regionH mixed_ [] hB28 hS29 ?_)) a ha))))))
     intro w51 hb52 hB53 hS54
     have hSW55 := KeepX.refl w51 []
     refine WH.takex (i := 0) rfl (by kernel_rfl) (by kernel_rfl) (by kernel_rfl) hP hSW55 (pr_load_blk (i := 0) (vs := [v0_0, v0_1, (.int .i64 x0.1.2.2.1), (.int .i64 x0.1.2.2.2), (.int .i64 x0.2.1), v0_2, v0_3]) (v := (.agg #[v0_0, v0_1, (.int .i64 x0.1.2.2.1), (.int .i64 x0.1.2.2.2), (.int .i64 x0.2.1), v0_2, v0_3])) tf_102 rfl rfl hS54 rfl rfl rfl (by simp) (WH.takex (i := 1) rfl (by kernel_rfl) (by kernel_rfl) (by kernel_rfl) hP hSW55 (pr_move rfl rfl (WH.takex (i := 3) rfl (by kernel_rfl) (by kernel_rfl) (by kernel_rfl) hP hSW55 (pr_field (o := 0) (off' := 0) ff_102_0 rfl rfl rfl (WH.takex (i := 4) rfl (by kernel_rfl) (by kernel_rfl) (by kernel_rfl) hP hSW55 (pr_load_blk (i := 0) (vs := [v0_0, v0_1, (.int .i64 x0.1.2.2.1), (.int .i64 x0.1.2.2.2)]) (v := (.agg #[v0_0, v0_1, (.int .i64 x0.1.2.2.1), (.int .i64 x0.1.2.2.2)])) tf_53 rfl rfl hS54 rfl rfl rfl (by simp) ?_)))))))
     refine WH.one (i := 2) (by kernel_rfl) rfl ?_
     obtain ⟨u56, hu56, hF⟩ := bindE hF
     refine wl_call rfl Try.call198 (C_impl_ownCount w51 x0 v0_0 (h0_0.ro hB53) v0_1 (h0_1.ro hB53) v0_2 (h0_2.ro hB53) v0_3 (h0_3.ro hB53) y33 _ hu56) rfl ?_
     rintro _ w57 ⟨rfl, hb58⟩
     refine ⟨_, rfl, ?_⟩
     have hB59 := hB53.trans (hb58.mono hB53.size)
     have hS60 := hS54.below hb58
     have hSW62 := hSW55.ext hb58
     refine WL.nil (WH.ret hSW62 (WH.one (i := 5) (by kernel_rfl) rfl ?_))
     obtain ⟨u63, hu63, hF⟩ := bindE hF
     refine wl_call rfl Try.call177 (C_impl_totalCounts w57 x0.1 v0_0 (h0_0.ro hB59) v0_1 (h0_1.ro hB59) _ hu63) rfl ?_
     rintro _ w65 ⟨rfl, hb66⟩
     refine ⟨_, rfl, ?_⟩
     have hB67 := hB59.trans (hb66.mono hB59.size)
     have hS68 := hS60.below hb66
     have hSW70 := hSW62.ext hb66
     refine WL.nil (WH.ret hSW70 (WH.takex (i := 6) rfl (by kernel_rfl) (by kernel_rfl) (by kernel_rfl) hP hSW70 (pr_lss rfl rfl rfl (WH.done (by kernel_rfl) (fun a ha => hK50 _ _ (W.cond rfl (fun h71 => ?_) (fun h71 => ?_)) a ha)))))
     ·replace hF := ifP h71 hF
      refine W.region (wl_move rfl rfl (wl_move rfl rfl (wl_lit (vs := [(.int .i64 y33)]) (l := [y33]) fl_3 Try.underlying29 rfl rfl rfl rfl rfl rfl hB67 hS68 ?_)))
      intro v72 F73 w74 hb75 hB76 hS77
      obtain ⟨u78, hu78, hF⟩ := bindE hF
      refine wl_append (i := 2) (S := (· < w74.heap.size)) fl_3 Try.underlying29 rfl rfl rfl hB76 hS77 rfl (hS77.own_ro (i := 0) rfl) hu78 ?_
      intro v79 F80 w81 hk82 hB83 hS84
      refine wl_assign rfl rfl (WL.nil ?_)
      exact fun a ha => hJ48 (u78) (v79) (F80) _ hF hB83 (hS84.sel [1, 2] rfl) a (ha.sub ⟨rfl, rfl, rfl, rfl, trivial⟩)
     ·replace hF := ifN h71 hF
      refine W.skip ?_
      exact fun a ha => hJ48 (l30) (v31) (F32) _ hF hB67 (hS68.sel [0, 1] rfl) a (ha.sub ⟨rfl, rfl, rfl, rfl, trivial⟩)
    ·replace hF := ifN h39 hF
     refine W.exit fun a ha => hK25 _ _ (W.seq fun K85 hK85 => (W.region (wl_move rfl rfl (wl_assign rfl rfl (wl_assign rfl rfl (WL.nil (fun a ha => hK85 _ _ (W.ret ?_) a ha))))))) a ha
     have hr := Option.some.inj hF
     subst hr
     exact rets (vs := [v31, (.bool true)]) hQ rfl ⟨rv_tmp rfl, rv_tmp rfl, trivial⟩ ⟨v31, F32, rfl, hB28, hS29.sel [1] rfl⟩
theorem C_spec_StillGoing (w0 : World) (x0 : (((List (List (Int × Int))) × (List Int) × Int × Int) × Int × (List Int) × (List Int))) (v0_0 : Value) (h0_0 : rdS ty_63 (· < w0.heap.size) w0 v0_0 x0.1.1) (v0_1 : Value) (h0_1 : rdS ty_3 (· < w0.heap.size) w0 v0_1 x0.1.2.1) (v0_2 : Value) (h0_2 : rdS ty_3 (· < w0.heap.size) w0 v0_2 x0.2.2.1) (v0_3 : Value) (h0_3 : rdS ty_3 (· < w0.heap.size) w0 v0_3 x0.2.2.2) (r : ((List Int) × Bool)) (hF : F_spec_StillGoing x0 = some r) :
  Calls Try.prog 96 [(.agg #[v0_0, v0_1, (.int .i64 x0.1.2.2.1), (.int .i64 x0.1.2.2.2), (.int .i64 x0.2.1), v0_2, v0_3])].toArray w0 fun e w' => ∃ (q0 : Value) (G0 : List Nat), e = .returned (.tuple #[q0, (.bool r.2)]) ∧ Below w0.heap.size w0 w' ∧ Sep w0.heap.size w' [R.own ty_3 G0 q0 r.1] := by
 refine calls_mk' Try.func96 rfl Try.ntmps96 rfl rfl fun Q hQ hP => ?_
 have hB : Below w0.heap.size w0 w0 := Below.refl _ _
 have hS : Sep w0.heap.size w0 [] := Sep.nil _ _
 unfold F_spec_StillGoing at hF
 refine W.seq fun K1 hK1 => W.region (wl_box (cs := [v0_0, v0_1, (.int .i64 x0.1.2.2.1), (.int .i64 x0.1.2.2.2), (.int .i64 x0.2.1), v0_2, v0_3]) rfl rfl rfl hB hS ?_)
 intro b2 w3 hb4 hB5 hS6
 refine wl_assign rfl rfl (wl_assign rfl rfl (WL.nil (fun a ha => hK1 _ _ (W.seq fun K7 hK7 => (W.seq fun K8 hK8 => (W.region (wl_load_blk (i := 0) (vs := [v0_0, v0_1, (.int .i64 x0.1.2.2.1), (.int .i64 x0.1.2.2.2), (.int .i64 x0.2.1), v0_2, v0_3]) (v := (.agg #[v0_0, v0_1, (.int .i64 x0.1.2.2.1), (.int .i64 x0.1.2.2.2), (.int .i64 x0.2.1), v0_2, v0_3])) tf_102 rfl rfl hS6 rfl rfl rfl ?_)))) a ha)))
 obtain ⟨u9, hu9, hF⟩ := bindE hF
 refine wl_call rfl Try.call195 (C_spec_mnGood w3 x0 v0_0 (h0_0.ro hB5) v0_1 (h0_1.ro hB5) v0_2 (h0_2.ro hB5) v0_3 (h0_3.ro hB5) _ hu9) rfl ?_
 rintro _ w10 ⟨rfl, hb11⟩
 refine ⟨_, rfl, ?_⟩
 have hB12 := hB5.trans (hb11.mono hB5.size)
 have hS13 := hS6.below hb11
 refine wl_not rfl rfl (WL.nil (fun a ha => hK8 _ _ (W.cond rfl (fun h15 => ?_) (fun h15 => ?_)) a ha))
 ·replace hF := ifP h15 hF
  refine W.seq fun K16 hK16 => W.region (wl_assign rfl rfl (wl_assign rfl rfl (WL.nil (fun a ha => hK16 _ _ (W.ret ?_) a ha))))
  have hS17 := hS13.push0 (r := R.own ty_3 [] (.slice none 0 0) []) rfl fun _ => .inl ⟨rfl, rfl, rfl⟩
  have hr := Option.some.inj hF
  subst hr
  exact rets (vs := [(.slice none 0 0), (.bool false)]) hQ rfl ⟨rv_tmp rfl, rv_tmp rfl, trivial⟩ ⟨(.slice none 0 0), [], rfl, hB12, hS17.sel [0] rfl⟩
 ·replace hF := ifN h15 hF
  refine W.skip fun a ha => hK7 _ _ (W.seq fun K18 hK18 => (W.region (wl_assign rfl rfl (WL.nil (fun a ha => hK18 _ _ (W.seq fun K19 hK19 => (W.seq fun K20 hK20 => (W.region (wl_field (o := 6) (off' := 6) ff_102_3 rfl rfl rfl (wl_load_blk (i := 0) (vs := [v0_3]) (v := v0_3) tf_29 rfl rfl hS13 rfl rfl rfl (wl_lenr (e := ty_3) (l := x0.2.2.2) Try.underlying29 rfl rfl h0_3 (wl_move rfl rfl ?_))))))) a ha))))) a ha
  refine WL.nil fun a ha => hK20 _ _ (W.block (W.loopk (fun m a w21 => ∃ (l24 : (List Int)) (y27 : Int) (v25 : Value) (F26 : List Nat), St 28 [(1, (.pointer (some ⟨b2, 0, none⟩))), (4, v25), (11, (.int .i64 (List.length x0.2.2.2 : Int))), (12, (.int .i64 y27))] a ∧ Below w0.heap.size w0 w21 ∧ Sep w0.heap.size w21 [R.blk b2 102 [v0_0, v0_1, (.int .i64 x0.1.2.2.1), (.int .i64 x0.1.2.2.2), (.int .i64 x0.2.1), v0_2, v0_3], R.own ty_3 F26 v25 l24] ∧ F_spec_StillGoing_L1 x0 m l24 y27 = some r) FU ?_ ?_)) a ha
  ·
   have hS29 := hS13.push0 (r := R.own ty_3 [] (.slice none 0 0) []) rfl fun _ => .inl ⟨rfl, rfl, rfl⟩
   exact fun a ha => ⟨[], 0, (.slice none 0 0), [], ha.sub ⟨rfl, rfl, rfl, rfl, trivial⟩, hB12, (hS29.sel [1, 0] rfl), hF⟩
  ·
   rintro m31 a w21 ⟨l24, y27, v25, F26, ha, hB22, hS23, hF⟩ KL30 hKL30
   refine W.at ?_ ha
   cases m31 with
   | zero => exact noneE hF
   | succ m31 =>
    obtain ⟨nx28, hnx28⟩ : ∃ k, k = F_spec_StillGoing_L1 x0 m31 := ⟨_, rfl⟩
    rw [F_spec_StillGoing_L1, ← hnx28] at hF
    refine W.seq fun K32 hK32 => W.region (wl_lss rfl rfl rfl (WL.nil (fun a ha => hK32 _ _ (W.seq fun K33 hK33 => (W.cond rfl (fun h34 => ?_) (fun h34 => ?_))) a ha)))
    ·replace hF := ifP h34 hF
     refine W.skip fun a ha => hK33 _ _ (W.seq fun K35 hK35 => ?_) a ha
     obtain ⟨k42, hk42, hF⟩ := jE1 hF
     have hJ43 : ∀ (l39 : (List Int)) (v40 : Value) (F41 : List Nat) (w36 : World) (_ : k42 l39 = some r) (_ : Below w0.heap.size w0 w36) (_ : Sep w0.heap.size w36 [R.blk b2 102 [v0_0, v0_1, (.int .i64 x0.1.2.2.1), (.int .i64 x0.1.2.2.2), (.int .i64 x0.2.1), v0_2, v0_3], R.own ty_3 F41 v40 l39]), ∀ a, St 28 [(1, (.pointer (some ⟨b2, 0, none⟩))), (4, v40), (11, (.int .i64 (List.length x0.2.2.2 : Int))), (12, (.int .i64 y27))] a → K35 a w36 := by
      intro l39 v40 F41 w36 hF hB37 hS38
      subst hk42
      refine fun a ha => hK35 _ _ (W.region (wl_add rfl rfl rfl (wl_move rfl rfl (WL.nil ?_)))) a ha
      rw [hnx28] at hF
      exact fun a ha => hKL30 a _ m31 (Nat.lt_succ_self m31) ⟨l39, (w64 (y27 + 1)), v40, F41, ha.sub ⟨rfl, rfl, rfl, rfl, trivial⟩, hB37, (hS38.sel [0, 1] rfl), hF⟩
     refine W.block (W.seq fun K44 hK44 => (W.region (wl_move rfl rfl (wl_assign rfl rfl (WL.nil (fun a ha => hK44 _ _ (W.seq fun K45 hK45 => (W.regionH mixed_ [] hB22 hS23 ?_)) a ha))))))
     intro w46 hb47 hB48 hS49
     have hSW50 := KeepX.refl w46 []
     refine WH.takex (i := 0) rfl (by kernel_rfl) (by kernel_rfl) (by kernel_rfl) hP hSW50 (pr_load_blk (i := 0) (vs := [v0_0, v0_1, (.int .i64 x0.1.2.2.1), (.int .i64 x0.1.2.2.2), (.int .i64 x0.2.1), v0_2, v0_3]) (v := (.agg #[v0_0, v0_1, (.int .i64 x0.1.2.2.1), (.int .i64 x0.1.2.2.2), (.int .i64 x0.2.1), v0_2, v0_3])) tf_102 rfl rfl hS49 rfl rfl rfl (by simp) (WH.takex (i := 1) rfl (by kernel_rfl) (by kernel_rfl) (by kernel_rfl) hP hSW50 (pr_move rfl rfl (WH.takex (i := 3) rfl (by kernel_rfl) (by kernel_rfl) (by kernel_rfl) hP hSW50 (pr_field (o := 0) (off' := 0) ff_102_0 rfl rfl rfl (WH.takex (i := 4) rfl (by kernel_rfl) (by kernel_rfl) (by kernel_rfl) hP hSW50 (pr_load_blk (i := 0) (vs := [v0_0, v0_1, (.int .i64 x0.1.2.2.1), (.int .i64 x0.1.2.2.2)]) (v := (.agg #[v0_0, v0_1, (.int .i64 x0.1.2.2.1), (.int .i64 x0.1.2.2.2)])) tf_53 rfl rfl hS49 rfl rfl rfl (by simp) ?_)))))))
     refine WH.one (i := 2) (by kernel_rfl) rfl ?_
     obtain ⟨u51, hu51, hF⟩ := bindE hF
     refine wl_call rfl Try.call199 (C_spec_mnCount w46 x0 v0_0 (h0_0.ro hB48) v0_1 (h0_1.ro hB48) v0_2 (h0_2.ro hB48) v0_3 (h0_3.ro hB48) y27 _ hu51) rfl ?_
     rintro _ w52 ⟨rfl, hb53⟩
     refine ⟨_, rfl, ?_⟩
     have hB54 := hB48.trans (hb53.mono hB48.size)
     have hS55 := hS49.below hb53
     have hSW57 := hSW50.ext hb53
     refine WL.nil (WH.ret hSW57 (WH.one (i := 5) (by kernel_rfl) rfl ?_))
     obtain ⟨u58, hu58, hF⟩ := bindE hF
     refine wl_call rfl Try.call188 (C_spec_swTotal w52 x0.1 v0_0 (h0_0.ro hB54) v0_1 (h0_1.ro hB54) _ hu58) rfl ?_
     rintro _ w59 ⟨rfl, hb60⟩
     refine ⟨_, rfl, ?_⟩
     have hB61 := hB54.trans (hb60.mono hB54.size)
     have hS62 := hS55.below hb60
     have hSW64 := hSW57.ext hb60
     refine WL.nil (WH.ret hSW64 (WH.takex (i := 6) rfl (by kernel_rfl) (by kernel_rfl) (by kernel_rfl) hP hSW64 (pr_lss rfl rfl rfl (WH.done (by kernel_rfl) (fun a ha => hK45 _ _ (W.cond rfl (fun h65 => ?_) (fun h65 => ?_)) a ha)))))
     ·replace hF := ifP h65 hF
      refine W.region (wl_move rfl rfl (wl_move rfl rfl (wl_lit (vs := [(.int .i64 y27)]) (l := [y27]) fl_3 Try.underlying29 rfl rfl rfl rfl rfl rfl hB61 hS62 ?_)))
      intro v66 F67 w68 hb69 hB70 hS71
      obtain ⟨u72, hu72, hF⟩ := bindE hF
      refine wl_append (i := 2) (S := (· < w68.heap.size)) fl_3 Try.underlying29 rfl rfl rfl hB70 hS71 rfl (hS71.own_ro (i := 0) rfl) hu72 ?_
      intro v73 F74 w75 hk76 hB77 hS78
      refine wl_assign rfl rfl (WL.nil ?_)
      exact fun a ha => hJ43 (u72) (v73) (F74) _ hF hB77 (hS78.sel [1, 2] rfl) a (ha.sub ⟨rfl, rfl, rfl, rfl, trivial⟩)
     ·replace hF := ifN h65 hF
      refine W.skip ?_
      exact fun a ha => hJ43 (l24) (v25) (F26) _ hF hB61 (hS62.sel [0, 1] rfl) a (ha.sub ⟨rfl, rfl, rfl, rfl, trivial⟩)
    ·replace hF := ifN h34 hF
     refine W.exit fun a ha => hK19 _ _ (W.seq fun K79 hK79 => (W.region (wl_move rfl rfl (wl_assign rfl rfl (wl_assign rfl rfl (WL.nil (fun a ha => hK79 _ _ (W.ret ?_) a ha))))))) a ha
     have hr := Option.some.inj hF
     subst hr
     exact rets (vs := [v25, (.bool true)]) hQ rfl ⟨rv_tmp rfl, rv_tmp rfl, trivial⟩ ⟨v25, F26, rfl, hB22, hS23.sel [1] rfl⟩
theorem C_impl_MostBehind (w0 : World) (x0 : (((List (List (Int × Int))) × (List Int) × Int × Int) × Int × (List Int) × (List Int))) (v0_0 : Value) (h0_0 : rdS ty_63 (· < w0.heap.size) w0 v0_0 x0.1.1) (v0_1 : Value) (h0_1 : rdS ty_3 (· < w0.heap.size) w0 v0_1 x0.1.2.1) (v0_2 : Value) (h0_2 : rdS ty_3 (· < w0.heap.size) w0 v0_2 x0.2.2.1) (v0_3 : Value) (h0_3 : rdS ty_3 (· < w0.heap.size) w0 v0_3 x0.2.2.2) (r : (Int × Bool)) (hF : F_impl_MostBehind x0 = some r) :
  Calls Try.prog 97 [(.agg #[v0_0, v0_1, (.int .i64 x0.1.2.2.1), (.int .i64 x0.1.2.2.2), (.int .i64 x0.2.1), v0_2, v0_3])].toArray w0 fun e w' => e = .returned (.tuple #[(.int .i64 r.1), (.bool r.2)]) ∧ Below w0.heap.size w0 w' := by
 refine calls_mk' Try.func97 rfl Try.ntmps97 rfl rfl fun Q hQ hP => ?_
 have hB : Below w0.heap.size w0 w0 := Below.refl _ _
 have hS : Sep w0.heap.size w0 [] := Sep.nil _ _
 unfold F_impl_MostBehind at hF
 refine W.seq fun K1 hK1 => W.region (wl_box (cs := [v0_0, v0_1, (.int .i64 x0.1.2.2.1), (.int .i64 x0.1.2.2.2), (.int .i64 x0.2.1), v0_2, v0_3]) rfl rfl rfl hB hS ?_)
 intro b2 w3 hb4 hB5 hS6
 refine wl_assign rfl rfl (wl_assign rfl rfl (WL.nil (fun a ha => hK1 _ _ (W.seq fun K7 hK7 => (W.seq fun K8 hK8 => (W.region (wl_load_blk (i := 0) (vs := [v0_0, v0_1, (.int .i64 x0.1.2.2.1), (.int .i64 x0.1.2.2.2), (.int .i64 x0.2.1), v0_2, v0_3]) (v := (.agg #[v0_0, v0_1, (.int .i64 x0.1.2.2.1), (.int .i64 x0.1.2.2.2), (.int .i64 x0.2.1), v0_2, v0_3])) tf_102 rfl rfl hS6 rfl rfl rfl ?_)))) a ha)))
 obtain ⟨u9, hu9, hF⟩ := bindE hF
 refine wl_call rfl Try.call100 (C_impl_IsMarch w3 x0 v0_0 (h0_0.ro hB5) v0_1 (h0_1.ro hB5) v0_2 (h0_2.ro hB5) v0_3 (h0_3.ro hB5) _ hu9) rfl ?_
 rintro _ w10 ⟨rfl, hb11⟩
 refine ⟨_, rfl, ?_⟩
 have hB12 := hB5.trans (hb11.mono hB5.size)
 have hS13 := hS6.below hb11
 refine wl_not rfl rfl (WL.nil (fun a ha => hK8 _ _ (W.cond rfl (fun h15 => ?_) (fun h15 => ?_)) a ha))
 ·replace hF := ifP h15 hF
  refine W.seq fun K16 hK16 => W.region (wl_assign rfl rfl (wl_assign rfl rfl (WL.nil (fun a ha => hK16 _ _ (W.ret ?_) a ha))))
  have hr := Option.some.inj hF
  subst hr
  exact rets (vs := [(.int .i64 0), (.bool false)]) hQ rfl ⟨rv_tmp rfl, rv_tmp rfl, trivial⟩ ⟨rfl, hB12⟩
 ·replace hF := ifN h15 hF
  refine W.skip fun a ha => hK7 _ _ (W.seq fun K17 hK17 => (W.region (wl_assign rfl rfl (WL.nil (fun a ha => hK17 _ _ (W.seq fun K18 hK18 => (W.seq fun K19 hK19 => (W.region (wl_field (o := 6) (off' := 6) ff_102_3 rfl rfl rfl (wl_load_blk (i := 0) (vs := [v0_3]) (v := v0_3) tf_29 rfl rfl hS13 rfl rfl rfl (wl_lenr (e := ty_3) (l := x0.2.2.2) Try.underlying29 rfl rfl h0_3 (wl_move rfl rfl ?_))))))) a ha))))) a ha
  refine WL.nil fun a ha => hK19 _ _ (W.block (W.loopk (fun m a w20 => ∃ (y23 : Int) (y24 : Int), St 28 [(1, (.pointer (some ⟨b2, 0, none⟩))), (4, (.int .i64 y23)), (11, v0_3), (12, (.int .i64 (List.length x0.2.2.2 : Int))), (13, (.int .i64 y24))] a ∧ Below w0.heap.size w0 w20 ∧ Sep w0.heap.size w20 [R.blk b2 102 [v0_0, v0_1, (.int .i64 x0.1.2.2.1), (.int .i64 x0.1.2.2.2), (.int .i64 x0.2.1), v0_2, v0_3]] ∧ F_impl_MostBehind_L1 x0 m y23 y24 = some r) FU ?_ ?_)) a ha
  ·
   exact fun a ha => ⟨0, 0, ha.sub ⟨rfl, rfl, rfl, rfl, rfl, trivial⟩, hB12, (hS13.sel [0] rfl), hF⟩
  ·
   rintro m27 a w20 ⟨y23, y24, ha, hB21, hS22, hF⟩ KL26 hKL26
   refine W.at ?_ ha
   cases m27 with
   | zero => exact noneE hF
   | succ m27 =>
    obtain ⟨nx25, hnx25⟩ : ∃ k, k = F_impl_MostBehind_L1 x0 m27 := ⟨_, rfl⟩
    rw [F_impl_MostBehind_L1, ← hnx25] at hF
    refine W.seq fun K28 hK28 => W.region (wl_lss rfl rfl rfl (WL.nil (fun a ha => hK28 _ _ (W.seq fun K29 hK29 => (W.cond rfl (fun h30 => ?_) (fun h30 => ?_))) a ha)))
    ·replace hF := ifP h30 hF
     refine W.skip fun a ha => hK29 _ _ (W.seq fun K31 hK31 => ?_) a ha
     obtain ⟨k36, hk36, hF⟩ := jE1 hF
     have hJ37 : ∀ (y35 : Int) (w32 : World) (_ : k36 y35 = some r) (_ : Below w0.heap.size w0 w32) (_ : Sep w0.heap.size w32 [R.blk b2 102 [v0_0, v0_1, (.int .i64 x0.1.2.2.1), (.int .i64 x0.1.2.2.2), (.int .i64 x0.2.1), v0_2, v0_3]]), ∀ a, St 28 [(1, (.pointer (some ⟨b2, 0, none⟩))), (4, (.int .i64 y35)), (11, v0_3), (12, (.int .i64 (List.length x0.2.2.2 : Int))), (13, (.int .i64 y24))] a → K31 a w32 := by
      intro y35 w32 hF hB33 hS34
      subst hk36
      refine fun a ha => hK31 _ _ (W.region (wl_add rfl rfl rfl (wl_move rfl rfl (WL.nil ?_)))) a ha
      rw [hnx25] at hF
      exact fun a ha => hKL26 a _ m27 (Nat.lt_succ_self m27) ⟨y35, (w64 (y24 + 1)), ha.sub ⟨rfl, rfl, rfl, rfl, rfl, trivial⟩, hB33, (hS34.sel [0] rfl), hF⟩
     refine W.block (W.seq fun K38 hK38 => (W.region (wl_move rfl rfl ?_)))
     obtain ⟨u39, hu39, hF⟩ := bindE hF
     refine wl_index (e := ty_3) Try.underlying29 rfl rfl rfl h0_3 hu39 ?_
     rintro p40 _ rfl hp41
     refine wl_load_p (vs := [(.int .i64 u39)]) (v := (.int .i64 u39)) tf_3 rfl rfl (hp41.ro hB21) rfl rfl (wl_assign rfl rfl (wl_assign rfl rfl (WL.nil (fun a ha => hK38 _ _ (W.seq fun K42 hK42 => (W.region (wl_move rfl rfl (wl_field (o := 6) (off' := 6) ff_102_3 rfl rfl rfl (wl_load_blk (i := 0) (vs := [v0_3]) (v := v0_3) tf_29 rfl rfl hS22 rfl rfl rfl (wl_move rfl rfl ?_)))))) a ha))))
     obtain ⟨u43, hu43, hF⟩ := bindE hF
     refine wl_index (e := ty_3) Try.underlying29 rfl rfl rfl h0_3 hu43 ?_
     rintro p44 _ rfl hp45
     refine wl_load_p (vs := [(.int .i64 u43)]) (v := (.int .i64 u43)) tf_3 rfl rfl (hp45.ro hB21) rfl rfl (wl_gtr rfl rfl rfl (WL.nil (fun a ha => hK42 _ _ (W.cond rfl (fun h46 => ?_) (fun h46 => ?_)) a ha)))
     ·replace hF := ifP h46 hF
      refine W.region (wl_move rfl rfl (wl_assign rfl rfl (WL.nil ?_)))
      exact fun a ha => hJ37 (y24) _ hF hB21 (hS22.sel [0] rfl) a (ha.sub ⟨rfl, rfl, rfl, rfl, rfl, trivial⟩)
     ·replace hF := ifN h46 hF
      refine W.skip ?_
      exact fun a ha => hJ37 (y23) _ hF hB21 (hS22.sel [0] rfl) a (ha.sub ⟨rfl, rfl, rfl, rfl, rfl, trivial⟩)
    ·replace hF := ifN h30 hF
     refine W.exit fun a ha => hK18 _ _ (W.seq fun K47 hK47 => (W.region (wl_move rfl rfl (wl_assign rfl rfl (wl_assign rfl rfl (WL.nil (fun a ha => hK47 _ _ (W.ret ?_) a ha))))))) a ha
     have hr := Option.some.inj hF
     subst hr
     exact rets (vs := [(.int .i64 y23), (.bool true)]) hQ rfl ⟨rv_tmp rfl, rv_tmp rfl, trivial⟩ ⟨rfl, hB21⟩
theorem C_spec_MostBehind (w0 : World) (x0 : (((List (List (Int × Int))) × (List Int) × Int × Int) × Int × (List Int) × (List Int))) (v0_0 : Value) (h0_0 : rdS ty_63 (· < w0.heap.size) w0 v0_0 x0.1.1) (v0_1 : Value) (h0_1 : rdS ty_3 (· < w0.heap.size) w0 v0_1 x0.1.2.1) (v0_2 : Value) (h0_2 : rdS ty_3 (· < w0.heap.size) w0 v0_2 x0.2.2.1) (v0_3 : Value) (h0_3 : rdS ty_3 (· < w0.heap.size) w0 v0_3 x0.2.2.2) (r : (Int × Bool)) (hF : F_spec_MostBehind x0 = some r) :
  Calls Try.prog 98 [(.agg #[v0_0, v0_1, (.int .i64 x0.1.2.2.1), (.int .i64 x0.1.2.2.2), (.int .i64 x0.2.1), v0_2, v0_3])].toArray w0 fun e w' => e = .returned (.tuple #[(.int .i64 r.1), (.bool r.2)]) ∧ Below w0.heap.size w0 w' := by
 refine calls_mk' Try.func98 rfl Try.ntmps98 rfl rfl fun Q hQ hP => ?_
 have hB : Below w0.heap.size w0 w0 := Below.refl _ _
 have hS : Sep w0.heap.size w0 [] := Sep.nil _ _
 unfold F_spec_MostBehind at hF
 refine W.seq fun K1 hK1 => W.region (wl_box (cs := [v0_0, v0_1, (.int .i64 x0.1.2.2.1), (.int .i64 x0.1.2.2.2), (.int .i64 x0.2.1), v0_2, v0_3]) rfl rfl rfl hB hS ?_)
 intro b2 w3 hb4 hB5 hS6
 refine wl_assign rfl rfl (wl_assign rfl rfl (WL.nil (fun a ha => hK1 _ _ (W.seq fun K7 hK7 => (W.seq fun K8 hK8 => (W.region (wl_load_blk (i := 0) (vs := [v0_0, v0_1, (.int .i64 x0.1.2.2.1), (.int .i64 x0.1.2.2.2), (.int .i64 x0.2.1), v0_2, v0_3]) (v := (.agg #[v0_0, v0_1, (.int .i64 x0.1.2.2.1), (.int .i64 x0.1.2.2.2), (.int .i64 x0.2.1), v0_2, v0_3])) tf_102 rfl rfl hS6 rfl rfl rfl ?_)))) a ha)))
 obtain ⟨u9, hu9, hF⟩ := bindE hF
 refine wl_call rfl Try.call195 (C_spec_mnGood w3 x0 v0_0 (h0_0.ro hB5) v0_1 (h0_1.ro hB5) v0_2 (h0_2.ro hB5) v0_3 (h0_3.ro hB5) _ hu9) rfl ?_
 rintro _ w10 ⟨rfl, hb11⟩
 refine ⟨_, rfl, ?_⟩
 have hB12 := hB5.trans (hb11.mono hB5.size)
 have hS13 := hS6.below hb11
 refine wl_not rfl rfl (WL.nil (fun a ha => hK8 _ _ (W.cond rfl (fun h15 => ?_) (fun h15 => ?_)) a ha))
 ·replace hF := ifP h15 hF
  refine W.seq fun K16 hK16 => W.region (wl_assign rfl rfl (wl_assign rfl rfl (WL.nil (fun a ha => hK16 _ _ (W.ret ?_) a ha))))
  have hr := Option.some.inj hF
  subst hr
  exact rets (vs := [(.int .i64 0), (.bool false)]) hQ rfl ⟨rv_tmp rfl, rv_tmp rfl, trivial⟩ ⟨rfl, hB12⟩
 ·replace hF := ifN h15 hF
  refine W.skip fun a ha => hK7 _ _ (W.seq fun K17 hK17 => (W.region (wl_assign rfl rfl (WL.nil (fun a ha => hK17 _ _ (W.seq fun K18 hK18 => (W.seq fun K19 hK19 => (W.region (wl_field (o := 6) (off' := 6) ff_102_3 rfl rfl rfl (wl_load_blk (i := 0) (vs := [v0_3]) (v := v0_3) tf_29 rfl rfl hS13 rfl rfl rfl (wl_lenr (e := ty_3) (l := x0.2.2.2) Try.underlying29 rfl rfl h0_3 (wl_move rfl rfl ?_))))))) a ha))))) a ha
  refine WL.nil fun a ha => hK19 _ _ (W.block (W.loopk (fun m a w20 => ∃ (y23 : Int) (y24 : Int), St 28 [(1, (.pointer (some ⟨b2, 0, none⟩))), (4, (.int .i64 y23)), (11, v0_3), (12, (.int .i64 (List.length x0.2.2.2 : Int))), (13, (.int .i64 y24))] a ∧ Below w0.heap.size w0 w20 ∧ Sep w0.heap.size w20 [R.blk b2 102 [v0_0, v0_1, (.int .i64 x0.1.2.2.1), (.int .i64 x0.1.2.2.2), (.int .i64 x0.2.1), v0_2, v0_3]] ∧ F_spec_MostBehind_L1 x0 m y23 y24 = some r) FU ?_ ?_)) a ha
  ·
   exact fun a ha => ⟨0, 0, ha.sub ⟨rfl, rfl, rfl, rfl, rfl, trivial⟩, hB12, (hS13.sel [0] rfl), hF⟩
  ·
   rintro m27 a w20 ⟨y23, y24, ha, hB21, hS22, hF⟩ KL26 hKL26
   refine W.at ?_ ha
   cases m27 with
   | zero => exact noneE hF
   | succ m27 =>
    obtain ⟨nx25, hnx25⟩ : ∃ k, k = F_spec_MostBehind_L1 x0 m27 := ⟨_, rfl⟩
    rw [F_spec_MostBehind_L1, ← hnx25] at hF
    refine W.seq fun K28 hK28 => W.region (wl_lss rfl rfl rfl (WL.nil (fun a ha => hK28 _ _ (W.seq fun K29 hK29 => (W.cond rfl (fun h30 => ?_) (fun h30 => ?_))) a ha)))
    ·replace hF := ifP h30 hF
     refine W.skip fun a ha => hK29 _ _ (W.seq fun K31 hK31 => ?_) a ha
     obtain ⟨k36, hk36, hF⟩ := jE1 hF
     have hJ37 : ∀ (y35 : Int) (w32 : World) (_ : k36 y35 = some r) (_ : Below w0.heap.size w0 w32) (_ : Sep w0.heap.size w32 [R.blk b2 102 [v0_0, v0_1, (.int .i64 x0.1.2.2.1), (.int .i64 x0.1.2.2.2), (.int .i64 x0.2.1), v0_2, v0_3]]), ∀ a, St 28 [(1, (.pointer (some ⟨b2, 0, none⟩))), (4, (.int .i64 y35)), (11, v0_3), (12, (.int .i64 (List.length x0.2.2.2 : Int))), (13, (.int .i64 y24))] a → K31 a w32 := by
      intro y35 w32 hF hB33 hS34
      subst hk36
      refine fun a ha => hK31 _ _ (W.region (wl_add rfl rfl rfl (wl_move rfl rfl (WL.nil ?_)))) a ha
      rw [hnx25] at hF
      exact fun a ha => hKL26 a _ m27 (Nat.lt_succ_self m27) ⟨y35, (w64 (y24 + 1)), ha.sub ⟨rfl, rfl, rfl, rfl, rfl, trivial⟩, hB33, (hS34.sel [0] rfl), hF⟩
     refine W.block (W.seq fun K38 hK38 => (W.region (wl_move rfl rfl ?_)))
     obtain ⟨u39, hu39, hF⟩ := bindE hF
     refine wl_index (e := ty_3) Try.underlying29 rfl rfl rfl h0_3 hu39 ?_
     rintro p40 _ rfl hp41
     refine wl_load_p (vs := [(.int .i64 u39)]) (v := (.int .i64 u39)) tf_3 rfl rfl (hp41.ro hB21) rfl rfl (wl_assign rfl rfl (wl_assign rfl rfl (WL.nil (fun a ha => hK38 _ _ (W.seq fun K42 hK42 => (W.region (wl_move rfl rfl (wl_field (o := 6) (off' := 6) ff_102_3 rfl rfl rfl (wl_load_blk (i := 0) (vs := [v0_3]) (v := v0_3) tf_29 rfl rfl hS22 rfl rfl rfl (wl_move rfl rfl ?_)))))) a ha))))
     obtain ⟨u43, hu43, hF⟩ := bindE hF
     refine wl_index (e := ty_3) Try.underlying29 rfl rfl rfl h0_3 hu43 ?_
     rintro p44 _ rfl hp45
     refine wl_load_p (vs := [(.int .i64 u43)]) (v := (.int .i64 u43)) tf_3 rfl rfl (hp45.ro hB21) rfl rfl (wl_gtr rfl rfl rfl (WL.nil (fun a ha => hK42 _ _ (W.cond rfl (fun h46 => ?_) (fun h46 => ?_)) a ha)))
     ·replace hF := ifP h46 hF
      refine W.region (wl_move rfl rfl (wl_assign rfl rfl (WL.nil ?_)))
      exact fun a ha => hJ37 (y24) _ hF hB21 (hS22.sel [0] rfl) a (ha.sub ⟨rfl, rfl, rfl, rfl, rfl, trivial⟩)
     ·replace hF := ifN h46 hF
      refine W.skip ?_
      exact fun a ha => hJ37 (y23) _ hF hB21 (hS22.sel [0] rfl) a (ha.sub ⟨rfl, rfl, rfl, rfl, rfl, trivial⟩)
    ·replace hF := ifN h30 hF
     refine W.exit fun a ha => hK18 _ _ (W.seq fun K47 hK47 => (W.region (wl_move rfl rfl (wl_assign rfl rfl (wl_assign rfl rfl (WL.nil (fun a ha => hK47 _ _ (W.ret ?_) a ha))))))) a ha
     have hr := Option.some.inj hF
     subst hr
     exact rets (vs := [(.int .i64 y23), (.bool true)]) hQ rfl ⟨rv_tmp rfl, rv_tmp rfl, trivial⟩ ⟨rfl, hB21⟩
theorem C_impl_hasPerformer (w0 : World) (x0 : (((List (List (Int × Int))) × (List Int) × Int × Int) × Int × (List Int) × (List Int))) (v0_0 : Value) (h0_0 : rdS ty_63 (· < w0.heap.size) w0 v0_0 x0.1.1) (v0_1 : Value) (h0_1 : rdS ty_3 (· < w0.heap.size) w0 v0_1 x0.1.2.1) (v0_2 : Value) (h0_2 : rdS ty_3 (· < w0.heap.size) w0 v0_2 x0.2.2.1) (v0_3 : Value) (h0_3 : rdS ty_3 (· < w0.heap.size) w0 v0_3 x0.2.2.2) (x1 : Int) (r : Bool) (hF : F_impl_hasPerformer x0 x1 = some r) :
  Calls Try.prog 201 [(.agg #[v0_0, v0_1, (.int .i64 x0.1.2.2.1), (.int .i64 x0.1.2.2.2), (.int .i64 x0.2.1), v0_2, v0_3]), (.int .i64 x1)].toArray w0 fun e w' => e = .returned (.bool r) ∧ Below w0.heap.size w0 w' := by
 refine calls_mk' Try.func201 rfl Try.ntmps201 rfl rfl fun Q hQ hP => ?_
 have hB : Below w0.heap.size w0 w0 := Below.refl _ _
 have hS : Sep w0.heap.size w0 [] := Sep.nil _ _
 unfold F_impl_hasPerformer at hF
 refine W.seq fun K1 hK1 => W.region (wl_box (cs := [v0_0, v0_1, (.int .i64 x0.1.2.2.1), (.int .i64 x0.1.2.2.2), (.int .i64 x0.2.1), v0_2, v0_3]) rfl rfl rfl hB hS ?_)
 intro b2 w3 hb4 hB5 hS6
 refine wl_assign rfl rfl (WL.nil (fun a ha => hK1 _ _ (W.seq fun K7 hK7 => ?_) a ha))
 obtain ⟨k12, hk12, hF⟩ := jE1 hF
 have hJ13 : ∀ (y11 : Bool) (w8 : World) (_ : k12 y11 = some r) (_ : Below w0.heap.size w0 w8) (_ : Sep w0.heap.size w8 []), ∀ a, St 15 [(4, (.bool y11))] a → K7 a w8 := by
  intro y11 w8 hF hB9 hS10
  subst hk12
  refine fun a ha => hK7 _ _ (W.ret ?_) a ha
  have hr := Option.some.inj hF
  subst hr
  exact rets (vs := [(.bool y11)]) hQ rfl ⟨rv_tmp rfl, trivial⟩ ⟨rfl, hB9⟩
 refine W.region (wl_load_blk (i := 0) (vs := [v0_0, v0_1, (.int .i64 x0.1.2.2.1), (.int .i64 x0.1.2.2.2), (.int .i64 x0.2.1), v0_2, v0_3]) (v := (.agg #[v0_0, v0_1, (.int .i64 x0.1.2.2.1), (.int .i64 x0.1.2.2.2), (.int .i64 x0.2.1), v0_2, v0_3])) tf_102 rfl rfl hS6 rfl rfl rfl ?_)
 obtain ⟨u14, hu14, hF⟩ := bindE hF
 refine wl_call rfl Try.call100 (C_impl_IsMarch w3 x0 v0_0 (h0_0.ro hB5) v0_1 (h0_1.ro hB5) v0_2 (h0_2.ro hB5) v0_3 (h0_3.ro hB5) _ hu14) rfl ?_
 rintro _ w15 ⟨rfl, hb16⟩
 refine ⟨_, rfl, ?_⟩
 have hB17 := hB5.trans (hb16.mono hB5.size)
 have hS18 := hS6.below hb16
 refine wl_move rfl rfl ?_
 rcases bE u14 with h20 | h20
 ·replace hF := ifP h20 hF
  refine wl_on rfl rfl h20 (wl_move rfl rfl (wl_on rfl rfl h20 (wl_field (o := 6) (off' := 6) ff_102_3 rfl rfl rfl (wl_on rfl rfl h20 (wl_load_blk (i := 0) (vs := [v0_3]) (v := v0_3) tf_29 rfl rfl hS18 rfl rfl rfl (wl_on rfl rfl h20 (wl_lenr (e := ty_3) (l := x0.2.2.2) Try.underlying29 rfl rfl h0_3 (wl_on rfl rfl h20 (wl_sub rfl rfl rfl (wl_on rfl rfl h20 ?_))))))))))
  obtain ⟨u21, hu21, hF⟩ := bindE hF
  refine wl_call rfl Try.call128 (C_impl_within w15 x1 0 (w64 ((List.length x0.2.2.2 : Int) - 1)) _ hu21) rfl ?_
  rintro _ w22 ⟨rfl, hb23⟩
  refine ⟨_, rfl, ?_⟩
  have hB24 := hB17.trans (hb23.mono hB17.size)
  have hS25 := hS18.below hb23
  refine wl_pick_t rfl rfl h20 rfl (wl_assign rfl rfl (WL.nil ?_))
  exact fun a ha => hJ13 (u21) _ hF hB24 (hS25.sel [] rfl) a (ha.sub ⟨rfl, trivial⟩)
 ·replace hF := ifN h20 hF
  refine wl_off rfl rfl rfl h20 (wl_off rfl rfl rfl h20 (wl_off rfl rfl rfl h20 (wl_off rfl rfl rfl h20 (wl_off rfl rfl rfl h20 (wl_off rfl rfl rfl h20 (wl_pick_f rfl rfl h20 rfl (wl_assign rfl rfl (WL.nil ?_))))))))
  exact fun a ha => hJ13 (false) _ hF hB17 (hS18.sel [] rfl) a (ha.sub ⟨rfl, trivial⟩)
theorem C_impl_WhereNow (w0 : World) (x0 : (((List (List (Int × Int))) × (List Int) × Int × Int) × Int × (List Int) × (List Int))) (v0_0 : Value) (h0_0 : rdS ty_63 (· < w0.heap.size) w0 v0_0 x0.1.1) (v0_1 : Value) (h0_1 : rdS ty_3 (· < w0.heap.size) w0 v0_1 x0.1.2.1) (v0_2 : Value) (h0_2 : rdS ty_3 (· < w0.heap.size) w0 v0_2 x0.2.2.1) (v0_3 : Value) (h0_3 : rdS ty_3 (· < w0.heap.size) w0 v0_3 x0.2.2.2) (x1 : Int) (r : ((Int × Int) × Bool)) (hF : F_impl_WhereNow x0 x1 = some r) :
  Calls Try.prog 101 [(.agg #[v0_0, v0_1, (.int .i64 x0.1.2.2.1), (.int .i64 x0.1.2.2.2), (.int .i64 x0.2.1), v0_2, v0_3]), (.int .i64 x1)].toArray w0 fun e w' => e = .returned (.tuple #[(.agg #[(.int .i64 r.1.1), (.int .i64 r.1.2)]), (.bool r.2)]) ∧ Below w0.heap.size w0 w' := by
 refine calls_mk' Try.func101 rfl Try.ntmps101 rfl rfl fun Q hQ hP => ?_
 have hB : Below w0.heap.size w0 w0 := Below.refl _ _
 have hS : Sep w0.heap.size w0 [] := Sep.nil _ _
 unfold F_impl_WhereNow at hF
 refine W.seq fun K1 hK1 => W.region (wl_box (cs := [v0_0, v0_1, (.int .i64 x0.1.2.2.1), (.int .i64 x0.1.2.2.2), (.int .i64 x0.2.1), v0_2, v0_3]) rfl rfl rfl hB hS ?_)
 intro b2 w3 hb4 hB5 hS6
 refine wl_alloc (cs := [(.int .i64 0), (.int .i64 0)]) tf_68 rfl rfl hB5 hS6 ?_
 intro b7 w8 hb9 hB10 hS11
 refine wl_assign rfl rfl (WL.nil (fun a ha => hK1 _ _ (W.seq fun K12 hK12 => (W.seq fun K13 hK13 => (W.region (wl_load_blk (i := 1) (vs := [v0_0, v0_1, (.int .i64 x0.1.2.2.1), (.int .i64 x0.1.2.2.2), (.int .i64 x0.2.1), v0_2, v0_3]) (v := (.agg #[v0_0, v0_1, (.int .i64 x0.1.2.2.1), (.int .i64 x0.1.2.2.2), (.int .i64 x0.2.1), v0_2, v0_3])) tf_102 rfl rfl hS11 rfl rfl rfl (wl_move rfl rfl ?_))))) a ha))
 obtain ⟨u14, hu14, hF⟩ := bindE hF
 refine wl_call rfl Try.call201 (C_impl_hasPerformer w8 x0 v0_0 (h0_0.ro hB10) v0_1 (h0_1.ro hB10) v0_2 (h0_2.ro hB10) v0_3 (h0_3.ro hB10) x1 _ hu14) rfl ?_
 rintro _ w15 ⟨rfl, hb16⟩
 refine ⟨_, rfl, ?_⟩
 have hB17 := hB10.trans (hb16.mono hB10.size)
 have hS18 := hS11.below hb16
 refine wl_not rfl rfl (WL.nil (fun a ha => hK13 _ _ (W.cond rfl (fun h20 => ?_) (fun h20 => ?_)) a ha))
 ·replace hF := ifP h20 hF
  refine W.seq fun K21 hK21 => W.region (wl_build (zs := [(.int .i64 0), (.int .i64 0)]) (out := [(.int .i64 0), (.int .i64 0)]) (vs := []) (css := []) tf_68 pl_68 rfl rfl rfl rfl rfl (wl_store_blk (i := 0) (vs := [(.int .i64 0), (.int .i64 0)]) (cs' := [(.int .i64 0), (.int .i64 0)]) tf_68 rfl rfl rfl rfl hB17 hS18 rfl rfl ⟨rfl, rfl, trivial⟩ rfl ?_))
  intro w22 hk25 hB23 hS24
  refine wl_assign rfl rfl (WL.nil (fun a ha => hK21 _ _ (W.ret ?_) a ha))
  have hr := Option.some.inj hF
  subst hr
  exact rets (vs := [(.agg #[(.int .i64 0), (.int .i64 0)]), (.bool false)]) hQ rfl ⟨rv_cell (i := 0) tf_68 rfl hS24 rfl rfl rfl, rv_tmp rfl, trivial⟩ ⟨rfl, hB23⟩
 ·replace hF := ifN h20 hF
  refine W.skip fun a ha => hK12 _ _ (W.seq fun K26 hK26 => (W.region (wl_load_blk (i := 1) (vs := [v0_0, v0_1, (.int .i64 x0.1.2.2.1), (.int .i64 x0.1.2.2.2), (.int .i64 x0.2.1), v0_2, v0_3]) (v := (.agg #[v0_0, v0_1, (.int .i64 x0.1.2.2.1), (.int .i64 x0.1.2.2.2), (.int .i64 x0.2.1), v0_2, v0_3])) tf_102 rfl rfl hS18 rfl rfl rfl (wl_move rfl rfl ?_)))) a ha
  obtain ⟨u27, hu27, hF⟩ := bindE hF
  refine wl_call rfl Try.call202 (C_impl_whereNow w15 x0 v0_0 (h0_0.ro hB17) v0_1 (h0_1.ro hB17) v0_2 (h0_2.ro hB17) v0_3 (h0_3.ro hB17) x1 _ hu27) rfl ?_
  rintro _ w28 ⟨rfl, hb29⟩
  refine ⟨_, rfl, ?_⟩
  have hB30 := hB17.trans (hb29.mono hB17.size)
  have hS31 := hS18.below hb29
  refine wl_store_blk (i := 0) (vs := [(.int .i64 u27.1), (.int .i64 u27.2)]) (cs' := [(.int .i64 u27.1), (.int .i64 u27.2)]) tf_68 rfl rfl rfl rfl hB30 hS31 rfl rfl ⟨rfl, rfl, trivial⟩ rfl ?_
  intro w33 hk36 hB34 hS35
  refine wl_assign rfl rfl (WL.nil (fun a ha => hK26 _ _ (W.ret ?_) a ha))
  have hr := Option.some.inj hF
  subst hr
  exact rets (vs := [(.agg #[(.int .i64 u27.1), (.int .i64 u27.2)]), (.bool true)]) hQ rfl ⟨rv_cell (i := 0) tf_68 rfl hS35 rfl rfl rfl, rv_tmp rfl, trivial⟩ ⟨rfl, hB34⟩
theorem C_impl_SheetOf (w0 : World) (x0 : (List (List (Int × Int)))) (v0_0 : Value) (h0_0 : rdS ty_63 (· < w0.heap.size) w0 v0_0 x0) (x1 : (List Int)) (v1_0 : Value) (h1_0 : rdS ty_3 (· < w0.heap.size) w0 v1_0 x1) (x2 : Int) (r : ((Int × (Int × Int) × (List (Int × (Int × Int)))) × Bool)) (hF : F_impl_SheetOf x0 x1 x2 = some r) :
  Calls Try.prog 102 [v0_0, v1_0, (.int .i64 x2)].toArray w0 fun e w' => ∃ (q0 : Value) (G0 : List Nat), e = .returned (.tuple #[(.agg #[(.int .i64 r.1.1), (.int .i64 r.1.2.1.1), (.int .i64 r.1.2.1.2), q0]), (.bool r.2)]) ∧ Below w0.heap.size w0 w' ∧ Sep w0.heap.size w' [R.own ty_169 G0 q0 r.1.2.2] := by
 refine calls_mk' Try.func102 rfl Try.ntmps102 rfl rfl fun Q hQ hP => ?_
 have hB : Below w0.heap.size w0 w0 := Below.refl _ _
 have hS : Sep w0.heap.size w0 [] := Sep.nil _ _
 unfold F_impl_SheetOf at hF
 refine W.seq fun K1 hK1 => W.region (wl_alloc (cs := [(.int .i64 0), (.int .i64 0), (.int .i64 0), (.slice none 0 0)]) tf_114 rfl rfl hB hS ?_)
 intro b2 w3 hb4 hB5 hS6
 refine wl_assign rfl rfl (WL.nil (fun a ha => hK1 _ _ (W.seq fun K7 hK7 => (W.seq fun K8 hK8 => ?_)) a ha))
 obtain ⟨k13, hk13, hF⟩ := jE1 hF
 have hJ14 : ∀ (y12 : Bool) (w9 : World) (_ : k13 y12 = some r) (_ : Below w0.heap.size w0 w9) (_ : Sep w0.heap.size w9 [R.blk b2 114 [(.int .i64 0), (.int .i64 0), (.int .i64 0), (.slice none 0 0)]]), ∀ a, St 27 [(0, v0_0), (1, v1_0), (2, (.int .i64 x2)), (6, (.pointer (some ⟨b2, 0, none⟩))), (21, (.bool y12))] a → K8 a w9 := by
  intro y12 w9 hF hB10 hS11
  subst hk13
  refine fun a ha => hK8 _ _ (W.cond rfl (fun h15 => ?_) (fun h15 => ?_)) a ha
  ·replace hF := ifP h15 hF
   refine W.seq fun K16 hK16 => W.region (wl_build (zs := [(.int .i64 0), (.int .i64 0), (.int .i64 0), (.slice none 0 0)]) (out := [(.int .i64 0), (.int .i64 0), (.int .i64 0), (.slice none 0 0)]) (vs := []) (css := []) tf_114 pl_114 rfl rfl rfl rfl rfl (wl_store_blk (i := 0) (vs := [(.int .i64 0), (.int .i64 0), (.int .i64 0), (.slice none 0 0)]) (cs' := [(.int .i64 0), (.int .i64 0), (.int .i64 0), (.slice none 0 0)]) tf_114 rfl rfl rfl rfl hB10 hS11 rfl rfl ⟨rfl, rfl, rfl, rfl, trivial⟩ rfl ?_))
   intro w17 hk20 hB18 hS19
   refine wl_assign rfl rfl (WL.nil (fun a ha => hK16 _ _ (W.ret ?_) a ha))
   have hS21 := hS19.push0 (r := R.own ty_169 [] (.slice none 0 0) []) rfl fun _ => .inl ⟨rfl, rfl, rfl⟩
   have hr := Option.some.inj hF
   subst hr
   exact rets (vs := [(.agg #[(.int .i64 0), (.int .i64 0), (.int .i64 0), (.slice none 0 0)]), (.bool false)]) hQ rfl ⟨rv_cell (i := 0) tf_114 rfl hS19 rfl rfl rfl, rv_tmp rfl, trivial⟩ ⟨(.slice none 0 0), [], rfl, hB18, hS21.sel [0] rfl⟩
  ·replace hF := ifN h15 hF
   refine W.skip fun a ha => hK7 _ _ (W.seq fun K22 hK22 => (W.region (wl_move rfl rfl (wl_move rfl rfl (wl_move rfl rfl ?_))))) a ha
   obtain ⟨u23, hu23, hF⟩ := bindE hF
   refine wl_call rfl Try.call185 (C_impl_sheetOf w9 x0 v0_0 (h0_0.ro hB10) x1 v1_0 (h1_0.ro hB10) x2 _ hu23) rfl ?_
   rintro _ w26 ⟨v24, F25, rfl, hb27, hM30⟩
   refine ⟨_, rfl, ?_⟩
   have hB28 := hB10.trans (hb27.mono hB10.size)
   have hS29 := hS11.join hb27 hM30 hB10.size
   refine wl_store_blk (i := 1) (vs := [(.int .i64 u23.1), (.int .i64 u23.2.1.1), (.int .i64 u23.2.1.2), v24]) (cs' := [(.int .i64 u23.1), (.int .i64 u23.2.1.1), (.int .i64 u23.2.1.2), v24]) tf_114 rfl rfl rfl rfl hB28 hS29 rfl rfl ⟨rfl, rfl, rfl, (hS29.own_ro (i := 0) rfl).one, trivial⟩ rfl ?_
   intro w31 hk34 hB32 hS33
   refine wl_assign rfl rfl (WL.nil (fun a ha => hK22 _ _ (W.ret ?_) a ha))
   have hr := Option.some.inj hF
   subst hr
   exact rets (vs := [(.agg #[(.int .i64 u23.1), (.int .i64 u23.2.1.1), (.int .i64 u23.2.1.2), v24]), (.bool true)]) hQ rfl ⟨rv_cell (i := 1) tf_114 rfl hS33 rfl rfl rfl, rv_tmp rfl, trivial⟩ ⟨v24, F25, rfl, hB32, hS33.sel [0] rfl⟩
 refine W.region (wl_move rfl rfl (wl_move rfl rfl ?_))
 obtain ⟨u35, hu35, hF⟩ := bindE hF
 refine wl_call rfl Try.call175 (C_impl_areCharts w3 x0 v0_0 (h0_0.ro hB5) x1 v1_0 (h1_0.ro hB5) _ hu35) rfl ?_
 rintro _ w36 ⟨rfl, hb37⟩
 refine ⟨_, rfl, ?_⟩
 have hB38 := hB5.trans (hb37.mono hB5.size)
 have hS39 := hS6.below hb37
 refine wl_not rfl rfl (wl_move rfl rfl ?_)
 rcases bE (!u35) with h41 | h41
 ·replace hF := ifP h41 hF
  refine wl_off rfl rfl rfl h41 (wl_off rfl rfl rfl h41 (wl_off rfl rfl rfl h41 (wl_off rfl rfl rfl h41 (wl_off rfl rfl rfl h41 (wl_off rfl rfl rfl h41 (wl_off rfl rfl rfl h41 (wl_off rfl rfl rfl h41 (wl_pick_t rfl rfl h41 rfl (WL.nil ?_)))))))))
  exact fun a ha => hJ14 (true) _ hF hB38 (hS39.sel [0] rfl) a (ha.sub ⟨rfl, rfl, rfl, rfl, rfl, trivial⟩)
 ·replace hF := ifN h41 hF
  refine wl_on rfl rfl h41 (wl_move rfl rfl (wl_on rfl rfl h41 (wl_move rfl rfl (wl_on rfl rfl h41 ?_))))
  obtain ⟨u42, hu42, hF⟩ := bindE hF
  refine wl_index (e := ty_63) Try.underlying51 rfl rfl rfl h0_0 hu42 ?_
  rintro p43 _ ⟨v45, rfl, hv46⟩ hp44
  refine wl_on rfl rfl h41 (wl_load_p (vs := [v45]) (v := v45) tf_63 rfl rfl (hp44.ro hB38) rfl rfl (wl_on rfl rfl h41 (wl_lenr (e := ty_68) (l := u42) Try.underlying63 rfl rfl hv46 (wl_on rfl rfl h41 (wl_sub rfl rfl rfl (wl_on rfl rfl h41 ?_))))))
  obtain ⟨u47, hu47, hF⟩ := bindE hF
  refine wl_call rfl Try.call128 (C_impl_within w36 x2 0 (w64 ((List.length u42 : Int) - 1)) _ hu47) rfl ?_
  rintro _ w48 ⟨rfl, hb49⟩
  refine ⟨_, rfl, ?_⟩
  have hB50 := hB38.trans (hb49.mono hB38.size)
  have hS51 := hS39.below hb49
  refine wl_on rfl rfl h41 (wl_not rfl rfl (wl_pick_f rfl rfl h41 rfl (WL.nil ?_)))
  exact fun a ha => hJ14 ((!u47)) _ hF hB50 (hS51.sel [0] rfl) a (ha.sub ⟨rfl, rfl, rfl, rfl, rfl, trivial⟩)
theorem C_spec_DrawHaltPerformer (w0 : World) (x0 : (List Int)) (v0_0 : Value) (h0_0 : rdS ty_5 (· < w0.heap.size) w0 v0_0 x0) (r : ((((List (List (Int × Int))) × (List Int) × Int × Int) × Int × (List Int) × (List Int)) × Int)) (hF : F_spec_DrawHaltPerformer x0 = some r) :
  Calls Try.prog 205 [v0_0].toArray w0 fun e w' => ∃ (q0 : Value) (G0 : List Nat) (q1 : Value) (G1 : List Nat) (q2 : Value) (G2 : List Nat) (q3 : Value) (G3 : List Nat), e = .returned (.tuple #[(.agg #[q0, q1, (.int .i64 r.1.1.2.2.1), (.int .i64 r.1.1.2.2.2), (.int .i64 r.1.2.1), q2, q3]), (.int .i64 r.2)]) ∧ Below w0.heap.size w0 w' ∧ Sep w0.heap.size w' [R.own ty_63 G0 q0 r.1.1.1, R.own ty_3 G1 q1 r.1.1.2.1, R.own ty_3 G2 q2 r.1.2.2.1, R.own ty_3 G3 q3 r.1.2.2.2] := by
 refine calls_mk' Try.func205 rfl Try.ntmps205 rfl rfl fun Q hQ hP => ?_
 have hB : Below w0.heap.size w0 w0 := Below.refl _ _
 have hS : Sep w0.heap.size w0 [] := Sep.nil _ _
 unfold F_spec_DrawHaltPerformer at hF
 refine W.seq fun K1 hK1 => W.region (wl_alloc (cs := [(.slice none 0 0), (.slice none 0 0), (.int .i64 0), (.int .i64 0), (.int .i64 0), (.slice none 0 0), (.slice none 0 0)]) tf_102 rfl rfl hB hS ?_)
 intro b2 w3 hb4 hB5 hS6
 refine wl_assign rfl rfl (WL.nil (fun a ha => hK1 _ _ (W.seq fun K7 hK7 => (W.region (wl_move rfl rfl (wl_build (zs := [(.slice none 0 0), (.int .i64 0), (.int .u64 0)]) (out := [v0_0, (.int .i64 0), (.int .u64 0)]) (vs := [v0_0]) (css := [[v0_0]]) tf_131 pl_131 rfl rfl (by simp only [List.map_cons, List.map_nil, cells_one ((h0_0.ro hB5).one)] <;> rfl) rfl rfl (wl_box (cs := [v0_0, (.int .i64 0), (.int .u64 0)]) rfl rfl rfl hB5 hS6 ?_))))) a ha))
 intro b8 w9 hb10 hB11 hS12
 refine wl_assign rfl rfl (WL.nil (fun a ha => hK7 _ _ (W.seq fun K13 hK13 => (W.region (wl_move rfl rfl ?_))) a ha))
 obtain ⟨u14, hu14, hF⟩ := bindE hF
 refine wl_call rfl Try.call245 (C_spec_l1Cur__march__mut__box w9 (x0, 0, 0) b8 v0_0 (h0_0.oldo hB11 (hS12.sel [0] rfl)) (hS12.sel [0] rfl).base0 _ hu14) rfl ?_
 rintro _ w15 ⟨v20, F21, v22, F23, v24, F25, v26, F27, rfl, hE16, hM17⟩
 refine ⟨_, rfl, ?_⟩
 have hB18 := hS12.takeB [0] rfl (M := [R.blk b8 131 [v0_0, (.int .i64 0), (.int .u64 0)]]) rfl hB11 hE16 hM17
 have hS19 : Sep w0.heap.size w15 [R.blk b8 131 [v0_0, (.int .i64 u14.2.2.1), (.int .u64 u14.2.2.2)], R.own ty_63 F21 v20 u14.1.1.1, R.own ty_3 F23 v22 u14.1.1.2.1, R.own ty_3 F25 v24 u14.1.2.2.1, R.own ty_3 F27 v26 u14.1.2.2.2, R.blk b2 102 [(.slice none 0 0), (.slice none 0 0), (.int .i64 0), (.int .i64 0), (.int .i64 0), (.slice none 0 0), (.slice none 0 0)]] := hS12.take [0] [1] rfl (M := [R.blk b8 131 [v0_0, (.int .i64 0), (.int .u64 0)]]) rfl hM17 hB11.size
 refine wl_alloc (cs := [(.slice none 0 0), (.slice none 0 0), (.int .i64 0), (.int .i64 0), (.int .i64 0), (.slice none 0 0), (.slice none 0 0)]) tf_102 rfl rfl hB18 hS19 ?_
 intro b28 w29 hb30 hB31 hS32
 refine wl_store_blk (i := 0) (vs := [v20, v22, (.int .i64 u14.1.1.2.2.1), (.int .i64 u14.1.1.2.2.2), (.int .i64 u14.1.2.1), v24, v26]) (cs' := [v20, v22, (.int .i64 u14.1.1.2.2.1), (.int .i64 u14.1.1.2.2.2), (.int .i64 u14.1.2.1), v24, v26]) tf_102 rfl rfl rfl rfl hB31 hS32 rfl rfl ⟨(hS32.own_ro (i := 2) rfl).one, (hS32.own_ro (i := 3) rfl).one, rfl, rfl, rfl, (hS32.own_ro (i := 4) rfl).one, (hS32.own_ro (i := 5) rfl).one, trivial⟩ rfl ?_
 intro w33 hk36 hB34 hS35
 refine WL.nil fun a ha => hK13 _ _ (W.seq fun K37 hK37 => (W.regionH mixed_ ([b8] ++ [b2]) hB34 hS35 ?_)) a ha
 intro w38 hb39 hB40 hS41
 have hSW42 := KeepX.refl w38 ([b8] ++ [b2])
 refine WH.takex (i := 0) rfl (by kernel_rfl) (by kernel_rfl) (by kernel_rfl) hP hSW42 (pr_load_blk (i := 0) (vs := [v20, v22, (.int .i64 u14.1.1.2.2.1), (.int .i64 u14.1.1.2.2.2), (.int .i64 u14.1.2.1), v24, v26]) (v := (.agg #[v20, v22, (.int .i64 u14.1.1.2.2.1), (.int .i64 u14.1.1.2.2.2), (.int .i64 u14.1.2.1), v24, v26])) tf_102 rfl rfl hS41 rfl rfl rfl (fun hb => (List.mem_append.1 hb).elim (hS41.disj (i := 0) (j := 1) rfl rfl rfl b28 (by simp [R.blk])) (hS41.disj (i := 0) (j := 6) rfl rfl rfl b28 (by simp [R.blk]))) (WH.takex (i := 1) rfl (by kernel_rfl) (by kernel_rfl) (by kernel_rfl) hP hSW42 (pr_move rfl rfl (WH.takex (i := 2) rfl (by kernel_rfl) (by kernel_rfl) (by kernel_rfl) hP hSW42 (pr_field (o := 6) (off' := 6) ff_102_3 rfl rfl rfl (WH.takex (i := 3) rfl (by kernel_rfl) (by kernel_rfl) (by kernel_rfl) hP hSW42 ?_))))))
 refine pr_load_blk (i := 0) (vs := [v26]) (v := v26) tf_29 rfl rfl hS41 rfl rfl rfl (fun hb => (List.mem_append.1 hb).elim (hS41.disj (i := 0) (j := 1) rfl rfl rfl b28 (by simp [R.blk])) (hS41.disj (i := 0) (j := 6) rfl rfl rfl b28 (by simp [R.blk]))) (WH.takex (i := 4) rfl (by kernel_rfl) (by kernel_rfl) (by kernel_rfl) hP hSW42 (pr_lenr (e := ty_3) (l := u14.1.2.2.2) Try.underlying29 rfl rfl (hS41.own_ro (i := 5) rfl) (WH.takex (i := 5) rfl (by kernel_rfl) (by kernel_rfl) (by kernel_rfl) hP hSW42 (pr_move rfl rfl (WH.takex (i := 10) rfl (by kernel_rfl) (by kernel_rfl) (by kernel_rfl) hP hSW42 (pr_move rfl rfl (WH.one (i := 6) (by kernel_rfl) rfl ?_)))))))
 obtain ⟨u43, hu43, hF⟩ := bindE hF
 refine wl_call rfl Try.call132 (C_spec_l1Cur__pick__mut__box w38 (x0, u14.2.2.1, u14.2.2.2) b8 v0_0 (h0_0.oldo hB40 (hS41.sel [1] rfl)) 16 (hS41.sel [1] rfl).base0 _ hu43) rfl ?_
 rintro _ w44 ⟨rfl, hE45, hM46⟩
 refine ⟨_, rfl, ?_⟩
 have hB47 := hS41.takeB [1] rfl (M := [R.blk b8 131 [v0_0, (.int .i64 u14.2.2.1), (.int .u64 u14.2.2.2)]]) rfl hB40 hE45 hM46
 have hS48 : Sep w0.heap.size w44 [R.blk b8 131 [v0_0, (.int .i64 u43.2.2.1), (.int .u64 u43.2.2.2)], R.blk b28 102 [v20, v22, (.int .i64 u14.1.1.2.2.1), (.int .i64 u14.1.1.2.2.2), (.int .i64 u14.1.2.1), v24, v26], R.own ty_63 F21 v20 u14.1.1.1, R.own ty_3 F23 v22 u14.1.1.2.1, R.own ty_3 F25 v24 u14.1.2.2.1, R.own ty_3 F27 v26 u14.1.2.2.2, R.blk b2 102 [(.slice none 0 0), (.slice none 0 0), (.int .i64 0), (.int .i64 0), (.int .i64 0), (.slice none 0 0), (.slice none 0 0)]] := hS41.take [1] [0, 2, 3, 4, 5, 6] rfl (M := [R.blk b8 131 [v0_0, (.int .i64 u14.2.2.1), (.int .u64 u14.2.2.2)]]) rfl hM46 hB40.size
 have hk49 := box_kept hM46
 have hSW50 := hSW42.wr' hk49.1 hk49.2.1 (fun _ _ h => List.mem_append_left _ (h))
 have hbs51 : ∀ b, b < w38.heap.size → b ∈ [b8] → b ∈ ([b8] ++ [b2]) := fun b hlt hb => (hk49.2.2 b hb).elim ((fun _ _ h => List.mem_append_left _ (h)) b hlt) (fun h => absurd hlt (Nat.not_lt.2 (Nat.le_trans hSW42.size h)))
 refine WL.nil (WH.ret hSW50 (WH.takex (i := 7) rfl (by kernel_rfl) (by kernel_rfl) (by kernel_rfl) hP hSW50 (pr_quo rfl rfl rfl (by decide) (WH.takex (i := 8) rfl (by kernel_rfl) (by kernel_rfl) (by kernel_rfl) hP hSW50 (pr_add rfl rfl rfl (WH.one (i := 9) (by kernel_rfl) rfl ?_))))))
 obtain ⟨u52, hu52, hF⟩ := bindE hF
 refine wl_call rfl Try.call132 (C_spec_l1Cur__pick__mut__box w44 (x0, u43.2.2.1, u43.2.2.2) b8 v0_0 (h0_0.oldo hB47 (hS48.sel [0] rfl)) (w64 ((List.length u14.1.2.2.2 : Int) + (w64 (Int.tdiv u43.1 15)))) (hS48.sel [0] rfl).base0 _ hu52) rfl ?_
 rintro _ w53 ⟨rfl, hE54, hM55⟩
 refine ⟨_, rfl, ?_⟩
 have hB56 := hS48.takeB [0] rfl (M := [R.blk b8 131 [v0_0, (.int .i64 u43.2.2.1), (.int .u64 u43.2.2.2)]]) rfl hB47 hE54 hM55
 have hS57 : Sep w0.heap.size w53 [R.blk b8 131 [v0_0, (.int .i64 u52.2.2.1), (.int .u64 u52.2.2.2)], R.blk b28 102 [v20, v22, (.int .i64 u14.1.1.2.2.1), (.int .i64 u14.1.1.2.2.2), (.int .i64 u14.1.2.1), v24, v26], R.own ty_63 F21 v20 u14.1.1.1, R.own ty_3 F23 v22 u14.1.1.2.1, R.own ty_3 F25 v24 u14.1.2.2.1, R.own ty_3 F27 v26 u14.1.2.2.2, R.blk b2 102 [(.slice none 0 0), (.slice none 0 0), (.int .i64 0), (.int .i64 0), (.int .i64 0), (.slice none 0 0), (.slice none 0 0)]] := hS48.take [0] [1, 2, 3, 4, 5, 6] rfl (M := [R.blk b8 131 [v0_0, (.int .i64 u43.2.2.1), (.int .u64 u43.2.2.2)]]) rfl hM55 hB47.size
 have hk58 := box_kept hM55
 have hSW59 := hSW50.wr' hk58.1 hk58.2.1 (hbs51)
 have hbs60 : ∀ b, b < w38.heap.size → b ∈ [b8] → b ∈ ([b8] ++ [b2]) := fun b hlt hb => (hk58.2.2 b hb).elim ((hbs51) b hlt) (fun h => absurd hlt (Nat.not_lt.2 (Nat.le_trans hSW50.size h)))
 refine WL.nil (WH.ret hSW59 (WH.one (i := 11) (by kernel_rfl) rfl ?_))
 obtain ⟨u61, hu61, hF⟩ := bindE hF
 refine wl_call rfl Try.call132 (C_spec_l1Cur__pick__mut__box w53 (x0, u52.2.2.1, u52.2.2.2) b8 v0_0 (h0_0.oldo hB56 (hS57.sel [0] rfl)) 24 (hS57.sel [0] rfl).base0 _ hu61) rfl ?_
 rintro _ w62 ⟨rfl, hE63, hM64⟩
 refine ⟨_, rfl, ?_⟩
 have hB65 := hS57.takeB [0] rfl (M := [R.blk b8 131 [v0_0, (.int .i64 u52.2.2.1), (.int .u64 u52.2.2.2)]]) rfl hB56 hE63 hM64
 have hS66 : Sep w0.heap.size w62 [R.blk b8 131 [v0_0, (.int .i64 u61.2.2.1), (.int .u64 u61.2.2.2)], R.blk b28 102 [v20, v22, (.int .i64 u14.1.1.2.2.1), (.int .i64 u14.1.1.2.2.2), (.int .i64 u14.1.2.1), v24, v26], R.own ty_63 F21 v20 u14.1.1.1, R.own ty_3 F23 v22 u14.1.1.2.1, R.own ty_3 F25 v24 u14.1.2.2.1, R.own ty_3 F27 v26 u14.1.2.2.2, R.blk b2 102 [(.slice none 0 0), (.slice none 0 0), (.int .i64 0), (.int .i64 0), (.int .i64 0), (.slice none 0 0), (.slice none 0 0)]] := hS57.take [0] [1, 2, 3, 4, 5, 6] rfl (M := [R.blk b8 131 [v0_0, (.int .i64 u52.2.2.1), (.int .u64 u52.2.2.2)]]) rfl hM64 hB56.size
 have hk67 := box_kept hM64
 have hSW68 := hSW59.wr' hk67.1 hk67.2.1 (hbs60)
 have hbs69 : ∀ b, b < w38.heap.size → b ∈ [b8] → b ∈ ([b8] ++ [b2]) := fun b hlt hb => (hk67.2.2 b hb).elim ((hbs60) b hlt) (fun h => absurd hlt (Nat.not_lt.2 (Nat.le_trans hSW59.size h)))
 refine WL.nil (WH.ret hSW68 (WH.takex (i := 12) rfl (by kernel_rfl) (by kernel_rfl) (by kernel_rfl) hP hSW68 (pr_quo rfl rfl rfl (by decide) (WH.takex (i := 13) rfl (by kernel_rfl) (by kernel_rfl) (by kernel_rfl) hP hSW68 (pr_sub rfl rfl rfl (WH.one (i := 14) (by kernel_rfl) rfl (wl_store_blk (i := 6) (vs := [v20, v22, (.int .i64 u14.1.1.2.2.1), (.int .i64 u14.1.1.2.2.2), (.int .i64 u14.1.2.1), v24, v26]) (cs' := [v20, v22, (.int .i64 u14.1.1.2.2.1), (.int .i64 u14.1.1.2.2.2), (.int .i64 u14.1.2.1), v24, v26]) tf_102 rfl rfl rfl rfl hB65 hS66 rfl rfl ⟨(hS66.own_ro (i := 2) rfl).one, (hS66.own_ro (i := 3) rfl).one, rfl, rfl, rfl, (hS66.own_ro (i := 4) rfl).one, (hS66.own_ro (i := 5) rfl).one, trivial⟩ rfl ?_)))))))
 intro w70 hk73 hB71 hS72
 have hSW74 := hSW68.wr' hk73.1 hk73.2.1 (fun _ _ h => List.mem_append_right _ h)
 have hbs75 : ∀ b, b < w38.heap.size → b ∈ [b2] → b ∈ ([b8] ++ [b2]) := fun b hlt hb => (hk73.2.2 b hb).elim ((fun _ _ h => List.mem_append_right _ h) b hlt) (fun h => absurd hlt (Nat.not_lt.2 (Nat.le_trans hSW68.size h)))
 refine WL.nil (WH.ret hSW74 (WH.takex (i := 15) rfl (by kernel_rfl) (by kernel_rfl) (by kernel_rfl) hP hSW74 (pr_assign rfl rfl (WH.done (by kernel_rfl) (fun a ha => hK37 _ _ (W.ret ?_) a ha)))))
 have hr := Option.some.inj hF
 subst hr
 exact rets (vs := [(.agg #[v20, v22, (.int .i64 u14.1.1.2.2.1), (.int .i64 u14.1.1.2.2.2), (.int .i64 u14.1.2.1), v24, v26]), (.int .i64 (w64 (u52.1 - (w64 (Int.tdiv u61.1 23)))))]) hQ rfl ⟨rv_cell (i := 6) tf_102 rfl hS72 rfl rfl rfl, rv_tmp rfl, trivial⟩ ⟨v20, F21, v22, F23, v24, F25, v26, F27, rfl, hB71, hS72.sel [2, 3, 4, 5] rfl⟩
theorem C_spec_DrawWhereNow (w0 : World) (x0 : (List Int)) (v0_0 : Value) (h0_0 : rdS ty_5 (· < w0.heap.size) w0 v0_0 x0) (r : ((((List (List (Int × Int))) × (List Int) × Int × Int) × Int × (List Int) × (List Int)) × Int)) (hF : F_spec_DrawWhereNow x0 = some r) :
  Calls Try.prog 104 [v0_0].toArray w0 fun e w' => ∃ (q0 : Value) (G0 : List Nat) (q1 : Value) (G1 : List Nat) (q2 : Value) (G2 : List Nat) (q3 : Value) (G3 : List Nat), e = .returned (.tuple #[(.agg #[q0, q1, (.int .i64 r.1.1.2.2.1), (.int .i64 r.1.1.2.2.2), (.int .i64 r.1.2.1), q2, q3]), (.int .i64 r.2)]) ∧ Below w0.heap.size w0 w' ∧ Sep w0.heap.size w' [R.own ty_63 G0 q0 r.1.1.1, R.own ty_3 G1 q1 r.1.1.2.1, R.own ty_3 G2 q2 r.1.2.2.1, R.own ty_3 G3 q3 r.1.2.2.2] := by
 refine calls_mk' Try.func104 rfl Try.ntmps104 rfl rfl fun Q hQ hP => ?_
 have hB : Below w0.heap.size w0 w0 := Below.refl _ _
 have hS : Sep w0.heap.size w0 [] := Sep.nil _ _
 unfold F_spec_DrawWhereNow at hF
 refine W.seq fun K1 hK1 => W.region (wl_alloc (cs := [(.slice none 0 0), (.slice none 0 0), (.int .i64 0), (.int .i64 0), (.int .i64 0), (.slice none 0 0), (.slice none 0 0)]) tf_102 rfl rfl hB hS ?_)
 intro b2 w3 hb4 hB5 hS6
 refine wl_assign rfl rfl (WL.nil (fun a ha => hK1 _ _ (W.seq fun K7 hK7 => (W.region (wl_move rfl rfl ?_))) a ha))
 obtain ⟨u8, hu8, hF⟩ := bindE hF
 refine wl_call rfl Try.call205 (C_spec_DrawHaltPerformer w3 x0 v0_0 (h0_0.ro hB5) _ hu8) rfl ?_
 rintro _ w17 ⟨v9, F10, v11, F12, v13, F14, v15, F16, rfl, hb18, hM21⟩
 refine ⟨_, rfl, ?_⟩
 have hB19 := hB5.trans (hb18.mono hB5.size)
 have hS20 := hS6.join hb18 hM21 hB5.size
 refine wl_extract rfl rfl rfl (wl_extract rfl rfl rfl (wl_store_blk (i := 4) (vs := [v9, v11, (.int .i64 u8.1.1.2.2.1), (.int .i64 u8.1.1.2.2.2), (.int .i64 u8.1.2.1), v13, v15]) (cs' := [v9, v11, (.int .i64 u8.1.1.2.2.1), (.int .i64 u8.1.1.2.2.2), (.int .i64 u8.1.2.1), v13, v15]) tf_102 rfl rfl rfl rfl hB19 hS20 rfl rfl ⟨(hS20.own_ro (i := 0) rfl).one, (hS20.own_ro (i := 1) rfl).one, rfl, rfl, rfl, (hS20.own_ro (i := 2) rfl).one, (hS20.own_ro (i := 3) rfl).one, trivial⟩ rfl ?_))
 intro w22 hk25 hB23 hS24
 refine wl_assign rfl rfl (WL.nil (fun a ha => hK7 _ _ (W.ret ?_) a ha))
 have hr := Option.some.inj hF
 subst hr
 exact rets (vs := [(.agg #[v9, v11, (.int .i64 u8.1.1.2.2.1), (.int .i64 u8.1.1.2.2.2), (.int .i64 u8.1.2.1), v13, v15]), (.int .i64 u8.2)]) hQ rfl ⟨rv_cell (i := 4) tf_102 rfl hS24 rfl rfl rfl, rv_tmp rfl, trivial⟩ ⟨v9, F10, v11, F12, v13, F14, v15, F16, rfl, hB23, hS24.sel [0, 1, 2, 3] rfl⟩
theorem C_spec_mnHas (w0 : World) (x0 : (((List (List (Int × Int))) × (List Int) × Int × Int) × Int × (List Int) × (List Int))) (v0_0 : Value) (h0_0 : rdS ty_63 (· < w0.heap.size) w0 v0_0 x0.1.1) (v0_1 : Value) (h0_1 : rdS ty_3 (· < w0.heap.size) w0 v0_1 x0.1.2.1) (v0_2 : Value) (h0_2 : rdS ty_3 (· < w0.heap.size) w0 v0_2 x0.2.2.1) (v0_3 : Value) (h0_3 : rdS ty_3 (· < w0.heap.size) w0 v0_3 x0.2.2.2) (x1 : Int) (r : Bool) (hF : F_spec_mnHas x0 x1 = some r) :
  Calls Try.prog 206 [(.agg #[v0_0, v0_1, (.int .i64 x0.1.2.2.1), (.int .i64 x0.1.2.2.2), (.int .i64 x0.2.1), v0_2, v0_3]), (.int .i64 x1)].toArray w0 fun e w' => e = .returned (.bool r) ∧ Below w0.heap.size w0 w' := by
 refine calls_mk' Try.func206 rfl Try.ntmps206 rfl rfl fun Q hQ hP => ?_
 have hB : Below w0.heap.size w0 w0 := Below.refl _ _
 have hS : Sep w0.heap.size w0 [] := Sep.nil _ _
 unfold F_spec_mnHas at hF
 refine W.seq fun K1 hK1 => W.region (wl_box (cs := [v0_0, v0_1, (.int .i64 x0.1.2.2.1), (.int .i64 x0.1.2.2.2), (.int .i64 x0.2.1), v0_2, v0_3]) rfl rfl rfl hB hS ?_)
 intro b2 w3 hb4 hB5 hS6
 refine wl_assign rfl rfl (WL.nil (fun a ha => hK1 _ _ (W.seq fun K7 hK7 => ?_) a ha))
 obtain ⟨k12, hk12, hF⟩ := jE1 hF
 have hJ13 : ∀ (y11 : Bool) (w8 : World) (_ : k12 y11 = some r) (_ : Below w0.heap.size w0 w8) (_ : Sep w0.heap.size w8 []), ∀ a, St 15 [(4, (.bool y11))] a → K7 a w8 := by
  intro y11 w8 hF hB9 hS10
  subst hk12
  refine fun a ha => hK7 _ _ (W.ret ?_) a ha
  have hr := Option.some.inj hF
  subst hr
  exact rets (vs := [(.bool y11)]) hQ rfl ⟨rv_tmp rfl, trivial⟩ ⟨rfl, hB9⟩
 refine W.region (wl_load_blk (i := 0) (vs := [v0_0, v0_1, (.int .i64 x0.1.2.2.1), (.int .i64 x0.1.2.2.2), (.int .i64 x0.2.1), v0_2, v0_3]) (v := (.agg #[v0_0, v0_1, (.int .i64 x0.1.2.2.1), (.int .i64 x0.1.2.2.2), (.int .i64 x0.2.1), v0_2, v0_3])) tf_102 rfl rfl hS6 rfl rfl rfl ?_)
 obtain ⟨u14, hu14, hF⟩ := bindE hF
 refine wl_call rfl Try.call195 (C_spec_mnGood w3 x0 v0_0 (h0_0.ro hB5) v0_1 (h0_1.ro hB5) v0_2 (h0_2.ro hB5) v0_3 (h0_3.ro hB5) _ hu14) rfl ?_
 rintro _ w15 ⟨rfl, hb16⟩
 refine ⟨_, rfl, ?_⟩
 have hB17 := hB5.trans (hb16.mono hB5.size)
 have hS18 := hS6.below hb16
 refine wl_move rfl rfl ?_
 rcases bE u14 with h20 | h20
 ·replace hF := ifP h20 hF
  refine wl_on rfl rfl h20 (wl_move rfl rfl (wl_on rfl rfl h20 (wl_field (o := 6) (off' := 6) ff_102_3 rfl rfl rfl (wl_on rfl rfl h20 (wl_load_blk (i := 0) (vs := [v0_3]) (v := v0_3) tf_29 rfl rfl hS18 rfl rfl rfl (wl_on rfl rfl h20 (wl_lenr (e := ty_3) (l := x0.2.2.2) Try.underlying29 rfl rfl h0_3 (wl_on rfl rfl h20 (wl_sub rfl rfl rfl (wl_on rfl rfl h20 ?_))))))))))
  obtain ⟨u21, hu21, hF⟩ := bindE hF
  refine wl_call rfl Try.call138 (C_spec_l1In w15 x1 0 (w64 ((List.length x0.2.2.2 : Int) - 1)) _ hu21) rfl ?_
  rintro _ w22 ⟨rfl, hb23⟩
  refine ⟨_, rfl, ?_⟩
  have hB24 := hB17.trans (hb23.mono hB17.size)
  have hS25 := hS18.below hb23
  refine wl_pick_t rfl rfl h20 rfl (wl_assign rfl rfl (WL.nil ?_))
  exact fun a ha => hJ13 (u21) _ hF hB24 (hS25.sel [] rfl) a (ha.sub ⟨rfl, trivial⟩)
 ·replace hF := ifN h20 hF
  refine wl_off rfl rfl rfl h20 (wl_off rfl rfl rfl h20 (wl_off rfl rfl rfl h20 (wl_off rfl rfl rfl h20 (wl_off rfl rfl rfl h20 (wl_off rfl rfl rfl h20 (wl_pick_f rfl rfl h20 rfl (wl_assign rfl rfl (WL.nil ?_))))))))
  exact fun a ha => hJ13 (false) _ hF hB17 (hS18.sel [] rfl) a (ha.sub ⟨rfl, trivial⟩)
theorem C_spec_WhereNow (w0 : World) (x0 : (((List (List (Int × Int))) × (List Int) × Int × Int) × Int × (List Int) × (List Int))) (v0_0 : Value) (h0_0 : rdS ty_63 (· < w0.heap.size) w0 v0_0 x0.1.1) (v0_1 : Value) (h0_1 : rdS ty_3 (· < w0.heap.size) w0 v0_1 x0.1.2.1) (v0_2 : Value) (h0_2 : rdS ty_3 (· < w0.heap.size) w0 v0_2 x0.2.2.1) (v0_3 : Value) (h0_3 : rdS ty_3 (· < w0.heap.size) w0 v0_3 x0.2.2.2) (x1 : Int) (r : ((Int × Int) × Bool)) (hF : F_spec_WhereNow x0 x1 = some r) :
  Calls Try.prog 105 [(.agg #[v0_0, v0_1, (.int .i64 x0.1.2.2.1), (.int .i64 x0.1.2.2.2), (.int .i64 x0.2.1), v0_2, v0_3]), (.int .i64 x1)].toArray w0 fun e w' => e = .returned (.tuple #[(.agg #[(.int .i64 r.1.1), (.int .i64 r.1.2)]), (.bool r.2)]) ∧ Below w0.heap.size w0 w' := by
 refine calls_mk' Try.func105 rfl Try.ntmps105 rfl rfl fun Q hQ hP => ?_
 have hB : Below w0.heap.size w0 w0 := Below.refl _ _
 have hS : Sep w0.heap.size w0 [] := Sep.nil _ _
 unfold F_spec_WhereNow at hF
 refine W.seq fun K1 hK1 => W.region (wl_box (cs := [v0_0, v0_1, (.int .i64 x0.1.2.2.1), (.int .i64 x0.1.2.2.2), (.int .i64 x0.2.1), v0_2, v0_3]) rfl rfl rfl hB hS ?_)
 intro b2 w3 hb4 hB5 hS6
 refine wl_alloc (cs := [(.int .i64 0), (.int .i64 0)]) tf_68 rfl rfl hB5 hS6 ?_
 intro b7 w8 hb9 hB10 hS11
 refine wl_assign rfl rfl (WL.nil (fun a ha => hK1 _ _ (W.seq fun K12 hK12 => (W.seq fun K13 hK13 => (W.region (wl_load_blk (i := 1) (vs := [v0_0, v0_1, (.int .i64 x0.1.2.2.1), (.int .i64 x0.1.2.2.2), (.int .i64 x0.2.1), v0_2, v0_3]) (v := (.agg #[v0_0, v0_1, (.int .i64 x0.1.2.2.1), (.int .i64 x0.1.2.2.2), (.int .i64 x0.2.1), v0_2, v0_3])) tf_102 rfl rfl hS11 rfl rfl rfl (wl_move rfl rfl ?_))))) a ha))
 obtain ⟨u14, hu14, hF⟩ := bindE hF
 refine wl_call rfl Try.call206 (C_spec_mnHas w8 x0 v0_0 (h0_0.ro hB10) v0_1 (h0_1.ro hB10) v0_2 (h0_2.ro hB10) v0_3 (h0_3.ro hB10) x1 _ hu14) rfl ?_
 rintro _ w15 ⟨rfl, hb16⟩
 refine ⟨_, rfl, ?_⟩
 have hB17 := hB10.trans (hb16.mono hB10.size)
 have hS18 := hS11.below hb16
 refine wl_not rfl rfl (WL.nil (fun a ha => hK13 _ _ (W.cond rfl (fun h20 => ?_) (fun h20 => ?_)) a ha))
 ·replace hF := ifP h20 hF
  refine W.seq fun K21 hK21 => W.region (wl_build (zs := [(.int .i64 0), (.int .i64 0)]) (out := [(.int .i64 0), (.int .i64 0)]) (vs := []) (css := []) tf_68 pl_68 rfl rfl rfl rfl rfl (wl_store_blk (i := 0) (vs := [(.int .i64 0), (.int .i64 0)]) (cs' := [(.int .i64 0), (.int .i64 0)]) tf_68 rfl rfl rfl rfl hB17 hS18 rfl rfl ⟨rfl, rfl, trivial⟩ rfl ?_))
  intro w22 hk25 hB23 hS24
  refine wl_assign rfl rfl (WL.nil (fun a ha => hK21 _ _ (W.ret ?_) a ha))
  have hr := Option.some.inj hF
  subst hr
  exact rets (vs := [(.agg #[(.int .i64 0), (.int .i64 0)]), (.bool false)]) hQ rfl ⟨rv_cell (i := 0) tf_68 rfl hS24 rfl rfl rfl, rv_tmp rfl, trivial⟩ ⟨rfl, hB23⟩
 ·replace hF := ifN h20 hF
  refine W.skip fun a ha => hK12 _ _ (W.seq fun K26 hK26 => (W.region (wl_load_blk (i := 1) (vs := [v0_0, v0_1, (.int .i64 x0.1.2.2.1), (.int .i64 x0.1.2.2.2), (.int .i64 x0.2.1), v0_2, v0_3]) (v := (.agg #[v0_0, v0_1, (.int .i64 x0.1.2.2.1), (.int .i64 x0.1.2.2.2), (.int .i64 x0.2.1), v0_2, v0_3])) tf_102 rfl rfl hS18 rfl rfl rfl (wl_move rfl rfl ?_)))) a ha
  obtain ⟨u27, hu27, hF⟩ := bindE hF
  refine wl_call rfl Try.call207 (C_spec_mnWhere w15 x0 v0_0 (h0_0.ro hB17) v0_1 (h0_1.ro hB17) v0_2 (h0_2.ro hB17) v0_3 (h0_3.ro hB17) x1 _ hu27) rfl ?_
  rintro _ w28 ⟨rfl, hb29⟩
  refine ⟨_, rfl, ?_⟩
  have hB30 := hB17.trans (hb29.mono hB17.size)
  have hS31 := hS18.below hb29
  refine wl_store_blk (i := 0) (vs := [(.int .i64 u27.1), (.int .i64 u27.2)]) (cs' := [(.int .i64 u27.1), (.int .i64 u27.2)]) tf_68 rfl rfl rfl rfl hB30 hS31 rfl rfl ⟨rfl, rfl, trivial⟩ rfl ?_
  intro w33 hk36 hB34 hS35
  refine wl_assign rfl rfl (WL.nil (fun a ha => hK26 _ _ (W.ret ?_) a ha))
  have hr := Option.some.inj hF
  subst hr
  exact rets (vs := [(.agg #[(.int .i64 u27.1), (.int .i64 u27.2)]), (.bool true)]) hQ rfl ⟨rv_cell (i := 0) tf_68 rfl hS35 rfl rfl rfl, rv_tmp rfl, trivial⟩ ⟨rfl, hB34⟩
end Go.Proofs.Ytmkignciedkidaa
