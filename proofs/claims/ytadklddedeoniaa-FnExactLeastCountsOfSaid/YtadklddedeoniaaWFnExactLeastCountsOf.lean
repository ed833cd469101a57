/-
  THE WALKS of functions of this seat, by program (gen.py).
-/
import Derived.Test.YtadklddedeoniaaH
import Derived.Test.YtadklddedeoniaaWFnExactCuesBetween
import Derived.Test.YtadklddedeoniaaWFnExactMostBehind
import Derived.Test.YtadklddedeoniaaWFnExactWaySums
import Derived.Test.YtadklddedeoniaaWFnExactWideSteps
set_option linter.unusedSimpArgs false
set_option linter.unusedVariables false
set_option maxRecDepth 100000
namespace Go.Proofs.Ytadklddedeoniaa
open Go Go.RowKit
theorem C_spec_stTwo (w0 : World) (x0 : (Int × Int)) (x1 : (Int × Int)) (r : Bool) (hF : F_spec_stTwo x0 x1 = some r) :
    Calls Try.prog 140 [(.agg #[(.int .i64 x0.1), (.int .i64 x0.2)]), (.agg #[(.int .i64 x1.1), (.int .i64 x1.2)])].toArray w0 fun e w' => e = .returned (.bool r) ∧ Below w0.heap.size w0 w' := by
  refine calls_mk' Try.func140 rfl Try.ntmps140 rfl rfl fun Q hQ hP => ?_
  have hB : Below w0.heap.size w0 w0 := Below.refl _ _
  have hS : Sep w0.heap.size w0 [] := Sep.nil _ _
  unfold F_spec_stTwo at hF
  refine W.seq fun K1 hK1 => ?_
  refine W.region ?_
  refine wl_box (cs := [(.int .i64 x0.1), (.int .i64 x0.2)]) rfl rfl rfl hB hS ?_
  intro b2 w3 hb4 hB5 hS6
  refine wl_box (cs := [(.int .i64 x1.1), (.int .i64 x1.2)]) rfl rfl rfl hB5 hS6 ?_
  intro b7 w8 hb9 hB10 hS11
  refine wl_assign rfl rfl ?_
  refine WL.nil ?_
  refine fun a ha => hK1 _ _ ?_ a ha
  refine W.seq fun K12 hK12 => ?_
  obtain ⟨k17, hk17, hF⟩ := jE1 hF
  have hJ18 : ∀ (y16 : Bool) (w13 : World) (_ : k17 y16 = some r) (_ : Below w0.heap.size w0 w13) (_ : Sep w0.heap.size w13 []), ∀ a, St 11 [(4, (.bool y16))] a → K12 a w13 := by
    intro y16 w13 hF hB14 hS15
    subst hk17
    refine fun a ha => hK12 _ _ ?_ a ha
    refine W.ret ?_
    have hr := Option.some.inj hF
    subst hr
    exact rets (vs := [(.bool y16)]) hQ rfl ⟨rv_tmp rfl, trivial⟩ ⟨rfl, hB14⟩
  refine W.region ?_
  refine wl_load_blk (i := 1) (vs := [(.int .i64 x0.1), (.int .i64 x0.2)]) (v := (.agg #[(.int .i64 x0.1), (.int .i64 x0.2)])) tf_116 rfl rfl hS11 rfl rfl rfl ?_
  obtain ⟨u19, hu19, hF⟩ := bindE hF
  refine wl_call rfl Try.call143 (C_spec_stGood w8 x0 _ hu19) rfl ?_
  rintro _ w20 ⟨rfl, hb21⟩
  refine ⟨_, rfl, ?_⟩
  have hB22 := hB10.trans (hb21.mono hB10.size)
  have hS23 := hS11.below hb21
  refine wl_move rfl rfl ?_
  rcases bE u19 with h25 | h25
  · replace hF := ifP h25 hF
    refine wl_on rfl rfl h25 ?_
    refine wl_load_blk (i := 0) (vs := [(.int .i64 x1.1), (.int .i64 x1.2)]) (v := (.agg #[(.int .i64 x1.1), (.int .i64 x1.2)])) tf_116 rfl rfl hS23 rfl rfl rfl ?_
    refine wl_on rfl rfl h25 ?_
    obtain ⟨u26, hu26, hF⟩ := bindE hF
    refine wl_call rfl Try.call143 (C_spec_stGood w20 x1 _ hu26) rfl ?_
    rintro _ w27 ⟨rfl, hb28⟩
    refine ⟨_, rfl, ?_⟩
    have hB29 := hB22.trans (hb28.mono hB22.size)
    have hS30 := hS23.below hb28
    refine wl_pick_t rfl rfl h25 rfl ?_
    refine wl_assign rfl rfl ?_
    refine WL.nil ?_
    exact fun a ha => hJ18 (u26) _ hF hB29 (hS30.sel [] rfl) a (ha.sub ⟨rfl, trivial⟩)
  · replace hF := ifN h25 hF
    refine wl_off rfl rfl rfl h25 ?_
    refine wl_off rfl rfl rfl h25 ?_
    refine wl_pick_f rfl rfl h25 rfl ?_
    refine wl_assign rfl rfl ?_
    refine WL.nil ?_
    exact fun a ha => hJ18 (false) _ hF hB22 (hS23.sel [] rfl) a (ha.sub ⟨rfl, trivial⟩)
theorem C_spec_LeastCounts (w0 : World) (x0 : (Int × Int)) (x1 : (Int × Int)) (x2 : Int) (r : (Int × Bool)) (hF : F_spec_LeastCounts x0 x1 x2 = some r) :
    Calls Try.prog 108 [(.agg #[(.int .i64 x0.1), (.int .i64 x0.2)]), (.agg #[(.int .i64 x1.1), (.int .i64 x1.2)]), (.int .i64 x2)].toArray w0 fun e w' => e = .returned (.tuple #[(.int .i64 r.1), (.bool r.2)]) ∧ Below w0.heap.size w0 w' := by
  refine calls_mk' Try.func108 rfl Try.ntmps108 rfl rfl fun Q hQ hP => ?_
  have hB : Below w0.heap.size w0 w0 := Below.refl _ _
  have hS : Sep w0.heap.size w0 [] := Sep.nil _ _
  unfold F_spec_LeastCounts at hF
  refine W.seq fun K1 hK1 => ?_
  refine W.region ?_
  refine wl_box (cs := [(.int .i64 x0.1), (.int .i64 x0.2)]) rfl rfl rfl hB hS ?_
  intro b2 w3 hb4 hB5 hS6
  refine wl_box (cs := [(.int .i64 x1.1), (.int .i64 x1.2)]) rfl rfl rfl hB5 hS6 ?_
  intro b7 w8 hb9 hB10 hS11
  refine wl_assign rfl rfl ?_
  refine wl_assign rfl rfl ?_
  refine WL.nil ?_
  refine fun a ha => hK1 _ _ ?_ a ha
  refine W.seq fun K12 hK12 => ?_
  refine W.seq fun K13 hK13 => ?_
  obtain ⟨k18, hk18, hF⟩ := jE1 hF
  have hJ19 : ∀ (y17 : Bool) (w14 : World) (_ : k18 y17 = some r) (_ : Below w0.heap.size w0 w14) (_ : Sep w0.heap.size w14 [R.blk b2 116 [(.int .i64 x0.1), (.int .i64 x0.2)], R.blk b7 116 [(.int .i64 x1.1), (.int .i64 x1.2)]]), ∀ a, St 29 [(2, (.int .i64 x2)), (3, (.pointer (some ⟨b2, 0, none⟩))), (4, (.pointer (some ⟨b7, 0, none⟩))), (17, (.bool y17))] a → K13 a w14 := by
    intro y17 w14 hF hB15 hS16
    subst hk18
    refine fun a ha => hK13 _ _ ?_ a ha
    refine W.cond rfl (fun h20 => ?_) (fun h20 => ?_)
    · replace hF := ifP h20 hF
      refine W.seq fun K21 hK21 => ?_
      refine W.region ?_
      refine wl_assign rfl rfl ?_
      refine wl_assign rfl rfl ?_
      refine WL.nil ?_
      refine fun a ha => hK21 _ _ ?_ a ha
      refine W.ret ?_
      have hr := Option.some.inj hF
      subst hr
      exact rets (vs := [(.int .i64 0), (.bool false)]) hQ rfl ⟨rv_tmp rfl, rv_tmp rfl, trivial⟩ ⟨rfl, hB15⟩
    · replace hF := ifN h20 hF
      refine W.skip ?_
      refine fun a ha => hK12 _ _ ?_ a ha
      refine W.seq fun K22 hK22 => ?_
      refine W.seq fun K23 hK23 => ?_
      refine W.region ?_
      refine wl_assign rfl rfl ?_
      refine WL.nil ?_
      refine fun a ha => hK23 _ _ ?_ a ha
      refine W.block ?_
      refine W.loopk (fun m a w24 => ∃ (y27 : Int), St 29 [(2, (.int .i64 x2)), (3, (.pointer (some ⟨b2, 0, none⟩))), (4, (.pointer (some ⟨b7, 0, none⟩))), (8, (.int .i64 y27))] a ∧ Below w0.heap.size w0 w24 ∧ Sep w0.heap.size w24 [R.blk b2 116 [(.int .i64 x0.1), (.int .i64 x0.2)], R.blk b7 116 [(.int .i64 x1.1), (.int .i64 x1.2)]] ∧ F_spec_LeastCounts_L1 x0 x1 x2 m y27 = some r) FU ?_ ?_
      ·
        exact fun a ha => ⟨1, ha.sub ⟨rfl, rfl, rfl, rfl, trivial⟩, hB15, (hS16.sel [0, 1] rfl), hF⟩
      ·
        rintro m30 a w24 ⟨y27, ha, hB25, hS26, hF⟩ KL29 hKL29
        refine W.at ?_ ha
        cases m30 with
        | zero => exact noneE hF
        | succ m30 =>
          obtain ⟨nx28, hnx28⟩ : ∃ k, k = F_spec_LeastCounts_L1 x0 x1 x2 m30 := ⟨_, rfl⟩
          rw [F_spec_LeastCounts_L1, ← hnx28] at hF
          refine W.seq fun K31 hK31 => ?_
          refine W.seq fun K32 hK32 => ?_
          refine W.region ?_
          refine wl_move rfl rfl ?_
          refine wl_leq rfl rfl rfl ?_
          refine WL.nil ?_
          refine fun a ha => hK32 _ _ ?_ a ha
          refine W.cond rfl (fun h33 => ?_) (fun h33 => ?_)
          · replace hF := ifP h33 hF
            refine W.skip ?_
            refine fun a ha => hK31 _ _ ?_ a ha
            refine W.seq fun K34 hK34 => ?_
            refine W.block ?_
            refine W.seq fun K35 hK35 => ?_
            refine W.region ?_
            refine wl_load_blk (i := 0) (vs := [(.int .i64 x0.1), (.int .i64 x0.2)]) (v := (.agg #[(.int .i64 x0.1), (.int .i64 x0.2)])) tf_116 rfl rfl hS26 rfl rfl rfl ?_
            refine wl_load_blk (i := 1) (vs := [(.int .i64 x1.1), (.int .i64 x1.2)]) (v := (.agg #[(.int .i64 x1.1), (.int .i64 x1.2)])) tf_116 rfl rfl hS26 rfl rfl rfl ?_
            refine wl_move rfl rfl ?_
            refine wl_build (zs := [(.int .i64 0), (.int .i64 0), (.int .i64 0), (.int .i64 0), (.int .i64 0)]) (out := [(.int .i64 x0.1), (.int .i64 x0.2), (.int .i64 x1.1), (.int .i64 x1.2), (.int .i64 y27)]) (vs := [(.agg #[(.int .i64 x0.1), (.int .i64 x0.2)]), (.agg #[(.int .i64 x1.1), (.int .i64 x1.2)]), (.int .i64 y27)]) (css := [[(.int .i64 x0.1), (.int .i64 x0.2)], [(.int .i64 x1.1), (.int .i64 x1.2)], [(.int .i64 y27)]]) tf_123 pl_123 rfl rfl rfl rfl rfl ?_
            refine wl_move rfl rfl ?_
            obtain ⟨u36, hu36, hF⟩ := bindE hF
            refine wl_call rfl Try.call127 (C_spec_mvWithin w24 (x0, x1, y27) x2 _ hu36) rfl ?_
            rintro _ w37 ⟨rfl, hb38⟩
            refine ⟨_, rfl, ?_⟩
            have hB39 := hB25.trans (hb38.mono hB25.size)
            have hS40 := hS26.below hb38
            refine WL.nil ?_
            refine fun a ha => hK35 _ _ ?_ a ha
            refine W.cond rfl (fun h42 => ?_) (fun h42 => ?_)
            · replace hF := ifP h42 hF
              refine W.seq fun K43 hK43 => ?_
              refine W.region ?_
              refine wl_move rfl rfl ?_
              refine wl_assign rfl rfl ?_
              refine wl_assign rfl rfl ?_
              refine WL.nil ?_
              refine fun a ha => hK43 _ _ ?_ a ha
              refine W.ret ?_
              have hr := Option.some.inj hF
              subst hr
              exact rets (vs := [(.int .i64 y27), (.bool true)]) hQ rfl ⟨rv_tmp rfl, rv_tmp rfl, trivial⟩ ⟨rfl, hB39⟩
            · replace hF := ifN h42 hF
              refine W.skip ?_
              refine fun a ha => hK34 _ _ ?_ a ha
              refine W.region ?_
              refine wl_move rfl rfl ?_
              refine wl_add rfl rfl rfl ?_
              refine wl_assign rfl rfl ?_
              refine WL.nil ?_
              rw [hnx28] at hF
              exact fun a ha => hKL29 a _ m30 (Nat.lt_succ_self m30) ⟨(w64 (y27 + 1)), ha.sub ⟨rfl, rfl, rfl, rfl, trivial⟩, hB39, (hS40.sel [0, 1] rfl), hF⟩
          · replace hF := ifN h33 hF
            refine W.exit ?_
            refine fun a ha => hK22 _ _ ?_ a ha
            refine W.seq fun K44 hK44 => ?_
            refine W.region ?_
            refine wl_assign rfl rfl ?_
            refine wl_assign rfl rfl ?_
            refine WL.nil ?_
            refine fun a ha => hK44 _ _ ?_ a ha
            refine W.ret ?_
            have hr := Option.some.inj hF
            subst hr
            exact rets (vs := [(.int .i64 0), (.bool false)]) hQ rfl ⟨rv_tmp rfl, rv_tmp rfl, trivial⟩ ⟨rfl, hB25⟩
  refine W.region ?_
  refine wl_load_blk (i := 1) (vs := [(.int .i64 x0.1), (.int .i64 x0.2)]) (v := (.agg #[(.int .i64 x0.1), (.int .i64 x0.2)])) tf_116 rfl rfl hS11 rfl rfl rfl ?_
  refine wl_load_blk (i := 0) (vs := [(.int .i64 x1.1), (.int .i64 x1.2)]) (v := (.agg #[(.int .i64 x1.1), (.int .i64 x1.2)])) tf_116 rfl rfl hS11 rfl rfl rfl ?_
  obtain ⟨u45, hu45, hF⟩ := bindE hF
  refine wl_call rfl Try.call140 (C_spec_stTwo w8 x0 x1 _ hu45) rfl ?_
  rintro _ w46 ⟨rfl, hb47⟩
  refine ⟨_, rfl, ?_⟩
  have hB48 := hB10.trans (hb47.mono hB10.size)
  have hS49 := hS11.below hb47
  refine wl_not rfl rfl ?_
  refine wl_move rfl rfl ?_
  rcases bE (!u45) with h51 | h51
  · replace hF := ifP h51 hF
    refine wl_off rfl rfl rfl h51 ?_
    refine wl_off rfl rfl rfl h51 ?_
    refine wl_off rfl rfl rfl h51 ?_
    refine wl_pick_t rfl rfl h51 rfl ?_
    refine WL.nil ?_
    exact fun a ha => hJ19 (true) _ hF hB48 (hS49.sel [1, 0] rfl) a (ha.sub ⟨rfl, rfl, rfl, rfl, trivial⟩)
  · replace hF := ifN h51 hF
    refine wl_on rfl rfl h51 ?_
    refine wl_move rfl rfl ?_
    refine wl_on rfl rfl h51 ?_
    obtain ⟨u52, hu52, hF⟩ := bindE hF
    refine wl_call rfl Try.call122 (C_spec_mvStep w46 x2 _ hu52) rfl ?_
    rintro _ w53 ⟨rfl, hb54⟩
    refine ⟨_, rfl, ?_⟩
    have hB55 := hB48.trans (hb54.mono hB48.size)
    have hS56 := hS49.below hb54
    refine wl_on rfl rfl h51 ?_
    refine wl_not rfl rfl ?_
    refine wl_pick_f rfl rfl h51 rfl ?_
    refine WL.nil ?_
    exact fun a ha => hJ19 ((!u52)) _ hF hB55 (hS56.sel [1, 0] rfl) a (ha.sub ⟨rfl, rfl, rfl, rfl, trivial⟩)
theorem C_spec_l1Most (w0 : World) (x0 : Int) (x1 : Int) (r : Int) (hF : F_spec_l1Most x0 x1 = some r) :
    Calls Try.prog 109 [(.int .i64 x0), (.int .i64 x1)].toArray w0 fun e w' => e = .returned (.int .i64 r) ∧ Below w0.heap.size w0 w' := by
  refine calls_mk' Try.func109 rfl Try.ntmps109 rfl rfl fun Q hQ hP => ?_
  have hB : Below w0.heap.size w0 w0 := Below.refl _ _
  have hS : Sep w0.heap.size w0 [] := Sep.nil _ _
  unfold F_spec_l1Most at hF
  refine W.seq fun K1 hK1 => ?_
  refine W.region ?_
  refine wl_assign rfl rfl ?_
  refine WL.nil ?_
  refine fun a ha => hK1 _ _ ?_ a ha
  refine W.seq fun K2 hK2 => ?_
  refine W.seq fun K3 hK3 => ?_
  refine W.region ?_
  refine wl_move rfl rfl ?_
  refine wl_move rfl rfl ?_
  refine wl_gtr rfl rfl rfl ?_
  refine WL.nil ?_
  refine fun a ha => hK3 _ _ ?_ a ha
  refine W.cond rfl (fun h4 => ?_) (fun h4 => ?_)
  · replace hF := ifP h4 hF
    refine W.seq fun K5 hK5 => ?_
    refine W.region ?_
    refine wl_move rfl rfl ?_
    refine wl_assign rfl rfl ?_
    refine WL.nil ?_
    refine fun a ha => hK5 _ _ ?_ a ha
    refine W.ret ?_
    have hr := Option.some.inj hF
    subst hr
    exact rets (vs := [(.int .i64 x0)]) hQ rfl ⟨rv_tmp rfl, trivial⟩ ⟨rfl, hB⟩
  · replace hF := ifN h4 hF
    refine W.skip ?_
    refine fun a ha => hK2 _ _ ?_ a ha
    refine W.seq fun K6 hK6 => ?_
    refine W.region ?_
    refine wl_move rfl rfl ?_
    refine wl_assign rfl rfl ?_
    refine WL.nil ?_
    refine fun a ha => hK6 _ _ ?_ a ha
    refine W.ret ?_
    have hr := Option.some.inj hF
    subst hr
    exact rets (vs := [(.int .i64 x1)]) hQ rfl ⟨rv_tmp rfl, trivial⟩ ⟨rfl, hB⟩
theorem C_spec_LeastCountsOf (w0 : World) (x0 : ((List (List (Int × Int))) × (List Int) × Int × Int)) (v0_0 : Value) (h0_0 : rdS ty_69 (· < w0.heap.size) w0 v0_0 x0.1) (v0_1 : Value) (h0_1 : rdS ty_3 (· < w0.heap.size) w0 v0_1 x0.2.1) (r : ((List Int) × Bool)) (hF : F_spec_LeastCountsOf x0 = some r) :
    Calls Try.prog 57 [(.agg #[v0_0, v0_1, (.int .i64 x0.2.2.1), (.int .i64 x0.2.2.2)])].toArray w0 fun e w' => ∃ (q0 : Value) (G0 : List Nat), e = .returned (.tuple #[q0, (.bool r.2)]) ∧ Below w0.heap.size w0 w' ∧ Sep w0.heap.size w' [R.own ty_3 G0 q0 r.1] := by
  refine calls_mk' Try.func57 rfl Try.ntmps57 rfl rfl fun Q hQ hP => ?_
  have hB : Below w0.heap.size w0 w0 := Below.refl _ _
  have hS : Sep w0.heap.size w0 [] := Sep.nil _ _
  unfold F_spec_LeastCountsOf at hF
  refine W.seq fun K1 hK1 => ?_
  refine W.region ?_
  refine wl_box (cs := [v0_0, v0_1, (.int .i64 x0.2.2.1), (.int .i64 x0.2.2.2)]) rfl rfl rfl hB hS ?_
  intro b2 w3 hb4 hB5 hS6
  refine wl_assign rfl rfl ?_
  refine wl_assign rfl rfl ?_
  refine WL.nil ?_
  refine fun a ha => hK1 _ _ ?_ a ha
  refine W.seq fun K7 hK7 => ?_
  refine W.seq fun K8 hK8 => ?_
  refine W.region ?_
  refine wl_load_blk (i := 0) (vs := [v0_0, v0_1, (.int .i64 x0.2.2.1), (.int .i64 x0.2.2.2)]) (v := (.agg #[v0_0, v0_1, (.int .i64 x0.2.2.1), (.int .i64 x0.2.2.2)])) tf_31 rfl rfl hS6 rfl rfl rfl ?_
  obtain ⟨u9, hu9, hF⟩ := bindE hF
  refine wl_call rfl Try.call69 (C_spec_swGood w3 x0 v0_0 (h0_0.ro hB5) v0_1 (h0_1.ro hB5) _ hu9) rfl ?_
  rintro _ w10 ⟨rfl, hb11⟩
  refine ⟨_, rfl, ?_⟩
  have hB12 := hB5.trans (hb11.mono hB5.size)
  have hS13 := hS6.below hb11
  refine wl_not rfl rfl ?_
  refine WL.nil ?_
  refine fun a ha => hK8 _ _ ?_ a ha
  refine W.cond rfl (fun h15 => ?_) (fun h15 => ?_)
  · replace hF := ifP h15 hF
    refine W.seq fun K16 hK16 => ?_
    refine W.region ?_
    refine wl_assign rfl rfl ?_
    refine wl_assign rfl rfl ?_
    refine WL.nil ?_
    refine fun a ha => hK16 _ _ ?_ a ha
    refine W.ret ?_
    have hS17 := hS13.push0 (r := R.own ty_3 [] (.slice none 0 0) []) rfl fun _ => .inl ⟨rfl, rfl, rfl⟩
    have hr := Option.some.inj hF
    subst hr
    exact rets (vs := [(.slice none 0 0), (.bool false)]) hQ rfl ⟨rv_tmp rfl, rv_tmp rfl, trivial⟩ ⟨(.slice none 0 0), [], rfl, hB12, hS17.sel [0] rfl⟩
  · replace hF := ifN h15 hF
    refine W.skip ?_
    refine fun a ha => hK7 _ _ ?_ a ha
    refine W.seq fun K18 hK18 => ?_
    refine W.region ?_
    refine wl_assign rfl rfl ?_
    refine WL.nil ?_
    refine fun a ha => hK18 _ _ ?_ a ha
    refine W.seq fun K19 hK19 => ?_
    refine W.seq fun K20 hK20 => ?_
    refine W.region ?_
    refine wl_field (o := 1) (off' := 1) ff_31_1 rfl rfl rfl ?_
    refine wl_load_blk (i := 0) (vs := [v0_1]) (v := v0_1) tf_23 rfl rfl hS13 rfl rfl rfl ?_
    refine wl_lenr (e := ty_3) (l := x0.2.1) Try.underlying23 rfl rfl h0_1 ?_
    refine wl_move rfl rfl ?_
    refine WL.nil ?_
    refine fun a ha => hK20 _ _ ?_ a ha
    refine W.block ?_
    refine W.loopk (fun m a w21 => ∃ (l24 : (List Int)) (y27 : Int) (v25 : Value) (F26 : List Nat), St 50 [(1, (.pointer (some ⟨b2, 0, none⟩))), (4, v25), (16, (.int .i64 (List.length x0.2.1 : Int))), (17, (.int .i64 y27))] a ∧ Below w0.heap.size w0 w21 ∧ Sep w0.heap.size w21 [R.blk b2 31 [v0_0, v0_1, (.int .i64 x0.2.2.1), (.int .i64 x0.2.2.2)], R.own ty_3 F26 v25 l24] ∧ F_spec_LeastCountsOf_L1 x0 m l24 y27 = some r) FU ?_ ?_
    ·
      have hS29 := hS13.push0 (r := R.own ty_3 [] (.slice none 0 0) []) rfl fun _ => .inl ⟨rfl, rfl, rfl⟩
      exact fun a ha => ⟨[], 0, (.slice none 0 0), [], ha.sub ⟨rfl, rfl, rfl, rfl, trivial⟩, hB12, (hS29.sel [1, 0] rfl), hF⟩
    ·
      rintro m31 a w21 ⟨l24, y27, v25, F26, ha, hB22, hS23, hF⟩ KL30 hKL30
      refine W.at ?_ ha
      cases m31 with
      | zero => exact noneE hF
      | succ m31 =>
        obtain ⟨nx28, hnx28⟩ : ∃ k, k = F_spec_LeastCountsOf_L1 x0 m31 := ⟨_, rfl⟩
        rw [F_spec_LeastCountsOf_L1, ← hnx28] at hF
        refine W.seq fun K32 hK32 => ?_
        refine W.region ?_
        refine wl_lss rfl rfl rfl ?_
        refine WL.nil ?_
        refine fun a ha => hK32 _ _ ?_ a ha
        refine W.seq fun K33 hK33 => ?_
        refine W.cond rfl (fun h34 => ?_) (fun h34 => ?_)
        · replace hF := ifP h34 hF
          refine W.skip ?_
          refine fun a ha => hK33 _ _ ?_ a ha
          refine W.seq fun K35 hK35 => ?_
          refine W.block ?_
          refine W.seq fun K36 hK36 => ?_
          refine W.region ?_
          refine wl_move rfl rfl ?_
          refine wl_assign rfl rfl ?_
          refine WL.nil ?_
          refine fun a ha => hK36 _ _ ?_ a ha
          refine W.seq fun K37 hK37 => ?_
          refine W.region ?_
          refine wl_assign rfl rfl ?_
          refine WL.nil ?_
          refine fun a ha => hK37 _ _ ?_ a ha
          refine W.seq fun K38 hK38 => ?_
          refine W.seq fun K39 hK39 => ?_
          refine W.region ?_
          refine wl_load_blk (i := 0) (vs := [v0_0, v0_1, (.int .i64 x0.2.2.1), (.int .i64 x0.2.2.2)]) (v := (.agg #[v0_0, v0_1, (.int .i64 x0.2.2.1), (.int .i64 x0.2.2.2)])) tf_31 rfl rfl hS23 rfl rfl rfl ?_
          refine wl_move rfl rfl ?_
          obtain ⟨u40, hu40, hF⟩ := bindE hF
          refine wl_call rfl Try.call105 (C_spec_swMoves w21 x0 v0_0 (h0_0.ro hB22) v0_1 (h0_1.ro hB22) y27 _ hu40) rfl ?_
          rintro _ w43 ⟨v41, F42, rfl, hb44, hM47⟩
          refine ⟨_, rfl, ?_⟩
          have hB45 := hB22.trans (hb44.mono hB22.size)
          have hS46 := hS23.join hb44 hM47 hB22.size
          refine wl_lenr (e := ty_123) (l := u40) Try.underlying76 rfl rfl (hS46.own_ro (i := 0) rfl) ?_
          refine wl_move rfl rfl ?_
          refine WL.nil ?_
          refine fun a ha => hK39 _ _ ?_ a ha
          refine W.block ?_
          refine W.loopk (fun m a w48 => ∃ (y51 : Int) (y52 : Int), St 50 [(1, (.pointer (some ⟨b2, 0, none⟩))), (4, v25), (6, (.int .i64 y51)), (16, (.int .i64 (List.length x0.2.1 : Int))), (17, (.int .i64 y27)), (22, v41), (23, (.int .i64 (List.length u40 : Int))), (24, (.int .i64 y52))] a ∧ Below w0.heap.size w0 w48 ∧ Sep w0.heap.size w48 [R.blk b2 31 [v0_0, v0_1, (.int .i64 x0.2.2.1), (.int .i64 x0.2.2.2)], R.own ty_3 F26 v25 l24, R.own ty_123 F42 v41 u40] ∧ F_spec_LeastCountsOf_L2 u40 x0 l24 nx28 y27 m y51 y52 = some r) FU ?_ ?_
          ·
            exact fun a ha => ⟨1, 0, ha.sub ⟨rfl, rfl, rfl, rfl, rfl, rfl, rfl, rfl, trivial⟩, hB45, (hS46.sel [1, 2, 0] rfl), hF⟩
          ·
            rintro m55 a w48 ⟨y51, y52, ha, hB49, hS50, hF⟩ KL54 hKL54
            refine W.at ?_ ha
            cases m55 with
            | zero => exact noneE hF
            | succ m55 =>
              obtain ⟨nx53, hnx53⟩ : ∃ k, k = F_spec_LeastCountsOf_L2 u40 x0 l24 nx28 y27 m55 := ⟨_, rfl⟩
              rw [F_spec_LeastCountsOf_L2, ← hnx53] at hF
              refine W.seq fun K56 hK56 => ?_
              refine W.region ?_
              refine wl_lss rfl rfl rfl ?_
              refine WL.nil ?_
              refine fun a ha => hK56 _ _ ?_ a ha
              refine W.seq fun K57 hK57 => ?_
              refine W.cond rfl (fun h58 => ?_) (fun h58 => ?_)
              · replace hF := ifP h58 hF
                refine W.skip ?_
                refine fun a ha => hK57 _ _ ?_ a ha
                refine W.seq fun K59 hK59 => ?_
                refine W.block ?_
                refine W.seq fun K60 hK60 => ?_
                refine W.region ?_
                obtain ⟨u61, hu61, hF⟩ := bindE hF
                refine wl_indexo (e := ty_123) (i := 2) Try.underlying76 rfl rfl rfl hS50 rfl hu61 ?_
                rintro p62 _ rfl hp63 ho64
                refine wl_load_p (vs := [(.int .i64 u61.1.1), (.int .i64 u61.1.2), (.int .i64 u61.2.1.1), (.int .i64 u61.2.1.2), (.int .i64 u61.2.2)]) (v := (.agg #[(.int .i64 u61.1.1), (.int .i64 u61.1.2), (.int .i64 u61.2.1.1), (.int .i64 u61.2.1.2), (.int .i64 u61.2.2)])) tf_123 rfl rfl hp63 rfl rfl ?_
                refine wl_alloc (cs := [(.int .i64 0), (.int .i64 0), (.int .i64 0), (.int .i64 0), (.int .i64 0)]) tf_123 rfl rfl hB49 hS50 ?_
                intro b65 w66 hb67 hB68 hS69
                refine wl_store_blk (i := 0) (vs := [(.int .i64 u61.1.1), (.int .i64 u61.1.2), (.int .i64 u61.2.1.1), (.int .i64 u61.2.1.2), (.int .i64 u61.2.2)]) (cs' := [(.int .i64 u61.1.1), (.int .i64 u61.1.2), (.int .i64 u61.2.1.1), (.int .i64 u61.2.1.2), (.int .i64 u61.2.2)]) tf_123 rfl rfl rfl rfl hB68 hS69 rfl rfl ⟨rfl, rfl, rfl, rfl, rfl, trivial⟩ rfl ?_
                intro w70 hk73 hB71 hS72
                refine WL.nil ?_
                refine fun a ha => hK60 _ _ ?_ a ha
                refine W.seq fun K74 hK74 => ?_
                refine W.region ?_
                refine wl_field (o := 0) (off' := 0) ff_123_0 rfl rfl rfl ?_
                refine wl_load_blk (i := 0) (vs := [(.int .i64 u61.1.1), (.int .i64 u61.1.2)]) (v := (.agg #[(.int .i64 u61.1.1), (.int .i64 u61.1.2)])) tf_116 rfl rfl hS72 rfl rfl rfl ?_
                refine wl_field (o := 2) (off' := 2) ff_123_1 rfl rfl rfl ?_
                refine wl_load_blk (i := 0) (vs := [(.int .i64 u61.2.1.1), (.int .i64 u61.2.1.2)]) (v := (.agg #[(.int .i64 u61.2.1.1), (.int .i64 u61.2.1.2)])) tf_116 rfl rfl hS72 rfl rfl rfl ?_
                refine wl_field (o := 3) (off' := 3) ff_31_3 rfl rfl rfl ?_
                refine wl_load_blk (i := 1) (vs := [(.int .i64 x0.2.2.2)]) (v := (.int .i64 x0.2.2.2)) tf_3 rfl rfl hS72 rfl rfl rfl ?_
                obtain ⟨u75, hu75, hF⟩ := bindE hF
                refine wl_call rfl Try.call108 (C_spec_LeastCounts w70 u61.1 u61.2.1 x0.2.2.2 _ hu75) rfl ?_
                rintro _ w76 ⟨rfl, hb77⟩
                refine ⟨_, rfl, ?_⟩
                have hB78 := hB71.trans (hb77.mono hB71.size)
                have hS79 := hS72.below hb77
                refine wl_move rfl rfl ?_
                refine wl_extract rfl rfl rfl ?_
                refine wl_extract rfl rfl rfl ?_
                refine wl_assign rfl rfl ?_
                refine wl_assign rfl rfl ?_
                refine WL.nil ?_
                refine fun a ha => hK74 _ _ ?_ a ha
                refine W.seq fun K81 hK81 => ?_
                refine W.seq fun K82 hK82 => ?_
                refine W.region ?_
                refine wl_move rfl rfl ?_
                refine wl_not rfl rfl ?_
                refine WL.nil ?_
                refine fun a ha => hK82 _ _ ?_ a ha
                refine W.cond rfl (fun h83 => ?_) (fun h83 => ?_)
                · replace hF := ifP h83 hF
                  refine W.seq fun K84 hK84 => ?_
                  refine W.region ?_
                  refine wl_assign rfl rfl ?_
                  refine wl_assign rfl rfl ?_
                  refine WL.nil ?_
                  refine fun a ha => hK84 _ _ ?_ a ha
                  refine W.ret ?_
                  have hS85 := hS79.push0 (r := R.own ty_3 [] (.slice none 0 0) []) rfl fun _ => .inl ⟨rfl, rfl, rfl⟩
                  have hr := Option.some.inj hF
                  subst hr
                  exact rets (vs := [(.slice none 0 0), (.bool false)]) hQ rfl ⟨rv_tmp rfl, rv_tmp rfl, trivial⟩ ⟨(.slice none 0 0), [], rfl, hB78, hS85.sel [0] rfl⟩
                · replace hF := ifN h83 hF
                  refine W.skip ?_
                  refine fun a ha => hK81 _ _ ?_ a ha
                  refine W.region ?_
                  refine wl_move rfl rfl ?_
                  refine wl_move rfl rfl ?_
                  obtain ⟨u86, hu86, hF⟩ := bindE hF
                  refine wl_call rfl Try.call109 (C_spec_l1Most w76 y51 u75.1 _ hu86) rfl ?_
                  rintro _ w87 ⟨rfl, hb88⟩
                  refine ⟨_, rfl, ?_⟩
                  have hB89 := hB78.trans (hb88.mono hB78.size)
                  have hS90 := hS79.below hb88
                  refine wl_assign rfl rfl ?_
                  refine WL.nil ?_
                  refine fun a ha => hK59 _ _ ?_ a ha
                  refine W.region ?_
                  refine wl_add rfl rfl rfl ?_
                  refine wl_move rfl rfl ?_
                  refine WL.nil ?_
                  rw [hnx53] at hF
                  exact fun a ha => hKL54 a _ m55 (Nat.lt_succ_self m55) ⟨u86, (w64 (y52 + 1)), ha.sub ⟨rfl, rfl, rfl, rfl, rfl, rfl, rfl, rfl, trivial⟩, hB89, (hS90.sel [1, 2, 3] rfl), hF⟩
              · replace hF := ifN h58 hF
                refine W.exit ?_
                refine fun a ha => hK38 _ _ ?_ a ha
                refine W.region ?_
                refine wl_move rfl rfl ?_
                refine wl_move rfl rfl ?_
                refine wl_lit (vs := [(.int .i64 y51)]) (l := [y51]) fl_3 Try.underlying23 rfl rfl rfl rfl rfl rfl hB49 hS50 ?_
                intro v92 F93 w94 hb95 hB96 hS97
                obtain ⟨u98, hu98, hF⟩ := bindE hF
                refine wl_append (i := 2) (S := (· < w94.heap.size)) fl_3 Try.underlying23 rfl rfl rfl hB96 hS97 rfl (hS97.own_ro (i := 0) rfl) hu98 ?_
                intro v99 F100 w101 hk102 hB103 hS104
                refine wl_assign rfl rfl ?_
                refine WL.nil ?_
                refine fun a ha => hK35 _ _ ?_ a ha
                refine W.region ?_
                refine wl_add rfl rfl rfl ?_
                refine wl_move rfl rfl ?_
                refine WL.nil ?_
                rw [hnx28] at hF
                exact fun a ha => hKL30 a _ m31 (Nat.lt_succ_self m31) ⟨u98, (w64 (y27 + 1)), v99, F100, ha.sub ⟨rfl, rfl, rfl, rfl, trivial⟩, hB103, (hS104.sel [1, 2] rfl), hF⟩
        · replace hF := ifN h34 hF
          refine W.exit ?_
          refine fun a ha => hK19 _ _ ?_ a ha
          refine W.seq fun K105 hK105 => ?_
          refine W.region ?_
          refine wl_move rfl rfl ?_
          refine wl_assign rfl rfl ?_
          refine wl_assign rfl rfl ?_
          refine WL.nil ?_
          refine fun a ha => hK105 _ _ ?_ a ha
          refine W.ret ?_
          have hr := Option.some.inj hF
          subst hr
          exact rets (vs := [v25, (.bool true)]) hQ rfl ⟨rv_tmp rfl, rv_tmp rfl, trivial⟩ ⟨v25, F26, rfl, hB22, hS23.sel [1] rfl⟩
theorem C_impl_LeastCounts (w0 : World) (x0 : (Int × Int)) (x1 : (Int × Int)) (x2 : Int) (r : (Int × Bool)) (hF : F_impl_LeastCounts x0 x1 x2 = some r) :
    Calls Try.prog 110 [(.agg #[(.int .i64 x0.1), (.int .i64 x0.2)]), (.agg #[(.int .i64 x1.1), (.int .i64 x1.2)]), (.int .i64 x2)].toArray w0 fun e w' => e = .returned (.tuple #[(.int .i64 r.1), (.bool r.2)]) ∧ Below w0.heap.size w0 w' := by
  refine calls_mk' Try.func110 rfl Try.ntmps110 rfl rfl fun Q hQ hP => ?_
  have hB : Below w0.heap.size w0 w0 := Below.refl _ _
  have hS : Sep w0.heap.size w0 [] := Sep.nil _ _
  unfold F_impl_LeastCounts at hF
  refine W.seq fun K1 hK1 => ?_
  refine W.region ?_
  refine wl_box (cs := [(.int .i64 x0.1), (.int .i64 x0.2)]) rfl rfl rfl hB hS ?_
  intro b2 w3 hb4 hB5 hS6
  refine wl_box (cs := [(.int .i64 x1.1), (.int .i64 x1.2)]) rfl rfl rfl hB5 hS6 ?_
  intro b7 w8 hb9 hB10 hS11
  refine wl_assign rfl rfl ?_
  refine wl_assign rfl rfl ?_
  refine WL.nil ?_
  refine fun a ha => hK1 _ _ ?_ a ha
  refine W.seq fun K12 hK12 => ?_
  refine W.seq fun K13 hK13 => ?_
  obtain ⟨k18, hk18, hF⟩ := jE1 hF
  have hJ19 : ∀ (y17 : Bool) (w14 : World) (_ : k18 y17 = some r) (_ : Below w0.heap.size w0 w14) (_ : Sep w0.heap.size w14 [R.blk b2 116 [(.int .i64 x0.1), (.int .i64 x0.2)], R.blk b7 116 [(.int .i64 x1.1), (.int .i64 x1.2)]]), ∀ a, St 33 [(2, (.int .i64 x2)), (3, (.pointer (some ⟨b2, 0, none⟩))), (4, (.pointer (some ⟨b7, 0, none⟩))), (21, (.bool y17))] a → K13 a w14 := by
    intro y17 w14 hF hB15 hS16
    subst hk18
    refine fun a ha => hK13 _ _ ?_ a ha
    refine W.cond rfl (fun h20 => ?_) (fun h20 => ?_)
    · replace hF := ifP h20 hF
      refine W.seq fun K21 hK21 => ?_
      refine W.region ?_
      refine wl_assign rfl rfl ?_
      refine wl_assign rfl rfl ?_
      refine WL.nil ?_
      refine fun a ha => hK21 _ _ ?_ a ha
      refine W.ret ?_
      have hr := Option.some.inj hF
      subst hr
      exact rets (vs := [(.int .i64 0), (.bool false)]) hQ rfl ⟨rv_tmp rfl, rv_tmp rfl, trivial⟩ ⟨rfl, hB15⟩
    · replace hF := ifN h20 hF
      refine W.skip ?_
      refine fun a ha => hK12 _ _ ?_ a ha
      refine W.seq fun K22 hK22 => ?_
      refine W.seq fun K23 hK23 => ?_
      refine W.region ?_
      refine wl_assign rfl rfl ?_
      refine WL.nil ?_
      refine fun a ha => hK23 _ _ ?_ a ha
      refine W.block ?_
      refine W.loopk (fun m a w24 => ∃ (y27 : Int), St 33 [(2, (.int .i64 x2)), (3, (.pointer (some ⟨b2, 0, none⟩))), (4, (.pointer (some ⟨b7, 0, none⟩))), (8, (.int .i64 y27))] a ∧ Below w0.heap.size w0 w24 ∧ Sep w0.heap.size w24 [R.blk b2 116 [(.int .i64 x0.1), (.int .i64 x0.2)], R.blk b7 116 [(.int .i64 x1.1), (.int .i64 x1.2)]] ∧ F_impl_LeastCounts_L1 x0 x1 x2 m y27 = some r) FU ?_ ?_
      ·
        exact fun a ha => ⟨1, ha.sub ⟨rfl, rfl, rfl, rfl, trivial⟩, hB15, (hS16.sel [0, 1] rfl), hF⟩
      ·
        rintro m30 a w24 ⟨y27, ha, hB25, hS26, hF⟩ KL29 hKL29
        refine W.at ?_ ha
        cases m30 with
        | zero => exact noneE hF
        | succ m30 =>
          obtain ⟨nx28, hnx28⟩ : ∃ k, k = F_impl_LeastCounts_L1 x0 x1 x2 m30 := ⟨_, rfl⟩
          rw [F_impl_LeastCounts_L1, ← hnx28] at hF
          refine W.seq fun K31 hK31 => ?_
          refine W.seq fun K32 hK32 => ?_
          refine W.region ?_
          refine wl_move rfl rfl ?_
          refine wl_leq rfl rfl rfl ?_
          refine WL.nil ?_
          refine fun a ha => hK32 _ _ ?_ a ha
          refine W.cond rfl (fun h33 => ?_) (fun h33 => ?_)
          · replace hF := ifP h33 hF
            refine W.skip ?_
            refine fun a ha => hK31 _ _ ?_ a ha
            refine W.seq fun K34 hK34 => ?_
            refine W.block ?_
            refine W.seq fun K35 hK35 => ?_
            refine W.region ?_
            refine wl_load_blk (i := 0) (vs := [(.int .i64 x0.1), (.int .i64 x0.2)]) (v := (.agg #[(.int .i64 x0.1), (.int .i64 x0.2)])) tf_116 rfl rfl hS26 rfl rfl rfl ?_
            refine wl_load_blk (i := 1) (vs := [(.int .i64 x1.1), (.int .i64 x1.2)]) (v := (.agg #[(.int .i64 x1.1), (.int .i64 x1.2)])) tf_116 rfl rfl hS26 rfl rfl rfl ?_
            refine wl_move rfl rfl ?_
            refine wl_build (zs := [(.int .i64 0), (.int .i64 0), (.int .i64 0), (.int .i64 0), (.int .i64 0)]) (out := [(.int .i64 x0.1), (.int .i64 x0.2), (.int .i64 x1.1), (.int .i64 x1.2), (.int .i64 y27)]) (vs := [(.agg #[(.int .i64 x0.1), (.int .i64 x0.2)]), (.agg #[(.int .i64 x1.1), (.int .i64 x1.2)]), (.int .i64 y27)]) (css := [[(.int .i64 x0.1), (.int .i64 x0.2)], [(.int .i64 x1.1), (.int .i64 x1.2)], [(.int .i64 y27)]]) tf_123 pl_123 rfl rfl rfl rfl rfl ?_
            refine wl_move rfl rfl ?_
            obtain ⟨u36, hu36, hF⟩ := bindE hF
            refine wl_call rfl Try.call128 (C_impl_withinStep w24 (x0, x1, y27) x2 _ hu36) rfl ?_
            rintro _ w37 ⟨rfl, hb38⟩
            refine ⟨_, rfl, ?_⟩
            have hB39 := hB25.trans (hb38.mono hB25.size)
            have hS40 := hS26.below hb38
            refine WL.nil ?_
            refine fun a ha => hK35 _ _ ?_ a ha
            refine W.cond rfl (fun h42 => ?_) (fun h42 => ?_)
            · replace hF := ifP h42 hF
              refine W.seq fun K43 hK43 => ?_
              refine W.region ?_
              refine wl_move rfl rfl ?_
              refine wl_assign rfl rfl ?_
              refine wl_assign rfl rfl ?_
              refine WL.nil ?_
              refine fun a ha => hK43 _ _ ?_ a ha
              refine W.ret ?_
              have hr := Option.some.inj hF
              subst hr
              exact rets (vs := [(.int .i64 y27), (.bool true)]) hQ rfl ⟨rv_tmp rfl, rv_tmp rfl, trivial⟩ ⟨rfl, hB39⟩
            · replace hF := ifN h42 hF
              refine W.skip ?_
              refine fun a ha => hK34 _ _ ?_ a ha
              refine W.region ?_
              refine wl_move rfl rfl ?_
              refine wl_add rfl rfl rfl ?_
              refine wl_assign rfl rfl ?_
              refine WL.nil ?_
              rw [hnx28] at hF
              exact fun a ha => hKL29 a _ m30 (Nat.lt_succ_self m30) ⟨(w64 (y27 + 1)), ha.sub ⟨rfl, rfl, rfl, rfl, trivial⟩, hB39, (hS40.sel [0, 1] rfl), hF⟩
          · replace hF := ifN h33 hF
            refine W.exit ?_
            refine fun a ha => hK22 _ _ ?_ a ha
            refine W.seq fun K44 hK44 => ?_
            refine W.region ?_
            refine wl_assign rfl rfl ?_
            refine wl_assign rfl rfl ?_
            refine WL.nil ?_
            refine fun a ha => hK44 _ _ ?_ a ha
            refine W.ret ?_
            have hr := Option.some.inj hF
            subst hr
            exact rets (vs := [(.int .i64 0), (.bool false)]) hQ rfl ⟨rv_tmp rfl, rv_tmp rfl, trivial⟩ ⟨rfl, hB25⟩
  refine W.region ?_
  refine wl_load_blk (i := 1) (vs := [(.int .i64 x0.1), (.int .i64 x0.2)]) (v := (.agg #[(.int .i64 x0.1), (.int .i64 x0.2)])) tf_116 rfl rfl hS11 rfl rfl rfl ?_
  obtain ⟨u45, hu45, hF⟩ := bindE hF
  refine wl_call rfl Try.call141 (C_impl_IsSpot w8 x0 _ hu45) rfl ?_
  rintro _ w46 ⟨rfl, hb47⟩
  refine ⟨_, rfl, ?_⟩
  have hB48 := hB10.trans (hb47.mono hB10.size)
  have hS49 := hS11.below hb47
  refine wl_not rfl rfl ?_
  refine wl_move rfl rfl ?_
  rcases bE (!u45) with h51 | h51
  · replace hF := ifP h51 hF
    refine wl_off rfl rfl rfl h51 ?_
    refine wl_off rfl rfl rfl h51 ?_
    refine wl_off rfl rfl rfl h51 ?_
    refine wl_pick_t rfl rfl h51 rfl ?_
    refine wl_move rfl rfl ?_
    refine wl_off rfl rfl rfl rfl ?_
    refine wl_off rfl rfl rfl rfl ?_
    refine wl_off rfl rfl rfl rfl ?_
    refine wl_pick_t rfl rfl rfl rfl ?_
    refine WL.nil ?_
    exact fun a ha => hJ19 (true) _ hF hB48 (hS49.sel [1, 0] rfl) a (ha.sub ⟨rfl, rfl, rfl, rfl, trivial⟩)
  · replace hF := ifN h51 hF
    refine wl_on rfl rfl h51 ?_
    refine wl_load_blk (i := 0) (vs := [(.int .i64 x1.1), (.int .i64 x1.2)]) (v := (.agg #[(.int .i64 x1.1), (.int .i64 x1.2)])) tf_116 rfl rfl hS49 rfl rfl rfl ?_
    refine wl_on rfl rfl h51 ?_
    obtain ⟨u52, hu52, hF⟩ := bindE hF
    refine wl_call rfl Try.call141 (C_impl_IsSpot w46 x1 _ hu52) rfl ?_
    rintro _ w53 ⟨rfl, hb54⟩
    refine ⟨_, rfl, ?_⟩
    have hB55 := hB48.trans (hb54.mono hB48.size)
    have hS56 := hS49.below hb54
    refine wl_on rfl rfl h51 ?_
    refine wl_not rfl rfl ?_
    refine wl_pick_f rfl rfl h51 rfl ?_
    refine wl_move rfl rfl ?_
    rcases bE (!u52) with h58 | h58
    · replace hF := ifP h58 hF
      refine wl_off rfl rfl rfl h58 ?_
      refine wl_off rfl rfl rfl h58 ?_
      refine wl_off rfl rfl rfl h58 ?_
      refine wl_pick_t rfl rfl h58 rfl ?_
      refine WL.nil ?_
      exact fun a ha => hJ19 (true) _ hF hB55 (hS56.sel [1, 0] rfl) a (ha.sub ⟨rfl, rfl, rfl, rfl, trivial⟩)
    · replace hF := ifN h58 hF
      refine wl_on rfl rfl h58 ?_
      refine wl_move rfl rfl ?_
      refine wl_on rfl rfl h58 ?_
      obtain ⟨u59, hu59, hF⟩ := bindE hF
      refine wl_call rfl Try.call112 (C_impl_within w53 x2 1 24 _ hu59) rfl ?_
      rintro _ w60 ⟨rfl, hb61⟩
      refine ⟨_, rfl, ?_⟩
      have hB62 := hB55.trans (hb61.mono hB55.size)
      have hS63 := hS56.below hb61
      refine wl_on rfl rfl h58 ?_
      refine wl_not rfl rfl ?_
      refine wl_pick_f rfl rfl h58 rfl ?_
      refine WL.nil ?_
      exact fun a ha => hJ19 ((!u59)) _ hF hB62 (hS63.sel [1, 0] rfl) a (ha.sub ⟨rfl, rfl, rfl, rfl, trivial⟩)
theorem C_impl_LeastCountsOf (w0 : World) (x0 : ((List (List (Int × Int))) × (List Int) × Int × Int)) (v0_0 : Value) (h0_0 : rdS ty_69 (· < w0.heap.size) w0 v0_0 x0.1) (v0_1 : Value) (h0_1 : rdS ty_3 (· < w0.heap.size) w0 v0_1 x0.2.1) (r : ((List Int) × Bool)) (hF : F_impl_LeastCountsOf x0 = some r) :
    Calls Try.prog 58 [(.agg #[v0_0, v0_1, (.int .i64 x0.2.2.1), (.int .i64 x0.2.2.2)])].toArray w0 fun e w' => ∃ (q0 : Value) (G0 : List Nat), e = .returned (.tuple #[q0, (.bool r.2)]) ∧ Below w0.heap.size w0 w' ∧ Sep w0.heap.size w' [R.own ty_3 G0 q0 r.1] := by
  refine calls_mk' Try.func58 rfl Try.ntmps58 rfl rfl fun Q hQ hP => ?_
  have hB : Below w0.heap.size w0 w0 := Below.refl _ _
  have hS : Sep w0.heap.size w0 [] := Sep.nil _ _
  unfold F_impl_LeastCountsOf at hF
  refine W.seq fun K1 hK1 => ?_
  refine W.region ?_
  refine wl_box (cs := [v0_0, v0_1, (.int .i64 x0.2.2.1), (.int .i64 x0.2.2.2)]) rfl rfl rfl hB hS ?_
  intro b2 w3 hb4 hB5 hS6
  refine wl_assign rfl rfl ?_
  refine wl_assign rfl rfl ?_
  refine WL.nil ?_
  refine fun a ha => hK1 _ _ ?_ a ha
  refine W.seq fun K7 hK7 => ?_
  refine W.seq fun K8 hK8 => ?_
  refine W.region ?_
  refine wl_load_blk (i := 0) (vs := [v0_0, v0_1, (.int .i64 x0.2.2.1), (.int .i64 x0.2.2.2)]) (v := (.agg #[v0_0, v0_1, (.int .i64 x0.2.2.1), (.int .i64 x0.2.2.2)])) tf_31 rfl rfl hS6 rfl rfl rfl ?_
  obtain ⟨u9, hu9, hF⟩ := bindE hF
  refine wl_call rfl Try.call73 (C_impl_IsShow w3 x0 v0_0 (h0_0.ro hB5) v0_1 (h0_1.ro hB5) _ hu9) rfl ?_
  rintro _ w10 ⟨rfl, hb11⟩
  refine ⟨_, rfl, ?_⟩
  have hB12 := hB5.trans (hb11.mono hB5.size)
  have hS13 := hS6.below hb11
  refine wl_not rfl rfl ?_
  refine WL.nil ?_
  refine fun a ha => hK8 _ _ ?_ a ha
  refine W.cond rfl (fun h15 => ?_) (fun h15 => ?_)
  · replace hF := ifP h15 hF
    refine W.seq fun K16 hK16 => ?_
    refine W.region ?_
    refine wl_assign rfl rfl ?_
    refine wl_assign rfl rfl ?_
    refine WL.nil ?_
    refine fun a ha => hK16 _ _ ?_ a ha
    refine W.ret ?_
    have hS17 := hS13.push0 (r := R.own ty_3 [] (.slice none 0 0) []) rfl fun _ => .inl ⟨rfl, rfl, rfl⟩
    have hr := Option.some.inj hF
    subst hr
    exact rets (vs := [(.slice none 0 0), (.bool false)]) hQ rfl ⟨rv_tmp rfl, rv_tmp rfl, trivial⟩ ⟨(.slice none 0 0), [], rfl, hB12, hS17.sel [0] rfl⟩
  · replace hF := ifN h15 hF
    refine W.skip ?_
    refine fun a ha => hK7 _ _ ?_ a ha
    refine W.seq fun K18 hK18 => ?_
    refine W.region ?_
    refine wl_lit (vs := []) (l := []) fl_3 Try.underlying23 rfl rfl rfl rfl rfl rfl hB12 hS13 ?_
    intro v19 F20 w21 hb22 hB23 hS24
    refine wl_assign rfl rfl ?_
    refine WL.nil ?_
    refine fun a ha => hK18 _ _ ?_ a ha
    refine W.seq fun K25 hK25 => ?_
    refine W.seq fun K26 hK26 => ?_
    refine W.region ?_
    refine wl_field (o := 1) (off' := 1) ff_31_1 rfl rfl rfl ?_
    refine wl_load_blk (i := 1) (vs := [v0_1]) (v := v0_1) tf_23 rfl rfl hS24 rfl rfl rfl ?_
    refine wl_lenr (e := ty_3) (l := x0.2.1) Try.underlying23 rfl rfl h0_1 ?_
    refine wl_move rfl rfl ?_
    refine WL.nil ?_
    refine fun a ha => hK26 _ _ ?_ a ha
    refine W.block ?_
    refine W.loopk (fun m a w27 => ∃ (l30 : (List Int)) (y33 : Int) (v31 : Value) (F32 : List Nat), St 51 [(1, (.pointer (some ⟨b2, 0, none⟩))), (4, v31), (17, (.int .i64 (List.length x0.2.1 : Int))), (18, (.int .i64 y33))] a ∧ Below w0.heap.size w0 w27 ∧ Sep w0.heap.size w27 [R.blk b2 31 [v0_0, v0_1, (.int .i64 x0.2.2.1), (.int .i64 x0.2.2.2)], R.own ty_3 F32 v31 l30] ∧ F_impl_LeastCountsOf_L1 x0 m l30 y33 = some r) FU ?_ ?_
    ·
      exact fun a ha => ⟨[], 0, v19, F20, ha.sub ⟨rfl, rfl, rfl, rfl, trivial⟩, hB23, (hS24.sel [1, 0] rfl), hF⟩
    ·
      rintro m36 a w27 ⟨l30, y33, v31, F32, ha, hB28, hS29, hF⟩ KL35 hKL35
      refine W.at ?_ ha
      cases m36 with
      | zero => exact noneE hF
      | succ m36 =>
        obtain ⟨nx34, hnx34⟩ : ∃ k, k = F_impl_LeastCountsOf_L1 x0 m36 := ⟨_, rfl⟩
        rw [F_impl_LeastCountsOf_L1, ← hnx34] at hF
        refine W.seq fun K37 hK37 => ?_
        refine W.region ?_
        refine wl_lss rfl rfl rfl ?_
        refine WL.nil ?_
        refine fun a ha => hK37 _ _ ?_ a ha
        refine W.seq fun K38 hK38 => ?_
        refine W.cond rfl (fun h39 => ?_) (fun h39 => ?_)
        · replace hF := ifP h39 hF
          refine W.skip ?_
          refine fun a ha => hK38 _ _ ?_ a ha
          refine W.seq fun K40 hK40 => ?_
          refine W.block ?_
          refine W.seq fun K41 hK41 => ?_
          refine W.region ?_
          refine wl_move rfl rfl ?_
          refine wl_assign rfl rfl ?_
          refine WL.nil ?_
          refine fun a ha => hK41 _ _ ?_ a ha
          refine W.seq fun K42 hK42 => ?_
          refine W.region ?_
          refine wl_assign rfl rfl ?_
          refine WL.nil ?_
          refine fun a ha => hK42 _ _ ?_ a ha
          refine W.seq fun K43 hK43 => ?_
          refine W.seq fun K44 hK44 => ?_
          refine W.region ?_
          refine wl_load_blk (i := 0) (vs := [v0_0, v0_1, (.int .i64 x0.2.2.1), (.int .i64 x0.2.2.2)]) (v := (.agg #[v0_0, v0_1, (.int .i64 x0.2.2.1), (.int .i64 x0.2.2.2)])) tf_31 rfl rfl hS29 rfl rfl rfl ?_
          refine wl_move rfl rfl ?_
          obtain ⟨u45, hu45, hF⟩ := bindE hF
          refine wl_call rfl Try.call106 (C_impl_showMoves w27 x0 v0_0 (h0_0.ro hB28) v0_1 (h0_1.ro hB28) y33 _ hu45) rfl ?_
          rintro _ w48 ⟨v46, F47, rfl, hb49, hM52⟩
          refine ⟨_, rfl, ?_⟩
          have hB50 := hB28.trans (hb49.mono hB28.size)
          have hS51 := hS29.join hb49 hM52 hB28.size
          refine wl_lenr (e := ty_123) (l := u45) Try.underlying76 rfl rfl (hS51.own_ro (i := 0) rfl) ?_
          refine wl_move rfl rfl ?_
          refine WL.nil ?_
          refine fun a ha => hK44 _ _ ?_ a ha
          refine W.block ?_
          refine W.loopk (fun m a w53 => ∃ (y56 : Int) (y57 : Int), St 51 [(1, (.pointer (some ⟨b2, 0, none⟩))), (4, v31), (6, (.int .i64 y56)), (17, (.int .i64 (List.length x0.2.1 : Int))), (18, (.int .i64 y33)), (23, v46), (24, (.int .i64 (List.length u45 : Int))), (25, (.int .i64 y57))] a ∧ Below w0.heap.size w0 w53 ∧ Sep w0.heap.size w53 [R.blk b2 31 [v0_0, v0_1, (.int .i64 x0.2.2.1), (.int .i64 x0.2.2.2)], R.own ty_3 F32 v31 l30, R.own ty_123 F47 v46 u45] ∧ F_impl_LeastCountsOf_L2 u45 x0 l30 nx34 y33 m y56 y57 = some r) FU ?_ ?_
          ·
            exact fun a ha => ⟨0, 0, ha.sub ⟨rfl, rfl, rfl, rfl, rfl, rfl, rfl, rfl, trivial⟩, hB50, (hS51.sel [1, 2, 0] rfl), hF⟩
          ·
            rintro m60 a w53 ⟨y56, y57, ha, hB54, hS55, hF⟩ KL59 hKL59
            refine W.at ?_ ha
            cases m60 with
            | zero => exact noneE hF
            | succ m60 =>
              obtain ⟨nx58, hnx58⟩ : ∃ k, k = F_impl_LeastCountsOf_L2 u45 x0 l30 nx34 y33 m60 := ⟨_, rfl⟩
              rw [F_impl_LeastCountsOf_L2, ← hnx58] at hF
              refine W.seq fun K61 hK61 => ?_
              refine W.region ?_
              refine wl_lss rfl rfl rfl ?_
              refine WL.nil ?_
              refine fun a ha => hK61 _ _ ?_ a ha
              refine W.seq fun K62 hK62 => ?_
              refine W.cond rfl (fun h63 => ?_) (fun h63 => ?_)
              · replace hF := ifP h63 hF
                refine W.skip ?_
                refine fun a ha => hK62 _ _ ?_ a ha
                refine W.seq fun K64 hK64 => ?_
                refine W.block ?_
                refine W.seq fun K65 hK65 => ?_
                refine W.region ?_
                obtain ⟨u66, hu66, hF⟩ := bindE hF
                refine wl_indexo (e := ty_123) (i := 2) Try.underlying76 rfl rfl rfl hS55 rfl hu66 ?_
                rintro p67 _ rfl hp68 ho69
                refine wl_load_p (vs := [(.int .i64 u66.1.1), (.int .i64 u66.1.2), (.int .i64 u66.2.1.1), (.int .i64 u66.2.1.2), (.int .i64 u66.2.2)]) (v := (.agg #[(.int .i64 u66.1.1), (.int .i64 u66.1.2), (.int .i64 u66.2.1.1), (.int .i64 u66.2.1.2), (.int .i64 u66.2.2)])) tf_123 rfl rfl hp68 rfl rfl ?_
                refine wl_alloc (cs := [(.int .i64 0), (.int .i64 0), (.int .i64 0), (.int .i64 0), (.int .i64 0)]) tf_123 rfl rfl hB54 hS55 ?_
                intro b70 w71 hb72 hB73 hS74
                refine wl_store_blk (i := 0) (vs := [(.int .i64 u66.1.1), (.int .i64 u66.1.2), (.int .i64 u66.2.1.1), (.int .i64 u66.2.1.2), (.int .i64 u66.2.2)]) (cs' := [(.int .i64 u66.1.1), (.int .i64 u66.1.2), (.int .i64 u66.2.1.1), (.int .i64 u66.2.1.2), (.int .i64 u66.2.2)]) tf_123 rfl rfl rfl rfl hB73 hS74 rfl rfl ⟨rfl, rfl, rfl, rfl, rfl, trivial⟩ rfl ?_
                intro w75 hk78 hB76 hS77
                refine WL.nil ?_
                refine fun a ha => hK65 _ _ ?_ a ha
                refine W.seq fun K79 hK79 => ?_
                refine W.region ?_
                refine wl_field (o := 0) (off' := 0) ff_123_0 rfl rfl rfl ?_
                refine wl_load_blk (i := 0) (vs := [(.int .i64 u66.1.1), (.int .i64 u66.1.2)]) (v := (.agg #[(.int .i64 u66.1.1), (.int .i64 u66.1.2)])) tf_116 rfl rfl hS77 rfl rfl rfl ?_
                refine wl_field (o := 2) (off' := 2) ff_123_1 rfl rfl rfl ?_
                refine wl_load_blk (i := 0) (vs := [(.int .i64 u66.2.1.1), (.int .i64 u66.2.1.2)]) (v := (.agg #[(.int .i64 u66.2.1.1), (.int .i64 u66.2.1.2)])) tf_116 rfl rfl hS77 rfl rfl rfl ?_
                refine wl_field (o := 3) (off' := 3) ff_31_3 rfl rfl rfl ?_
                refine wl_load_blk (i := 1) (vs := [(.int .i64 x0.2.2.2)]) (v := (.int .i64 x0.2.2.2)) tf_3 rfl rfl hS77 rfl rfl rfl ?_
                obtain ⟨u80, hu80, hF⟩ := bindE hF
                refine wl_call rfl Try.call110 (C_impl_LeastCounts w75 u66.1 u66.2.1 x0.2.2.2 _ hu80) rfl ?_
                rintro _ w81 ⟨rfl, hb82⟩
                refine ⟨_, rfl, ?_⟩
                have hB83 := hB76.trans (hb82.mono hB76.size)
                have hS84 := hS77.below hb82
                refine wl_move rfl rfl ?_
                refine wl_extract rfl rfl rfl ?_
                refine wl_extract rfl rfl rfl ?_
                refine wl_assign rfl rfl ?_
                refine wl_assign rfl rfl ?_
                refine WL.nil ?_
                refine fun a ha => hK79 _ _ ?_ a ha
                refine W.seq fun K86 hK86 => ?_
                refine W.seq fun K87 hK87 => ?_
                refine W.region ?_
                refine wl_move rfl rfl ?_
                refine wl_not rfl rfl ?_
                refine WL.nil ?_
                refine fun a ha => hK87 _ _ ?_ a ha
                refine W.cond rfl (fun h88 => ?_) (fun h88 => ?_)
                · replace hF := ifP h88 hF
                  refine W.seq fun K89 hK89 => ?_
                  refine W.region ?_
                  refine wl_assign rfl rfl ?_
                  refine wl_assign rfl rfl ?_
                  refine WL.nil ?_
                  refine fun a ha => hK89 _ _ ?_ a ha
                  refine W.ret ?_
                  have hS90 := hS84.push0 (r := R.own ty_3 [] (.slice none 0 0) []) rfl fun _ => .inl ⟨rfl, rfl, rfl⟩
                  have hr := Option.some.inj hF
                  subst hr
                  exact rets (vs := [(.slice none 0 0), (.bool false)]) hQ rfl ⟨rv_tmp rfl, rv_tmp rfl, trivial⟩ ⟨(.slice none 0 0), [], rfl, hB83, hS90.sel [0] rfl⟩
                · replace hF := ifN h88 hF
                  refine W.skip ?_
                  refine fun a ha => hK86 _ _ ?_ a ha
                  refine W.region ?_
                  refine wl_move rfl rfl ?_
                  refine wl_move rfl rfl ?_
                  refine wl_max rfl rfl rfl ?_
                  refine wl_assign rfl rfl ?_
                  refine WL.nil ?_
                  refine fun a ha => hK64 _ _ ?_ a ha
                  refine W.region ?_
                  refine wl_add rfl rfl rfl ?_
                  refine wl_move rfl rfl ?_
                  refine WL.nil ?_
                  rw [hnx58] at hF
                  exact fun a ha => hKL59 a _ m60 (Nat.lt_succ_self m60) ⟨(maxI y56 u80.1), (w64 (y57 + 1)), ha.sub ⟨rfl, rfl, rfl, rfl, rfl, rfl, rfl, rfl, trivial⟩, hB83, (hS84.sel [1, 2, 3] rfl), hF⟩
              · replace hF := ifN h63 hF
                refine W.exit ?_
                refine fun a ha => hK43 _ _ ?_ a ha
                refine W.region ?_
                refine wl_move rfl rfl ?_
                refine wl_move rfl rfl ?_
                refine wl_lit (vs := [(.int .i64 y56)]) (l := [y56]) fl_3 Try.underlying23 rfl rfl rfl rfl rfl rfl hB54 hS55 ?_
                intro v91 F92 w93 hb94 hB95 hS96
                obtain ⟨u97, hu97, hF⟩ := bindE hF
                refine wl_append (i := 2) (S := (· < w93.heap.size)) fl_3 Try.underlying23 rfl rfl rfl hB95 hS96 rfl (hS96.own_ro (i := 0) rfl) hu97 ?_
                intro v98 F99 w100 hk101 hB102 hS103
                refine wl_assign rfl rfl ?_
                refine WL.nil ?_
                refine fun a ha => hK40 _ _ ?_ a ha
                refine W.region ?_
                refine wl_add rfl rfl rfl ?_
                refine wl_move rfl rfl ?_
                refine WL.nil ?_
                rw [hnx34] at hF
                exact fun a ha => hKL35 a _ m36 (Nat.lt_succ_self m36) ⟨u97, (w64 (y33 + 1)), v98, F99, ha.sub ⟨rfl, rfl, rfl, rfl, trivial⟩, hB102, (hS103.sel [1, 2] rfl), hF⟩
        · replace hF := ifN h39 hF
          refine W.exit ?_
          refine fun a ha => hK25 _ _ ?_ a ha
          refine W.seq fun K104 hK104 => ?_
          refine W.region ?_
          refine wl_move rfl rfl ?_
          refine wl_assign rfl rfl ?_
          refine wl_assign rfl rfl ?_
          refine WL.nil ?_
          refine fun a ha => hK104 _ _ ?_ a ha
          refine W.ret ?_
          have hr := Option.some.inj hF
          subst hr
          exact rets (vs := [v31, (.bool true)]) hQ rfl ⟨rv_tmp rfl, rv_tmp rfl, trivial⟩ ⟨v31, F32, rfl, hB28, hS29.sel [1] rfl⟩
theorem C_laws_FnExactLeastCountsOf (w0 : World) (x0 : ((List (List (Int × Int))) × (List Int) × Int × Int)) (v0_0 : Value) (h0_0 : rdS ty_66 (· < w0.heap.size) w0 v0_0 x0.1) (v0_1 : Value) (h0_1 : rdS ty_3 (· < w0.heap.size) w0 v0_1 x0.2.1) (r : Bool) (hF : F_laws_FnExactLeastCountsOf x0 = some r) :
    Calls Try.prog 11 [(.agg #[v0_0, v0_1, (.int .i64 x0.2.2.1), (.int .i64 x0.2.2.2)])].toArray w0 fun e w' => e = .returned (.bool r) ∧ Below w0.heap.size w0 w' := by
  refine calls_mk' Try.func11 rfl Try.ntmps11 rfl rfl fun Q hQ hP => ?_
  have hB : Below w0.heap.size w0 w0 := Below.refl _ _
  have hS : Sep w0.heap.size w0 [] := Sep.nil _ _
  unfold F_laws_FnExactLeastCountsOf at hF
  refine W.seq fun K1 hK1 => ?_
  refine W.region ?_
  refine wl_box (cs := [v0_0, v0_1, (.int .i64 x0.2.2.1), (.int .i64 x0.2.2.2)]) rfl rfl rfl hB hS ?_
  intro b2 w3 hb4 hB5 hS6
  refine wl_assign rfl rfl ?_
  refine WL.nil ?_
  refine fun a ha => hK1 _ _ ?_ a ha
  refine W.seq fun K7 hK7 => ?_
  refine W.region ?_
  refine wl_assign rfl rfl ?_
  refine WL.nil ?_
  refine fun a ha => hK7 _ _ ?_ a ha
  refine W.seq fun K8 hK8 => ?_
  refine W.region ?_
  refine wl_load_blk (i := 0) (vs := [v0_0, v0_1, (.int .i64 x0.2.2.1), (.int .i64 x0.2.2.2)]) (v := (.agg #[v0_0, v0_1, (.int .i64 x0.2.2.1), (.int .i64 x0.2.2.2)])) tf_25 rfl rfl hS6 rfl rfl rfl ?_
  refine wl_move rfl rfl ?_
  obtain ⟨u9, hu9, hF⟩ := bindE hF
  refine wl_call rfl Try.call15 (C_laws_szShow w3 x0 v0_0 (h0_0.ro hB5) v0_1 (h0_1.ro hB5) 1048576 _ hu9) rfl ?_
  rintro _ w10 ⟨rfl, hb11⟩
  refine ⟨_, rfl, ?_⟩
  have hB12 := hB5.trans (hb11.mono hB5.size)
  have hS13 := hS6.below hb11
  refine wl_assign rfl rfl ?_
  refine WL.nil ?_
  refine fun a ha => hK8 _ _ ?_ a ha
  refine W.seq fun K15 hK15 => ?_
  refine W.seq fun K16 hK16 => ?_
  refine W.region ?_
  refine wl_move rfl rfl ?_
  refine wl_lss rfl rfl rfl ?_
  refine WL.nil ?_
  refine fun a ha => hK16 _ _ ?_ a ha
  refine W.cond rfl (fun h17 => ?_) (fun h17 => ?_)
  · replace hF := ifP h17 hF
    refine W.seq fun K18 hK18 => ?_
    refine W.region ?_
    refine wl_assign rfl rfl ?_
    refine WL.nil ?_
    refine fun a ha => hK18 _ _ ?_ a ha
    refine W.ret ?_
    have hr := Option.some.inj hF
    subst hr
    exact rets (vs := [(.bool true)]) hQ rfl ⟨rv_tmp rfl, trivial⟩ ⟨rfl, hB12⟩
  · replace hF := ifN h17 hF
    refine W.skip ?_
    refine fun a ha => hK15 _ _ ?_ a ha
    refine W.seq fun K19 hK19 => ?_
    refine W.region ?_
    refine wl_load_blk (i := 0) (vs := [v0_0, v0_1, (.int .i64 x0.2.2.1), (.int .i64 x0.2.2.2)]) (v := (.agg #[v0_0, v0_1, (.int .i64 x0.2.2.1), (.int .i64 x0.2.2.2)])) tf_25 rfl rfl hS13 rfl rfl rfl ?_
    obtain ⟨u20, hu20, hF⟩ := bindE hF
    refine wl_call rfl Try.call17 (C_laws_toShow w10 x0 v0_0 (h0_0.ro hB12) v0_1 (h0_1.ro hB12) _ hu20) rfl ?_
    rintro _ w25 ⟨v21, F22, v23, F24, rfl, hb26, hM29⟩
    refine ⟨_, rfl, ?_⟩
    have hB27 := hB12.trans (hb26.mono hB12.size)
    have hS28 := hS13.join hb26 hM29 hB12.size
    obtain ⟨u30, hu30, hF⟩ := bindE hF
    refine wl_call rfl Try.call57 (C_spec_LeastCountsOf w25 u20 v21 (hS28.own_ro (i := 0) rfl) v23 (hS28.own_ro (i := 1) rfl) _ hu30) rfl ?_
    rintro _ w33 ⟨v31, F32, rfl, hb34, hM37⟩
    refine ⟨_, rfl, ?_⟩
    have hB35 := hB27.trans (hb34.mono hB27.size)
    have hS36 := hS28.join hb34 hM37 hB27.size
    refine wl_move rfl rfl ?_
    refine wl_extract rfl rfl rfl ?_
    refine wl_extract rfl rfl rfl ?_
    refine wl_assign rfl rfl ?_
    refine wl_assign rfl rfl ?_
    refine WL.nil ?_
    refine fun a ha => hK19 _ _ ?_ a ha
    refine W.seq fun K38 hK38 => ?_
    refine W.region ?_
    refine wl_load_blk (i := 3) (vs := [v0_0, v0_1, (.int .i64 x0.2.2.1), (.int .i64 x0.2.2.2)]) (v := (.agg #[v0_0, v0_1, (.int .i64 x0.2.2.1), (.int .i64 x0.2.2.2)])) tf_25 rfl rfl hS36 rfl rfl rfl ?_
    obtain ⟨u39, hu39, hF⟩ := bindE hF
    refine wl_call rfl Try.call17 (C_laws_toShow w33 x0 v0_0 (h0_0.ro hB35) v0_1 (h0_1.ro hB35) _ hu39) rfl ?_
    rintro _ w44 ⟨v40, F41, v42, F43, rfl, hb45, hM48⟩
    refine ⟨_, rfl, ?_⟩
    have hB46 := hB35.trans (hb45.mono hB35.size)
    have hS47 := hS36.join hb45 hM48 hB35.size
    refine wl_alloc (cs := [(.slice none 0 0), (.slice none 0 0), (.int .i64 0), (.int .i64 0)]) tf_31 rfl rfl hB46 hS47 ?_
    intro b49 w50 hb51 hB52 hS53
    refine wl_store_blk (i := 0) (vs := [v40, v42, (.int .i64 u39.2.2.1), (.int .i64 u39.2.2.2)]) (cs' := [v40, v42, (.int .i64 u39.2.2.1), (.int .i64 u39.2.2.2)]) tf_31 rfl rfl rfl rfl hB52 hS53 rfl rfl ⟨(hS53.own_ro (i := 1) rfl).one, (hS53.own_ro (i := 2) rfl).one, rfl, rfl, trivial⟩ rfl ?_
    intro w54 hk57 hB55 hS56
    refine WL.nil ?_
    refine fun a ha => hK38 _ _ ?_ a ha
    refine W.seq fun K58 hK58 => ?_
    refine W.region ?_
    refine wl_load_blk (i := 0) (vs := [v40, v42, (.int .i64 u39.2.2.1), (.int .i64 u39.2.2.2)]) (v := (.agg #[v40, v42, (.int .i64 u39.2.2.1), (.int .i64 u39.2.2.2)])) tf_31 rfl rfl hS56 rfl rfl rfl ?_
    obtain ⟨u59, hu59, hF⟩ := bindE hF
    refine wl_call rfl Try.call58 (C_impl_LeastCountsOf w54 u39 v40 (hS56.own_ro (i := 1) rfl) v42 (hS56.own_ro (i := 2) rfl) _ hu59) rfl ?_
    rintro _ w62 ⟨v60, F61, rfl, hb63, hM66⟩
    refine ⟨_, rfl, ?_⟩
    have hB64 := hB55.trans (hb63.mono hB55.size)
    have hS65 := hS56.join hb63 hM66 hB55.size
    refine wl_move rfl rfl ?_
    refine wl_extract rfl rfl rfl ?_
    refine wl_extract rfl rfl rfl ?_
    refine wl_assign rfl rfl ?_
    refine wl_assign rfl rfl ?_
    refine WL.nil ?_
    refine fun a ha => hK58 _ _ ?_ a ha
    refine W.seq fun K67 hK67 => ?_
    refine W.seq fun K68 hK68 => ?_
    obtain ⟨k73, hk73, hF⟩ := jE1 hF
    have hJ74 : ∀ (y72 : Bool) (w69 : World) (_ : k73 y72 = some r) (_ : Below w0.heap.size w0 w69) (_ : Sep w0.heap.size w69 [R.blk b2 25 [v0_0, v0_1, (.int .i64 x0.2.2.1), (.int .i64 x0.2.2.2)], R.own ty_3 F32 v31 u30.1, R.own ty_69 F41 v40 u39.1, R.own ty_3 F43 v42 u39.2.1, R.blk b49 31 [v40, v42, (.int .i64 u39.2.2.1), (.int .i64 u39.2.2.2)], R.own ty_3 F61 v60 u59.1]), ∀ a, St 96 [(1, (.pointer (some ⟨b2, 0, none⟩))), (4, v31), (5, (.bool u30.2)), (6, (.pointer (some ⟨b49, 0, none⟩))), (7, v60), (8, (.bool u59.2)), (40, (.bool y72))] a → K68 a w69 := by
      intro y72 w69 hF hB70 hS71
      subst hk73
      refine fun a ha => hK68 _ _ ?_ a ha
      refine W.cond rfl (fun h75 => ?_) (fun h75 => ?_)
      · replace hF := ifP h75 hF
        refine W.seq fun K76 hK76 => ?_
        refine W.region ?_
        refine wl_assign rfl rfl ?_
        refine WL.nil ?_
        refine fun a ha => hK76 _ _ ?_ a ha
        refine W.ret ?_
        have hr := Option.some.inj hF
        subst hr
        exact rets (vs := [(.bool false)]) hQ rfl ⟨rv_tmp rfl, trivial⟩ ⟨rfl, hB70⟩
      · replace hF := ifN h75 hF
        refine W.skip ?_
        refine fun a ha => hK67 _ _ ?_ a ha
        refine W.seq fun K77 hK77 => ?_
        refine W.seq fun K78 hK78 => ?_
        refine W.regionH mixed_ [] hB70 hS71 ?_
        intro w79 hb80 hB81 hS82
        have hSW83 := KeepX.refl w79 []
        refine WH.takex (i := 0) rfl (by kernel_rfl) (by kernel_rfl) (by kernel_rfl) hP hSW83 ?_
        refine pr_load_blk (i := 4) (vs := [v40, v42, (.int .i64 u39.2.2.1), (.int .i64 u39.2.2.2)]) (v := (.agg #[v40, v42, (.int .i64 u39.2.2.1), (.int .i64 u39.2.2.2)])) tf_31 rfl rfl hS82 rfl rfl rfl (by simp) ?_
        refine WH.takex (i := 1) rfl (by kernel_rfl) (by kernel_rfl) (by kernel_rfl) hP hSW83 ?_
        refine pr_load_blk (i := 0) (vs := [v0_0, v0_1, (.int .i64 x0.2.2.1), (.int .i64 x0.2.2.2)]) (v := (.agg #[v0_0, v0_1, (.int .i64 x0.2.2.1), (.int .i64 x0.2.2.2)])) tf_25 rfl rfl hS82 rfl rfl rfl (by simp) ?_
        refine WH.one (i := 2) (by kernel_rfl) rfl ?_
        obtain ⟨u84, hu84, hF⟩ := bindE hF
        refine wl_call rfl Try.call17 (C_laws_toShow w79 x0 v0_0 (h0_0.ro hB81) v0_1 (h0_1.ro hB81) _ hu84) rfl ?_
        rintro _ w89 ⟨v85, F86, v87, F88, rfl, hb90, hM93⟩
        refine ⟨_, rfl, ?_⟩
        have hB91 := hB81.trans (hb90.mono hB81.size)
        have hS92 := hS82.join hb90 hM93 hB81.size
        have hSW94 := hSW83.ext hb90
        refine WL.nil (WH.ret hSW94 ?_)
        refine WH.one (i := 3) (by kernel_rfl) rfl ?_
        obtain ⟨u95, hu95, hF⟩ := bindE hF
        refine wl_call rfl Try.call20 (C_laws_eqShow w89 u39 v40 (hS92.own_ro (i := 4) rfl) v42 (hS92.own_ro (i := 5) rfl) u84 v85 (hS92.own_ro (i := 0) rfl) v87 (hS92.own_ro (i := 1) rfl) _ hu95) rfl ?_
        rintro _ w96 ⟨rfl, hb97⟩
        refine ⟨_, rfl, ?_⟩
        have hB98 := hB91.trans (hb97.mono hB91.size)
        have hS99 := hS92.below hb97
        have hSW101 := hSW94.ext hb97
        refine WL.nil (WH.ret hSW101 ?_)
        refine WH.takex (i := 4) rfl (by kernel_rfl) (by kernel_rfl) (by kernel_rfl) hP hSW101 ?_
        refine pr_not rfl rfl ?_
        refine WH.done (by kernel_rfl) ?_
        refine fun a ha => hK78 _ _ ?_ a ha
        refine W.cond rfl (fun h102 => ?_) (fun h102 => ?_)
        · replace hF := ifP h102 hF
          refine W.seq fun K103 hK103 => ?_
          refine W.region ?_
          refine wl_assign rfl rfl ?_
          refine WL.nil ?_
          refine fun a ha => hK103 _ _ ?_ a ha
          refine W.ret ?_
          have hr := Option.some.inj hF
          subst hr
          exact rets (vs := [(.bool false)]) hQ rfl ⟨rv_tmp rfl, trivial⟩ ⟨rfl, hB98⟩
        · replace hF := ifN h102 hF
          refine W.skip ?_
          refine fun a ha => hK77 _ _ ?_ a ha
          refine W.seq fun K104 hK104 => ?_
          refine W.region ?_
          refine wl_assign rfl rfl ?_
          refine WL.nil ?_
          refine fun a ha => hK104 _ _ ?_ a ha
          refine W.seq fun K105 hK105 => ?_
          refine W.region ?_
          refine wl_load_blk (i := 6) (vs := [v40, v42, (.int .i64 u39.2.2.1), (.int .i64 u39.2.2.2)]) (v := (.agg #[v40, v42, (.int .i64 u39.2.2.1), (.int .i64 u39.2.2.2)])) tf_31 rfl rfl hS99 rfl rfl rfl ?_
          refine wl_move rfl rfl ?_
          obtain ⟨u106, hu106, hF⟩ := bindE hF
          refine wl_call rfl Try.call21 (C_laws_markShow w96 u39 v40 F41 v42 F43 1 (hS99.sel [4, 5] rfl).base0 _ hu106) rfl ?_
          rintro _ w107 ⟨rfl, hE108, hM109⟩
          refine ⟨_, rfl, ?_⟩
          have hB110 := hS99.mutB [4, 5] rfl (M := [R.own ty_69 F41 v40 u39.1, R.own ty_3 F43 v42 u39.2.1]) rfl (M' := [R.own ty_69 F41 v40 u106.2.1, R.own ty_3 F43 v42 u106.2.2.1]) rfl hB98 hB98.size hE108 hM109
          have hS111 : Sep w0.heap.size w107 [R.own ty_69 F41 v40 u106.2.1, R.own ty_3 F43 v42 u106.2.2.1, R.own ty_69 F86 v85 u84.1, R.own ty_3 F88 v87 u84.2.1, R.blk b2 25 [v0_0, v0_1, (.int .i64 x0.2.2.1), (.int .i64 x0.2.2.2)], R.own ty_3 F32 v31 u30.1, R.blk b49 31 [v40, v42, (.int .i64 u39.2.2.1), (.int .i64 u39.2.2.2)], R.own ty_3 F61 v60 u59.1] := hS99.mut [4, 5] [0, 1, 2, 3, 6, 7] rfl (M := [R.own ty_69 F41 v40 u39.1, R.own ty_3 F43 v42 u39.2.1]) rfl (M' := [R.own ty_69 F41 v40 u106.2.1, R.own ty_3 F43 v42 u106.2.2.1]) rfl hM109
          refine wl_assign rfl rfl ?_
          refine WL.nil ?_
          refine fun a ha => hK105 _ _ ?_ a ha
          refine W.seq fun K112 hK112 => ?_
          refine W.seq fun K113 hK113 => ?_
          obtain ⟨k118, hk118, hF⟩ := jE1 hF
          have hJ119 : ∀ (y117 : Bool) (w114 : World) (_ : k118 y117 = some r) (_ : Below w0.heap.size w0 w114) (_ : Sep w0.heap.size w114 [R.blk b2 25 [v0_0, v0_1, (.int .i64 x0.2.2.1), (.int .i64 x0.2.2.2)], R.own ty_3 F32 v31 u30.1, R.own ty_3 F61 v60 u59.1]), ∀ a, St 96 [(1, (.pointer (some ⟨b2, 0, none⟩))), (4, v31), (5, (.bool u30.2)), (7, v60), (61, (.bool y117))] a → K113 a w114 := by
            intro y117 w114 hF hB115 hS116
            subst hk118
            refine fun a ha => hK113 _ _ ?_ a ha
            refine W.cond rfl (fun h120 => ?_) (fun h120 => ?_)
            · replace hF := ifP h120 hF
              refine W.seq fun K121 hK121 => ?_
              refine W.region ?_
              refine wl_assign rfl rfl ?_
              refine WL.nil ?_
              refine fun a ha => hK121 _ _ ?_ a ha
              refine W.ret ?_
              have hr := Option.some.inj hF
              subst hr
              exact rets (vs := [(.bool false)]) hQ rfl ⟨rv_tmp rfl, trivial⟩ ⟨rfl, hB115⟩
            · replace hF := ifN h120 hF
              refine W.skip ?_
              refine fun a ha => hK112 _ _ ?_ a ha
              refine W.seq fun K122 hK122 => ?_
              refine W.region ?_
              refine wl_assign rfl rfl ?_
              refine WL.nil ?_
              refine fun a ha => hK122 _ _ ?_ a ha
              refine W.seq fun K123 hK123 => ?_
              refine W.region ?_
              refine wl_move rfl rfl ?_
              refine wl_move rfl rfl ?_
              obtain ⟨u124, hu124, hF⟩ := bindE hF
              refine wl_call rfl Try.call22 (C_laws_markIntS w114 u59.1 v60 F61 1 (hS116.sel [2] rfl).base0 _ hu124) rfl ?_
              rintro _ w125 ⟨rfl, hE126, hM127⟩
              refine ⟨_, rfl, ?_⟩
              have hB128 := hS116.mutB [2] rfl (M := [R.own ty_3 F61 v60 u59.1]) rfl (M' := [R.own ty_3 F61 v60 u124.2]) rfl hB115 hB115.size hE126 hM127
              have hS129 : Sep w0.heap.size w125 [R.own ty_3 F61 v60 u124.2, R.blk b2 25 [v0_0, v0_1, (.int .i64 x0.2.2.1), (.int .i64 x0.2.2.2)], R.own ty_3 F32 v31 u30.1] := hS116.mut [2] [0, 1] rfl (M := [R.own ty_3 F61 v60 u59.1]) rfl (M' := [R.own ty_3 F61 v60 u124.2]) rfl hM127
              refine wl_assign rfl rfl ?_
              refine WL.nil ?_
              refine fun a ha => hK123 _ _ ?_ a ha
              refine W.seq fun K130 hK130 => ?_
              refine W.region ?_
              refine wl_assign rfl rfl ?_
              refine WL.nil ?_
              refine fun a ha => hK130 _ _ ?_ a ha
              refine W.seq fun K131 hK131 => ?_
              refine W.region ?_
              refine wl_move rfl rfl ?_
              refine wl_move rfl rfl ?_
              obtain ⟨u132, hu132, hF⟩ := bindE hF
              refine wl_call rfl Try.call23 (C_laws_heldIntS w125 u124.2 v60 (hS129.own_ro (i := 0) rfl) 1 _ hu132) rfl ?_
              rintro _ w133 ⟨rfl, hb134⟩
              refine ⟨_, rfl, ?_⟩
              have hB135 := hB128.trans (hb134.mono hB128.size)
              have hS136 := hS129.below hb134
              refine wl_assign rfl rfl ?_
              refine WL.nil ?_
              refine fun a ha => hK131 _ _ ?_ a ha
              refine W.seq fun K138 hK138 => ?_
              refine W.seq fun K139 hK139 => ?_
              refine W.region ?_
              refine wl_move rfl rfl ?_
              refine wl_lss rfl rfl rfl ?_
              refine WL.nil ?_
              refine fun a ha => hK139 _ _ ?_ a ha
              refine W.cond rfl (fun h140 => ?_) (fun h140 => ?_)
              · replace hF := ifP h140 hF
                refine W.seq fun K141 hK141 => ?_
                refine W.region ?_
                refine wl_assign rfl rfl ?_
                refine WL.nil ?_
                refine fun a ha => hK141 _ _ ?_ a ha
                refine W.ret ?_
                have hr := Option.some.inj hF
                subst hr
                exact rets (vs := [(.bool false)]) hQ rfl ⟨rv_tmp rfl, trivial⟩ ⟨rfl, hB135⟩
              · replace hF := ifN h140 hF
                refine W.skip ?_
                refine fun a ha => hK138 _ _ ?_ a ha
                refine W.seq fun K142 hK142 => ?_
                refine W.seq fun K143 hK143 => ?_
                refine W.region ?_
                refine wl_move rfl rfl ?_
                refine wl_move rfl rfl ?_
                refine wl_neq rfl rfl rfl ?_
                refine WL.nil ?_
                refine fun a ha => hK143 _ _ ?_ a ha
                refine W.cond rfl (fun h144 => ?_) (fun h144 => ?_)
                · replace hF := ifP h144 hF
                  refine W.seq fun K145 hK145 => ?_
                  refine W.region ?_
                  refine wl_assign rfl rfl ?_
                  refine WL.nil ?_
                  refine fun a ha => hK145 _ _ ?_ a ha
                  refine W.ret ?_
                  have hr := Option.some.inj hF
                  subst hr
                  exact rets (vs := [(.bool false)]) hQ rfl ⟨rv_tmp rfl, trivial⟩ ⟨rfl, hB135⟩
                · replace hF := ifN h144 hF
                  refine W.skip ?_
                  refine fun a ha => hK142 _ _ ?_ a ha
                  refine W.seq fun K146 hK146 => ?_
                  refine W.region ?_
                  refine wl_load_blk (i := 1) (vs := [v0_0, v0_1, (.int .i64 x0.2.2.1), (.int .i64 x0.2.2.2)]) (v := (.agg #[v0_0, v0_1, (.int .i64 x0.2.2.1), (.int .i64 x0.2.2.2)])) tf_25 rfl rfl hS136 rfl rfl rfl ?_
                  obtain ⟨u147, hu147, hF⟩ := bindE hF
                  refine wl_call rfl Try.call17 (C_laws_toShow w133 x0 v0_0 (h0_0.ro hB135) v0_1 (h0_1.ro hB135) _ hu147) rfl ?_
                  rintro _ w152 ⟨v148, F149, v150, F151, rfl, hb153, hM156⟩
                  refine ⟨_, rfl, ?_⟩
                  have hB154 := hB135.trans (hb153.mono hB135.size)
                  have hS155 := hS136.join hb153 hM156 hB135.size
                  obtain ⟨u157, hu157, hF⟩ := bindE hF
                  refine wl_call rfl Try.call58 (C_impl_LeastCountsOf w152 u147 v148 (hS155.own_ro (i := 0) rfl) v150 (hS155.own_ro (i := 1) rfl) _ hu157) rfl ?_
                  rintro _ w160 ⟨v158, F159, rfl, hb161, hM164⟩
                  refine ⟨_, rfl, ?_⟩
                  have hB162 := hB154.trans (hb161.mono hB154.size)
                  have hS163 := hS155.join hb161 hM164 hB154.size
                  refine wl_move rfl rfl ?_
                  refine wl_extract rfl rfl rfl ?_
                  refine wl_extract rfl rfl rfl ?_
                  refine wl_assign rfl rfl ?_
                  refine wl_assign rfl rfl ?_
                  refine WL.nil ?_
                  refine fun a ha => hK146 _ _ ?_ a ha
                  refine W.seq fun K165 hK165 => ?_
                  refine W.seq fun K166 hK166 => ?_
                  obtain ⟨k171, hk171, hF⟩ := jE1 hF
                  have hJ172 : ∀ (y170 : Bool) (w167 : World) (_ : k171 y170 = some r) (_ : Below w0.heap.size w0 w167) (_ : Sep w0.heap.size w167 [R.own ty_3 F61 v60 u124.2]), ∀ a, St 96 [(7, v60), (10, (.int .i64 u124.1)), (87, (.bool y170))] a → K166 a w167 := by
                    intro y170 w167 hF hB168 hS169
                    subst hk171
                    refine fun a ha => hK166 _ _ ?_ a ha
                    refine W.cond rfl (fun h173 => ?_) (fun h173 => ?_)
                    · replace hF := ifP h173 hF
                      refine W.seq fun K174 hK174 => ?_
                      refine W.region ?_
                      refine wl_assign rfl rfl ?_
                      refine WL.nil ?_
                      refine fun a ha => hK174 _ _ ?_ a ha
                      refine W.ret ?_
                      have hr := Option.some.inj hF
                      subst hr
                      exact rets (vs := [(.bool false)]) hQ rfl ⟨rv_tmp rfl, trivial⟩ ⟨rfl, hB168⟩
                    · replace hF := ifN h173 hF
                      refine W.skip ?_
                      refine fun a ha => hK165 _ _ ?_ a ha
                      refine W.seq fun K175 hK175 => ?_
                      refine W.region ?_
                      refine wl_assign rfl rfl ?_
                      refine WL.nil ?_
                      refine fun a ha => hK175 _ _ ?_ a ha
                      refine W.seq fun K176 hK176 => ?_
                      refine W.region ?_
                      refine wl_move rfl rfl ?_
                      refine wl_move rfl rfl ?_
                      obtain ⟨u177, hu177, hF⟩ := bindE hF
                      refine wl_call rfl Try.call23 (C_laws_heldIntS w167 u124.2 v60 (hS169.own_ro (i := 0) rfl) 1 _ hu177) rfl ?_
                      rintro _ w178 ⟨rfl, hb179⟩
                      refine ⟨_, rfl, ?_⟩
                      have hB180 := hB168.trans (hb179.mono hB168.size)
                      have hS181 := hS169.below hb179
                      refine wl_assign rfl rfl ?_
                      refine WL.nil ?_
                      refine fun a ha => hK176 _ _ ?_ a ha
                      refine W.seq fun K183 hK183 => ?_
                      refine W.seq fun K184 hK184 => ?_
                      refine W.region ?_
                      refine wl_move rfl rfl ?_
                      refine wl_lss rfl rfl rfl ?_
                      refine WL.nil ?_
                      refine fun a ha => hK184 _ _ ?_ a ha
                      refine W.cond rfl (fun h185 => ?_) (fun h185 => ?_)
                      · replace hF := ifP h185 hF
                        refine W.seq fun K186 hK186 => ?_
                        refine W.region ?_
                        refine wl_assign rfl rfl ?_
                        refine WL.nil ?_
                        refine fun a ha => hK186 _ _ ?_ a ha
                        refine W.ret ?_
                        have hr := Option.some.inj hF
                        subst hr
                        exact rets (vs := [(.bool false)]) hQ rfl ⟨rv_tmp rfl, trivial⟩ ⟨rfl, hB180⟩
                      · replace hF := ifN h185 hF
                        refine W.skip ?_
                        refine fun a ha => hK183 _ _ ?_ a ha
                        refine W.seq fun K187 hK187 => ?_
                        refine W.seq fun K188 hK188 => ?_
                        refine W.region ?_
                        refine wl_move rfl rfl ?_
                        refine wl_move rfl rfl ?_
                        refine wl_neq rfl rfl rfl ?_
                        refine WL.nil ?_
                        refine fun a ha => hK188 _ _ ?_ a ha
                        refine W.cond rfl (fun h189 => ?_) (fun h189 => ?_)
                        · replace hF := ifP h189 hF
                          refine W.seq fun K190 hK190 => ?_
                          refine W.region ?_
                          refine wl_assign rfl rfl ?_
                          refine WL.nil ?_
                          refine fun a ha => hK190 _ _ ?_ a ha
                          refine W.ret ?_
                          have hr := Option.some.inj hF
                          subst hr
                          exact rets (vs := [(.bool false)]) hQ rfl ⟨rv_tmp rfl, trivial⟩ ⟨rfl, hB180⟩
                        · replace hF := ifN h189 hF
                          refine W.skip ?_
                          refine fun a ha => hK187 _ _ ?_ a ha
                          refine W.seq fun K191 hK191 => ?_
                          refine W.region ?_
                          refine wl_assign rfl rfl ?_
                          refine WL.nil ?_
                          refine fun a ha => hK191 _ _ ?_ a ha
                          refine W.ret ?_
                          have hr := Option.some.inj hF
                          subst hr
                          exact rets (vs := [(.bool true)]) hQ rfl ⟨rv_tmp rfl, trivial⟩ ⟨rfl, hB180⟩
                  refine W.region ?_
                  refine wl_move rfl rfl ?_
                  refine wl_move rfl rfl ?_
                  obtain ⟨u192, hu192, hF⟩ := bindE hF
                  refine wl_call rfl Try.call19 (C_laws_eqIntS w160 u157.1 v158 (hS163.own_ro (i := 0) rfl) u30.1 v31 (hS163.own_ro (i := 5) rfl) _ hu192) rfl ?_
                  rintro _ w193 ⟨rfl, hb194⟩
                  refine ⟨_, rfl, ?_⟩
                  have hB195 := hB162.trans (hb194.mono hB162.size)
                  have hS196 := hS163.below hb194
                  refine wl_not rfl rfl ?_
                  refine wl_move rfl rfl ?_
                  rcases bE (!u192) with h198 | h198
                  · replace hF := ifP h198 hF
                    refine wl_off rfl rfl rfl h198 ?_
                    refine wl_off rfl rfl rfl h198 ?_
                    refine wl_off rfl rfl rfl h198 ?_
                    refine wl_pick_t rfl rfl h198 rfl ?_
                    refine WL.nil ?_
                    exact fun a ha => hJ172 (true) _ hF hB195 (hS196.sel [3] rfl) a (ha.sub ⟨rfl, rfl, rfl, trivial⟩)
                  · replace hF := ifN h198 hF
                    refine wl_on rfl rfl h198 ?_
                    refine wl_move rfl rfl ?_
                    refine wl_on rfl rfl h198 ?_
                    refine wl_move rfl rfl ?_
                    refine wl_on rfl rfl h198 ?_
                    refine wl_neqb Try.underlying4 rfl rfl rfl ?_
                    refine wl_pick_f rfl rfl h198 rfl ?_
                    refine WL.nil ?_
                    exact fun a ha => hJ172 ((u157.2 != u30.2)) _ hF hB195 (hS196.sel [3] rfl) a (ha.sub ⟨rfl, rfl, rfl, trivial⟩)
          refine W.region ?_
          refine wl_move rfl rfl ?_
          refine wl_lss rfl rfl rfl ?_
          refine wl_move rfl rfl ?_
          rcases bE (decide (u106.1 < 0)) with h199 | h199
          · replace hF := ifP h199 hF
            refine wl_off rfl rfl rfl h199 ?_
            refine wl_off rfl rfl rfl h199 ?_
            refine wl_off rfl rfl rfl h199 ?_
            refine wl_off rfl rfl rfl h199 ?_
            refine wl_pick_t rfl rfl h199 rfl ?_
            refine wl_move rfl rfl ?_
            refine wl_off rfl rfl rfl rfl ?_
            refine wl_off rfl rfl rfl rfl ?_
            refine wl_off rfl rfl rfl rfl ?_
            refine wl_pick_t rfl rfl rfl rfl ?_
            refine WL.nil ?_
            exact fun a ha => hJ119 (true) _ hF hB110 (hS111.sel [4, 5, 7] rfl) a (ha.sub ⟨rfl, rfl, rfl, rfl, rfl, trivial⟩)
          · replace hF := ifN h199 hF
            refine wl_on rfl rfl h199 ?_
            refine wl_move rfl rfl ?_
            refine wl_on rfl rfl h199 ?_
            refine wl_move rfl rfl ?_
            refine wl_on rfl rfl h199 ?_
            obtain ⟨u200, hu200, hF⟩ := bindE hF
            refine wl_call rfl Try.call19 (C_laws_eqIntS w107 u59.1 v60 (hS111.own_ro (i := 7) rfl) u30.1 v31 (hS111.own_ro (i := 5) rfl) _ hu200) rfl ?_
            rintro _ w201 ⟨rfl, hb202⟩
            refine ⟨_, rfl, ?_⟩
            have hB203 := hB110.trans (hb202.mono hB110.size)
            have hS204 := hS111.below hb202
            refine wl_on rfl rfl h199 ?_
            refine wl_not rfl rfl ?_
            refine wl_pick_f rfl rfl h199 rfl ?_
            refine wl_move rfl rfl ?_
            rcases bE (!u200) with h206 | h206
            · replace hF := ifP h206 hF
              refine wl_off rfl rfl rfl h206 ?_
              refine wl_off rfl rfl rfl h206 ?_
              refine wl_off rfl rfl rfl h206 ?_
              refine wl_pick_t rfl rfl h206 rfl ?_
              refine WL.nil ?_
              exact fun a ha => hJ119 (true) _ hF hB203 (hS204.sel [4, 5, 7] rfl) a (ha.sub ⟨rfl, rfl, rfl, rfl, rfl, trivial⟩)
            · replace hF := ifN h206 hF
              refine wl_on rfl rfl h206 ?_
              refine wl_move rfl rfl ?_
              refine wl_on rfl rfl h206 ?_
              refine wl_move rfl rfl ?_
              refine wl_on rfl rfl h206 ?_
              refine wl_neqb Try.underlying4 rfl rfl rfl ?_
              refine wl_pick_f rfl rfl h206 rfl ?_
              refine WL.nil ?_
              exact fun a ha => hJ119 ((u59.2 != u30.2)) _ hF hB203 (hS204.sel [4, 5, 7] rfl) a (ha.sub ⟨rfl, rfl, rfl, rfl, rfl, trivial⟩)
    refine W.region ?_
    refine wl_move rfl rfl ?_
    refine wl_move rfl rfl ?_
    obtain ⟨u207, hu207, hF⟩ := bindE hF
    refine wl_call rfl Try.call19 (C_laws_eqIntS w62 u59.1 v60 (hS65.own_ro (i := 0) rfl) u30.1 v31 (hS65.own_ro (i := 4) rfl) _ hu207) rfl ?_
    rintro _ w208 ⟨rfl, hb209⟩
    refine ⟨_, rfl, ?_⟩
    have hB210 := hB64.trans (hb209.mono hB64.size)
    have hS211 := hS65.below hb209
    refine wl_not rfl rfl ?_
    refine wl_move rfl rfl ?_
    rcases bE (!u207) with h213 | h213
    · replace hF := ifP h213 hF
      refine wl_off rfl rfl rfl h213 ?_
      refine wl_off rfl rfl rfl h213 ?_
      refine wl_off rfl rfl rfl h213 ?_
      refine wl_pick_t rfl rfl h213 rfl ?_
      refine WL.nil ?_
      exact fun a ha => hJ74 (true) _ hF hB210 (hS211.sel [7, 4, 2, 3, 1, 0] rfl) a (ha.sub ⟨rfl, rfl, rfl, rfl, rfl, rfl, rfl, trivial⟩)
    · replace hF := ifN h213 hF
      refine wl_on rfl rfl h213 ?_
      refine wl_move rfl rfl ?_
      refine wl_on rfl rfl h213 ?_
      refine wl_move rfl rfl ?_
      refine wl_on rfl rfl h213 ?_
      refine wl_neqb Try.underlying4 rfl rfl rfl ?_
      refine wl_pick_f rfl rfl h213 rfl ?_
      refine WL.nil ?_
      exact fun a ha => hJ74 ((u59.2 != u30.2)) _ hF hB210 (hS211.sel [7, 4, 2, 3, 1, 0] rfl) a (ha.sub ⟨rfl, rfl, rfl, rfl, rfl, rfl, rfl, trivial⟩)
end Go.Proofs.Ytadklddedeoniaa
