/-
  THE WALKS of functions of this seat, by program (gen.py, prune.py).
-/
import Derived.Test.YtadklddedeoniaaH
set_option linter.unusedSimpArgs false
set_option linter.unusedVariables false
set_option maxRecDepth 100000
namespace Go.Proofs.Ytadklddedeoniaa
open Go Go.RowKit
theorem C_laws_szSpotS (w0 : World) (x0 : (List (Int × Int))) (v0_0 : Value) (h0_0 : rdS ty_118 (· < w0.heap.size) w0 v0_0 x0) (x1 : Int) (r : Int) (hF : F_laws_szSpotS x0 x1 = some r) :
    Calls Try.prog 44 [v0_0, (.int .i64 x1)].toArray w0 fun e w' => e = .returned (.int .i64 r) ∧ Below w0.heap.size w0 w' := by
  refine calls_mk' Try.func44 rfl Try.ntmps44 rfl rfl fun Q hQ hP => ?_
  have hB : Below w0.heap.size w0 w0 := Below.refl _ _
  have hS : Sep w0.heap.size w0 [] := Sep.nil _ _
  unfold F_laws_szSpotS at hF
  refine W.seq fun K1 hK1 => ?_
  refine W.region ?_
  refine wl_assign rfl rfl ?_
  refine WL.nil ?_
  refine fun a ha => hK1 _ _ ?_ a ha
  refine W.seq fun K2 hK2 => ?_
  refine W.region ?_
  refine wl_move rfl rfl ?_
  refine wl_move rfl rfl ?_
  refine wl_lenr (e := ty_118) (l := x0) Try.underlying66 rfl rfl h0_0 ?_
  refine wl_sub rfl rfl rfl ?_
  refine wl_assign rfl rfl ?_
  refine WL.nil ?_
  refine fun a ha => hK2 _ _ ?_ a ha
  refine W.seq fun K3 hK3 => ?_
  refine W.seq fun K4 hK4 => ?_
  refine W.region ?_
  refine wl_move rfl rfl ?_
  refine wl_lss rfl rfl rfl ?_
  refine WL.nil ?_
  refine fun a ha => hK4 _ _ ?_ a ha
  refine W.cond rfl (fun h5 => ?_) (fun h5 => ?_)
  · replace hF := ifP h5 hF
    refine W.seq fun K6 hK6 => ?_
    refine W.region ?_
    refine wl_assign rfl rfl ?_
    refine WL.nil ?_
    refine fun a ha => hK6 _ _ ?_ a ha
    refine W.ret ?_
    have hr := Option.some.inj hF
    subst hr
    exact rets (vs := [(.int .i64 (-1))]) hQ rfl ⟨rv_tmp rfl, trivial⟩ ⟨rfl, hB⟩
  · replace hF := ifN h5 hF
    refine W.skip ?_
    refine fun a ha => hK3 _ _ ?_ a ha
    refine W.seq fun K7 hK7 => ?_
    refine W.region ?_
    refine wl_move rfl rfl ?_
    refine wl_assign rfl rfl ?_
    refine WL.nil ?_
    refine fun a ha => hK7 _ _ ?_ a ha
    refine W.ret ?_
    have hr := Option.some.inj hF
    subst hr
    exact rets (vs := [(.int .i64 (w64 (x1 - (List.length x0 : Int))))]) hQ rfl ⟨rv_tmp rfl, trivial⟩ ⟨rfl, hB⟩
theorem C_laws_szSpotSS (w0 : World) (x0 : (List (List (Int × Int)))) (v0_0 : Value) (h0_0 : rdS ty_66 (· < w0.heap.size) w0 v0_0 x0) (x1 : Int) (r : Int) (hF : F_laws_szSpotSS x0 x1 = some r) :
    Calls Try.prog 67 [v0_0, (.int .i64 x1)].toArray w0 fun e w' => e = .returned (.int .i64 r) ∧ Below w0.heap.size w0 w' := by
  refine calls_mk' Try.func67 rfl Try.ntmps67 rfl rfl fun Q hQ hP => ?_
  have hB : Below w0.heap.size w0 w0 := Below.refl _ _
  have hS : Sep w0.heap.size w0 [] := Sep.nil _ _
  unfold F_laws_szSpotSS at hF
  refine W.seq fun K1 hK1 => ?_
  refine W.region ?_
  refine wl_assign rfl rfl ?_
  refine WL.nil ?_
  refine fun a ha => hK1 _ _ ?_ a ha
  refine W.seq fun K2 hK2 => ?_
  refine W.region ?_
  refine wl_move rfl rfl ?_
  refine wl_move rfl rfl ?_
  refine wl_lenr (e := ty_66) (l := x0) Try.underlying22 rfl rfl h0_0 ?_
  refine wl_sub rfl rfl rfl ?_
  refine wl_assign rfl rfl ?_
  refine WL.nil ?_
  refine fun a ha => hK2 _ _ ?_ a ha
  refine W.seq fun K3 hK3 => ?_
  refine W.seq fun K4 hK4 => ?_
  refine W.region ?_
  refine wl_move rfl rfl ?_
  refine wl_lss rfl rfl rfl ?_
  refine WL.nil ?_
  refine fun a ha => hK4 _ _ ?_ a ha
  refine W.cond rfl (fun h5 => ?_) (fun h5 => ?_)
  · replace hF := ifP h5 hF
    refine W.seq fun K6 hK6 => ?_
    refine W.region ?_
    refine wl_assign rfl rfl ?_
    refine WL.nil ?_
    refine fun a ha => hK6 _ _ ?_ a ha
    refine W.ret ?_
    have hr := Option.some.inj hF
    subst hr
    exact rets (vs := [(.int .i64 (-1))]) hQ rfl ⟨rv_tmp rfl, trivial⟩ ⟨rfl, hB⟩
  · replace hF := ifN h5 hF
    refine W.skip ?_
    refine fun a ha => hK3 _ _ ?_ a ha
    refine W.seq fun K7 hK7 => ?_
    refine W.seq fun K8 hK8 => ?_
    refine W.region ?_
    refine wl_assign rfl rfl ?_
    refine WL.nil ?_
    refine fun a ha => hK8 _ _ ?_ a ha
    refine W.block ?_
    refine W.loopk (fun m a w9 => ∃ (y12 : Int) (y13 : Int), St 27 [(0, v0_0), (1, (.int .i64 y12)), (5, (.int .i64 y13))] a ∧ Below w0.heap.size w0 w9 ∧ Sep w0.heap.size w9 [] ∧ F_laws_szSpotSS_L1 x0 m y12 y13 = some r) FU ?_ ?_
    ·
      exact fun a ha => ⟨(w64 (x1 - (List.length x0 : Int))), 0, ha.sub ⟨rfl, rfl, rfl, trivial⟩, hB, (hS.sel [] rfl), hF⟩
    ·
      rintro m16 a w9 ⟨y12, y13, ha, hB10, hS11, hF⟩ KL15 hKL15
      refine W.at ?_ ha
      cases m16 with
      | zero => exact noneE hF
      | succ m16 =>
        obtain ⟨nx14, hnx14⟩ : ∃ k, k = F_laws_szSpotSS_L1 x0 m16 := ⟨_, rfl⟩
        rw [F_laws_szSpotSS_L1, ← hnx14] at hF
        refine W.seq fun K17 hK17 => ?_
        refine W.seq fun K18 hK18 => ?_
        refine W.region ?_
        refine wl_move rfl rfl ?_
        refine wl_move rfl rfl ?_
        refine wl_lenr (e := ty_66) (l := x0) Try.underlying22 rfl rfl h0_0 ?_
        refine wl_lss rfl rfl rfl ?_
        refine WL.nil ?_
        refine fun a ha => hK18 _ _ ?_ a ha
        refine W.cond rfl (fun h19 => ?_) (fun h19 => ?_)
        · replace hF := ifP h19 hF
          refine W.skip ?_
          refine fun a ha => hK17 _ _ ?_ a ha
          refine W.seq fun K20 hK20 => ?_
          refine W.block ?_
          refine W.seq fun K21 hK21 => ?_
          refine W.region ?_
          refine wl_move rfl rfl ?_
          refine wl_move rfl rfl ?_
          obtain ⟨u22, hu22, hF⟩ := bindE hF
          refine wl_index (e := ty_66) Try.underlying22 rfl rfl rfl h0_0 hu22 ?_
          rintro p23 _ ⟨v25, rfl, hv26⟩ hp24
          refine wl_load_p (vs := [v25]) (v := v25) tf_66 rfl rfl (hp24.ro hB10) rfl rfl ?_
          refine wl_move rfl rfl ?_
          obtain ⟨u27, hu27, hF⟩ := bindE hF
          refine wl_call rfl Try.call44 (C_laws_szSpotS w9 u22 v25 (hv26.ro hB10) y12 _ hu27) rfl ?_
          rintro _ w28 ⟨rfl, hb29⟩
          refine ⟨_, rfl, ?_⟩
          have hB30 := hB10.trans (hb29.mono hB10.size)
          have hS31 := hS11.below hb29
          refine wl_assign rfl rfl ?_
          refine WL.nil ?_
          refine fun a ha => hK21 _ _ ?_ a ha
          refine W.seq fun K33 hK33 => ?_
          refine W.region ?_
          refine wl_move rfl rfl ?_
          refine wl_lss rfl rfl rfl ?_
          refine WL.nil ?_
          refine fun a ha => hK33 _ _ ?_ a ha
          refine W.cond rfl (fun h34 => ?_) (fun h34 => ?_)
          · replace hF := ifP h34 hF
            refine W.seq fun K35 hK35 => ?_
            refine W.region ?_
            refine wl_assign rfl rfl ?_
            refine WL.nil ?_
            refine fun a ha => hK35 _ _ ?_ a ha
            refine W.ret ?_
            have hr := Option.some.inj hF
            subst hr
            exact rets (vs := [(.int .i64 (-1))]) hQ rfl ⟨rv_tmp rfl, trivial⟩ ⟨rfl, hB30⟩
          · replace hF := ifN h34 hF
            refine W.skip ?_
            refine fun a ha => hK20 _ _ ?_ a ha
            refine W.region ?_
            refine wl_move rfl rfl ?_
            refine wl_add rfl rfl rfl ?_
            refine wl_assign rfl rfl ?_
            refine WL.nil ?_
            rw [hnx14] at hF
            exact fun a ha => hKL15 a _ m16 (Nat.lt_succ_self m16) ⟨u27, (w64 (y13 + 1)), ha.sub ⟨rfl, rfl, rfl, trivial⟩, hB30, (hS31.sel [] rfl), hF⟩
        · replace hF := ifN h19 hF
          refine W.exit ?_
          refine fun a ha => hK7 _ _ ?_ a ha
          refine W.seq fun K36 hK36 => ?_
          refine W.region ?_
          refine wl_move rfl rfl ?_
          refine wl_assign rfl rfl ?_
          refine WL.nil ?_
          refine fun a ha => hK36 _ _ ?_ a ha
          refine W.ret ?_
          have hr := Option.some.inj hF
          subst hr
          exact rets (vs := [(.int .i64 y12)]) hQ rfl ⟨rv_tmp rfl, trivial⟩ ⟨rfl, hB10⟩
theorem C_laws_szIntS (w0 : World) (x0 : (List Int)) (v0_0 : Value) (h0_0 : rdS ty_3 (· < w0.heap.size) w0 v0_0 x0) (x1 : Int) (r : Int) (hF : F_laws_szIntS x0 x1 = some r) :
    Calls Try.prog 68 [v0_0, (.int .i64 x1)].toArray w0 fun e w' => e = .returned (.int .i64 r) ∧ Below w0.heap.size w0 w' := by
  refine calls_mk' Try.func68 rfl Try.ntmps68 rfl rfl fun Q hQ hP => ?_
  have hB : Below w0.heap.size w0 w0 := Below.refl _ _
  have hS : Sep w0.heap.size w0 [] := Sep.nil _ _
  unfold F_laws_szIntS at hF
  refine W.seq fun K1 hK1 => ?_
  refine W.region ?_
  refine wl_assign rfl rfl ?_
  refine WL.nil ?_
  refine fun a ha => hK1 _ _ ?_ a ha
  refine W.seq fun K2 hK2 => ?_
  refine W.region ?_
  refine wl_move rfl rfl ?_
  refine wl_move rfl rfl ?_
  refine wl_lenr (e := ty_3) (l := x0) Try.underlying23 rfl rfl h0_0 ?_
  refine wl_sub rfl rfl rfl ?_
  refine wl_assign rfl rfl ?_
  refine WL.nil ?_
  refine fun a ha => hK2 _ _ ?_ a ha
  refine W.seq fun K3 hK3 => ?_
  refine W.seq fun K4 hK4 => ?_
  refine W.region ?_
  refine wl_move rfl rfl ?_
  refine wl_lss rfl rfl rfl ?_
  refine WL.nil ?_
  refine fun a ha => hK4 _ _ ?_ a ha
  refine W.cond rfl (fun h5 => ?_) (fun h5 => ?_)
  · replace hF := ifP h5 hF
    refine W.seq fun K6 hK6 => ?_
    refine W.region ?_
    refine wl_assign rfl rfl ?_
    refine WL.nil ?_
    refine fun a ha => hK6 _ _ ?_ a ha
    refine W.ret ?_
    have hr := Option.some.inj hF
    subst hr
    exact rets (vs := [(.int .i64 (-1))]) hQ rfl ⟨rv_tmp rfl, trivial⟩ ⟨rfl, hB⟩
  · replace hF := ifN h5 hF
    refine W.skip ?_
    refine fun a ha => hK3 _ _ ?_ a ha
    refine W.seq fun K7 hK7 => ?_
    refine W.region ?_
    refine wl_move rfl rfl ?_
    refine wl_assign rfl rfl ?_
    refine WL.nil ?_
    refine fun a ha => hK7 _ _ ?_ a ha
    refine W.ret ?_
    have hr := Option.some.inj hF
    subst hr
    exact rets (vs := [(.int .i64 (w64 (x1 - (List.length x0 : Int))))]) hQ rfl ⟨rv_tmp rfl, trivial⟩ ⟨rfl, hB⟩
theorem C_laws_szShow (w0 : World) (x0 : ((List (List (Int × Int))) × (List Int) × Int × Int)) (v0_0 : Value) (h0_0 : rdS ty_66 (· < w0.heap.size) w0 v0_0 x0.1) (v0_1 : Value) (h0_1 : rdS ty_3 (· < w0.heap.size) w0 v0_1 x0.2.1) (x1 : Int) (r : Int) (hF : F_laws_szShow x0 x1 = some r) :
    Calls Try.prog 15 [(.agg #[v0_0, v0_1, (.int .i64 x0.2.2.1), (.int .i64 x0.2.2.2)]), (.int .i64 x1)].toArray w0 fun e w' => e = .returned (.int .i64 r) ∧ Below w0.heap.size w0 w' := by
  refine calls_mk' Try.func15 rfl Try.ntmps15 rfl rfl fun Q hQ hP => ?_
  have hB : Below w0.heap.size w0 w0 := Below.refl _ _
  have hS : Sep w0.heap.size w0 [] := Sep.nil _ _
  unfold F_laws_szShow at hF
  refine W.seq fun K1 hK1 => ?_
  refine W.region ?_
  refine wl_box (cs := [v0_0, v0_1, (.int .i64 x0.2.2.1), (.int .i64 x0.2.2.2)]) rfl rfl rfl hB hS ?_
  intro b2 w3 hb4 hB5 hS6
  refine wl_assign rfl rfl ?_
  refine WL.nil ?_
  refine fun a ha => hK1 _ _ ?_ a ha
  refine W.seq fun K7 hK7 => ?_
  refine W.region ?_
  refine wl_field (o := 0) (off' := 0) ff_25_0 rfl rfl rfl ?_
  refine wl_load_blk (i := 0) (vs := [v0_0]) (v := v0_0) tf_22 rfl rfl hS6 rfl rfl rfl ?_
  refine wl_move rfl rfl ?_
  obtain ⟨u8, hu8, hF⟩ := bindE hF
  refine wl_call rfl Try.call67 (C_laws_szSpotSS w3 x0.1 v0_0 (h0_0.ro hB5) x1 _ hu8) rfl ?_
  rintro _ w9 ⟨rfl, hb10⟩
  refine ⟨_, rfl, ?_⟩
  have hB11 := hB5.trans (hb10.mono hB5.size)
  have hS12 := hS6.below hb10
  refine wl_assign rfl rfl ?_
  refine WL.nil ?_
  refine fun a ha => hK7 _ _ ?_ a ha
  refine W.seq fun K14 hK14 => ?_
  refine W.seq fun K15 hK15 => ?_
  refine W.region ?_
  refine wl_move rfl rfl ?_
  refine wl_lss rfl rfl rfl ?_
  refine WL.nil ?_
  refine fun a ha => hK15 _ _ ?_ a ha
  refine W.cond rfl (fun h16 => ?_) (fun h16 => ?_)
  · replace hF := ifP h16 hF
    refine W.seq fun K17 hK17 => ?_
    refine W.region ?_
    refine wl_assign rfl rfl ?_
    refine WL.nil ?_
    refine fun a ha => hK17 _ _ ?_ a ha
    refine W.ret ?_
    have hr := Option.some.inj hF
    subst hr
    exact rets (vs := [(.int .i64 (-1))]) hQ rfl ⟨rv_tmp rfl, trivial⟩ ⟨rfl, hB11⟩
  · replace hF := ifN h16 hF
    refine W.skip ?_
    refine fun a ha => hK14 _ _ ?_ a ha
    refine W.seq fun K18 hK18 => ?_
    refine W.region ?_
    refine wl_field (o := 1) (off' := 1) ff_25_1 rfl rfl rfl ?_
    refine wl_load_blk (i := 0) (vs := [v0_1]) (v := v0_1) tf_23 rfl rfl hS12 rfl rfl rfl ?_
    refine wl_move rfl rfl ?_
    obtain ⟨u19, hu19, hF⟩ := bindE hF
    refine wl_call rfl Try.call68 (C_laws_szIntS w9 x0.2.1 v0_1 (h0_1.ro hB11) u8 _ hu19) rfl ?_
    rintro _ w20 ⟨rfl, hb21⟩
    refine ⟨_, rfl, ?_⟩
    have hB22 := hB11.trans (hb21.mono hB11.size)
    have hS23 := hS12.below hb21
    refine wl_assign rfl rfl ?_
    refine WL.nil ?_
    refine fun a ha => hK18 _ _ ?_ a ha
    refine W.seq fun K25 hK25 => ?_
    refine W.seq fun K26 hK26 => ?_
    refine W.region ?_
    refine wl_move rfl rfl ?_
    refine wl_lss rfl rfl rfl ?_
    refine WL.nil ?_
    refine fun a ha => hK26 _ _ ?_ a ha
    refine W.cond rfl (fun h27 => ?_) (fun h27 => ?_)
    · replace hF := ifP h27 hF
      refine W.seq fun K28 hK28 => ?_
      refine W.region ?_
      refine wl_assign rfl rfl ?_
      refine WL.nil ?_
      refine fun a ha => hK28 _ _ ?_ a ha
      refine W.ret ?_
      have hr := Option.some.inj hF
      subst hr
      exact rets (vs := [(.int .i64 (-1))]) hQ rfl ⟨rv_tmp rfl, trivial⟩ ⟨rfl, hB22⟩
    · replace hF := ifN h27 hF
      refine W.skip ?_
      refine fun a ha => hK25 _ _ ?_ a ha
      refine W.seq fun K29 hK29 => ?_
      refine W.region ?_
      refine wl_move rfl rfl ?_
      refine wl_assign rfl rfl ?_
      refine WL.nil ?_
      refine fun a ha => hK29 _ _ ?_ a ha
      refine W.ret ?_
      have hr := Option.some.inj hF
      subst hr
      exact rets (vs := [(.int .i64 u19)]) hQ rfl ⟨rv_tmp rfl, trivial⟩ ⟨rfl, hB22⟩
theorem C_laws_toSpot (w0 : World) (x0 : (Int × Int)) (r : (Int × Int)) (hF : F_laws_toSpot x0 = some r) :
    Calls Try.prog 102 [(.agg #[(.int .i64 x0.1), (.int .i64 x0.2)])].toArray w0 fun e w' => e = .returned (.agg #[(.int .i64 r.1), (.int .i64 r.2)]) ∧ Below w0.heap.size w0 w' := by
  refine calls_mk' Try.func102 rfl Try.ntmps102 rfl rfl fun Q hQ hP => ?_
  have hB : Below w0.heap.size w0 w0 := Below.refl _ _
  have hS : Sep w0.heap.size w0 [] := Sep.nil _ _
  unfold F_laws_toSpot at hF
  refine W.seq fun K1 hK1 => ?_
  refine W.region ?_
  refine wl_box (cs := [(.int .i64 x0.1), (.int .i64 x0.2)]) rfl rfl rfl hB hS ?_
  intro b2 w3 hb4 hB5 hS6
  refine wl_alloc (cs := [(.int .i64 0), (.int .i64 0)]) tf_116 rfl rfl hB5 hS6 ?_
  intro b7 w8 hb9 hB10 hS11
  refine WL.nil ?_
  refine fun a ha => hK1 _ _ ?_ a ha
  refine W.seq fun K12 hK12 => ?_
  refine W.region ?_
  refine wl_alloc (cs := [(.int .i64 0), (.int .i64 0)]) tf_116 rfl rfl hB10 hS11 ?_
  intro b13 w14 hb15 hB16 hS17
  refine WL.nil ?_
  refine fun a ha => hK12 _ _ ?_ a ha
  refine W.seq fun K18 hK18 => ?_
  refine W.region ?_
  refine wl_field (o := 0) (off' := 0) ff_118_0 rfl rfl rfl ?_
  refine wl_load_blk (i := 2) (vs := [(.int .i64 x0.1)]) (v := (.int .i64 x0.1)) tf_3 rfl rfl hS17 rfl rfl rfl ?_
  refine wl_field (o := 0) (off' := 0) ff_116_0 rfl rfl rfl ?_
  refine wl_store_blk (i := 0) (vs := [(.int .i64 x0.1)]) (cs' := [(.int .i64 x0.1), (.int .i64 0)]) tf_3 rfl rfl rfl rfl hB16 hS17 rfl rfl ⟨rfl, trivial⟩ rfl ?_
  intro w19 hk22 hB20 hS21
  refine WL.nil ?_
  refine fun a ha => hK18 _ _ ?_ a ha
  refine W.seq fun K23 hK23 => ?_
  refine W.region ?_
  refine wl_field (o := 1) (off' := 1) ff_118_1 rfl rfl rfl ?_
  refine wl_load_blk (i := 2) (vs := [(.int .i64 x0.2)]) (v := (.int .i64 x0.2)) tf_3 rfl rfl hS21 rfl rfl rfl ?_
  refine wl_field (o := 1) (off' := 1) ff_116_1 rfl rfl rfl ?_
  refine wl_store_blk (i := 0) (vs := [(.int .i64 x0.2)]) (cs' := [(.int .i64 x0.1), (.int .i64 x0.2)]) tf_3 rfl rfl rfl rfl hB20 hS21 rfl rfl ⟨rfl, trivial⟩ rfl ?_
  intro w24 hk27 hB25 hS26
  refine WL.nil ?_
  refine fun a ha => hK23 _ _ ?_ a ha
  refine W.seq fun K28 hK28 => ?_
  refine W.region ?_
  refine wl_load_blk (i := 0) (vs := [(.int .i64 x0.1), (.int .i64 x0.2)]) (v := (.agg #[(.int .i64 x0.1), (.int .i64 x0.2)])) tf_116 rfl rfl hS26 rfl rfl rfl ?_
  refine wl_store_blk (i := 1) (vs := [(.int .i64 x0.1), (.int .i64 x0.2)]) (cs' := [(.int .i64 x0.1), (.int .i64 x0.2)]) tf_116 rfl rfl rfl rfl hB25 hS26 rfl rfl ⟨rfl, rfl, trivial⟩ rfl ?_
  intro w29 hk32 hB30 hS31
  refine WL.nil ?_
  refine fun a ha => hK28 _ _ ?_ a ha
  refine W.ret ?_
  have hr := Option.some.inj hF
  subst hr
  exact rets (vs := [(.agg #[(.int .i64 x0.1), (.int .i64 x0.2)])]) hQ rfl ⟨rv_cell (i := 1) tf_116 rfl hS31 rfl rfl rfl, trivial⟩ ⟨rfl, hB30⟩
theorem C_laws_toSpotS (w0 : World) (x0 : (List (Int × Int))) (v0_0 : Value) (h0_0 : rdS ty_118 (· < w0.heap.size) w0 v0_0 x0) (r : (List (Int × Int))) (hF : F_laws_toSpotS x0 = some r) :
    Calls Try.prog 46 [v0_0].toArray w0 fun e w' => ∃ (q0 : Value) (G0 : List Nat), e = .returned q0 ∧ Below w0.heap.size w0 w' ∧ Sep w0.heap.size w' [R.own ty_116 G0 q0 r] := by
  refine calls_mk' Try.func46 rfl Try.ntmps46 rfl rfl fun Q hQ hP => ?_
  have hB : Below w0.heap.size w0 w0 := Below.refl _ _
  have hS : Sep w0.heap.size w0 [] := Sep.nil _ _
  unfold F_laws_toSpotS at hF
  refine W.seq fun K1 hK1 => ?_
  refine W.region ?_
  refine wl_assign rfl rfl ?_
  refine WL.nil ?_
  refine fun a ha => hK1 _ _ ?_ a ha
  refine W.seq fun K2 hK2 => ?_
  refine W.region ?_
  refine wl_move rfl rfl ?_
  refine wl_lenr (e := ty_118) (l := x0) Try.underlying66 rfl rfl h0_0 ?_
  obtain ⟨u3, hu3, hF⟩ := bindE hF
  refine wl_make (e := ty_116) Try.underlying69 rfl rfl hu3 hB hS ?_
  intro v4 F5 w6 hb7 hB8 hS9
  refine wl_assign rfl rfl ?_
  refine WL.nil ?_
  refine fun a ha => hK2 _ _ ?_ a ha
  refine W.seq fun K10 hK10 => ?_
  refine W.seq fun K11 hK11 => ?_
  refine W.region ?_
  refine wl_assign rfl rfl ?_
  refine WL.nil ?_
  refine fun a ha => hK11 _ _ ?_ a ha
  refine W.block ?_
  refine W.loopk (fun m a w12 => ∃ (l15 : (List (Int × Int))) (y18 : Int) (v16 : Value) (F17 : List Nat), St 23 [(0, v0_0), (3, v16), (4, (.int .i64 y18))] a ∧ Below w0.heap.size w0 w12 ∧ Sep w0.heap.size w12 [R.own ty_116 F17 v16 l15] ∧ F_laws_toSpotS_L1 x0 m l15 y18 = some r) FU ?_ ?_
  ·
    exact fun a ha => ⟨u3, 0, v4, F5, ha.sub ⟨rfl, rfl, rfl, trivial⟩, hB8, (hS9.sel [0] rfl), hF⟩
  ·
    rintro m21 a w12 ⟨l15, y18, v16, F17, ha, hB13, hS14, hF⟩ KL20 hKL20
    refine W.at ?_ ha
    cases m21 with
    | zero => exact noneE hF
    | succ m21 =>
      obtain ⟨nx19, hnx19⟩ : ∃ k, k = F_laws_toSpotS_L1 x0 m21 := ⟨_, rfl⟩
      rw [F_laws_toSpotS_L1, ← hnx19] at hF
      refine W.seq fun K22 hK22 => ?_
      refine W.seq fun K23 hK23 => ?_
      refine W.region ?_
      refine wl_move rfl rfl ?_
      refine wl_move rfl rfl ?_
      refine wl_lenr (e := ty_118) (l := x0) Try.underlying66 rfl rfl h0_0 ?_
      refine wl_lss rfl rfl rfl ?_
      refine WL.nil ?_
      refine fun a ha => hK23 _ _ ?_ a ha
      refine W.cond rfl (fun h24 => ?_) (fun h24 => ?_)
      · replace hF := ifP h24 hF
        refine W.skip ?_
        refine fun a ha => hK22 _ _ ?_ a ha
        refine W.seq fun K25 hK25 => ?_
        refine W.block ?_
        refine W.region ?_
        refine wl_move rfl rfl ?_
        refine wl_move rfl rfl ?_
        refine wl_move rfl rfl ?_
        refine wl_move rfl rfl ?_
        obtain ⟨u26, hu26, hF⟩ := bindE hF
        refine wl_index (e := ty_118) Try.underlying66 rfl rfl rfl h0_0 hu26 ?_
        rintro p27 _ rfl hp28
        refine wl_load_p (vs := [(.int .i64 u26.1), (.int .i64 u26.2)]) (v := (.agg #[(.int .i64 u26.1), (.int .i64 u26.2)])) tf_118 rfl rfl (hp28.ro hB13) rfl rfl ?_
        obtain ⟨u29, hu29, hF⟩ := bindE hF
        refine wl_call rfl Try.call102 (C_laws_toSpot w12 u26 _ hu29) rfl ?_
        rintro _ w30 ⟨rfl, hb31⟩
        refine ⟨_, rfl, ?_⟩
        have hB32 := hB13.trans (hb31.mono hB13.size)
        have hS33 := hS14.below hb31
        obtain ⟨u35, hu35, hF⟩ := bindE hF
        refine wl_indexo (e := ty_116) (i := 0) Try.underlying69 rfl rfl rfl hS33 rfl hu35 ?_
        rintro p36 _ rfl hp37 ho38
        refine wl_storeo (i := 0) (o := 0) (vs := [(.int .i64 u29.1), (.int .i64 u29.2)]) (u' := u29) fl_116 tf_116 rfl rfl rfl rfl ho38 hu35 hB32 hS33 rfl rfl ⟨rfl, rfl, trivial⟩ rfl ?_
        intro w39 hk42 hB40 hS41
        refine WL.nil ?_
        refine fun a ha => hK25 _ _ ?_ a ha
        refine W.region ?_
        refine wl_move rfl rfl ?_
        refine wl_add rfl rfl rfl ?_
        refine wl_assign rfl rfl ?_
        refine WL.nil ?_
        rw [hnx19] at hF
        exact fun a ha => hKL20 a _ m21 (Nat.lt_succ_self m21) ⟨(seti l15 y18 u29), (w64 (y18 + 1)), v16, F17, ha.sub ⟨rfl, rfl, rfl, trivial⟩, hB40, (hS41.sel [0] rfl), hF⟩
      · replace hF := ifN h24 hF
        refine W.exit ?_
        refine fun a ha => hK10 _ _ ?_ a ha
        refine W.seq fun K43 hK43 => ?_
        refine W.region ?_
        refine wl_move rfl rfl ?_
        refine wl_assign rfl rfl ?_
        refine WL.nil ?_
        refine fun a ha => hK43 _ _ ?_ a ha
        refine W.ret ?_
        have hr := Option.some.inj hF
        subst hr
        exact rets (vs := [v16]) hQ rfl ⟨rv_tmp rfl, trivial⟩ ⟨v16, F17, rfl, hB13, hS14.sel [0] rfl⟩
theorem C_laws_toSpotSS (w0 : World) (x0 : (List (List (Int × Int)))) (v0_0 : Value) (h0_0 : rdS ty_66 (· < w0.heap.size) w0 v0_0 x0) (r : (List (List (Int × Int)))) (hF : F_laws_toSpotSS x0 = some r) :
    Calls Try.prog 71 [v0_0].toArray w0 fun e w' => ∃ (q0 : Value) (G0 : List Nat), e = .returned q0 ∧ Below w0.heap.size w0 w' ∧ Sep w0.heap.size w' [R.own ty_69 G0 q0 r] := by
  refine calls_mk' Try.func71 rfl Try.ntmps71 rfl rfl fun Q hQ hP => ?_
  have hB : Below w0.heap.size w0 w0 := Below.refl _ _
  have hS : Sep w0.heap.size w0 [] := Sep.nil _ _
  unfold F_laws_toSpotSS at hF
  refine W.seq fun K1 hK1 => ?_
  refine W.region ?_
  refine wl_assign rfl rfl ?_
  refine WL.nil ?_
  refine fun a ha => hK1 _ _ ?_ a ha
  refine W.seq fun K2 hK2 => ?_
  refine W.region ?_
  refine wl_move rfl rfl ?_
  refine wl_lenr (e := ty_66) (l := x0) Try.underlying22 rfl rfl h0_0 ?_
  obtain ⟨u3, hu3, hF⟩ := bindE hF
  refine wl_make (e := ty_69) Try.underlying29 rfl rfl hu3 hB hS ?_
  intro v4 F5 w6 hb7 hB8 hS9
  refine wl_assign rfl rfl ?_
  refine WL.nil ?_
  refine fun a ha => hK2 _ _ ?_ a ha
  refine W.seq fun K10 hK10 => ?_
  refine W.seq fun K11 hK11 => ?_
  refine W.region ?_
  refine wl_assign rfl rfl ?_
  refine WL.nil ?_
  refine fun a ha => hK11 _ _ ?_ a ha
  refine W.block ?_
  refine W.loopk (fun m a w12 => ∃ (l15 : (List (List (Int × Int)))) (y18 : Int) (v16 : Value) (F17 : List Nat), St 23 [(0, v0_0), (3, v16), (4, (.int .i64 y18))] a ∧ Below w0.heap.size w0 w12 ∧ Sep w0.heap.size w12 [R.own ty_69 F17 v16 l15] ∧ F_laws_toSpotSS_L1 x0 m l15 y18 = some r) FU ?_ ?_
  ·
    exact fun a ha => ⟨u3, 0, v4, F5, ha.sub ⟨rfl, rfl, rfl, trivial⟩, hB8, (hS9.sel [0] rfl), hF⟩
  ·
    rintro m21 a w12 ⟨l15, y18, v16, F17, ha, hB13, hS14, hF⟩ KL20 hKL20
    refine W.at ?_ ha
    cases m21 with
    | zero => exact noneE hF
    | succ m21 =>
      obtain ⟨nx19, hnx19⟩ : ∃ k, k = F_laws_toSpotSS_L1 x0 m21 := ⟨_, rfl⟩
      rw [F_laws_toSpotSS_L1, ← hnx19] at hF
      refine W.seq fun K22 hK22 => ?_
      refine W.seq fun K23 hK23 => ?_
      refine W.region ?_
      refine wl_move rfl rfl ?_
      refine wl_move rfl rfl ?_
      refine wl_lenr (e := ty_66) (l := x0) Try.underlying22 rfl rfl h0_0 ?_
      refine wl_lss rfl rfl rfl ?_
      refine WL.nil ?_
      refine fun a ha => hK23 _ _ ?_ a ha
      refine W.cond rfl (fun h24 => ?_) (fun h24 => ?_)
      · replace hF := ifP h24 hF
        refine W.skip ?_
        refine fun a ha => hK22 _ _ ?_ a ha
        refine W.seq fun K25 hK25 => ?_
        refine W.block ?_
        refine W.region ?_
        refine wl_move rfl rfl ?_
        refine wl_move rfl rfl ?_
        refine wl_move rfl rfl ?_
        refine wl_move rfl rfl ?_
        obtain ⟨u26, hu26, hF⟩ := bindE hF
        refine wl_index (e := ty_66) Try.underlying22 rfl rfl rfl h0_0 hu26 ?_
        rintro p27 _ ⟨v29, rfl, hv30⟩ hp28
        refine wl_load_p (vs := [v29]) (v := v29) tf_66 rfl rfl (hp28.ro hB13) rfl rfl ?_
        obtain ⟨u31, hu31, hF⟩ := bindE hF
        refine wl_call rfl Try.call46 (C_laws_toSpotS w12 u26 v29 (hv30.ro hB13) _ hu31) rfl ?_
        rintro _ w34 ⟨v32, F33, rfl, hb35, hM38⟩
        refine ⟨_, rfl, ?_⟩
        have hB36 := hB13.trans (hb35.mono hB13.size)
        have hS37 := hS14.join hb35 hM38 hB13.size
        obtain ⟨u39, hu39, hF⟩ := bindE hF
        refine wl_indexo (e := ty_69) (i := 1) Try.underlying29 rfl rfl rfl hS37 rfl hu39 ?_
        rintro p40 _ ⟨v42, rfl, hv43⟩ hp41 ho44
        refine wl_storen (vs := [v32]) (u' := u31) tf_69 rfl rfl (cells_one (hS37.own_ro (i := 0) rfl).one) rfl ho44 hu39 hB36 (((hS37.sel [0, 1] rfl).cel1 (e := ty_69) (fun _ _ _ _ h => ⟨_, rfl, h⟩)).sel [1, 0] rfl) rfl ⟨(hS37.own_ro (i := 0) rfl).one, trivial⟩ ?_
        intro w45 F48 hB46 hS47
        refine WL.nil ?_
        refine fun a ha => hK25 _ _ ?_ a ha
        refine W.region ?_
        refine wl_move rfl rfl ?_
        refine wl_add rfl rfl rfl ?_
        refine wl_assign rfl rfl ?_
        refine WL.nil ?_
        rw [hnx19] at hF
        exact fun a ha => hKL20 a _ m21 (Nat.lt_succ_self m21) ⟨(seti l15 y18 u31), (w64 (y18 + 1)), v16, F48, ha.sub ⟨rfl, rfl, rfl, trivial⟩, hB46, (hS47.sel [0] rfl), hF⟩
      · replace hF := ifN h24 hF
        refine W.exit ?_
        refine fun a ha => hK10 _ _ ?_ a ha
        refine W.seq fun K49 hK49 => ?_
        refine W.region ?_
        refine wl_move rfl rfl ?_
        refine wl_assign rfl rfl ?_
        refine WL.nil ?_
        refine fun a ha => hK49 _ _ ?_ a ha
        refine W.ret ?_
        have hr := Option.some.inj hF
        subst hr
        exact rets (vs := [v16]) hQ rfl ⟨rv_tmp rfl, trivial⟩ ⟨v16, F17, rfl, hB13, hS14.sel [0] rfl⟩
theorem C_laws_toIntS (w0 : World) (x0 : (List Int)) (v0_0 : Value) (h0_0 : rdS ty_3 (· < w0.heap.size) w0 v0_0 x0) (r : (List Int)) (hF : F_laws_toIntS x0 = some r) :
    Calls Try.prog 72 [v0_0].toArray w0 fun e w' => ∃ (q0 : Value) (G0 : List Nat), e = .returned q0 ∧ Below w0.heap.size w0 w' ∧ Sep w0.heap.size w' [R.own ty_3 G0 q0 r] := by
  refine calls_mk' Try.func72 rfl Try.ntmps72 rfl rfl fun Q hQ hP => ?_
  have hB : Below w0.heap.size w0 w0 := Below.refl _ _
  have hS : Sep w0.heap.size w0 [] := Sep.nil _ _
  unfold F_laws_toIntS at hF
  refine W.seq fun K1 hK1 => ?_
  refine W.region ?_
  refine wl_assign rfl rfl ?_
  refine WL.nil ?_
  refine fun a ha => hK1 _ _ ?_ a ha
  refine W.seq fun K2 hK2 => ?_
  refine W.region ?_
  refine wl_move rfl rfl ?_
  refine wl_lenr (e := ty_3) (l := x0) Try.underlying23 rfl rfl h0_0 ?_
  obtain ⟨u3, hu3, hF⟩ := bindE hF
  refine wl_make (e := ty_3) Try.underlying23 rfl rfl hu3 hB hS ?_
  intro v4 F5 w6 hb7 hB8 hS9
  refine wl_assign rfl rfl ?_
  refine WL.nil ?_
  refine fun a ha => hK2 _ _ ?_ a ha
  refine W.seq fun K10 hK10 => ?_
  refine W.seq fun K11 hK11 => ?_
  refine W.region ?_
  refine wl_assign rfl rfl ?_
  refine WL.nil ?_
  refine fun a ha => hK11 _ _ ?_ a ha
  refine W.block ?_
  refine W.loopk (fun m a w12 => ∃ (l15 : (List Int)) (y18 : Int) (v16 : Value) (F17 : List Nat), St 22 [(0, v0_0), (3, v16), (4, (.int .i64 y18))] a ∧ Below w0.heap.size w0 w12 ∧ Sep w0.heap.size w12 [R.own ty_3 F17 v16 l15] ∧ F_laws_toIntS_L1 x0 m l15 y18 = some r) FU ?_ ?_
  ·
    exact fun a ha => ⟨u3, 0, v4, F5, ha.sub ⟨rfl, rfl, rfl, trivial⟩, hB8, (hS9.sel [0] rfl), hF⟩
  ·
    rintro m21 a w12 ⟨l15, y18, v16, F17, ha, hB13, hS14, hF⟩ KL20 hKL20
    refine W.at ?_ ha
    cases m21 with
    | zero => exact noneE hF
    | succ m21 =>
      obtain ⟨nx19, hnx19⟩ : ∃ k, k = F_laws_toIntS_L1 x0 m21 := ⟨_, rfl⟩
      rw [F_laws_toIntS_L1, ← hnx19] at hF
      refine W.seq fun K22 hK22 => ?_
      refine W.seq fun K23 hK23 => ?_
      refine W.region ?_
      refine wl_move rfl rfl ?_
      refine wl_move rfl rfl ?_
      refine wl_lenr (e := ty_3) (l := x0) Try.underlying23 rfl rfl h0_0 ?_
      refine wl_lss rfl rfl rfl ?_
      refine WL.nil ?_
      refine fun a ha => hK23 _ _ ?_ a ha
      refine W.cond rfl (fun h24 => ?_) (fun h24 => ?_)
      · replace hF := ifP h24 hF
        refine W.skip ?_
        refine fun a ha => hK22 _ _ ?_ a ha
        refine W.seq fun K25 hK25 => ?_
        refine W.block ?_
        refine W.region ?_
        refine wl_move rfl rfl ?_
        refine wl_move rfl rfl ?_
        refine wl_move rfl rfl ?_
        refine wl_move rfl rfl ?_
        obtain ⟨u26, hu26, hF⟩ := bindE hF
        refine wl_index (e := ty_3) Try.underlying23 rfl rfl rfl h0_0 hu26 ?_
        rintro p27 _ rfl hp28
        refine wl_load_p (vs := [(.int .i64 u26)]) (v := (.int .i64 u26)) tf_3 rfl rfl (hp28.ro hB13) rfl rfl ?_
        obtain ⟨u29, hu29, hF⟩ := bindE hF
        refine wl_indexo (e := ty_3) (i := 0) Try.underlying23 rfl rfl rfl hS14 rfl hu29 ?_
        rintro p30 _ rfl hp31 ho32
        refine wl_storeo (i := 0) (o := 0) (vs := [(.int .i64 u26)]) (u' := u26) fl_3 tf_3 rfl rfl rfl rfl ho32 hu29 hB13 hS14 rfl rfl ⟨rfl, trivial⟩ rfl ?_
        intro w33 hk36 hB34 hS35
        refine WL.nil ?_
        refine fun a ha => hK25 _ _ ?_ a ha
        refine W.region ?_
        refine wl_move rfl rfl ?_
        refine wl_add rfl rfl rfl ?_
        refine wl_assign rfl rfl ?_
        refine WL.nil ?_
        rw [hnx19] at hF
        exact fun a ha => hKL20 a _ m21 (Nat.lt_succ_self m21) ⟨(seti l15 y18 u26), (w64 (y18 + 1)), v16, F17, ha.sub ⟨rfl, rfl, rfl, trivial⟩, hB34, (hS35.sel [0] rfl), hF⟩
      · replace hF := ifN h24 hF
        refine W.exit ?_
        refine fun a ha => hK10 _ _ ?_ a ha
        refine W.seq fun K37 hK37 => ?_
        refine W.region ?_
        refine wl_move rfl rfl ?_
        refine wl_assign rfl rfl ?_
        refine WL.nil ?_
        refine fun a ha => hK37 _ _ ?_ a ha
        refine W.ret ?_
        have hr := Option.some.inj hF
        subst hr
        exact rets (vs := [v16]) hQ rfl ⟨rv_tmp rfl, trivial⟩ ⟨v16, F17, rfl, hB13, hS14.sel [0] rfl⟩
theorem C_laws_toShow (w0 : World) (x0 : ((List (List (Int × Int))) × (List Int) × Int × Int)) (v0_0 : Value) (h0_0 : rdS ty_66 (· < w0.heap.size) w0 v0_0 x0.1) (v0_1 : Value) (h0_1 : rdS ty_3 (· < w0.heap.size) w0 v0_1 x0.2.1) (r : ((List (List (Int × Int))) × (List Int) × Int × Int)) (hF : F_laws_toShow x0 = some r) :
    Calls Try.prog 17 [(.agg #[v0_0, v0_1, (.int .i64 x0.2.2.1), (.int .i64 x0.2.2.2)])].toArray w0 fun e w' => ∃ (q0 : Value) (G0 : List Nat) (q1 : Value) (G1 : List Nat), e = .returned (.agg #[q0, q1, (.int .i64 r.2.2.1), (.int .i64 r.2.2.2)]) ∧ Below w0.heap.size w0 w' ∧ Sep w0.heap.size w' [R.own ty_69 G0 q0 r.1, R.own ty_3 G1 q1 r.2.1] := by
  refine calls_mk' Try.func17 rfl Try.ntmps17 rfl rfl fun Q hQ hP => ?_
  have hB : Below w0.heap.size w0 w0 := Below.refl _ _
  have hS : Sep w0.heap.size w0 [] := Sep.nil _ _
  unfold F_laws_toShow at hF
  refine W.seq fun K1 hK1 => ?_
  refine W.region ?_
  refine wl_box (cs := [v0_0, v0_1, (.int .i64 x0.2.2.1), (.int .i64 x0.2.2.2)]) rfl rfl rfl hB hS ?_
  intro b2 w3 hb4 hB5 hS6
  refine wl_alloc (cs := [(.slice none 0 0), (.slice none 0 0), (.int .i64 0), (.int .i64 0)]) tf_31 rfl rfl hB5 hS6 ?_
  intro b7 w8 hb9 hB10 hS11
  refine WL.nil ?_
  refine fun a ha => hK1 _ _ ?_ a ha
  refine W.seq fun K12 hK12 => ?_
  refine W.region ?_
  refine wl_alloc (cs := [(.slice none 0 0), (.slice none 0 0), (.int .i64 0), (.int .i64 0)]) tf_31 rfl rfl hB10 hS11 ?_
  intro b13 w14 hb15 hB16 hS17
  refine WL.nil ?_
  refine fun a ha => hK12 _ _ ?_ a ha
  refine W.seq fun K18 hK18 => ?_
  refine W.region ?_
  refine wl_field (o := 0) (off' := 0) ff_25_0 rfl rfl rfl ?_
  refine wl_load_blk (i := 2) (vs := [v0_0]) (v := v0_0) tf_22 rfl rfl hS17 rfl rfl rfl ?_
  obtain ⟨u19, hu19, hF⟩ := bindE hF
  refine wl_call rfl Try.call71 (C_laws_toSpotSS w14 x0.1 v0_0 (h0_0.ro hB16) _ hu19) rfl ?_
  rintro _ w22 ⟨v20, F21, rfl, hb23, hM26⟩
  refine ⟨_, rfl, ?_⟩
  have hB24 := hB16.trans (hb23.mono hB16.size)
  have hS25 := hS17.join hb23 hM26 hB16.size
  refine wl_field (o := 0) (off' := 0) ff_31_0 rfl rfl rfl ?_
  refine wl_store_blk (i := 1) (vs := [v20]) (cs' := [v20, (.slice none 0 0), (.int .i64 0), (.int .i64 0)]) tf_29 rfl rfl (cells_one (hS25.own_ro (i := 0) rfl).one) rfl hB24 hS25 rfl rfl ⟨(hS25.own_ro (i := 0) rfl).one, trivial⟩ rfl ?_
  intro w27 hk30 hB28 hS29
  refine WL.nil ?_
  refine fun a ha => hK18 _ _ ?_ a ha
  refine W.seq fun K31 hK31 => ?_
  refine W.region ?_
  refine wl_field (o := 1) (off' := 1) ff_25_1 rfl rfl rfl ?_
  refine wl_load_blk (i := 3) (vs := [v0_1]) (v := v0_1) tf_23 rfl rfl hS29 rfl rfl rfl ?_
  obtain ⟨u32, hu32, hF⟩ := bindE hF
  refine wl_call rfl Try.call72 (C_laws_toIntS w27 x0.2.1 v0_1 (h0_1.ro hB28) _ hu32) rfl ?_
  rintro _ w35 ⟨v33, F34, rfl, hb36, hM39⟩
  refine ⟨_, rfl, ?_⟩
  have hB37 := hB28.trans (hb36.mono hB28.size)
  have hS38 := hS29.join hb36 hM39 hB28.size
  refine wl_field (o := 1) (off' := 1) ff_31_1 rfl rfl rfl ?_
  refine wl_store_blk (i := 2) (vs := [v33]) (cs' := [v20, v33, (.int .i64 0), (.int .i64 0)]) tf_23 rfl rfl (cells_one (hS38.own_ro (i := 0) rfl).one) rfl hB37 hS38 rfl rfl ⟨(hS38.own_ro (i := 0) rfl).one, trivial⟩ rfl ?_
  intro w40 hk43 hB41 hS42
  refine WL.nil ?_
  refine fun a ha => hK31 _ _ ?_ a ha
  refine W.seq fun K44 hK44 => ?_
  refine W.region ?_
  refine wl_field (o := 2) (off' := 2) ff_25_2 rfl rfl rfl ?_
  refine wl_load_blk (i := 4) (vs := [(.int .i64 x0.2.2.1)]) (v := (.int .i64 x0.2.2.1)) tf_3 rfl rfl hS42 rfl rfl rfl ?_
  refine wl_field (o := 2) (off' := 2) ff_31_2 rfl rfl rfl ?_
  refine wl_store_blk (i := 2) (vs := [(.int .i64 x0.2.2.1)]) (cs' := [v20, v33, (.int .i64 x0.2.2.1), (.int .i64 0)]) tf_3 rfl rfl rfl rfl hB41 hS42 rfl rfl ⟨rfl, trivial⟩ rfl ?_
  intro w45 hk48 hB46 hS47
  refine WL.nil ?_
  refine fun a ha => hK44 _ _ ?_ a ha
  refine W.seq fun K49 hK49 => ?_
  refine W.region ?_
  refine wl_field (o := 3) (off' := 3) ff_25_3 rfl rfl rfl ?_
  refine wl_load_blk (i := 4) (vs := [(.int .i64 x0.2.2.2)]) (v := (.int .i64 x0.2.2.2)) tf_3 rfl rfl hS47 rfl rfl rfl ?_
  refine wl_field (o := 3) (off' := 3) ff_31_3 rfl rfl rfl ?_
  refine wl_store_blk (i := 2) (vs := [(.int .i64 x0.2.2.2)]) (cs' := [v20, v33, (.int .i64 x0.2.2.1), (.int .i64 x0.2.2.2)]) tf_3 rfl rfl rfl rfl hB46 hS47 rfl rfl ⟨rfl, trivial⟩ rfl ?_
  intro w50 hk53 hB51 hS52
  refine WL.nil ?_
  refine fun a ha => hK49 _ _ ?_ a ha
  refine W.seq fun K54 hK54 => ?_
  refine W.region ?_
  refine wl_load_blk (i := 2) (vs := [v20, v33, (.int .i64 x0.2.2.1), (.int .i64 x0.2.2.2)]) (v := (.agg #[v20, v33, (.int .i64 x0.2.2.1), (.int .i64 x0.2.2.2)])) tf_31 rfl rfl hS52 rfl rfl rfl ?_
  refine wl_store_blk (i := 3) (vs := [v20, v33, (.int .i64 x0.2.2.1), (.int .i64 x0.2.2.2)]) (cs' := [v20, v33, (.int .i64 x0.2.2.1), (.int .i64 x0.2.2.2)]) tf_31 rfl rfl rfl rfl hB51 hS52 rfl rfl ⟨(hS52.own_ro (i := 1) rfl).one, (hS52.own_ro (i := 0) rfl).one, rfl, rfl, trivial⟩ rfl ?_
  intro w55 hk58 hB56 hS57
  refine WL.nil ?_
  refine fun a ha => hK54 _ _ ?_ a ha
  refine W.ret ?_
  have hr := Option.some.inj hF
  subst hr
  exact rets (vs := [(.agg #[v20, v33, (.int .i64 x0.2.2.1), (.int .i64 x0.2.2.2)])]) hQ rfl ⟨rv_cell (i := 3) tf_31 rfl hS57 rfl rfl rfl, trivial⟩ ⟨v20, F21, v33, F34, rfl, hB56, hS57.sel [1, 0] rfl⟩
theorem C_spec_l1In (w0 : World) (x0 : Int) (x1 : Int) (x2 : Int) (r : Bool) (hF : F_spec_l1In x0 x1 x2 = some r) :
    Calls Try.prog 111 [(.int .i64 x0), (.int .i64 x1), (.int .i64 x2)].toArray w0 fun e w' => e = .returned (.bool r) ∧ Below w0.heap.size w0 w' := by
  refine calls_mk' Try.func111 rfl Try.ntmps111 rfl rfl fun Q hQ hP => ?_
  have hB : Below w0.heap.size w0 w0 := Below.refl _ _
  have hS : Sep w0.heap.size w0 [] := Sep.nil _ _
  unfold F_spec_l1In at hF
  refine W.seq fun K1 hK1 => ?_
  refine W.region ?_
  refine wl_assign rfl rfl ?_
  refine WL.nil ?_
  refine fun a ha => hK1 _ _ ?_ a ha
  refine W.seq fun K2 hK2 => ?_
  obtain ⟨k7, hk7, hF⟩ := jE1 hF
  have hJ8 : ∀ (y6 : Bool) (w3 : World) (_ : k7 y6 = some r) (_ : Below w0.heap.size w0 w3) (_ : Sep w0.heap.size w3 []), ∀ a, St 15 [(6, (.bool y6))] a → K2 a w3 := by
    intro y6 w3 hF hB4 hS5
    subst hk7
    refine fun a ha => hK2 _ _ ?_ a ha
    refine W.ret ?_
    have hr := Option.some.inj hF
    subst hr
    exact rets (vs := [(.bool y6)]) hQ rfl ⟨rv_tmp rfl, trivial⟩ ⟨rfl, hB4⟩
  refine W.region ?_
  refine wl_move rfl rfl ?_
  refine wl_move rfl rfl ?_
  refine wl_geq rfl rfl rfl ?_
  refine wl_move rfl rfl ?_
  rcases bE (decide (x1 ≤ x0)) with h9 | h9
  · replace hF := ifP h9 hF
    refine wl_on rfl rfl h9 ?_
    refine wl_move rfl rfl ?_
    refine wl_on rfl rfl h9 ?_
    refine wl_move rfl rfl ?_
    refine wl_on rfl rfl h9 ?_
    refine wl_leq rfl rfl rfl ?_
    refine wl_pick_t rfl rfl h9 rfl ?_
    refine wl_assign rfl rfl ?_
    refine WL.nil ?_
    exact fun a ha => hJ8 ((decide (x0 ≤ x2))) _ hF hB (hS.sel [] rfl) a (ha.sub ⟨rfl, trivial⟩)
  · replace hF := ifN h9 hF
    refine wl_off rfl rfl rfl h9 ?_
    refine wl_off rfl rfl rfl h9 ?_
    refine wl_off rfl rfl rfl h9 ?_
    refine wl_pick_f rfl rfl h9 rfl ?_
    refine wl_assign rfl rfl ?_
    refine WL.nil ?_
    exact fun a ha => hJ8 (false) _ hF hB (hS.sel [] rfl) a (ha.sub ⟨rfl, trivial⟩)
theorem C_spec_stGood (w0 : World) (x0 : (Int × Int)) (r : Bool) (hF : F_spec_stGood x0 = some r) :
    Calls Try.prog 143 [(.agg #[(.int .i64 x0.1), (.int .i64 x0.2)])].toArray w0 fun e w' => e = .returned (.bool r) ∧ Below w0.heap.size w0 w' := by
  refine calls_mk' Try.func143 rfl Try.ntmps143 rfl rfl fun Q hQ hP => ?_
  have hB : Below w0.heap.size w0 w0 := Below.refl _ _
  have hS : Sep w0.heap.size w0 [] := Sep.nil _ _
  unfold F_spec_stGood at hF
  refine W.seq fun K1 hK1 => ?_
  refine W.region ?_
  refine wl_box (cs := [(.int .i64 x0.1), (.int .i64 x0.2)]) rfl rfl rfl hB hS ?_
  intro b2 w3 hb4 hB5 hS6
  refine wl_assign rfl rfl ?_
  refine WL.nil ?_
  refine fun a ha => hK1 _ _ ?_ a ha
  refine W.seq fun K7 hK7 => ?_
  obtain ⟨k12, hk12, hF⟩ := jE1 hF
  have hJ13 : ∀ (y11 : Bool) (w8 : World) (_ : k12 y11 = some r) (_ : Below w0.heap.size w0 w8) (_ : Sep w0.heap.size w8 []), ∀ a, St 11 [(2, (.bool y11))] a → K7 a w8 := by
    intro y11 w8 hF hB9 hS10
    subst hk12
    refine fun a ha => hK7 _ _ ?_ a ha
    refine W.ret ?_
    have hr := Option.some.inj hF
    subst hr
    exact rets (vs := [(.bool y11)]) hQ rfl ⟨rv_tmp rfl, trivial⟩ ⟨rfl, hB9⟩
  refine W.region ?_
  refine wl_field (o := 0) (off' := 0) ff_116_0 rfl rfl rfl ?_
  refine wl_load_blk (i := 0) (vs := [(.int .i64 x0.1)]) (v := (.int .i64 x0.1)) tf_3 rfl rfl hS6 rfl rfl rfl ?_
  obtain ⟨u14, hu14, hF⟩ := bindE hF
  refine wl_call rfl Try.call111 (C_spec_l1In w3 x0.1 0 1280 _ hu14) rfl ?_
  rintro _ w15 ⟨rfl, hb16⟩
  refine ⟨_, rfl, ?_⟩
  have hB17 := hB5.trans (hb16.mono hB5.size)
  have hS18 := hS6.below hb16
  refine wl_move rfl rfl ?_
  rcases bE u14 with h20 | h20
  · replace hF := ifP h20 hF
    refine wl_on rfl rfl h20 ?_
    refine wl_field (o := 1) (off' := 1) ff_116_1 rfl rfl rfl ?_
    refine wl_on rfl rfl h20 ?_
    refine wl_load_blk (i := 0) (vs := [(.int .i64 x0.2)]) (v := (.int .i64 x0.2)) tf_3 rfl rfl hS18 rfl rfl rfl ?_
    refine wl_on rfl rfl h20 ?_
    obtain ⟨u21, hu21, hF⟩ := bindE hF
    refine wl_call rfl Try.call111 (C_spec_l1In w15 x0.2 0 672 _ hu21) rfl ?_
    rintro _ w22 ⟨rfl, hb23⟩
    refine ⟨_, rfl, ?_⟩
    have hB24 := hB17.trans (hb23.mono hB17.size)
    have hS25 := hS18.below hb23
    refine wl_pick_t rfl rfl h20 rfl ?_
    refine wl_assign rfl rfl ?_
    refine WL.nil ?_
    exact fun a ha => hJ13 (u21) _ hF hB24 (hS25.sel [] rfl) a (ha.sub ⟨rfl, trivial⟩)
  · replace hF := ifN h20 hF
    refine wl_off rfl rfl rfl h20 ?_
    refine wl_off rfl rfl rfl h20 ?_
    refine wl_off rfl rfl rfl h20 ?_
    refine wl_pick_f rfl rfl h20 rfl ?_
    refine wl_assign rfl rfl ?_
    refine WL.nil ?_
    exact fun a ha => hJ13 (false) _ hF hB17 (hS18.sel [] rfl) a (ha.sub ⟨rfl, trivial⟩)
theorem C_spec_chGood (w0 : World) (x0 : (List (Int × Int))) (v0_0 : Value) (h0_0 : rdS ty_116 (· < w0.heap.size) w0 v0_0 x0) (r : Bool) (hF : F_spec_chGood x0 = some r) :
    Calls Try.prog 119 [v0_0].toArray w0 fun e w' => e = .returned (.bool r) ∧ Below w0.heap.size w0 w' := by
  refine calls_mk' Try.func119 rfl Try.ntmps119 rfl rfl fun Q hQ hP => ?_
  have hB : Below w0.heap.size w0 w0 := Below.refl _ _
  have hS : Sep w0.heap.size w0 [] := Sep.nil _ _
  unfold F_spec_chGood at hF
  refine W.seq fun K1 hK1 => ?_
  refine W.region ?_
  refine wl_assign rfl rfl ?_
  refine WL.nil ?_
  refine fun a ha => hK1 _ _ ?_ a ha
  refine W.seq fun K2 hK2 => ?_
  refine W.seq fun K3 hK3 => ?_
  refine W.region ?_
  refine wl_move rfl rfl ?_
  refine wl_lenr (e := ty_116) (l := x0) Try.underlying69 rfl rfl h0_0 ?_
  refine wl_move rfl rfl ?_
  refine WL.nil ?_
  refine fun a ha => hK3 _ _ ?_ a ha
  refine W.block ?_
  refine W.loopk (fun m a w4 => ∃ (y7 : Int), St 33 [(0, v0_0), (7, v0_0), (8, (.int .i64 (List.length x0 : Int))), (9, (.int .i64 y7))] a ∧ Below w0.heap.size w0 w4 ∧ Sep w0.heap.size w4 [] ∧ F_spec_chGood_L1 x0 m y7 = some r) FU ?_ ?_
  ·
    exact fun a ha => ⟨0, ha.sub ⟨rfl, rfl, rfl, rfl, trivial⟩, hB, (hS.sel [] rfl), hF⟩
  ·
    rintro m10 a w4 ⟨y7, ha, hB5, hS6, hF⟩ KL9 hKL9
    refine W.at ?_ ha
    cases m10 with
    | zero => exact noneE hF
    | succ m10 =>
      obtain ⟨nx8, hnx8⟩ : ∃ k, k = F_spec_chGood_L1 x0 m10 := ⟨_, rfl⟩
      rw [F_spec_chGood_L1, ← hnx8] at hF
      refine W.seq fun K11 hK11 => ?_
      refine W.region ?_
      refine wl_lss rfl rfl rfl ?_
      refine WL.nil ?_
      refine fun a ha => hK11 _ _ ?_ a ha
      refine W.seq fun K12 hK12 => ?_
      refine W.cond rfl (fun h13 => ?_) (fun h13 => ?_)
      · replace hF := ifP h13 hF
        refine W.skip ?_
        refine fun a ha => hK12 _ _ ?_ a ha
        refine W.seq fun K14 hK14 => ?_
        refine W.block ?_
        refine W.seq fun K15 hK15 => ?_
        refine W.region ?_
        refine wl_move rfl rfl ?_
        obtain ⟨u16, hu16, hF⟩ := bindE hF
        refine wl_index (e := ty_116) Try.underlying69 rfl rfl rfl h0_0 hu16 ?_
        rintro p17 _ rfl hp18
        refine wl_load_p (vs := [(.int .i64 u16.1), (.int .i64 u16.2)]) (v := (.agg #[(.int .i64 u16.1), (.int .i64 u16.2)])) tf_116 rfl rfl (hp18.ro hB5) rfl rfl ?_
        refine wl_alloc (cs := [(.int .i64 0), (.int .i64 0)]) tf_116 rfl rfl hB5 hS6 ?_
        intro b19 w20 hb21 hB22 hS23
        refine wl_assign rfl rfl ?_
        refine wl_store_blk (i := 0) (vs := [(.int .i64 u16.1), (.int .i64 u16.2)]) (cs' := [(.int .i64 u16.1), (.int .i64 u16.2)]) tf_116 rfl rfl rfl rfl hB22 hS23 rfl rfl ⟨rfl, rfl, trivial⟩ rfl ?_
        intro w24 hk27 hB25 hS26
        refine WL.nil ?_
        refine fun a ha => hK15 _ _ ?_ a ha
        refine W.seq fun K28 hK28 => ?_
        refine W.seq fun K29 hK29 => ?_
        refine W.region ?_
        refine wl_load_blk (i := 0) (vs := [(.int .i64 u16.1), (.int .i64 u16.2)]) (v := (.agg #[(.int .i64 u16.1), (.int .i64 u16.2)])) tf_116 rfl rfl hS26 rfl rfl rfl ?_
        obtain ⟨u30, hu30, hF⟩ := bindE hF
        refine wl_call rfl Try.call143 (C_spec_stGood w24 u16 _ hu30) rfl ?_
        rintro _ w31 ⟨rfl, hb32⟩
        refine ⟨_, rfl, ?_⟩
        have hB33 := hB25.trans (hb32.mono hB25.size)
        have hS34 := hS26.below hb32
        refine wl_not rfl rfl ?_
        refine WL.nil ?_
        refine fun a ha => hK29 _ _ ?_ a ha
        refine W.cond rfl (fun h36 => ?_) (fun h36 => ?_)
        · replace hF := ifP h36 hF
          refine W.seq fun K37 hK37 => ?_
          refine W.region ?_
          refine wl_assign rfl rfl ?_
          refine WL.nil ?_
          refine fun a ha => hK37 _ _ ?_ a ha
          refine W.ret ?_
          have hr := Option.some.inj hF
          subst hr
          exact rets (vs := [(.bool false)]) hQ rfl ⟨rv_tmp rfl, trivial⟩ ⟨rfl, hB33⟩
        · replace hF := ifN h36 hF
          refine W.skip ?_
          refine fun a ha => hK28 _ _ ?_ a ha
          refine W.seq fun K38 hK38 => ?_
          refine W.region ?_
          refine wl_move rfl rfl ?_
          refine wl_move rfl rfl ?_
          obtain ⟨u39, hu39, hF⟩ := bindE hF
          refine wl_slice (e := ty_116) Try.underlying69 rfl rfl h0_0 hu39 (.inl ⟨rfl, rfl⟩) (.inr ⟨_, _, rfl, rfl⟩) ?_
          intro v40 hv41
          refine wl_lenr (e := ty_116) (l := u39) Try.underlying69 rfl rfl hv41 ?_
          refine wl_move rfl rfl ?_
          refine WL.nil ?_
          refine fun a ha => hK38 _ _ ?_ a ha
          refine W.block ?_
          refine W.loopk (fun m a w42 => ∃ (y45 : Int), St 33 [(0, v0_0), (4, (.pointer (some ⟨b19, 0, none⟩))), (7, v0_0), (8, (.int .i64 (List.length x0 : Int))), (9, (.int .i64 y7)), (19, v40), (20, (.int .i64 (List.length u39 : Int))), (21, (.int .i64 y45))] a ∧ Below w0.heap.size w0 w42 ∧ Sep w0.heap.size w42 [R.blk b19 116 [(.int .i64 u16.1), (.int .i64 u16.2)]] ∧ F_spec_chGood_L2 u39 u16 nx8 y7 m y45 = some r) FU ?_ ?_
          ·
            exact fun a ha => ⟨0, ha.sub ⟨rfl, rfl, rfl, rfl, rfl, rfl, rfl, rfl, trivial⟩, hB33, (hS34.sel [0] rfl), hF⟩
          ·
            rintro m48 a w42 ⟨y45, ha, hB43, hS44, hF⟩ KL47 hKL47
            refine W.at ?_ ha
            cases m48 with
            | zero => exact noneE hF
            | succ m48 =>
              obtain ⟨nx46, hnx46⟩ : ∃ k, k = F_spec_chGood_L2 u39 u16 nx8 y7 m48 := ⟨_, rfl⟩
              rw [F_spec_chGood_L2, ← hnx46] at hF
              refine W.seq fun K49 hK49 => ?_
              refine W.region ?_
              refine wl_lss rfl rfl rfl ?_
              refine WL.nil ?_
              refine fun a ha => hK49 _ _ ?_ a ha
              refine W.seq fun K50 hK50 => ?_
              refine W.cond rfl (fun h51 => ?_) (fun h51 => ?_)
              · replace hF := ifP h51 hF
                refine W.skip ?_
                refine fun a ha => hK50 _ _ ?_ a ha
                refine W.seq fun K52 hK52 => ?_
                refine W.block ?_
                refine W.seq fun K53 hK53 => ?_
                refine W.region ?_
                obtain ⟨u54, hu54, hF⟩ := bindE hF
                refine wl_index (e := ty_116) Try.underlying69 rfl rfl rfl hv41 hu54 ?_
                rintro p55 _ rfl hp56
                refine wl_load_p (vs := [(.int .i64 u54.1), (.int .i64 u54.2)]) (v := (.agg #[(.int .i64 u54.1), (.int .i64 u54.2)])) tf_116 rfl rfl (hp56.ro hB43) rfl rfl ?_
                refine wl_alloc (cs := [(.int .i64 0), (.int .i64 0)]) tf_116 rfl rfl hB43 hS44 ?_
                intro b57 w58 hb59 hB60 hS61
                refine wl_store_blk (i := 0) (vs := [(.int .i64 u54.1), (.int .i64 u54.2)]) (cs' := [(.int .i64 u54.1), (.int .i64 u54.2)]) tf_116 rfl rfl rfl rfl hB60 hS61 rfl rfl ⟨rfl, rfl, trivial⟩ rfl ?_
                intro w62 hk65 hB63 hS64
                refine WL.nil ?_
                refine fun a ha => hK53 _ _ ?_ a ha
                refine W.seq fun K66 hK66 => ?_
                refine W.region ?_
                refine wl_load_blk (i := 1) (vs := [(.int .i64 u16.1), (.int .i64 u16.2)]) (v := (.agg #[(.int .i64 u16.1), (.int .i64 u16.2)])) tf_116 rfl rfl hS64 rfl rfl rfl ?_
                refine wl_load_blk (i := 0) (vs := [(.int .i64 u54.1), (.int .i64 u54.2)]) (v := (.agg #[(.int .i64 u54.1), (.int .i64 u54.2)])) tf_116 rfl rfl hS64 rfl rfl rfl ?_
                refine wl_eqs Try.eqGuardType116 (eq_116 u16 u54) rfl rfl rfl ?_
                refine WL.nil ?_
                refine fun a ha => hK66 _ _ ?_ a ha
                refine W.cond rfl (fun h67 => ?_) (fun h67 => ?_)
                · replace hF := ifP h67 hF
                  refine W.seq fun K68 hK68 => ?_
                  refine W.region ?_
                  refine wl_assign rfl rfl ?_
                  refine WL.nil ?_
                  refine fun a ha => hK68 _ _ ?_ a ha
                  refine W.ret ?_
                  have hr := Option.some.inj hF
                  subst hr
                  exact rets (vs := [(.bool false)]) hQ rfl ⟨rv_tmp rfl, trivial⟩ ⟨rfl, hB63⟩
                · replace hF := ifN h67 hF
                  refine W.skip ?_
                  refine fun a ha => hK52 _ _ ?_ a ha
                  refine W.region ?_
                  refine wl_add rfl rfl rfl ?_
                  refine wl_move rfl rfl ?_
                  refine WL.nil ?_
                  rw [hnx46] at hF
                  exact fun a ha => hKL47 a _ m48 (Nat.lt_succ_self m48) ⟨(w64 (y45 + 1)), ha.sub ⟨rfl, rfl, rfl, rfl, rfl, rfl, rfl, rfl, trivial⟩, hB63, (hS64.sel [1] rfl), hF⟩
              · replace hF := ifN h51 hF
                refine W.exit ?_
                refine fun a ha => hK14 _ _ ?_ a ha
                refine W.region ?_
                refine wl_add rfl rfl rfl ?_
                refine wl_move rfl rfl ?_
                refine WL.nil ?_
                rw [hnx8] at hF
                exact fun a ha => hKL9 a _ m10 (Nat.lt_succ_self m10) ⟨(w64 (y7 + 1)), ha.sub ⟨rfl, rfl, rfl, rfl, trivial⟩, hB43, (hS44.sel [] rfl), hF⟩
      · replace hF := ifN h13 hF
        refine W.exit ?_
        refine fun a ha => hK2 _ _ ?_ a ha
        refine W.seq fun K69 hK69 => ?_
        refine W.region ?_
        refine wl_move rfl rfl ?_
        refine wl_lenr (e := ty_116) (l := x0) Try.underlying69 rfl rfl h0_0 ?_
        obtain ⟨u70, hu70, hF⟩ := bindE hF
        refine wl_call rfl Try.call111 (C_spec_l1In w4 (List.length x0 : Int) 1 12 _ hu70) rfl ?_
        rintro _ w71 ⟨rfl, hb72⟩
        refine ⟨_, rfl, ?_⟩
        have hB73 := hB5.trans (hb72.mono hB5.size)
        have hS74 := hS6.below hb72
        refine wl_assign rfl rfl ?_
        refine WL.nil ?_
        refine fun a ha => hK69 _ _ ?_ a ha
        refine W.ret ?_
        have hr := Option.some.inj hF
        subst hr
        exact rets (vs := [(.bool u70)]) hQ rfl ⟨rv_tmp rfl, trivial⟩ ⟨rfl, hB73⟩
theorem C_spec_l1All (w0 : World) (x0 : (List Int)) (v0_0 : Value) (h0_0 : rdS ty_3 (· < w0.heap.size) w0 v0_0 x0) (x1 : Int) (x2 : Int) (r : Bool) (hF : F_spec_l1All x0 x1 x2 = some r) :
    Calls Try.prog 120 [v0_0, (.int .i64 x1), (.int .i64 x2)].toArray w0 fun e w' => e = .returned (.bool r) ∧ Below w0.heap.size w0 w' := by
  refine calls_mk' Try.func120 rfl Try.ntmps120 rfl rfl fun Q hQ hP => ?_
  have hB : Below w0.heap.size w0 w0 := Below.refl _ _
  have hS : Sep w0.heap.size w0 [] := Sep.nil _ _
  unfold F_spec_l1All at hF
  refine W.seq fun K1 hK1 => ?_
  refine W.region ?_
  refine wl_assign rfl rfl ?_
  refine WL.nil ?_
  refine fun a ha => hK1 _ _ ?_ a ha
  refine W.seq fun K2 hK2 => ?_
  refine W.seq fun K3 hK3 => ?_
  refine W.region ?_
  refine wl_move rfl rfl ?_
  refine wl_lenr (e := ty_3) (l := x0) Try.underlying23 rfl rfl h0_0 ?_
  refine wl_move rfl rfl ?_
  refine WL.nil ?_
  refine fun a ha => hK3 _ _ ?_ a ha
  refine W.block ?_
  refine W.loopk (fun m a w4 => ∃ (y7 : Int), St 21 [(1, (.int .i64 x1)), (2, (.int .i64 x2)), (9, v0_0), (10, (.int .i64 (List.length x0 : Int))), (11, (.int .i64 y7))] a ∧ Below w0.heap.size w0 w4 ∧ Sep w0.heap.size w4 [] ∧ F_spec_l1All_L1 x0 x1 x2 m y7 = some r) FU ?_ ?_
  ·
    exact fun a ha => ⟨0, ha.sub ⟨rfl, rfl, rfl, rfl, rfl, trivial⟩, hB, (hS.sel [] rfl), hF⟩
  ·
    rintro m10 a w4 ⟨y7, ha, hB5, hS6, hF⟩ KL9 hKL9
    refine W.at ?_ ha
    cases m10 with
    | zero => exact noneE hF
    | succ m10 =>
      obtain ⟨nx8, hnx8⟩ : ∃ k, k = F_spec_l1All_L1 x0 x1 x2 m10 := ⟨_, rfl⟩
      rw [F_spec_l1All_L1, ← hnx8] at hF
      refine W.seq fun K11 hK11 => ?_
      refine W.region ?_
      refine wl_lss rfl rfl rfl ?_
      refine WL.nil ?_
      refine fun a ha => hK11 _ _ ?_ a ha
      refine W.seq fun K12 hK12 => ?_
      refine W.cond rfl (fun h13 => ?_) (fun h13 => ?_)
      · replace hF := ifP h13 hF
        refine W.skip ?_
        refine fun a ha => hK12 _ _ ?_ a ha
        refine W.seq fun K14 hK14 => ?_
        refine W.block ?_
        refine W.seq fun K15 hK15 => ?_
        refine W.region ?_
        obtain ⟨u16, hu16, hF⟩ := bindE hF
        refine wl_index (e := ty_3) Try.underlying23 rfl rfl rfl h0_0 hu16 ?_
        rintro p17 _ rfl hp18
        refine wl_load_p (vs := [(.int .i64 u16)]) (v := (.int .i64 u16)) tf_3 rfl rfl (hp18.ro hB5) rfl rfl ?_
        refine wl_assign rfl rfl ?_
        refine WL.nil ?_
        refine fun a ha => hK15 _ _ ?_ a ha
        refine W.seq fun K19 hK19 => ?_
        refine W.region ?_
        refine wl_move rfl rfl ?_
        refine wl_move rfl rfl ?_
        refine wl_move rfl rfl ?_
        obtain ⟨u20, hu20, hF⟩ := bindE hF
        refine wl_call rfl Try.call111 (C_spec_l1In w4 u16 x1 x2 _ hu20) rfl ?_
        rintro _ w21 ⟨rfl, hb22⟩
        refine ⟨_, rfl, ?_⟩
        have hB23 := hB5.trans (hb22.mono hB5.size)
        have hS24 := hS6.below hb22
        refine wl_not rfl rfl ?_
        refine WL.nil ?_
        refine fun a ha => hK19 _ _ ?_ a ha
        refine W.cond rfl (fun h26 => ?_) (fun h26 => ?_)
        · replace hF := ifP h26 hF
          refine W.seq fun K27 hK27 => ?_
          refine W.region ?_
          refine wl_assign rfl rfl ?_
          refine WL.nil ?_
          refine fun a ha => hK27 _ _ ?_ a ha
          refine W.ret ?_
          have hr := Option.some.inj hF
          subst hr
          exact rets (vs := [(.bool false)]) hQ rfl ⟨rv_tmp rfl, trivial⟩ ⟨rfl, hB23⟩
        · replace hF := ifN h26 hF
          refine W.skip ?_
          refine fun a ha => hK14 _ _ ?_ a ha
          refine W.region ?_
          refine wl_add rfl rfl rfl ?_
          refine wl_move rfl rfl ?_
          refine WL.nil ?_
          rw [hnx8] at hF
          exact fun a ha => hKL9 a _ m10 (Nat.lt_succ_self m10) ⟨(w64 (y7 + 1)), ha.sub ⟨rfl, rfl, rfl, rfl, rfl, trivial⟩, hB23, (hS24.sel [] rfl), hF⟩
      · replace hF := ifN h13 hF
        refine W.exit ?_
        refine fun a ha => hK2 _ _ ?_ a ha
        refine W.seq fun K28 hK28 => ?_
        refine W.region ?_
        refine wl_assign rfl rfl ?_
        refine WL.nil ?_
        refine fun a ha => hK28 _ _ ?_ a ha
        refine W.ret ?_
        have hr := Option.some.inj hF
        subst hr
        exact rets (vs := [(.bool true)]) hQ rfl ⟨rv_tmp rfl, trivial⟩ ⟨rfl, hB5⟩
theorem C_spec_apDistance (w0 : World) (x0 : Int) (r : Bool) (hF : F_spec_apDistance x0 = some r) :
    Calls Try.prog 121 [(.int .i64 x0)].toArray w0 fun e w' => e = .returned (.bool r) ∧ Below w0.heap.size w0 w' := by
  refine calls_mk' Try.func121 rfl Try.ntmps121 rfl rfl fun Q hQ hP => ?_
  have hB : Below w0.heap.size w0 w0 := Below.refl _ _
  have hS : Sep w0.heap.size w0 [] := Sep.nil _ _
  unfold F_spec_apDistance at hF
  refine W.seq fun K1 hK1 => ?_
  refine W.region ?_
  refine wl_assign rfl rfl ?_
  refine WL.nil ?_
  refine fun a ha => hK1 _ _ ?_ a ha
  refine W.seq fun K2 hK2 => ?_
  refine W.region ?_
  refine wl_move rfl rfl ?_
  obtain ⟨u3, hu3, hF⟩ := bindE hF
  refine wl_call rfl Try.call111 (C_spec_l1In w0 x0 0 80 _ hu3) rfl ?_
  rintro _ w4 ⟨rfl, hb5⟩
  refine ⟨_, rfl, ?_⟩
  have hB6 := hB.trans (hb5.mono hB.size)
  have hS7 := hS.below hb5
  refine wl_assign rfl rfl ?_
  refine WL.nil ?_
  refine fun a ha => hK2 _ _ ?_ a ha
  refine W.ret ?_
  have hr := Option.some.inj hF
  subst hr
  exact rets (vs := [(.bool u3)]) hQ rfl ⟨rv_tmp rfl, trivial⟩ ⟨rfl, hB6⟩
theorem C_spec_mvStep (w0 : World) (x0 : Int) (r : Bool) (hF : F_spec_mvStep x0 = some r) :
    Calls Try.prog 122 [(.int .i64 x0)].toArray w0 fun e w' => e = .returned (.bool r) ∧ Below w0.heap.size w0 w' := by
  refine calls_mk' Try.func122 rfl Try.ntmps122 rfl rfl fun Q hQ hP => ?_
  have hB : Below w0.heap.size w0 w0 := Below.refl _ _
  have hS : Sep w0.heap.size w0 [] := Sep.nil _ _
  unfold F_spec_mvStep at hF
  refine W.seq fun K1 hK1 => ?_
  refine W.region ?_
  refine wl_assign rfl rfl ?_
  refine WL.nil ?_
  refine fun a ha => hK1 _ _ ?_ a ha
  refine W.seq fun K2 hK2 => ?_
  refine W.region ?_
  refine wl_move rfl rfl ?_
  obtain ⟨u3, hu3, hF⟩ := bindE hF
  refine wl_call rfl Try.call111 (C_spec_l1In w0 x0 1 24 _ hu3) rfl ?_
  rintro _ w4 ⟨rfl, hb5⟩
  refine ⟨_, rfl, ?_⟩
  have hB6 := hB.trans (hb5.mono hB.size)
  have hS7 := hS.below hb5
  refine wl_assign rfl rfl ?_
  refine WL.nil ?_
  refine fun a ha => hK2 _ _ ?_ a ha
  refine W.ret ?_
  have hr := Option.some.inj hF
  subst hr
  exact rets (vs := [(.bool u3)]) hQ rfl ⟨rv_tmp rfl, trivial⟩ ⟨rfl, hB6⟩
theorem C_spec_swGood (w0 : World) (x0 : ((List (List (Int × Int))) × (List Int) × Int × Int)) (v0_0 : Value) (h0_0 : rdS ty_69 (· < w0.heap.size) w0 v0_0 x0.1) (v0_1 : Value) (h0_1 : rdS ty_3 (· < w0.heap.size) w0 v0_1 x0.2.1) (r : Bool) (hF : F_spec_swGood x0 = some r) :
    Calls Try.prog 69 [(.agg #[v0_0, v0_1, (.int .i64 x0.2.2.1), (.int .i64 x0.2.2.2)])].toArray w0 fun e w' => e = .returned (.bool r) ∧ Below w0.heap.size w0 w' := by
  refine calls_mk' Try.func69 rfl Try.ntmps69 rfl rfl fun Q hQ hP => ?_
  have hB : Below w0.heap.size w0 w0 := Below.refl _ _
  have hS : Sep w0.heap.size w0 [] := Sep.nil _ _
  unfold F_spec_swGood at hF
  refine W.seq fun K1 hK1 => ?_
  refine W.region ?_
  refine wl_box (cs := [v0_0, v0_1, (.int .i64 x0.2.2.1), (.int .i64 x0.2.2.2)]) rfl rfl rfl hB hS ?_
  intro b2 w3 hb4 hB5 hS6
  refine wl_assign rfl rfl ?_
  refine WL.nil ?_
  refine fun a ha => hK1 _ _ ?_ a ha
  refine W.seq fun K7 hK7 => ?_
  refine W.seq fun K8 hK8 => ?_
  refine W.region ?_
  refine wl_field (o := 0) (off' := 0) ff_31_0 rfl rfl rfl ?_
  refine wl_load_blk (i := 0) (vs := [v0_0]) (v := v0_0) tf_29 rfl rfl hS6 rfl rfl rfl ?_
  refine wl_lenr (e := ty_69) (l := x0.1) Try.underlying29 rfl rfl h0_0 ?_
  refine wl_move rfl rfl ?_
  refine WL.nil ?_
  refine fun a ha => hK8 _ _ ?_ a ha
  refine W.block ?_
  refine W.loopk (fun m a w9 => ∃ (y12 : Int), St 55 [(1, (.pointer (some ⟨b2, 0, none⟩))), (6, v0_0), (7, (.int .i64 (List.length x0.1 : Int))), (8, (.int .i64 y12))] a ∧ Below w0.heap.size w0 w9 ∧ Sep w0.heap.size w9 [R.blk b2 31 [v0_0, v0_1, (.int .i64 x0.2.2.1), (.int .i64 x0.2.2.2)]] ∧ F_spec_swGood_L1 x0 m y12 = some r) FU ?_ ?_
  ·
    exact fun a ha => ⟨0, ha.sub ⟨rfl, rfl, rfl, rfl, trivial⟩, hB5, (hS6.sel [0] rfl), hF⟩
  ·
    rintro m15 a w9 ⟨y12, ha, hB10, hS11, hF⟩ KL14 hKL14
    refine W.at ?_ ha
    cases m15 with
    | zero => exact noneE hF
    | succ m15 =>
      obtain ⟨nx13, hnx13⟩ : ∃ k, k = F_spec_swGood_L1 x0 m15 := ⟨_, rfl⟩
      rw [F_spec_swGood_L1, ← hnx13] at hF
      refine W.seq fun K16 hK16 => ?_
      refine W.region ?_
      refine wl_lss rfl rfl rfl ?_
      refine WL.nil ?_
      refine fun a ha => hK16 _ _ ?_ a ha
      refine W.seq fun K17 hK17 => ?_
      refine W.cond rfl (fun h18 => ?_) (fun h18 => ?_)
      · replace hF := ifP h18 hF
        refine W.skip ?_
        refine fun a ha => hK17 _ _ ?_ a ha
        refine W.seq fun K19 hK19 => ?_
        refine W.block ?_
        refine W.seq fun K20 hK20 => ?_
        refine W.region ?_
        obtain ⟨u21, hu21, hF⟩ := bindE hF
        refine wl_index (e := ty_69) Try.underlying29 rfl rfl rfl h0_0 hu21 ?_
        rintro p22 _ ⟨v24, rfl, hv25⟩ hp23
        refine wl_load_p (vs := [v24]) (v := v24) tf_69 rfl rfl (hp23.ro hB10) rfl rfl ?_
        refine wl_assign rfl rfl ?_
        refine WL.nil ?_
        refine fun a ha => hK20 _ _ ?_ a ha
        refine W.seq fun K26 hK26 => ?_
        obtain ⟨k31, hk31, hF⟩ := jE1 hF
        have hJ32 : ∀ (y30 : Bool) (w27 : World) (_ : k31 y30 = some r) (_ : Below w0.heap.size w0 w27) (_ : Sep w0.heap.size w27 [R.blk b2 31 [v0_0, v0_1, (.int .i64 x0.2.2.1), (.int .i64 x0.2.2.2)]]), ∀ a, St 55 [(1, (.pointer (some ⟨b2, 0, none⟩))), (6, v0_0), (7, (.int .i64 (List.length x0.1 : Int))), (8, (.int .i64 y12)), (24, (.bool y30))] a → K26 a w27 := by
          intro y30 w27 hF hB28 hS29
          subst hk31
          refine fun a ha => hK26 _ _ ?_ a ha
          refine W.cond rfl (fun h33 => ?_) (fun h33 => ?_)
          · replace hF := ifP h33 hF
            refine W.seq fun K34 hK34 => ?_
            refine W.region ?_
            refine wl_assign rfl rfl ?_
            refine WL.nil ?_
            refine fun a ha => hK34 _ _ ?_ a ha
            refine W.ret ?_
            have hr := Option.some.inj hF
            subst hr
            exact rets (vs := [(.bool false)]) hQ rfl ⟨rv_tmp rfl, trivial⟩ ⟨rfl, hB28⟩
          · replace hF := ifN h33 hF
            refine W.skip ?_
            refine fun a ha => hK19 _ _ ?_ a ha
            refine W.region ?_
            refine wl_add rfl rfl rfl ?_
            refine wl_move rfl rfl ?_
            refine WL.nil ?_
            rw [hnx13] at hF
            exact fun a ha => hKL14 a _ m15 (Nat.lt_succ_self m15) ⟨(w64 (y12 + 1)), ha.sub ⟨rfl, rfl, rfl, rfl, trivial⟩, hB28, (hS29.sel [0] rfl), hF⟩
        refine W.region ?_
        refine wl_move rfl rfl ?_
        obtain ⟨u35, hu35, hF⟩ := bindE hF
        refine wl_call rfl Try.call119 (C_spec_chGood w9 u21 v24 (hv25.ro hB10) _ hu35) rfl ?_
        rintro _ w36 ⟨rfl, hb37⟩
        refine ⟨_, rfl, ?_⟩
        have hB38 := hB10.trans (hb37.mono hB10.size)
        have hS39 := hS11.below hb37
        refine wl_not rfl rfl ?_
        refine wl_move rfl rfl ?_
        rcases bE (!u35) with h41 | h41
        · replace hF := ifP h41 hF
          refine wl_off rfl rfl rfl h41 ?_
          refine wl_off rfl rfl rfl h41 ?_
          refine wl_off rfl rfl rfl h41 ?_
          refine wl_off rfl rfl rfl h41 ?_
          refine wl_off rfl rfl rfl h41 ?_
          refine wl_off rfl rfl rfl h41 ?_
          refine wl_off rfl rfl rfl h41 ?_
          refine wl_off rfl rfl rfl h41 ?_
          refine wl_pick_t rfl rfl h41 rfl ?_
          refine WL.nil ?_
          exact fun a ha => hJ32 (true) _ hF hB38 (hS39.sel [0] rfl) a (ha.sub ⟨rfl, rfl, rfl, rfl, rfl, trivial⟩)
        · replace hF := ifN h41 hF
          refine wl_on rfl rfl h41 ?_
          refine wl_move rfl rfl ?_
          refine wl_on rfl rfl h41 ?_
          refine wl_lenr (e := ty_116) (l := u21) Try.underlying69 rfl rfl hv25 ?_
          refine wl_on rfl rfl h41 ?_
          refine wl_field (o := 0) (off' := 0) ff_31_0 rfl rfl rfl ?_
          refine wl_on rfl rfl h41 ?_
          refine wl_load_blk (i := 0) (vs := [v0_0]) (v := v0_0) tf_29 rfl rfl hS39 rfl rfl rfl ?_
          refine wl_on rfl rfl h41 ?_
          obtain ⟨u42, hu42, hF⟩ := bindE hF
          refine wl_index (e := ty_69) Try.underlying29 rfl rfl rfl h0_0 hu42 ?_
          rintro p43 _ ⟨v45, rfl, hv46⟩ hp44
          refine wl_on rfl rfl h41 ?_
          refine wl_load_p (vs := [v45]) (v := v45) tf_69 rfl rfl (hp44.ro hB38) rfl rfl ?_
          refine wl_on rfl rfl h41 ?_
          refine wl_lenr (e := ty_116) (l := u42) Try.underlying69 rfl rfl hv46 ?_
          refine wl_on rfl rfl h41 ?_
          refine wl_neq rfl rfl rfl ?_
          refine wl_pick_f rfl rfl h41 rfl ?_
          refine WL.nil ?_
          exact fun a ha => hJ32 (((List.length u21 : Int) != (List.length u42 : Int))) _ hF hB38 (hS39.sel [0] rfl) a (ha.sub ⟨rfl, rfl, rfl, rfl, rfl, trivial⟩)
      · replace hF := ifN h18 hF
        refine W.exit ?_
        refine fun a ha => hK7 _ _ ?_ a ha
        refine W.seq fun K47 hK47 => ?_
        obtain ⟨k52, hk52, hF⟩ := jE1 hF
        have hJ53 : ∀ (y51 : Bool) (w48 : World) (_ : k52 y51 = some r) (_ : Below w0.heap.size w0 w48) (_ : Sep w0.heap.size w48 []), ∀ a, St 55 [(2, (.bool y51))] a → K47 a w48 := by
          intro y51 w48 hF hB49 hS50
          subst hk52
          refine fun a ha => hK47 _ _ ?_ a ha
          refine W.ret ?_
          have hr := Option.some.inj hF
          subst hr
          exact rets (vs := [(.bool y51)]) hQ rfl ⟨rv_tmp rfl, trivial⟩ ⟨rfl, hB49⟩
        refine W.region ?_
        refine wl_field (o := 0) (off' := 0) ff_31_0 rfl rfl rfl ?_
        refine wl_load_blk (i := 0) (vs := [v0_0]) (v := v0_0) tf_29 rfl rfl hS11 rfl rfl rfl ?_
        refine wl_lenr (e := ty_69) (l := x0.1) Try.underlying29 rfl rfl h0_0 ?_
        obtain ⟨u54, hu54, hF⟩ := bindE hF
        refine wl_call rfl Try.call111 (C_spec_l1In w9 (List.length x0.1 : Int) 2 8 _ hu54) rfl ?_
        rintro _ w55 ⟨rfl, hb56⟩
        refine ⟨_, rfl, ?_⟩
        have hB57 := hB10.trans (hb56.mono hB10.size)
        have hS58 := hS11.below hb56
        refine wl_move rfl rfl ?_
        rcases bE u54 with h60 | h60
        · replace hF := ifP h60 hF
          refine wl_on rfl rfl h60 ?_
          refine wl_field (o := 1) (off' := 1) ff_31_1 rfl rfl rfl ?_
          refine wl_on rfl rfl h60 ?_
          refine wl_load_blk (i := 0) (vs := [v0_1]) (v := v0_1) tf_23 rfl rfl hS58 rfl rfl rfl ?_
          refine wl_on rfl rfl h60 ?_
          refine wl_lenr (e := ty_3) (l := x0.2.1) Try.underlying23 rfl rfl h0_1 ?_
          refine wl_on rfl rfl h60 ?_
          refine wl_field (o := 0) (off' := 0) ff_31_0 rfl rfl rfl ?_
          refine wl_on rfl rfl h60 ?_
          refine wl_load_blk (i := 0) (vs := [v0_0]) (v := v0_0) tf_29 rfl rfl hS58 rfl rfl rfl ?_
          refine wl_on rfl rfl h60 ?_
          refine wl_lenr (e := ty_69) (l := x0.1) Try.underlying29 rfl rfl h0_0 ?_
          refine wl_on rfl rfl h60 ?_
          refine wl_sub rfl rfl rfl ?_
          refine wl_on rfl rfl h60 ?_
          refine wl_eql rfl rfl rfl ?_
          refine wl_pick_t rfl rfl h60 rfl ?_
          refine wl_move rfl rfl ?_
          rcases bE ((List.length x0.2.1 : Int) == (w64 ((List.length x0.1 : Int) - 1))) with h61 | h61
          · replace hF := ifP h61 hF
            refine wl_on rfl rfl h61 ?_
            refine wl_field (o := 1) (off' := 1) ff_31_1 rfl rfl rfl ?_
            refine wl_on rfl rfl h61 ?_
            refine wl_load_blk (i := 0) (vs := [v0_1]) (v := v0_1) tf_23 rfl rfl hS58 rfl rfl rfl ?_
            refine wl_on rfl rfl h61 ?_
            obtain ⟨u62, hu62, hF⟩ := bindE hF
            refine wl_call rfl Try.call120 (C_spec_l1All w55 x0.2.1 v0_1 (h0_1.ro hB57) 1 64 _ hu62) rfl ?_
            rintro _ w63 ⟨rfl, hb64⟩
            refine ⟨_, rfl, ?_⟩
            have hB65 := hB57.trans (hb64.mono hB57.size)
            have hS66 := hS58.below hb64
            refine wl_pick_t rfl rfl h61 rfl ?_
            refine wl_move rfl rfl ?_
            rcases bE u62 with h68 | h68
            · replace hF := ifP h68 hF
              refine wl_on rfl rfl h68 ?_
              refine wl_field (o := 2) (off' := 2) ff_31_2 rfl rfl rfl ?_
              refine wl_on rfl rfl h68 ?_
              refine wl_load_blk (i := 0) (vs := [(.int .i64 x0.2.2.1)]) (v := (.int .i64 x0.2.2.1)) tf_3 rfl rfl hS66 rfl rfl rfl ?_
              refine wl_on rfl rfl h68 ?_
              obtain ⟨u69, hu69, hF⟩ := bindE hF
              refine wl_call rfl Try.call121 (C_spec_apDistance w63 x0.2.2.1 _ hu69) rfl ?_
              rintro _ w70 ⟨rfl, hb71⟩
              refine ⟨_, rfl, ?_⟩
              have hB72 := hB65.trans (hb71.mono hB65.size)
              have hS73 := hS66.below hb71
              refine wl_pick_t rfl rfl h68 rfl ?_
              refine wl_move rfl rfl ?_
              rcases bE u69 with h75 | h75
              · replace hF := ifP h75 hF
                refine wl_on rfl rfl h75 ?_
                refine wl_field (o := 3) (off' := 3) ff_31_3 rfl rfl rfl ?_
                refine wl_on rfl rfl h75 ?_
                refine wl_load_blk (i := 0) (vs := [(.int .i64 x0.2.2.2)]) (v := (.int .i64 x0.2.2.2)) tf_3 rfl rfl hS73 rfl rfl rfl ?_
                refine wl_on rfl rfl h75 ?_
                obtain ⟨u76, hu76, hF⟩ := bindE hF
                refine wl_call rfl Try.call122 (C_spec_mvStep w70 x0.2.2.2 _ hu76) rfl ?_
                rintro _ w77 ⟨rfl, hb78⟩
                refine ⟨_, rfl, ?_⟩
                have hB79 := hB72.trans (hb78.mono hB72.size)
                have hS80 := hS73.below hb78
                refine wl_pick_t rfl rfl h75 rfl ?_
                refine wl_assign rfl rfl ?_
                refine WL.nil ?_
                exact fun a ha => hJ53 (u76) _ hF hB79 (hS80.sel [] rfl) a (ha.sub ⟨rfl, trivial⟩)
              · replace hF := ifN h75 hF
                refine wl_off rfl rfl rfl h75 ?_
                refine wl_off rfl rfl rfl h75 ?_
                refine wl_off rfl rfl rfl h75 ?_
                refine wl_pick_f rfl rfl h75 rfl ?_
                refine wl_assign rfl rfl ?_
                refine WL.nil ?_
                exact fun a ha => hJ53 (false) _ hF hB72 (hS73.sel [] rfl) a (ha.sub ⟨rfl, trivial⟩)
            · replace hF := ifN h68 hF
              refine wl_off rfl rfl rfl h68 ?_
              refine wl_off rfl rfl rfl h68 ?_
              refine wl_off rfl rfl rfl h68 ?_
              refine wl_pick_f rfl rfl h68 rfl ?_
              refine wl_move rfl rfl ?_
              refine wl_off rfl rfl rfl rfl ?_
              refine wl_off rfl rfl rfl rfl ?_
              refine wl_off rfl rfl rfl rfl ?_
              refine wl_pick_f rfl rfl rfl rfl ?_
              refine wl_assign rfl rfl ?_
              refine WL.nil ?_
              exact fun a ha => hJ53 (false) _ hF hB65 (hS66.sel [] rfl) a (ha.sub ⟨rfl, trivial⟩)
          · replace hF := ifN h61 hF
            refine wl_off rfl rfl rfl h61 ?_
            refine wl_off rfl rfl rfl h61 ?_
            refine wl_off rfl rfl rfl h61 ?_
            refine wl_pick_f rfl rfl h61 rfl ?_
            refine wl_move rfl rfl ?_
            refine wl_off rfl rfl rfl rfl ?_
            refine wl_off rfl rfl rfl rfl ?_
            refine wl_off rfl rfl rfl rfl ?_
            refine wl_pick_f rfl rfl rfl rfl ?_
            refine wl_move rfl rfl ?_
            refine wl_off rfl rfl rfl rfl ?_
            refine wl_off rfl rfl rfl rfl ?_
            refine wl_off rfl rfl rfl rfl ?_
            refine wl_pick_f rfl rfl rfl rfl ?_
            refine wl_assign rfl rfl ?_
            refine WL.nil ?_
            exact fun a ha => hJ53 (false) _ hF hB57 (hS58.sel [] rfl) a (ha.sub ⟨rfl, trivial⟩)
        · replace hF := ifN h60 hF
          refine wl_off rfl rfl rfl h60 ?_
          refine wl_off rfl rfl rfl h60 ?_
          refine wl_off rfl rfl rfl h60 ?_
          refine wl_off rfl rfl rfl h60 ?_
          refine wl_off rfl rfl rfl h60 ?_
          refine wl_off rfl rfl rfl h60 ?_
          refine wl_off rfl rfl rfl h60 ?_
          refine wl_off rfl rfl rfl h60 ?_
          refine wl_pick_f rfl rfl h60 rfl ?_
          refine wl_move rfl rfl ?_
          refine wl_off rfl rfl rfl rfl ?_
          refine wl_off rfl rfl rfl rfl ?_
          refine wl_off rfl rfl rfl rfl ?_
          refine wl_pick_f rfl rfl rfl rfl ?_
          refine wl_move rfl rfl ?_
          refine wl_off rfl rfl rfl rfl ?_
          refine wl_off rfl rfl rfl rfl ?_
          refine wl_off rfl rfl rfl rfl ?_
          refine wl_pick_f rfl rfl rfl rfl ?_
          refine wl_move rfl rfl ?_
          refine wl_off rfl rfl rfl rfl ?_
          refine wl_off rfl rfl rfl rfl ?_
          refine wl_off rfl rfl rfl rfl ?_
          refine wl_pick_f rfl rfl rfl rfl ?_
          refine wl_assign rfl rfl ?_
          refine WL.nil ?_
          exact fun a ha => hJ53 (false) _ hF hB57 (hS58.sel [] rfl) a (ha.sub ⟨rfl, trivial⟩)
theorem C_impl_within (w0 : World) (x0 : Int) (x1 : Int) (x2 : Int) (r : Bool) (hF : F_impl_within x0 x1 x2 = some r) :
    Calls Try.prog 112 [(.int .i64 x0), (.int .i64 x1), (.int .i64 x2)].toArray w0 fun e w' => e = .returned (.bool r) ∧ Below w0.heap.size w0 w' := by
  refine calls_mk' Try.func112 rfl Try.ntmps112 rfl rfl fun Q hQ hP => ?_
  have hB : Below w0.heap.size w0 w0 := Below.refl _ _
  have hS : Sep w0.heap.size w0 [] := Sep.nil _ _
  unfold F_impl_within at hF
  refine W.seq fun K1 hK1 => ?_
  refine W.region ?_
  refine wl_assign rfl rfl ?_
  refine WL.nil ?_
  refine fun a ha => hK1 _ _ ?_ a ha
  refine W.seq fun K2 hK2 => ?_
  obtain ⟨k7, hk7, hF⟩ := jE1 hF
  have hJ8 : ∀ (y6 : Bool) (w3 : World) (_ : k7 y6 = some r) (_ : Below w0.heap.size w0 w3) (_ : Sep w0.heap.size w3 []), ∀ a, St 15 [(6, (.bool y6))] a → K2 a w3 := by
    intro y6 w3 hF hB4 hS5
    subst hk7
    refine fun a ha => hK2 _ _ ?_ a ha
    refine W.ret ?_
    have hr := Option.some.inj hF
    subst hr
    exact rets (vs := [(.bool y6)]) hQ rfl ⟨rv_tmp rfl, trivial⟩ ⟨rfl, hB4⟩
  refine W.region ?_
  refine wl_move rfl rfl ?_
  refine wl_move rfl rfl ?_
  refine wl_geq rfl rfl rfl ?_
  refine wl_move rfl rfl ?_
  rcases bE (decide (x1 ≤ x0)) with h9 | h9
  · replace hF := ifP h9 hF
    refine wl_on rfl rfl h9 ?_
    refine wl_move rfl rfl ?_
    refine wl_on rfl rfl h9 ?_
    refine wl_move rfl rfl ?_
    refine wl_on rfl rfl h9 ?_
    refine wl_leq rfl rfl rfl ?_
    refine wl_pick_t rfl rfl h9 rfl ?_
    refine wl_assign rfl rfl ?_
    refine WL.nil ?_
    exact fun a ha => hJ8 ((decide (x0 ≤ x2))) _ hF hB (hS.sel [] rfl) a (ha.sub ⟨rfl, trivial⟩)
  · replace hF := ifN h9 hF
    refine wl_off rfl rfl rfl h9 ?_
    refine wl_off rfl rfl rfl h9 ?_
    refine wl_off rfl rfl rfl h9 ?_
    refine wl_pick_f rfl rfl h9 rfl ?_
    refine wl_assign rfl rfl ?_
    refine WL.nil ?_
    exact fun a ha => hJ8 (false) _ hF hB (hS.sel [] rfl) a (ha.sub ⟨rfl, trivial⟩)
theorem C_impl_IsSpot (w0 : World) (x0 : (Int × Int)) (r : Bool) (hF : F_impl_IsSpot x0 = some r) :
    Calls Try.prog 141 [(.agg #[(.int .i64 x0.1), (.int .i64 x0.2)])].toArray w0 fun e w' => e = .returned (.bool r) ∧ Below w0.heap.size w0 w' := by
  refine calls_mk' Try.func141 rfl Try.ntmps141 rfl rfl fun Q hQ hP => ?_
  have hB : Below w0.heap.size w0 w0 := Below.refl _ _
  have hS : Sep w0.heap.size w0 [] := Sep.nil _ _
  unfold F_impl_IsSpot at hF
  refine W.seq fun K1 hK1 => ?_
  refine W.region ?_
  refine wl_box (cs := [(.int .i64 x0.1), (.int .i64 x0.2)]) rfl rfl rfl hB hS ?_
  intro b2 w3 hb4 hB5 hS6
  refine wl_assign rfl rfl ?_
  refine WL.nil ?_
  refine fun a ha => hK1 _ _ ?_ a ha
  refine W.seq fun K7 hK7 => ?_
  obtain ⟨k12, hk12, hF⟩ := jE1 hF
  have hJ13 : ∀ (y11 : Bool) (w8 : World) (_ : k12 y11 = some r) (_ : Below w0.heap.size w0 w8) (_ : Sep w0.heap.size w8 []), ∀ a, St 11 [(2, (.bool y11))] a → K7 a w8 := by
    intro y11 w8 hF hB9 hS10
    subst hk12
    refine fun a ha => hK7 _ _ ?_ a ha
    refine W.ret ?_
    have hr := Option.some.inj hF
    subst hr
    exact rets (vs := [(.bool y11)]) hQ rfl ⟨rv_tmp rfl, trivial⟩ ⟨rfl, hB9⟩
  refine W.region ?_
  refine wl_field (o := 0) (off' := 0) ff_116_0 rfl rfl rfl ?_
  refine wl_load_blk (i := 0) (vs := [(.int .i64 x0.1)]) (v := (.int .i64 x0.1)) tf_3 rfl rfl hS6 rfl rfl rfl ?_
  obtain ⟨u14, hu14, hF⟩ := bindE hF
  refine wl_call rfl Try.call112 (C_impl_within w3 x0.1 0 1280 _ hu14) rfl ?_
  rintro _ w15 ⟨rfl, hb16⟩
  refine ⟨_, rfl, ?_⟩
  have hB17 := hB5.trans (hb16.mono hB5.size)
  have hS18 := hS6.below hb16
  refine wl_move rfl rfl ?_
  rcases bE u14 with h20 | h20
  · replace hF := ifP h20 hF
    refine wl_on rfl rfl h20 ?_
    refine wl_field (o := 1) (off' := 1) ff_116_1 rfl rfl rfl ?_
    refine wl_on rfl rfl h20 ?_
    refine wl_load_blk (i := 0) (vs := [(.int .i64 x0.2)]) (v := (.int .i64 x0.2)) tf_3 rfl rfl hS18 rfl rfl rfl ?_
    refine wl_on rfl rfl h20 ?_
    obtain ⟨u21, hu21, hF⟩ := bindE hF
    refine wl_call rfl Try.call112 (C_impl_within w15 x0.2 0 672 _ hu21) rfl ?_
    rintro _ w22 ⟨rfl, hb23⟩
    refine ⟨_, rfl, ?_⟩
    have hB24 := hB17.trans (hb23.mono hB17.size)
    have hS25 := hS18.below hb23
    refine wl_pick_t rfl rfl h20 rfl ?_
    refine wl_assign rfl rfl ?_
    refine WL.nil ?_
    exact fun a ha => hJ13 (u21) _ hF hB24 (hS25.sel [] rfl) a (ha.sub ⟨rfl, trivial⟩)
  · replace hF := ifN h20 hF
    refine wl_off rfl rfl rfl h20 ?_
    refine wl_off rfl rfl rfl h20 ?_
    refine wl_off rfl rfl rfl h20 ?_
    refine wl_pick_f rfl rfl h20 rfl ?_
    refine wl_assign rfl rfl ?_
    refine WL.nil ?_
    exact fun a ha => hJ13 (false) _ hF hB17 (hS18.sel [] rfl) a (ha.sub ⟨rfl, trivial⟩)
theorem C_slices_Index_impl_Spot_impl_Spot (w0 : World) (x0 : (List (Int × Int))) (v0_0 : Value) (h0_0 : rdS ty_116 (· < w0.heap.size) w0 v0_0 x0) (x1 : (Int × Int)) (r : Int) (hF : F_slices_Index_impl_Spot_impl_Spot x0 x1 = some r) :
    Calls Try.prog 156 [v0_0, (.agg #[(.int .i64 x1.1), (.int .i64 x1.2)])].toArray w0 fun e w' => e = .returned (.int .i64 r) ∧ Below w0.heap.size w0 w' := by
  refine calls_mk' Try.func156 rfl Try.ntmps156 rfl rfl fun Q hQ hP => ?_
  have hB : Below w0.heap.size w0 w0 := Below.refl _ _
  have hS : Sep w0.heap.size w0 [] := Sep.nil _ _
  unfold F_slices_Index_impl_Spot_impl_Spot at hF
  refine W.seq fun K1 hK1 => ?_
  refine W.region ?_
  refine wl_box (cs := [(.int .i64 x1.1), (.int .i64 x1.2)]) rfl rfl rfl hB hS ?_
  intro b2 w3 hb4 hB5 hS6
  refine wl_assign rfl rfl ?_
  refine WL.nil ?_
  refine fun a ha => hK1 _ _ ?_ a ha
  refine W.seq fun K7 hK7 => ?_
  refine W.seq fun K8 hK8 => ?_
  refine W.region ?_
  refine wl_move rfl rfl ?_
  refine wl_lenr (e := ty_116) (l := x0) Try.underlying69 rfl rfl h0_0 ?_
  refine wl_move rfl rfl ?_
  refine WL.nil ?_
  refine fun a ha => hK8 _ _ ?_ a ha
  refine W.block ?_
  refine W.loopk (fun m a w9 => ∃ (y12 : Int), St 19 [(0, v0_0), (3, (.pointer (some ⟨b2, 0, none⟩))), (7, (.int .i64 (List.length x0 : Int))), (8, (.int .i64 y12))] a ∧ Below w0.heap.size w0 w9 ∧ Sep w0.heap.size w9 [R.blk b2 116 [(.int .i64 x1.1), (.int .i64 x1.2)]] ∧ F_slices_Index_impl_Spot_impl_Spot_L1 x0 x1 m y12 = some r) FU ?_ ?_
  ·
    exact fun a ha => ⟨0, ha.sub ⟨rfl, rfl, rfl, rfl, trivial⟩, hB5, (hS6.sel [0] rfl), hF⟩
  ·
    rintro m15 a w9 ⟨y12, ha, hB10, hS11, hF⟩ KL14 hKL14
    refine W.at ?_ ha
    cases m15 with
    | zero => exact noneE hF
    | succ m15 =>
      obtain ⟨nx13, hnx13⟩ : ∃ k, k = F_slices_Index_impl_Spot_impl_Spot_L1 x0 x1 m15 := ⟨_, rfl⟩
      rw [F_slices_Index_impl_Spot_impl_Spot_L1, ← hnx13] at hF
      refine W.seq fun K16 hK16 => ?_
      refine W.region ?_
      refine wl_lss rfl rfl rfl ?_
      refine WL.nil ?_
      refine fun a ha => hK16 _ _ ?_ a ha
      refine W.seq fun K17 hK17 => ?_
      refine W.cond rfl (fun h18 => ?_) (fun h18 => ?_)
      · replace hF := ifP h18 hF
        refine W.skip ?_
        refine fun a ha => hK17 _ _ ?_ a ha
        refine W.seq fun K19 hK19 => ?_
        refine W.block ?_
        refine W.seq fun K20 hK20 => ?_
        refine W.region ?_
        refine wl_move rfl rfl ?_
        refine wl_assign rfl rfl ?_
        refine WL.nil ?_
        refine fun a ha => hK20 _ _ ?_ a ha
        refine W.seq fun K21 hK21 => ?_
        refine W.regionH mixed_ [] hB10 hS11 ?_
        intro w22 hb23 hB24 hS25
        have hSW26 := KeepX.refl w22 []
        refine WH.takex (i := 0) rfl (by kernel_rfl) (by kernel_rfl) (by kernel_rfl) hP hSW26 ?_
        refine pr_load_blk (i := 0) (vs := [(.int .i64 x1.1), (.int .i64 x1.2)]) (v := (.agg #[(.int .i64 x1.1), (.int .i64 x1.2)])) tf_116 rfl rfl hS25 rfl rfl rfl (by simp) ?_
        refine WH.takex (i := 1) rfl (by kernel_rfl) (by kernel_rfl) (by kernel_rfl) hP hSW26 ?_
        refine pr_move rfl rfl ?_
        refine WH.takex (i := 2) rfl (by kernel_rfl) (by kernel_rfl) (by kernel_rfl) hP hSW26 ?_
        refine pr_move rfl rfl ?_
        obtain ⟨u27, hu27, hF⟩ := bindE hF
        refine WH.takex (i := 3) rfl (by kernel_rfl) (by kernel_rfl) (by kernel_rfl) hP hSW26 ?_
        refine pr_index (e := ty_116) Try.underlying69 rfl rfl rfl h0_0 hu27 ?_
        rintro p28 _ rfl hp29
        refine WH.takex (i := 4) rfl (by kernel_rfl) (by kernel_rfl) (by kernel_rfl) hP hSW26 ?_
        refine pr_load_p (vs := [(.int .i64 u27.1), (.int .i64 u27.2)]) (v := (.agg #[(.int .i64 u27.1), (.int .i64 u27.2)])) tf_116 rfl rfl (hp29.kx hB24 (by simp)) rfl rfl ?_
        refine WH.takex (i := 5) rfl (by kernel_rfl) (by kernel_rfl) (by kernel_rfl) hP hSW26 ?_
        refine pr_eqs Try.eqGuardType116 (eq_116 x1 u27) rfl rfl rfl ?_
        refine WH.done (by kernel_rfl) ?_
        refine fun a ha => hK21 _ _ ?_ a ha
        refine W.cond rfl (fun h30 => ?_) (fun h30 => ?_)
        · replace hF := ifP h30 hF
          refine W.seq fun K31 hK31 => ?_
          refine W.region ?_
          refine wl_move rfl rfl ?_
          refine wl_assign rfl rfl ?_
          refine WL.nil ?_
          refine fun a ha => hK31 _ _ ?_ a ha
          refine W.ret ?_
          have hr := Option.some.inj hF
          subst hr
          exact rets (vs := [(.int .i64 y12)]) hQ rfl ⟨rv_tmp rfl, trivial⟩ ⟨rfl, hB24⟩
        · replace hF := ifN h30 hF
          refine W.skip ?_
          refine fun a ha => hK19 _ _ ?_ a ha
          refine W.region ?_
          refine wl_add rfl rfl rfl ?_
          refine wl_move rfl rfl ?_
          refine WL.nil ?_
          rw [hnx13] at hF
          exact fun a ha => hKL14 a _ m15 (Nat.lt_succ_self m15) ⟨(w64 (y12 + 1)), ha.sub ⟨rfl, rfl, rfl, rfl, trivial⟩, hB24, (hS25.sel [0] rfl), hF⟩
      · replace hF := ifN h18 hF
        refine W.exit ?_
        refine fun a ha => hK7 _ _ ?_ a ha
        refine W.seq fun K32 hK32 => ?_
        refine W.region ?_
        refine wl_assign rfl rfl ?_
        refine WL.nil ?_
        refine fun a ha => hK32 _ _ ?_ a ha
        refine W.ret ?_
        have hr := Option.some.inj hF
        subst hr
        exact rets (vs := [(.int .i64 (-1))]) hQ rfl ⟨rv_tmp rfl, trivial⟩ ⟨rfl, hB10⟩
theorem C_slices_Contains_impl_Spot_impl_Spot (w0 : World) (x0 : (List (Int × Int))) (v0_0 : Value) (h0_0 : rdS ty_116 (· < w0.heap.size) w0 v0_0 x0) (x1 : (Int × Int)) (r : Bool) (hF : F_slices_Contains_impl_Spot_impl_Spot x0 x1 = some r) :
    Calls Try.prog 154 [v0_0, (.agg #[(.int .i64 x1.1), (.int .i64 x1.2)])].toArray w0 fun e w' => e = .returned (.bool r) ∧ Below w0.heap.size w0 w' := by
  refine calls_mk' Try.func154 rfl Try.ntmps154 rfl rfl fun Q hQ hP => ?_
  have hB : Below w0.heap.size w0 w0 := Below.refl _ _
  have hS : Sep w0.heap.size w0 [] := Sep.nil _ _
  unfold F_slices_Contains_impl_Spot_impl_Spot at hF
  refine W.seq fun K1 hK1 => ?_
  refine W.region ?_
  refine wl_box (cs := [(.int .i64 x1.1), (.int .i64 x1.2)]) rfl rfl rfl hB hS ?_
  intro b2 w3 hb4 hB5 hS6
  refine wl_assign rfl rfl ?_
  refine WL.nil ?_
  refine fun a ha => hK1 _ _ ?_ a ha
  refine W.seq fun K7 hK7 => ?_
  refine W.region ?_
  refine wl_move rfl rfl ?_
  refine wl_load_blk (i := 0) (vs := [(.int .i64 x1.1), (.int .i64 x1.2)]) (v := (.agg #[(.int .i64 x1.1), (.int .i64 x1.2)])) tf_116 rfl rfl hS6 rfl rfl rfl ?_
  obtain ⟨u8, hu8, hF⟩ := bindE hF
  refine wl_call rfl Try.call156 (C_slices_Index_impl_Spot_impl_Spot w3 x0 v0_0 (h0_0.ro hB5) x1 _ hu8) rfl ?_
  rintro _ w9 ⟨rfl, hb10⟩
  refine ⟨_, rfl, ?_⟩
  have hB11 := hB5.trans (hb10.mono hB5.size)
  have hS12 := hS6.below hb10
  refine wl_geq rfl rfl rfl ?_
  refine wl_assign rfl rfl ?_
  refine WL.nil ?_
  refine fun a ha => hK7 _ _ ?_ a ha
  refine W.ret ?_
  have hr := Option.some.inj hF
  subst hr
  exact rets (vs := [(.bool (decide (0 ≤ u8)))]) hQ rfl ⟨rv_tmp rfl, trivial⟩ ⟨rfl, hB11⟩
theorem C_impl_IsChart (w0 : World) (x0 : (List (Int × Int))) (v0_0 : Value) (h0_0 : rdS ty_116 (· < w0.heap.size) w0 v0_0 x0) (r : Bool) (hF : F_impl_IsChart x0 = some r) :
    Calls Try.prog 145 [v0_0].toArray w0 fun e w' => e = .returned (.bool r) ∧ Below w0.heap.size w0 w' := by
  refine calls_mk' Try.func145 rfl Try.ntmps145 rfl rfl fun Q hQ hP => ?_
  have hB : Below w0.heap.size w0 w0 := Below.refl _ _
  have hS : Sep w0.heap.size w0 [] := Sep.nil _ _
  unfold F_impl_IsChart at hF
  refine W.seq fun K1 hK1 => ?_
  refine W.region ?_
  refine wl_assign rfl rfl ?_
  refine WL.nil ?_
  refine fun a ha => hK1 _ _ ?_ a ha
  refine W.seq fun K2 hK2 => ?_
  refine W.seq fun K3 hK3 => ?_
  refine W.region ?_
  refine wl_move rfl rfl ?_
  refine wl_lenr (e := ty_116) (l := x0) Try.underlying69 rfl rfl h0_0 ?_
  obtain ⟨u4, hu4, hF⟩ := bindE hF
  refine wl_call rfl Try.call112 (C_impl_within w0 (List.length x0 : Int) 1 12 _ hu4) rfl ?_
  rintro _ w5 ⟨rfl, hb6⟩
  refine ⟨_, rfl, ?_⟩
  have hB7 := hB.trans (hb6.mono hB.size)
  have hS8 := hS.below hb6
  refine wl_not rfl rfl ?_
  refine WL.nil ?_
  refine fun a ha => hK3 _ _ ?_ a ha
  refine W.cond rfl (fun h10 => ?_) (fun h10 => ?_)
  · replace hF := ifP h10 hF
    refine W.seq fun K11 hK11 => ?_
    refine W.region ?_
    refine wl_assign rfl rfl ?_
    refine WL.nil ?_
    refine fun a ha => hK11 _ _ ?_ a ha
    refine W.ret ?_
    have hr := Option.some.inj hF
    subst hr
    exact rets (vs := [(.bool false)]) hQ rfl ⟨rv_tmp rfl, trivial⟩ ⟨rfl, hB7⟩
  · replace hF := ifN h10 hF
    refine W.skip ?_
    refine fun a ha => hK2 _ _ ?_ a ha
    refine W.seq fun K12 hK12 => ?_
    refine W.seq fun K13 hK13 => ?_
    refine W.region ?_
    refine wl_move rfl rfl ?_
    refine wl_lenr (e := ty_116) (l := x0) Try.underlying69 rfl rfl h0_0 ?_
    refine wl_move rfl rfl ?_
    refine WL.nil ?_
    refine fun a ha => hK13 _ _ ?_ a ha
    refine W.block ?_
    refine W.loopk (fun m a w14 => ∃ (y17 : Int), St 27 [(0, v0_0), (9, v0_0), (10, (.int .i64 (List.length x0 : Int))), (11, (.int .i64 y17))] a ∧ Below w0.heap.size w0 w14 ∧ Sep w0.heap.size w14 [] ∧ F_impl_IsChart_L1 x0 m y17 = some r) FU ?_ ?_
    ·
      exact fun a ha => ⟨0, ha.sub ⟨rfl, rfl, rfl, rfl, trivial⟩, hB7, (hS8.sel [] rfl), hF⟩
    ·
      rintro m20 a w14 ⟨y17, ha, hB15, hS16, hF⟩ KL19 hKL19
      refine W.at ?_ ha
      cases m20 with
      | zero => exact noneE hF
      | succ m20 =>
        obtain ⟨nx18, hnx18⟩ : ∃ k, k = F_impl_IsChart_L1 x0 m20 := ⟨_, rfl⟩
        rw [F_impl_IsChart_L1, ← hnx18] at hF
        refine W.seq fun K21 hK21 => ?_
        refine W.region ?_
        refine wl_lss rfl rfl rfl ?_
        refine WL.nil ?_
        refine fun a ha => hK21 _ _ ?_ a ha
        refine W.seq fun K22 hK22 => ?_
        refine W.cond rfl (fun h23 => ?_) (fun h23 => ?_)
        · replace hF := ifP h23 hF
          refine W.skip ?_
          refine fun a ha => hK22 _ _ ?_ a ha
          refine W.seq fun K24 hK24 => ?_
          refine W.block ?_
          refine W.seq fun K25 hK25 => ?_
          refine W.region ?_
          refine wl_move rfl rfl ?_
          obtain ⟨u26, hu26, hF⟩ := bindE hF
          refine wl_index (e := ty_116) Try.underlying69 rfl rfl rfl h0_0 hu26 ?_
          rintro p27 _ rfl hp28
          refine wl_load_p (vs := [(.int .i64 u26.1), (.int .i64 u26.2)]) (v := (.agg #[(.int .i64 u26.1), (.int .i64 u26.2)])) tf_116 rfl rfl (hp28.ro hB15) rfl rfl ?_
          refine wl_alloc (cs := [(.int .i64 0), (.int .i64 0)]) tf_116 rfl rfl hB15 hS16 ?_
          intro b29 w30 hb31 hB32 hS33
          refine wl_assign rfl rfl ?_
          refine wl_store_blk (i := 0) (vs := [(.int .i64 u26.1), (.int .i64 u26.2)]) (cs' := [(.int .i64 u26.1), (.int .i64 u26.2)]) tf_116 rfl rfl rfl rfl hB32 hS33 rfl rfl ⟨rfl, rfl, trivial⟩ rfl ?_
          intro w34 hk37 hB35 hS36
          refine WL.nil ?_
          refine fun a ha => hK25 _ _ ?_ a ha
          refine W.seq fun K38 hK38 => ?_
          obtain ⟨k43, hk43, hF⟩ := jE1 hF
          have hJ44 : ∀ (y42 : Bool) (w39 : World) (_ : k43 y42 = some r) (_ : Below w0.heap.size w0 w39) (_ : Sep w0.heap.size w39 []), ∀ a, St 27 [(0, v0_0), (9, v0_0), (10, (.int .i64 (List.length x0 : Int))), (11, (.int .i64 y17)), (25, (.bool y42))] a → K38 a w39 := by
            intro y42 w39 hF hB40 hS41
            subst hk43
            refine fun a ha => hK38 _ _ ?_ a ha
            refine W.cond rfl (fun h45 => ?_) (fun h45 => ?_)
            · replace hF := ifP h45 hF
              refine W.seq fun K46 hK46 => ?_
              refine W.region ?_
              refine wl_assign rfl rfl ?_
              refine WL.nil ?_
              refine fun a ha => hK46 _ _ ?_ a ha
              refine W.ret ?_
              have hr := Option.some.inj hF
              subst hr
              exact rets (vs := [(.bool false)]) hQ rfl ⟨rv_tmp rfl, trivial⟩ ⟨rfl, hB40⟩
            · replace hF := ifN h45 hF
              refine W.skip ?_
              refine fun a ha => hK24 _ _ ?_ a ha
              refine W.region ?_
              refine wl_add rfl rfl rfl ?_
              refine wl_move rfl rfl ?_
              refine WL.nil ?_
              rw [hnx18] at hF
              exact fun a ha => hKL19 a _ m20 (Nat.lt_succ_self m20) ⟨(w64 (y17 + 1)), ha.sub ⟨rfl, rfl, rfl, rfl, trivial⟩, hB40, (hS41.sel [] rfl), hF⟩
          refine W.regionH mixed_ [] hB35 hS36 ?_
          intro w47 hb48 hB49 hS50
          have hSW51 := KeepX.refl w47 []
          refine WH.takex (i := 0) rfl (by kernel_rfl) (by kernel_rfl) (by kernel_rfl) hP hSW51 ?_
          refine pr_load_blk (i := 0) (vs := [(.int .i64 u26.1), (.int .i64 u26.2)]) (v := (.agg #[(.int .i64 u26.1), (.int .i64 u26.2)])) tf_116 rfl rfl hS50 rfl rfl rfl (by simp) ?_
          refine WH.one (i := 1) (by kernel_rfl) rfl ?_
          obtain ⟨u52, hu52, hF⟩ := bindE hF
          refine wl_call rfl Try.call141 (C_impl_IsSpot w47 u26 _ hu52) rfl ?_
          rintro _ w53 ⟨rfl, hb54⟩
          refine ⟨_, rfl, ?_⟩
          have hB55 := hB49.trans (hb54.mono hB49.size)
          have hS56 := hS50.below hb54
          have hSW58 := hSW51.ext hb54
          refine WL.nil (WH.ret hSW58 ?_)
          refine WH.takex (i := 2) rfl (by kernel_rfl) (by kernel_rfl) (by kernel_rfl) hP hSW58 ?_
          refine pr_not rfl rfl ?_
          refine WH.takex (i := 3) rfl (by kernel_rfl) (by kernel_rfl) (by kernel_rfl) hP hSW58 ?_
          refine pr_move rfl rfl ?_
          rcases bE (!u52) with h59 | h59
          · replace hF := ifP h59 hF
            refine WH.off (i := 4) rfl (by kernel_rfl) (by kernel_rfl) (by kernel_rfl) hP rfl rfl h59 rfl hSW58 ?_
            refine WH.off (i := 5) rfl (by kernel_rfl) (by kernel_rfl) (by kernel_rfl) hP rfl rfl h59 rfl hSW58 ?_
            refine WH.off (i := 6) rfl (by kernel_rfl) (by kernel_rfl) (by kernel_rfl) hP rfl rfl h59 rfl hSW58 ?_
            refine WH.off (i := 7) rfl (by kernel_rfl) (by kernel_rfl) (by kernel_rfl) hP rfl rfl h59 rfl hSW58 ?_
            refine WH.off (i := 8) rfl (by kernel_rfl) (by kernel_rfl) (by kernel_rfl) hP rfl rfl h59 rfl hSW58 ?_
            refine WH.takex (i := 9) rfl (by kernel_rfl) (by kernel_rfl) (by kernel_rfl) hP hSW58 ?_
            refine pr_pick_t rfl rfl h59 rfl ?_
            refine WH.done (by kernel_rfl) ?_
            exact fun a ha => hJ44 (true) _ hF hB55 (hS56.sel [] rfl) a (ha.sub ⟨rfl, rfl, rfl, rfl, rfl, trivial⟩)
          · replace hF := ifN h59 hF
            refine WH.takexg (i := 4) rfl (by kernel_rfl) (by kernel_rfl) (by kernel_rfl) hP rfl rfl h59 hSW58 ?_
            refine pr_move rfl rfl ?_
            refine WH.takexg (i := 5) rfl (by kernel_rfl) (by kernel_rfl) (by kernel_rfl) hP rfl rfl h59 hSW58 ?_
            refine pr_move rfl rfl ?_
            obtain ⟨u60, hu60, hF⟩ := bindE hF
            refine WH.takexg (i := 6) rfl (by kernel_rfl) (by kernel_rfl) (by kernel_rfl) hP rfl rfl h59 hSW58 ?_
            refine pr_slice (e := ty_116) Try.underlying69 rfl rfl h0_0 hu60 (.inl ⟨rfl, rfl⟩) (.inr ⟨_, _, rfl, rfl⟩) ?_
            intro v61 hv62
            refine WH.takexg (i := 7) rfl (by kernel_rfl) (by kernel_rfl) (by kernel_rfl) hP rfl rfl h59 hSW58 ?_
            refine pr_load_blk (i := 0) (vs := [(.int .i64 u26.1), (.int .i64 u26.2)]) (v := (.agg #[(.int .i64 u26.1), (.int .i64 u26.2)])) tf_116 rfl rfl hS50 rfl rfl rfl (by simp) ?_
            refine WH.one (i := 8) (by kernel_rfl) rfl ?_
            refine wl_on rfl rfl h59 ?_
            obtain ⟨u63, hu63, hF⟩ := bindE hF
            refine wl_call rfl Try.call154 (C_slices_Contains_impl_Spot_impl_Spot w53 u60 v61 (hv62.ro hB55) u26 _ hu63) rfl ?_
            rintro _ w65 ⟨rfl, hb66⟩
            refine ⟨_, rfl, ?_⟩
            have hB67 := hB55.trans (hb66.mono hB55.size)
            have hS68 := hS56.below hb66
            have hSW70 := hSW58.ext hb66
            refine WL.nil (WH.ret hSW70 ?_)
            refine WH.takex (i := 9) rfl (by kernel_rfl) (by kernel_rfl) (by kernel_rfl) hP hSW70 ?_
            refine pr_pick_f rfl rfl h59 rfl ?_
            refine WH.done (by kernel_rfl) ?_
            exact fun a ha => hJ44 (u63) _ hF hB67 (hS68.sel [] rfl) a (ha.sub ⟨rfl, rfl, rfl, rfl, rfl, trivial⟩)
        · replace hF := ifN h23 hF
          refine W.exit ?_
          refine fun a ha => hK12 _ _ ?_ a ha
          refine W.seq fun K71 hK71 => ?_
          refine W.region ?_
          refine wl_assign rfl rfl ?_
          refine WL.nil ?_
          refine fun a ha => hK71 _ _ ?_ a ha
          refine W.ret ?_
          have hr := Option.some.inj hF
          subst hr
          exact rets (vs := [(.bool true)]) hQ rfl ⟨rv_tmp rfl, trivial⟩ ⟨rfl, hB15⟩
theorem C_impl_areCharts (w0 : World) (x0 : (List (List (Int × Int)))) (v0_0 : Value) (h0_0 : rdS ty_69 (· < w0.heap.size) w0 v0_0 x0) (x1 : (List Int)) (v1_0 : Value) (h1_0 : rdS ty_3 (· < w0.heap.size) w0 v1_0 x1) (r : Bool) (hF : F_impl_areCharts x0 x1 = some r) :
    Calls Try.prog 124 [v0_0, v1_0].toArray w0 fun e w' => e = .returned (.bool r) ∧ Below w0.heap.size w0 w' := by
  refine calls_mk' Try.func124 rfl Try.ntmps124 rfl rfl fun Q hQ hP => ?_
  have hB : Below w0.heap.size w0 w0 := Below.refl _ _
  have hS : Sep w0.heap.size w0 [] := Sep.nil _ _
  unfold F_impl_areCharts at hF
  refine W.seq fun K1 hK1 => ?_
  refine W.region ?_
  refine wl_assign rfl rfl ?_
  refine WL.nil ?_
  refine fun a ha => hK1 _ _ ?_ a ha
  refine W.seq fun K2 hK2 => ?_
  refine W.seq fun K3 hK3 => ?_
  obtain ⟨k8, hk8, hF⟩ := jE1 hF
  have hJ9 : ∀ (y7 : Bool) (w4 : World) (_ : k8 y7 = some r) (_ : Below w0.heap.size w0 w4) (_ : Sep w0.heap.size w4 []), ∀ a, St 50 [(0, v0_0), (1, v1_0), (20, (.bool y7))] a → K3 a w4 := by
    intro y7 w4 hF hB5 hS6
    subst hk8
    refine fun a ha => hK3 _ _ ?_ a ha
    refine W.cond rfl (fun h10 => ?_) (fun h10 => ?_)
    · replace hF := ifP h10 hF
      refine W.seq fun K11 hK11 => ?_
      refine W.region ?_
      refine wl_assign rfl rfl ?_
      refine WL.nil ?_
      refine fun a ha => hK11 _ _ ?_ a ha
      refine W.ret ?_
      have hr := Option.some.inj hF
      subst hr
      exact rets (vs := [(.bool false)]) hQ rfl ⟨rv_tmp rfl, trivial⟩ ⟨rfl, hB5⟩
    · replace hF := ifN h10 hF
      refine W.skip ?_
      refine fun a ha => hK2 _ _ ?_ a ha
      refine W.seq fun K12 hK12 => ?_
      refine W.seq fun K13 hK13 => ?_
      refine W.region ?_
      refine wl_move rfl rfl ?_
      refine wl_lenr (e := ty_69) (l := x0) Try.underlying29 rfl rfl h0_0 ?_
      refine wl_move rfl rfl ?_
      refine WL.nil ?_
      refine fun a ha => hK13 _ _ ?_ a ha
      refine W.block ?_
      refine W.loopk (fun m a w14 => ∃ (y17 : Int), St 50 [(0, v0_0), (1, v1_0), (21, v0_0), (22, (.int .i64 (List.length x0 : Int))), (23, (.int .i64 y17))] a ∧ Below w0.heap.size w0 w14 ∧ Sep w0.heap.size w14 [] ∧ F_impl_areCharts_L1 x0 x1 m y17 = some r) FU ?_ ?_
      ·
        exact fun a ha => ⟨0, ha.sub ⟨rfl, rfl, rfl, rfl, rfl, trivial⟩, hB5, (hS6.sel [] rfl), hF⟩
      ·
        rintro m20 a w14 ⟨y17, ha, hB15, hS16, hF⟩ KL19 hKL19
        refine W.at ?_ ha
        cases m20 with
        | zero => exact noneE hF
        | succ m20 =>
          obtain ⟨nx18, hnx18⟩ : ∃ k, k = F_impl_areCharts_L1 x0 x1 m20 := ⟨_, rfl⟩
          rw [F_impl_areCharts_L1, ← hnx18] at hF
          refine W.seq fun K21 hK21 => ?_
          refine W.region ?_
          refine wl_lss rfl rfl rfl ?_
          refine WL.nil ?_
          refine fun a ha => hK21 _ _ ?_ a ha
          refine W.seq fun K22 hK22 => ?_
          refine W.cond rfl (fun h23 => ?_) (fun h23 => ?_)
          · replace hF := ifP h23 hF
            refine W.skip ?_
            refine fun a ha => hK22 _ _ ?_ a ha
            refine W.seq fun K24 hK24 => ?_
            refine W.block ?_
            refine W.seq fun K25 hK25 => ?_
            refine W.region ?_
            obtain ⟨u26, hu26, hF⟩ := bindE hF
            refine wl_index (e := ty_69) Try.underlying29 rfl rfl rfl h0_0 hu26 ?_
            rintro p27 _ ⟨v29, rfl, hv30⟩ hp28
            refine wl_load_p (vs := [v29]) (v := v29) tf_69 rfl rfl (hp28.ro hB15) rfl rfl ?_
            refine wl_assign rfl rfl ?_
            refine WL.nil ?_
            refine fun a ha => hK25 _ _ ?_ a ha
            refine W.seq fun K31 hK31 => ?_
            obtain ⟨k36, hk36, hF⟩ := jE1 hF
            have hJ37 : ∀ (y35 : Bool) (w32 : World) (_ : k36 y35 = some r) (_ : Below w0.heap.size w0 w32) (_ : Sep w0.heap.size w32 []), ∀ a, St 50 [(0, v0_0), (1, v1_0), (21, v0_0), (22, (.int .i64 (List.length x0 : Int))), (23, (.int .i64 y17)), (38, (.bool y35))] a → K31 a w32 := by
              intro y35 w32 hF hB33 hS34
              subst hk36
              refine fun a ha => hK31 _ _ ?_ a ha
              refine W.cond rfl (fun h38 => ?_) (fun h38 => ?_)
              · replace hF := ifP h38 hF
                refine W.seq fun K39 hK39 => ?_
                refine W.region ?_
                refine wl_assign rfl rfl ?_
                refine WL.nil ?_
                refine fun a ha => hK39 _ _ ?_ a ha
                refine W.ret ?_
                have hr := Option.some.inj hF
                subst hr
                exact rets (vs := [(.bool false)]) hQ rfl ⟨rv_tmp rfl, trivial⟩ ⟨rfl, hB33⟩
              · replace hF := ifN h38 hF
                refine W.skip ?_
                refine fun a ha => hK24 _ _ ?_ a ha
                refine W.region ?_
                refine wl_add rfl rfl rfl ?_
                refine wl_move rfl rfl ?_
                refine WL.nil ?_
                rw [hnx18] at hF
                exact fun a ha => hKL19 a _ m20 (Nat.lt_succ_self m20) ⟨(w64 (y17 + 1)), ha.sub ⟨rfl, rfl, rfl, rfl, rfl, trivial⟩, hB33, (hS34.sel [] rfl), hF⟩
            refine W.region ?_
            refine wl_move rfl rfl ?_
            obtain ⟨u40, hu40, hF⟩ := bindE hF
            refine wl_call rfl Try.call145 (C_impl_IsChart w14 u26 v29 (hv30.ro hB15) _ hu40) rfl ?_
            rintro _ w41 ⟨rfl, hb42⟩
            refine ⟨_, rfl, ?_⟩
            have hB43 := hB15.trans (hb42.mono hB15.size)
            have hS44 := hS16.below hb42
            refine wl_not rfl rfl ?_
            refine wl_move rfl rfl ?_
            rcases bE (!u40) with h46 | h46
            · replace hF := ifP h46 hF
              refine wl_off rfl rfl rfl h46 ?_
              refine wl_off rfl rfl rfl h46 ?_
              refine wl_off rfl rfl rfl h46 ?_
              refine wl_off rfl rfl rfl h46 ?_
              refine wl_off rfl rfl rfl h46 ?_
              refine wl_off rfl rfl rfl h46 ?_
              refine wl_off rfl rfl rfl h46 ?_
              refine wl_pick_t rfl rfl h46 rfl ?_
              refine WL.nil ?_
              exact fun a ha => hJ37 (true) _ hF hB43 (hS44.sel [] rfl) a (ha.sub ⟨rfl, rfl, rfl, rfl, rfl, rfl, trivial⟩)
            · replace hF := ifN h46 hF
              refine wl_on rfl rfl h46 ?_
              refine wl_move rfl rfl ?_
              refine wl_on rfl rfl h46 ?_
              refine wl_lenr (e := ty_116) (l := u26) Try.underlying69 rfl rfl hv30 ?_
              refine wl_on rfl rfl h46 ?_
              refine wl_move rfl rfl ?_
              refine wl_on rfl rfl h46 ?_
              obtain ⟨u47, hu47, hF⟩ := bindE hF
              refine wl_index (e := ty_69) Try.underlying29 rfl rfl rfl h0_0 hu47 ?_
              rintro p48 _ ⟨v50, rfl, hv51⟩ hp49
              refine wl_on rfl rfl h46 ?_
              refine wl_load_p (vs := [v50]) (v := v50) tf_69 rfl rfl (hp49.ro hB43) rfl rfl ?_
              refine wl_on rfl rfl h46 ?_
              refine wl_lenr (e := ty_116) (l := u47) Try.underlying69 rfl rfl hv51 ?_
              refine wl_on rfl rfl h46 ?_
              refine wl_neq rfl rfl rfl ?_
              refine wl_pick_f rfl rfl h46 rfl ?_
              refine WL.nil ?_
              exact fun a ha => hJ37 (((List.length u26 : Int) != (List.length u47 : Int))) _ hF hB43 (hS44.sel [] rfl) a (ha.sub ⟨rfl, rfl, rfl, rfl, rfl, rfl, trivial⟩)
          · replace hF := ifN h23 hF
            refine W.exit ?_
            refine fun a ha => hK12 _ _ ?_ a ha
            refine W.seq fun K52 hK52 => ?_
            refine W.seq fun K53 hK53 => ?_
            refine W.region ?_
            refine wl_move rfl rfl ?_
            refine wl_lenr (e := ty_3) (l := x1) Try.underlying23 rfl rfl h1_0 ?_
            refine wl_move rfl rfl ?_
            refine WL.nil ?_
            refine fun a ha => hK53 _ _ ?_ a ha
            refine W.block ?_
            refine W.loopk (fun m a w54 => ∃ (y57 : Int), St 50 [(40, v1_0), (41, (.int .i64 (List.length x1 : Int))), (42, (.int .i64 y57))] a ∧ Below w0.heap.size w0 w54 ∧ Sep w0.heap.size w54 [] ∧ F_impl_areCharts_L2 x1 m y57 = some r) FU ?_ ?_
            ·
              exact fun a ha => ⟨0, ha.sub ⟨rfl, rfl, rfl, trivial⟩, hB15, (hS16.sel [] rfl), hF⟩
            ·
              rintro m60 a w54 ⟨y57, ha, hB55, hS56, hF⟩ KL59 hKL59
              refine W.at ?_ ha
              cases m60 with
              | zero => exact noneE hF
              | succ m60 =>
                obtain ⟨nx58, hnx58⟩ : ∃ k, k = F_impl_areCharts_L2 x1 m60 := ⟨_, rfl⟩
                rw [F_impl_areCharts_L2, ← hnx58] at hF
                refine W.seq fun K61 hK61 => ?_
                refine W.region ?_
                refine wl_lss rfl rfl rfl ?_
                refine WL.nil ?_
                refine fun a ha => hK61 _ _ ?_ a ha
                refine W.seq fun K62 hK62 => ?_
                refine W.cond rfl (fun h63 => ?_) (fun h63 => ?_)
                · replace hF := ifP h63 hF
                  refine W.skip ?_
                  refine fun a ha => hK62 _ _ ?_ a ha
                  refine W.seq fun K64 hK64 => ?_
                  refine W.block ?_
                  refine W.seq fun K65 hK65 => ?_
                  refine W.region ?_
                  obtain ⟨u66, hu66, hF⟩ := bindE hF
                  refine wl_index (e := ty_3) Try.underlying23 rfl rfl rfl h1_0 hu66 ?_
                  rintro p67 _ rfl hp68
                  refine wl_load_p (vs := [(.int .i64 u66)]) (v := (.int .i64 u66)) tf_3 rfl rfl (hp68.ro hB55) rfl rfl ?_
                  refine wl_assign rfl rfl ?_
                  refine WL.nil ?_
                  refine fun a ha => hK65 _ _ ?_ a ha
                  refine W.seq fun K69 hK69 => ?_
                  refine W.region ?_
                  refine wl_move rfl rfl ?_
                  obtain ⟨u70, hu70, hF⟩ := bindE hF
                  refine wl_call rfl Try.call112 (C_impl_within w54 u66 1 64 _ hu70) rfl ?_
                  rintro _ w71 ⟨rfl, hb72⟩
                  refine ⟨_, rfl, ?_⟩
                  have hB73 := hB55.trans (hb72.mono hB55.size)
                  have hS74 := hS56.below hb72
                  refine wl_not rfl rfl ?_
                  refine WL.nil ?_
                  refine fun a ha => hK69 _ _ ?_ a ha
                  refine W.cond rfl (fun h76 => ?_) (fun h76 => ?_)
                  · replace hF := ifP h76 hF
                    refine W.seq fun K77 hK77 => ?_
                    refine W.region ?_
                    refine wl_assign rfl rfl ?_
                    refine WL.nil ?_
                    refine fun a ha => hK77 _ _ ?_ a ha
                    refine W.ret ?_
                    have hr := Option.some.inj hF
                    subst hr
                    exact rets (vs := [(.bool false)]) hQ rfl ⟨rv_tmp rfl, trivial⟩ ⟨rfl, hB73⟩
                  · replace hF := ifN h76 hF
                    refine W.skip ?_
                    refine fun a ha => hK64 _ _ ?_ a ha
                    refine W.region ?_
                    refine wl_add rfl rfl rfl ?_
                    refine wl_move rfl rfl ?_
                    refine WL.nil ?_
                    rw [hnx58] at hF
                    exact fun a ha => hKL59 a _ m60 (Nat.lt_succ_self m60) ⟨(w64 (y57 + 1)), ha.sub ⟨rfl, rfl, rfl, trivial⟩, hB73, (hS74.sel [] rfl), hF⟩
                · replace hF := ifN h63 hF
                  refine W.exit ?_
                  refine fun a ha => hK52 _ _ ?_ a ha
                  refine W.seq fun K78 hK78 => ?_
                  refine W.region ?_
                  refine wl_assign rfl rfl ?_
                  refine WL.nil ?_
                  refine fun a ha => hK78 _ _ ?_ a ha
                  refine W.ret ?_
                  have hr := Option.some.inj hF
                  subst hr
                  exact rets (vs := [(.bool true)]) hQ rfl ⟨rv_tmp rfl, trivial⟩ ⟨rfl, hB55⟩
  refine W.region ?_
  refine wl_move rfl rfl ?_
  refine wl_lenr (e := ty_69) (l := x0) Try.underlying29 rfl rfl h0_0 ?_
  obtain ⟨u79, hu79, hF⟩ := bindE hF
  refine wl_call rfl Try.call112 (C_impl_within w0 (List.length x0 : Int) 1 9 _ hu79) rfl ?_
  rintro _ w80 ⟨rfl, hb81⟩
  refine ⟨_, rfl, ?_⟩
  have hB82 := hB.trans (hb81.mono hB.size)
  have hS83 := hS.below hb81
  refine wl_not rfl rfl ?_
  refine wl_move rfl rfl ?_
  rcases bE (!u79) with h85 | h85
  · replace hF := ifP h85 hF
    refine wl_off rfl rfl rfl h85 ?_
    refine wl_off rfl rfl rfl h85 ?_
    refine wl_off rfl rfl rfl h85 ?_
    refine wl_off rfl rfl rfl h85 ?_
    refine wl_off rfl rfl rfl h85 ?_
    refine wl_off rfl rfl rfl h85 ?_
    refine wl_pick_t rfl rfl h85 rfl ?_
    refine WL.nil ?_
    exact fun a ha => hJ9 (true) _ hF hB82 (hS83.sel [] rfl) a (ha.sub ⟨rfl, rfl, rfl, trivial⟩)
  · replace hF := ifN h85 hF
    refine wl_on rfl rfl h85 ?_
    refine wl_move rfl rfl ?_
    refine wl_on rfl rfl h85 ?_
    refine wl_lenr (e := ty_3) (l := x1) Try.underlying23 rfl rfl h1_0 ?_
    refine wl_on rfl rfl h85 ?_
    refine wl_move rfl rfl ?_
    refine wl_on rfl rfl h85 ?_
    refine wl_lenr (e := ty_69) (l := x0) Try.underlying29 rfl rfl h0_0 ?_
    refine wl_on rfl rfl h85 ?_
    refine wl_sub rfl rfl rfl ?_
    refine wl_on rfl rfl h85 ?_
    refine wl_neq rfl rfl rfl ?_
    refine wl_pick_f rfl rfl h85 rfl ?_
    refine WL.nil ?_
    exact fun a ha => hJ9 (((List.length x1 : Int) != (w64 ((List.length x0 : Int) - 1)))) _ hF hB82 (hS83.sel [] rfl) a (ha.sub ⟨rfl, rfl, rfl, trivial⟩)
theorem C_impl_isLeast (w0 : World) (x0 : Int) (r : Bool) (hF : F_impl_isLeast x0 = some r) :
    Calls Try.prog 125 [(.int .i64 x0)].toArray w0 fun e w' => e = .returned (.bool r) ∧ Below w0.heap.size w0 w' := by
  refine calls_mk' Try.func125 rfl Try.ntmps125 rfl rfl fun Q hQ hP => ?_
  have hB : Below w0.heap.size w0 w0 := Below.refl _ _
  have hS : Sep w0.heap.size w0 [] := Sep.nil _ _
  unfold F_impl_isLeast at hF
  refine W.seq fun K1 hK1 => ?_
  refine W.region ?_
  refine wl_assign rfl rfl ?_
  refine WL.nil ?_
  refine fun a ha => hK1 _ _ ?_ a ha
  refine W.seq fun K2 hK2 => ?_
  refine W.region ?_
  refine wl_move rfl rfl ?_
  obtain ⟨u3, hu3, hF⟩ := bindE hF
  refine wl_call rfl Try.call112 (C_impl_within w0 x0 0 80 _ hu3) rfl ?_
  rintro _ w4 ⟨rfl, hb5⟩
  refine ⟨_, rfl, ?_⟩
  have hB6 := hB.trans (hb5.mono hB.size)
  have hS7 := hS.below hb5
  refine wl_assign rfl rfl ?_
  refine WL.nil ?_
  refine fun a ha => hK2 _ _ ?_ a ha
  refine W.ret ?_
  have hr := Option.some.inj hF
  subst hr
  exact rets (vs := [(.bool u3)]) hQ rfl ⟨rv_tmp rfl, trivial⟩ ⟨rfl, hB6⟩
theorem C_impl_IsShow (w0 : World) (x0 : ((List (List (Int × Int))) × (List Int) × Int × Int)) (v0_0 : Value) (h0_0 : rdS ty_69 (· < w0.heap.size) w0 v0_0 x0.1) (v0_1 : Value) (h0_1 : rdS ty_3 (· < w0.heap.size) w0 v0_1 x0.2.1) (r : Bool) (hF : F_impl_IsShow x0 = some r) :
    Calls Try.prog 73 [(.agg #[v0_0, v0_1, (.int .i64 x0.2.2.1), (.int .i64 x0.2.2.2)])].toArray w0 fun e w' => e = .returned (.bool r) ∧ Below w0.heap.size w0 w' := by
  refine calls_mk' Try.func73 rfl Try.ntmps73 rfl rfl fun Q hQ hP => ?_
  have hB : Below w0.heap.size w0 w0 := Below.refl _ _
  have hS : Sep w0.heap.size w0 [] := Sep.nil _ _
  unfold F_impl_IsShow at hF
  refine W.seq fun K1 hK1 => ?_
  refine W.region ?_
  refine wl_box (cs := [v0_0, v0_1, (.int .i64 x0.2.2.1), (.int .i64 x0.2.2.2)]) rfl rfl rfl hB hS ?_
  intro b2 w3 hb4 hB5 hS6
  refine wl_assign rfl rfl ?_
  refine WL.nil ?_
  refine fun a ha => hK1 _ _ ?_ a ha
  refine W.seq fun K7 hK7 => ?_
  obtain ⟨k12, hk12, hF⟩ := jE1 hF
  have hJ13 : ∀ (y11 : Bool) (w8 : World) (_ : k12 y11 = some r) (_ : Below w0.heap.size w0 w8) (_ : Sep w0.heap.size w8 []), ∀ a, St 24 [(2, (.bool y11))] a → K7 a w8 := by
    intro y11 w8 hF hB9 hS10
    subst hk12
    refine fun a ha => hK7 _ _ ?_ a ha
    refine W.ret ?_
    have hr := Option.some.inj hF
    subst hr
    exact rets (vs := [(.bool y11)]) hQ rfl ⟨rv_tmp rfl, trivial⟩ ⟨rfl, hB9⟩
  refine W.region ?_
  refine wl_field (o := 0) (off' := 0) ff_31_0 rfl rfl rfl ?_
  refine wl_load_blk (i := 0) (vs := [v0_0]) (v := v0_0) tf_29 rfl rfl hS6 rfl rfl rfl ?_
  refine wl_lenr (e := ty_69) (l := x0.1) Try.underlying29 rfl rfl h0_0 ?_
  obtain ⟨u14, hu14, hF⟩ := bindE hF
  refine wl_call rfl Try.call112 (C_impl_within w3 (List.length x0.1 : Int) 2 8 _ hu14) rfl ?_
  rintro _ w15 ⟨rfl, hb16⟩
  refine ⟨_, rfl, ?_⟩
  have hB17 := hB5.trans (hb16.mono hB5.size)
  have hS18 := hS6.below hb16
  refine wl_move rfl rfl ?_
  rcases bE u14 with h20 | h20
  · replace hF := ifP h20 hF
    refine wl_on rfl rfl h20 ?_
    refine wl_field (o := 0) (off' := 0) ff_31_0 rfl rfl rfl ?_
    refine wl_on rfl rfl h20 ?_
    refine wl_load_blk (i := 0) (vs := [v0_0]) (v := v0_0) tf_29 rfl rfl hS18 rfl rfl rfl ?_
    refine wl_on rfl rfl h20 ?_
    refine wl_field (o := 1) (off' := 1) ff_31_1 rfl rfl rfl ?_
    refine wl_on rfl rfl h20 ?_
    refine wl_load_blk (i := 0) (vs := [v0_1]) (v := v0_1) tf_23 rfl rfl hS18 rfl rfl rfl ?_
    refine wl_on rfl rfl h20 ?_
    obtain ⟨u21, hu21, hF⟩ := bindE hF
    refine wl_call rfl Try.call124 (C_impl_areCharts w15 x0.1 v0_0 (h0_0.ro hB17) x0.2.1 v0_1 (h0_1.ro hB17) _ hu21) rfl ?_
    rintro _ w22 ⟨rfl, hb23⟩
    refine ⟨_, rfl, ?_⟩
    have hB24 := hB17.trans (hb23.mono hB17.size)
    have hS25 := hS18.below hb23
    refine wl_pick_t rfl rfl h20 rfl ?_
    refine wl_move rfl rfl ?_
    rcases bE u21 with h27 | h27
    · replace hF := ifP h27 hF
      refine wl_on rfl rfl h27 ?_
      refine wl_field (o := 2) (off' := 2) ff_31_2 rfl rfl rfl ?_
      refine wl_on rfl rfl h27 ?_
      refine wl_load_blk (i := 0) (vs := [(.int .i64 x0.2.2.1)]) (v := (.int .i64 x0.2.2.1)) tf_3 rfl rfl hS25 rfl rfl rfl ?_
      refine wl_on rfl rfl h27 ?_
      obtain ⟨u28, hu28, hF⟩ := bindE hF
      refine wl_call rfl Try.call125 (C_impl_isLeast w22 x0.2.2.1 _ hu28) rfl ?_
      rintro _ w29 ⟨rfl, hb30⟩
      refine ⟨_, rfl, ?_⟩
      have hB31 := hB24.trans (hb30.mono hB24.size)
      have hS32 := hS25.below hb30
      refine wl_pick_t rfl rfl h27 rfl ?_
      refine wl_move rfl rfl ?_
      rcases bE u28 with h34 | h34
      · replace hF := ifP h34 hF
        refine wl_on rfl rfl h34 ?_
        refine wl_field (o := 3) (off' := 3) ff_31_3 rfl rfl rfl ?_
        refine wl_on rfl rfl h34 ?_
        refine wl_load_blk (i := 0) (vs := [(.int .i64 x0.2.2.2)]) (v := (.int .i64 x0.2.2.2)) tf_3 rfl rfl hS32 rfl rfl rfl ?_
        refine wl_on rfl rfl h34 ?_
        obtain ⟨u35, hu35, hF⟩ := bindE hF
        refine wl_call rfl Try.call112 (C_impl_within w29 x0.2.2.2 1 24 _ hu35) rfl ?_
        rintro _ w36 ⟨rfl, hb37⟩
        refine ⟨_, rfl, ?_⟩
        have hB38 := hB31.trans (hb37.mono hB31.size)
        have hS39 := hS32.below hb37
        refine wl_pick_t rfl rfl h34 rfl ?_
        refine wl_assign rfl rfl ?_
        refine WL.nil ?_
        exact fun a ha => hJ13 (u35) _ hF hB38 (hS39.sel [] rfl) a (ha.sub ⟨rfl, trivial⟩)
      · replace hF := ifN h34 hF
        refine wl_off rfl rfl rfl h34 ?_
        refine wl_off rfl rfl rfl h34 ?_
        refine wl_off rfl rfl rfl h34 ?_
        refine wl_pick_f rfl rfl h34 rfl ?_
        refine wl_assign rfl rfl ?_
        refine WL.nil ?_
        exact fun a ha => hJ13 (false) _ hF hB31 (hS32.sel [] rfl) a (ha.sub ⟨rfl, trivial⟩)
    · replace hF := ifN h27 hF
      refine wl_off rfl rfl rfl h27 ?_
      refine wl_off rfl rfl rfl h27 ?_
      refine wl_off rfl rfl rfl h27 ?_
      refine wl_pick_f rfl rfl h27 rfl ?_
      refine wl_move rfl rfl ?_
      refine wl_off rfl rfl rfl rfl ?_
      refine wl_off rfl rfl rfl rfl ?_
      refine wl_off rfl rfl rfl rfl ?_
      refine wl_pick_f rfl rfl rfl rfl ?_
      refine wl_assign rfl rfl ?_
      refine WL.nil ?_
      exact fun a ha => hJ13 (false) _ hF hB24 (hS25.sel [] rfl) a (ha.sub ⟨rfl, trivial⟩)
  · replace hF := ifN h20 hF
    refine wl_off rfl rfl rfl h20 ?_
    refine wl_off rfl rfl rfl h20 ?_
    refine wl_off rfl rfl rfl h20 ?_
    refine wl_off rfl rfl rfl h20 ?_
    refine wl_off rfl rfl rfl h20 ?_
    refine wl_pick_f rfl rfl h20 rfl ?_
    refine wl_move rfl rfl ?_
    refine wl_off rfl rfl rfl rfl ?_
    refine wl_off rfl rfl rfl rfl ?_
    refine wl_off rfl rfl rfl rfl ?_
    refine wl_pick_f rfl rfl rfl rfl ?_
    refine wl_move rfl rfl ?_
    refine wl_off rfl rfl rfl rfl ?_
    refine wl_off rfl rfl rfl rfl ?_
    refine wl_off rfl rfl rfl rfl ?_
    refine wl_pick_f rfl rfl rfl rfl ?_
    refine wl_assign rfl rfl ?_
    refine WL.nil ?_
    exact fun a ha => hJ13 (false) _ hF hB17 (hS18.sel [] rfl) a (ha.sub ⟨rfl, trivial⟩)
theorem C_laws_eqIntS (w0 : World) (x0 : (List Int)) (v0_0 : Value) (h0_0 : rdS ty_3 (· < w0.heap.size) w0 v0_0 x0) (x1 : (List Int)) (v1_0 : Value) (h1_0 : rdS ty_3 (· < w0.heap.size) w0 v1_0 x1) (r : Bool) (hF : F_laws_eqIntS x0 x1 = some r) :
    Calls Try.prog 19 [v0_0, v1_0].toArray w0 fun e w' => e = .returned (.bool r) ∧ Below w0.heap.size w0 w' := by
  refine calls_mk' Try.func19 rfl Try.ntmps19 rfl rfl fun Q hQ hP => ?_
  have hB : Below w0.heap.size w0 w0 := Below.refl _ _
  have hS : Sep w0.heap.size w0 [] := Sep.nil _ _
  unfold F_laws_eqIntS at hF
  refine W.seq fun K1 hK1 => ?_
  refine W.region ?_
  refine wl_assign rfl rfl ?_
  refine WL.nil ?_
  refine fun a ha => hK1 _ _ ?_ a ha
  refine W.seq fun K2 hK2 => ?_
  refine W.seq fun K3 hK3 => ?_
  refine W.region ?_
  refine wl_move rfl rfl ?_
  refine wl_lenr (e := ty_3) (l := x0) Try.underlying23 rfl rfl h0_0 ?_
  refine wl_move rfl rfl ?_
  refine wl_lenr (e := ty_3) (l := x1) Try.underlying23 rfl rfl h1_0 ?_
  refine wl_neq rfl rfl rfl ?_
  refine WL.nil ?_
  refine fun a ha => hK3 _ _ ?_ a ha
  refine W.cond rfl (fun h4 => ?_) (fun h4 => ?_)
  · replace hF := ifP h4 hF
    refine W.seq fun K5 hK5 => ?_
    refine W.region ?_
    refine wl_assign rfl rfl ?_
    refine WL.nil ?_
    refine fun a ha => hK5 _ _ ?_ a ha
    refine W.ret ?_
    have hr := Option.some.inj hF
    subst hr
    exact rets (vs := [(.bool false)]) hQ rfl ⟨rv_tmp rfl, trivial⟩ ⟨rfl, hB⟩
  · replace hF := ifN h4 hF
    refine W.skip ?_
    refine fun a ha => hK2 _ _ ?_ a ha
    refine W.seq fun K6 hK6 => ?_
    refine W.seq fun K7 hK7 => ?_
    refine W.region ?_
    refine wl_assign rfl rfl ?_
    refine WL.nil ?_
    refine fun a ha => hK7 _ _ ?_ a ha
    refine W.block ?_
    refine W.loopk (fun m a w8 => ∃ (y11 : Int), St 26 [(0, v0_0), (1, v1_0), (5, (.int .i64 y11))] a ∧ Below w0.heap.size w0 w8 ∧ Sep w0.heap.size w8 [] ∧ F_laws_eqIntS_L1 x0 x1 m y11 = some r) FU ?_ ?_
    ·
      exact fun a ha => ⟨0, ha.sub ⟨rfl, rfl, rfl, trivial⟩, hB, (hS.sel [] rfl), hF⟩
    ·
      rintro m14 a w8 ⟨y11, ha, hB9, hS10, hF⟩ KL13 hKL13
      refine W.at ?_ ha
      cases m14 with
      | zero => exact noneE hF
      | succ m14 =>
        obtain ⟨nx12, hnx12⟩ : ∃ k, k = F_laws_eqIntS_L1 x0 x1 m14 := ⟨_, rfl⟩
        rw [F_laws_eqIntS_L1, ← hnx12] at hF
        refine W.seq fun K15 hK15 => ?_
        refine W.seq fun K16 hK16 => ?_
        refine W.region ?_
        refine wl_move rfl rfl ?_
        refine wl_move rfl rfl ?_
        refine wl_lenr (e := ty_3) (l := x0) Try.underlying23 rfl rfl h0_0 ?_
        refine wl_lss rfl rfl rfl ?_
        refine WL.nil ?_
        refine fun a ha => hK16 _ _ ?_ a ha
        refine W.cond rfl (fun h17 => ?_) (fun h17 => ?_)
        · replace hF := ifP h17 hF
          refine W.skip ?_
          refine fun a ha => hK15 _ _ ?_ a ha
          refine W.seq fun K18 hK18 => ?_
          refine W.block ?_
          refine W.seq fun K19 hK19 => ?_
          refine W.regionH mixed_ [] hB9 hS10 ?_
          intro w20 hb21 hB22 hS23
          have hSW24 := KeepX.refl w20 []
          refine WH.takex (i := 0) rfl (by kernel_rfl) (by kernel_rfl) (by kernel_rfl) hP hSW24 ?_
          refine pr_move rfl rfl ?_
          refine WH.takex (i := 1) rfl (by kernel_rfl) (by kernel_rfl) (by kernel_rfl) hP hSW24 ?_
          refine pr_move rfl rfl ?_
          obtain ⟨u25, hu25, hF⟩ := bindE hF
          refine WH.takex (i := 2) rfl (by kernel_rfl) (by kernel_rfl) (by kernel_rfl) hP hSW24 ?_
          refine pr_index (e := ty_3) Try.underlying23 rfl rfl rfl h0_0 hu25 ?_
          rintro p26 _ rfl hp27
          refine WH.takex (i := 3) rfl (by kernel_rfl) (by kernel_rfl) (by kernel_rfl) hP hSW24 ?_
          refine pr_load_p (vs := [(.int .i64 u25)]) (v := (.int .i64 u25)) tf_3 rfl rfl (hp27.kx hB22 (by simp)) rfl rfl ?_
          refine WH.takex (i := 4) rfl (by kernel_rfl) (by kernel_rfl) (by kernel_rfl) hP hSW24 ?_
          refine pr_move rfl rfl ?_
          refine WH.takex (i := 5) rfl (by kernel_rfl) (by kernel_rfl) (by kernel_rfl) hP hSW24 ?_
          refine pr_move rfl rfl ?_
          obtain ⟨u28, hu28, hF⟩ := bindE hF
          refine WH.takex (i := 6) rfl (by kernel_rfl) (by kernel_rfl) (by kernel_rfl) hP hSW24 ?_
          refine pr_index (e := ty_3) Try.underlying23 rfl rfl rfl h1_0 hu28 ?_
          rintro p29 _ rfl hp30
          refine WH.takex (i := 7) rfl (by kernel_rfl) (by kernel_rfl) (by kernel_rfl) hP hSW24 ?_
          refine pr_load_p (vs := [(.int .i64 u28)]) (v := (.int .i64 u28)) tf_3 rfl rfl (hp30.kx hB22 (by simp)) rfl rfl ?_
          refine WH.takex (i := 8) rfl (by kernel_rfl) (by kernel_rfl) (by kernel_rfl) hP hSW24 ?_
          refine pr_neq rfl rfl rfl ?_
          refine WH.done (by kernel_rfl) ?_
          refine fun a ha => hK19 _ _ ?_ a ha
          refine W.cond rfl (fun h31 => ?_) (fun h31 => ?_)
          · replace hF := ifP h31 hF
            refine W.seq fun K32 hK32 => ?_
            refine W.region ?_
            refine wl_assign rfl rfl ?_
            refine WL.nil ?_
            refine fun a ha => hK32 _ _ ?_ a ha
            refine W.ret ?_
            have hr := Option.some.inj hF
            subst hr
            exact rets (vs := [(.bool false)]) hQ rfl ⟨rv_tmp rfl, trivial⟩ ⟨rfl, hB22⟩
          · replace hF := ifN h31 hF
            refine W.skip ?_
            refine fun a ha => hK18 _ _ ?_ a ha
            refine W.region ?_
            refine wl_move rfl rfl ?_
            refine wl_add rfl rfl rfl ?_
            refine wl_assign rfl rfl ?_
            refine WL.nil ?_
            rw [hnx12] at hF
            exact fun a ha => hKL13 a _ m14 (Nat.lt_succ_self m14) ⟨(w64 (y11 + 1)), ha.sub ⟨rfl, rfl, rfl, trivial⟩, hB22, (hS23.sel [] rfl), hF⟩
        · replace hF := ifN h17 hF
          refine W.exit ?_
          refine fun a ha => hK6 _ _ ?_ a ha
          refine W.seq fun K33 hK33 => ?_
          refine W.region ?_
          refine wl_assign rfl rfl ?_
          refine WL.nil ?_
          refine fun a ha => hK33 _ _ ?_ a ha
          refine W.ret ?_
          have hr := Option.some.inj hF
          subst hr
          exact rets (vs := [(.bool true)]) hQ rfl ⟨rv_tmp rfl, trivial⟩ ⟨rfl, hB9⟩
theorem C_laws_eqSpot (w0 : World) (x0 : (Int × Int)) (x1 : (Int × Int)) (r : Bool) (hF : F_laws_eqSpot x0 x1 = some r) :
    Calls Try.prog 104 [(.agg #[(.int .i64 x0.1), (.int .i64 x0.2)]), (.agg #[(.int .i64 x1.1), (.int .i64 x1.2)])].toArray w0 fun e w' => e = .returned (.bool r) ∧ Below w0.heap.size w0 w' := by
  refine calls_mk' Try.func104 rfl Try.ntmps104 rfl rfl fun Q hQ hP => ?_
  have hB : Below w0.heap.size w0 w0 := Below.refl _ _
  have hS : Sep w0.heap.size w0 [] := Sep.nil _ _
  unfold F_laws_eqSpot at hF
  refine W.seq fun K1 hK1 => ?_
  refine W.region ?_
  refine wl_box (cs := [(.int .i64 x0.1), (.int .i64 x0.2)]) rfl rfl rfl hB hS ?_
  intro b2 w3 hb4 hB5 hS6
  refine wl_box (cs := [(.int .i64 x1.1), (.int .i64 x1.2)]) rfl rfl rfl hB5 hS6 ?_
  intro b7 w8 hb9 hB10 hS11
  refine wl_assign rfl rfl ?_
  refine WL.nil ?_
  refine fun a ha => hK1 _ _ ?_ a ha
  refine W.seq fun K12 hK12 => ?_
  refine W.seq fun K13 hK13 => ?_
  refine W.region ?_
  refine wl_field (o := 0) (off' := 0) ff_116_0 rfl rfl rfl ?_
  refine wl_load_blk (i := 1) (vs := [(.int .i64 x0.1)]) (v := (.int .i64 x0.1)) tf_3 rfl rfl hS11 rfl rfl rfl ?_
  refine wl_field (o := 0) (off' := 0) ff_116_0 rfl rfl rfl ?_
  refine wl_load_blk (i := 0) (vs := [(.int .i64 x1.1)]) (v := (.int .i64 x1.1)) tf_3 rfl rfl hS11 rfl rfl rfl ?_
  refine wl_neq rfl rfl rfl ?_
  refine WL.nil ?_
  refine fun a ha => hK13 _ _ ?_ a ha
  refine W.cond rfl (fun h14 => ?_) (fun h14 => ?_)
  · replace hF := ifP h14 hF
    refine W.seq fun K15 hK15 => ?_
    refine W.region ?_
    refine wl_assign rfl rfl ?_
    refine WL.nil ?_
    refine fun a ha => hK15 _ _ ?_ a ha
    refine W.ret ?_
    have hr := Option.some.inj hF
    subst hr
    exact rets (vs := [(.bool false)]) hQ rfl ⟨rv_tmp rfl, trivial⟩ ⟨rfl, hB10⟩
  · replace hF := ifN h14 hF
    refine W.skip ?_
    refine fun a ha => hK12 _ _ ?_ a ha
    refine W.seq fun K16 hK16 => ?_
    refine W.seq fun K17 hK17 => ?_
    refine W.region ?_
    refine wl_field (o := 1) (off' := 1) ff_116_1 rfl rfl rfl ?_
    refine wl_load_blk (i := 1) (vs := [(.int .i64 x0.2)]) (v := (.int .i64 x0.2)) tf_3 rfl rfl hS11 rfl rfl rfl ?_
    refine wl_field (o := 1) (off' := 1) ff_116_1 rfl rfl rfl ?_
    refine wl_load_blk (i := 0) (vs := [(.int .i64 x1.2)]) (v := (.int .i64 x1.2)) tf_3 rfl rfl hS11 rfl rfl rfl ?_
    refine wl_neq rfl rfl rfl ?_
    refine WL.nil ?_
    refine fun a ha => hK17 _ _ ?_ a ha
    refine W.cond rfl (fun h18 => ?_) (fun h18 => ?_)
    · replace hF := ifP h18 hF
      refine W.seq fun K19 hK19 => ?_
      refine W.region ?_
      refine wl_assign rfl rfl ?_
      refine WL.nil ?_
      refine fun a ha => hK19 _ _ ?_ a ha
      refine W.ret ?_
      have hr := Option.some.inj hF
      subst hr
      exact rets (vs := [(.bool false)]) hQ rfl ⟨rv_tmp rfl, trivial⟩ ⟨rfl, hB10⟩
    · replace hF := ifN h18 hF
      refine W.skip ?_
      refine fun a ha => hK16 _ _ ?_ a ha
      refine W.seq fun K20 hK20 => ?_
      refine W.region ?_
      refine wl_assign rfl rfl ?_
      refine WL.nil ?_
      refine fun a ha => hK20 _ _ ?_ a ha
      refine W.ret ?_
      have hr := Option.some.inj hF
      subst hr
      exact rets (vs := [(.bool true)]) hQ rfl ⟨rv_tmp rfl, trivial⟩ ⟨rfl, hB10⟩
theorem C_laws_eqSpotS (w0 : World) (x0 : (List (Int × Int))) (v0_0 : Value) (h0_0 : rdS ty_116 (· < w0.heap.size) w0 v0_0 x0) (x1 : (List (Int × Int))) (v1_0 : Value) (h1_0 : rdS ty_116 (· < w0.heap.size) w0 v1_0 x1) (r : Bool) (hF : F_laws_eqSpotS x0 x1 = some r) :
    Calls Try.prog 48 [v0_0, v1_0].toArray w0 fun e w' => e = .returned (.bool r) ∧ Below w0.heap.size w0 w' := by
  refine calls_mk' Try.func48 rfl Try.ntmps48 rfl rfl fun Q hQ hP => ?_
  have hB : Below w0.heap.size w0 w0 := Below.refl _ _
  have hS : Sep w0.heap.size w0 [] := Sep.nil _ _
  unfold F_laws_eqSpotS at hF
  refine W.seq fun K1 hK1 => ?_
  refine W.region ?_
  refine wl_assign rfl rfl ?_
  refine WL.nil ?_
  refine fun a ha => hK1 _ _ ?_ a ha
  refine W.seq fun K2 hK2 => ?_
  refine W.seq fun K3 hK3 => ?_
  refine W.region ?_
  refine wl_move rfl rfl ?_
  refine wl_lenr (e := ty_116) (l := x0) Try.underlying69 rfl rfl h0_0 ?_
  refine wl_move rfl rfl ?_
  refine wl_lenr (e := ty_116) (l := x1) Try.underlying69 rfl rfl h1_0 ?_
  refine wl_neq rfl rfl rfl ?_
  refine WL.nil ?_
  refine fun a ha => hK3 _ _ ?_ a ha
  refine W.cond rfl (fun h4 => ?_) (fun h4 => ?_)
  · replace hF := ifP h4 hF
    refine W.seq fun K5 hK5 => ?_
    refine W.region ?_
    refine wl_assign rfl rfl ?_
    refine WL.nil ?_
    refine fun a ha => hK5 _ _ ?_ a ha
    refine W.ret ?_
    have hr := Option.some.inj hF
    subst hr
    exact rets (vs := [(.bool false)]) hQ rfl ⟨rv_tmp rfl, trivial⟩ ⟨rfl, hB⟩
  · replace hF := ifN h4 hF
    refine W.skip ?_
    refine fun a ha => hK2 _ _ ?_ a ha
    refine W.seq fun K6 hK6 => ?_
    refine W.seq fun K7 hK7 => ?_
    refine W.region ?_
    refine wl_assign rfl rfl ?_
    refine WL.nil ?_
    refine fun a ha => hK7 _ _ ?_ a ha
    refine W.block ?_
    refine W.loopk (fun m a w8 => ∃ (y11 : Int), St 27 [(0, v0_0), (1, v1_0), (5, (.int .i64 y11))] a ∧ Below w0.heap.size w0 w8 ∧ Sep w0.heap.size w8 [] ∧ F_laws_eqSpotS_L1 x0 x1 m y11 = some r) FU ?_ ?_
    ·
      exact fun a ha => ⟨0, ha.sub ⟨rfl, rfl, rfl, trivial⟩, hB, (hS.sel [] rfl), hF⟩
    ·
      rintro m14 a w8 ⟨y11, ha, hB9, hS10, hF⟩ KL13 hKL13
      refine W.at ?_ ha
      cases m14 with
      | zero => exact noneE hF
      | succ m14 =>
        obtain ⟨nx12, hnx12⟩ : ∃ k, k = F_laws_eqSpotS_L1 x0 x1 m14 := ⟨_, rfl⟩
        rw [F_laws_eqSpotS_L1, ← hnx12] at hF
        refine W.seq fun K15 hK15 => ?_
        refine W.seq fun K16 hK16 => ?_
        refine W.region ?_
        refine wl_move rfl rfl ?_
        refine wl_move rfl rfl ?_
        refine wl_lenr (e := ty_116) (l := x0) Try.underlying69 rfl rfl h0_0 ?_
        refine wl_lss rfl rfl rfl ?_
        refine WL.nil ?_
        refine fun a ha => hK16 _ _ ?_ a ha
        refine W.cond rfl (fun h17 => ?_) (fun h17 => ?_)
        · replace hF := ifP h17 hF
          refine W.skip ?_
          refine fun a ha => hK15 _ _ ?_ a ha
          refine W.seq fun K18 hK18 => ?_
          refine W.block ?_
          refine W.seq fun K19 hK19 => ?_
          refine W.regionH mixed_ [] hB9 hS10 ?_
          intro w20 hb21 hB22 hS23
          have hSW24 := KeepX.refl w20 []
          refine WH.takex (i := 0) rfl (by kernel_rfl) (by kernel_rfl) (by kernel_rfl) hP hSW24 ?_
          refine pr_move rfl rfl ?_
          refine WH.takex (i := 1) rfl (by kernel_rfl) (by kernel_rfl) (by kernel_rfl) hP hSW24 ?_
          refine pr_move rfl rfl ?_
          obtain ⟨u25, hu25, hF⟩ := bindE hF
          refine WH.takex (i := 2) rfl (by kernel_rfl) (by kernel_rfl) (by kernel_rfl) hP hSW24 ?_
          refine pr_index (e := ty_116) Try.underlying69 rfl rfl rfl h0_0 hu25 ?_
          rintro p26 _ rfl hp27
          refine WH.takex (i := 3) rfl (by kernel_rfl) (by kernel_rfl) (by kernel_rfl) hP hSW24 ?_
          refine pr_load_p (vs := [(.int .i64 u25.1), (.int .i64 u25.2)]) (v := (.agg #[(.int .i64 u25.1), (.int .i64 u25.2)])) tf_116 rfl rfl (hp27.kx hB22 (by simp)) rfl rfl ?_
          refine WH.takex (i := 4) rfl (by kernel_rfl) (by kernel_rfl) (by kernel_rfl) hP hSW24 ?_
          refine pr_move rfl rfl ?_
          refine WH.takex (i := 5) rfl (by kernel_rfl) (by kernel_rfl) (by kernel_rfl) hP hSW24 ?_
          refine pr_move rfl rfl ?_
          obtain ⟨u28, hu28, hF⟩ := bindE hF
          refine WH.takex (i := 6) rfl (by kernel_rfl) (by kernel_rfl) (by kernel_rfl) hP hSW24 ?_
          refine pr_index (e := ty_116) Try.underlying69 rfl rfl rfl h1_0 hu28 ?_
          rintro p29 _ rfl hp30
          refine WH.takex (i := 7) rfl (by kernel_rfl) (by kernel_rfl) (by kernel_rfl) hP hSW24 ?_
          refine pr_load_p (vs := [(.int .i64 u28.1), (.int .i64 u28.2)]) (v := (.agg #[(.int .i64 u28.1), (.int .i64 u28.2)])) tf_116 rfl rfl (hp30.kx hB22 (by simp)) rfl rfl ?_
          refine WH.one (i := 8) (by kernel_rfl) rfl ?_
          obtain ⟨u31, hu31, hF⟩ := bindE hF
          refine wl_call rfl Try.call104 (C_laws_eqSpot w20 u25 u28 _ hu31) rfl ?_
          rintro _ w32 ⟨rfl, hb33⟩
          refine ⟨_, rfl, ?_⟩
          have hB34 := hB22.trans (hb33.mono hB22.size)
          have hS35 := hS23.below hb33
          have hSW37 := hSW24.ext hb33
          refine WL.nil (WH.ret hSW37 ?_)
          refine WH.takex (i := 9) rfl (by kernel_rfl) (by kernel_rfl) (by kernel_rfl) hP hSW37 ?_
          refine pr_not rfl rfl ?_
          refine WH.done (by kernel_rfl) ?_
          refine fun a ha => hK19 _ _ ?_ a ha
          refine W.cond rfl (fun h38 => ?_) (fun h38 => ?_)
          · replace hF := ifP h38 hF
            refine W.seq fun K39 hK39 => ?_
            refine W.region ?_
            refine wl_assign rfl rfl ?_
            refine WL.nil ?_
            refine fun a ha => hK39 _ _ ?_ a ha
            refine W.ret ?_
            have hr := Option.some.inj hF
            subst hr
            exact rets (vs := [(.bool false)]) hQ rfl ⟨rv_tmp rfl, trivial⟩ ⟨rfl, hB34⟩
          · replace hF := ifN h38 hF
            refine W.skip ?_
            refine fun a ha => hK18 _ _ ?_ a ha
            refine W.region ?_
            refine wl_move rfl rfl ?_
            refine wl_add rfl rfl rfl ?_
            refine wl_assign rfl rfl ?_
            refine WL.nil ?_
            rw [hnx12] at hF
            exact fun a ha => hKL13 a _ m14 (Nat.lt_succ_self m14) ⟨(w64 (y11 + 1)), ha.sub ⟨rfl, rfl, rfl, trivial⟩, hB34, (hS35.sel [] rfl), hF⟩
        · replace hF := ifN h17 hF
          refine W.exit ?_
          refine fun a ha => hK6 _ _ ?_ a ha
          refine W.seq fun K40 hK40 => ?_
          refine W.region ?_
          refine wl_assign rfl rfl ?_
          refine WL.nil ?_
          refine fun a ha => hK40 _ _ ?_ a ha
          refine W.ret ?_
          have hr := Option.some.inj hF
          subst hr
          exact rets (vs := [(.bool true)]) hQ rfl ⟨rv_tmp rfl, trivial⟩ ⟨rfl, hB9⟩
theorem C_laws_eqSpotSS (w0 : World) (x0 : (List (List (Int × Int)))) (v0_0 : Value) (h0_0 : rdS ty_69 (· < w0.heap.size) w0 v0_0 x0) (x1 : (List (List (Int × Int)))) (v1_0 : Value) (h1_0 : rdS ty_69 (· < w0.heap.size) w0 v1_0 x1) (r : Bool) (hF : F_laws_eqSpotSS x0 x1 = some r) :
    Calls Try.prog 75 [v0_0, v1_0].toArray w0 fun e w' => e = .returned (.bool r) ∧ Below w0.heap.size w0 w' := by
  refine calls_mk' Try.func75 rfl Try.ntmps75 rfl rfl fun Q hQ hP => ?_
  have hB : Below w0.heap.size w0 w0 := Below.refl _ _
  have hS : Sep w0.heap.size w0 [] := Sep.nil _ _
  unfold F_laws_eqSpotSS at hF
  refine W.seq fun K1 hK1 => ?_
  refine W.region ?_
  refine wl_assign rfl rfl ?_
  refine WL.nil ?_
  refine fun a ha => hK1 _ _ ?_ a ha
  refine W.seq fun K2 hK2 => ?_
  refine W.seq fun K3 hK3 => ?_
  refine W.region ?_
  refine wl_move rfl rfl ?_
  refine wl_lenr (e := ty_69) (l := x0) Try.underlying29 rfl rfl h0_0 ?_
  refine wl_move rfl rfl ?_
  refine wl_lenr (e := ty_69) (l := x1) Try.underlying29 rfl rfl h1_0 ?_
  refine wl_neq rfl rfl rfl ?_
  refine WL.nil ?_
  refine fun a ha => hK3 _ _ ?_ a ha
  refine W.cond rfl (fun h4 => ?_) (fun h4 => ?_)
  · replace hF := ifP h4 hF
    refine W.seq fun K5 hK5 => ?_
    refine W.region ?_
    refine wl_assign rfl rfl ?_
    refine WL.nil ?_
    refine fun a ha => hK5 _ _ ?_ a ha
    refine W.ret ?_
    have hr := Option.some.inj hF
    subst hr
    exact rets (vs := [(.bool false)]) hQ rfl ⟨rv_tmp rfl, trivial⟩ ⟨rfl, hB⟩
  · replace hF := ifN h4 hF
    refine W.skip ?_
    refine fun a ha => hK2 _ _ ?_ a ha
    refine W.seq fun K6 hK6 => ?_
    refine W.seq fun K7 hK7 => ?_
    refine W.region ?_
    refine wl_assign rfl rfl ?_
    refine WL.nil ?_
    refine fun a ha => hK7 _ _ ?_ a ha
    refine W.block ?_
    refine W.loopk (fun m a w8 => ∃ (y11 : Int), St 27 [(0, v0_0), (1, v1_0), (5, (.int .i64 y11))] a ∧ Below w0.heap.size w0 w8 ∧ Sep w0.heap.size w8 [] ∧ F_laws_eqSpotSS_L1 x0 x1 m y11 = some r) FU ?_ ?_
    ·
      exact fun a ha => ⟨0, ha.sub ⟨rfl, rfl, rfl, trivial⟩, hB, (hS.sel [] rfl), hF⟩
    ·
      rintro m14 a w8 ⟨y11, ha, hB9, hS10, hF⟩ KL13 hKL13
      refine W.at ?_ ha
      cases m14 with
      | zero => exact noneE hF
      | succ m14 =>
        obtain ⟨nx12, hnx12⟩ : ∃ k, k = F_laws_eqSpotSS_L1 x0 x1 m14 := ⟨_, rfl⟩
        rw [F_laws_eqSpotSS_L1, ← hnx12] at hF
        refine W.seq fun K15 hK15 => ?_
        refine W.seq fun K16 hK16 => ?_
        refine W.region ?_
        refine wl_move rfl rfl ?_
        refine wl_move rfl rfl ?_
        refine wl_lenr (e := ty_69) (l := x0) Try.underlying29 rfl rfl h0_0 ?_
        refine wl_lss rfl rfl rfl ?_
        refine WL.nil ?_
        refine fun a ha => hK16 _ _ ?_ a ha
        refine W.cond rfl (fun h17 => ?_) (fun h17 => ?_)
        · replace hF := ifP h17 hF
          refine W.skip ?_
          refine fun a ha => hK15 _ _ ?_ a ha
          refine W.seq fun K18 hK18 => ?_
          refine W.block ?_
          refine W.seq fun K19 hK19 => ?_
          refine W.regionH mixed_ [] hB9 hS10 ?_
          intro w20 hb21 hB22 hS23
          have hSW24 := KeepX.refl w20 []
          refine WH.takex (i := 0) rfl (by kernel_rfl) (by kernel_rfl) (by kernel_rfl) hP hSW24 ?_
          refine pr_move rfl rfl ?_
          refine WH.takex (i := 1) rfl (by kernel_rfl) (by kernel_rfl) (by kernel_rfl) hP hSW24 ?_
          refine pr_move rfl rfl ?_
          obtain ⟨u25, hu25, hF⟩ := bindE hF
          refine WH.takex (i := 2) rfl (by kernel_rfl) (by kernel_rfl) (by kernel_rfl) hP hSW24 ?_
          refine pr_index (e := ty_69) Try.underlying29 rfl rfl rfl h0_0 hu25 ?_
          rintro p26 _ ⟨v28, rfl, hv29⟩ hp27
          refine WH.takex (i := 3) rfl (by kernel_rfl) (by kernel_rfl) (by kernel_rfl) hP hSW24 ?_
          refine pr_load_p (vs := [v28]) (v := v28) tf_69 rfl rfl (hp27.kx hB22 (by simp)) rfl rfl ?_
          refine WH.takex (i := 4) rfl (by kernel_rfl) (by kernel_rfl) (by kernel_rfl) hP hSW24 ?_
          refine pr_move rfl rfl ?_
          refine WH.takex (i := 5) rfl (by kernel_rfl) (by kernel_rfl) (by kernel_rfl) hP hSW24 ?_
          refine pr_move rfl rfl ?_
          obtain ⟨u30, hu30, hF⟩ := bindE hF
          refine WH.takex (i := 6) rfl (by kernel_rfl) (by kernel_rfl) (by kernel_rfl) hP hSW24 ?_
          refine pr_index (e := ty_69) Try.underlying29 rfl rfl rfl h1_0 hu30 ?_
          rintro p31 _ ⟨v33, rfl, hv34⟩ hp32
          refine WH.takex (i := 7) rfl (by kernel_rfl) (by kernel_rfl) (by kernel_rfl) hP hSW24 ?_
          refine pr_load_p (vs := [v33]) (v := v33) tf_69 rfl rfl (hp32.kx hB22 (by simp)) rfl rfl ?_
          refine WH.one (i := 8) (by kernel_rfl) rfl ?_
          obtain ⟨u35, hu35, hF⟩ := bindE hF
          refine wl_call rfl Try.call48 (C_laws_eqSpotS w20 u25 v28 (hv29.ro hB22) u30 v33 (hv34.ro hB22) _ hu35) rfl ?_
          rintro _ w36 ⟨rfl, hb37⟩
          refine ⟨_, rfl, ?_⟩
          have hB38 := hB22.trans (hb37.mono hB22.size)
          have hS39 := hS23.below hb37
          have hSW41 := hSW24.ext hb37
          refine WL.nil (WH.ret hSW41 ?_)
          refine WH.takex (i := 9) rfl (by kernel_rfl) (by kernel_rfl) (by kernel_rfl) hP hSW41 ?_
          refine pr_not rfl rfl ?_
          refine WH.done (by kernel_rfl) ?_
          refine fun a ha => hK19 _ _ ?_ a ha
          refine W.cond rfl (fun h42 => ?_) (fun h42 => ?_)
          · replace hF := ifP h42 hF
            refine W.seq fun K43 hK43 => ?_
            refine W.region ?_
            refine wl_assign rfl rfl ?_
            refine WL.nil ?_
            refine fun a ha => hK43 _ _ ?_ a ha
            refine W.ret ?_
            have hr := Option.some.inj hF
            subst hr
            exact rets (vs := [(.bool false)]) hQ rfl ⟨rv_tmp rfl, trivial⟩ ⟨rfl, hB38⟩
          · replace hF := ifN h42 hF
            refine W.skip ?_
            refine fun a ha => hK18 _ _ ?_ a ha
            refine W.region ?_
            refine wl_move rfl rfl ?_
            refine wl_add rfl rfl rfl ?_
            refine wl_assign rfl rfl ?_
            refine WL.nil ?_
            rw [hnx12] at hF
            exact fun a ha => hKL13 a _ m14 (Nat.lt_succ_self m14) ⟨(w64 (y11 + 1)), ha.sub ⟨rfl, rfl, rfl, trivial⟩, hB38, (hS39.sel [] rfl), hF⟩
        · replace hF := ifN h17 hF
          refine W.exit ?_
          refine fun a ha => hK6 _ _ ?_ a ha
          refine W.seq fun K44 hK44 => ?_
          refine W.region ?_
          refine wl_assign rfl rfl ?_
          refine WL.nil ?_
          refine fun a ha => hK44 _ _ ?_ a ha
          refine W.ret ?_
          have hr := Option.some.inj hF
          subst hr
          exact rets (vs := [(.bool true)]) hQ rfl ⟨rv_tmp rfl, trivial⟩ ⟨rfl, hB9⟩
theorem C_laws_eqShow (w0 : World) (x0 : ((List (List (Int × Int))) × (List Int) × Int × Int)) (v0_0 : Value) (h0_0 : rdS ty_69 (· < w0.heap.size) w0 v0_0 x0.1) (v0_1 : Value) (h0_1 : rdS ty_3 (· < w0.heap.size) w0 v0_1 x0.2.1) (x1 : ((List (List (Int × Int))) × (List Int) × Int × Int)) (v1_0 : Value) (h1_0 : rdS ty_69 (· < w0.heap.size) w0 v1_0 x1.1) (v1_1 : Value) (h1_1 : rdS ty_3 (· < w0.heap.size) w0 v1_1 x1.2.1) (r : Bool) (hF : F_laws_eqShow x0 x1 = some r) :
    Calls Try.prog 20 [(.agg #[v0_0, v0_1, (.int .i64 x0.2.2.1), (.int .i64 x0.2.2.2)]), (.agg #[v1_0, v1_1, (.int .i64 x1.2.2.1), (.int .i64 x1.2.2.2)])].toArray w0 fun e w' => e = .returned (.bool r) ∧ Below w0.heap.size w0 w' := by
  refine calls_mk' Try.func20 rfl Try.ntmps20 rfl rfl fun Q hQ hP => ?_
  have hB : Below w0.heap.size w0 w0 := Below.refl _ _
  have hS : Sep w0.heap.size w0 [] := Sep.nil _ _
  unfold F_laws_eqShow at hF
  refine W.seq fun K1 hK1 => ?_
  refine W.region ?_
  refine wl_box (cs := [v0_0, v0_1, (.int .i64 x0.2.2.1), (.int .i64 x0.2.2.2)]) rfl rfl rfl hB hS ?_
  intro b2 w3 hb4 hB5 hS6
  refine wl_box (cs := [v1_0, v1_1, (.int .i64 x1.2.2.1), (.int .i64 x1.2.2.2)]) rfl rfl rfl hB5 hS6 ?_
  intro b7 w8 hb9 hB10 hS11
  refine wl_assign rfl rfl ?_
  refine WL.nil ?_
  refine fun a ha => hK1 _ _ ?_ a ha
  refine W.seq fun K12 hK12 => ?_
  refine W.seq fun K13 hK13 => ?_
  refine W.region ?_
  refine wl_field (o := 0) (off' := 0) ff_31_0 rfl rfl rfl ?_
  refine wl_load_blk (i := 1) (vs := [v0_0]) (v := v0_0) tf_29 rfl rfl hS11 rfl rfl rfl ?_
  refine wl_field (o := 0) (off' := 0) ff_31_0 rfl rfl rfl ?_
  refine wl_load_blk (i := 0) (vs := [v1_0]) (v := v1_0) tf_29 rfl rfl hS11 rfl rfl rfl ?_
  obtain ⟨u14, hu14, hF⟩ := bindE hF
  refine wl_call rfl Try.call75 (C_laws_eqSpotSS w8 x0.1 v0_0 (h0_0.ro hB10) x1.1 v1_0 (h1_0.ro hB10) _ hu14) rfl ?_
  rintro _ w15 ⟨rfl, hb16⟩
  refine ⟨_, rfl, ?_⟩
  have hB17 := hB10.trans (hb16.mono hB10.size)
  have hS18 := hS11.below hb16
  refine wl_not rfl rfl ?_
  refine WL.nil ?_
  refine fun a ha => hK13 _ _ ?_ a ha
  refine W.cond rfl (fun h20 => ?_) (fun h20 => ?_)
  · replace hF := ifP h20 hF
    refine W.seq fun K21 hK21 => ?_
    refine W.region ?_
    refine wl_assign rfl rfl ?_
    refine WL.nil ?_
    refine fun a ha => hK21 _ _ ?_ a ha
    refine W.ret ?_
    have hr := Option.some.inj hF
    subst hr
    exact rets (vs := [(.bool false)]) hQ rfl ⟨rv_tmp rfl, trivial⟩ ⟨rfl, hB17⟩
  · replace hF := ifN h20 hF
    refine W.skip ?_
    refine fun a ha => hK12 _ _ ?_ a ha
    refine W.seq fun K22 hK22 => ?_
    refine W.seq fun K23 hK23 => ?_
    refine W.region ?_
    refine wl_field (o := 1) (off' := 1) ff_31_1 rfl rfl rfl ?_
    refine wl_load_blk (i := 1) (vs := [v0_1]) (v := v0_1) tf_23 rfl rfl hS18 rfl rfl rfl ?_
    refine wl_field (o := 1) (off' := 1) ff_31_1 rfl rfl rfl ?_
    refine wl_load_blk (i := 0) (vs := [v1_1]) (v := v1_1) tf_23 rfl rfl hS18 rfl rfl rfl ?_
    obtain ⟨u24, hu24, hF⟩ := bindE hF
    refine wl_call rfl Try.call19 (C_laws_eqIntS w15 x0.2.1 v0_1 (h0_1.ro hB17) x1.2.1 v1_1 (h1_1.ro hB17) _ hu24) rfl ?_
    rintro _ w25 ⟨rfl, hb26⟩
    refine ⟨_, rfl, ?_⟩
    have hB27 := hB17.trans (hb26.mono hB17.size)
    have hS28 := hS18.below hb26
    refine wl_not rfl rfl ?_
    refine WL.nil ?_
    refine fun a ha => hK23 _ _ ?_ a ha
    refine W.cond rfl (fun h30 => ?_) (fun h30 => ?_)
    · replace hF := ifP h30 hF
      refine W.seq fun K31 hK31 => ?_
      refine W.region ?_
      refine wl_assign rfl rfl ?_
      refine WL.nil ?_
      refine fun a ha => hK31 _ _ ?_ a ha
      refine W.ret ?_
      have hr := Option.some.inj hF
      subst hr
      exact rets (vs := [(.bool false)]) hQ rfl ⟨rv_tmp rfl, trivial⟩ ⟨rfl, hB27⟩
    · replace hF := ifN h30 hF
      refine W.skip ?_
      refine fun a ha => hK22 _ _ ?_ a ha
      refine W.seq fun K32 hK32 => ?_
      refine W.seq fun K33 hK33 => ?_
      refine W.region ?_
      refine wl_field (o := 2) (off' := 2) ff_31_2 rfl rfl rfl ?_
      refine wl_load_blk (i := 1) (vs := [(.int .i64 x0.2.2.1)]) (v := (.int .i64 x0.2.2.1)) tf_3 rfl rfl hS28 rfl rfl rfl ?_
      refine wl_field (o := 2) (off' := 2) ff_31_2 rfl rfl rfl ?_
      refine wl_load_blk (i := 0) (vs := [(.int .i64 x1.2.2.1)]) (v := (.int .i64 x1.2.2.1)) tf_3 rfl rfl hS28 rfl rfl rfl ?_
      refine wl_neq rfl rfl rfl ?_
      refine WL.nil ?_
      refine fun a ha => hK33 _ _ ?_ a ha
      refine W.cond rfl (fun h34 => ?_) (fun h34 => ?_)
      · replace hF := ifP h34 hF
        refine W.seq fun K35 hK35 => ?_
        refine W.region ?_
        refine wl_assign rfl rfl ?_
        refine WL.nil ?_
        refine fun a ha => hK35 _ _ ?_ a ha
        refine W.ret ?_
        have hr := Option.some.inj hF
        subst hr
        exact rets (vs := [(.bool false)]) hQ rfl ⟨rv_tmp rfl, trivial⟩ ⟨rfl, hB27⟩
      · replace hF := ifN h34 hF
        refine W.skip ?_
        refine fun a ha => hK32 _ _ ?_ a ha
        refine W.seq fun K36 hK36 => ?_
        refine W.seq fun K37 hK37 => ?_
        refine W.region ?_
        refine wl_field (o := 3) (off' := 3) ff_31_3 rfl rfl rfl ?_
        refine wl_load_blk (i := 1) (vs := [(.int .i64 x0.2.2.2)]) (v := (.int .i64 x0.2.2.2)) tf_3 rfl rfl hS28 rfl rfl rfl ?_
        refine wl_field (o := 3) (off' := 3) ff_31_3 rfl rfl rfl ?_
        refine wl_load_blk (i := 0) (vs := [(.int .i64 x1.2.2.2)]) (v := (.int .i64 x1.2.2.2)) tf_3 rfl rfl hS28 rfl rfl rfl ?_
        refine wl_neq rfl rfl rfl ?_
        refine WL.nil ?_
        refine fun a ha => hK37 _ _ ?_ a ha
        refine W.cond rfl (fun h38 => ?_) (fun h38 => ?_)
        · replace hF := ifP h38 hF
          refine W.seq fun K39 hK39 => ?_
          refine W.region ?_
          refine wl_assign rfl rfl ?_
          refine WL.nil ?_
          refine fun a ha => hK39 _ _ ?_ a ha
          refine W.ret ?_
          have hr := Option.some.inj hF
          subst hr
          exact rets (vs := [(.bool false)]) hQ rfl ⟨rv_tmp rfl, trivial⟩ ⟨rfl, hB27⟩
        · replace hF := ifN h38 hF
          refine W.skip ?_
          refine fun a ha => hK36 _ _ ?_ a ha
          refine W.seq fun K40 hK40 => ?_
          refine W.region ?_
          refine wl_assign rfl rfl ?_
          refine WL.nil ?_
          refine fun a ha => hK40 _ _ ?_ a ha
          refine W.ret ?_
          have hr := Option.some.inj hF
          subst hr
          exact rets (vs := [(.bool true)]) hQ rfl ⟨rv_tmp rfl, trivial⟩ ⟨rfl, hB27⟩
theorem C_laws_markIntS (w0 : World) (x0 : (List Int)) (v0_0 : Value) (B0_0 : List Nat) (x1 : Int) (hS0 : Sep 0 w0 [R.own ty_3 B0_0 v0_0 x0]) (r : (Int × (List Int))) (hF : F_laws_markIntS x0 x1 = some r) :
    Calls Try.prog 22 [v0_0, (.int .i64 x1)].toArray w0 fun e w' => e = .returned (.int .i64 r.1) ∧ Below 0 (wE w0) w' ∧ Sep 0 w' [R.rest w0 (fps [R.own ty_3 B0_0 v0_0 x0]), R.own ty_3 B0_0 v0_0 r.2] := by
  refine calls_mk' Try.func22 rfl Try.ntmps22 rfl rfl fun Q hQ hP => ?_
  have hB : Below (wE w0).heap.size (wE w0) w0 := wE_below w0
  have hS : Sep (wE w0).heap.size w0 [R.rest w0 (fps [R.own ty_3 B0_0 v0_0 x0]), R.own ty_3 B0_0 v0_0 x0] := hS0.rest
  unfold F_laws_markIntS at hF
  refine W.seq fun K1 hK1 => ?_
  refine W.region ?_
  refine wl_assign rfl rfl ?_
  refine WL.nil ?_
  refine fun a ha => hK1 _ _ ?_ a ha
  refine W.seq fun K2 hK2 => ?_
  refine W.seq fun K3 hK3 => ?_
  refine W.region ?_
  refine wl_assign rfl rfl ?_
  refine WL.nil ?_
  refine fun a ha => hK3 _ _ ?_ a ha
  refine W.block ?_
  refine W.loopk (fun m a w4 => ∃ (l7 : (List Int)) (y8 : Int) (y9 : Int), St 19 [(0, v0_0), (1, (.int .i64 y8)), (5, (.int .i64 y9))] a ∧ Below (wE w0).heap.size (wE w0) w4 ∧ Sep (wE w0).heap.size w4 [R.rest w0 (fps [R.own ty_3 B0_0 v0_0 x0]), R.own ty_3 B0_0 v0_0 l7] ∧ F_laws_markIntS_L1 m l7 y8 y9 = some r) FU ?_ ?_
  ·
    exact fun a ha => ⟨x0, x1, 0, ha.sub ⟨rfl, rfl, rfl, trivial⟩, hB, (hS.sel [0, 1] rfl), hF⟩
  ·
    rintro m12 a w4 ⟨l7, y8, y9, ha, hB5, hS6, hF⟩ KL11 hKL11
    refine W.at ?_ ha
    cases m12 with
    | zero => exact noneE hF
    | succ m12 =>
      obtain ⟨nx10, hnx10⟩ : ∃ k, k = F_laws_markIntS_L1 m12 := ⟨_, rfl⟩
      rw [F_laws_markIntS_L1, ← hnx10] at hF
      refine W.seq fun K13 hK13 => ?_
      refine W.seq fun K14 hK14 => ?_
      refine W.region ?_
      refine wl_move rfl rfl ?_
      refine wl_move rfl rfl ?_
      refine wl_lenr (e := ty_3) (l := l7) Try.underlying23 rfl rfl (hS6.own_ro (i := 1) rfl) ?_
      refine wl_lss rfl rfl rfl ?_
      refine WL.nil ?_
      refine fun a ha => hK14 _ _ ?_ a ha
      refine W.cond rfl (fun h15 => ?_) (fun h15 => ?_)
      · replace hF := ifP h15 hF
        refine W.skip ?_
        refine fun a ha => hK13 _ _ ?_ a ha
        refine W.seq fun K16 hK16 => ?_
        refine W.block ?_
        refine W.seq fun K17 hK17 => ?_
        refine W.region ?_
        refine wl_move rfl rfl ?_
        refine wl_move rfl rfl ?_
        refine wl_move rfl rfl ?_
        obtain ⟨u18, hu18, hF⟩ := bindE hF
        refine wl_indexo (e := ty_3) (i := 1) Try.underlying23 rfl rfl rfl hS6 rfl hu18 ?_
        rintro p19 _ rfl hp20 ho21
        refine wl_storeo (i := 1) (o := 0) (vs := [(.int .i64 y8)]) (u' := y8) fl_3 tf_3 rfl rfl rfl rfl ho21 hu18 hB5 hS6 rfl rfl ⟨rfl, trivial⟩ rfl ?_
        intro w22 hk25 hB23 hS24
        refine WL.nil ?_
        refine fun a ha => hK17 _ _ ?_ a ha
        refine W.region ?_
        refine wl_move rfl rfl ?_
        refine wl_add rfl rfl rfl ?_
        refine wl_assign rfl rfl ?_
        refine WL.nil ?_
        refine fun a ha => hK16 _ _ ?_ a ha
        refine W.region ?_
        refine wl_move rfl rfl ?_
        refine wl_add rfl rfl rfl ?_
        refine wl_assign rfl rfl ?_
        refine WL.nil ?_
        rw [hnx10] at hF
        exact fun a ha => hKL11 a _ m12 (Nat.lt_succ_self m12) ⟨(seti l7 y9 y8), (w64 (y8 + 1)), (w64 (y9 + 1)), ha.sub ⟨rfl, rfl, rfl, trivial⟩, hB23, (hS24.sel [0, 1] rfl), hF⟩
      · replace hF := ifN h15 hF
        refine W.exit ?_
        refine fun a ha => hK2 _ _ ?_ a ha
        refine W.seq fun K26 hK26 => ?_
        refine W.region ?_
        refine wl_move rfl rfl ?_
        refine wl_assign rfl rfl ?_
        refine WL.nil ?_
        refine fun a ha => hK26 _ _ ?_ a ha
        refine W.ret ?_
        have hr := Option.some.inj hF
        subst hr
        exact rets (vs := [(.int .i64 y8)]) hQ rfl ⟨rv_tmp rfl, trivial⟩ ⟨rfl, hB5, hS6.sel [0, 1] rfl⟩
theorem C_laws_heldIntS (w0 : World) (x0 : (List Int)) (v0_0 : Value) (h0_0 : rdS ty_3 (· < w0.heap.size) w0 v0_0 x0) (x1 : Int) (r : Int) (hF : F_laws_heldIntS x0 x1 = some r) :
    Calls Try.prog 23 [v0_0, (.int .i64 x1)].toArray w0 fun e w' => e = .returned (.int .i64 r) ∧ Below w0.heap.size w0 w' := by
  refine calls_mk' Try.func23 rfl Try.ntmps23 rfl rfl fun Q hQ hP => ?_
  have hB : Below w0.heap.size w0 w0 := Below.refl _ _
  have hS : Sep w0.heap.size w0 [] := Sep.nil _ _
  unfold F_laws_heldIntS at hF
  refine W.seq fun K1 hK1 => ?_
  refine W.region ?_
  refine wl_assign rfl rfl ?_
  refine WL.nil ?_
  refine fun a ha => hK1 _ _ ?_ a ha
  refine W.seq fun K2 hK2 => ?_
  refine W.seq fun K3 hK3 => ?_
  refine W.region ?_
  refine wl_assign rfl rfl ?_
  refine WL.nil ?_
  refine fun a ha => hK3 _ _ ?_ a ha
  refine W.block ?_
  refine W.loopk (fun m a w4 => ∃ (y7 : Int) (y8 : Int), St 21 [(0, v0_0), (1, (.int .i64 y7)), (5, (.int .i64 y8))] a ∧ Below w0.heap.size w0 w4 ∧ Sep w0.heap.size w4 [] ∧ F_laws_heldIntS_L1 x0 m y7 y8 = some r) FU ?_ ?_
  ·
    exact fun a ha => ⟨x1, 0, ha.sub ⟨rfl, rfl, rfl, trivial⟩, hB, (hS.sel [] rfl), hF⟩
  ·
    rintro m11 a w4 ⟨y7, y8, ha, hB5, hS6, hF⟩ KL10 hKL10
    refine W.at ?_ ha
    cases m11 with
    | zero => exact noneE hF
    | succ m11 =>
      obtain ⟨nx9, hnx9⟩ : ∃ k, k = F_laws_heldIntS_L1 x0 m11 := ⟨_, rfl⟩
      rw [F_laws_heldIntS_L1, ← hnx9] at hF
      refine W.seq fun K12 hK12 => ?_
      refine W.seq fun K13 hK13 => ?_
      refine W.region ?_
      refine wl_move rfl rfl ?_
      refine wl_move rfl rfl ?_
      refine wl_lenr (e := ty_3) (l := x0) Try.underlying23 rfl rfl h0_0 ?_
      refine wl_lss rfl rfl rfl ?_
      refine WL.nil ?_
      refine fun a ha => hK13 _ _ ?_ a ha
      refine W.cond rfl (fun h14 => ?_) (fun h14 => ?_)
      · replace hF := ifP h14 hF
        refine W.skip ?_
        refine fun a ha => hK12 _ _ ?_ a ha
        refine W.seq fun K15 hK15 => ?_
        refine W.block ?_
        refine W.seq fun K16 hK16 => ?_
        refine W.seq fun K17 hK17 => ?_
        refine W.region ?_
        refine wl_move rfl rfl ?_
        refine wl_move rfl rfl ?_
        obtain ⟨u18, hu18, hF⟩ := bindE hF
        refine wl_index (e := ty_3) Try.underlying23 rfl rfl rfl h0_0 hu18 ?_
        rintro p19 _ rfl hp20
        refine wl_load_p (vs := [(.int .i64 u18)]) (v := (.int .i64 u18)) tf_3 rfl rfl (hp20.ro hB5) rfl rfl ?_
        refine wl_move rfl rfl ?_
        refine wl_neq rfl rfl rfl ?_
        refine WL.nil ?_
        refine fun a ha => hK17 _ _ ?_ a ha
        refine W.cond rfl (fun h21 => ?_) (fun h21 => ?_)
        · replace hF := ifP h21 hF
          refine W.seq fun K22 hK22 => ?_
          refine W.region ?_
          refine wl_assign rfl rfl ?_
          refine WL.nil ?_
          refine fun a ha => hK22 _ _ ?_ a ha
          refine W.ret ?_
          have hr := Option.some.inj hF
          subst hr
          exact rets (vs := [(.int .i64 (-1))]) hQ rfl ⟨rv_tmp rfl, trivial⟩ ⟨rfl, hB5⟩
        · replace hF := ifN h21 hF
          refine W.skip ?_
          refine fun a ha => hK16 _ _ ?_ a ha
          refine W.region ?_
          refine wl_move rfl rfl ?_
          refine wl_add rfl rfl rfl ?_
          refine wl_assign rfl rfl ?_
          refine WL.nil ?_
          refine fun a ha => hK15 _ _ ?_ a ha
          refine W.region ?_
          refine wl_move rfl rfl ?_
          refine wl_add rfl rfl rfl ?_
          refine wl_assign rfl rfl ?_
          refine WL.nil ?_
          rw [hnx9] at hF
          exact fun a ha => hKL10 a _ m11 (Nat.lt_succ_self m11) ⟨(w64 (y7 + 1)), (w64 (y8 + 1)), ha.sub ⟨rfl, rfl, rfl, trivial⟩, hB5, (hS6.sel [] rfl), hF⟩
      · replace hF := ifN h14 hF
        refine W.exit ?_
        refine fun a ha => hK2 _ _ ?_ a ha
        refine W.seq fun K23 hK23 => ?_
        refine W.region ?_
        refine wl_move rfl rfl ?_
        refine wl_assign rfl rfl ?_
        refine WL.nil ?_
        refine fun a ha => hK23 _ _ ?_ a ha
        refine W.ret ?_
        have hr := Option.some.inj hF
        subst hr
        exact rets (vs := [(.int .i64 y7)]) hQ rfl ⟨rv_tmp rfl, trivial⟩ ⟨rfl, hB5⟩
theorem C_laws_markSpotS (w0 : World) (x0 : (List (Int × Int))) (v0_0 : Value) (B0_0 : List Nat) (x1 : Int) (hS0 : Sep 0 w0 [R.own ty_116 B0_0 v0_0 x0]) (r : (Int × (List (Int × Int)))) (hF : F_laws_markSpotS x0 x1 = some r) :
    Calls Try.prog 49 [v0_0, (.int .i64 x1)].toArray w0 fun e w' => e = .returned (.int .i64 r.1) ∧ Below 0 (wE w0) w' ∧ Sep 0 w' [R.rest w0 (fps [R.own ty_116 B0_0 v0_0 x0]), R.own ty_116 B0_0 v0_0 r.2] := by
  refine calls_mk' Try.func49 rfl Try.ntmps49 rfl rfl fun Q hQ hP => ?_
  have hB : Below (wE w0).heap.size (wE w0) w0 := wE_below w0
  have hS : Sep (wE w0).heap.size w0 [R.rest w0 (fps [R.own ty_116 B0_0 v0_0 x0]), R.own ty_116 B0_0 v0_0 x0] := hS0.rest
  unfold F_laws_markSpotS at hF
  refine W.seq fun K1 hK1 => ?_
  refine W.region ?_
  refine wl_assign rfl rfl ?_
  refine WL.nil ?_
  refine fun a ha => hK1 _ _ ?_ a ha
  refine W.seq fun K2 hK2 => ?_
  refine W.seq fun K3 hK3 => ?_
  refine W.region ?_
  refine wl_assign rfl rfl ?_
  refine WL.nil ?_
  refine fun a ha => hK3 _ _ ?_ a ha
  refine W.block ?_
  refine W.loopk (fun m a w4 => ∃ (l7 : (List (Int × Int))) (y8 : Int) (y9 : Int), St 27 [(0, v0_0), (1, (.int .i64 y8)), (5, (.int .i64 y9))] a ∧ Below (wE w0).heap.size (wE w0) w4 ∧ Sep (wE w0).heap.size w4 [R.rest w0 (fps [R.own ty_116 B0_0 v0_0 x0]), R.own ty_116 B0_0 v0_0 l7] ∧ F_laws_markSpotS_L1 m l7 y8 y9 = some r) FU ?_ ?_
  ·
    exact fun a ha => ⟨x0, x1, 0, ha.sub ⟨rfl, rfl, rfl, trivial⟩, hB, (hS.sel [0, 1] rfl), hF⟩
  ·
    rintro m12 a w4 ⟨l7, y8, y9, ha, hB5, hS6, hF⟩ KL11 hKL11
    refine W.at ?_ ha
    cases m12 with
    | zero => exact noneE hF
    | succ m12 =>
      obtain ⟨nx10, hnx10⟩ : ∃ k, k = F_laws_markSpotS_L1 m12 := ⟨_, rfl⟩
      rw [F_laws_markSpotS_L1, ← hnx10] at hF
      refine W.seq fun K13 hK13 => ?_
      refine W.seq fun K14 hK14 => ?_
      refine W.region ?_
      refine wl_move rfl rfl ?_
      refine wl_move rfl rfl ?_
      refine wl_lenr (e := ty_116) (l := l7) Try.underlying69 rfl rfl (hS6.own_ro (i := 1) rfl) ?_
      refine wl_lss rfl rfl rfl ?_
      refine WL.nil ?_
      refine fun a ha => hK14 _ _ ?_ a ha
      refine W.cond rfl (fun h15 => ?_) (fun h15 => ?_)
      · replace hF := ifP h15 hF
        refine W.skip ?_
        refine fun a ha => hK13 _ _ ?_ a ha
        refine W.seq fun K16 hK16 => ?_
        refine W.block ?_
        refine W.seq fun K17 hK17 => ?_
        refine W.region ?_
        refine wl_move rfl rfl ?_
        refine wl_move rfl rfl ?_
        refine wl_move rfl rfl ?_
        obtain ⟨u18, hu18, hF⟩ := bindE hF
        refine wl_indexo (e := ty_116) (i := 1) Try.underlying69 rfl rfl rfl hS6 rfl hu18 ?_
        rintro p19 _ rfl hp20 ho21
        refine wl_fieldp (o := 0) ff_116_0 rfl rfl ?_
        refine wl_storeo (i := 1) (o := 0) (vs := [(.int .i64 y8)]) (u' := (y8, u18.2)) fl_116 tf_3 rfl rfl rfl rfl ho21 hu18 hB5 hS6 rfl rfl ⟨rfl, trivial⟩ rfl ?_
        intro w22 hk25 hB23 hS24
        refine WL.nil ?_
        refine fun a ha => hK17 _ _ ?_ a ha
        refine W.seq fun K26 hK26 => ?_
        refine W.region ?_
        refine wl_move rfl rfl ?_
        refine wl_add rfl rfl rfl ?_
        refine wl_assign rfl rfl ?_
        refine WL.nil ?_
        refine fun a ha => hK26 _ _ ?_ a ha
        refine W.seq fun K27 hK27 => ?_
        refine W.region ?_
        refine wl_move rfl rfl ?_
        refine wl_move rfl rfl ?_
        refine wl_move rfl rfl ?_
        obtain ⟨u28, hu28, hF⟩ := bindE hF
        refine wl_indexo (e := ty_116) (i := 1) Try.underlying69 rfl rfl rfl hS24 rfl hu28 ?_
        rintro p29 _ rfl hp30 ho31
        refine wl_fieldp (o := 1) ff_116_1 rfl rfl ?_
        refine wl_storeo (i := 1) (o := 1) (vs := [(.int .i64 (w64 (y8 + 1)))]) (u' := (u28.1, (w64 (y8 + 1)))) fl_116 tf_3 rfl rfl rfl rfl (ho31.add 1) hu28 hB23 hS24 rfl rfl ⟨rfl, trivial⟩ rfl ?_
        intro w32 hk35 hB33 hS34
        refine WL.nil ?_
        refine fun a ha => hK27 _ _ ?_ a ha
        refine W.region ?_
        refine wl_move rfl rfl ?_
        refine wl_add rfl rfl rfl ?_
        refine wl_assign rfl rfl ?_
        refine WL.nil ?_
        refine fun a ha => hK16 _ _ ?_ a ha
        refine W.region ?_
        refine wl_move rfl rfl ?_
        refine wl_add rfl rfl rfl ?_
        refine wl_assign rfl rfl ?_
        refine WL.nil ?_
        rw [hnx10] at hF
        exact fun a ha => hKL11 a _ m12 (Nat.lt_succ_self m12) ⟨(seti (seti l7 y9 (y8, u18.2)) y9 (u28.1, (w64 (y8 + 1)))), (w64 ((w64 (y8 + 1)) + 1)), (w64 (y9 + 1)), ha.sub ⟨rfl, rfl, rfl, trivial⟩, hB33, (hS34.sel [0, 1] rfl), hF⟩
      · replace hF := ifN h15 hF
        refine W.exit ?_
        refine fun a ha => hK2 _ _ ?_ a ha
        refine W.seq fun K36 hK36 => ?_
        refine W.region ?_
        refine wl_move rfl rfl ?_
        refine wl_assign rfl rfl ?_
        refine WL.nil ?_
        refine fun a ha => hK36 _ _ ?_ a ha
        refine W.ret ?_
        have hr := Option.some.inj hF
        subst hr
        exact rets (vs := [(.int .i64 y8)]) hQ rfl ⟨rv_tmp rfl, trivial⟩ ⟨rfl, hB5, hS6.sel [0, 1] rfl⟩
theorem C_laws_markSpotSS (w0 : World) (x0 : (List (List (Int × Int)))) (v0_0 : Value) (B0_0 : List Nat) (x1 : Int) (hS0 : Sep 0 w0 [R.own ty_69 B0_0 v0_0 x0]) (r : (Int × (List (List (Int × Int))))) (hF : F_laws_markSpotSS x0 x1 = some r) :
    Calls Try.prog 76 [v0_0, (.int .i64 x1)].toArray w0 fun e w' => e = .returned (.int .i64 r.1) ∧ Below 0 (wE w0) w' ∧ Sep 0 w' [R.rest w0 (fps [R.own ty_69 B0_0 v0_0 x0]), R.own ty_69 B0_0 v0_0 r.2] := by
  refine calls_mk' Try.func76 rfl Try.ntmps76 rfl rfl fun Q hQ hP => ?_
  have hB : Below (wE w0).heap.size (wE w0) w0 := wE_below w0
  have hS : Sep (wE w0).heap.size w0 [R.rest w0 (fps [R.own ty_69 B0_0 v0_0 x0]), R.own ty_69 B0_0 v0_0 x0] := hS0.rest
  unfold F_laws_markSpotSS at hF
  refine W.seq fun K1 hK1 => ?_
  refine W.region ?_
  refine wl_assign rfl rfl ?_
  refine WL.nil ?_
  refine fun a ha => hK1 _ _ ?_ a ha
  refine W.seq fun K2 hK2 => ?_
  refine W.seq fun K3 hK3 => ?_
  refine W.region ?_
  refine wl_assign rfl rfl ?_
  refine WL.nil ?_
  refine fun a ha => hK3 _ _ ?_ a ha
  refine W.block ?_
  refine W.loopk (fun m a w4 => ∃ (l7 : (List (List (Int × Int)))) (y8 : Int) (y9 : Int), St 19 [(0, v0_0), (1, (.int .i64 y8)), (5, (.int .i64 y9))] a ∧ Below (wE w0).heap.size (wE w0) w4 ∧ Sep (wE w0).heap.size w4 [R.rest w0 (fps [R.own ty_69 B0_0 v0_0 x0]), R.own ty_69 B0_0 v0_0 l7] ∧ F_laws_markSpotSS_L1 m l7 y8 y9 = some r) FU ?_ ?_
  ·
    exact fun a ha => ⟨x0, x1, 0, ha.sub ⟨rfl, rfl, rfl, trivial⟩, hB, (hS.sel [0, 1] rfl), hF⟩
  ·
    rintro m12 a w4 ⟨l7, y8, y9, ha, hB5, hS6, hF⟩ KL11 hKL11
    refine W.at ?_ ha
    cases m12 with
    | zero => exact noneE hF
    | succ m12 =>
      obtain ⟨nx10, hnx10⟩ : ∃ k, k = F_laws_markSpotSS_L1 m12 := ⟨_, rfl⟩
      rw [F_laws_markSpotSS_L1, ← hnx10] at hF
      refine W.seq fun K13 hK13 => ?_
      refine W.seq fun K14 hK14 => ?_
      refine W.region ?_
      refine wl_move rfl rfl ?_
      refine wl_move rfl rfl ?_
      refine wl_lenr (e := ty_69) (l := l7) Try.underlying29 rfl rfl (hS6.own_ro (i := 1) rfl) ?_
      refine wl_lss rfl rfl rfl ?_
      refine WL.nil ?_
      refine fun a ha => hK14 _ _ ?_ a ha
      refine W.cond rfl (fun h15 => ?_) (fun h15 => ?_)
      · replace hF := ifP h15 hF
        refine W.skip ?_
        refine fun a ha => hK13 _ _ ?_ a ha
        refine W.seq fun K16 hK16 => ?_
        refine W.block ?_
        refine W.region ?_
        refine wl_move rfl rfl ?_
        refine wl_move rfl rfl ?_
        obtain ⟨u17, hu17, hF⟩ := bindE hF
        refine wl_indexo (e := ty_69) (i := 1) Try.underlying29 rfl rfl rfl hS6 rfl hu17 ?_
        rintro p18 _ ⟨v20, rfl, hv21⟩ hp19 ho22
        refine wl_load_p (vs := [v20]) (v := v20) tf_69 rfl rfl hp19 rfl rfl ?_
        refine wl_move rfl rfl ?_
        obtain ⟨F23, hS24, hq25, hq26⟩ := (hS6.sel [1, 0] rfl).borrow (e := ty_69) (F := B0_0) (v := v0_0) (l := l7) hu17 ho22 hp19 rfl
        have hS27 : Sep (wE w0).heap.size w4 [R.own ty_116 F23 v20 u17, R.hole ty_69 B0_0 F23 v0_0 l7 y9.toNat [v20], R.rest w0 (fps [R.own ty_69 B0_0 v0_0 x0])] := hS24.head rfl fun _ h => by obtain ⟨_, h1, h2⟩ := h; cases h1; exact h2
        obtain ⟨u28, hu28, hF⟩ := bindE hF
        refine wl_call rfl Try.call49 (C_laws_markSpotS w4 u17 v20 F23 y8 (hS27.sel [0] rfl).base0 _ hu28) rfl ?_
        rintro _ w29 ⟨rfl, hE30, hM31⟩
        refine ⟨_, rfl, ?_⟩
        have hB32 := hS27.mutB [0] rfl (M := [R.own ty_116 F23 v20 u17]) rfl (M' := [R.own ty_116 F23 v20 u28.2]) rfl hB5 hB5.size hE30 hM31
        have hS33 : Sep (wE w0).heap.size w29 [R.own ty_116 F23 v20 u28.2, R.hole ty_69 B0_0 F23 v0_0 l7 y9.toNat [v20], R.rest w0 (fps [R.own ty_69 B0_0 v0_0 x0])] := hS27.mut [0] [1, 2] rfl (M := [R.own ty_116 F23 v20 u17]) rfl (M' := [R.own ty_116 F23 v20 u28.2]) rfl hM31
        have hS34 := hS33.head (r' := R.cel ty_69 F23 [v20] u28.2) rfl fun _ h => ⟨_, rfl, h⟩
        have hS35 : Sep (wE w0).heap.size w29 [R.own ty_69 B0_0 v0_0 (seti l7 y9 u28.2), R.rest w0 (fps [R.own ty_69 B0_0 v0_0 x0])] := hS34.unborrow hq25 hq26
        refine wl_assign rfl rfl ?_
        refine WL.nil ?_
        refine fun a ha => hK16 _ _ ?_ a ha
        refine W.region ?_
        refine wl_move rfl rfl ?_
        refine wl_add rfl rfl rfl ?_
        refine wl_assign rfl rfl ?_
        refine WL.nil ?_
        rw [hnx10] at hF
        exact fun a ha => hKL11 a _ m12 (Nat.lt_succ_self m12) ⟨(seti l7 y9 u28.2), u28.1, (w64 (y9 + 1)), ha.sub ⟨rfl, rfl, rfl, trivial⟩, hB32, (hS35.sel [1, 0] rfl), hF⟩
      · replace hF := ifN h15 hF
        refine W.exit ?_
        refine fun a ha => hK2 _ _ ?_ a ha
        refine W.seq fun K36 hK36 => ?_
        refine W.region ?_
        refine wl_move rfl rfl ?_
        refine wl_assign rfl rfl ?_
        refine WL.nil ?_
        refine fun a ha => hK36 _ _ ?_ a ha
        refine W.ret ?_
        have hr := Option.some.inj hF
        subst hr
        exact rets (vs := [(.int .i64 y8)]) hQ rfl ⟨rv_tmp rfl, trivial⟩ ⟨rfl, hB5, hS6.sel [0, 1] rfl⟩
theorem C_laws_markShow (w0 : World) (x0 : ((List (List (Int × Int))) × (List Int) × Int × Int)) (v0_0 : Value) (B0_0 : List Nat) (v0_1 : Value) (B0_1 : List Nat) (x1 : Int) (hS0 : Sep 0 w0 [R.own ty_69 B0_0 v0_0 x0.1, R.own ty_3 B0_1 v0_1 x0.2.1]) (r : (Int × ((List (List (Int × Int))) × (List Int) × Int × Int))) (hF : F_laws_markShow x0 x1 = some r) :
    Calls Try.prog 21 [(.agg #[v0_0, v0_1, (.int .i64 x0.2.2.1), (.int .i64 x0.2.2.2)]), (.int .i64 x1)].toArray w0 fun e w' => e = .returned (.int .i64 r.1) ∧ Below 0 (wE w0) w' ∧ Sep 0 w' [R.rest w0 (fps [R.own ty_69 B0_0 v0_0 x0.1, R.own ty_3 B0_1 v0_1 x0.2.1]), R.own ty_69 B0_0 v0_0 r.2.1, R.own ty_3 B0_1 v0_1 r.2.2.1] := by
  refine calls_mk' Try.func21 rfl Try.ntmps21 rfl rfl fun Q hQ hP => ?_
  have hB : Below (wE w0).heap.size (wE w0) w0 := wE_below w0
  have hS : Sep (wE w0).heap.size w0 [R.rest w0 (fps [R.own ty_69 B0_0 v0_0 x0.1, R.own ty_3 B0_1 v0_1 x0.2.1]), R.own ty_69 B0_0 v0_0 x0.1, R.own ty_3 B0_1 v0_1 x0.2.1] := hS0.rest
  unfold F_laws_markShow at hF
  refine W.seq fun K1 hK1 => ?_
  refine W.region ?_
  refine wl_box (cs := [v0_0, v0_1, (.int .i64 x0.2.2.1), (.int .i64 x0.2.2.2)]) rfl rfl rfl hB hS ?_
  intro b2 w3 hb4 hB5 hS6
  refine wl_assign rfl rfl ?_
  refine WL.nil ?_
  refine fun a ha => hK1 _ _ ?_ a ha
  refine W.seq fun K7 hK7 => ?_
  refine W.region ?_
  refine wl_field (o := 0) (off' := 0) ff_31_0 rfl rfl rfl ?_
  refine wl_load_blk (i := 0) (vs := [v0_0]) (v := v0_0) tf_29 rfl rfl hS6 rfl rfl rfl ?_
  refine wl_move rfl rfl ?_
  obtain ⟨u8, hu8, hF⟩ := bindE hF
  refine wl_call rfl Try.call76 (C_laws_markSpotSS w3 x0.1 v0_0 B0_0 x1 (hS6.sel [2] rfl).base0 _ hu8) rfl ?_
  rintro _ w9 ⟨rfl, hE10, hM11⟩
  refine ⟨_, rfl, ?_⟩
  have hB12 := hS6.mutB [2] rfl (M := [R.own ty_69 B0_0 v0_0 x0.1]) rfl (M' := [R.own ty_69 B0_0 v0_0 u8.2]) rfl hB5 hB5.size hE10 hM11
  have hS13 : Sep (wE w0).heap.size w9 [R.own ty_69 B0_0 v0_0 u8.2, R.blk b2 31 [v0_0, v0_1, (.int .i64 x0.2.2.1), (.int .i64 x0.2.2.2)], R.rest w0 (fps [R.own ty_69 B0_0 v0_0 x0.1, R.own ty_3 B0_1 v0_1 x0.2.1]), R.own ty_3 B0_1 v0_1 x0.2.1] := hS6.mut [2] [0, 1, 3] rfl (M := [R.own ty_69 B0_0 v0_0 x0.1]) rfl (M' := [R.own ty_69 B0_0 v0_0 u8.2]) rfl hM11
  refine wl_assign rfl rfl ?_
  refine WL.nil ?_
  refine fun a ha => hK7 _ _ ?_ a ha
  refine W.seq fun K14 hK14 => ?_
  refine W.region ?_
  refine wl_field (o := 1) (off' := 1) ff_31_1 rfl rfl rfl ?_
  refine wl_load_blk (i := 1) (vs := [v0_1]) (v := v0_1) tf_23 rfl rfl hS13 rfl rfl rfl ?_
  refine wl_move rfl rfl ?_
  obtain ⟨u15, hu15, hF⟩ := bindE hF
  refine wl_call rfl Try.call22 (C_laws_markIntS w9 x0.2.1 v0_1 B0_1 u8.1 (hS13.sel [3] rfl).base0 _ hu15) rfl ?_
  rintro _ w16 ⟨rfl, hE17, hM18⟩
  refine ⟨_, rfl, ?_⟩
  have hB19 := hS13.mutB [3] rfl (M := [R.own ty_3 B0_1 v0_1 x0.2.1]) rfl (M' := [R.own ty_3 B0_1 v0_1 u15.2]) rfl hB12 hB12.size hE17 hM18
  have hS20 : Sep (wE w0).heap.size w16 [R.own ty_3 B0_1 v0_1 u15.2, R.own ty_69 B0_0 v0_0 u8.2, R.blk b2 31 [v0_0, v0_1, (.int .i64 x0.2.2.1), (.int .i64 x0.2.2.2)], R.rest w0 (fps [R.own ty_69 B0_0 v0_0 x0.1, R.own ty_3 B0_1 v0_1 x0.2.1])] := hS13.mut [3] [0, 1, 2] rfl (M := [R.own ty_3 B0_1 v0_1 x0.2.1]) rfl (M' := [R.own ty_3 B0_1 v0_1 u15.2]) rfl hM18
  refine wl_assign rfl rfl ?_
  refine WL.nil ?_
  refine fun a ha => hK14 _ _ ?_ a ha
  refine W.seq fun K21 hK21 => ?_
  refine W.region ?_
  refine wl_move rfl rfl ?_
  refine wl_assign rfl rfl ?_
  refine WL.nil ?_
  refine fun a ha => hK21 _ _ ?_ a ha
  refine W.ret ?_
  have hr := Option.some.inj hF
  subst hr
  exact rets (vs := [(.int .i64 u15.1)]) hQ rfl ⟨rv_tmp rfl, trivial⟩ ⟨rfl, hB19, hS20.sel [3, 1, 0] rfl⟩
theorem C_spec_chOwn (w0 : World) (x0 : (List (Int × Int))) (v0_0 : Value) (h0_0 : rdS ty_116 (· < w0.heap.size) w0 v0_0 x0) (r : (List (Int × Int))) (hF : F_spec_chOwn x0 = some r) :
    Calls Try.prog 95 [v0_0].toArray w0 fun e w' => ∃ (q0 : Value) (G0 : List Nat), e = .returned q0 ∧ Below w0.heap.size w0 w' ∧ Sep w0.heap.size w' [R.own ty_116 G0 q0 r] := by
  refine calls_mk' Try.func95 rfl Try.ntmps95 rfl rfl fun Q hQ hP => ?_
  have hB : Below w0.heap.size w0 w0 := Below.refl _ _
  have hS : Sep w0.heap.size w0 [] := Sep.nil _ _
  unfold F_spec_chOwn at hF
  refine W.seq fun K1 hK1 => ?_
  refine W.region ?_
  refine wl_assign rfl rfl ?_
  refine WL.nil ?_
  refine fun a ha => hK1 _ _ ?_ a ha
  refine W.seq fun K2 hK2 => ?_
  refine W.region ?_
  refine wl_lit (vs := []) (l := []) fl_116 Try.underlying69 rfl rfl rfl rfl rfl rfl hB hS ?_
  intro v3 F4 w5 hb6 hB7 hS8
  refine wl_move rfl rfl ?_
  obtain ⟨u9, hu9, hF⟩ := bindE hF
  refine wl_append (i := 0) (S := (· < w5.heap.size)) fl_116 Try.underlying69 rfl rfl rfl hB7 hS8 rfl (h0_0.ro hB7) hu9 ?_
  intro v10 F11 w12 hk13 hB14 hS15
  refine wl_assign rfl rfl ?_
  refine WL.nil ?_
  refine fun a ha => hK2 _ _ ?_ a ha
  refine W.ret ?_
  have hr := Option.some.inj hF
  subst hr
  exact rets (vs := [v10]) hQ rfl ⟨rv_tmp rfl, trivial⟩ ⟨v10, F11, rfl, hB14, hS15.sel [0] rfl⟩
theorem C_spec_ReverseShow (w0 : World) (x0 : ((List (List (Int × Int))) × (List Int) × Int × Int)) (v0_0 : Value) (h0_0 : rdS ty_69 (· < w0.heap.size) w0 v0_0 x0.1) (v0_1 : Value) (h0_1 : rdS ty_3 (· < w0.heap.size) w0 v0_1 x0.2.1) (r : (((List (List (Int × Int))) × (List Int) × Int × Int) × Bool)) (hF : F_spec_ReverseShow x0 = some r) :
    Calls Try.prog 41 [(.agg #[v0_0, v0_1, (.int .i64 x0.2.2.1), (.int .i64 x0.2.2.2)])].toArray w0 fun e w' => ∃ (q0 : Value) (G0 : List Nat) (q1 : Value) (G1 : List Nat), e = .returned (.tuple #[(.agg #[q0, q1, (.int .i64 r.1.2.2.1), (.int .i64 r.1.2.2.2)]), (.bool r.2)]) ∧ Below w0.heap.size w0 w' ∧ Sep w0.heap.size w' [R.own ty_69 G0 q0 r.1.1, R.own ty_3 G1 q1 r.1.2.1] := by
  refine calls_mk' Try.func41 rfl Try.ntmps41 rfl rfl fun Q hQ hP => ?_
  have hB : Below w0.heap.size w0 w0 := Below.refl _ _
  have hS : Sep w0.heap.size w0 [] := Sep.nil _ _
  unfold F_spec_ReverseShow at hF
  refine W.seq fun K1 hK1 => ?_
  refine W.region ?_
  refine wl_box (cs := [v0_0, v0_1, (.int .i64 x0.2.2.1), (.int .i64 x0.2.2.2)]) rfl rfl rfl hB hS ?_
  intro b2 w3 hb4 hB5 hS6
  refine wl_alloc (cs := [(.slice none 0 0), (.slice none 0 0), (.int .i64 0), (.int .i64 0)]) tf_31 rfl rfl hB5 hS6 ?_
  intro b7 w8 hb9 hB10 hS11
  refine wl_assign rfl rfl ?_
  refine WL.nil ?_
  refine fun a ha => hK1 _ _ ?_ a ha
  refine W.seq fun K12 hK12 => ?_
  refine W.seq fun K13 hK13 => ?_
  refine W.region ?_
  refine wl_load_blk (i := 1) (vs := [v0_0, v0_1, (.int .i64 x0.2.2.1), (.int .i64 x0.2.2.2)]) (v := (.agg #[v0_0, v0_1, (.int .i64 x0.2.2.1), (.int .i64 x0.2.2.2)])) tf_31 rfl rfl hS11 rfl rfl rfl ?_
  obtain ⟨u14, hu14, hF⟩ := bindE hF
  refine wl_call rfl Try.call69 (C_spec_swGood w8 x0 v0_0 (h0_0.ro hB10) v0_1 (h0_1.ro hB10) _ hu14) rfl ?_
  rintro _ w15 ⟨rfl, hb16⟩
  refine ⟨_, rfl, ?_⟩
  have hB17 := hB10.trans (hb16.mono hB10.size)
  have hS18 := hS11.below hb16
  refine wl_not rfl rfl ?_
  refine WL.nil ?_
  refine fun a ha => hK13 _ _ ?_ a ha
  refine W.cond rfl (fun h20 => ?_) (fun h20 => ?_)
  · replace hF := ifP h20 hF
    refine W.seq fun K21 hK21 => ?_
    refine W.region ?_
    refine wl_build (zs := [(.slice none 0 0), (.slice none 0 0), (.int .i64 0), (.int .i64 0)]) (out := [(.slice none 0 0), (.slice none 0 0), (.int .i64 0), (.int .i64 0)]) (vs := []) (css := []) tf_31 pl_31 rfl rfl rfl rfl rfl ?_
    refine wl_store_blk (i := 0) (vs := [(.slice none 0 0), (.slice none 0 0), (.int .i64 0), (.int .i64 0)]) (cs' := [(.slice none 0 0), (.slice none 0 0), (.int .i64 0), (.int .i64 0)]) tf_31 rfl rfl rfl rfl hB17 hS18 rfl rfl ⟨rfl, rfl, rfl, rfl, trivial⟩ rfl ?_
    intro w22 hk25 hB23 hS24
    refine wl_assign rfl rfl ?_
    refine WL.nil ?_
    refine fun a ha => hK21 _ _ ?_ a ha
    refine W.ret ?_
    have hS26 := hS24.push0 (r := R.own ty_69 [] (.slice none 0 0) []) rfl fun _ => .inl ⟨rfl, rfl, rfl⟩
    have hS27 := hS26.push0 (r := R.own ty_3 [] (.slice none 0 0) []) rfl fun _ => .inl ⟨rfl, rfl, rfl⟩
    have hr := Option.some.inj hF
    subst hr
    exact rets (vs := [(.agg #[(.slice none 0 0), (.slice none 0 0), (.int .i64 0), (.int .i64 0)]), (.bool false)]) hQ rfl ⟨rv_cell (i := 0) tf_31 rfl hS24 rfl rfl rfl, rv_tmp rfl, trivial⟩ ⟨(.slice none 0 0), [], (.slice none 0 0), [], rfl, hB23, hS27.sel [1, 0] rfl⟩
  · replace hF := ifN h20 hF
    refine W.skip ?_
    refine fun a ha => hK12 _ _ ?_ a ha
    refine W.seq fun K28 hK28 => ?_
    refine W.region ?_
    refine wl_field (o := 2) (off' := 2) ff_31_2 rfl rfl rfl ?_
    refine wl_load_blk (i := 1) (vs := [(.int .i64 x0.2.2.1)]) (v := (.int .i64 x0.2.2.1)) tf_3 rfl rfl hS18 rfl rfl rfl ?_
    refine wl_field (o := 3) (off' := 3) ff_31_3 rfl rfl rfl ?_
    refine wl_load_blk (i := 1) (vs := [(.int .i64 x0.2.2.2)]) (v := (.int .i64 x0.2.2.2)) tf_3 rfl rfl hS18 rfl rfl rfl ?_
    refine wl_build (zs := [(.slice none 0 0), (.slice none 0 0), (.int .i64 0), (.int .i64 0)]) (out := [(.slice none 0 0), (.slice none 0 0), (.int .i64 x0.2.2.1), (.int .i64 x0.2.2.2)]) (vs := [(.int .i64 x0.2.2.1), (.int .i64 x0.2.2.2)]) (css := [[(.int .i64 x0.2.2.1)], [(.int .i64 x0.2.2.2)]]) tf_31 pl_31 rfl rfl rfl rfl rfl ?_
    refine wl_alloc (cs := [(.slice none 0 0), (.slice none 0 0), (.int .i64 0), (.int .i64 0)]) tf_31 rfl rfl hB17 hS18 ?_
    intro b29 w30 hb31 hB32 hS33
    refine wl_store_blk (i := 0) (vs := [(.slice none 0 0), (.slice none 0 0), (.int .i64 x0.2.2.1), (.int .i64 x0.2.2.2)]) (cs' := [(.slice none 0 0), (.slice none 0 0), (.int .i64 x0.2.2.1), (.int .i64 x0.2.2.2)]) tf_31 rfl rfl rfl rfl hB32 hS33 rfl rfl ⟨rfl, rfl, rfl, rfl, trivial⟩ rfl ?_
    intro w34 hk37 hB35 hS36
    refine WL.nil ?_
    refine fun a ha => hK28 _ _ ?_ a ha
    refine W.seq fun K38 hK38 => ?_
    refine W.seq fun K39 hK39 => ?_
    refine W.region ?_
    refine wl_field (o := 0) (off' := 0) ff_31_0 rfl rfl rfl ?_
    refine wl_load_blk (i := 2) (vs := [v0_0]) (v := v0_0) tf_29 rfl rfl hS36 rfl rfl rfl ?_
    refine wl_lenr (e := ty_69) (l := x0.1) Try.underlying29 rfl rfl h0_0 ?_
    refine wl_sub rfl rfl rfl ?_
    refine wl_assign rfl rfl ?_
    refine WL.nil ?_
    refine fun a ha => hK39 _ _ ?_ a ha
    refine W.block ?_
    refine W.loopk (fun m a w40 => ∃ (l43 : (List (List (Int × Int)))) (y46 : Int) (v44 : Value) (F45 : List Nat), St 54 [(1, (.pointer (some ⟨b2, 0, none⟩))), (2, (.pointer (some ⟨b7, 0, none⟩))), (4, (.pointer (some ⟨b29, 0, none⟩))), (5, (.int .i64 y46))] a ∧ Below w0.heap.size w0 w40 ∧ Sep w0.heap.size w40 [R.blk b2 31 [v0_0, v0_1, (.int .i64 x0.2.2.1), (.int .i64 x0.2.2.2)], R.blk b7 31 [(.slice none 0 0), (.slice none 0 0), (.int .i64 0), (.int .i64 0)], R.own ty_69 F45 v44 l43, R.blk b29 31 [v44, (.slice none 0 0), (.int .i64 x0.2.2.1), (.int .i64 x0.2.2.2)]] ∧ F_spec_ReverseShow_L1 x0 m l43 y46 = some r) FU ?_ ?_
    ·
      have hS48 := hS36.push0 (r := R.own ty_69 [] (.slice none 0 0) []) rfl fun _ => .inl ⟨rfl, rfl, rfl⟩
      exact fun a ha => ⟨[], (w64 ((List.length x0.1 : Int) - 1)), (.slice none 0 0), [], ha.sub ⟨rfl, rfl, rfl, rfl, trivial⟩, hB35, (hS48.sel [3, 2, 0, 1] rfl), hF⟩
    ·
      rintro m50 a w40 ⟨l43, y46, v44, F45, ha, hB41, hS42, hF⟩ KL49 hKL49
      refine W.at ?_ ha
      cases m50 with
      | zero => exact noneE hF
      | succ m50 =>
        obtain ⟨nx47, hnx47⟩ : ∃ k, k = F_spec_ReverseShow_L1 x0 m50 := ⟨_, rfl⟩
        rw [F_spec_ReverseShow_L1, ← hnx47] at hF
        refine W.seq fun K51 hK51 => ?_
        refine W.seq fun K52 hK52 => ?_
        refine W.region ?_
        refine wl_move rfl rfl ?_
        refine wl_geq rfl rfl rfl ?_
        refine WL.nil ?_
        refine fun a ha => hK52 _ _ ?_ a ha
        refine W.cond rfl (fun h53 => ?_) (fun h53 => ?_)
        · replace hF := ifP h53 hF
          refine W.skip ?_
          refine fun a ha => hK51 _ _ ?_ a ha
          refine W.seq fun K54 hK54 => ?_
          obtain ⟨k61, hk61, hF⟩ := jE1 hF
          have hJ62 : ∀ (l58 : (List (List (Int × Int)))) (v59 : Value) (F60 : List Nat) (w55 : World) (_ : k61 l58 = some r) (_ : Below w0.heap.size w0 w55) (_ : Sep w0.heap.size w55 [R.blk b2 31 [v0_0, v0_1, (.int .i64 x0.2.2.1), (.int .i64 x0.2.2.2)], R.blk b7 31 [(.slice none 0 0), (.slice none 0 0), (.int .i64 0), (.int .i64 0)], R.own ty_69 F60 v59 l58, R.blk b29 31 [v59, (.slice none 0 0), (.int .i64 x0.2.2.1), (.int .i64 x0.2.2.2)]]), ∀ a, St 54 [(1, (.pointer (some ⟨b2, 0, none⟩))), (2, (.pointer (some ⟨b7, 0, none⟩))), (4, (.pointer (some ⟨b29, 0, none⟩))), (5, (.int .i64 y46))] a → K54 a w55 := by
            intro l58 v59 F60 w55 hF hB56 hS57
            subst hk61
            refine fun a ha => hK54 _ _ ?_ a ha
            refine W.region ?_
            refine wl_move rfl rfl ?_
            refine wl_sub rfl rfl rfl ?_
            refine wl_assign rfl rfl ?_
            refine WL.nil ?_
            rw [hnx47] at hF
            exact fun a ha => hKL49 a _ m50 (Nat.lt_succ_self m50) ⟨l58, (w64 (y46 - 1)), v59, F60, ha.sub ⟨rfl, rfl, rfl, rfl, trivial⟩, hB56, (hS57.sel [0, 1, 2, 3] rfl), hF⟩
          refine W.block ?_
          refine W.regionH mixed_ (F45 ++ [b29]) hB41 hS42 ?_
          intro w63 hb64 hB65 hS66
          have hSW67 := KeepX.refl w63 (F45 ++ [b29])
          refine WH.takex (i := 0) rfl (by kernel_rfl) (by kernel_rfl) (by kernel_rfl) hP hSW67 ?_
          refine pr_field (o := 0) (off' := 0) ff_31_0 rfl rfl rfl ?_
          refine WH.takex (i := 2) rfl (by kernel_rfl) (by kernel_rfl) (by kernel_rfl) hP hSW67 ?_
          refine pr_field (o := 0) (off' := 0) ff_31_0 rfl rfl rfl ?_
          refine WH.takex (i := 3) rfl (by kernel_rfl) (by kernel_rfl) (by kernel_rfl) hP hSW67 ?_
          refine pr_load_blk (i := 0) (vs := [v0_0]) (v := v0_0) tf_29 rfl rfl hS66 rfl rfl rfl (fun hb => (List.mem_append.1 hb).elim (hS66.disj (i := 0) (j := 2) rfl rfl rfl b2 (by simp [R.blk])) (hS66.disj (i := 0) (j := 3) rfl rfl rfl b2 (by simp [R.blk]))) ?_
          refine WH.takex (i := 4) rfl (by kernel_rfl) (by kernel_rfl) (by kernel_rfl) hP hSW67 ?_
          refine pr_move rfl rfl ?_
          obtain ⟨u68, hu68, hF⟩ := bindE hF
          refine WH.takex (i := 5) rfl (by kernel_rfl) (by kernel_rfl) (by kernel_rfl) hP hSW67 ?_
          refine pr_index (e := ty_69) Try.underlying29 rfl rfl rfl h0_0 hu68 ?_
          rintro p69 _ ⟨v71, rfl, hv72⟩ hp70
          refine WH.takex (i := 6) rfl (by kernel_rfl) (by kernel_rfl) (by kernel_rfl) hP hSW67 ?_
          refine pr_load_p (vs := [v71]) (v := v71) tf_69 rfl rfl (hp70.kx hB65 (fun b hb => ((List.mem_append.1 hb).elim (fun hb => (((hS66.get (i := 2) rfl).2.1 b hb).1)) (fun hb => (((hS66.get (i := 3) rfl).2.1 b hb).1))))) rfl rfl ?_
          refine WH.many (is := [1, 7]) (by kernel_rfl) rfl ?_
          refine List.forall_mem_cons.2 ⟨⟨_, rfl, ?_⟩, List.forall_mem_cons.2 ⟨⟨_, rfl, ?_⟩, fun _ h => by cases h⟩⟩
          ·
            refine wl_load_blk (i := 3) (vs := [v44]) (v := v44) tf_29 rfl rfl hS66 rfl rfl rfl ?_
            refine WL.nil (WH.ret hSW67 ?_)
            refine WH.one (i := 7) (by kernel_rfl) rfl ?_
            obtain ⟨u73, hu73, hF⟩ := bindE hF
            refine wl_call rfl Try.call95 (C_spec_chOwn w63 u68 v71 (hv72.ro hB65) _ hu73) rfl ?_
            rintro _ w76 ⟨v74, F75, rfl, hb77, hM80⟩
            refine ⟨_, rfl, ?_⟩
            have hB78 := hB65.trans (hb77.mono hB65.size)
            have hn81 : ∀ b ∈ F75, w63.heap.size ≤ b := fun b hb => Nat.le_trans hSW67.size ((hM80.get (i := 0) rfl).2.1 b hb).1
            have hS79 := hS66.join hb77 hM80 hB65.size
            have hSW82 := hSW67.ext hb77
            have hbS83 : Below w63.heap.size w63 w76 := hb77
            refine WL.nil (WH.ret hSW82 ?_)
            refine WH.one (i := 8) (by kernel_rfl) rfl ?_
            have hq84 := hS79.sel [0, 1, 2, 3, 4] rfl
            have hq85 := hq84.head (r' := R.cel ty_69 F75 [v74] u73) (rfl) fun _ h0 => ⟨_, rfl, h0⟩
            refine wl_lit1 (e := ty_69) (vs := [v74]) Try.underlying29 rfl rfl (cells_one (hS79.own_ro (i := 0) rfl).one) rfl hB78 hq85 ?_
            intro v86 F87 w88 hb89 hf90 hB91 hS92
            have hn93 : ∀ b ∈ F87, w63.heap.size ≤ b := fun b hb => (hf90 b hb).elim (hn81 b) fun h => Nat.le_trans hSW82.size h
            have hSW94 := hSW82.ext hb89
            have hbS95 : Below w63.heap.size w63 w88 := hbS83.trans (hb89.mono hbS83.size)
            refine WL.nil (WH.ret hSW94 ?_)
            refine WH.one (i := 9) (by kernel_rfl) rfl ?_
            obtain ⟨u96, hu96, hF⟩ := bindE hF
            refine wl_appendn (e := ty_69) Try.underlying29 rfl rfl rfl hB91 (hS92.sel [3, 0, 1, 2, 4] rfl) hu96 ?_
            intro v97 F98 w99 hk100 hB101 hS102
            have hSW103 := hSW94.wr' hk100.1 hk100.2.1 (fun _ _ h => List.mem_append_left _ (h))
            refine WL.nil (WH.ret hSW103 ?_)
            refine WH.takex (i := 10) rfl (by kernel_rfl) (by kernel_rfl) (by kernel_rfl) hP hSW103 ?_
            refine pr_field (o := 0) (off' := 0) ff_31_0 rfl rfl rfl ?_
            refine WH.one (i := 11) (by kernel_rfl) rfl ?_
            refine wl_store_blk (i := 3) (vs := [v97]) (cs' := [v97, (.slice none 0 0), (.int .i64 x0.2.2.1), (.int .i64 x0.2.2.2)]) tf_29 rfl rfl (cells_one (hS102.own_ro (i := 0) rfl).one) rfl hB101 hS102 rfl rfl ⟨(hS102.own_ro (i := 0) rfl).one, trivial⟩ rfl ?_
            intro w104 hk107 hB105 hS106
            have hSW108 := hSW103.wr' hk107.1 hk107.2.1 (fun _ _ h => List.mem_append_right _ h)
            refine WL.nil (WH.ret hSW108 ?_)
            refine WH.done (by kernel_rfl) ?_
            exact fun a ha => hJ62 (u96) (v97) (F98) _ hF hB105 (hS106.sel [1, 2, 0, 3] rfl) a (ha.sub ⟨rfl, rfl, rfl, rfl, trivial⟩)
          ·
            obtain ⟨u109, hu109, hF⟩ := bindE hF
            refine wl_call rfl Try.call95 (C_spec_chOwn w63 u68 v71 (hv72.ro hB65) _ hu109) rfl ?_
            rintro _ w112 ⟨v110, F111, rfl, hb113, hM116⟩
            refine ⟨_, rfl, ?_⟩
            have hB114 := hB65.trans (hb113.mono hB65.size)
            have hn117 : ∀ b ∈ F111, w63.heap.size ≤ b := fun b hb => Nat.le_trans hSW67.size ((hM116.get (i := 0) rfl).2.1 b hb).1
            have hS115 := hS66.join hb113 hM116 hB65.size
            have hSW118 := hSW67.ext hb113
            have hbS119 : Below w63.heap.size w63 w112 := hb113
            refine WL.nil (WH.ret hSW118 ?_)
            refine WH.many (is := [1, 8]) (by kernel_rfl) rfl ?_
            refine List.forall_mem_cons.2 ⟨⟨_, rfl, ?_⟩, List.forall_mem_cons.2 ⟨⟨_, rfl, ?_⟩, fun _ h => by cases h⟩⟩
            ·
              refine wl_load_blk (i := 4) (vs := [v44]) (v := v44) tf_29 rfl rfl hS115 rfl rfl rfl ?_
              refine WL.nil (WH.ret hSW118 ?_)
              refine WH.one (i := 8) (by kernel_rfl) rfl ?_
              have hq120 := hS115.sel [0, 1, 2, 3, 4] rfl
              have hq121 := hq120.head (r' := R.cel ty_69 F111 [v110] u109) (rfl) fun _ h0 => ⟨_, rfl, h0⟩
              refine wl_lit1 (e := ty_69) (vs := [v110]) Try.underlying29 rfl rfl (cells_one (hS115.own_ro (i := 0) rfl).one) rfl hB114 hq121 ?_
              intro v122 F123 w124 hb125 hf126 hB127 hS128
              have hn129 : ∀ b ∈ F123, w63.heap.size ≤ b := fun b hb => (hf126 b hb).elim (hn117 b) fun h => Nat.le_trans hSW118.size h
              have hSW130 := hSW118.ext hb125
              have hbS131 : Below w63.heap.size w63 w124 := hbS119.trans (hb125.mono hbS119.size)
              refine WL.nil (WH.ret hSW130 ?_)
              refine WH.one (i := 9) (by kernel_rfl) rfl ?_
              obtain ⟨u132, hu132, hF⟩ := bindE hF
              refine wl_appendn (e := ty_69) Try.underlying29 rfl rfl rfl hB127 (hS128.sel [3, 0, 1, 2, 4] rfl) hu132 ?_
              intro v133 F134 w135 hk136 hB137 hS138
              have hSW139 := hSW130.wr' hk136.1 hk136.2.1 (fun _ _ h => List.mem_append_left _ (h))
              refine WL.nil (WH.ret hSW139 ?_)
              refine WH.takex (i := 10) rfl (by kernel_rfl) (by kernel_rfl) (by kernel_rfl) hP hSW139 ?_
              refine pr_field (o := 0) (off' := 0) ff_31_0 rfl rfl rfl ?_
              refine WH.one (i := 11) (by kernel_rfl) rfl ?_
              refine wl_store_blk (i := 3) (vs := [v133]) (cs' := [v133, (.slice none 0 0), (.int .i64 x0.2.2.1), (.int .i64 x0.2.2.2)]) tf_29 rfl rfl (cells_one (hS138.own_ro (i := 0) rfl).one) rfl hB137 hS138 rfl rfl ⟨(hS138.own_ro (i := 0) rfl).one, trivial⟩ rfl ?_
              intro w140 hk143 hB141 hS142
              have hSW144 := hSW139.wr' hk143.1 hk143.2.1 (fun _ _ h => List.mem_append_right _ h)
              refine WL.nil (WH.ret hSW144 ?_)
              refine WH.done (by kernel_rfl) ?_
              exact fun a ha => hJ62 (u132) (v133) (F134) _ hF hB141 (hS142.sel [1, 2, 0, 3] rfl) a (ha.sub ⟨rfl, rfl, rfl, rfl, trivial⟩)
            ·
              have hq145 := hS115.sel [0, 1, 2, 3, 4] rfl
              have hq146 := hq145.head (r' := R.cel ty_69 F111 [v110] u109) (rfl) fun _ h0 => ⟨_, rfl, h0⟩
              refine wl_lit1 (e := ty_69) (vs := [v110]) Try.underlying29 rfl rfl (cells_one (hS115.own_ro (i := 0) rfl).one) rfl hB114 hq146 ?_
              intro v147 F148 w149 hb150 hf151 hB152 hS153
              have hn154 : ∀ b ∈ F148, w63.heap.size ≤ b := fun b hb => (hf151 b hb).elim (hn117 b) fun h => Nat.le_trans hSW118.size h
              have hSW155 := hSW118.ext hb150
              have hbS156 : Below w63.heap.size w63 w149 := hbS119.trans (hb150.mono hbS119.size)
              refine WL.nil (WH.ret hSW155 ?_)
              refine WH.one (i := 1) (by kernel_rfl) rfl ?_
              refine wl_load_blk (i := 4) (vs := [v44]) (v := v44) tf_29 rfl rfl hS153 rfl rfl rfl ?_
              refine WL.nil (WH.ret hSW155 ?_)
              refine WH.one (i := 9) (by kernel_rfl) rfl ?_
              obtain ⟨u157, hu157, hF⟩ := bindE hF
              refine wl_appendn (e := ty_69) Try.underlying29 rfl rfl rfl hB152 (hS153.sel [3, 0, 1, 2, 4] rfl) hu157 ?_
              intro v158 F159 w160 hk161 hB162 hS163
              have hSW164 := hSW155.wr' hk161.1 hk161.2.1 (fun _ _ h => List.mem_append_left _ (h))
              refine WL.nil (WH.ret hSW164 ?_)
              refine WH.takex (i := 10) rfl (by kernel_rfl) (by kernel_rfl) (by kernel_rfl) hP hSW164 ?_
              refine pr_field (o := 0) (off' := 0) ff_31_0 rfl rfl rfl ?_
              refine WH.one (i := 11) (by kernel_rfl) rfl ?_
              refine wl_store_blk (i := 3) (vs := [v158]) (cs' := [v158, (.slice none 0 0), (.int .i64 x0.2.2.1), (.int .i64 x0.2.2.2)]) tf_29 rfl rfl (cells_one (hS163.own_ro (i := 0) rfl).one) rfl hB162 hS163 rfl rfl ⟨(hS163.own_ro (i := 0) rfl).one, trivial⟩ rfl ?_
              intro w165 hk168 hB166 hS167
              have hSW169 := hSW164.wr' hk168.1 hk168.2.1 (fun _ _ h => List.mem_append_right _ h)
              refine WL.nil (WH.ret hSW169 ?_)
              refine WH.done (by kernel_rfl) ?_
              exact fun a ha => hJ62 (u157) (v158) (F159) _ hF hB166 (hS167.sel [1, 2, 0, 3] rfl) a (ha.sub ⟨rfl, rfl, rfl, rfl, trivial⟩)
        · replace hF := ifN h53 hF
          refine W.exit ?_
          refine fun a ha => hK38 _ _ ?_ a ha
          refine W.seq fun K170 hK170 => ?_
          refine W.seq fun K171 hK171 => ?_
          refine W.region ?_
          refine wl_field (o := 1) (off' := 1) ff_31_1 rfl rfl rfl ?_
          refine wl_load_blk (i := 0) (vs := [v0_1]) (v := v0_1) tf_23 rfl rfl hS42 rfl rfl rfl ?_
          refine wl_lenr (e := ty_3) (l := x0.2.1) Try.underlying23 rfl rfl h0_1 ?_
          refine wl_sub rfl rfl rfl ?_
          refine wl_assign rfl rfl ?_
          refine WL.nil ?_
          refine fun a ha => hK171 _ _ ?_ a ha
          refine W.block ?_
          refine W.loopk (fun m a w172 => ∃ (l175 : (List Int)) (y178 : Int) (v176 : Value) (F177 : List Nat), St 54 [(1, (.pointer (some ⟨b2, 0, none⟩))), (2, (.pointer (some ⟨b7, 0, none⟩))), (4, (.pointer (some ⟨b29, 0, none⟩))), (6, (.int .i64 y178))] a ∧ Below w0.heap.size w0 w172 ∧ Sep w0.heap.size w172 [R.blk b2 31 [v0_0, v0_1, (.int .i64 x0.2.2.1), (.int .i64 x0.2.2.2)], R.blk b7 31 [(.slice none 0 0), (.slice none 0 0), (.int .i64 0), (.int .i64 0)], R.own ty_69 F45 v44 l43, R.own ty_3 F177 v176 l175, R.blk b29 31 [v44, v176, (.int .i64 x0.2.2.1), (.int .i64 x0.2.2.2)]] ∧ F_spec_ReverseShow_L2 x0 l43 m l175 y178 = some r) FU ?_ ?_
          ·
            have hS180 := hS42.push0 (r := R.own ty_3 [] (.slice none 0 0) []) rfl fun _ => .inl ⟨rfl, rfl, rfl⟩
            exact fun a ha => ⟨[], (w64 ((List.length x0.2.1 : Int) - 1)), (.slice none 0 0), [], ha.sub ⟨rfl, rfl, rfl, rfl, trivial⟩, hB41, (hS180.sel [1, 2, 3, 0, 4] rfl), hF⟩
          ·
            rintro m182 a w172 ⟨l175, y178, v176, F177, ha, hB173, hS174, hF⟩ KL181 hKL181
            refine W.at ?_ ha
            cases m182 with
            | zero => exact noneE hF
            | succ m182 =>
              obtain ⟨nx179, hnx179⟩ : ∃ k, k = F_spec_ReverseShow_L2 x0 l43 m182 := ⟨_, rfl⟩
              rw [F_spec_ReverseShow_L2, ← hnx179] at hF
              refine W.seq fun K183 hK183 => ?_
              refine W.seq fun K184 hK184 => ?_
              refine W.region ?_
              refine wl_move rfl rfl ?_
              refine wl_geq rfl rfl rfl ?_
              refine WL.nil ?_
              refine fun a ha => hK184 _ _ ?_ a ha
              refine W.cond rfl (fun h185 => ?_) (fun h185 => ?_)
              · replace hF := ifP h185 hF
                refine W.skip ?_
                refine fun a ha => hK183 _ _ ?_ a ha
                refine W.seq fun K186 hK186 => ?_
                obtain ⟨k193, hk193, hF⟩ := jE1 hF
                have hJ194 : ∀ (l190 : (List Int)) (v191 : Value) (F192 : List Nat) (w187 : World) (_ : k193 l190 = some r) (_ : Below w0.heap.size w0 w187) (_ : Sep w0.heap.size w187 [R.blk b2 31 [v0_0, v0_1, (.int .i64 x0.2.2.1), (.int .i64 x0.2.2.2)], R.blk b7 31 [(.slice none 0 0), (.slice none 0 0), (.int .i64 0), (.int .i64 0)], R.own ty_69 F45 v44 l43, R.own ty_3 F192 v191 l190, R.blk b29 31 [v44, v191, (.int .i64 x0.2.2.1), (.int .i64 x0.2.2.2)]]), ∀ a, St 54 [(1, (.pointer (some ⟨b2, 0, none⟩))), (2, (.pointer (some ⟨b7, 0, none⟩))), (4, (.pointer (some ⟨b29, 0, none⟩))), (6, (.int .i64 y178))] a → K186 a w187 := by
                  intro l190 v191 F192 w187 hF hB188 hS189
                  subst hk193
                  refine fun a ha => hK186 _ _ ?_ a ha
                  refine W.region ?_
                  refine wl_move rfl rfl ?_
                  refine wl_sub rfl rfl rfl ?_
                  refine wl_assign rfl rfl ?_
                  refine WL.nil ?_
                  rw [hnx179] at hF
                  exact fun a ha => hKL181 a _ m182 (Nat.lt_succ_self m182) ⟨l190, (w64 (y178 - 1)), v191, F192, ha.sub ⟨rfl, rfl, rfl, rfl, trivial⟩, hB188, (hS189.sel [0, 1, 2, 3, 4] rfl), hF⟩
                refine W.block ?_
                refine W.regionH mixed_ (F177 ++ [b29]) hB173 hS174 ?_
                intro w195 hb196 hB197 hS198
                have hSW199 := KeepX.refl w195 (F177 ++ [b29])
                refine WH.takex (i := 0) rfl (by kernel_rfl) (by kernel_rfl) (by kernel_rfl) hP hSW199 ?_
                refine pr_field (o := 1) (off' := 1) ff_31_1 rfl rfl rfl ?_
                refine WH.takex (i := 2) rfl (by kernel_rfl) (by kernel_rfl) (by kernel_rfl) hP hSW199 ?_
                refine pr_field (o := 1) (off' := 1) ff_31_1 rfl rfl rfl ?_
                refine WH.takex (i := 3) rfl (by kernel_rfl) (by kernel_rfl) (by kernel_rfl) hP hSW199 ?_
                refine pr_load_blk (i := 0) (vs := [v0_1]) (v := v0_1) tf_23 rfl rfl hS198 rfl rfl rfl (fun hb => (List.mem_append.1 hb).elim (hS198.disj (i := 0) (j := 3) rfl rfl rfl b2 (by simp [R.blk])) (hS198.disj (i := 0) (j := 4) rfl rfl rfl b2 (by simp [R.blk]))) ?_
                refine WH.takex (i := 4) rfl (by kernel_rfl) (by kernel_rfl) (by kernel_rfl) hP hSW199 ?_
                refine pr_move rfl rfl ?_
                obtain ⟨u200, hu200, hF⟩ := bindE hF
                refine WH.takex (i := 5) rfl (by kernel_rfl) (by kernel_rfl) (by kernel_rfl) hP hSW199 ?_
                refine pr_index (e := ty_3) Try.underlying23 rfl rfl rfl h0_1 hu200 ?_
                rintro p201 _ rfl hp202
                refine WH.takex (i := 6) rfl (by kernel_rfl) (by kernel_rfl) (by kernel_rfl) hP hSW199 ?_
                refine pr_load_p (vs := [(.int .i64 u200)]) (v := (.int .i64 u200)) tf_3 rfl rfl (hp202.kx hB197 (fun b hb => ((List.mem_append.1 hb).elim (fun hb => (((hS198.get (i := 3) rfl).2.1 b hb).1)) (fun hb => (((hS198.get (i := 4) rfl).2.1 b hb).1))))) rfl rfl ?_
                refine WH.many (is := [1, 7]) (by kernel_rfl) rfl ?_
                refine List.forall_mem_cons.2 ⟨⟨_, rfl, ?_⟩, List.forall_mem_cons.2 ⟨⟨_, rfl, ?_⟩, fun _ h => by cases h⟩⟩
                ·
                  refine wl_load_blk (i := 4) (vs := [v176]) (v := v176) tf_23 rfl rfl hS198 rfl rfl rfl ?_
                  refine WL.nil (WH.ret hSW199 ?_)
                  refine WH.one (i := 7) (by kernel_rfl) rfl ?_
                  refine wl_lit (vs := [(.int .i64 u200)]) (l := [u200]) fl_3 Try.underlying23 rfl rfl rfl rfl rfl rfl (Below.self w195) (Sep.nil _ _) ?_
                  intro v203 F204 w205 hb206 hB209 hM210
                  have hB207 := hB197.trans (hb206.mono hB197.size)
                  have hS208 := hS198.join hb206 hM210 hB197.size
                  have hn211 : ∀ b ∈ F204, w195.heap.size ≤ b := fun b hb => Nat.le_trans hSW199.size ((hM210.1 _ (List.mem_cons_self ..)).2.1 b hb).1
                  have hSW212 := hSW199.ext hb206
                  have hbS213 : Below w195.heap.size w195 w205 := hb206
                  refine WL.nil (WH.ret hSW212 ?_)
                  refine WH.one (i := 8) (by kernel_rfl) rfl ?_
                  obtain ⟨u214, hu214, hF⟩ := bindE hF
                  refine wl_append (i := 4) (S := (· < w205.heap.size)) fl_3 Try.underlying23 rfl rfl rfl hB207 hS208 rfl (hS208.own_ro (i := 0) rfl) hu214 ?_
                  intro v215 F216 w217 hk218 hB219 hS220
                  have hSW221 := hSW212.wr' hk218.1 hk218.2.1 (fun _ _ h => List.mem_append_left _ (h))
                  refine WL.nil (WH.ret hSW221 ?_)
                  refine WH.takex (i := 9) rfl (by kernel_rfl) (by kernel_rfl) (by kernel_rfl) hP hSW221 ?_
                  refine pr_field (o := 1) (off' := 1) ff_31_1 rfl rfl rfl ?_
                  refine WH.one (i := 10) (by kernel_rfl) rfl ?_
                  refine wl_store_blk (i := 5) (vs := [v215]) (cs' := [v44, v215, (.int .i64 x0.2.2.1), (.int .i64 x0.2.2.2)]) tf_23 rfl rfl (cells_one (hS220.own_ro (i := 4) rfl).one) rfl hB219 hS220 rfl rfl ⟨(hS220.own_ro (i := 4) rfl).one, trivial⟩ rfl ?_
                  intro w222 hk225 hB223 hS224
                  have hSW226 := hSW221.wr' hk225.1 hk225.2.1 (fun _ _ h => List.mem_append_right _ h)
                  refine WL.nil (WH.ret hSW226 ?_)
                  refine WH.done (by kernel_rfl) ?_
                  exact fun a ha => hJ194 (u214) (v215) (F216) _ hF hB223 (hS224.sel [1, 2, 3, 4, 5] rfl) a (ha.sub ⟨rfl, rfl, rfl, rfl, trivial⟩)
                ·
                  refine wl_lit (vs := [(.int .i64 u200)]) (l := [u200]) fl_3 Try.underlying23 rfl rfl rfl rfl rfl rfl (Below.self w195) (Sep.nil _ _) ?_
                  intro v227 F228 w229 hb230 hB233 hM234
                  have hB231 := hB197.trans (hb230.mono hB197.size)
                  have hS232 := hS198.join hb230 hM234 hB197.size
                  have hn235 : ∀ b ∈ F228, w195.heap.size ≤ b := fun b hb => Nat.le_trans hSW199.size ((hM234.1 _ (List.mem_cons_self ..)).2.1 b hb).1
                  have hSW236 := hSW199.ext hb230
                  have hbS237 : Below w195.heap.size w195 w229 := hb230
                  refine WL.nil (WH.ret hSW236 ?_)
                  refine WH.one (i := 1) (by kernel_rfl) rfl ?_
                  refine wl_load_blk (i := 5) (vs := [v176]) (v := v176) tf_23 rfl rfl hS232 rfl rfl rfl ?_
                  refine WL.nil (WH.ret hSW236 ?_)
                  refine WH.one (i := 8) (by kernel_rfl) rfl ?_
                  obtain ⟨u238, hu238, hF⟩ := bindE hF
                  refine wl_append (i := 4) (S := (· < w229.heap.size)) fl_3 Try.underlying23 rfl rfl rfl hB231 hS232 rfl (hS232.own_ro (i := 0) rfl) hu238 ?_
                  intro v239 F240 w241 hk242 hB243 hS244
                  have hSW245 := hSW236.wr' hk242.1 hk242.2.1 (fun _ _ h => List.mem_append_left _ (h))
                  refine WL.nil (WH.ret hSW245 ?_)
                  refine WH.takex (i := 9) rfl (by kernel_rfl) (by kernel_rfl) (by kernel_rfl) hP hSW245 ?_
                  refine pr_field (o := 1) (off' := 1) ff_31_1 rfl rfl rfl ?_
                  refine WH.one (i := 10) (by kernel_rfl) rfl ?_
                  refine wl_store_blk (i := 5) (vs := [v239]) (cs' := [v44, v239, (.int .i64 x0.2.2.1), (.int .i64 x0.2.2.2)]) tf_23 rfl rfl (cells_one (hS244.own_ro (i := 4) rfl).one) rfl hB243 hS244 rfl rfl ⟨(hS244.own_ro (i := 4) rfl).one, trivial⟩ rfl ?_
                  intro w246 hk249 hB247 hS248
                  have hSW250 := hSW245.wr' hk249.1 hk249.2.1 (fun _ _ h => List.mem_append_right _ h)
                  refine WL.nil (WH.ret hSW250 ?_)
                  refine WH.done (by kernel_rfl) ?_
                  exact fun a ha => hJ194 (u238) (v239) (F240) _ hF hB247 (hS248.sel [1, 2, 3, 4, 5] rfl) a (ha.sub ⟨rfl, rfl, rfl, rfl, trivial⟩)
              · replace hF := ifN h185 hF
                refine W.exit ?_
                refine fun a ha => hK170 _ _ ?_ a ha
                refine W.seq fun K251 hK251 => ?_
                refine W.region ?_
                refine wl_load_blk (i := 4) (vs := [v44, v176, (.int .i64 x0.2.2.1), (.int .i64 x0.2.2.2)]) (v := (.agg #[v44, v176, (.int .i64 x0.2.2.1), (.int .i64 x0.2.2.2)])) tf_31 rfl rfl hS174 rfl rfl rfl ?_
                refine wl_store_blk (i := 1) (vs := [v44, v176, (.int .i64 x0.2.2.1), (.int .i64 x0.2.2.2)]) (cs' := [v44, v176, (.int .i64 x0.2.2.1), (.int .i64 x0.2.2.2)]) tf_31 rfl rfl rfl rfl hB173 hS174 rfl rfl ⟨(hS174.own_ro (i := 2) rfl).one, (hS174.own_ro (i := 3) rfl).one, rfl, rfl, trivial⟩ rfl ?_
                intro w252 hk255 hB253 hS254
                refine wl_assign rfl rfl ?_
                refine WL.nil ?_
                refine fun a ha => hK251 _ _ ?_ a ha
                refine W.ret ?_
                have hr := Option.some.inj hF
                subst hr
                exact rets (vs := [(.agg #[v44, v176, (.int .i64 x0.2.2.1), (.int .i64 x0.2.2.2)]), (.bool true)]) hQ rfl ⟨rv_cell (i := 1) tf_31 rfl hS254 rfl rfl rfl, rv_tmp rfl, trivial⟩ ⟨v44, F45, v176, F177, rfl, hB253, hS254.sel [2, 3] rfl⟩
theorem C_impl_copyInts (w0 : World) (x0 : (List Int)) (v0_0 : Value) (h0_0 : rdS ty_3 (· < w0.heap.size) w0 v0_0 x0) (r : (List Int)) (hF : F_impl_copyInts x0 = some r) :
    Calls Try.prog 137 [v0_0].toArray w0 fun e w' => ∃ (q0 : Value) (G0 : List Nat), e = .returned q0 ∧ Below w0.heap.size w0 w' ∧ Sep w0.heap.size w' [R.own ty_3 G0 q0 r] := by
  refine calls_mk' Try.func137 rfl Try.ntmps137 rfl rfl fun Q hQ hP => ?_
  have hB : Below w0.heap.size w0 w0 := Below.refl _ _
  have hS : Sep w0.heap.size w0 [] := Sep.nil _ _
  unfold F_impl_copyInts at hF
  refine W.seq fun K1 hK1 => ?_
  refine W.region ?_
  refine wl_assign rfl rfl ?_
  refine WL.nil ?_
  refine fun a ha => hK1 _ _ ?_ a ha
  refine W.seq fun K2 hK2 => ?_
  refine W.region ?_
  refine wl_lit (vs := []) (l := []) fl_3 Try.underlying23 rfl rfl rfl rfl rfl rfl hB hS ?_
  intro v3 F4 w5 hb6 hB7 hS8
  refine wl_move rfl rfl ?_
  obtain ⟨u9, hu9, hF⟩ := bindE hF
  refine wl_append (i := 0) (S := (· < w5.heap.size)) fl_3 Try.underlying23 rfl rfl rfl hB7 hS8 rfl (h0_0.ro hB7) hu9 ?_
  intro v10 F11 w12 hk13 hB14 hS15
  refine wl_assign rfl rfl ?_
  refine WL.nil ?_
  refine fun a ha => hK2 _ _ ?_ a ha
  refine W.ret ?_
  have hr := Option.some.inj hF
  subst hr
  exact rets (vs := [v10]) hQ rfl ⟨rv_tmp rfl, trivial⟩ ⟨v10, F11, rfl, hB14, hS15.sel [0] rfl⟩
end Go.Proofs.Ytadklddedeoniaa
