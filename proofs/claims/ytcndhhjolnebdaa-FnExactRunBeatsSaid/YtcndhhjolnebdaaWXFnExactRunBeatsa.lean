/-
  THE WALKS of functions of this seat, by program (gen.py, prune.py).
-/
import Derived.Test.YtcndhhjolnebdaaH
set_option linter.unusedSimpArgs false
set_option linter.unusedVariables false
set_option maxRecDepth 100000
namespace Go.Proofs.Ytcndhhjolnebdaa
open Go Go.RowKit
theorem C_laws_szSpotS (w0 : World) (x0 : (List (Int × Int))) (v0_0 : Value) (h0_0 : rdS ty_136 (· < w0.heap.size) w0 v0_0 x0) (x1 : Int) (r : Int) (hF : F_laws_szSpotS x0 x1 = some r) :
    Calls Try.prog 90 [v0_0, (.int .i64 x1)].toArray w0 fun e w' => e = .returned (.int .i64 r) ∧ Below w0.heap.size w0 w' := by
  refine calls_mk' Try.func90 rfl Try.ntmps90 rfl rfl fun Q hQ hP => ?_
  have hB : Below w0.heap.size w0 w0 := Below.refl _ _
  have hS : Sep w0.heap.size w0 [] := Sep.nil _ _
  unfold F_laws_szSpotS at hF
  refine W.seq fun K1 hK1 => ?_
  refine W.region ?_
  refine wl_assign rfl rfl ?_
  refine WL.nil ?_
  refine fun a ha => hK1 _ _ ?_ a ha
  refine W.seq fun K2 hK2 => ?_
  refine W.region ?_
  refine wl_move rfl rfl ?_
  refine wl_move rfl rfl ?_
  refine wl_lenr (e := ty_136) (l := x0) Try.underlying104 rfl rfl h0_0 ?_
  refine wl_sub rfl rfl rfl ?_
  refine wl_assign rfl rfl ?_
  refine WL.nil ?_
  refine fun a ha => hK2 _ _ ?_ a ha
  refine W.seq fun K3 hK3 => ?_
  refine W.seq fun K4 hK4 => ?_
  refine W.region ?_
  refine wl_move rfl rfl ?_
  refine wl_lss rfl rfl rfl ?_
  refine WL.nil ?_
  refine fun a ha => hK4 _ _ ?_ a ha
  refine W.cond rfl (fun h5 => ?_) (fun h5 => ?_)
  · replace hF := ifP h5 hF
    refine W.seq fun K6 hK6 => ?_
    refine W.region ?_
    refine wl_assign rfl rfl ?_
    refine WL.nil ?_
    refine fun a ha => hK6 _ _ ?_ a ha
    refine W.ret ?_
    have hr := Option.some.inj hF
    subst hr
    exact rets (vs := [(.int .i64 (-1))]) hQ rfl ⟨rv_tmp rfl, trivial⟩ ⟨rfl, hB⟩
  · replace hF := ifN h5 hF
    refine W.skip ?_
    refine fun a ha => hK3 _ _ ?_ a ha
    refine W.seq fun K7 hK7 => ?_
    refine W.region ?_
    refine wl_move rfl rfl ?_
    refine wl_assign rfl rfl ?_
    refine WL.nil ?_
    refine fun a ha => hK7 _ _ ?_ a ha
    refine W.ret ?_
    have hr := Option.some.inj hF
    subst hr
    exact rets (vs := [(.int .i64 (w64 (x1 - (List.length x0 : Int))))]) hQ rfl ⟨rv_tmp rfl, trivial⟩ ⟨rfl, hB⟩
theorem C_laws_szSpotSS (w0 : World) (x0 : (List (List (Int × Int)))) (v0_0 : Value) (h0_0 : rdS ty_104 (· < w0.heap.size) w0 v0_0 x0) (x1 : Int) (r : Int) (hF : F_laws_szSpotSS x0 x1 = some r) :
    Calls Try.prog 55 [v0_0, (.int .i64 x1)].toArray w0 fun e w' => e = .returned (.int .i64 r) ∧ Below w0.heap.size w0 w' := by
  refine calls_mk' Try.func55 rfl Try.ntmps55 rfl rfl fun Q hQ hP => ?_
  have hB : Below w0.heap.size w0 w0 := Below.refl _ _
  have hS : Sep w0.heap.size w0 [] := Sep.nil _ _
  unfold F_laws_szSpotSS at hF
  refine W.seq fun K1 hK1 => ?_
  refine W.region ?_
  refine wl_assign rfl rfl ?_
  refine WL.nil ?_
  refine fun a ha => hK1 _ _ ?_ a ha
  refine W.seq fun K2 hK2 => ?_
  refine W.region ?_
  refine wl_move rfl rfl ?_
  refine wl_move rfl rfl ?_
  refine wl_lenr (e := ty_104) (l := x0) Try.underlying34 rfl rfl h0_0 ?_
  refine wl_sub rfl rfl rfl ?_
  refine wl_assign rfl rfl ?_
  refine WL.nil ?_
  refine fun a ha => hK2 _ _ ?_ a ha
  refine W.seq fun K3 hK3 => ?_
  refine W.seq fun K4 hK4 => ?_
  refine W.region ?_
  refine wl_move rfl rfl ?_
  refine wl_lss rfl rfl rfl ?_
  refine WL.nil ?_
  refine fun a ha => hK4 _ _ ?_ a ha
  refine W.cond rfl (fun h5 => ?_) (fun h5 => ?_)
  · replace hF := ifP h5 hF
    refine W.seq fun K6 hK6 => ?_
    refine W.region ?_
    refine wl_assign rfl rfl ?_
    refine WL.nil ?_
    refine fun a ha => hK6 _ _ ?_ a ha
    refine W.ret ?_
    have hr := Option.some.inj hF
    subst hr
    exact rets (vs := [(.int .i64 (-1))]) hQ rfl ⟨rv_tmp rfl, trivial⟩ ⟨rfl, hB⟩
  · replace hF := ifN h5 hF
    refine W.skip ?_
    refine fun a ha => hK3 _ _ ?_ a ha
    refine W.seq fun K7 hK7 => ?_
    refine W.seq fun K8 hK8 => ?_
    refine W.region ?_
    refine wl_assign rfl rfl ?_
    refine WL.nil ?_
    refine fun a ha => hK8 _ _ ?_ a ha
    refine W.block ?_
    refine W.loopk (fun m a w9 => ∃ (y12 : Int) (y13 : Int), St 27 [(0, v0_0), (1, (.int .i64 y12)), (5, (.int .i64 y13))] a ∧ Below w0.heap.size w0 w9 ∧ Sep w0.heap.size w9 [] ∧ F_laws_szSpotSS_L1 x0 m y12 y13 = some r) FU ?_ ?_
    ·
      exact fun a ha => ⟨(w64 (x1 - (List.length x0 : Int))), 0, ha.sub ⟨rfl, rfl, rfl, trivial⟩, hB, (hS.sel [] rfl), hF⟩
    ·
      rintro m16 a w9 ⟨y12, y13, ha, hB10, hS11, hF⟩ KL15 hKL15
      refine W.at ?_ ha
      cases m16 with
      | zero => exact noneE hF
      | succ m16 =>
        obtain ⟨nx14, hnx14⟩ : ∃ k, k = F_laws_szSpotSS_L1 x0 m16 := ⟨_, rfl⟩
        rw [F_laws_szSpotSS_L1, ← hnx14] at hF
        refine W.seq fun K17 hK17 => ?_
        refine W.seq fun K18 hK18 => ?_
        refine W.region ?_
        refine wl_move rfl rfl ?_
        refine wl_move rfl rfl ?_
        refine wl_lenr (e := ty_104) (l := x0) Try.underlying34 rfl rfl h0_0 ?_
        refine wl_lss rfl rfl rfl ?_
        refine WL.nil ?_
        refine fun a ha => hK18 _ _ ?_ a ha
        refine W.cond rfl (fun h19 => ?_) (fun h19 => ?_)
        · replace hF := ifP h19 hF
          refine W.skip ?_
          refine fun a ha => hK17 _ _ ?_ a ha
          refine W.seq fun K20 hK20 => ?_
          refine W.block ?_
          refine W.seq fun K21 hK21 => ?_
          refine W.region ?_
          refine wl_move rfl rfl ?_
          refine wl_move rfl rfl ?_
          obtain ⟨u22, hu22, hF⟩ := bindE hF
          refine wl_index (e := ty_104) Try.underlying34 rfl rfl rfl h0_0 hu22 ?_
          rintro p23 _ ⟨v25, rfl, hv26⟩ hp24
          refine wl_load_p (vs := [v25]) (v := v25) tf_104 rfl rfl (hp24.ro hB10) rfl rfl ?_
          refine wl_move rfl rfl ?_
          obtain ⟨u27, hu27, hF⟩ := bindE hF
          refine wl_call rfl Try.call90 (C_laws_szSpotS w9 u22 v25 (hv26.ro hB10) y12 _ hu27) rfl ?_
          rintro _ w28 ⟨rfl, hb29⟩
          refine ⟨_, rfl, ?_⟩
          have hB30 := hB10.trans (hb29.mono hB10.size)
          have hS31 := hS11.below hb29
          refine wl_assign rfl rfl ?_
          refine WL.nil ?_
          refine fun a ha => hK21 _ _ ?_ a ha
          refine W.seq fun K33 hK33 => ?_
          refine W.region ?_
          refine wl_move rfl rfl ?_
          refine wl_lss rfl rfl rfl ?_
          refine WL.nil ?_
          refine fun a ha => hK33 _ _ ?_ a ha
          refine W.cond rfl (fun h34 => ?_) (fun h34 => ?_)
          · replace hF := ifP h34 hF
            refine W.seq fun K35 hK35 => ?_
            refine W.region ?_
            refine wl_assign rfl rfl ?_
            refine WL.nil ?_
            refine fun a ha => hK35 _ _ ?_ a ha
            refine W.ret ?_
            have hr := Option.some.inj hF
            subst hr
            exact rets (vs := [(.int .i64 (-1))]) hQ rfl ⟨rv_tmp rfl, trivial⟩ ⟨rfl, hB30⟩
          · replace hF := ifN h34 hF
            refine W.skip ?_
            refine fun a ha => hK20 _ _ ?_ a ha
            refine W.region ?_
            refine wl_move rfl rfl ?_
            refine wl_add rfl rfl rfl ?_
            refine wl_assign rfl rfl ?_
            refine WL.nil ?_
            rw [hnx14] at hF
            exact fun a ha => hKL15 a _ m16 (Nat.lt_succ_self m16) ⟨u27, (w64 (y13 + 1)), ha.sub ⟨rfl, rfl, rfl, trivial⟩, hB30, (hS31.sel [] rfl), hF⟩
        · replace hF := ifN h19 hF
          refine W.exit ?_
          refine fun a ha => hK7 _ _ ?_ a ha
          refine W.seq fun K36 hK36 => ?_
          refine W.region ?_
          refine wl_move rfl rfl ?_
          refine wl_assign rfl rfl ?_
          refine WL.nil ?_
          refine fun a ha => hK36 _ _ ?_ a ha
          refine W.ret ?_
          have hr := Option.some.inj hF
          subst hr
          exact rets (vs := [(.int .i64 y12)]) hQ rfl ⟨rv_tmp rfl, trivial⟩ ⟨rfl, hB10⟩
theorem C_laws_szIntS (w0 : World) (x0 : (List Int)) (v0_0 : Value) (h0_0 : rdS ty_3 (· < w0.heap.size) w0 v0_0 x0) (x1 : Int) (r : Int) (hF : F_laws_szIntS x0 x1 = some r) :
    Calls Try.prog 39 [v0_0, (.int .i64 x1)].toArray w0 fun e w' => e = .returned (.int .i64 r) ∧ Below w0.heap.size w0 w' := by
  refine calls_mk' Try.func39 rfl Try.ntmps39 rfl rfl fun Q hQ hP => ?_
  have hB : Below w0.heap.size w0 w0 := Below.refl _ _
  have hS : Sep w0.heap.size w0 [] := Sep.nil _ _
  unfold F_laws_szIntS at hF
  refine W.seq fun K1 hK1 => ?_
  refine W.region ?_
  refine wl_assign rfl rfl ?_
  refine WL.nil ?_
  refine fun a ha => hK1 _ _ ?_ a ha
  refine W.seq fun K2 hK2 => ?_
  refine W.region ?_
  refine wl_move rfl rfl ?_
  refine wl_move rfl rfl ?_
  refine wl_lenr (e := ty_3) (l := x0) Try.underlying24 rfl rfl h0_0 ?_
  refine wl_sub rfl rfl rfl ?_
  refine wl_assign rfl rfl ?_
  refine WL.nil ?_
  refine fun a ha => hK2 _ _ ?_ a ha
  refine W.seq fun K3 hK3 => ?_
  refine W.seq fun K4 hK4 => ?_
  refine W.region ?_
  refine wl_move rfl rfl ?_
  refine wl_lss rfl rfl rfl ?_
  refine WL.nil ?_
  refine fun a ha => hK4 _ _ ?_ a ha
  refine W.cond rfl (fun h5 => ?_) (fun h5 => ?_)
  · replace hF := ifP h5 hF
    refine W.seq fun K6 hK6 => ?_
    refine W.region ?_
    refine wl_assign rfl rfl ?_
    refine WL.nil ?_
    refine fun a ha => hK6 _ _ ?_ a ha
    refine W.ret ?_
    have hr := Option.some.inj hF
    subst hr
    exact rets (vs := [(.int .i64 (-1))]) hQ rfl ⟨rv_tmp rfl, trivial⟩ ⟨rfl, hB⟩
  · replace hF := ifN h5 hF
    refine W.skip ?_
    refine fun a ha => hK3 _ _ ?_ a ha
    refine W.seq fun K7 hK7 => ?_
    refine W.region ?_
    refine wl_move rfl rfl ?_
    refine wl_assign rfl rfl ?_
    refine WL.nil ?_
    refine fun a ha => hK7 _ _ ?_ a ha
    refine W.ret ?_
    have hr := Option.some.inj hF
    subst hr
    exact rets (vs := [(.int .i64 (w64 (x1 - (List.length x0 : Int))))]) hQ rfl ⟨rv_tmp rfl, trivial⟩ ⟨rfl, hB⟩
theorem C_laws_szShow (w0 : World) (x0 : ((List (List (Int × Int))) × (List Int) × Int × Int)) (v0_0 : Value) (h0_0 : rdS ty_104 (· < w0.heap.size) w0 v0_0 x0.1) (v0_1 : Value) (h0_1 : rdS ty_3 (· < w0.heap.size) w0 v0_1 x0.2.1) (x1 : Int) (r : Int) (hF : F_laws_szShow x0 x1 = some r) :
    Calls Try.prog 28 [(.agg #[v0_0, v0_1, (.int .i64 x0.2.2.1), (.int .i64 x0.2.2.2)]), (.int .i64 x1)].toArray w0 fun e w' => e = .returned (.int .i64 r) ∧ Below w0.heap.size w0 w' := by
  refine calls_mk' Try.func28 rfl Try.ntmps28 rfl rfl fun Q hQ hP => ?_
  have hB : Below w0.heap.size w0 w0 := Below.refl _ _
  have hS : Sep w0.heap.size w0 [] := Sep.nil _ _
  unfold F_laws_szShow at hF
  refine W.seq fun K1 hK1 => ?_
  refine W.region ?_
  refine wl_box (cs := [v0_0, v0_1, (.int .i64 x0.2.2.1), (.int .i64 x0.2.2.2)]) rfl rfl rfl hB hS ?_
  intro b2 w3 hb4 hB5 hS6
  refine wl_assign rfl rfl ?_
  refine WL.nil ?_
  refine fun a ha => hK1 _ _ ?_ a ha
  refine W.seq fun K7 hK7 => ?_
  refine W.region ?_
  refine wl_field (o := 0) (off' := 0) ff_36_0 rfl rfl rfl ?_
  refine wl_load_blk (i := 0) (vs := [v0_0]) (v := v0_0) tf_34 rfl rfl hS6 rfl rfl rfl ?_
  refine wl_move rfl rfl ?_
  obtain ⟨u8, hu8, hF⟩ := bindE hF
  refine wl_call rfl Try.call55 (C_laws_szSpotSS w3 x0.1 v0_0 (h0_0.ro hB5) x1 _ hu8) rfl ?_
  rintro _ w9 ⟨rfl, hb10⟩
  refine ⟨_, rfl, ?_⟩
  have hB11 := hB5.trans (hb10.mono hB5.size)
  have hS12 := hS6.below hb10
  refine wl_assign rfl rfl ?_
  refine WL.nil ?_
  refine fun a ha => hK7 _ _ ?_ a ha
  refine W.seq fun K14 hK14 => ?_
  refine W.seq fun K15 hK15 => ?_
  refine W.region ?_
  refine wl_move rfl rfl ?_
  refine wl_lss rfl rfl rfl ?_
  refine WL.nil ?_
  refine fun a ha => hK15 _ _ ?_ a ha
  refine W.cond rfl (fun h16 => ?_) (fun h16 => ?_)
  · replace hF := ifP h16 hF
    refine W.seq fun K17 hK17 => ?_
    refine W.region ?_
    refine wl_assign rfl rfl ?_
    refine WL.nil ?_
    refine fun a ha => hK17 _ _ ?_ a ha
    refine W.ret ?_
    have hr := Option.some.inj hF
    subst hr
    exact rets (vs := [(.int .i64 (-1))]) hQ rfl ⟨rv_tmp rfl, trivial⟩ ⟨rfl, hB11⟩
  · replace hF := ifN h16 hF
    refine W.skip ?_
    refine fun a ha => hK14 _ _ ?_ a ha
    refine W.seq fun K18 hK18 => ?_
    refine W.region ?_
    refine wl_field (o := 1) (off' := 1) ff_36_1 rfl rfl rfl ?_
    refine wl_load_blk (i := 0) (vs := [v0_1]) (v := v0_1) tf_24 rfl rfl hS12 rfl rfl rfl ?_
    refine wl_move rfl rfl ?_
    obtain ⟨u19, hu19, hF⟩ := bindE hF
    refine wl_call rfl Try.call39 (C_laws_szIntS w9 x0.2.1 v0_1 (h0_1.ro hB11) u8 _ hu19) rfl ?_
    rintro _ w20 ⟨rfl, hb21⟩
    refine ⟨_, rfl, ?_⟩
    have hB22 := hB11.trans (hb21.mono hB11.size)
    have hS23 := hS12.below hb21
    refine wl_assign rfl rfl ?_
    refine WL.nil ?_
    refine fun a ha => hK18 _ _ ?_ a ha
    refine W.seq fun K25 hK25 => ?_
    refine W.seq fun K26 hK26 => ?_
    refine W.region ?_
    refine wl_move rfl rfl ?_
    refine wl_lss rfl rfl rfl ?_
    refine WL.nil ?_
    refine fun a ha => hK26 _ _ ?_ a ha
    refine W.cond rfl (fun h27 => ?_) (fun h27 => ?_)
    · replace hF := ifP h27 hF
      refine W.seq fun K28 hK28 => ?_
      refine W.region ?_
      refine wl_assign rfl rfl ?_
      refine WL.nil ?_
      refine fun a ha => hK28 _ _ ?_ a ha
      refine W.ret ?_
      have hr := Option.some.inj hF
      subst hr
      exact rets (vs := [(.int .i64 (-1))]) hQ rfl ⟨rv_tmp rfl, trivial⟩ ⟨rfl, hB22⟩
    · replace hF := ifN h27 hF
      refine W.skip ?_
      refine fun a ha => hK25 _ _ ?_ a ha
      refine W.seq fun K29 hK29 => ?_
      refine W.region ?_
      refine wl_move rfl rfl ?_
      refine wl_assign rfl rfl ?_
      refine WL.nil ?_
      refine fun a ha => hK29 _ _ ?_ a ha
      refine W.ret ?_
      have hr := Option.some.inj hF
      subst hr
      exact rets (vs := [(.int .i64 u19)]) hQ rfl ⟨rv_tmp rfl, trivial⟩ ⟨rfl, hB22⟩
theorem C_laws_toSpot (w0 : World) (x0 : (Int × Int)) (r : (Int × Int)) (hF : F_laws_toSpot x0 = some r) :
    Calls Try.prog 121 [(.agg #[(.int .i64 x0.1), (.int .i64 x0.2)])].toArray w0 fun e w' => e = .returned (.agg #[(.int .i64 r.1), (.int .i64 r.2)]) ∧ Below w0.heap.size w0 w' := by
  refine calls_mk' Try.func121 rfl Try.ntmps121 rfl rfl fun Q hQ hP => ?_
  have hB : Below w0.heap.size w0 w0 := Below.refl _ _
  have hS : Sep w0.heap.size w0 [] := Sep.nil _ _
  unfold F_laws_toSpot at hF
  refine W.seq fun K1 hK1 => ?_
  refine W.region ?_
  refine wl_box (cs := [(.int .i64 x0.1), (.int .i64 x0.2)]) rfl rfl rfl hB hS ?_
  intro b2 w3 hb4 hB5 hS6
  refine wl_alloc (cs := [(.int .i64 0), (.int .i64 0)]) tf_106 rfl rfl hB5 hS6 ?_
  intro b7 w8 hb9 hB10 hS11
  refine WL.nil ?_
  refine fun a ha => hK1 _ _ ?_ a ha
  refine W.seq fun K12 hK12 => ?_
  refine W.region ?_
  refine wl_alloc (cs := [(.int .i64 0), (.int .i64 0)]) tf_106 rfl rfl hB10 hS11 ?_
  intro b13 w14 hb15 hB16 hS17
  refine WL.nil ?_
  refine fun a ha => hK12 _ _ ?_ a ha
  refine W.seq fun K18 hK18 => ?_
  refine W.region ?_
  refine wl_field (o := 0) (off' := 0) ff_136_0 rfl rfl rfl ?_
  refine wl_load_blk (i := 2) (vs := [(.int .i64 x0.1)]) (v := (.int .i64 x0.1)) tf_3 rfl rfl hS17 rfl rfl rfl ?_
  refine wl_field (o := 0) (off' := 0) ff_106_0 rfl rfl rfl ?_
  refine wl_store_blk (i := 0) (vs := [(.int .i64 x0.1)]) (cs' := [(.int .i64 x0.1), (.int .i64 0)]) tf_3 rfl rfl rfl rfl hB16 hS17 rfl rfl ⟨rfl, trivial⟩ rfl ?_
  intro w19 hk22 hB20 hS21
  refine WL.nil ?_
  refine fun a ha => hK18 _ _ ?_ a ha
  refine W.seq fun K23 hK23 => ?_
  refine W.region ?_
  refine wl_field (o := 1) (off' := 1) ff_136_1 rfl rfl rfl ?_
  refine wl_load_blk (i := 2) (vs := [(.int .i64 x0.2)]) (v := (.int .i64 x0.2)) tf_3 rfl rfl hS21 rfl rfl rfl ?_
  refine wl_field (o := 1) (off' := 1) ff_106_1 rfl rfl rfl ?_
  refine wl_store_blk (i := 0) (vs := [(.int .i64 x0.2)]) (cs' := [(.int .i64 x0.1), (.int .i64 x0.2)]) tf_3 rfl rfl rfl rfl hB20 hS21 rfl rfl ⟨rfl, trivial⟩ rfl ?_
  intro w24 hk27 hB25 hS26
  refine WL.nil ?_
  refine fun a ha => hK23 _ _ ?_ a ha
  refine W.seq fun K28 hK28 => ?_
  refine W.region ?_
  refine wl_load_blk (i := 0) (vs := [(.int .i64 x0.1), (.int .i64 x0.2)]) (v := (.agg #[(.int .i64 x0.1), (.int .i64 x0.2)])) tf_106 rfl rfl hS26 rfl rfl rfl ?_
  refine wl_store_blk (i := 1) (vs := [(.int .i64 x0.1), (.int .i64 x0.2)]) (cs' := [(.int .i64 x0.1), (.int .i64 x0.2)]) tf_106 rfl rfl rfl rfl hB25 hS26 rfl rfl ⟨rfl, rfl, trivial⟩ rfl ?_
  intro w29 hk32 hB30 hS31
  refine WL.nil ?_
  refine fun a ha => hK28 _ _ ?_ a ha
  refine W.ret ?_
  have hr := Option.some.inj hF
  subst hr
  exact rets (vs := [(.agg #[(.int .i64 x0.1), (.int .i64 x0.2)])]) hQ rfl ⟨rv_cell (i := 1) tf_106 rfl hS31 rfl rfl rfl, trivial⟩ ⟨rfl, hB30⟩
theorem C_laws_toSpotS (w0 : World) (x0 : (List (Int × Int))) (v0_0 : Value) (h0_0 : rdS ty_136 (· < w0.heap.size) w0 v0_0 x0) (r : (List (Int × Int))) (hF : F_laws_toSpotS x0 = some r) :
    Calls Try.prog 94 [v0_0].toArray w0 fun e w' => ∃ (q0 : Value) (G0 : List Nat), e = .returned q0 ∧ Below w0.heap.size w0 w' ∧ Sep w0.heap.size w' [R.own ty_106 G0 q0 r] := by
  refine calls_mk' Try.func94 rfl Try.ntmps94 rfl rfl fun Q hQ hP => ?_
  have hB : Below w0.heap.size w0 w0 := Below.refl _ _
  have hS : Sep w0.heap.size w0 [] := Sep.nil _ _
  unfold F_laws_toSpotS at hF
  refine W.seq fun K1 hK1 => ?_
  refine W.region ?_
  refine wl_assign rfl rfl ?_
  refine WL.nil ?_
  refine fun a ha => hK1 _ _ ?_ a ha
  refine W.seq fun K2 hK2 => ?_
  refine W.region ?_
  refine wl_move rfl rfl ?_
  refine wl_lenr (e := ty_136) (l := x0) Try.underlying104 rfl rfl h0_0 ?_
  obtain ⟨u3, hu3, hF⟩ := bindE hF
  refine wl_make (e := ty_106) Try.underlying82 rfl rfl hu3 hB hS ?_
  intro v4 F5 w6 hb7 hB8 hS9
  refine wl_assign rfl rfl ?_
  refine WL.nil ?_
  refine fun a ha => hK2 _ _ ?_ a ha
  refine W.seq fun K10 hK10 => ?_
  refine W.seq fun K11 hK11 => ?_
  refine W.region ?_
  refine wl_assign rfl rfl ?_
  refine WL.nil ?_
  refine fun a ha => hK11 _ _ ?_ a ha
  refine W.block ?_
  refine W.loopk (fun m a w12 => ∃ (l15 : (List (Int × Int))) (y18 : Int) (v16 : Value) (F17 : List Nat), St 23 [(0, v0_0), (3, v16), (4, (.int .i64 y18))] a ∧ Below w0.heap.size w0 w12 ∧ Sep w0.heap.size w12 [R.own ty_106 F17 v16 l15] ∧ F_laws_toSpotS_L1 x0 m l15 y18 = some r) FU ?_ ?_
  ·
    exact fun a ha => ⟨u3, 0, v4, F5, ha.sub ⟨rfl, rfl, rfl, trivial⟩, hB8, (hS9.sel [0] rfl), hF⟩
  ·
    rintro m21 a w12 ⟨l15, y18, v16, F17, ha, hB13, hS14, hF⟩ KL20 hKL20
    refine W.at ?_ ha
    cases m21 with
    | zero => exact noneE hF
    | succ m21 =>
      obtain ⟨nx19, hnx19⟩ : ∃ k, k = F_laws_toSpotS_L1 x0 m21 := ⟨_, rfl⟩
      rw [F_laws_toSpotS_L1, ← hnx19] at hF
      refine W.seq fun K22 hK22 => ?_
      refine W.seq fun K23 hK23 => ?_
      refine W.region ?_
      refine wl_move rfl rfl ?_
      refine wl_move rfl rfl ?_
      refine wl_lenr (e := ty_136) (l := x0) Try.underlying104 rfl rfl h0_0 ?_
      refine wl_lss rfl rfl rfl ?_
      refine WL.nil ?_
      refine fun a ha => hK23 _ _ ?_ a ha
      refine W.cond rfl (fun h24 => ?_) (fun h24 => ?_)
      · replace hF := ifP h24 hF
        refine W.skip ?_
        refine fun a ha => hK22 _ _ ?_ a ha
        refine W.seq fun K25 hK25 => ?_
        refine W.block ?_
        refine W.region ?_
        refine wl_move rfl rfl ?_
        refine wl_move rfl rfl ?_
        refine wl_move rfl rfl ?_
        refine wl_move rfl rfl ?_
        obtain ⟨u26, hu26, hF⟩ := bindE hF
        refine wl_index (e := ty_136) Try.underlying104 rfl rfl rfl h0_0 hu26 ?_
        rintro p27 _ rfl hp28
        refine wl_load_p (vs := [(.int .i64 u26.1), (.int .i64 u26.2)]) (v := (.agg #[(.int .i64 u26.1), (.int .i64 u26.2)])) tf_136 rfl rfl (hp28.ro hB13) rfl rfl ?_
        obtain ⟨u29, hu29, hF⟩ := bindE hF
        refine wl_call rfl Try.call121 (C_laws_toSpot w12 u26 _ hu29) rfl ?_
        rintro _ w30 ⟨rfl, hb31⟩
        refine ⟨_, rfl, ?_⟩
        have hB32 := hB13.trans (hb31.mono hB13.size)
        have hS33 := hS14.below hb31
        obtain ⟨u35, hu35, hF⟩ := bindE hF
        refine wl_indexo (e := ty_106) (i := 0) Try.underlying82 rfl rfl rfl hS33 rfl hu35 ?_
        rintro p36 _ rfl hp37 ho38
        refine wl_storeo (i := 0) (o := 0) (vs := [(.int .i64 u29.1), (.int .i64 u29.2)]) (u' := u29) fl_106 tf_106 rfl rfl rfl rfl ho38 hu35 hB32 hS33 rfl rfl ⟨rfl, rfl, trivial⟩ rfl ?_
        intro w39 hk42 hB40 hS41
        refine WL.nil ?_
        refine fun a ha => hK25 _ _ ?_ a ha
        refine W.region ?_
        refine wl_move rfl rfl ?_
        refine wl_add rfl rfl rfl ?_
        refine wl_assign rfl rfl ?_
        refine WL.nil ?_
        rw [hnx19] at hF
        exact fun a ha => hKL20 a _ m21 (Nat.lt_succ_self m21) ⟨(seti l15 y18 u29), (w64 (y18 + 1)), v16, F17, ha.sub ⟨rfl, rfl, rfl, trivial⟩, hB40, (hS41.sel [0] rfl), hF⟩
      · replace hF := ifN h24 hF
        refine W.exit ?_
        refine fun a ha => hK10 _ _ ?_ a ha
        refine W.seq fun K43 hK43 => ?_
        refine W.region ?_
        refine wl_move rfl rfl ?_
        refine wl_assign rfl rfl ?_
        refine WL.nil ?_
        refine fun a ha => hK43 _ _ ?_ a ha
        refine W.ret ?_
        have hr := Option.some.inj hF
        subst hr
        exact rets (vs := [v16]) hQ rfl ⟨rv_tmp rfl, trivial⟩ ⟨v16, F17, rfl, hB13, hS14.sel [0] rfl⟩
theorem C_laws_toSpotSS (w0 : World) (x0 : (List (List (Int × Int)))) (v0_0 : Value) (h0_0 : rdS ty_104 (· < w0.heap.size) w0 v0_0 x0) (r : (List (List (Int × Int)))) (hF : F_laws_toSpotSS x0 = some r) :
    Calls Try.prog 66 [v0_0].toArray w0 fun e w' => ∃ (q0 : Value) (G0 : List Nat), e = .returned q0 ∧ Below w0.heap.size w0 w' ∧ Sep w0.heap.size w' [R.own ty_82 G0 q0 r] := by
  refine calls_mk' Try.func66 rfl Try.ntmps66 rfl rfl fun Q hQ hP => ?_
  have hB : Below w0.heap.size w0 w0 := Below.refl _ _
  have hS : Sep w0.heap.size w0 [] := Sep.nil _ _
  unfold F_laws_toSpotSS at hF
  refine W.seq fun K1 hK1 => ?_
  refine W.region ?_
  refine wl_assign rfl rfl ?_
  refine WL.nil ?_
  refine fun a ha => hK1 _ _ ?_ a ha
  refine W.seq fun K2 hK2 => ?_
  refine W.region ?_
  refine wl_move rfl rfl ?_
  refine wl_lenr (e := ty_104) (l := x0) Try.underlying34 rfl rfl h0_0 ?_
  obtain ⟨u3, hu3, hF⟩ := bindE hF
  refine wl_make (e := ty_82) Try.underlying40 rfl rfl hu3 hB hS ?_
  intro v4 F5 w6 hb7 hB8 hS9
  refine wl_assign rfl rfl ?_
  refine WL.nil ?_
  refine fun a ha => hK2 _ _ ?_ a ha
  refine W.seq fun K10 hK10 => ?_
  refine W.seq fun K11 hK11 => ?_
  refine W.region ?_
  refine wl_assign rfl rfl ?_
  refine WL.nil ?_
  refine fun a ha => hK11 _ _ ?_ a ha
  refine W.block ?_
  refine W.loopk (fun m a w12 => ∃ (l15 : (List (List (Int × Int)))) (y18 : Int) (v16 : Value) (F17 : List Nat), St 23 [(0, v0_0), (3, v16), (4, (.int .i64 y18))] a ∧ Below w0.heap.size w0 w12 ∧ Sep w0.heap.size w12 [R.own ty_82 F17 v16 l15] ∧ F_laws_toSpotSS_L1 x0 m l15 y18 = some r) FU ?_ ?_
  ·
    exact fun a ha => ⟨u3, 0, v4, F5, ha.sub ⟨rfl, rfl, rfl, trivial⟩, hB8, (hS9.sel [0] rfl), hF⟩
  ·
    rintro m21 a w12 ⟨l15, y18, v16, F17, ha, hB13, hS14, hF⟩ KL20 hKL20
    refine W.at ?_ ha
    cases m21 with
    | zero => exact noneE hF
    | succ m21 =>
      obtain ⟨nx19, hnx19⟩ : ∃ k, k = F_laws_toSpotSS_L1 x0 m21 := ⟨_, rfl⟩
      rw [F_laws_toSpotSS_L1, ← hnx19] at hF
      refine W.seq fun K22 hK22 => ?_
      refine W.seq fun K23 hK23 => ?_
      refine W.region ?_
      refine wl_move rfl rfl ?_
      refine wl_move rfl rfl ?_
      refine wl_lenr (e := ty_104) (l := x0) Try.underlying34 rfl rfl h0_0 ?_
      refine wl_lss rfl rfl rfl ?_
      refine WL.nil ?_
      refine fun a ha => hK23 _ _ ?_ a ha
      refine W.cond rfl (fun h24 => ?_) (fun h24 => ?_)
      · replace hF := ifP h24 hF
        refine W.skip ?_
        refine fun a ha => hK22 _ _ ?_ a ha
        refine W.seq fun K25 hK25 => ?_
        refine W.block ?_
        refine W.region ?_
        refine wl_move rfl rfl ?_
        refine wl_move rfl rfl ?_
        refine wl_move rfl rfl ?_
        refine wl_move rfl rfl ?_
        obtain ⟨u26, hu26, hF⟩ := bindE hF
        refine wl_index (e := ty_104) Try.underlying34 rfl rfl rfl h0_0 hu26 ?_
        rintro p27 _ ⟨v29, rfl, hv30⟩ hp28
        refine wl_load_p (vs := [v29]) (v := v29) tf_104 rfl rfl (hp28.ro hB13) rfl rfl ?_
        obtain ⟨u31, hu31, hF⟩ := bindE hF
        refine wl_call rfl Try.call94 (C_laws_toSpotS w12 u26 v29 (hv30.ro hB13) _ hu31) rfl ?_
        rintro _ w34 ⟨v32, F33, rfl, hb35, hM38⟩
        refine ⟨_, rfl, ?_⟩
        have hB36 := hB13.trans (hb35.mono hB13.size)
        have hS37 := hS14.join hb35 hM38 hB13.size
        obtain ⟨u39, hu39, hF⟩ := bindE hF
        refine wl_indexo (e := ty_82) (i := 1) Try.underlying40 rfl rfl rfl hS37 rfl hu39 ?_
        rintro p40 _ ⟨v42, rfl, hv43⟩ hp41 ho44
        refine wl_storen (vs := [v32]) (u' := u31) tf_82 rfl rfl (cells_one (hS37.own_ro (i := 0) rfl).one) rfl ho44 hu39 hB36 (((hS37.sel [0, 1] rfl).cel1 (e := ty_82) (fun _ _ _ _ h => ⟨_, rfl, h⟩)).sel [1, 0] rfl) rfl ⟨(hS37.own_ro (i := 0) rfl).one, trivial⟩ ?_
        intro w45 F48 hB46 hS47
        refine WL.nil ?_
        refine fun a ha => hK25 _ _ ?_ a ha
        refine W.region ?_
        refine wl_move rfl rfl ?_
        refine wl_add rfl rfl rfl ?_
        refine wl_assign rfl rfl ?_
        refine WL.nil ?_
        rw [hnx19] at hF
        exact fun a ha => hKL20 a _ m21 (Nat.lt_succ_self m21) ⟨(seti l15 y18 u31), (w64 (y18 + 1)), v16, F48, ha.sub ⟨rfl, rfl, rfl, trivial⟩, hB46, (hS47.sel [0] rfl), hF⟩
      · replace hF := ifN h24 hF
        refine W.exit ?_
        refine fun a ha => hK10 _ _ ?_ a ha
        refine W.seq fun K49 hK49 => ?_
        refine W.region ?_
        refine wl_move rfl rfl ?_
        refine wl_assign rfl rfl ?_
        refine WL.nil ?_
        refine fun a ha => hK49 _ _ ?_ a ha
        refine W.ret ?_
        have hr := Option.some.inj hF
        subst hr
        exact rets (vs := [v16]) hQ rfl ⟨rv_tmp rfl, trivial⟩ ⟨v16, F17, rfl, hB13, hS14.sel [0] rfl⟩
theorem C_laws_toIntS (w0 : World) (x0 : (List Int)) (v0_0 : Value) (h0_0 : rdS ty_3 (· < w0.heap.size) w0 v0_0 x0) (r : (List Int)) (hF : F_laws_toIntS x0 = some r) :
    Calls Try.prog 41 [v0_0].toArray w0 fun e w' => ∃ (q0 : Value) (G0 : List Nat), e = .returned q0 ∧ Below w0.heap.size w0 w' ∧ Sep w0.heap.size w' [R.own ty_3 G0 q0 r] := by
  refine calls_mk' Try.func41 rfl Try.ntmps41 rfl rfl fun Q hQ hP => ?_
  have hB : Below w0.heap.size w0 w0 := Below.refl _ _
  have hS : Sep w0.heap.size w0 [] := Sep.nil _ _
  unfold F_laws_toIntS at hF
  refine W.seq fun K1 hK1 => ?_
  refine W.region ?_
  refine wl_assign rfl rfl ?_
  refine WL.nil ?_
  refine fun a ha => hK1 _ _ ?_ a ha
  refine W.seq fun K2 hK2 => ?_
  refine W.region ?_
  refine wl_move rfl rfl ?_
  refine wl_lenr (e := ty_3) (l := x0) Try.underlying24 rfl rfl h0_0 ?_
  obtain ⟨u3, hu3, hF⟩ := bindE hF
  refine wl_make (e := ty_3) Try.underlying24 rfl rfl hu3 hB hS ?_
  intro v4 F5 w6 hb7 hB8 hS9
  refine wl_assign rfl rfl ?_
  refine WL.nil ?_
  refine fun a ha => hK2 _ _ ?_ a ha
  refine W.seq fun K10 hK10 => ?_
  refine W.seq fun K11 hK11 => ?_
  refine W.region ?_
  refine wl_assign rfl rfl ?_
  refine WL.nil ?_
  refine fun a ha => hK11 _ _ ?_ a ha
  refine W.block ?_
  refine W.loopk (fun m a w12 => ∃ (l15 : (List Int)) (y18 : Int) (v16 : Value) (F17 : List Nat), St 22 [(0, v0_0), (3, v16), (4, (.int .i64 y18))] a ∧ Below w0.heap.size w0 w12 ∧ Sep w0.heap.size w12 [R.own ty_3 F17 v16 l15] ∧ F_laws_toIntS_L1 x0 m l15 y18 = some r) FU ?_ ?_
  ·
    exact fun a ha => ⟨u3, 0, v4, F5, ha.sub ⟨rfl, rfl, rfl, trivial⟩, hB8, (hS9.sel [0] rfl), hF⟩
  ·
    rintro m21 a w12 ⟨l15, y18, v16, F17, ha, hB13, hS14, hF⟩ KL20 hKL20
    refine W.at ?_ ha
    cases m21 with
    | zero => exact noneE hF
    | succ m21 =>
      obtain ⟨nx19, hnx19⟩ : ∃ k, k = F_laws_toIntS_L1 x0 m21 := ⟨_, rfl⟩
      rw [F_laws_toIntS_L1, ← hnx19] at hF
      refine W.seq fun K22 hK22 => ?_
      refine W.seq fun K23 hK23 => ?_
      refine W.region ?_
      refine wl_move rfl rfl ?_
      refine wl_move rfl rfl ?_
      refine wl_lenr (e := ty_3) (l := x0) Try.underlying24 rfl rfl h0_0 ?_
      refine wl_lss rfl rfl rfl ?_
      refine WL.nil ?_
      refine fun a ha => hK23 _ _ ?_ a ha
      refine W.cond rfl (fun h24 => ?_) (fun h24 => ?_)
      · replace hF := ifP h24 hF
        refine W.skip ?_
        refine fun a ha => hK22 _ _ ?_ a ha
        refine W.seq fun K25 hK25 => ?_
        refine W.block ?_
        refine W.region ?_
        refine wl_move rfl rfl ?_
        refine wl_move rfl rfl ?_
        refine wl_move rfl rfl ?_
        refine wl_move rfl rfl ?_
        obtain ⟨u26, hu26, hF⟩ := bindE hF
        refine wl_index (e := ty_3) Try.underlying24 rfl rfl rfl h0_0 hu26 ?_
        rintro p27 _ rfl hp28
        refine wl_load_p (vs := [(.int .i64 u26)]) (v := (.int .i64 u26)) tf_3 rfl rfl (hp28.ro hB13) rfl rfl ?_
        obtain ⟨u29, hu29, hF⟩ := bindE hF
        refine wl_indexo (e := ty_3) (i := 0) Try.underlying24 rfl rfl rfl hS14 rfl hu29 ?_
        rintro p30 _ rfl hp31 ho32
        refine wl_storeo (i := 0) (o := 0) (vs := [(.int .i64 u26)]) (u' := u26) fl_3 tf_3 rfl rfl rfl rfl ho32 hu29 hB13 hS14 rfl rfl ⟨rfl, trivial⟩ rfl ?_
        intro w33 hk36 hB34 hS35
        refine WL.nil ?_
        refine fun a ha => hK25 _ _ ?_ a ha
        refine W.region ?_
        refine wl_move rfl rfl ?_
        refine wl_add rfl rfl rfl ?_
        refine wl_assign rfl rfl ?_
        refine WL.nil ?_
        rw [hnx19] at hF
        exact fun a ha => hKL20 a _ m21 (Nat.lt_succ_self m21) ⟨(seti l15 y18 u26), (w64 (y18 + 1)), v16, F17, ha.sub ⟨rfl, rfl, rfl, trivial⟩, hB34, (hS35.sel [0] rfl), hF⟩
      · replace hF := ifN h24 hF
        refine W.exit ?_
        refine fun a ha => hK10 _ _ ?_ a ha
        refine W.seq fun K37 hK37 => ?_
        refine W.region ?_
        refine wl_move rfl rfl ?_
        refine wl_assign rfl rfl ?_
        refine WL.nil ?_
        refine fun a ha => hK37 _ _ ?_ a ha
        refine W.ret ?_
        have hr := Option.some.inj hF
        subst hr
        exact rets (vs := [v16]) hQ rfl ⟨rv_tmp rfl, trivial⟩ ⟨v16, F17, rfl, hB13, hS14.sel [0] rfl⟩
theorem C_laws_toShow (w0 : World) (x0 : ((List (List (Int × Int))) × (List Int) × Int × Int)) (v0_0 : Value) (h0_0 : rdS ty_104 (· < w0.heap.size) w0 v0_0 x0.1) (v0_1 : Value) (h0_1 : rdS ty_3 (· < w0.heap.size) w0 v0_1 x0.2.1) (r : ((List (List (Int × Int))) × (List Int) × Int × Int)) (hF : F_laws_toShow x0 = some r) :
    Calls Try.prog 32 [(.agg #[v0_0, v0_1, (.int .i64 x0.2.2.1), (.int .i64 x0.2.2.2)])].toArray w0 fun e w' => ∃ (q0 : Value) (G0 : List Nat) (q1 : Value) (G1 : List Nat), e = .returned (.agg #[q0, q1, (.int .i64 r.2.2.1), (.int .i64 r.2.2.2)]) ∧ Below w0.heap.size w0 w' ∧ Sep w0.heap.size w' [R.own ty_82 G0 q0 r.1, R.own ty_3 G1 q1 r.2.1] := by
  refine calls_mk' Try.func32 rfl Try.ntmps32 rfl rfl fun Q hQ hP => ?_
  have hB : Below w0.heap.size w0 w0 := Below.refl _ _
  have hS : Sep w0.heap.size w0 [] := Sep.nil _ _
  unfold F_laws_toShow at hF
  refine W.seq fun K1 hK1 => ?_
  refine W.region ?_
  refine wl_box (cs := [v0_0, v0_1, (.int .i64 x0.2.2.1), (.int .i64 x0.2.2.2)]) rfl rfl rfl hB hS ?_
  intro b2 w3 hb4 hB5 hS6
  refine wl_alloc (cs := [(.slice none 0 0), (.slice none 0 0), (.int .i64 0), (.int .i64 0)]) tf_42 rfl rfl hB5 hS6 ?_
  intro b7 w8 hb9 hB10 hS11
  refine WL.nil ?_
  refine fun a ha => hK1 _ _ ?_ a ha
  refine W.seq fun K12 hK12 => ?_
  refine W.region ?_
  refine wl_alloc (cs := [(.slice none 0 0), (.slice none 0 0), (.int .i64 0), (.int .i64 0)]) tf_42 rfl rfl hB10 hS11 ?_
  intro b13 w14 hb15 hB16 hS17
  refine WL.nil ?_
  refine fun a ha => hK12 _ _ ?_ a ha
  refine W.seq fun K18 hK18 => ?_
  refine W.region ?_
  refine wl_field (o := 0) (off' := 0) ff_36_0 rfl rfl rfl ?_
  refine wl_load_blk (i := 2) (vs := [v0_0]) (v := v0_0) tf_34 rfl rfl hS17 rfl rfl rfl ?_
  obtain ⟨u19, hu19, hF⟩ := bindE hF
  refine wl_call rfl Try.call66 (C_laws_toSpotSS w14 x0.1 v0_0 (h0_0.ro hB16) _ hu19) rfl ?_
  rintro _ w22 ⟨v20, F21, rfl, hb23, hM26⟩
  refine ⟨_, rfl, ?_⟩
  have hB24 := hB16.trans (hb23.mono hB16.size)
  have hS25 := hS17.join hb23 hM26 hB16.size
  refine wl_field (o := 0) (off' := 0) ff_42_0 rfl rfl rfl ?_
  refine wl_store_blk (i := 1) (vs := [v20]) (cs' := [v20, (.slice none 0 0), (.int .i64 0), (.int .i64 0)]) tf_40 rfl rfl (cells_one (hS25.own_ro (i := 0) rfl).one) rfl hB24 hS25 rfl rfl ⟨(hS25.own_ro (i := 0) rfl).one, trivial⟩ rfl ?_
  intro w27 hk30 hB28 hS29
  refine WL.nil ?_
  refine fun a ha => hK18 _ _ ?_ a ha
  refine W.seq fun K31 hK31 => ?_
  refine W.region ?_
  refine wl_field (o := 1) (off' := 1) ff_36_1 rfl rfl rfl ?_
  refine wl_load_blk (i := 3) (vs := [v0_1]) (v := v0_1) tf_24 rfl rfl hS29 rfl rfl rfl ?_
  obtain ⟨u32, hu32, hF⟩ := bindE hF
  refine wl_call rfl Try.call41 (C_laws_toIntS w27 x0.2.1 v0_1 (h0_1.ro hB28) _ hu32) rfl ?_
  rintro _ w35 ⟨v33, F34, rfl, hb36, hM39⟩
  refine ⟨_, rfl, ?_⟩
  have hB37 := hB28.trans (hb36.mono hB28.size)
  have hS38 := hS29.join hb36 hM39 hB28.size
  refine wl_field (o := 1) (off' := 1) ff_42_1 rfl rfl rfl ?_
  refine wl_store_blk (i := 2) (vs := [v33]) (cs' := [v20, v33, (.int .i64 0), (.int .i64 0)]) tf_24 rfl rfl (cells_one (hS38.own_ro (i := 0) rfl).one) rfl hB37 hS38 rfl rfl ⟨(hS38.own_ro (i := 0) rfl).one, trivial⟩ rfl ?_
  intro w40 hk43 hB41 hS42
  refine WL.nil ?_
  refine fun a ha => hK31 _ _ ?_ a ha
  refine W.seq fun K44 hK44 => ?_
  refine W.region ?_
  refine wl_field (o := 2) (off' := 2) ff_36_2 rfl rfl rfl ?_
  refine wl_load_blk (i := 4) (vs := [(.int .i64 x0.2.2.1)]) (v := (.int .i64 x0.2.2.1)) tf_3 rfl rfl hS42 rfl rfl rfl ?_
  refine wl_field (o := 2) (off' := 2) ff_42_2 rfl rfl rfl ?_
  refine wl_store_blk (i := 2) (vs := [(.int .i64 x0.2.2.1)]) (cs' := [v20, v33, (.int .i64 x0.2.2.1), (.int .i64 0)]) tf_3 rfl rfl rfl rfl hB41 hS42 rfl rfl ⟨rfl, trivial⟩ rfl ?_
  intro w45 hk48 hB46 hS47
  refine WL.nil ?_
  refine fun a ha => hK44 _ _ ?_ a ha
  refine W.seq fun K49 hK49 => ?_
  refine W.region ?_
  refine wl_field (o := 3) (off' := 3) ff_36_3 rfl rfl rfl ?_
  refine wl_load_blk (i := 4) (vs := [(.int .i64 x0.2.2.2)]) (v := (.int .i64 x0.2.2.2)) tf_3 rfl rfl hS47 rfl rfl rfl ?_
  refine wl_field (o := 3) (off' := 3) ff_42_3 rfl rfl rfl ?_
  refine wl_store_blk (i := 2) (vs := [(.int .i64 x0.2.2.2)]) (cs' := [v20, v33, (.int .i64 x0.2.2.1), (.int .i64 x0.2.2.2)]) tf_3 rfl rfl rfl rfl hB46 hS47 rfl rfl ⟨rfl, trivial⟩ rfl ?_
  intro w50 hk53 hB51 hS52
  refine WL.nil ?_
  refine fun a ha => hK49 _ _ ?_ a ha
  refine W.seq fun K54 hK54 => ?_
  refine W.region ?_
  refine wl_load_blk (i := 2) (vs := [v20, v33, (.int .i64 x0.2.2.1), (.int .i64 x0.2.2.2)]) (v := (.agg #[v20, v33, (.int .i64 x0.2.2.1), (.int .i64 x0.2.2.2)])) tf_42 rfl rfl hS52 rfl rfl rfl ?_
  refine wl_store_blk (i := 3) (vs := [v20, v33, (.int .i64 x0.2.2.1), (.int .i64 x0.2.2.2)]) (cs' := [v20, v33, (.int .i64 x0.2.2.1), (.int .i64 x0.2.2.2)]) tf_42 rfl rfl rfl rfl hB51 hS52 rfl rfl ⟨(hS52.own_ro (i := 1) rfl).one, (hS52.own_ro (i := 0) rfl).one, rfl, rfl, trivial⟩ rfl ?_
  intro w55 hk58 hB56 hS57
  refine WL.nil ?_
  refine fun a ha => hK54 _ _ ?_ a ha
  refine W.ret ?_
  have hr := Option.some.inj hF
  subst hr
  exact rets (vs := [(.agg #[v20, v33, (.int .i64 x0.2.2.1), (.int .i64 x0.2.2.2)])]) hQ rfl ⟨rv_cell (i := 3) tf_42 rfl hS57 rfl rfl rfl, trivial⟩ ⟨v20, F21, v33, F34, rfl, hB56, hS57.sel [1, 0] rfl⟩
theorem C_spec_l1In (w0 : World) (x0 : Int) (x1 : Int) (x2 : Int) (r : Bool) (hF : F_spec_l1In x0 x1 x2 = some r) :
    Calls Try.prog 57 [(.int .i64 x0), (.int .i64 x1), (.int .i64 x2)].toArray w0 fun e w' => e = .returned (.bool r) ∧ Below w0.heap.size w0 w' := by
  refine calls_mk' Try.func57 rfl Try.ntmps57 rfl rfl fun Q hQ hP => ?_
  have hB : Below w0.heap.size w0 w0 := Below.refl _ _
  have hS : Sep w0.heap.size w0 [] := Sep.nil _ _
  unfold F_spec_l1In at hF
  refine W.seq fun K1 hK1 => ?_
  refine W.region ?_
  refine wl_assign rfl rfl ?_
  refine WL.nil ?_
  refine fun a ha => hK1 _ _ ?_ a ha
  refine W.seq fun K2 hK2 => ?_
  obtain ⟨k7, hk7, hF⟩ := jE1 hF
  have hJ8 : ∀ (y6 : Bool) (w3 : World) (_ : k7 y6 = some r) (_ : Below w0.heap.size w0 w3) (_ : Sep w0.heap.size w3 []), ∀ a, St 15 [(6, (.bool y6))] a → K2 a w3 := by
    intro y6 w3 hF hB4 hS5
    subst hk7
    refine fun a ha => hK2 _ _ ?_ a ha
    refine W.ret ?_
    have hr := Option.some.inj hF
    subst hr
    exact rets (vs := [(.bool y6)]) hQ rfl ⟨rv_tmp rfl, trivial⟩ ⟨rfl, hB4⟩
  refine W.region ?_
  refine wl_move rfl rfl ?_
  refine wl_move rfl rfl ?_
  refine wl_geq rfl rfl rfl ?_
  refine wl_move rfl rfl ?_
  rcases bE (decide (x1 ≤ x0)) with h9 | h9
  · replace hF := ifP h9 hF
    refine wl_on rfl rfl h9 ?_
    refine wl_move rfl rfl ?_
    refine wl_on rfl rfl h9 ?_
    refine wl_move rfl rfl ?_
    refine wl_on rfl rfl h9 ?_
    refine wl_leq rfl rfl rfl ?_
    refine wl_pick_t rfl rfl h9 rfl ?_
    refine wl_assign rfl rfl ?_
    refine WL.nil ?_
    exact fun a ha => hJ8 ((decide (x0 ≤ x2))) _ hF hB (hS.sel [] rfl) a (ha.sub ⟨rfl, trivial⟩)
  · replace hF := ifN h9 hF
    refine wl_off rfl rfl rfl h9 ?_
    refine wl_off rfl rfl rfl h9 ?_
    refine wl_off rfl rfl rfl h9 ?_
    refine wl_pick_f rfl rfl h9 rfl ?_
    refine wl_assign rfl rfl ?_
    refine WL.nil ?_
    exact fun a ha => hJ8 (false) _ hF hB (hS.sel [] rfl) a (ha.sub ⟨rfl, trivial⟩)
theorem C_spec_stGood (w0 : World) (x0 : (Int × Int)) (r : Bool) (hF : F_spec_stGood x0 = some r) :
    Calls Try.prog 91 [(.agg #[(.int .i64 x0.1), (.int .i64 x0.2)])].toArray w0 fun e w' => e = .returned (.bool r) ∧ Below w0.heap.size w0 w' := by
  refine calls_mk' Try.func91 rfl Try.ntmps91 rfl rfl fun Q hQ hP => ?_
  have hB : Below w0.heap.size w0 w0 := Below.refl _ _
  have hS : Sep w0.heap.size w0 [] := Sep.nil _ _
  unfold F_spec_stGood at hF
  refine W.seq fun K1 hK1 => ?_
  refine W.region ?_
  refine wl_box (cs := [(.int .i64 x0.1), (.int .i64 x0.2)]) rfl rfl rfl hB hS ?_
  intro b2 w3 hb4 hB5 hS6
  refine wl_assign rfl rfl ?_
  refine WL.nil ?_
  refine fun a ha => hK1 _ _ ?_ a ha
  refine W.seq fun K7 hK7 => ?_
  obtain ⟨k12, hk12, hF⟩ := jE1 hF
  have hJ13 : ∀ (y11 : Bool) (w8 : World) (_ : k12 y11 = some r) (_ : Below w0.heap.size w0 w8) (_ : Sep w0.heap.size w8 []), ∀ a, St 11 [(2, (.bool y11))] a → K7 a w8 := by
    intro y11 w8 hF hB9 hS10
    subst hk12
    refine fun a ha => hK7 _ _ ?_ a ha
    refine W.ret ?_
    have hr := Option.some.inj hF
    subst hr
    exact rets (vs := [(.bool y11)]) hQ rfl ⟨rv_tmp rfl, trivial⟩ ⟨rfl, hB9⟩
  refine W.region ?_
  refine wl_field (o := 0) (off' := 0) ff_106_0 rfl rfl rfl ?_
  refine wl_load_blk (i := 0) (vs := [(.int .i64 x0.1)]) (v := (.int .i64 x0.1)) tf_3 rfl rfl hS6 rfl rfl rfl ?_
  obtain ⟨u14, hu14, hF⟩ := bindE hF
  refine wl_call rfl Try.call57 (C_spec_l1In w3 x0.1 0 1280 _ hu14) rfl ?_
  rintro _ w15 ⟨rfl, hb16⟩
  refine ⟨_, rfl, ?_⟩
  have hB17 := hB5.trans (hb16.mono hB5.size)
  have hS18 := hS6.below hb16
  refine wl_move rfl rfl ?_
  rcases bE u14 with h20 | h20
  · replace hF := ifP h20 hF
    refine wl_on rfl rfl h20 ?_
    refine wl_field (o := 1) (off' := 1) ff_106_1 rfl rfl rfl ?_
    refine wl_on rfl rfl h20 ?_
    refine wl_load_blk (i := 0) (vs := [(.int .i64 x0.2)]) (v := (.int .i64 x0.2)) tf_3 rfl rfl hS18 rfl rfl rfl ?_
    refine wl_on rfl rfl h20 ?_
    obtain ⟨u21, hu21, hF⟩ := bindE hF
    refine wl_call rfl Try.call57 (C_spec_l1In w15 x0.2 0 672 _ hu21) rfl ?_
    rintro _ w22 ⟨rfl, hb23⟩
    refine ⟨_, rfl, ?_⟩
    have hB24 := hB17.trans (hb23.mono hB17.size)
    have hS25 := hS18.below hb23
    refine wl_pick_t rfl rfl h20 rfl ?_
    refine wl_assign rfl rfl ?_
    refine WL.nil ?_
    exact fun a ha => hJ13 (u21) _ hF hB24 (hS25.sel [] rfl) a (ha.sub ⟨rfl, trivial⟩)
  · replace hF := ifN h20 hF
    refine wl_off rfl rfl rfl h20 ?_
    refine wl_off rfl rfl rfl h20 ?_
    refine wl_off rfl rfl rfl h20 ?_
    refine wl_pick_f rfl rfl h20 rfl ?_
    refine wl_assign rfl rfl ?_
    refine WL.nil ?_
    exact fun a ha => hJ13 (false) _ hF hB17 (hS18.sel [] rfl) a (ha.sub ⟨rfl, trivial⟩)
theorem C_spec_chGood (w0 : World) (x0 : (List (Int × Int))) (v0_0 : Value) (h0_0 : rdS ty_106 (· < w0.heap.size) w0 v0_0 x0) (r : Bool) (hF : F_spec_chGood x0 = some r) :
    Calls Try.prog 56 [v0_0].toArray w0 fun e w' => e = .returned (.bool r) ∧ Below w0.heap.size w0 w' := by
  refine calls_mk' Try.func56 rfl Try.ntmps56 rfl rfl fun Q hQ hP => ?_
  have hB : Below w0.heap.size w0 w0 := Below.refl _ _
  have hS : Sep w0.heap.size w0 [] := Sep.nil _ _
  unfold F_spec_chGood at hF
  refine W.seq fun K1 hK1 => ?_
  refine W.region ?_
  refine wl_assign rfl rfl ?_
  refine WL.nil ?_
  refine fun a ha => hK1 _ _ ?_ a ha
  refine W.seq fun K2 hK2 => ?_
  refine W.seq fun K3 hK3 => ?_
  refine W.region ?_
  refine wl_move rfl rfl ?_
  refine wl_lenr (e := ty_106) (l := x0) Try.underlying82 rfl rfl h0_0 ?_
  refine wl_move rfl rfl ?_
  refine WL.nil ?_
  refine fun a ha => hK3 _ _ ?_ a ha
  refine W.block ?_
  refine W.loopk (fun m a w4 => ∃ (y7 : Int), St 33 [(0, v0_0), (7, v0_0), (8, (.int .i64 (List.length x0 : Int))), (9, (.int .i64 y7))] a ∧ Below w0.heap.size w0 w4 ∧ Sep w0.heap.size w4 [] ∧ F_spec_chGood_L1 x0 m y7 = some r) FU ?_ ?_
  ·
    exact fun a ha => ⟨0, ha.sub ⟨rfl, rfl, rfl, rfl, trivial⟩, hB, (hS.sel [] rfl), hF⟩
  ·
    rintro m10 a w4 ⟨y7, ha, hB5, hS6, hF⟩ KL9 hKL9
    refine W.at ?_ ha
    cases m10 with
    | zero => exact noneE hF
    | succ m10 =>
      obtain ⟨nx8, hnx8⟩ : ∃ k, k = F_spec_chGood_L1 x0 m10 := ⟨_, rfl⟩
      rw [F_spec_chGood_L1, ← hnx8] at hF
      refine W.seq fun K11 hK11 => ?_
      refine W.region ?_
      refine wl_lss rfl rfl rfl ?_
      refine WL.nil ?_
      refine fun a ha => hK11 _ _ ?_ a ha
      refine W.seq fun K12 hK12 => ?_
      refine W.cond rfl (fun h13 => ?_) (fun h13 => ?_)
      · replace hF := ifP h13 hF
        refine W.skip ?_
        refine fun a ha => hK12 _ _ ?_ a ha
        refine W.seq fun K14 hK14 => ?_
        refine W.block ?_
        refine W.seq fun K15 hK15 => ?_
        refine W.region ?_
        refine wl_move rfl rfl ?_
        obtain ⟨u16, hu16, hF⟩ := bindE hF
        refine wl_index (e := ty_106) Try.underlying82 rfl rfl rfl h0_0 hu16 ?_
        rintro p17 _ rfl hp18
        refine wl_load_p (vs := [(.int .i64 u16.1), (.int .i64 u16.2)]) (v := (.agg #[(.int .i64 u16.1), (.int .i64 u16.2)])) tf_106 rfl rfl (hp18.ro hB5) rfl rfl ?_
        refine wl_alloc (cs := [(.int .i64 0), (.int .i64 0)]) tf_106 rfl rfl hB5 hS6 ?_
        intro b19 w20 hb21 hB22 hS23
        refine wl_assign rfl rfl ?_
        refine wl_store_blk (i := 0) (vs := [(.int .i64 u16.1), (.int .i64 u16.2)]) (cs' := [(.int .i64 u16.1), (.int .i64 u16.2)]) tf_106 rfl rfl rfl rfl hB22 hS23 rfl rfl ⟨rfl, rfl, trivial⟩ rfl ?_
        intro w24 hk27 hB25 hS26
        refine WL.nil ?_
        refine fun a ha => hK15 _ _ ?_ a ha
        refine W.seq fun K28 hK28 => ?_
        refine W.seq fun K29 hK29 => ?_
        refine W.region ?_
        refine wl_load_blk (i := 0) (vs := [(.int .i64 u16.1), (.int .i64 u16.2)]) (v := (.agg #[(.int .i64 u16.1), (.int .i64 u16.2)])) tf_106 rfl rfl hS26 rfl rfl rfl ?_
        obtain ⟨u30, hu30, hF⟩ := bindE hF
        refine wl_call rfl Try.call91 (C_spec_stGood w24 u16 _ hu30) rfl ?_
        rintro _ w31 ⟨rfl, hb32⟩
        refine ⟨_, rfl, ?_⟩
        have hB33 := hB25.trans (hb32.mono hB25.size)
        have hS34 := hS26.below hb32
        refine wl_not rfl rfl ?_
        refine WL.nil ?_
        refine fun a ha => hK29 _ _ ?_ a ha
        refine W.cond rfl (fun h36 => ?_) (fun h36 => ?_)
        · replace hF := ifP h36 hF
          refine W.seq fun K37 hK37 => ?_
          refine W.region ?_
          refine wl_assign rfl rfl ?_
          refine WL.nil ?_
          refine fun a ha => hK37 _ _ ?_ a ha
          refine W.ret ?_
          have hr := Option.some.inj hF
          subst hr
          exact rets (vs := [(.bool false)]) hQ rfl ⟨rv_tmp rfl, trivial⟩ ⟨rfl, hB33⟩
        · replace hF := ifN h36 hF
          refine W.skip ?_
          refine fun a ha => hK28 _ _ ?_ a ha
          refine W.seq fun K38 hK38 => ?_
          refine W.region ?_
          refine wl_move rfl rfl ?_
          refine wl_move rfl rfl ?_
          obtain ⟨u39, hu39, hF⟩ := bindE hF
          refine wl_slice (e := ty_106) Try.underlying82 rfl rfl h0_0 hu39 (.inl ⟨rfl, rfl⟩) (.inr ⟨_, _, rfl, rfl⟩) ?_
          intro v40 hv41
          refine wl_lenr (e := ty_106) (l := u39) Try.underlying82 rfl rfl hv41 ?_
          refine wl_move rfl rfl ?_
          refine WL.nil ?_
          refine fun a ha => hK38 _ _ ?_ a ha
          refine W.block ?_
          refine W.loopk (fun m a w42 => ∃ (y45 : Int), St 33 [(0, v0_0), (4, (.pointer (some ⟨b19, 0, none⟩))), (7, v0_0), (8, (.int .i64 (List.length x0 : Int))), (9, (.int .i64 y7)), (19, v40), (20, (.int .i64 (List.length u39 : Int))), (21, (.int .i64 y45))] a ∧ Below w0.heap.size w0 w42 ∧ Sep w0.heap.size w42 [R.blk b19 106 [(.int .i64 u16.1), (.int .i64 u16.2)]] ∧ F_spec_chGood_L2 u39 u16 nx8 y7 m y45 = some r) FU ?_ ?_
          ·
            exact fun a ha => ⟨0, ha.sub ⟨rfl, rfl, rfl, rfl, rfl, rfl, rfl, rfl, trivial⟩, hB33, (hS34.sel [0] rfl), hF⟩
          ·
            rintro m48 a w42 ⟨y45, ha, hB43, hS44, hF⟩ KL47 hKL47
            refine W.at ?_ ha
            cases m48 with
            | zero => exact noneE hF
            | succ m48 =>
              obtain ⟨nx46, hnx46⟩ : ∃ k, k = F_spec_chGood_L2 u39 u16 nx8 y7 m48 := ⟨_, rfl⟩
              rw [F_spec_chGood_L2, ← hnx46] at hF
              refine W.seq fun K49 hK49 => ?_
              refine W.region ?_
              refine wl_lss rfl rfl rfl ?_
              refine WL.nil ?_
              refine fun a ha => hK49 _ _ ?_ a ha
              refine W.seq fun K50 hK50 => ?_
              refine W.cond rfl (fun h51 => ?_) (fun h51 => ?_)
              · replace hF := ifP h51 hF
                refine W.skip ?_
                refine fun a ha => hK50 _ _ ?_ a ha
                refine W.seq fun K52 hK52 => ?_
                refine W.block ?_
                refine W.seq fun K53 hK53 => ?_
                refine W.region ?_
                obtain ⟨u54, hu54, hF⟩ := bindE hF
                refine wl_index (e := ty_106) Try.underlying82 rfl rfl rfl hv41 hu54 ?_
                rintro p55 _ rfl hp56
                refine wl_load_p (vs := [(.int .i64 u54.1), (.int .i64 u54.2)]) (v := (.agg #[(.int .i64 u54.1), (.int .i64 u54.2)])) tf_106 rfl rfl (hp56.ro hB43) rfl rfl ?_
                refine wl_alloc (cs := [(.int .i64 0), (.int .i64 0)]) tf_106 rfl rfl hB43 hS44 ?_
                intro b57 w58 hb59 hB60 hS61
                refine wl_store_blk (i := 0) (vs := [(.int .i64 u54.1), (.int .i64 u54.2)]) (cs' := [(.int .i64 u54.1), (.int .i64 u54.2)]) tf_106 rfl rfl rfl rfl hB60 hS61 rfl rfl ⟨rfl, rfl, trivial⟩ rfl ?_
                intro w62 hk65 hB63 hS64
                refine WL.nil ?_
                refine fun a ha => hK53 _ _ ?_ a ha
                refine W.seq fun K66 hK66 => ?_
                refine W.region ?_
                refine wl_load_blk (i := 1) (vs := [(.int .i64 u16.1), (.int .i64 u16.2)]) (v := (.agg #[(.int .i64 u16.1), (.int .i64 u16.2)])) tf_106 rfl rfl hS64 rfl rfl rfl ?_
                refine wl_load_blk (i := 0) (vs := [(.int .i64 u54.1), (.int .i64 u54.2)]) (v := (.agg #[(.int .i64 u54.1), (.int .i64 u54.2)])) tf_106 rfl rfl hS64 rfl rfl rfl ?_
                refine wl_eqs Try.eqGuardType106 (eq_106 u16 u54) rfl rfl rfl ?_
                refine WL.nil ?_
                refine fun a ha => hK66 _ _ ?_ a ha
                refine W.cond rfl (fun h67 => ?_) (fun h67 => ?_)
                · replace hF := ifP h67 hF
                  refine W.seq fun K68 hK68 => ?_
                  refine W.region ?_
                  refine wl_assign rfl rfl ?_
                  refine WL.nil ?_
                  refine fun a ha => hK68 _ _ ?_ a ha
                  refine W.ret ?_
                  have hr := Option.some.inj hF
                  subst hr
                  exact rets (vs := [(.bool false)]) hQ rfl ⟨rv_tmp rfl, trivial⟩ ⟨rfl, hB63⟩
                · replace hF := ifN h67 hF
                  refine W.skip ?_
                  refine fun a ha => hK52 _ _ ?_ a ha
                  refine W.region ?_
                  refine wl_add rfl rfl rfl ?_
                  refine wl_move rfl rfl ?_
                  refine WL.nil ?_
                  rw [hnx46] at hF
                  exact fun a ha => hKL47 a _ m48 (Nat.lt_succ_self m48) ⟨(w64 (y45 + 1)), ha.sub ⟨rfl, rfl, rfl, rfl, rfl, rfl, rfl, rfl, trivial⟩, hB63, (hS64.sel [1] rfl), hF⟩
              · replace hF := ifN h51 hF
                refine W.exit ?_
                refine fun a ha => hK14 _ _ ?_ a ha
                refine W.region ?_
                refine wl_add rfl rfl rfl ?_
                refine wl_move rfl rfl ?_
                refine WL.nil ?_
                rw [hnx8] at hF
                exact fun a ha => hKL9 a _ m10 (Nat.lt_succ_self m10) ⟨(w64 (y7 + 1)), ha.sub ⟨rfl, rfl, rfl, rfl, trivial⟩, hB43, (hS44.sel [] rfl), hF⟩
      · replace hF := ifN h13 hF
        refine W.exit ?_
        refine fun a ha => hK2 _ _ ?_ a ha
        refine W.seq fun K69 hK69 => ?_
        refine W.region ?_
        refine wl_move rfl rfl ?_
        refine wl_lenr (e := ty_106) (l := x0) Try.underlying82 rfl rfl h0_0 ?_
        obtain ⟨u70, hu70, hF⟩ := bindE hF
        refine wl_call rfl Try.call57 (C_spec_l1In w4 (List.length x0 : Int) 1 12 _ hu70) rfl ?_
        rintro _ w71 ⟨rfl, hb72⟩
        refine ⟨_, rfl, ?_⟩
        have hB73 := hB5.trans (hb72.mono hB5.size)
        have hS74 := hS6.below hb72
        refine wl_assign rfl rfl ?_
        refine WL.nil ?_
        refine fun a ha => hK69 _ _ ?_ a ha
        refine W.ret ?_
        have hr := Option.some.inj hF
        subst hr
        exact rets (vs := [(.bool u70)]) hQ rfl ⟨rv_tmp rfl, trivial⟩ ⟨rfl, hB73⟩
theorem C_spec_l1All (w0 : World) (x0 : (List Int)) (v0_0 : Value) (h0_0 : rdS ty_3 (· < w0.heap.size) w0 v0_0 x0) (x1 : Int) (x2 : Int) (r : Bool) (hF : F_spec_l1All x0 x1 x2 = some r) :
    Calls Try.prog 58 [v0_0, (.int .i64 x1), (.int .i64 x2)].toArray w0 fun e w' => e = .returned (.bool r) ∧ Below w0.heap.size w0 w' := by
  refine calls_mk' Try.func58 rfl Try.ntmps58 rfl rfl fun Q hQ hP => ?_
  have hB : Below w0.heap.size w0 w0 := Below.refl _ _
  have hS : Sep w0.heap.size w0 [] := Sep.nil _ _
  unfold F_spec_l1All at hF
  refine W.seq fun K1 hK1 => ?_
  refine W.region ?_
  refine wl_assign rfl rfl ?_
  refine WL.nil ?_
  refine fun a ha => hK1 _ _ ?_ a ha
  refine W.seq fun K2 hK2 => ?_
  refine W.seq fun K3 hK3 => ?_
  refine W.region ?_
  refine wl_move rfl rfl ?_
  refine wl_lenr (e := ty_3) (l := x0) Try.underlying24 rfl rfl h0_0 ?_
  refine wl_move rfl rfl ?_
  refine WL.nil ?_
  refine fun a ha => hK3 _ _ ?_ a ha
  refine W.block ?_
  refine W.loopk (fun m a w4 => ∃ (y7 : Int), St 21 [(1, (.int .i64 x1)), (2, (.int .i64 x2)), (9, v0_0), (10, (.int .i64 (List.length x0 : Int))), (11, (.int .i64 y7))] a ∧ Below w0.heap.size w0 w4 ∧ Sep w0.heap.size w4 [] ∧ F_spec_l1All_L1 x0 x1 x2 m y7 = some r) FU ?_ ?_
  ·
    exact fun a ha => ⟨0, ha.sub ⟨rfl, rfl, rfl, rfl, rfl, trivial⟩, hB, (hS.sel [] rfl), hF⟩
  ·
    rintro m10 a w4 ⟨y7, ha, hB5, hS6, hF⟩ KL9 hKL9
    refine W.at ?_ ha
    cases m10 with
    | zero => exact noneE hF
    | succ m10 =>
      obtain ⟨nx8, hnx8⟩ : ∃ k, k = F_spec_l1All_L1 x0 x1 x2 m10 := ⟨_, rfl⟩
      rw [F_spec_l1All_L1, ← hnx8] at hF
      refine W.seq fun K11 hK11 => ?_
      refine W.region ?_
      refine wl_lss rfl rfl rfl ?_
      refine WL.nil ?_
      refine fun a ha => hK11 _ _ ?_ a ha
      refine W.seq fun K12 hK12 => ?_
      refine W.cond rfl (fun h13 => ?_) (fun h13 => ?_)
      · replace hF := ifP h13 hF
        refine W.skip ?_
        refine fun a ha => hK12 _ _ ?_ a ha
        refine W.seq fun K14 hK14 => ?_
        refine W.block ?_
        refine W.seq fun K15 hK15 => ?_
        refine W.region ?_
        obtain ⟨u16, hu16, hF⟩ := bindE hF
        refine wl_index (e := ty_3) Try.underlying24 rfl rfl rfl h0_0 hu16 ?_
        rintro p17 _ rfl hp18
        refine wl_load_p (vs := [(.int .i64 u16)]) (v := (.int .i64 u16)) tf_3 rfl rfl (hp18.ro hB5) rfl rfl ?_
        refine wl_assign rfl rfl ?_
        refine WL.nil ?_
        refine fun a ha => hK15 _ _ ?_ a ha
        refine W.seq fun K19 hK19 => ?_
        refine W.region ?_
        refine wl_move rfl rfl ?_
        refine wl_move rfl rfl ?_
        refine wl_move rfl rfl ?_
        obtain ⟨u20, hu20, hF⟩ := bindE hF
        refine wl_call rfl Try.call57 (C_spec_l1In w4 u16 x1 x2 _ hu20) rfl ?_
        rintro _ w21 ⟨rfl, hb22⟩
        refine ⟨_, rfl, ?_⟩
        have hB23 := hB5.trans (hb22.mono hB5.size)
        have hS24 := hS6.below hb22
        refine wl_not rfl rfl ?_
        refine WL.nil ?_
        refine fun a ha => hK19 _ _ ?_ a ha
        refine W.cond rfl (fun h26 => ?_) (fun h26 => ?_)
        · replace hF := ifP h26 hF
          refine W.seq fun K27 hK27 => ?_
          refine W.region ?_
          refine wl_assign rfl rfl ?_
          refine WL.nil ?_
          refine fun a ha => hK27 _ _ ?_ a ha
          refine W.ret ?_
          have hr := Option.some.inj hF
          subst hr
          exact rets (vs := [(.bool false)]) hQ rfl ⟨rv_tmp rfl, trivial⟩ ⟨rfl, hB23⟩
        · replace hF := ifN h26 hF
          refine W.skip ?_
          refine fun a ha => hK14 _ _ ?_ a ha
          refine W.region ?_
          refine wl_add rfl rfl rfl ?_
          refine wl_move rfl rfl ?_
          refine WL.nil ?_
          rw [hnx8] at hF
          exact fun a ha => hKL9 a _ m10 (Nat.lt_succ_self m10) ⟨(w64 (y7 + 1)), ha.sub ⟨rfl, rfl, rfl, rfl, rfl, trivial⟩, hB23, (hS24.sel [] rfl), hF⟩
      · replace hF := ifN h13 hF
        refine W.exit ?_
        refine fun a ha => hK2 _ _ ?_ a ha
        refine W.seq fun K28 hK28 => ?_
        refine W.region ?_
        refine wl_assign rfl rfl ?_
        refine WL.nil ?_
        refine fun a ha => hK28 _ _ ?_ a ha
        refine W.ret ?_
        have hr := Option.some.inj hF
        subst hr
        exact rets (vs := [(.bool true)]) hQ rfl ⟨rv_tmp rfl, trivial⟩ ⟨rfl, hB5⟩
theorem C_spec_apDistance (w0 : World) (x0 : Int) (r : Bool) (hF : F_spec_apDistance x0 = some r) :
    Calls Try.prog 59 [(.int .i64 x0)].toArray w0 fun e w' => e = .returned (.bool r) ∧ Below w0.heap.size w0 w' := by
  refine calls_mk' Try.func59 rfl Try.ntmps59 rfl rfl fun Q hQ hP => ?_
  have hB : Below w0.heap.size w0 w0 := Below.refl _ _
  have hS : Sep w0.heap.size w0 [] := Sep.nil _ _
  unfold F_spec_apDistance at hF
  refine W.seq fun K1 hK1 => ?_
  refine W.region ?_
  refine wl_assign rfl rfl ?_
  refine WL.nil ?_
  refine fun a ha => hK1 _ _ ?_ a ha
  refine W.seq fun K2 hK2 => ?_
  refine W.region ?_
  refine wl_move rfl rfl ?_
  obtain ⟨u3, hu3, hF⟩ := bindE hF
  refine wl_call rfl Try.call57 (C_spec_l1In w0 x0 0 80 _ hu3) rfl ?_
  rintro _ w4 ⟨rfl, hb5⟩
  refine ⟨_, rfl, ?_⟩
  have hB6 := hB.trans (hb5.mono hB.size)
  have hS7 := hS.below hb5
  refine wl_assign rfl rfl ?_
  refine WL.nil ?_
  refine fun a ha => hK2 _ _ ?_ a ha
  refine W.ret ?_
  have hr := Option.some.inj hF
  subst hr
  exact rets (vs := [(.bool u3)]) hQ rfl ⟨rv_tmp rfl, trivial⟩ ⟨rfl, hB6⟩
theorem C_spec_mvStep (w0 : World) (x0 : Int) (r : Bool) (hF : F_spec_mvStep x0 = some r) :
    Calls Try.prog 60 [(.int .i64 x0)].toArray w0 fun e w' => e = .returned (.bool r) ∧ Below w0.heap.size w0 w' := by
  refine calls_mk' Try.func60 rfl Try.ntmps60 rfl rfl fun Q hQ hP => ?_
  have hB : Below w0.heap.size w0 w0 := Below.refl _ _
  have hS : Sep w0.heap.size w0 [] := Sep.nil _ _
  unfold F_spec_mvStep at hF
  refine W.seq fun K1 hK1 => ?_
  refine W.region ?_
  refine wl_assign rfl rfl ?_
  refine WL.nil ?_
  refine fun a ha => hK1 _ _ ?_ a ha
  refine W.seq fun K2 hK2 => ?_
  refine W.region ?_
  refine wl_move rfl rfl ?_
  obtain ⟨u3, hu3, hF⟩ := bindE hF
  refine wl_call rfl Try.call57 (C_spec_l1In w0 x0 1 24 _ hu3) rfl ?_
  rintro _ w4 ⟨rfl, hb5⟩
  refine ⟨_, rfl, ?_⟩
  have hB6 := hB.trans (hb5.mono hB.size)
  have hS7 := hS.below hb5
  refine wl_assign rfl rfl ?_
  refine WL.nil ?_
  refine fun a ha => hK2 _ _ ?_ a ha
  refine W.ret ?_
  have hr := Option.some.inj hF
  subst hr
  exact rets (vs := [(.bool u3)]) hQ rfl ⟨rv_tmp rfl, trivial⟩ ⟨rfl, hB6⟩
theorem C_spec_swGood (w0 : World) (x0 : ((List (List (Int × Int))) × (List Int) × Int × Int)) (v0_0 : Value) (h0_0 : rdS ty_82 (· < w0.heap.size) w0 v0_0 x0.1) (v0_1 : Value) (h0_1 : rdS ty_3 (· < w0.heap.size) w0 v0_1 x0.2.1) (r : Bool) (hF : F_spec_swGood x0 = some r) :
    Calls Try.prog 29 [(.agg #[v0_0, v0_1, (.int .i64 x0.2.2.1), (.int .i64 x0.2.2.2)])].toArray w0 fun e w' => e = .returned (.bool r) ∧ Below w0.heap.size w0 w' := by
  refine calls_mk' Try.func29 rfl Try.ntmps29 rfl rfl fun Q hQ hP => ?_
  have hB : Below w0.heap.size w0 w0 := Below.refl _ _
  have hS : Sep w0.heap.size w0 [] := Sep.nil _ _
  unfold F_spec_swGood at hF
  refine W.seq fun K1 hK1 => ?_
  refine W.region ?_
  refine wl_box (cs := [v0_0, v0_1, (.int .i64 x0.2.2.1), (.int .i64 x0.2.2.2)]) rfl rfl rfl hB hS ?_
  intro b2 w3 hb4 hB5 hS6
  refine wl_assign rfl rfl ?_
  refine WL.nil ?_
  refine fun a ha => hK1 _ _ ?_ a ha
  refine W.seq fun K7 hK7 => ?_
  refine W.seq fun K8 hK8 => ?_
  refine W.region ?_
  refine wl_field (o := 0) (off' := 0) ff_42_0 rfl rfl rfl ?_
  refine wl_load_blk (i := 0) (vs := [v0_0]) (v := v0_0) tf_40 rfl rfl hS6 rfl rfl rfl ?_
  refine wl_lenr (e := ty_82) (l := x0.1) Try.underlying40 rfl rfl h0_0 ?_
  refine wl_move rfl rfl ?_
  refine WL.nil ?_
  refine fun a ha => hK8 _ _ ?_ a ha
  refine W.block ?_
  refine W.loopk (fun m a w9 => ∃ (y12 : Int), St 55 [(1, (.pointer (some ⟨b2, 0, none⟩))), (6, v0_0), (7, (.int .i64 (List.length x0.1 : Int))), (8, (.int .i64 y12))] a ∧ Below w0.heap.size w0 w9 ∧ Sep w0.heap.size w9 [R.blk b2 42 [v0_0, v0_1, (.int .i64 x0.2.2.1), (.int .i64 x0.2.2.2)]] ∧ F_spec_swGood_L1 x0 m y12 = some r) FU ?_ ?_
  ·
    exact fun a ha => ⟨0, ha.sub ⟨rfl, rfl, rfl, rfl, trivial⟩, hB5, (hS6.sel [0] rfl), hF⟩
  ·
    rintro m15 a w9 ⟨y12, ha, hB10, hS11, hF⟩ KL14 hKL14
    refine W.at ?_ ha
    cases m15 with
    | zero => exact noneE hF
    | succ m15 =>
      obtain ⟨nx13, hnx13⟩ : ∃ k, k = F_spec_swGood_L1 x0 m15 := ⟨_, rfl⟩
      rw [F_spec_swGood_L1, ← hnx13] at hF
      refine W.seq fun K16 hK16 => ?_
      refine W.region ?_
      refine wl_lss rfl rfl rfl ?_
      refine WL.nil ?_
      refine fun a ha => hK16 _ _ ?_ a ha
      refine W.seq fun K17 hK17 => ?_
      refine W.cond rfl (fun h18 => ?_) (fun h18 => ?_)
      · replace hF := ifP h18 hF
        refine W.skip ?_
        refine fun a ha => hK17 _ _ ?_ a ha
        refine W.seq fun K19 hK19 => ?_
        refine W.block ?_
        refine W.seq fun K20 hK20 => ?_
        refine W.region ?_
        obtain ⟨u21, hu21, hF⟩ := bindE hF
        refine wl_index (e := ty_82) Try.underlying40 rfl rfl rfl h0_0 hu21 ?_
        rintro p22 _ ⟨v24, rfl, hv25⟩ hp23
        refine wl_load_p (vs := [v24]) (v := v24) tf_82 rfl rfl (hp23.ro hB10) rfl rfl ?_
        refine wl_assign rfl rfl ?_
        refine WL.nil ?_
        refine fun a ha => hK20 _ _ ?_ a ha
        refine W.seq fun K26 hK26 => ?_
        obtain ⟨k31, hk31, hF⟩ := jE1 hF
        have hJ32 : ∀ (y30 : Bool) (w27 : World) (_ : k31 y30 = some r) (_ : Below w0.heap.size w0 w27) (_ : Sep w0.heap.size w27 [R.blk b2 42 [v0_0, v0_1, (.int .i64 x0.2.2.1), (.int .i64 x0.2.2.2)]]), ∀ a, St 55 [(1, (.pointer (some ⟨b2, 0, none⟩))), (6, v0_0), (7, (.int .i64 (List.length x0.1 : Int))), (8, (.int .i64 y12)), (24, (.bool y30))] a → K26 a w27 := by
          intro y30 w27 hF hB28 hS29
          subst hk31
          refine fun a ha => hK26 _ _ ?_ a ha
          refine W.cond rfl (fun h33 => ?_) (fun h33 => ?_)
          · replace hF := ifP h33 hF
            refine W.seq fun K34 hK34 => ?_
            refine W.region ?_
            refine wl_assign rfl rfl ?_
            refine WL.nil ?_
            refine fun a ha => hK34 _ _ ?_ a ha
            refine W.ret ?_
            have hr := Option.some.inj hF
            subst hr
            exact rets (vs := [(.bool false)]) hQ rfl ⟨rv_tmp rfl, trivial⟩ ⟨rfl, hB28⟩
          · replace hF := ifN h33 hF
            refine W.skip ?_
            refine fun a ha => hK19 _ _ ?_ a ha
            refine W.region ?_
            refine wl_add rfl rfl rfl ?_
            refine wl_move rfl rfl ?_
            refine WL.nil ?_
            rw [hnx13] at hF
            exact fun a ha => hKL14 a _ m15 (Nat.lt_succ_self m15) ⟨(w64 (y12 + 1)), ha.sub ⟨rfl, rfl, rfl, rfl, trivial⟩, hB28, (hS29.sel [0] rfl), hF⟩
        refine W.region ?_
        refine wl_move rfl rfl ?_
        obtain ⟨u35, hu35, hF⟩ := bindE hF
        refine wl_call rfl Try.call56 (C_spec_chGood w9 u21 v24 (hv25.ro hB10) _ hu35) rfl ?_
        rintro _ w36 ⟨rfl, hb37⟩
        refine ⟨_, rfl, ?_⟩
        have hB38 := hB10.trans (hb37.mono hB10.size)
        have hS39 := hS11.below hb37
        refine wl_not rfl rfl ?_
        refine wl_move rfl rfl ?_
        rcases bE (!u35) with h41 | h41
        · replace hF := ifP h41 hF
          refine wl_off rfl rfl rfl h41 ?_
          refine wl_off rfl rfl rfl h41 ?_
          refine wl_off rfl rfl rfl h41 ?_
          refine wl_off rfl rfl rfl h41 ?_
          refine wl_off rfl rfl rfl h41 ?_
          refine wl_off rfl rfl rfl h41 ?_
          refine wl_off rfl rfl rfl h41 ?_
          refine wl_off rfl rfl rfl h41 ?_
          refine wl_pick_t rfl rfl h41 rfl ?_
          refine WL.nil ?_
          exact fun a ha => hJ32 (true) _ hF hB38 (hS39.sel [0] rfl) a (ha.sub ⟨rfl, rfl, rfl, rfl, rfl, trivial⟩)
        · replace hF := ifN h41 hF
          refine wl_on rfl rfl h41 ?_
          refine wl_move rfl rfl ?_
          refine wl_on rfl rfl h41 ?_
          refine wl_lenr (e := ty_106) (l := u21) Try.underlying82 rfl rfl hv25 ?_
          refine wl_on rfl rfl h41 ?_
          refine wl_field (o := 0) (off' := 0) ff_42_0 rfl rfl rfl ?_
          refine wl_on rfl rfl h41 ?_
          refine wl_load_blk (i := 0) (vs := [v0_0]) (v := v0_0) tf_40 rfl rfl hS39 rfl rfl rfl ?_
          refine wl_on rfl rfl h41 ?_
          obtain ⟨u42, hu42, hF⟩ := bindE hF
          refine wl_index (e := ty_82) Try.underlying40 rfl rfl rfl h0_0 hu42 ?_
          rintro p43 _ ⟨v45, rfl, hv46⟩ hp44
          refine wl_on rfl rfl h41 ?_
          refine wl_load_p (vs := [v45]) (v := v45) tf_82 rfl rfl (hp44.ro hB38) rfl rfl ?_
          refine wl_on rfl rfl h41 ?_
          refine wl_lenr (e := ty_106) (l := u42) Try.underlying82 rfl rfl hv46 ?_
          refine wl_on rfl rfl h41 ?_
          refine wl_neq rfl rfl rfl ?_
          refine wl_pick_f rfl rfl h41 rfl ?_
          refine WL.nil ?_
          exact fun a ha => hJ32 (((List.length u21 : Int) != (List.length u42 : Int))) _ hF hB38 (hS39.sel [0] rfl) a (ha.sub ⟨rfl, rfl, rfl, rfl, rfl, trivial⟩)
      · replace hF := ifN h18 hF
        refine W.exit ?_
        refine fun a ha => hK7 _ _ ?_ a ha
        refine W.seq fun K47 hK47 => ?_
        obtain ⟨k52, hk52, hF⟩ := jE1 hF
        have hJ53 : ∀ (y51 : Bool) (w48 : World) (_ : k52 y51 = some r) (_ : Below w0.heap.size w0 w48) (_ : Sep w0.heap.size w48 []), ∀ a, St 55 [(2, (.bool y51))] a → K47 a w48 := by
          intro y51 w48 hF hB49 hS50
          subst hk52
          refine fun a ha => hK47 _ _ ?_ a ha
          refine W.ret ?_
          have hr := Option.some.inj hF
          subst hr
          exact rets (vs := [(.bool y51)]) hQ rfl ⟨rv_tmp rfl, trivial⟩ ⟨rfl, hB49⟩
        refine W.region ?_
        refine wl_field (o := 0) (off' := 0) ff_42_0 rfl rfl rfl ?_
        refine wl_load_blk (i := 0) (vs := [v0_0]) (v := v0_0) tf_40 rfl rfl hS11 rfl rfl rfl ?_
        refine wl_lenr (e := ty_82) (l := x0.1) Try.underlying40 rfl rfl h0_0 ?_
        obtain ⟨u54, hu54, hF⟩ := bindE hF
        refine wl_call rfl Try.call57 (C_spec_l1In w9 (List.length x0.1 : Int) 2 8 _ hu54) rfl ?_
        rintro _ w55 ⟨rfl, hb56⟩
        refine ⟨_, rfl, ?_⟩
        have hB57 := hB10.trans (hb56.mono hB10.size)
        have hS58 := hS11.below hb56
        refine wl_move rfl rfl ?_
        rcases bE u54 with h60 | h60
        · replace hF := ifP h60 hF
          refine wl_on rfl rfl h60 ?_
          refine wl_field (o := 1) (off' := 1) ff_42_1 rfl rfl rfl ?_
          refine wl_on rfl rfl h60 ?_
          refine wl_load_blk (i := 0) (vs := [v0_1]) (v := v0_1) tf_24 rfl rfl hS58 rfl rfl rfl ?_
          refine wl_on rfl rfl h60 ?_
          refine wl_lenr (e := ty_3) (l := x0.2.1) Try.underlying24 rfl rfl h0_1 ?_
          refine wl_on rfl rfl h60 ?_
          refine wl_field (o := 0) (off' := 0) ff_42_0 rfl rfl rfl ?_
          refine wl_on rfl rfl h60 ?_
          refine wl_load_blk (i := 0) (vs := [v0_0]) (v := v0_0) tf_40 rfl rfl hS58 rfl rfl rfl ?_
          refine wl_on rfl rfl h60 ?_
          refine wl_lenr (e := ty_82) (l := x0.1) Try.underlying40 rfl rfl h0_0 ?_
          refine wl_on rfl rfl h60 ?_
          refine wl_sub rfl rfl rfl ?_
          refine wl_on rfl rfl h60 ?_
          refine wl_eql rfl rfl rfl ?_
          refine wl_pick_t rfl rfl h60 rfl ?_
          refine wl_move rfl rfl ?_
          rcases bE ((List.length x0.2.1 : Int) == (w64 ((List.length x0.1 : Int) - 1))) with h61 | h61
          · replace hF := ifP h61 hF
            refine wl_on rfl rfl h61 ?_
            refine wl_field (o := 1) (off' := 1) ff_42_1 rfl rfl rfl ?_
            refine wl_on rfl rfl h61 ?_
            refine wl_load_blk (i := 0) (vs := [v0_1]) (v := v0_1) tf_24 rfl rfl hS58 rfl rfl rfl ?_
            refine wl_on rfl rfl h61 ?_
            obtain ⟨u62, hu62, hF⟩ := bindE hF
            refine wl_call rfl Try.call58 (C_spec_l1All w55 x0.2.1 v0_1 (h0_1.ro hB57) 1 64 _ hu62) rfl ?_
            rintro _ w63 ⟨rfl, hb64⟩
            refine ⟨_, rfl, ?_⟩
            have hB65 := hB57.trans (hb64.mono hB57.size)
            have hS66 := hS58.below hb64
            refine wl_pick_t rfl rfl h61 rfl ?_
            refine wl_move rfl rfl ?_
            rcases bE u62 with h68 | h68
            · replace hF := ifP h68 hF
              refine wl_on rfl rfl h68 ?_
              refine wl_field (o := 2) (off' := 2) ff_42_2 rfl rfl rfl ?_
              refine wl_on rfl rfl h68 ?_
              refine wl_load_blk (i := 0) (vs := [(.int .i64 x0.2.2.1)]) (v := (.int .i64 x0.2.2.1)) tf_3 rfl rfl hS66 rfl rfl rfl ?_
              refine wl_on rfl rfl h68 ?_
              obtain ⟨u69, hu69, hF⟩ := bindE hF
              refine wl_call rfl Try.call59 (C_spec_apDistance w63 x0.2.2.1 _ hu69) rfl ?_
              rintro _ w70 ⟨rfl, hb71⟩
              refine ⟨_, rfl, ?_⟩
              have hB72 := hB65.trans (hb71.mono hB65.size)
              have hS73 := hS66.below hb71
              refine wl_pick_t rfl rfl h68 rfl ?_
              refine wl_move rfl rfl ?_
              rcases bE u69 with h75 | h75
              · replace hF := ifP h75 hF
                refine wl_on rfl rfl h75 ?_
                refine wl_field (o := 3) (off' := 3) ff_42_3 rfl rfl rfl ?_
                refine wl_on rfl rfl h75 ?_
                refine wl_load_blk (i := 0) (vs := [(.int .i64 x0.2.2.2)]) (v := (.int .i64 x0.2.2.2)) tf_3 rfl rfl hS73 rfl rfl rfl ?_
                refine wl_on rfl rfl h75 ?_
                obtain ⟨u76, hu76, hF⟩ := bindE hF
                refine wl_call rfl Try.call60 (C_spec_mvStep w70 x0.2.2.2 _ hu76) rfl ?_
                rintro _ w77 ⟨rfl, hb78⟩
                refine ⟨_, rfl, ?_⟩
                have hB79 := hB72.trans (hb78.mono hB72.size)
                have hS80 := hS73.below hb78
                refine wl_pick_t rfl rfl h75 rfl ?_
                refine wl_assign rfl rfl ?_
                refine WL.nil ?_
                exact fun a ha => hJ53 (u76) _ hF hB79 (hS80.sel [] rfl) a (ha.sub ⟨rfl, trivial⟩)
              · replace hF := ifN h75 hF
                refine wl_off rfl rfl rfl h75 ?_
                refine wl_off rfl rfl rfl h75 ?_
                refine wl_off rfl rfl rfl h75 ?_
                refine wl_pick_f rfl rfl h75 rfl ?_
                refine wl_assign rfl rfl ?_
                refine WL.nil ?_
                exact fun a ha => hJ53 (false) _ hF hB72 (hS73.sel [] rfl) a (ha.sub ⟨rfl, trivial⟩)
            · replace hF := ifN h68 hF
              refine wl_off rfl rfl rfl h68 ?_
              refine wl_off rfl rfl rfl h68 ?_
              refine wl_off rfl rfl rfl h68 ?_
              refine wl_pick_f rfl rfl h68 rfl ?_
              refine wl_move rfl rfl ?_
              refine wl_off rfl rfl rfl rfl ?_
              refine wl_off rfl rfl rfl rfl ?_
              refine wl_off rfl rfl rfl rfl ?_
              refine wl_pick_f rfl rfl rfl rfl ?_
              refine wl_assign rfl rfl ?_
              refine WL.nil ?_
              exact fun a ha => hJ53 (false) _ hF hB65 (hS66.sel [] rfl) a (ha.sub ⟨rfl, trivial⟩)
          · replace hF := ifN h61 hF
            refine wl_off rfl rfl rfl h61 ?_
            refine wl_off rfl rfl rfl h61 ?_
            refine wl_off rfl rfl rfl h61 ?_
            refine wl_pick_f rfl rfl h61 rfl ?_
            refine wl_move rfl rfl ?_
            refine wl_off rfl rfl rfl rfl ?_
            refine wl_off rfl rfl rfl rfl ?_
            refine wl_off rfl rfl rfl rfl ?_
            refine wl_pick_f rfl rfl rfl rfl ?_
            refine wl_move rfl rfl ?_
            refine wl_off rfl rfl rfl rfl ?_
            refine wl_off rfl rfl rfl rfl ?_
            refine wl_off rfl rfl rfl rfl ?_
            refine wl_pick_f rfl rfl rfl rfl ?_
            refine wl_assign rfl rfl ?_
            refine WL.nil ?_
            exact fun a ha => hJ53 (false) _ hF hB57 (hS58.sel [] rfl) a (ha.sub ⟨rfl, trivial⟩)
        · replace hF := ifN h60 hF
          refine wl_off rfl rfl rfl h60 ?_
          refine wl_off rfl rfl rfl h60 ?_
          refine wl_off rfl rfl rfl h60 ?_
          refine wl_off rfl rfl rfl h60 ?_
          refine wl_off rfl rfl rfl h60 ?_
          refine wl_off rfl rfl rfl h60 ?_
          refine wl_off rfl rfl rfl h60 ?_
          refine wl_off rfl rfl rfl h60 ?_
          refine wl_pick_f rfl rfl h60 rfl ?_
          refine wl_move rfl rfl ?_
          refine wl_off rfl rfl rfl rfl ?_
          refine wl_off rfl rfl rfl rfl ?_
          refine wl_off rfl rfl rfl rfl ?_
          refine wl_pick_f rfl rfl rfl rfl ?_
          refine wl_move rfl rfl ?_
          refine wl_off rfl rfl rfl rfl ?_
          refine wl_off rfl rfl rfl rfl ?_
          refine wl_off rfl rfl rfl rfl ?_
          refine wl_pick_f rfl rfl rfl rfl ?_
          refine wl_move rfl rfl ?_
          refine wl_off rfl rfl rfl rfl ?_
          refine wl_off rfl rfl rfl rfl ?_
          refine wl_off rfl rfl rfl rfl ?_
          refine wl_pick_f rfl rfl rfl rfl ?_
          refine wl_assign rfl rfl ?_
          refine WL.nil ?_
          exact fun a ha => hJ53 (false) _ hF hB57 (hS58.sel [] rfl) a (ha.sub ⟨rfl, trivial⟩)
theorem C_spec_l1Own (w0 : World) (x0 : (List Int)) (v0_0 : Value) (h0_0 : rdS ty_3 (· < w0.heap.size) w0 v0_0 x0) (r : (List Int)) (hF : F_spec_l1Own x0 = some r) :
    Calls Try.prog 31 [v0_0].toArray w0 fun e w' => ∃ (q0 : Value) (G0 : List Nat), e = .returned q0 ∧ Below w0.heap.size w0 w' ∧ Sep w0.heap.size w' [R.own ty_3 G0 q0 r] := by
  refine calls_mk' Try.func31 rfl Try.ntmps31 rfl rfl fun Q hQ hP => ?_
  have hB : Below w0.heap.size w0 w0 := Below.refl _ _
  have hS : Sep w0.heap.size w0 [] := Sep.nil _ _
  unfold F_spec_l1Own at hF
  refine W.seq fun K1 hK1 => ?_
  refine W.region ?_
  refine wl_assign rfl rfl ?_
  refine WL.nil ?_
  refine fun a ha => hK1 _ _ ?_ a ha
  refine W.seq fun K2 hK2 => ?_
  refine W.region ?_
  refine wl_lit (vs := []) (l := []) fl_3 Try.underlying24 rfl rfl rfl rfl rfl rfl hB hS ?_
  intro v3 F4 w5 hb6 hB7 hS8
  refine wl_move rfl rfl ?_
  obtain ⟨u9, hu9, hF⟩ := bindE hF
  refine wl_append (i := 0) (S := (· < w5.heap.size)) fl_3 Try.underlying24 rfl rfl rfl hB7 hS8 rfl (h0_0.ro hB7) hu9 ?_
  intro v10 F11 w12 hk13 hB14 hS15
  refine wl_assign rfl rfl ?_
  refine WL.nil ?_
  refine fun a ha => hK2 _ _ ?_ a ha
  refine W.ret ?_
  have hr := Option.some.inj hF
  subst hr
  exact rets (vs := [v10]) hQ rfl ⟨rv_tmp rfl, trivial⟩ ⟨v10, F11, rfl, hB14, hS15.sel [0] rfl⟩
theorem C_impl_within (w0 : World) (x0 : Int) (x1 : Int) (x2 : Int) (r : Bool) (hF : F_impl_within x0 x1 x2 = some r) :
    Calls Try.prog 67 [(.int .i64 x0), (.int .i64 x1), (.int .i64 x2)].toArray w0 fun e w' => e = .returned (.bool r) ∧ Below w0.heap.size w0 w' := by
  refine calls_mk' Try.func67 rfl Try.ntmps67 rfl rfl fun Q hQ hP => ?_
  have hB : Below w0.heap.size w0 w0 := Below.refl _ _
  have hS : Sep w0.heap.size w0 [] := Sep.nil _ _
  unfold F_impl_within at hF
  refine W.seq fun K1 hK1 => ?_
  refine W.region ?_
  refine wl_assign rfl rfl ?_
  refine WL.nil ?_
  refine fun a ha => hK1 _ _ ?_ a ha
  refine W.seq fun K2 hK2 => ?_
  obtain ⟨k7, hk7, hF⟩ := jE1 hF
  have hJ8 : ∀ (y6 : Bool) (w3 : World) (_ : k7 y6 = some r) (_ : Below w0.heap.size w0 w3) (_ : Sep w0.heap.size w3 []), ∀ a, St 15 [(6, (.bool y6))] a → K2 a w3 := by
    intro y6 w3 hF hB4 hS5
    subst hk7
    refine fun a ha => hK2 _ _ ?_ a ha
    refine W.ret ?_
    have hr := Option.some.inj hF
    subst hr
    exact rets (vs := [(.bool y6)]) hQ rfl ⟨rv_tmp rfl, trivial⟩ ⟨rfl, hB4⟩
  refine W.region ?_
  refine wl_move rfl rfl ?_
  refine wl_move rfl rfl ?_
  refine wl_geq rfl rfl rfl ?_
  refine wl_move rfl rfl ?_
  rcases bE (decide (x1 ≤ x0)) with h9 | h9
  · replace hF := ifP h9 hF
    refine wl_on rfl rfl h9 ?_
    refine wl_move rfl rfl ?_
    refine wl_on rfl rfl h9 ?_
    refine wl_move rfl rfl ?_
    refine wl_on rfl rfl h9 ?_
    refine wl_leq rfl rfl rfl ?_
    refine wl_pick_t rfl rfl h9 rfl ?_
    refine wl_assign rfl rfl ?_
    refine WL.nil ?_
    exact fun a ha => hJ8 ((decide (x0 ≤ x2))) _ hF hB (hS.sel [] rfl) a (ha.sub ⟨rfl, trivial⟩)
  · replace hF := ifN h9 hF
    refine wl_off rfl rfl rfl h9 ?_
    refine wl_off rfl rfl rfl h9 ?_
    refine wl_off rfl rfl rfl h9 ?_
    refine wl_pick_f rfl rfl h9 rfl ?_
    refine wl_assign rfl rfl ?_
    refine WL.nil ?_
    exact fun a ha => hJ8 (false) _ hF hB (hS.sel [] rfl) a (ha.sub ⟨rfl, trivial⟩)
theorem C_impl_IsSpot (w0 : World) (x0 : (Int × Int)) (r : Bool) (hF : F_impl_IsSpot x0 = some r) :
    Calls Try.prog 122 [(.agg #[(.int .i64 x0.1), (.int .i64 x0.2)])].toArray w0 fun e w' => e = .returned (.bool r) ∧ Below w0.heap.size w0 w' := by
  refine calls_mk' Try.func122 rfl Try.ntmps122 rfl rfl fun Q hQ hP => ?_
  have hB : Below w0.heap.size w0 w0 := Below.refl _ _
  have hS : Sep w0.heap.size w0 [] := Sep.nil _ _
  unfold F_impl_IsSpot at hF
  refine W.seq fun K1 hK1 => ?_
  refine W.region ?_
  refine wl_box (cs := [(.int .i64 x0.1), (.int .i64 x0.2)]) rfl rfl rfl hB hS ?_
  intro b2 w3 hb4 hB5 hS6
  refine wl_assign rfl rfl ?_
  refine WL.nil ?_
  refine fun a ha => hK1 _ _ ?_ a ha
  refine W.seq fun K7 hK7 => ?_
  obtain ⟨k12, hk12, hF⟩ := jE1 hF
  have hJ13 : ∀ (y11 : Bool) (w8 : World) (_ : k12 y11 = some r) (_ : Below w0.heap.size w0 w8) (_ : Sep w0.heap.size w8 []), ∀ a, St 11 [(2, (.bool y11))] a → K7 a w8 := by
    intro y11 w8 hF hB9 hS10
    subst hk12
    refine fun a ha => hK7 _ _ ?_ a ha
    refine W.ret ?_
    have hr := Option.some.inj hF
    subst hr
    exact rets (vs := [(.bool y11)]) hQ rfl ⟨rv_tmp rfl, trivial⟩ ⟨rfl, hB9⟩
  refine W.region ?_
  refine wl_field (o := 0) (off' := 0) ff_106_0 rfl rfl rfl ?_
  refine wl_load_blk (i := 0) (vs := [(.int .i64 x0.1)]) (v := (.int .i64 x0.1)) tf_3 rfl rfl hS6 rfl rfl rfl ?_
  obtain ⟨u14, hu14, hF⟩ := bindE hF
  refine wl_call rfl Try.call67 (C_impl_within w3 x0.1 0 1280 _ hu14) rfl ?_
  rintro _ w15 ⟨rfl, hb16⟩
  refine ⟨_, rfl, ?_⟩
  have hB17 := hB5.trans (hb16.mono hB5.size)
  have hS18 := hS6.below hb16
  refine wl_move rfl rfl ?_
  rcases bE u14 with h20 | h20
  · replace hF := ifP h20 hF
    refine wl_on rfl rfl h20 ?_
    refine wl_field (o := 1) (off' := 1) ff_106_1 rfl rfl rfl ?_
    refine wl_on rfl rfl h20 ?_
    refine wl_load_blk (i := 0) (vs := [(.int .i64 x0.2)]) (v := (.int .i64 x0.2)) tf_3 rfl rfl hS18 rfl rfl rfl ?_
    refine wl_on rfl rfl h20 ?_
    obtain ⟨u21, hu21, hF⟩ := bindE hF
    refine wl_call rfl Try.call67 (C_impl_within w15 x0.2 0 672 _ hu21) rfl ?_
    rintro _ w22 ⟨rfl, hb23⟩
    refine ⟨_, rfl, ?_⟩
    have hB24 := hB17.trans (hb23.mono hB17.size)
    have hS25 := hS18.below hb23
    refine wl_pick_t rfl rfl h20 rfl ?_
    refine wl_assign rfl rfl ?_
    refine WL.nil ?_
    exact fun a ha => hJ13 (u21) _ hF hB24 (hS25.sel [] rfl) a (ha.sub ⟨rfl, trivial⟩)
  · replace hF := ifN h20 hF
    refine wl_off rfl rfl rfl h20 ?_
    refine wl_off rfl rfl rfl h20 ?_
    refine wl_off rfl rfl rfl h20 ?_
    refine wl_pick_f rfl rfl h20 rfl ?_
    refine wl_assign rfl rfl ?_
    refine WL.nil ?_
    exact fun a ha => hJ13 (false) _ hF hB17 (hS18.sel [] rfl) a (ha.sub ⟨rfl, trivial⟩)
theorem C_slices_Index_impl_Spot_impl_Spot (w0 : World) (x0 : (List (Int × Int))) (v0_0 : Value) (h0_0 : rdS ty_106 (· < w0.heap.size) w0 v0_0 x0) (x1 : (Int × Int)) (r : Int) (hF : F_slices_Index_impl_Spot_impl_Spot x0 x1 = some r) :
    Calls Try.prog 136 [v0_0, (.agg #[(.int .i64 x1.1), (.int .i64 x1.2)])].toArray w0 fun e w' => e = .returned (.int .i64 r) ∧ Below w0.heap.size w0 w' := by
  refine calls_mk' Try.func136 rfl Try.ntmps136 rfl rfl fun Q hQ hP => ?_
  have hB : Below w0.heap.size w0 w0 := Below.refl _ _
  have hS : Sep w0.heap.size w0 [] := Sep.nil _ _
  unfold F_slices_Index_impl_Spot_impl_Spot at hF
  refine W.seq fun K1 hK1 => ?_
  refine W.region ?_
  refine wl_box (cs := [(.int .i64 x1.1), (.int .i64 x1.2)]) rfl rfl rfl hB hS ?_
  intro b2 w3 hb4 hB5 hS6
  refine wl_assign rfl rfl ?_
  refine WL.nil ?_
  refine fun a ha => hK1 _ _ ?_ a ha
  refine W.seq fun K7 hK7 => ?_
  refine W.seq fun K8 hK8 => ?_
  refine W.region ?_
  refine wl_move rfl rfl ?_
  refine wl_lenr (e := ty_106) (l := x0) Try.underlying82 rfl rfl h0_0 ?_
  refine wl_move rfl rfl ?_
  refine WL.nil ?_
  refine fun a ha => hK8 _ _ ?_ a ha
  refine W.block ?_
  refine W.loopk (fun m a w9 => ∃ (y12 : Int), St 19 [(0, v0_0), (3, (.pointer (some ⟨b2, 0, none⟩))), (7, (.int .i64 (List.length x0 : Int))), (8, (.int .i64 y12))] a ∧ Below w0.heap.size w0 w9 ∧ Sep w0.heap.size w9 [R.blk b2 106 [(.int .i64 x1.1), (.int .i64 x1.2)]] ∧ F_slices_Index_impl_Spot_impl_Spot_L1 x0 x1 m y12 = some r) FU ?_ ?_
  ·
    exact fun a ha => ⟨0, ha.sub ⟨rfl, rfl, rfl, rfl, trivial⟩, hB5, (hS6.sel [0] rfl), hF⟩
  ·
    rintro m15 a w9 ⟨y12, ha, hB10, hS11, hF⟩ KL14 hKL14
    refine W.at ?_ ha
    cases m15 with
    | zero => exact noneE hF
    | succ m15 =>
      obtain ⟨nx13, hnx13⟩ : ∃ k, k = F_slices_Index_impl_Spot_impl_Spot_L1 x0 x1 m15 := ⟨_, rfl⟩
      rw [F_slices_Index_impl_Spot_impl_Spot_L1, ← hnx13] at hF
      refine W.seq fun K16 hK16 => ?_
      refine W.region ?_
      refine wl_lss rfl rfl rfl ?_
      refine WL.nil ?_
      refine fun a ha => hK16 _ _ ?_ a ha
      refine W.seq fun K17 hK17 => ?_
      refine W.cond rfl (fun h18 => ?_) (fun h18 => ?_)
      · replace hF := ifP h18 hF
        refine W.skip ?_
        refine fun a ha => hK17 _ _ ?_ a ha
        refine W.seq fun K19 hK19 => ?_
        refine W.block ?_
        refine W.seq fun K20 hK20 => ?_
        refine W.region ?_
        refine wl_move rfl rfl ?_
        refine wl_assign rfl rfl ?_
        refine WL.nil ?_
        refine fun a ha => hK20 _ _ ?_ a ha
        refine W.seq fun K21 hK21 => ?_
        refine W.regionH mixed_ [] hB10 hS11 ?_
        intro w22 hb23 hB24 hS25
        have hSW26 := KeepX.refl w22 []
        refine WH.takex (i := 0) rfl (by kernel_rfl) (by kernel_rfl) (by kernel_rfl) hP hSW26 ?_
        refine pr_load_blk (i := 0) (vs := [(.int .i64 x1.1), (.int .i64 x1.2)]) (v := (.agg #[(.int .i64 x1.1), (.int .i64 x1.2)])) tf_106 rfl rfl hS25 rfl rfl rfl (by simp) ?_
        refine WH.takex (i := 1) rfl (by kernel_rfl) (by kernel_rfl) (by kernel_rfl) hP hSW26 ?_
        refine pr_move rfl rfl ?_
        refine WH.takex (i := 2) rfl (by kernel_rfl) (by kernel_rfl) (by kernel_rfl) hP hSW26 ?_
        refine pr_move rfl rfl ?_
        obtain ⟨u27, hu27, hF⟩ := bindE hF
        refine WH.takex (i := 3) rfl (by kernel_rfl) (by kernel_rfl) (by kernel_rfl) hP hSW26 ?_
        refine pr_index (e := ty_106) Try.underlying82 rfl rfl rfl h0_0 hu27 ?_
        rintro p28 _ rfl hp29
        refine WH.takex (i := 4) rfl (by kernel_rfl) (by kernel_rfl) (by kernel_rfl) hP hSW26 ?_
        refine pr_load_p (vs := [(.int .i64 u27.1), (.int .i64 u27.2)]) (v := (.agg #[(.int .i64 u27.1), (.int .i64 u27.2)])) tf_106 rfl rfl (hp29.kx hB24 (by simp)) rfl rfl ?_
        refine WH.takex (i := 5) rfl (by kernel_rfl) (by kernel_rfl) (by kernel_rfl) hP hSW26 ?_
        refine pr_eqs Try.eqGuardType106 (eq_106 x1 u27) rfl rfl rfl ?_
        refine WH.done (by kernel_rfl) ?_
        refine fun a ha => hK21 _ _ ?_ a ha
        refine W.cond rfl (fun h30 => ?_) (fun h30 => ?_)
        · replace hF := ifP h30 hF
          refine W.seq fun K31 hK31 => ?_
          refine W.region ?_
          refine wl_move rfl rfl ?_
          refine wl_assign rfl rfl ?_
          refine WL.nil ?_
          refine fun a ha => hK31 _ _ ?_ a ha
          refine W.ret ?_
          have hr := Option.some.inj hF
          subst hr
          exact rets (vs := [(.int .i64 y12)]) hQ rfl ⟨rv_tmp rfl, trivial⟩ ⟨rfl, hB24⟩
        · replace hF := ifN h30 hF
          refine W.skip ?_
          refine fun a ha => hK19 _ _ ?_ a ha
          refine W.region ?_
          refine wl_add rfl rfl rfl ?_
          refine wl_move rfl rfl ?_
          refine WL.nil ?_
          rw [hnx13] at hF
          exact fun a ha => hKL14 a _ m15 (Nat.lt_succ_self m15) ⟨(w64 (y12 + 1)), ha.sub ⟨rfl, rfl, rfl, rfl, trivial⟩, hB24, (hS25.sel [0] rfl), hF⟩
      · replace hF := ifN h18 hF
        refine W.exit ?_
        refine fun a ha => hK7 _ _ ?_ a ha
        refine W.seq fun K32 hK32 => ?_
        refine W.region ?_
        refine wl_assign rfl rfl ?_
        refine WL.nil ?_
        refine fun a ha => hK32 _ _ ?_ a ha
        refine W.ret ?_
        have hr := Option.some.inj hF
        subst hr
        exact rets (vs := [(.int .i64 (-1))]) hQ rfl ⟨rv_tmp rfl, trivial⟩ ⟨rfl, hB10⟩
theorem C_slices_Contains_impl_Spot_impl_Spot (w0 : World) (x0 : (List (Int × Int))) (v0_0 : Value) (h0_0 : rdS ty_106 (· < w0.heap.size) w0 v0_0 x0) (x1 : (Int × Int)) (r : Bool) (hF : F_slices_Contains_impl_Spot_impl_Spot x0 x1 = some r) :
    Calls Try.prog 123 [v0_0, (.agg #[(.int .i64 x1.1), (.int .i64 x1.2)])].toArray w0 fun e w' => e = .returned (.bool r) ∧ Below w0.heap.size w0 w' := by
  refine calls_mk' Try.func123 rfl Try.ntmps123 rfl rfl fun Q hQ hP => ?_
  have hB : Below w0.heap.size w0 w0 := Below.refl _ _
  have hS : Sep w0.heap.size w0 [] := Sep.nil _ _
  unfold F_slices_Contains_impl_Spot_impl_Spot at hF
  refine W.seq fun K1 hK1 => ?_
  refine W.region ?_
  refine wl_box (cs := [(.int .i64 x1.1), (.int .i64 x1.2)]) rfl rfl rfl hB hS ?_
  intro b2 w3 hb4 hB5 hS6
  refine wl_assign rfl rfl ?_
  refine WL.nil ?_
  refine fun a ha => hK1 _ _ ?_ a ha
  refine W.seq fun K7 hK7 => ?_
  refine W.region ?_
  refine wl_move rfl rfl ?_
  refine wl_load_blk (i := 0) (vs := [(.int .i64 x1.1), (.int .i64 x1.2)]) (v := (.agg #[(.int .i64 x1.1), (.int .i64 x1.2)])) tf_106 rfl rfl hS6 rfl rfl rfl ?_
  obtain ⟨u8, hu8, hF⟩ := bindE hF
  refine wl_call rfl Try.call136 (C_slices_Index_impl_Spot_impl_Spot w3 x0 v0_0 (h0_0.ro hB5) x1 _ hu8) rfl ?_
  rintro _ w9 ⟨rfl, hb10⟩
  refine ⟨_, rfl, ?_⟩
  have hB11 := hB5.trans (hb10.mono hB5.size)
  have hS12 := hS6.below hb10
  refine wl_geq rfl rfl rfl ?_
  refine wl_assign rfl rfl ?_
  refine WL.nil ?_
  refine fun a ha => hK7 _ _ ?_ a ha
  refine W.ret ?_
  have hr := Option.some.inj hF
  subst hr
  exact rets (vs := [(.bool (decide (0 ≤ u8)))]) hQ rfl ⟨rv_tmp rfl, trivial⟩ ⟨rfl, hB11⟩
theorem C_impl_IsChart (w0 : World) (x0 : (List (Int × Int))) (v0_0 : Value) (h0_0 : rdS ty_106 (· < w0.heap.size) w0 v0_0 x0) (r : Bool) (hF : F_impl_IsChart x0 = some r) :
    Calls Try.prog 95 [v0_0].toArray w0 fun e w' => e = .returned (.bool r) ∧ Below w0.heap.size w0 w' := by
  refine calls_mk' Try.func95 rfl Try.ntmps95 rfl rfl fun Q hQ hP => ?_
  have hB : Below w0.heap.size w0 w0 := Below.refl _ _
  have hS : Sep w0.heap.size w0 [] := Sep.nil _ _
  unfold F_impl_IsChart at hF
  refine W.seq fun K1 hK1 => ?_
  refine W.region ?_
  refine wl_assign rfl rfl ?_
  refine WL.nil ?_
  refine fun a ha => hK1 _ _ ?_ a ha
  refine W.seq fun K2 hK2 => ?_
  refine W.seq fun K3 hK3 => ?_
  refine W.region ?_
  refine wl_move rfl rfl ?_
  refine wl_lenr (e := ty_106) (l := x0) Try.underlying82 rfl rfl h0_0 ?_
  obtain ⟨u4, hu4, hF⟩ := bindE hF
  refine wl_call rfl Try.call67 (C_impl_within w0 (List.length x0 : Int) 1 12 _ hu4) rfl ?_
  rintro _ w5 ⟨rfl, hb6⟩
  refine ⟨_, rfl, ?_⟩
  have hB7 := hB.trans (hb6.mono hB.size)
  have hS8 := hS.below hb6
  refine wl_not rfl rfl ?_
  refine WL.nil ?_
  refine fun a ha => hK3 _ _ ?_ a ha
  refine W.cond rfl (fun h10 => ?_) (fun h10 => ?_)
  · replace hF := ifP h10 hF
    refine W.seq fun K11 hK11 => ?_
    refine W.region ?_
    refine wl_assign rfl rfl ?_
    refine WL.nil ?_
    refine fun a ha => hK11 _ _ ?_ a ha
    refine W.ret ?_
    have hr := Option.some.inj hF
    subst hr
    exact rets (vs := [(.bool false)]) hQ rfl ⟨rv_tmp rfl, trivial⟩ ⟨rfl, hB7⟩
  · replace hF := ifN h10 hF
    refine W.skip ?_
    refine fun a ha => hK2 _ _ ?_ a ha
    refine W.seq fun K12 hK12 => ?_
    refine W.seq fun K13 hK13 => ?_
    refine W.region ?_
    refine wl_move rfl rfl ?_
    refine wl_lenr (e := ty_106) (l := x0) Try.underlying82 rfl rfl h0_0 ?_
    refine wl_move rfl rfl ?_
    refine WL.nil ?_
    refine fun a ha => hK13 _ _ ?_ a ha
    refine W.block ?_
    refine W.loopk (fun m a w14 => ∃ (y17 : Int), St 27 [(0, v0_0), (9, v0_0), (10, (.int .i64 (List.length x0 : Int))), (11, (.int .i64 y17))] a ∧ Below w0.heap.size w0 w14 ∧ Sep w0.heap.size w14 [] ∧ F_impl_IsChart_L1 x0 m y17 = some r) FU ?_ ?_
    ·
      exact fun a ha => ⟨0, ha.sub ⟨rfl, rfl, rfl, rfl, trivial⟩, hB7, (hS8.sel [] rfl), hF⟩
    ·
      rintro m20 a w14 ⟨y17, ha, hB15, hS16, hF⟩ KL19 hKL19
      refine W.at ?_ ha
      cases m20 with
      | zero => exact noneE hF
      | succ m20 =>
        obtain ⟨nx18, hnx18⟩ : ∃ k, k = F_impl_IsChart_L1 x0 m20 := ⟨_, rfl⟩
        rw [F_impl_IsChart_L1, ← hnx18] at hF
        refine W.seq fun K21 hK21 => ?_
        refine W.region ?_
        refine wl_lss rfl rfl rfl ?_
        refine WL.nil ?_
        refine fun a ha => hK21 _ _ ?_ a ha
        refine W.seq fun K22 hK22 => ?_
        refine W.cond rfl (fun h23 => ?_) (fun h23 => ?_)
        · replace hF := ifP h23 hF
          refine W.skip ?_
          refine fun a ha => hK22 _ _ ?_ a ha
          refine W.seq fun K24 hK24 => ?_
          refine W.block ?_
          refine W.seq fun K25 hK25 => ?_
          refine W.region ?_
          refine wl_move rfl rfl ?_
          obtain ⟨u26, hu26, hF⟩ := bindE hF
          refine wl_index (e := ty_106) Try.underlying82 rfl rfl rfl h0_0 hu26 ?_
          rintro p27 _ rfl hp28
          refine wl_load_p (vs := [(.int .i64 u26.1), (.int .i64 u26.2)]) (v := (.agg #[(.int .i64 u26.1), (.int .i64 u26.2)])) tf_106 rfl rfl (hp28.ro hB15) rfl rfl ?_
          refine wl_alloc (cs := [(.int .i64 0), (.int .i64 0)]) tf_106 rfl rfl hB15 hS16 ?_
          intro b29 w30 hb31 hB32 hS33
          refine wl_assign rfl rfl ?_
          refine wl_store_blk (i := 0) (vs := [(.int .i64 u26.1), (.int .i64 u26.2)]) (cs' := [(.int .i64 u26.1), (.int .i64 u26.2)]) tf_106 rfl rfl rfl rfl hB32 hS33 rfl rfl ⟨rfl, rfl, trivial⟩ rfl ?_
          intro w34 hk37 hB35 hS36
          refine WL.nil ?_
          refine fun a ha => hK25 _ _ ?_ a ha
          refine W.seq fun K38 hK38 => ?_
          obtain ⟨k43, hk43, hF⟩ := jE1 hF
          have hJ44 : ∀ (y42 : Bool) (w39 : World) (_ : k43 y42 = some r) (_ : Below w0.heap.size w0 w39) (_ : Sep w0.heap.size w39 []), ∀ a, St 27 [(0, v0_0), (9, v0_0), (10, (.int .i64 (List.length x0 : Int))), (11, (.int .i64 y17)), (25, (.bool y42))] a → K38 a w39 := by
            intro y42 w39 hF hB40 hS41
            subst hk43
            refine fun a ha => hK38 _ _ ?_ a ha
            refine W.cond rfl (fun h45 => ?_) (fun h45 => ?_)
            · replace hF := ifP h45 hF
              refine W.seq fun K46 hK46 => ?_
              refine W.region ?_
              refine wl_assign rfl rfl ?_
              refine WL.nil ?_
              refine fun a ha => hK46 _ _ ?_ a ha
              refine W.ret ?_
              have hr := Option.some.inj hF
              subst hr
              exact rets (vs := [(.bool false)]) hQ rfl ⟨rv_tmp rfl, trivial⟩ ⟨rfl, hB40⟩
            · replace hF := ifN h45 hF
              refine W.skip ?_
              refine fun a ha => hK24 _ _ ?_ a ha
              refine W.region ?_
              refine wl_add rfl rfl rfl ?_
              refine wl_move rfl rfl ?_
              refine WL.nil ?_
              rw [hnx18] at hF
              exact fun a ha => hKL19 a _ m20 (Nat.lt_succ_self m20) ⟨(w64 (y17 + 1)), ha.sub ⟨rfl, rfl, rfl, rfl, trivial⟩, hB40, (hS41.sel [] rfl), hF⟩
          refine W.regionH mixed_ [] hB35 hS36 ?_
          intro w47 hb48 hB49 hS50
          have hSW51 := KeepX.refl w47 []
          refine WH.takex (i := 0) rfl (by kernel_rfl) (by kernel_rfl) (by kernel_rfl) hP hSW51 ?_
          refine pr_load_blk (i := 0) (vs := [(.int .i64 u26.1), (.int .i64 u26.2)]) (v := (.agg #[(.int .i64 u26.1), (.int .i64 u26.2)])) tf_106 rfl rfl hS50 rfl rfl rfl (by simp) ?_
          refine WH.one (i := 1) (by kernel_rfl) rfl ?_
          obtain ⟨u52, hu52, hF⟩ := bindE hF
          refine wl_call rfl Try.call122 (C_impl_IsSpot w47 u26 _ hu52) rfl ?_
          rintro _ w53 ⟨rfl, hb54⟩
          refine ⟨_, rfl, ?_⟩
          have hB55 := hB49.trans (hb54.mono hB49.size)
          have hS56 := hS50.below hb54
          have hSW58 := hSW51.ext hb54
          refine WL.nil (WH.ret hSW58 ?_)
          refine WH.takex (i := 2) rfl (by kernel_rfl) (by kernel_rfl) (by kernel_rfl) hP hSW58 ?_
          refine pr_not rfl rfl ?_
          refine WH.takex (i := 3) rfl (by kernel_rfl) (by kernel_rfl) (by kernel_rfl) hP hSW58 ?_
          refine pr_move rfl rfl ?_
          rcases bE (!u52) with h59 | h59
          · replace hF := ifP h59 hF
            refine WH.off (i := 4) rfl (by kernel_rfl) (by kernel_rfl) (by kernel_rfl) hP rfl rfl h59 rfl hSW58 ?_
            refine WH.off (i := 5) rfl (by kernel_rfl) (by kernel_rfl) (by kernel_rfl) hP rfl rfl h59 rfl hSW58 ?_
            refine WH.off (i := 6) rfl (by kernel_rfl) (by kernel_rfl) (by kernel_rfl) hP rfl rfl h59 rfl hSW58 ?_
            refine WH.off (i := 7) rfl (by kernel_rfl) (by kernel_rfl) (by kernel_rfl) hP rfl rfl h59 rfl hSW58 ?_
            refine WH.off (i := 8) rfl (by kernel_rfl) (by kernel_rfl) (by kernel_rfl) hP rfl rfl h59 rfl hSW58 ?_
            refine WH.takex (i := 9) rfl (by kernel_rfl) (by kernel_rfl) (by kernel_rfl) hP hSW58 ?_
            refine pr_pick_t rfl rfl h59 rfl ?_
            refine WH.done (by kernel_rfl) ?_
            exact fun a ha => hJ44 (true) _ hF hB55 (hS56.sel [] rfl) a (ha.sub ⟨rfl, rfl, rfl, rfl, rfl, trivial⟩)
          · replace hF := ifN h59 hF
            refine WH.takexg (i := 4) rfl (by kernel_rfl) (by kernel_rfl) (by kernel_rfl) hP rfl rfl h59 hSW58 ?_
            refine pr_move rfl rfl ?_
            refine WH.takexg (i := 5) rfl (by kernel_rfl) (by kernel_rfl) (by kernel_rfl) hP rfl rfl h59 hSW58 ?_
            refine pr_move rfl rfl ?_
            obtain ⟨u60, hu60, hF⟩ := bindE hF
            refine WH.takexg (i := 6) rfl (by kernel_rfl) (by kernel_rfl) (by kernel_rfl) hP rfl rfl h59 hSW58 ?_
            refine pr_slice (e := ty_106) Try.underlying82 rfl rfl h0_0 hu60 (.inl ⟨rfl, rfl⟩) (.inr ⟨_, _, rfl, rfl⟩) ?_
            intro v61 hv62
            refine WH.takexg (i := 7) rfl (by kernel_rfl) (by kernel_rfl) (by kernel_rfl) hP rfl rfl h59 hSW58 ?_
            refine pr_load_blk (i := 0) (vs := [(.int .i64 u26.1), (.int .i64 u26.2)]) (v := (.agg #[(.int .i64 u26.1), (.int .i64 u26.2)])) tf_106 rfl rfl hS50 rfl rfl rfl (by simp) ?_
            refine WH.one (i := 8) (by kernel_rfl) rfl ?_
            refine wl_on rfl rfl h59 ?_
            obtain ⟨u63, hu63, hF⟩ := bindE hF
            refine wl_call rfl Try.call123 (C_slices_Contains_impl_Spot_impl_Spot w53 u60 v61 (hv62.ro hB55) u26 _ hu63) rfl ?_
            rintro _ w65 ⟨rfl, hb66⟩
            refine ⟨_, rfl, ?_⟩
            have hB67 := hB55.trans (hb66.mono hB55.size)
            have hS68 := hS56.below hb66
            have hSW70 := hSW58.ext hb66
            refine WL.nil (WH.ret hSW70 ?_)
            refine WH.takex (i := 9) rfl (by kernel_rfl) (by kernel_rfl) (by kernel_rfl) hP hSW70 ?_
            refine pr_pick_f rfl rfl h59 rfl ?_
            refine WH.done (by kernel_rfl) ?_
            exact fun a ha => hJ44 (u63) _ hF hB67 (hS68.sel [] rfl) a (ha.sub ⟨rfl, rfl, rfl, rfl, rfl, trivial⟩)
        · replace hF := ifN h23 hF
          refine W.exit ?_
          refine fun a ha => hK12 _ _ ?_ a ha
          refine W.seq fun K71 hK71 => ?_
          refine W.region ?_
          refine wl_assign rfl rfl ?_
          refine WL.nil ?_
          refine fun a ha => hK71 _ _ ?_ a ha
          refine W.ret ?_
          have hr := Option.some.inj hF
          subst hr
          exact rets (vs := [(.bool true)]) hQ rfl ⟨rv_tmp rfl, trivial⟩ ⟨rfl, hB15⟩
theorem C_impl_areCharts (w0 : World) (x0 : (List (List (Int × Int)))) (v0_0 : Value) (h0_0 : rdS ty_82 (· < w0.heap.size) w0 v0_0 x0) (x1 : (List Int)) (v1_0 : Value) (h1_0 : rdS ty_3 (· < w0.heap.size) w0 v1_0 x1) (r : Bool) (hF : F_impl_areCharts x0 x1 = some r) :
    Calls Try.prog 68 [v0_0, v1_0].toArray w0 fun e w' => e = .returned (.bool r) ∧ Below w0.heap.size w0 w' := by
  refine calls_mk' Try.func68 rfl Try.ntmps68 rfl rfl fun Q hQ hP => ?_
  have hB : Below w0.heap.size w0 w0 := Below.refl _ _
  have hS : Sep w0.heap.size w0 [] := Sep.nil _ _
  unfold F_impl_areCharts at hF
  refine W.seq fun K1 hK1 => ?_
  refine W.region ?_
  refine wl_assign rfl rfl ?_
  refine WL.nil ?_
  refine fun a ha => hK1 _ _ ?_ a ha
  refine W.seq fun K2 hK2 => ?_
  refine W.seq fun K3 hK3 => ?_
  obtain ⟨k8, hk8, hF⟩ := jE1 hF
  have hJ9 : ∀ (y7 : Bool) (w4 : World) (_ : k8 y7 = some r) (_ : Below w0.heap.size w0 w4) (_ : Sep w0.heap.size w4 []), ∀ a, St 50 [(0, v0_0), (1, v1_0), (20, (.bool y7))] a → K3 a w4 := by
    intro y7 w4 hF hB5 hS6
    subst hk8
    refine fun a ha => hK3 _ _ ?_ a ha
    refine W.cond rfl (fun h10 => ?_) (fun h10 => ?_)
    · replace hF := ifP h10 hF
      refine W.seq fun K11 hK11 => ?_
      refine W.region ?_
      refine wl_assign rfl rfl ?_
      refine WL.nil ?_
      refine fun a ha => hK11 _ _ ?_ a ha
      refine W.ret ?_
      have hr := Option.some.inj hF
      subst hr
      exact rets (vs := [(.bool false)]) hQ rfl ⟨rv_tmp rfl, trivial⟩ ⟨rfl, hB5⟩
    · replace hF := ifN h10 hF
      refine W.skip ?_
      refine fun a ha => hK2 _ _ ?_ a ha
      refine W.seq fun K12 hK12 => ?_
      refine W.seq fun K13 hK13 => ?_
      refine W.region ?_
      refine wl_move rfl rfl ?_
      refine wl_lenr (e := ty_82) (l := x0) Try.underlying40 rfl rfl h0_0 ?_
      refine wl_move rfl rfl ?_
      refine WL.nil ?_
      refine fun a ha => hK13 _ _ ?_ a ha
      refine W.block ?_
      refine W.loopk (fun m a w14 => ∃ (y17 : Int), St 50 [(0, v0_0), (1, v1_0), (21, v0_0), (22, (.int .i64 (List.length x0 : Int))), (23, (.int .i64 y17))] a ∧ Below w0.heap.size w0 w14 ∧ Sep w0.heap.size w14 [] ∧ F_impl_areCharts_L1 x0 x1 m y17 = some r) FU ?_ ?_
      ·
        exact fun a ha => ⟨0, ha.sub ⟨rfl, rfl, rfl, rfl, rfl, trivial⟩, hB5, (hS6.sel [] rfl), hF⟩
      ·
        rintro m20 a w14 ⟨y17, ha, hB15, hS16, hF⟩ KL19 hKL19
        refine W.at ?_ ha
        cases m20 with
        | zero => exact noneE hF
        | succ m20 =>
          obtain ⟨nx18, hnx18⟩ : ∃ k, k = F_impl_areCharts_L1 x0 x1 m20 := ⟨_, rfl⟩
          rw [F_impl_areCharts_L1, ← hnx18] at hF
          refine W.seq fun K21 hK21 => ?_
          refine W.region ?_
          refine wl_lss rfl rfl rfl ?_
          refine WL.nil ?_
          refine fun a ha => hK21 _ _ ?_ a ha
          refine W.seq fun K22 hK22 => ?_
          refine W.cond rfl (fun h23 => ?_) (fun h23 => ?_)
          · replace hF := ifP h23 hF
            refine W.skip ?_
            refine fun a ha => hK22 _ _ ?_ a ha
            refine W.seq fun K24 hK24 => ?_
            refine W.block ?_
            refine W.seq fun K25 hK25 => ?_
            refine W.region ?_
            obtain ⟨u26, hu26, hF⟩ := bindE hF
            refine wl_index (e := ty_82) Try.underlying40 rfl rfl rfl h0_0 hu26 ?_
            rintro p27 _ ⟨v29, rfl, hv30⟩ hp28
            refine wl_load_p (vs := [v29]) (v := v29) tf_82 rfl rfl (hp28.ro hB15) rfl rfl ?_
            refine wl_assign rfl rfl ?_
            refine WL.nil ?_
            refine fun a ha => hK25 _ _ ?_ a ha
            refine W.seq fun K31 hK31 => ?_
            obtain ⟨k36, hk36, hF⟩ := jE1 hF
            have hJ37 : ∀ (y35 : Bool) (w32 : World) (_ : k36 y35 = some r) (_ : Below w0.heap.size w0 w32) (_ : Sep w0.heap.size w32 []), ∀ a, St 50 [(0, v0_0), (1, v1_0), (21, v0_0), (22, (.int .i64 (List.length x0 : Int))), (23, (.int .i64 y17)), (38, (.bool y35))] a → K31 a w32 := by
              intro y35 w32 hF hB33 hS34
              subst hk36
              refine fun a ha => hK31 _ _ ?_ a ha
              refine W.cond rfl (fun h38 => ?_) (fun h38 => ?_)
              · replace hF := ifP h38 hF
                refine W.seq fun K39 hK39 => ?_
                refine W.region ?_
                refine wl_assign rfl rfl ?_
                refine WL.nil ?_
                refine fun a ha => hK39 _ _ ?_ a ha
                refine W.ret ?_
                have hr := Option.some.inj hF
                subst hr
                exact rets (vs := [(.bool false)]) hQ rfl ⟨rv_tmp rfl, trivial⟩ ⟨rfl, hB33⟩
              · replace hF := ifN h38 hF
                refine W.skip ?_
                refine fun a ha => hK24 _ _ ?_ a ha
                refine W.region ?_
                refine wl_add rfl rfl rfl ?_
                refine wl_move rfl rfl ?_
                refine WL.nil ?_
                rw [hnx18] at hF
                exact fun a ha => hKL19 a _ m20 (Nat.lt_succ_self m20) ⟨(w64 (y17 + 1)), ha.sub ⟨rfl, rfl, rfl, rfl, rfl, trivial⟩, hB33, (hS34.sel [] rfl), hF⟩
            refine W.region ?_
            refine wl_move rfl rfl ?_
            obtain ⟨u40, hu40, hF⟩ := bindE hF
            refine wl_call rfl Try.call95 (C_impl_IsChart w14 u26 v29 (hv30.ro hB15) _ hu40) rfl ?_
            rintro _ w41 ⟨rfl, hb42⟩
            refine ⟨_, rfl, ?_⟩
            have hB43 := hB15.trans (hb42.mono hB15.size)
            have hS44 := hS16.below hb42
            refine wl_not rfl rfl ?_
            refine wl_move rfl rfl ?_
            rcases bE (!u40) with h46 | h46
            · replace hF := ifP h46 hF
              refine wl_off rfl rfl rfl h46 ?_
              refine wl_off rfl rfl rfl h46 ?_
              refine wl_off rfl rfl rfl h46 ?_
              refine wl_off rfl rfl rfl h46 ?_
              refine wl_off rfl rfl rfl h46 ?_
              refine wl_off rfl rfl rfl h46 ?_
              refine wl_off rfl rfl rfl h46 ?_
              refine wl_pick_t rfl rfl h46 rfl ?_
              refine WL.nil ?_
              exact fun a ha => hJ37 (true) _ hF hB43 (hS44.sel [] rfl) a (ha.sub ⟨rfl, rfl, rfl, rfl, rfl, rfl, trivial⟩)
            · replace hF := ifN h46 hF
              refine wl_on rfl rfl h46 ?_
              refine wl_move rfl rfl ?_
              refine wl_on rfl rfl h46 ?_
              refine wl_lenr (e := ty_106) (l := u26) Try.underlying82 rfl rfl hv30 ?_
              refine wl_on rfl rfl h46 ?_
              refine wl_move rfl rfl ?_
              refine wl_on rfl rfl h46 ?_
              obtain ⟨u47, hu47, hF⟩ := bindE hF
              refine wl_index (e := ty_82) Try.underlying40 rfl rfl rfl h0_0 hu47 ?_
              rintro p48 _ ⟨v50, rfl, hv51⟩ hp49
              refine wl_on rfl rfl h46 ?_
              refine wl_load_p (vs := [v50]) (v := v50) tf_82 rfl rfl (hp49.ro hB43) rfl rfl ?_
              refine wl_on rfl rfl h46 ?_
              refine wl_lenr (e := ty_106) (l := u47) Try.underlying82 rfl rfl hv51 ?_
              refine wl_on rfl rfl h46 ?_
              refine wl_neq rfl rfl rfl ?_
              refine wl_pick_f rfl rfl h46 rfl ?_
              refine WL.nil ?_
              exact fun a ha => hJ37 (((List.length u26 : Int) != (List.length u47 : Int))) _ hF hB43 (hS44.sel [] rfl) a (ha.sub ⟨rfl, rfl, rfl, rfl, rfl, rfl, trivial⟩)
          · replace hF := ifN h23 hF
            refine W.exit ?_
            refine fun a ha => hK12 _ _ ?_ a ha
            refine W.seq fun K52 hK52 => ?_
            refine W.seq fun K53 hK53 => ?_
            refine W.region ?_
            refine wl_move rfl rfl ?_
            refine wl_lenr (e := ty_3) (l := x1) Try.underlying24 rfl rfl h1_0 ?_
            refine wl_move rfl rfl ?_
            refine WL.nil ?_
            refine fun a ha => hK53 _ _ ?_ a ha
            refine W.block ?_
            refine W.loopk (fun m a w54 => ∃ (y57 : Int), St 50 [(40, v1_0), (41, (.int .i64 (List.length x1 : Int))), (42, (.int .i64 y57))] a ∧ Below w0.heap.size w0 w54 ∧ Sep w0.heap.size w54 [] ∧ F_impl_areCharts_L2 x1 m y57 = some r) FU ?_ ?_
            ·
              exact fun a ha => ⟨0, ha.sub ⟨rfl, rfl, rfl, trivial⟩, hB15, (hS16.sel [] rfl), hF⟩
            ·
              rintro m60 a w54 ⟨y57, ha, hB55, hS56, hF⟩ KL59 hKL59
              refine W.at ?_ ha
              cases m60 with
              | zero => exact noneE hF
              | succ m60 =>
                obtain ⟨nx58, hnx58⟩ : ∃ k, k = F_impl_areCharts_L2 x1 m60 := ⟨_, rfl⟩
                rw [F_impl_areCharts_L2, ← hnx58] at hF
                refine W.seq fun K61 hK61 => ?_
                refine W.region ?_
                refine wl_lss rfl rfl rfl ?_
                refine WL.nil ?_
                refine fun a ha => hK61 _ _ ?_ a ha
                refine W.seq fun K62 hK62 => ?_
                refine W.cond rfl (fun h63 => ?_) (fun h63 => ?_)
                · replace hF := ifP h63 hF
                  refine W.skip ?_
                  refine fun a ha => hK62 _ _ ?_ a ha
                  refine W.seq fun K64 hK64 => ?_
                  refine W.block ?_
                  refine W.seq fun K65 hK65 => ?_
                  refine W.region ?_
                  obtain ⟨u66, hu66, hF⟩ := bindE hF
                  refine wl_index (e := ty_3) Try.underlying24 rfl rfl rfl h1_0 hu66 ?_
                  rintro p67 _ rfl hp68
                  refine wl_load_p (vs := [(.int .i64 u66)]) (v := (.int .i64 u66)) tf_3 rfl rfl (hp68.ro hB55) rfl rfl ?_
                  refine wl_assign rfl rfl ?_
                  refine WL.nil ?_
                  refine fun a ha => hK65 _ _ ?_ a ha
                  refine W.seq fun K69 hK69 => ?_
                  refine W.region ?_
                  refine wl_move rfl rfl ?_
                  obtain ⟨u70, hu70, hF⟩ := bindE hF
                  refine wl_call rfl Try.call67 (C_impl_within w54 u66 1 64 _ hu70) rfl ?_
                  rintro _ w71 ⟨rfl, hb72⟩
                  refine ⟨_, rfl, ?_⟩
                  have hB73 := hB55.trans (hb72.mono hB55.size)
                  have hS74 := hS56.below hb72
                  refine wl_not rfl rfl ?_
                  refine WL.nil ?_
                  refine fun a ha => hK69 _ _ ?_ a ha
                  refine W.cond rfl (fun h76 => ?_) (fun h76 => ?_)
                  · replace hF := ifP h76 hF
                    refine W.seq fun K77 hK77 => ?_
                    refine W.region ?_
                    refine wl_assign rfl rfl ?_
                    refine WL.nil ?_
                    refine fun a ha => hK77 _ _ ?_ a ha
                    refine W.ret ?_
                    have hr := Option.some.inj hF
                    subst hr
                    exact rets (vs := [(.bool false)]) hQ rfl ⟨rv_tmp rfl, trivial⟩ ⟨rfl, hB73⟩
                  · replace hF := ifN h76 hF
                    refine W.skip ?_
                    refine fun a ha => hK64 _ _ ?_ a ha
                    refine W.region ?_
                    refine wl_add rfl rfl rfl ?_
                    refine wl_move rfl rfl ?_
                    refine WL.nil ?_
                    rw [hnx58] at hF
                    exact fun a ha => hKL59 a _ m60 (Nat.lt_succ_self m60) ⟨(w64 (y57 + 1)), ha.sub ⟨rfl, rfl, rfl, trivial⟩, hB73, (hS74.sel [] rfl), hF⟩
                · replace hF := ifN h63 hF
                  refine W.exit ?_
                  refine fun a ha => hK52 _ _ ?_ a ha
                  refine W.seq fun K78 hK78 => ?_
                  refine W.region ?_
                  refine wl_assign rfl rfl ?_
                  refine WL.nil ?_
                  refine fun a ha => hK78 _ _ ?_ a ha
                  refine W.ret ?_
                  have hr := Option.some.inj hF
                  subst hr
                  exact rets (vs := [(.bool true)]) hQ rfl ⟨rv_tmp rfl, trivial⟩ ⟨rfl, hB55⟩
  refine W.region ?_
  refine wl_move rfl rfl ?_
  refine wl_lenr (e := ty_82) (l := x0) Try.underlying40 rfl rfl h0_0 ?_
  obtain ⟨u79, hu79, hF⟩ := bindE hF
  refine wl_call rfl Try.call67 (C_impl_within w0 (List.length x0 : Int) 1 9 _ hu79) rfl ?_
  rintro _ w80 ⟨rfl, hb81⟩
  refine ⟨_, rfl, ?_⟩
  have hB82 := hB.trans (hb81.mono hB.size)
  have hS83 := hS.below hb81
  refine wl_not rfl rfl ?_
  refine wl_move rfl rfl ?_
  rcases bE (!u79) with h85 | h85
  · replace hF := ifP h85 hF
    refine wl_off rfl rfl rfl h85 ?_
    refine wl_off rfl rfl rfl h85 ?_
    refine wl_off rfl rfl rfl h85 ?_
    refine wl_off rfl rfl rfl h85 ?_
    refine wl_off rfl rfl rfl h85 ?_
    refine wl_off rfl rfl rfl h85 ?_
    refine wl_pick_t rfl rfl h85 rfl ?_
    refine WL.nil ?_
    exact fun a ha => hJ9 (true) _ hF hB82 (hS83.sel [] rfl) a (ha.sub ⟨rfl, rfl, rfl, trivial⟩)
  · replace hF := ifN h85 hF
    refine wl_on rfl rfl h85 ?_
    refine wl_move rfl rfl ?_
    refine wl_on rfl rfl h85 ?_
    refine wl_lenr (e := ty_3) (l := x1) Try.underlying24 rfl rfl h1_0 ?_
    refine wl_on rfl rfl h85 ?_
    refine wl_move rfl rfl ?_
    refine wl_on rfl rfl h85 ?_
    refine wl_lenr (e := ty_82) (l := x0) Try.underlying40 rfl rfl h0_0 ?_
    refine wl_on rfl rfl h85 ?_
    refine wl_sub rfl rfl rfl ?_
    refine wl_on rfl rfl h85 ?_
    refine wl_neq rfl rfl rfl ?_
    refine wl_pick_f rfl rfl h85 rfl ?_
    refine WL.nil ?_
    exact fun a ha => hJ9 (((List.length x1 : Int) != (w64 ((List.length x0 : Int) - 1)))) _ hF hB82 (hS83.sel [] rfl) a (ha.sub ⟨rfl, rfl, rfl, trivial⟩)
theorem C_impl_isLeast (w0 : World) (x0 : Int) (r : Bool) (hF : F_impl_isLeast x0 = some r) :
    Calls Try.prog 69 [(.int .i64 x0)].toArray w0 fun e w' => e = .returned (.bool r) ∧ Below w0.heap.size w0 w' := by
  refine calls_mk' Try.func69 rfl Try.ntmps69 rfl rfl fun Q hQ hP => ?_
  have hB : Below w0.heap.size w0 w0 := Below.refl _ _
  have hS : Sep w0.heap.size w0 [] := Sep.nil _ _
  unfold F_impl_isLeast at hF
  refine W.seq fun K1 hK1 => ?_
  refine W.region ?_
  refine wl_assign rfl rfl ?_
  refine WL.nil ?_
  refine fun a ha => hK1 _ _ ?_ a ha
  refine W.seq fun K2 hK2 => ?_
  refine W.region ?_
  refine wl_move rfl rfl ?_
  obtain ⟨u3, hu3, hF⟩ := bindE hF
  refine wl_call rfl Try.call67 (C_impl_within w0 x0 0 80 _ hu3) rfl ?_
  rintro _ w4 ⟨rfl, hb5⟩
  refine ⟨_, rfl, ?_⟩
  have hB6 := hB.trans (hb5.mono hB.size)
  have hS7 := hS.below hb5
  refine wl_assign rfl rfl ?_
  refine WL.nil ?_
  refine fun a ha => hK2 _ _ ?_ a ha
  refine W.ret ?_
  have hr := Option.some.inj hF
  subst hr
  exact rets (vs := [(.bool u3)]) hQ rfl ⟨rv_tmp rfl, trivial⟩ ⟨rfl, hB6⟩
theorem C_impl_IsShow (w0 : World) (x0 : ((List (List (Int × Int))) × (List Int) × Int × Int)) (v0_0 : Value) (h0_0 : rdS ty_82 (· < w0.heap.size) w0 v0_0 x0.1) (v0_1 : Value) (h0_1 : rdS ty_3 (· < w0.heap.size) w0 v0_1 x0.2.1) (r : Bool) (hF : F_impl_IsShow x0 = some r) :
    Calls Try.prog 33 [(.agg #[v0_0, v0_1, (.int .i64 x0.2.2.1), (.int .i64 x0.2.2.2)])].toArray w0 fun e w' => e = .returned (.bool r) ∧ Below w0.heap.size w0 w' := by
  refine calls_mk' Try.func33 rfl Try.ntmps33 rfl rfl fun Q hQ hP => ?_
  have hB : Below w0.heap.size w0 w0 := Below.refl _ _
  have hS : Sep w0.heap.size w0 [] := Sep.nil _ _
  unfold F_impl_IsShow at hF
  refine W.seq fun K1 hK1 => ?_
  refine W.region ?_
  refine wl_box (cs := [v0_0, v0_1, (.int .i64 x0.2.2.1), (.int .i64 x0.2.2.2)]) rfl rfl rfl hB hS ?_
  intro b2 w3 hb4 hB5 hS6
  refine wl_assign rfl rfl ?_
  refine WL.nil ?_
  refine fun a ha => hK1 _ _ ?_ a ha
  refine W.seq fun K7 hK7 => ?_
  obtain ⟨k12, hk12, hF⟩ := jE1 hF
  have hJ13 : ∀ (y11 : Bool) (w8 : World) (_ : k12 y11 = some r) (_ : Below w0.heap.size w0 w8) (_ : Sep w0.heap.size w8 []), ∀ a, St 24 [(2, (.bool y11))] a → K7 a w8 := by
    intro y11 w8 hF hB9 hS10
    subst hk12
    refine fun a ha => hK7 _ _ ?_ a ha
    refine W.ret ?_
    have hr := Option.some.inj hF
    subst hr
    exact rets (vs := [(.bool y11)]) hQ rfl ⟨rv_tmp rfl, trivial⟩ ⟨rfl, hB9⟩
  refine W.region ?_
  refine wl_field (o := 0) (off' := 0) ff_42_0 rfl rfl rfl ?_
  refine wl_load_blk (i := 0) (vs := [v0_0]) (v := v0_0) tf_40 rfl rfl hS6 rfl rfl rfl ?_
  refine wl_lenr (e := ty_82) (l := x0.1) Try.underlying40 rfl rfl h0_0 ?_
  obtain ⟨u14, hu14, hF⟩ := bindE hF
  refine wl_call rfl Try.call67 (C_impl_within w3 (List.length x0.1 : Int) 2 8 _ hu14) rfl ?_
  rintro _ w15 ⟨rfl, hb16⟩
  refine ⟨_, rfl, ?_⟩
  have hB17 := hB5.trans (hb16.mono hB5.size)
  have hS18 := hS6.below hb16
  refine wl_move rfl rfl ?_
  rcases bE u14 with h20 | h20
  · replace hF := ifP h20 hF
    refine wl_on rfl rfl h20 ?_
    refine wl_field (o := 0) (off' := 0) ff_42_0 rfl rfl rfl ?_
    refine wl_on rfl rfl h20 ?_
    refine wl_load_blk (i := 0) (vs := [v0_0]) (v := v0_0) tf_40 rfl rfl hS18 rfl rfl rfl ?_
    refine wl_on rfl rfl h20 ?_
    refine wl_field (o := 1) (off' := 1) ff_42_1 rfl rfl rfl ?_
    refine wl_on rfl rfl h20 ?_
    refine wl_load_blk (i := 0) (vs := [v0_1]) (v := v0_1) tf_24 rfl rfl hS18 rfl rfl rfl ?_
    refine wl_on rfl rfl h20 ?_
    obtain ⟨u21, hu21, hF⟩ := bindE hF
    refine wl_call rfl Try.call68 (C_impl_areCharts w15 x0.1 v0_0 (h0_0.ro hB17) x0.2.1 v0_1 (h0_1.ro hB17) _ hu21) rfl ?_
    rintro _ w22 ⟨rfl, hb23⟩
    refine ⟨_, rfl, ?_⟩
    have hB24 := hB17.trans (hb23.mono hB17.size)
    have hS25 := hS18.below hb23
    refine wl_pick_t rfl rfl h20 rfl ?_
    refine wl_move rfl rfl ?_
    rcases bE u21 with h27 | h27
    · replace hF := ifP h27 hF
      refine wl_on rfl rfl h27 ?_
      refine wl_field (o := 2) (off' := 2) ff_42_2 rfl rfl rfl ?_
      refine wl_on rfl rfl h27 ?_
      refine wl_load_blk (i := 0) (vs := [(.int .i64 x0.2.2.1)]) (v := (.int .i64 x0.2.2.1)) tf_3 rfl rfl hS25 rfl rfl rfl ?_
      refine wl_on rfl rfl h27 ?_
      obtain ⟨u28, hu28, hF⟩ := bindE hF
      refine wl_call rfl Try.call69 (C_impl_isLeast w22 x0.2.2.1 _ hu28) rfl ?_
      rintro _ w29 ⟨rfl, hb30⟩
      refine ⟨_, rfl, ?_⟩
      have hB31 := hB24.trans (hb30.mono hB24.size)
      have hS32 := hS25.below hb30
      refine wl_pick_t rfl rfl h27 rfl ?_
      refine wl_move rfl rfl ?_
      rcases bE u28 with h34 | h34
      · replace hF := ifP h34 hF
        refine wl_on rfl rfl h34 ?_
        refine wl_field (o := 3) (off' := 3) ff_42_3 rfl rfl rfl ?_
        refine wl_on rfl rfl h34 ?_
        refine wl_load_blk (i := 0) (vs := [(.int .i64 x0.2.2.2)]) (v := (.int .i64 x0.2.2.2)) tf_3 rfl rfl hS32 rfl rfl rfl ?_
        refine wl_on rfl rfl h34 ?_
        obtain ⟨u35, hu35, hF⟩ := bindE hF
        refine wl_call rfl Try.call67 (C_impl_within w29 x0.2.2.2 1 24 _ hu35) rfl ?_
        rintro _ w36 ⟨rfl, hb37⟩
        refine ⟨_, rfl, ?_⟩
        have hB38 := hB31.trans (hb37.mono hB31.size)
        have hS39 := hS32.below hb37
        refine wl_pick_t rfl rfl h34 rfl ?_
        refine wl_assign rfl rfl ?_
        refine WL.nil ?_
        exact fun a ha => hJ13 (u35) _ hF hB38 (hS39.sel [] rfl) a (ha.sub ⟨rfl, trivial⟩)
      · replace hF := ifN h34 hF
        refine wl_off rfl rfl rfl h34 ?_
        refine wl_off rfl rfl rfl h34 ?_
        refine wl_off rfl rfl rfl h34 ?_
        refine wl_pick_f rfl rfl h34 rfl ?_
        refine wl_assign rfl rfl ?_
        refine WL.nil ?_
        exact fun a ha => hJ13 (false) _ hF hB31 (hS32.sel [] rfl) a (ha.sub ⟨rfl, trivial⟩)
    · replace hF := ifN h27 hF
      refine wl_off rfl rfl rfl h27 ?_
      refine wl_off rfl rfl rfl h27 ?_
      refine wl_off rfl rfl rfl h27 ?_
      refine wl_pick_f rfl rfl h27 rfl ?_
      refine wl_move rfl rfl ?_
      refine wl_off rfl rfl rfl rfl ?_
      refine wl_off rfl rfl rfl rfl ?_
      refine wl_off rfl rfl rfl rfl ?_
      refine wl_pick_f rfl rfl rfl rfl ?_
      refine wl_assign rfl rfl ?_
      refine WL.nil ?_
      exact fun a ha => hJ13 (false) _ hF hB24 (hS25.sel [] rfl) a (ha.sub ⟨rfl, trivial⟩)
  · replace hF := ifN h20 hF
    refine wl_off rfl rfl rfl h20 ?_
    refine wl_off rfl rfl rfl h20 ?_
    refine wl_off rfl rfl rfl h20 ?_
    refine wl_off rfl rfl rfl h20 ?_
    refine wl_off rfl rfl rfl h20 ?_
    refine wl_pick_f rfl rfl h20 rfl ?_
    refine wl_move rfl rfl ?_
    refine wl_off rfl rfl rfl rfl ?_
    refine wl_off rfl rfl rfl rfl ?_
    refine wl_off rfl rfl rfl rfl ?_
    refine wl_pick_f rfl rfl rfl rfl ?_
    refine wl_move rfl rfl ?_
    refine wl_off rfl rfl rfl rfl ?_
    refine wl_off rfl rfl rfl rfl ?_
    refine wl_off rfl rfl rfl rfl ?_
    refine wl_pick_f rfl rfl rfl rfl ?_
    refine wl_assign rfl rfl ?_
    refine WL.nil ?_
    exact fun a ha => hJ13 (false) _ hF hB17 (hS18.sel [] rfl) a (ha.sub ⟨rfl, trivial⟩)
theorem C_laws_eqIntS (w0 : World) (x0 : (List Int)) (v0_0 : Value) (h0_0 : rdS ty_3 (· < w0.heap.size) w0 v0_0 x0) (x1 : (List Int)) (v1_0 : Value) (h1_0 : rdS ty_3 (· < w0.heap.size) w0 v1_0 x1) (r : Bool) (hF : F_laws_eqIntS x0 x1 = some r) :
    Calls Try.prog 10 [v0_0, v1_0].toArray w0 fun e w' => e = .returned (.bool r) ∧ Below w0.heap.size w0 w' := by
  refine calls_mk' Try.func10 rfl Try.ntmps10 rfl rfl fun Q hQ hP => ?_
  have hB : Below w0.heap.size w0 w0 := Below.refl _ _
  have hS : Sep w0.heap.size w0 [] := Sep.nil _ _
  unfold F_laws_eqIntS at hF
  refine W.seq fun K1 hK1 => ?_
  refine W.region ?_
  refine wl_assign rfl rfl ?_
  refine WL.nil ?_
  refine fun a ha => hK1 _ _ ?_ a ha
  refine W.seq fun K2 hK2 => ?_
  refine W.seq fun K3 hK3 => ?_
  refine W.region ?_
  refine wl_move rfl rfl ?_
  refine wl_lenr (e := ty_3) (l := x0) Try.underlying24 rfl rfl h0_0 ?_
  refine wl_move rfl rfl ?_
  refine wl_lenr (e := ty_3) (l := x1) Try.underlying24 rfl rfl h1_0 ?_
  refine wl_neq rfl rfl rfl ?_
  refine WL.nil ?_
  refine fun a ha => hK3 _ _ ?_ a ha
  refine W.cond rfl (fun h4 => ?_) (fun h4 => ?_)
  · replace hF := ifP h4 hF
    refine W.seq fun K5 hK5 => ?_
    refine W.region ?_
    refine wl_assign rfl rfl ?_
    refine WL.nil ?_
    refine fun a ha => hK5 _ _ ?_ a ha
    refine W.ret ?_
    have hr := Option.some.inj hF
    subst hr
    exact rets (vs := [(.bool false)]) hQ rfl ⟨rv_tmp rfl, trivial⟩ ⟨rfl, hB⟩
  · replace hF := ifN h4 hF
    refine W.skip ?_
    refine fun a ha => hK2 _ _ ?_ a ha
    refine W.seq fun K6 hK6 => ?_
    refine W.seq fun K7 hK7 => ?_
    refine W.region ?_
    refine wl_assign rfl rfl ?_
    refine WL.nil ?_
    refine fun a ha => hK7 _ _ ?_ a ha
    refine W.block ?_
    refine W.loopk (fun m a w8 => ∃ (y11 : Int), St 26 [(0, v0_0), (1, v1_0), (5, (.int .i64 y11))] a ∧ Below w0.heap.size w0 w8 ∧ Sep w0.heap.size w8 [] ∧ F_laws_eqIntS_L1 x0 x1 m y11 = some r) FU ?_ ?_
    ·
      exact fun a ha => ⟨0, ha.sub ⟨rfl, rfl, rfl, trivial⟩, hB, (hS.sel [] rfl), hF⟩
    ·
      rintro m14 a w8 ⟨y11, ha, hB9, hS10, hF⟩ KL13 hKL13
      refine W.at ?_ ha
      cases m14 with
      | zero => exact noneE hF
      | succ m14 =>
        obtain ⟨nx12, hnx12⟩ : ∃ k, k = F_laws_eqIntS_L1 x0 x1 m14 := ⟨_, rfl⟩
        rw [F_laws_eqIntS_L1, ← hnx12] at hF
        refine W.seq fun K15 hK15 => ?_
        refine W.seq fun K16 hK16 => ?_
        refine W.region ?_
        refine wl_move rfl rfl ?_
        refine wl_move rfl rfl ?_
        refine wl_lenr (e := ty_3) (l := x0) Try.underlying24 rfl rfl h0_0 ?_
        refine wl_lss rfl rfl rfl ?_
        refine WL.nil ?_
        refine fun a ha => hK16 _ _ ?_ a ha
        refine W.cond rfl (fun h17 => ?_) (fun h17 => ?_)
        · replace hF := ifP h17 hF
          refine W.skip ?_
          refine fun a ha => hK15 _ _ ?_ a ha
          refine W.seq fun K18 hK18 => ?_
          refine W.block ?_
          refine W.seq fun K19 hK19 => ?_
          refine W.regionH mixed_ [] hB9 hS10 ?_
          intro w20 hb21 hB22 hS23
          have hSW24 := KeepX.refl w20 []
          refine WH.takex (i := 0) rfl (by kernel_rfl) (by kernel_rfl) (by kernel_rfl) hP hSW24 ?_
          refine pr_move rfl rfl ?_
          refine WH.takex (i := 1) rfl (by kernel_rfl) (by kernel_rfl) (by kernel_rfl) hP hSW24 ?_
          refine pr_move rfl rfl ?_
          obtain ⟨u25, hu25, hF⟩ := bindE hF
          refine WH.takex (i := 2) rfl (by kernel_rfl) (by kernel_rfl) (by kernel_rfl) hP hSW24 ?_
          refine pr_index (e := ty_3) Try.underlying24 rfl rfl rfl h0_0 hu25 ?_
          rintro p26 _ rfl hp27
          refine WH.takex (i := 3) rfl (by kernel_rfl) (by kernel_rfl) (by kernel_rfl) hP hSW24 ?_
          refine pr_load_p (vs := [(.int .i64 u25)]) (v := (.int .i64 u25)) tf_3 rfl rfl (hp27.kx hB22 (by simp)) rfl rfl ?_
          refine WH.takex (i := 4) rfl (by kernel_rfl) (by kernel_rfl) (by kernel_rfl) hP hSW24 ?_
          refine pr_move rfl rfl ?_
          refine WH.takex (i := 5) rfl (by kernel_rfl) (by kernel_rfl) (by kernel_rfl) hP hSW24 ?_
          refine pr_move rfl rfl ?_
          obtain ⟨u28, hu28, hF⟩ := bindE hF
          refine WH.takex (i := 6) rfl (by kernel_rfl) (by kernel_rfl) (by kernel_rfl) hP hSW24 ?_
          refine pr_index (e := ty_3) Try.underlying24 rfl rfl rfl h1_0 hu28 ?_
          rintro p29 _ rfl hp30
          refine WH.takex (i := 7) rfl (by kernel_rfl) (by kernel_rfl) (by kernel_rfl) hP hSW24 ?_
          refine pr_load_p (vs := [(.int .i64 u28)]) (v := (.int .i64 u28)) tf_3 rfl rfl (hp30.kx hB22 (by simp)) rfl rfl ?_
          refine WH.takex (i := 8) rfl (by kernel_rfl) (by kernel_rfl) (by kernel_rfl) hP hSW24 ?_
          refine pr_neq rfl rfl rfl ?_
          refine WH.done (by kernel_rfl) ?_
          refine fun a ha => hK19 _ _ ?_ a ha
          refine W.cond rfl (fun h31 => ?_) (fun h31 => ?_)
          · replace hF := ifP h31 hF
            refine W.seq fun K32 hK32 => ?_
            refine W.region ?_
            refine wl_assign rfl rfl ?_
            refine WL.nil ?_
            refine fun a ha => hK32 _ _ ?_ a ha
            refine W.ret ?_
            have hr := Option.some.inj hF
            subst hr
            exact rets (vs := [(.bool false)]) hQ rfl ⟨rv_tmp rfl, trivial⟩ ⟨rfl, hB22⟩
          · replace hF := ifN h31 hF
            refine W.skip ?_
            refine fun a ha => hK18 _ _ ?_ a ha
            refine W.region ?_
            refine wl_move rfl rfl ?_
            refine wl_add rfl rfl rfl ?_
            refine wl_assign rfl rfl ?_
            refine WL.nil ?_
            rw [hnx12] at hF
            exact fun a ha => hKL13 a _ m14 (Nat.lt_succ_self m14) ⟨(w64 (y11 + 1)), ha.sub ⟨rfl, rfl, rfl, trivial⟩, hB22, (hS23.sel [] rfl), hF⟩
        · replace hF := ifN h17 hF
          refine W.exit ?_
          refine fun a ha => hK6 _ _ ?_ a ha
          refine W.seq fun K33 hK33 => ?_
          refine W.region ?_
          refine wl_assign rfl rfl ?_
          refine WL.nil ?_
          refine fun a ha => hK33 _ _ ?_ a ha
          refine W.ret ?_
          have hr := Option.some.inj hF
          subst hr
          exact rets (vs := [(.bool true)]) hQ rfl ⟨rv_tmp rfl, trivial⟩ ⟨rfl, hB9⟩
theorem C_laws_eqSpot (w0 : World) (x0 : (Int × Int)) (x1 : (Int × Int)) (r : Bool) (hF : F_laws_eqSpot x0 x1 = some r) :
    Calls Try.prog 127 [(.agg #[(.int .i64 x0.1), (.int .i64 x0.2)]), (.agg #[(.int .i64 x1.1), (.int .i64 x1.2)])].toArray w0 fun e w' => e = .returned (.bool r) ∧ Below w0.heap.size w0 w' := by
  refine calls_mk' Try.func127 rfl Try.ntmps127 rfl rfl fun Q hQ hP => ?_
  have hB : Below w0.heap.size w0 w0 := Below.refl _ _
  have hS : Sep w0.heap.size w0 [] := Sep.nil _ _
  unfold F_laws_eqSpot at hF
  refine W.seq fun K1 hK1 => ?_
  refine W.region ?_
  refine wl_box (cs := [(.int .i64 x0.1), (.int .i64 x0.2)]) rfl rfl rfl hB hS ?_
  intro b2 w3 hb4 hB5 hS6
  refine wl_box (cs := [(.int .i64 x1.1), (.int .i64 x1.2)]) rfl rfl rfl hB5 hS6 ?_
  intro b7 w8 hb9 hB10 hS11
  refine wl_assign rfl rfl ?_
  refine WL.nil ?_
  refine fun a ha => hK1 _ _ ?_ a ha
  refine W.seq fun K12 hK12 => ?_
  refine W.seq fun K13 hK13 => ?_
  refine W.region ?_
  refine wl_field (o := 0) (off' := 0) ff_106_0 rfl rfl rfl ?_
  refine wl_load_blk (i := 1) (vs := [(.int .i64 x0.1)]) (v := (.int .i64 x0.1)) tf_3 rfl rfl hS11 rfl rfl rfl ?_
  refine wl_field (o := 0) (off' := 0) ff_106_0 rfl rfl rfl ?_
  refine wl_load_blk (i := 0) (vs := [(.int .i64 x1.1)]) (v := (.int .i64 x1.1)) tf_3 rfl rfl hS11 rfl rfl rfl ?_
  refine wl_neq rfl rfl rfl ?_
  refine WL.nil ?_
  refine fun a ha => hK13 _ _ ?_ a ha
  refine W.cond rfl (fun h14 => ?_) (fun h14 => ?_)
  · replace hF := ifP h14 hF
    refine W.seq fun K15 hK15 => ?_
    refine W.region ?_
    refine wl_assign rfl rfl ?_
    refine WL.nil ?_
    refine fun a ha => hK15 _ _ ?_ a ha
    refine W.ret ?_
    have hr := Option.some.inj hF
    subst hr
    exact rets (vs := [(.bool false)]) hQ rfl ⟨rv_tmp rfl, trivial⟩ ⟨rfl, hB10⟩
  · replace hF := ifN h14 hF
    refine W.skip ?_
    refine fun a ha => hK12 _ _ ?_ a ha
    refine W.seq fun K16 hK16 => ?_
    refine W.seq fun K17 hK17 => ?_
    refine W.region ?_
    refine wl_field (o := 1) (off' := 1) ff_106_1 rfl rfl rfl ?_
    refine wl_load_blk (i := 1) (vs := [(.int .i64 x0.2)]) (v := (.int .i64 x0.2)) tf_3 rfl rfl hS11 rfl rfl rfl ?_
    refine wl_field (o := 1) (off' := 1) ff_106_1 rfl rfl rfl ?_
    refine wl_load_blk (i := 0) (vs := [(.int .i64 x1.2)]) (v := (.int .i64 x1.2)) tf_3 rfl rfl hS11 rfl rfl rfl ?_
    refine wl_neq rfl rfl rfl ?_
    refine WL.nil ?_
    refine fun a ha => hK17 _ _ ?_ a ha
    refine W.cond rfl (fun h18 => ?_) (fun h18 => ?_)
    · replace hF := ifP h18 hF
      refine W.seq fun K19 hK19 => ?_
      refine W.region ?_
      refine wl_assign rfl rfl ?_
      refine WL.nil ?_
      refine fun a ha => hK19 _ _ ?_ a ha
      refine W.ret ?_
      have hr := Option.some.inj hF
      subst hr
      exact rets (vs := [(.bool false)]) hQ rfl ⟨rv_tmp rfl, trivial⟩ ⟨rfl, hB10⟩
    · replace hF := ifN h18 hF
      refine W.skip ?_
      refine fun a ha => hK16 _ _ ?_ a ha
      refine W.seq fun K20 hK20 => ?_
      refine W.region ?_
      refine wl_assign rfl rfl ?_
      refine WL.nil ?_
      refine fun a ha => hK20 _ _ ?_ a ha
      refine W.ret ?_
      have hr := Option.some.inj hF
      subst hr
      exact rets (vs := [(.bool true)]) hQ rfl ⟨rv_tmp rfl, trivial⟩ ⟨rfl, hB10⟩
theorem C_laws_eqSpotS (w0 : World) (x0 : (List (Int × Int))) (v0_0 : Value) (h0_0 : rdS ty_106 (· < w0.heap.size) w0 v0_0 x0) (x1 : (List (Int × Int))) (v1_0 : Value) (h1_0 : rdS ty_106 (· < w0.heap.size) w0 v1_0 x1) (r : Bool) (hF : F_laws_eqSpotS x0 x1 = some r) :
    Calls Try.prog 102 [v0_0, v1_0].toArray w0 fun e w' => e = .returned (.bool r) ∧ Below w0.heap.size w0 w' := by
  refine calls_mk' Try.func102 rfl Try.ntmps102 rfl rfl fun Q hQ hP => ?_
  have hB : Below w0.heap.size w0 w0 := Below.refl _ _
  have hS : Sep w0.heap.size w0 [] := Sep.nil _ _
  unfold F_laws_eqSpotS at hF
  refine W.seq fun K1 hK1 => ?_
  refine W.region ?_
  refine wl_assign rfl rfl ?_
  refine WL.nil ?_
  refine fun a ha => hK1 _ _ ?_ a ha
  refine W.seq fun K2 hK2 => ?_
  refine W.seq fun K3 hK3 => ?_
  refine W.region ?_
  refine wl_move rfl rfl ?_
  refine wl_lenr (e := ty_106) (l := x0) Try.underlying82 rfl rfl h0_0 ?_
  refine wl_move rfl rfl ?_
  refine wl_lenr (e := ty_106) (l := x1) Try.underlying82 rfl rfl h1_0 ?_
  refine wl_neq rfl rfl rfl ?_
  refine WL.nil ?_
  refine fun a ha => hK3 _ _ ?_ a ha
  refine W.cond rfl (fun h4 => ?_) (fun h4 => ?_)
  · replace hF := ifP h4 hF
    refine W.seq fun K5 hK5 => ?_
    refine W.region ?_
    refine wl_assign rfl rfl ?_
    refine WL.nil ?_
    refine fun a ha => hK5 _ _ ?_ a ha
    refine W.ret ?_
    have hr := Option.some.inj hF
    subst hr
    exact rets (vs := [(.bool false)]) hQ rfl ⟨rv_tmp rfl, trivial⟩ ⟨rfl, hB⟩
  · replace hF := ifN h4 hF
    refine W.skip ?_
    refine fun a ha => hK2 _ _ ?_ a ha
    refine W.seq fun K6 hK6 => ?_
    refine W.seq fun K7 hK7 => ?_
    refine W.region ?_
    refine wl_assign rfl rfl ?_
    refine WL.nil ?_
    refine fun a ha => hK7 _ _ ?_ a ha
    refine W.block ?_
    refine W.loopk (fun m a w8 => ∃ (y11 : Int), St 27 [(0, v0_0), (1, v1_0), (5, (.int .i64 y11))] a ∧ Below w0.heap.size w0 w8 ∧ Sep w0.heap.size w8 [] ∧ F_laws_eqSpotS_L1 x0 x1 m y11 = some r) FU ?_ ?_
    ·
      exact fun a ha => ⟨0, ha.sub ⟨rfl, rfl, rfl, trivial⟩, hB, (hS.sel [] rfl), hF⟩
    ·
      rintro m14 a w8 ⟨y11, ha, hB9, hS10, hF⟩ KL13 hKL13
      refine W.at ?_ ha
      cases m14 with
      | zero => exact noneE hF
      | succ m14 =>
        obtain ⟨nx12, hnx12⟩ : ∃ k, k = F_laws_eqSpotS_L1 x0 x1 m14 := ⟨_, rfl⟩
        rw [F_laws_eqSpotS_L1, ← hnx12] at hF
        refine W.seq fun K15 hK15 => ?_
        refine W.seq fun K16 hK16 => ?_
        refine W.region ?_
        refine wl_move rfl rfl ?_
        refine wl_move rfl rfl ?_
        refine wl_lenr (e := ty_106) (l := x0) Try.underlying82 rfl rfl h0_0 ?_
        refine wl_lss rfl rfl rfl ?_
        refine WL.nil ?_
        refine fun a ha => hK16 _ _ ?_ a ha
        refine W.cond rfl (fun h17 => ?_) (fun h17 => ?_)
        · replace hF := ifP h17 hF
          refine W.skip ?_
          refine fun a ha => hK15 _ _ ?_ a ha
          refine W.seq fun K18 hK18 => ?_
          refine W.block ?_
          refine W.seq fun K19 hK19 => ?_
          refine W.regionH mixed_ [] hB9 hS10 ?_
          intro w20 hb21 hB22 hS23
          have hSW24 := KeepX.refl w20 []
          refine WH.takex (i := 0) rfl (by kernel_rfl) (by kernel_rfl) (by kernel_rfl) hP hSW24 ?_
          refine pr_move rfl rfl ?_
          refine WH.takex (i := 1) rfl (by kernel_rfl) (by kernel_rfl) (by kernel_rfl) hP hSW24 ?_
          refine pr_move rfl rfl ?_
          obtain ⟨u25, hu25, hF⟩ := bindE hF
          refine WH.takex (i := 2) rfl (by kernel_rfl) (by kernel_rfl) (by kernel_rfl) hP hSW24 ?_
          refine pr_index (e := ty_106) Try.underlying82 rfl rfl rfl h0_0 hu25 ?_
          rintro p26 _ rfl hp27
          refine WH.takex (i := 3) rfl (by kernel_rfl) (by kernel_rfl) (by kernel_rfl) hP hSW24 ?_
          refine pr_load_p (vs := [(.int .i64 u25.1), (.int .i64 u25.2)]) (v := (.agg #[(.int .i64 u25.1), (.int .i64 u25.2)])) tf_106 rfl rfl (hp27.kx hB22 (by simp)) rfl rfl ?_
          refine WH.takex (i := 4) rfl (by kernel_rfl) (by kernel_rfl) (by kernel_rfl) hP hSW24 ?_
          refine pr_move rfl rfl ?_
          refine WH.takex (i := 5) rfl (by kernel_rfl) (by kernel_rfl) (by kernel_rfl) hP hSW24 ?_
          refine pr_move rfl rfl ?_
          obtain ⟨u28, hu28, hF⟩ := bindE hF
          refine WH.takex (i := 6) rfl (by kernel_rfl) (by kernel_rfl) (by kernel_rfl) hP hSW24 ?_
          refine pr_index (e := ty_106) Try.underlying82 rfl rfl rfl h1_0 hu28 ?_
          rintro p29 _ rfl hp30
          refine WH.takex (i := 7) rfl (by kernel_rfl) (by kernel_rfl) (by kernel_rfl) hP hSW24 ?_
          refine pr_load_p (vs := [(.int .i64 u28.1), (.int .i64 u28.2)]) (v := (.agg #[(.int .i64 u28.1), (.int .i64 u28.2)])) tf_106 rfl rfl (hp30.kx hB22 (by simp)) rfl rfl ?_
          refine WH.one (i := 8) (by kernel_rfl) rfl ?_
          obtain ⟨u31, hu31, hF⟩ := bindE hF
          refine wl_call rfl Try.call127 (C_laws_eqSpot w20 u25 u28 _ hu31) rfl ?_
          rintro _ w32 ⟨rfl, hb33⟩
          refine ⟨_, rfl, ?_⟩
          have hB34 := hB22.trans (hb33.mono hB22.size)
          have hS35 := hS23.below hb33
          have hSW37 := hSW24.ext hb33
          refine WL.nil (WH.ret hSW37 ?_)
          refine WH.takex (i := 9) rfl (by kernel_rfl) (by kernel_rfl) (by kernel_rfl) hP hSW37 ?_
          refine pr_not rfl rfl ?_
          refine WH.done (by kernel_rfl) ?_
          refine fun a ha => hK19 _ _ ?_ a ha
          refine W.cond rfl (fun h38 => ?_) (fun h38 => ?_)
          · replace hF := ifP h38 hF
            refine W.seq fun K39 hK39 => ?_
            refine W.region ?_
            refine wl_assign rfl rfl ?_
            refine WL.nil ?_
            refine fun a ha => hK39 _ _ ?_ a ha
            refine W.ret ?_
            have hr := Option.some.inj hF
            subst hr
            exact rets (vs := [(.bool false)]) hQ rfl ⟨rv_tmp rfl, trivial⟩ ⟨rfl, hB34⟩
          · replace hF := ifN h38 hF
            refine W.skip ?_
            refine fun a ha => hK18 _ _ ?_ a ha
            refine W.region ?_
            refine wl_move rfl rfl ?_
            refine wl_add rfl rfl rfl ?_
            refine wl_assign rfl rfl ?_
            refine WL.nil ?_
            rw [hnx12] at hF
            exact fun a ha => hKL13 a _ m14 (Nat.lt_succ_self m14) ⟨(w64 (y11 + 1)), ha.sub ⟨rfl, rfl, rfl, trivial⟩, hB34, (hS35.sel [] rfl), hF⟩
        · replace hF := ifN h17 hF
          refine W.exit ?_
          refine fun a ha => hK6 _ _ ?_ a ha
          refine W.seq fun K40 hK40 => ?_
          refine W.region ?_
          refine wl_assign rfl rfl ?_
          refine WL.nil ?_
          refine fun a ha => hK40 _ _ ?_ a ha
          refine W.ret ?_
          have hr := Option.some.inj hF
          subst hr
          exact rets (vs := [(.bool true)]) hQ rfl ⟨rv_tmp rfl, trivial⟩ ⟨rfl, hB9⟩
theorem C_laws_eqSpotSS (w0 : World) (x0 : (List (List (Int × Int)))) (v0_0 : Value) (h0_0 : rdS ty_82 (· < w0.heap.size) w0 v0_0 x0) (x1 : (List (List (Int × Int)))) (v1_0 : Value) (h1_0 : rdS ty_82 (· < w0.heap.size) w0 v1_0 x1) (r : Bool) (hF : F_laws_eqSpotSS x0 x1 = some r) :
    Calls Try.prog 75 [v0_0, v1_0].toArray w0 fun e w' => e = .returned (.bool r) ∧ Below w0.heap.size w0 w' := by
  refine calls_mk' Try.func75 rfl Try.ntmps75 rfl rfl fun Q hQ hP => ?_
  have hB : Below w0.heap.size w0 w0 := Below.refl _ _
  have hS : Sep w0.heap.size w0 [] := Sep.nil _ _
  unfold F_laws_eqSpotSS at hF
  refine W.seq fun K1 hK1 => ?_
  refine W.region ?_
  refine wl_assign rfl rfl ?_
  refine WL.nil ?_
  refine fun a ha => hK1 _ _ ?_ a ha
  refine W.seq fun K2 hK2 => ?_
  refine W.seq fun K3 hK3 => ?_
  refine W.region ?_
  refine wl_move rfl rfl ?_
  refine wl_lenr (e := ty_82) (l := x0) Try.underlying40 rfl rfl h0_0 ?_
  refine wl_move rfl rfl ?_
  refine wl_lenr (e := ty_82) (l := x1) Try.underlying40 rfl rfl h1_0 ?_
  refine wl_neq rfl rfl rfl ?_
  refine WL.nil ?_
  refine fun a ha => hK3 _ _ ?_ a ha
  refine W.cond rfl (fun h4 => ?_) (fun h4 => ?_)
  · replace hF := ifP h4 hF
    refine W.seq fun K5 hK5 => ?_
    refine W.region ?_
    refine wl_assign rfl rfl ?_
    refine WL.nil ?_
    refine fun a ha => hK5 _ _ ?_ a ha
    refine W.ret ?_
    have hr := Option.some.inj hF
    subst hr
    exact rets (vs := [(.bool false)]) hQ rfl ⟨rv_tmp rfl, trivial⟩ ⟨rfl, hB⟩
  · replace hF := ifN h4 hF
    refine W.skip ?_
    refine fun a ha => hK2 _ _ ?_ a ha
    refine W.seq fun K6 hK6 => ?_
    refine W.seq fun K7 hK7 => ?_
    refine W.region ?_
    refine wl_assign rfl rfl ?_
    refine WL.nil ?_
    refine fun a ha => hK7 _ _ ?_ a ha
    refine W.block ?_
    refine W.loopk (fun m a w8 => ∃ (y11 : Int), St 27 [(0, v0_0), (1, v1_0), (5, (.int .i64 y11))] a ∧ Below w0.heap.size w0 w8 ∧ Sep w0.heap.size w8 [] ∧ F_laws_eqSpotSS_L1 x0 x1 m y11 = some r) FU ?_ ?_
    ·
      exact fun a ha => ⟨0, ha.sub ⟨rfl, rfl, rfl, trivial⟩, hB, (hS.sel [] rfl), hF⟩
    ·
      rintro m14 a w8 ⟨y11, ha, hB9, hS10, hF⟩ KL13 hKL13
      refine W.at ?_ ha
      cases m14 with
      | zero => exact noneE hF
      | succ m14 =>
        obtain ⟨nx12, hnx12⟩ : ∃ k, k = F_laws_eqSpotSS_L1 x0 x1 m14 := ⟨_, rfl⟩
        rw [F_laws_eqSpotSS_L1, ← hnx12] at hF
        refine W.seq fun K15 hK15 => ?_
        refine W.seq fun K16 hK16 => ?_
        refine W.region ?_
        refine wl_move rfl rfl ?_
        refine wl_move rfl rfl ?_
        refine wl_lenr (e := ty_82) (l := x0) Try.underlying40 rfl rfl h0_0 ?_
        refine wl_lss rfl rfl rfl ?_
        refine WL.nil ?_
        refine fun a ha => hK16 _ _ ?_ a ha
        refine W.cond rfl (fun h17 => ?_) (fun h17 => ?_)
        · replace hF := ifP h17 hF
          refine W.skip ?_
          refine fun a ha => hK15 _ _ ?_ a ha
          refine W.seq fun K18 hK18 => ?_
          refine W.block ?_
          refine W.seq fun K19 hK19 => ?_
          refine W.regionH mixed_ [] hB9 hS10 ?_
          intro w20 hb21 hB22 hS23
          have hSW24 := KeepX.refl w20 []
          refine WH.takex (i := 0) rfl (by kernel_rfl) (by kernel_rfl) (by kernel_rfl) hP hSW24 ?_
          refine pr_move rfl rfl ?_
          refine WH.takex (i := 1) rfl (by kernel_rfl) (by kernel_rfl) (by kernel_rfl) hP hSW24 ?_
          refine pr_move rfl rfl ?_
          obtain ⟨u25, hu25, hF⟩ := bindE hF
          refine WH.takex (i := 2) rfl (by kernel_rfl) (by kernel_rfl) (by kernel_rfl) hP hSW24 ?_
          refine pr_index (e := ty_82) Try.underlying40 rfl rfl rfl h0_0 hu25 ?_
          rintro p26 _ ⟨v28, rfl, hv29⟩ hp27
          refine WH.takex (i := 3) rfl (by kernel_rfl) (by kernel_rfl) (by kernel_rfl) hP hSW24 ?_
          refine pr_load_p (vs := [v28]) (v := v28) tf_82 rfl rfl (hp27.kx hB22 (by simp)) rfl rfl ?_
          refine WH.takex (i := 4) rfl (by kernel_rfl) (by kernel_rfl) (by kernel_rfl) hP hSW24 ?_
          refine pr_move rfl rfl ?_
          refine WH.takex (i := 5) rfl (by kernel_rfl) (by kernel_rfl) (by kernel_rfl) hP hSW24 ?_
          refine pr_move rfl rfl ?_
          obtain ⟨u30, hu30, hF⟩ := bindE hF
          refine WH.takex (i := 6) rfl (by kernel_rfl) (by kernel_rfl) (by kernel_rfl) hP hSW24 ?_
          refine pr_index (e := ty_82) Try.underlying40 rfl rfl rfl h1_0 hu30 ?_
          rintro p31 _ ⟨v33, rfl, hv34⟩ hp32
          refine WH.takex (i := 7) rfl (by kernel_rfl) (by kernel_rfl) (by kernel_rfl) hP hSW24 ?_
          refine pr_load_p (vs := [v33]) (v := v33) tf_82 rfl rfl (hp32.kx hB22 (by simp)) rfl rfl ?_
          refine WH.one (i := 8) (by kernel_rfl) rfl ?_
          obtain ⟨u35, hu35, hF⟩ := bindE hF
          refine wl_call rfl Try.call102 (C_laws_eqSpotS w20 u25 v28 (hv29.ro hB22) u30 v33 (hv34.ro hB22) _ hu35) rfl ?_
          rintro _ w36 ⟨rfl, hb37⟩
          refine ⟨_, rfl, ?_⟩
          have hB38 := hB22.trans (hb37.mono hB22.size)
          have hS39 := hS23.below hb37
          have hSW41 := hSW24.ext hb37
          refine WL.nil (WH.ret hSW41 ?_)
          refine WH.takex (i := 9) rfl (by kernel_rfl) (by kernel_rfl) (by kernel_rfl) hP hSW41 ?_
          refine pr_not rfl rfl ?_
          refine WH.done (by kernel_rfl) ?_
          refine fun a ha => hK19 _ _ ?_ a ha
          refine W.cond rfl (fun h42 => ?_) (fun h42 => ?_)
          · replace hF := ifP h42 hF
            refine W.seq fun K43 hK43 => ?_
            refine W.region ?_
            refine wl_assign rfl rfl ?_
            refine WL.nil ?_
            refine fun a ha => hK43 _ _ ?_ a ha
            refine W.ret ?_
            have hr := Option.some.inj hF
            subst hr
            exact rets (vs := [(.bool false)]) hQ rfl ⟨rv_tmp rfl, trivial⟩ ⟨rfl, hB38⟩
          · replace hF := ifN h42 hF
            refine W.skip ?_
            refine fun a ha => hK18 _ _ ?_ a ha
            refine W.region ?_
            refine wl_move rfl rfl ?_
            refine wl_add rfl rfl rfl ?_
            refine wl_assign rfl rfl ?_
            refine WL.nil ?_
            rw [hnx12] at hF
            exact fun a ha => hKL13 a _ m14 (Nat.lt_succ_self m14) ⟨(w64 (y11 + 1)), ha.sub ⟨rfl, rfl, rfl, trivial⟩, hB38, (hS39.sel [] rfl), hF⟩
        · replace hF := ifN h17 hF
          refine W.exit ?_
          refine fun a ha => hK6 _ _ ?_ a ha
          refine W.seq fun K44 hK44 => ?_
          refine W.region ?_
          refine wl_assign rfl rfl ?_
          refine WL.nil ?_
          refine fun a ha => hK44 _ _ ?_ a ha
          refine W.ret ?_
          have hr := Option.some.inj hF
          subst hr
          exact rets (vs := [(.bool true)]) hQ rfl ⟨rv_tmp rfl, trivial⟩ ⟨rfl, hB9⟩
theorem C_laws_eqShow (w0 : World) (x0 : ((List (List (Int × Int))) × (List Int) × Int × Int)) (v0_0 : Value) (h0_0 : rdS ty_82 (· < w0.heap.size) w0 v0_0 x0.1) (v0_1 : Value) (h0_1 : rdS ty_3 (· < w0.heap.size) w0 v0_1 x0.2.1) (x1 : ((List (List (Int × Int))) × (List Int) × Int × Int)) (v1_0 : Value) (h1_0 : rdS ty_82 (· < w0.heap.size) w0 v1_0 x1.1) (v1_1 : Value) (h1_1 : rdS ty_3 (· < w0.heap.size) w0 v1_1 x1.2.1) (r : Bool) (hF : F_laws_eqShow x0 x1 = some r) :
    Calls Try.prog 37 [(.agg #[v0_0, v0_1, (.int .i64 x0.2.2.1), (.int .i64 x0.2.2.2)]), (.agg #[v1_0, v1_1, (.int .i64 x1.2.2.1), (.int .i64 x1.2.2.2)])].toArray w0 fun e w' => e = .returned (.bool r) ∧ Below w0.heap.size w0 w' := by
  refine calls_mk' Try.func37 rfl Try.ntmps37 rfl rfl fun Q hQ hP => ?_
  have hB : Below w0.heap.size w0 w0 := Below.refl _ _
  have hS : Sep w0.heap.size w0 [] := Sep.nil _ _
  unfold F_laws_eqShow at hF
  refine W.seq fun K1 hK1 => ?_
  refine W.region ?_
  refine wl_box (cs := [v0_0, v0_1, (.int .i64 x0.2.2.1), (.int .i64 x0.2.2.2)]) rfl rfl rfl hB hS ?_
  intro b2 w3 hb4 hB5 hS6
  refine wl_box (cs := [v1_0, v1_1, (.int .i64 x1.2.2.1), (.int .i64 x1.2.2.2)]) rfl rfl rfl hB5 hS6 ?_
  intro b7 w8 hb9 hB10 hS11
  refine wl_assign rfl rfl ?_
  refine WL.nil ?_
  refine fun a ha => hK1 _ _ ?_ a ha
  refine W.seq fun K12 hK12 => ?_
  refine W.seq fun K13 hK13 => ?_
  refine W.region ?_
  refine wl_field (o := 0) (off' := 0) ff_42_0 rfl rfl rfl ?_
  refine wl_load_blk (i := 1) (vs := [v0_0]) (v := v0_0) tf_40 rfl rfl hS11 rfl rfl rfl ?_
  refine wl_field (o := 0) (off' := 0) ff_42_0 rfl rfl rfl ?_
  refine wl_load_blk (i := 0) (vs := [v1_0]) (v := v1_0) tf_40 rfl rfl hS11 rfl rfl rfl ?_
  obtain ⟨u14, hu14, hF⟩ := bindE hF
  refine wl_call rfl Try.call75 (C_laws_eqSpotSS w8 x0.1 v0_0 (h0_0.ro hB10) x1.1 v1_0 (h1_0.ro hB10) _ hu14) rfl ?_
  rintro _ w15 ⟨rfl, hb16⟩
  refine ⟨_, rfl, ?_⟩
  have hB17 := hB10.trans (hb16.mono hB10.size)
  have hS18 := hS11.below hb16
  refine wl_not rfl rfl ?_
  refine WL.nil ?_
  refine fun a ha => hK13 _ _ ?_ a ha
  refine W.cond rfl (fun h20 => ?_) (fun h20 => ?_)
  · replace hF := ifP h20 hF
    refine W.seq fun K21 hK21 => ?_
    refine W.region ?_
    refine wl_assign rfl rfl ?_
    refine WL.nil ?_
    refine fun a ha => hK21 _ _ ?_ a ha
    refine W.ret ?_
    have hr := Option.some.inj hF
    subst hr
    exact rets (vs := [(.bool false)]) hQ rfl ⟨rv_tmp rfl, trivial⟩ ⟨rfl, hB17⟩
  · replace hF := ifN h20 hF
    refine W.skip ?_
    refine fun a ha => hK12 _ _ ?_ a ha
    refine W.seq fun K22 hK22 => ?_
    refine W.seq fun K23 hK23 => ?_
    refine W.region ?_
    refine wl_field (o := 1) (off' := 1) ff_42_1 rfl rfl rfl ?_
    refine wl_load_blk (i := 1) (vs := [v0_1]) (v := v0_1) tf_24 rfl rfl hS18 rfl rfl rfl ?_
    refine wl_field (o := 1) (off' := 1) ff_42_1 rfl rfl rfl ?_
    refine wl_load_blk (i := 0) (vs := [v1_1]) (v := v1_1) tf_24 rfl rfl hS18 rfl rfl rfl ?_
    obtain ⟨u24, hu24, hF⟩ := bindE hF
    refine wl_call rfl Try.call10 (C_laws_eqIntS w15 x0.2.1 v0_1 (h0_1.ro hB17) x1.2.1 v1_1 (h1_1.ro hB17) _ hu24) rfl ?_
    rintro _ w25 ⟨rfl, hb26⟩
    refine ⟨_, rfl, ?_⟩
    have hB27 := hB17.trans (hb26.mono hB17.size)
    have hS28 := hS18.below hb26
    refine wl_not rfl rfl ?_
    refine WL.nil ?_
    refine fun a ha => hK23 _ _ ?_ a ha
    refine W.cond rfl (fun h30 => ?_) (fun h30 => ?_)
    · replace hF := ifP h30 hF
      refine W.seq fun K31 hK31 => ?_
      refine W.region ?_
      refine wl_assign rfl rfl ?_
      refine WL.nil ?_
      refine fun a ha => hK31 _ _ ?_ a ha
      refine W.ret ?_
      have hr := Option.some.inj hF
      subst hr
      exact rets (vs := [(.bool false)]) hQ rfl ⟨rv_tmp rfl, trivial⟩ ⟨rfl, hB27⟩
    · replace hF := ifN h30 hF
      refine W.skip ?_
      refine fun a ha => hK22 _ _ ?_ a ha
      refine W.seq fun K32 hK32 => ?_
      refine W.seq fun K33 hK33 => ?_
      refine W.region ?_
      refine wl_field (o := 2) (off' := 2) ff_42_2 rfl rfl rfl ?_
      refine wl_load_blk (i := 1) (vs := [(.int .i64 x0.2.2.1)]) (v := (.int .i64 x0.2.2.1)) tf_3 rfl rfl hS28 rfl rfl rfl ?_
      refine wl_field (o := 2) (off' := 2) ff_42_2 rfl rfl rfl ?_
      refine wl_load_blk (i := 0) (vs := [(.int .i64 x1.2.2.1)]) (v := (.int .i64 x1.2.2.1)) tf_3 rfl rfl hS28 rfl rfl rfl ?_
      refine wl_neq rfl rfl rfl ?_
      refine WL.nil ?_
      refine fun a ha => hK33 _ _ ?_ a ha
      refine W.cond rfl (fun h34 => ?_) (fun h34 => ?_)
      · replace hF := ifP h34 hF
        refine W.seq fun K35 hK35 => ?_
        refine W.region ?_
        refine wl_assign rfl rfl ?_
        refine WL.nil ?_
        refine fun a ha => hK35 _ _ ?_ a ha
        refine W.ret ?_
        have hr := Option.some.inj hF
        subst hr
        exact rets (vs := [(.bool false)]) hQ rfl ⟨rv_tmp rfl, trivial⟩ ⟨rfl, hB27⟩
      · replace hF := ifN h34 hF
        refine W.skip ?_
        refine fun a ha => hK32 _ _ ?_ a ha
        refine W.seq fun K36 hK36 => ?_
        refine W.seq fun K37 hK37 => ?_
        refine W.region ?_
        refine wl_field (o := 3) (off' := 3) ff_42_3 rfl rfl rfl ?_
        refine wl_load_blk (i := 1) (vs := [(.int .i64 x0.2.2.2)]) (v := (.int .i64 x0.2.2.2)) tf_3 rfl rfl hS28 rfl rfl rfl ?_
        refine wl_field (o := 3) (off' := 3) ff_42_3 rfl rfl rfl ?_
        refine wl_load_blk (i := 0) (vs := [(.int .i64 x1.2.2.2)]) (v := (.int .i64 x1.2.2.2)) tf_3 rfl rfl hS28 rfl rfl rfl ?_
        refine wl_neq rfl rfl rfl ?_
        refine WL.nil ?_
        refine fun a ha => hK37 _ _ ?_ a ha
        refine W.cond rfl (fun h38 => ?_) (fun h38 => ?_)
        · replace hF := ifP h38 hF
          refine W.seq fun K39 hK39 => ?_
          refine W.region ?_
          refine wl_assign rfl rfl ?_
          refine WL.nil ?_
          refine fun a ha => hK39 _ _ ?_ a ha
          refine W.ret ?_
          have hr := Option.some.inj hF
          subst hr
          exact rets (vs := [(.bool false)]) hQ rfl ⟨rv_tmp rfl, trivial⟩ ⟨rfl, hB27⟩
        · replace hF := ifN h38 hF
          refine W.skip ?_
          refine fun a ha => hK36 _ _ ?_ a ha
          refine W.seq fun K40 hK40 => ?_
          refine W.region ?_
          refine wl_assign rfl rfl ?_
          refine WL.nil ?_
          refine fun a ha => hK40 _ _ ?_ a ha
          refine W.ret ?_
          have hr := Option.some.inj hF
          subst hr
          exact rets (vs := [(.bool true)]) hQ rfl ⟨rv_tmp rfl, trivial⟩ ⟨rfl, hB27⟩
theorem C_laws_markSpotS (w0 : World) (x0 : (List (Int × Int))) (v0_0 : Value) (B0_0 : List Nat) (x1 : Int) (hS0 : Sep 0 w0 [R.own ty_106 B0_0 v0_0 x0]) (r : (Int × (List (Int × Int)))) (hF : F_laws_markSpotS x0 x1 = some r) :
    Calls Try.prog 76 [v0_0, (.int .i64 x1)].toArray w0 fun e w' => e = .returned (.int .i64 r.1) ∧ Below 0 (wE w0) w' ∧ Sep 0 w' [R.rest w0 (fps [R.own ty_106 B0_0 v0_0 x0]), R.own ty_106 B0_0 v0_0 r.2] := by
  refine calls_mk' Try.func76 rfl Try.ntmps76 rfl rfl fun Q hQ hP => ?_
  have hB : Below (wE w0).heap.size (wE w0) w0 := wE_below w0
  have hS : Sep (wE w0).heap.size w0 [R.rest w0 (fps [R.own ty_106 B0_0 v0_0 x0]), R.own ty_106 B0_0 v0_0 x0] := hS0.rest
  unfold F_laws_markSpotS at hF
  refine W.seq fun K1 hK1 => ?_
  refine W.region ?_
  refine wl_assign rfl rfl ?_
  refine WL.nil ?_
  refine fun a ha => hK1 _ _ ?_ a ha
  refine W.seq fun K2 hK2 => ?_
  refine W.seq fun K3 hK3 => ?_
  refine W.region ?_
  refine wl_assign rfl rfl ?_
  refine WL.nil ?_
  refine fun a ha => hK3 _ _ ?_ a ha
  refine W.block ?_
  refine W.loopk (fun m a w4 => ∃ (l7 : (List (Int × Int))) (y8 : Int) (y9 : Int), St 27 [(0, v0_0), (1, (.int .i64 y8)), (5, (.int .i64 y9))] a ∧ Below (wE w0).heap.size (wE w0) w4 ∧ Sep (wE w0).heap.size w4 [R.rest w0 (fps [R.own ty_106 B0_0 v0_0 x0]), R.own ty_106 B0_0 v0_0 l7] ∧ F_laws_markSpotS_L1 m l7 y8 y9 = some r) FU ?_ ?_
  ·
    exact fun a ha => ⟨x0, x1, 0, ha.sub ⟨rfl, rfl, rfl, trivial⟩, hB, (hS.sel [0, 1] rfl), hF⟩
  ·
    rintro m12 a w4 ⟨l7, y8, y9, ha, hB5, hS6, hF⟩ KL11 hKL11
    refine W.at ?_ ha
    cases m12 with
    | zero => exact noneE hF
    | succ m12 =>
      obtain ⟨nx10, hnx10⟩ : ∃ k, k = F_laws_markSpotS_L1 m12 := ⟨_, rfl⟩
      rw [F_laws_markSpotS_L1, ← hnx10] at hF
      refine W.seq fun K13 hK13 => ?_
      refine W.seq fun K14 hK14 => ?_
      refine W.region ?_
      refine wl_move rfl rfl ?_
      refine wl_move rfl rfl ?_
      refine wl_lenr (e := ty_106) (l := l7) Try.underlying82 rfl rfl (hS6.own_ro (i := 1) rfl) ?_
      refine wl_lss rfl rfl rfl ?_
      refine WL.nil ?_
      refine fun a ha => hK14 _ _ ?_ a ha
      refine W.cond rfl (fun h15 => ?_) (fun h15 => ?_)
      · replace hF := ifP h15 hF
        refine W.skip ?_
        refine fun a ha => hK13 _ _ ?_ a ha
        refine W.seq fun K16 hK16 => ?_
        refine W.block ?_
        refine W.seq fun K17 hK17 => ?_
        refine W.region ?_
        refine wl_move rfl rfl ?_
        refine wl_move rfl rfl ?_
        refine wl_move rfl rfl ?_
        obtain ⟨u18, hu18, hF⟩ := bindE hF
        refine wl_indexo (e := ty_106) (i := 1) Try.underlying82 rfl rfl rfl hS6 rfl hu18 ?_
        rintro p19 _ rfl hp20 ho21
        refine wl_fieldp (o := 0) ff_106_0 rfl rfl ?_
        refine wl_storeo (i := 1) (o := 0) (vs := [(.int .i64 y8)]) (u' := (y8, u18.2)) fl_106 tf_3 rfl rfl rfl rfl ho21 hu18 hB5 hS6 rfl rfl ⟨rfl, trivial⟩ rfl ?_
        intro w22 hk25 hB23 hS24
        refine WL.nil ?_
        refine fun a ha => hK17 _ _ ?_ a ha
        refine W.seq fun K26 hK26 => ?_
        refine W.region ?_
        refine wl_move rfl rfl ?_
        refine wl_add rfl rfl rfl ?_
        refine wl_assign rfl rfl ?_
        refine WL.nil ?_
        refine fun a ha => hK26 _ _ ?_ a ha
        refine W.seq fun K27 hK27 => ?_
        refine W.region ?_
        refine wl_move rfl rfl ?_
        refine wl_move rfl rfl ?_
        refine wl_move rfl rfl ?_
        obtain ⟨u28, hu28, hF⟩ := bindE hF
        refine wl_indexo (e := ty_106) (i := 1) Try.underlying82 rfl rfl rfl hS24 rfl hu28 ?_
        rintro p29 _ rfl hp30 ho31
        refine wl_fieldp (o := 1) ff_106_1 rfl rfl ?_
        refine wl_storeo (i := 1) (o := 1) (vs := [(.int .i64 (w64 (y8 + 1)))]) (u' := (u28.1, (w64 (y8 + 1)))) fl_106 tf_3 rfl rfl rfl rfl (ho31.add 1) hu28 hB23 hS24 rfl rfl ⟨rfl, trivial⟩ rfl ?_
        intro w32 hk35 hB33 hS34
        refine WL.nil ?_
        refine fun a ha => hK27 _ _ ?_ a ha
        refine W.region ?_
        refine wl_move rfl rfl ?_
        refine wl_add rfl rfl rfl ?_
        refine wl_assign rfl rfl ?_
        refine WL.nil ?_
        refine fun a ha => hK16 _ _ ?_ a ha
        refine W.region ?_
        refine wl_move rfl rfl ?_
        refine wl_add rfl rfl rfl ?_
        refine wl_assign rfl rfl ?_
        refine WL.nil ?_
        rw [hnx10] at hF
        exact fun a ha => hKL11 a _ m12 (Nat.lt_succ_self m12) ⟨(seti (seti l7 y9 (y8, u18.2)) y9 (u28.1, (w64 (y8 + 1)))), (w64 ((w64 (y8 + 1)) + 1)), (w64 (y9 + 1)), ha.sub ⟨rfl, rfl, rfl, trivial⟩, hB33, (hS34.sel [0, 1] rfl), hF⟩
      · replace hF := ifN h15 hF
        refine W.exit ?_
        refine fun a ha => hK2 _ _ ?_ a ha
        refine W.seq fun K36 hK36 => ?_
        refine W.region ?_
        refine wl_move rfl rfl ?_
        refine wl_assign rfl rfl ?_
        refine WL.nil ?_
        refine fun a ha => hK36 _ _ ?_ a ha
        refine W.ret ?_
        have hr := Option.some.inj hF
        subst hr
        exact rets (vs := [(.int .i64 y8)]) hQ rfl ⟨rv_tmp rfl, trivial⟩ ⟨rfl, hB5, hS6.sel [0, 1] rfl⟩
theorem C_laws_markSpotSS (w0 : World) (x0 : (List (List (Int × Int)))) (v0_0 : Value) (B0_0 : List Nat) (x1 : Int) (hS0 : Sep 0 w0 [R.own ty_82 B0_0 v0_0 x0]) (r : (Int × (List (List (Int × Int))))) (hF : F_laws_markSpotSS x0 x1 = some r) :
    Calls Try.prog 38 [v0_0, (.int .i64 x1)].toArray w0 fun e w' => e = .returned (.int .i64 r.1) ∧ Below 0 (wE w0) w' ∧ Sep 0 w' [R.rest w0 (fps [R.own ty_82 B0_0 v0_0 x0]), R.own ty_82 B0_0 v0_0 r.2] := by
  refine calls_mk' Try.func38 rfl Try.ntmps38 rfl rfl fun Q hQ hP => ?_
  have hB : Below (wE w0).heap.size (wE w0) w0 := wE_below w0
  have hS : Sep (wE w0).heap.size w0 [R.rest w0 (fps [R.own ty_82 B0_0 v0_0 x0]), R.own ty_82 B0_0 v0_0 x0] := hS0.rest
  unfold F_laws_markSpotSS at hF
  refine W.seq fun K1 hK1 => ?_
  refine W.region ?_
  refine wl_assign rfl rfl ?_
  refine WL.nil ?_
  refine fun a ha => hK1 _ _ ?_ a ha
  refine W.seq fun K2 hK2 => ?_
  refine W.seq fun K3 hK3 => ?_
  refine W.region ?_
  refine wl_assign rfl rfl ?_
  refine WL.nil ?_
  refine fun a ha => hK3 _ _ ?_ a ha
  refine W.block ?_
  refine W.loopk (fun m a w4 => ∃ (l7 : (List (List (Int × Int)))) (y8 : Int) (y9 : Int), St 19 [(0, v0_0), (1, (.int .i64 y8)), (5, (.int .i64 y9))] a ∧ Below (wE w0).heap.size (wE w0) w4 ∧ Sep (wE w0).heap.size w4 [R.rest w0 (fps [R.own ty_82 B0_0 v0_0 x0]), R.own ty_82 B0_0 v0_0 l7] ∧ F_laws_markSpotSS_L1 m l7 y8 y9 = some r) FU ?_ ?_
  ·
    exact fun a ha => ⟨x0, x1, 0, ha.sub ⟨rfl, rfl, rfl, trivial⟩, hB, (hS.sel [0, 1] rfl), hF⟩
  ·
    rintro m12 a w4 ⟨l7, y8, y9, ha, hB5, hS6, hF⟩ KL11 hKL11
    refine W.at ?_ ha
    cases m12 with
    | zero => exact noneE hF
    | succ m12 =>
      obtain ⟨nx10, hnx10⟩ : ∃ k, k = F_laws_markSpotSS_L1 m12 := ⟨_, rfl⟩
      rw [F_laws_markSpotSS_L1, ← hnx10] at hF
      refine W.seq fun K13 hK13 => ?_
      refine W.seq fun K14 hK14 => ?_
      refine W.region ?_
      refine wl_move rfl rfl ?_
      refine wl_move rfl rfl ?_
      refine wl_lenr (e := ty_82) (l := l7) Try.underlying40 rfl rfl (hS6.own_ro (i := 1) rfl) ?_
      refine wl_lss rfl rfl rfl ?_
      refine WL.nil ?_
      refine fun a ha => hK14 _ _ ?_ a ha
      refine W.cond rfl (fun h15 => ?_) (fun h15 => ?_)
      · replace hF := ifP h15 hF
        refine W.skip ?_
        refine fun a ha => hK13 _ _ ?_ a ha
        refine W.seq fun K16 hK16 => ?_
        refine W.block ?_
        refine W.region ?_
        refine wl_move rfl rfl ?_
        refine wl_move rfl rfl ?_
        obtain ⟨u17, hu17, hF⟩ := bindE hF
        refine wl_indexo (e := ty_82) (i := 1) Try.underlying40 rfl rfl rfl hS6 rfl hu17 ?_
        rintro p18 _ ⟨v20, rfl, hv21⟩ hp19 ho22
        refine wl_load_p (vs := [v20]) (v := v20) tf_82 rfl rfl hp19 rfl rfl ?_
        refine wl_move rfl rfl ?_
        obtain ⟨F23, hS24, hq25, hq26⟩ := (hS6.sel [1, 0] rfl).borrow (e := ty_82) (F := B0_0) (v := v0_0) (l := l7) hu17 ho22 hp19 rfl
        have hS27 : Sep (wE w0).heap.size w4 [R.own ty_106 F23 v20 u17, R.hole ty_82 B0_0 F23 v0_0 l7 y9.toNat [v20], R.rest w0 (fps [R.own ty_82 B0_0 v0_0 x0])] := hS24.head rfl fun _ h => by obtain ⟨_, h1, h2⟩ := h; cases h1; exact h2
        obtain ⟨u28, hu28, hF⟩ := bindE hF
        refine wl_call rfl Try.call76 (C_laws_markSpotS w4 u17 v20 F23 y8 (hS27.sel [0] rfl).base0 _ hu28) rfl ?_
        rintro _ w29 ⟨rfl, hE30, hM31⟩
        refine ⟨_, rfl, ?_⟩
        have hB32 := hS27.mutB [0] rfl (M := [R.own ty_106 F23 v20 u17]) rfl (M' := [R.own ty_106 F23 v20 u28.2]) rfl hB5 hB5.size hE30 hM31
        have hS33 : Sep (wE w0).heap.size w29 [R.own ty_106 F23 v20 u28.2, R.hole ty_82 B0_0 F23 v0_0 l7 y9.toNat [v20], R.rest w0 (fps [R.own ty_82 B0_0 v0_0 x0])] := hS27.mut [0] [1, 2] rfl (M := [R.own ty_106 F23 v20 u17]) rfl (M' := [R.own ty_106 F23 v20 u28.2]) rfl hM31
        have hS34 := hS33.head (r' := R.cel ty_82 F23 [v20] u28.2) rfl fun _ h => ⟨_, rfl, h⟩
        have hS35 : Sep (wE w0).heap.size w29 [R.own ty_82 B0_0 v0_0 (seti l7 y9 u28.2), R.rest w0 (fps [R.own ty_82 B0_0 v0_0 x0])] := hS34.unborrow hq25 hq26
        refine wl_assign rfl rfl ?_
        refine WL.nil ?_
        refine fun a ha => hK16 _ _ ?_ a ha
        refine W.region ?_
        refine wl_move rfl rfl ?_
        refine wl_add rfl rfl rfl ?_
        refine wl_assign rfl rfl ?_
        refine WL.nil ?_
        rw [hnx10] at hF
        exact fun a ha => hKL11 a _ m12 (Nat.lt_succ_self m12) ⟨(seti l7 y9 u28.2), u28.1, (w64 (y9 + 1)), ha.sub ⟨rfl, rfl, rfl, trivial⟩, hB32, (hS35.sel [1, 0] rfl), hF⟩
      · replace hF := ifN h15 hF
        refine W.exit ?_
        refine fun a ha => hK2 _ _ ?_ a ha
        refine W.seq fun K36 hK36 => ?_
        refine W.region ?_
        refine wl_move rfl rfl ?_
        refine wl_assign rfl rfl ?_
        refine WL.nil ?_
        refine fun a ha => hK36 _ _ ?_ a ha
        refine W.ret ?_
        have hr := Option.some.inj hF
        subst hr
        exact rets (vs := [(.int .i64 y8)]) hQ rfl ⟨rv_tmp rfl, trivial⟩ ⟨rfl, hB5, hS6.sel [0, 1] rfl⟩
theorem C_laws_markIntS (w0 : World) (x0 : (List Int)) (v0_0 : Value) (B0_0 : List Nat) (x1 : Int) (hS0 : Sep 0 w0 [R.own ty_3 B0_0 v0_0 x0]) (r : (Int × (List Int))) (hF : F_laws_markIntS x0 x1 = some r) :
    Calls Try.prog 13 [v0_0, (.int .i64 x1)].toArray w0 fun e w' => e = .returned (.int .i64 r.1) ∧ Below 0 (wE w0) w' ∧ Sep 0 w' [R.rest w0 (fps [R.own ty_3 B0_0 v0_0 x0]), R.own ty_3 B0_0 v0_0 r.2] := by
  refine calls_mk' Try.func13 rfl Try.ntmps13 rfl rfl fun Q hQ hP => ?_
  have hB : Below (wE w0).heap.size (wE w0) w0 := wE_below w0
  have hS : Sep (wE w0).heap.size w0 [R.rest w0 (fps [R.own ty_3 B0_0 v0_0 x0]), R.own ty_3 B0_0 v0_0 x0] := hS0.rest
  unfold F_laws_markIntS at hF
  refine W.seq fun K1 hK1 => ?_
  refine W.region ?_
  refine wl_assign rfl rfl ?_
  refine WL.nil ?_
  refine fun a ha => hK1 _ _ ?_ a ha
  refine W.seq fun K2 hK2 => ?_
  refine W.seq fun K3 hK3 => ?_
  refine W.region ?_
  refine wl_assign rfl rfl ?_
  refine WL.nil ?_
  refine fun a ha => hK3 _ _ ?_ a ha
  refine W.block ?_
  refine W.loopk (fun m a w4 => ∃ (l7 : (List Int)) (y8 : Int) (y9 : Int), St 19 [(0, v0_0), (1, (.int .i64 y8)), (5, (.int .i64 y9))] a ∧ Below (wE w0).heap.size (wE w0) w4 ∧ Sep (wE w0).heap.size w4 [R.rest w0 (fps [R.own ty_3 B0_0 v0_0 x0]), R.own ty_3 B0_0 v0_0 l7] ∧ F_laws_markIntS_L1 m l7 y8 y9 = some r) FU ?_ ?_
  ·
    exact fun a ha => ⟨x0, x1, 0, ha.sub ⟨rfl, rfl, rfl, trivial⟩, hB, (hS.sel [0, 1] rfl), hF⟩
  ·
    rintro m12 a w4 ⟨l7, y8, y9, ha, hB5, hS6, hF⟩ KL11 hKL11
    refine W.at ?_ ha
    cases m12 with
    | zero => exact noneE hF
    | succ m12 =>
      obtain ⟨nx10, hnx10⟩ : ∃ k, k = F_laws_markIntS_L1 m12 := ⟨_, rfl⟩
      rw [F_laws_markIntS_L1, ← hnx10] at hF
      refine W.seq fun K13 hK13 => ?_
      refine W.seq fun K14 hK14 => ?_
      refine W.region ?_
      refine wl_move rfl rfl ?_
      refine wl_move rfl rfl ?_
      refine wl_lenr (e := ty_3) (l := l7) Try.underlying24 rfl rfl (hS6.own_ro (i := 1) rfl) ?_
      refine wl_lss rfl rfl rfl ?_
      refine WL.nil ?_
      refine fun a ha => hK14 _ _ ?_ a ha
      refine W.cond rfl (fun h15 => ?_) (fun h15 => ?_)
      · replace hF := ifP h15 hF
        refine W.skip ?_
        refine fun a ha => hK13 _ _ ?_ a ha
        refine W.seq fun K16 hK16 => ?_
        refine W.block ?_
        refine W.seq fun K17 hK17 => ?_
        refine W.region ?_
        refine wl_move rfl rfl ?_
        refine wl_move rfl rfl ?_
        refine wl_move rfl rfl ?_
        obtain ⟨u18, hu18, hF⟩ := bindE hF
        refine wl_indexo (e := ty_3) (i := 1) Try.underlying24 rfl rfl rfl hS6 rfl hu18 ?_
        rintro p19 _ rfl hp20 ho21
        refine wl_storeo (i := 1) (o := 0) (vs := [(.int .i64 y8)]) (u' := y8) fl_3 tf_3 rfl rfl rfl rfl ho21 hu18 hB5 hS6 rfl rfl ⟨rfl, trivial⟩ rfl ?_
        intro w22 hk25 hB23 hS24
        refine WL.nil ?_
        refine fun a ha => hK17 _ _ ?_ a ha
        refine W.region ?_
        refine wl_move rfl rfl ?_
        refine wl_add rfl rfl rfl ?_
        refine wl_assign rfl rfl ?_
        refine WL.nil ?_
        refine fun a ha => hK16 _ _ ?_ a ha
        refine W.region ?_
        refine wl_move rfl rfl ?_
        refine wl_add rfl rfl rfl ?_
        refine wl_assign rfl rfl ?_
        refine WL.nil ?_
        rw [hnx10] at hF
        exact fun a ha => hKL11 a _ m12 (Nat.lt_succ_self m12) ⟨(seti l7 y9 y8), (w64 (y8 + 1)), (w64 (y9 + 1)), ha.sub ⟨rfl, rfl, rfl, trivial⟩, hB23, (hS24.sel [0, 1] rfl), hF⟩
      · replace hF := ifN h15 hF
        refine W.exit ?_
        refine fun a ha => hK2 _ _ ?_ a ha
        refine W.seq fun K26 hK26 => ?_
        refine W.region ?_
        refine wl_move rfl rfl ?_
        refine wl_assign rfl rfl ?_
        refine WL.nil ?_
        refine fun a ha => hK26 _ _ ?_ a ha
        refine W.ret ?_
        have hr := Option.some.inj hF
        subst hr
        exact rets (vs := [(.int .i64 y8)]) hQ rfl ⟨rv_tmp rfl, trivial⟩ ⟨rfl, hB5, hS6.sel [0, 1] rfl⟩
theorem C_laws_heldIntS (w0 : World) (x0 : (List Int)) (v0_0 : Value) (h0_0 : rdS ty_3 (· < w0.heap.size) w0 v0_0 x0) (x1 : Int) (r : Int) (hF : F_laws_heldIntS x0 x1 = some r) :
    Calls Try.prog 14 [v0_0, (.int .i64 x1)].toArray w0 fun e w' => e = .returned (.int .i64 r) ∧ Below w0.heap.size w0 w' := by
  refine calls_mk' Try.func14 rfl Try.ntmps14 rfl rfl fun Q hQ hP => ?_
  have hB : Below w0.heap.size w0 w0 := Below.refl _ _
  have hS : Sep w0.heap.size w0 [] := Sep.nil _ _
  unfold F_laws_heldIntS at hF
  refine W.seq fun K1 hK1 => ?_
  refine W.region ?_
  refine wl_assign rfl rfl ?_
  refine WL.nil ?_
  refine fun a ha => hK1 _ _ ?_ a ha
  refine W.seq fun K2 hK2 => ?_
  refine W.seq fun K3 hK3 => ?_
  refine W.region ?_
  refine wl_assign rfl rfl ?_
  refine WL.nil ?_
  refine fun a ha => hK3 _ _ ?_ a ha
  refine W.block ?_
  refine W.loopk (fun m a w4 => ∃ (y7 : Int) (y8 : Int), St 21 [(0, v0_0), (1, (.int .i64 y7)), (5, (.int .i64 y8))] a ∧ Below w0.heap.size w0 w4 ∧ Sep w0.heap.size w4 [] ∧ F_laws_heldIntS_L1 x0 m y7 y8 = some r) FU ?_ ?_
  ·
    exact fun a ha => ⟨x1, 0, ha.sub ⟨rfl, rfl, rfl, trivial⟩, hB, (hS.sel [] rfl), hF⟩
  ·
    rintro m11 a w4 ⟨y7, y8, ha, hB5, hS6, hF⟩ KL10 hKL10
    refine W.at ?_ ha
    cases m11 with
    | zero => exact noneE hF
    | succ m11 =>
      obtain ⟨nx9, hnx9⟩ : ∃ k, k = F_laws_heldIntS_L1 x0 m11 := ⟨_, rfl⟩
      rw [F_laws_heldIntS_L1, ← hnx9] at hF
      refine W.seq fun K12 hK12 => ?_
      refine W.seq fun K13 hK13 => ?_
      refine W.region ?_
      refine wl_move rfl rfl ?_
      refine wl_move rfl rfl ?_
      refine wl_lenr (e := ty_3) (l := x0) Try.underlying24 rfl rfl h0_0 ?_
      refine wl_lss rfl rfl rfl ?_
      refine WL.nil ?_
      refine fun a ha => hK13 _ _ ?_ a ha
      refine W.cond rfl (fun h14 => ?_) (fun h14 => ?_)
      · replace hF := ifP h14 hF
        refine W.skip ?_
        refine fun a ha => hK12 _ _ ?_ a ha
        refine W.seq fun K15 hK15 => ?_
        refine W.block ?_
        refine W.seq fun K16 hK16 => ?_
        refine W.seq fun K17 hK17 => ?_
        refine W.region ?_
        refine wl_move rfl rfl ?_
        refine wl_move rfl rfl ?_
        obtain ⟨u18, hu18, hF⟩ := bindE hF
        refine wl_index (e := ty_3) Try.underlying24 rfl rfl rfl h0_0 hu18 ?_
        rintro p19 _ rfl hp20
        refine wl_load_p (vs := [(.int .i64 u18)]) (v := (.int .i64 u18)) tf_3 rfl rfl (hp20.ro hB5) rfl rfl ?_
        refine wl_move rfl rfl ?_
        refine wl_neq rfl rfl rfl ?_
        refine WL.nil ?_
        refine fun a ha => hK17 _ _ ?_ a ha
        refine W.cond rfl (fun h21 => ?_) (fun h21 => ?_)
        · replace hF := ifP h21 hF
          refine W.seq fun K22 hK22 => ?_
          refine W.region ?_
          refine wl_assign rfl rfl ?_
          refine WL.nil ?_
          refine fun a ha => hK22 _ _ ?_ a ha
          refine W.ret ?_
          have hr := Option.some.inj hF
          subst hr
          exact rets (vs := [(.int .i64 (-1))]) hQ rfl ⟨rv_tmp rfl, trivial⟩ ⟨rfl, hB5⟩
        · replace hF := ifN h21 hF
          refine W.skip ?_
          refine fun a ha => hK16 _ _ ?_ a ha
          refine W.region ?_
          refine wl_move rfl rfl ?_
          refine wl_add rfl rfl rfl ?_
          refine wl_assign rfl rfl ?_
          refine WL.nil ?_
          refine fun a ha => hK15 _ _ ?_ a ha
          refine W.region ?_
          refine wl_move rfl rfl ?_
          refine wl_add rfl rfl rfl ?_
          refine wl_assign rfl rfl ?_
          refine WL.nil ?_
          rw [hnx9] at hF
          exact fun a ha => hKL10 a _ m11 (Nat.lt_succ_self m11) ⟨(w64 (y7 + 1)), (w64 (y8 + 1)), ha.sub ⟨rfl, rfl, rfl, trivial⟩, hB5, (hS6.sel [] rfl), hF⟩
      · replace hF := ifN h14 hF
        refine W.exit ?_
        refine fun a ha => hK2 _ _ ?_ a ha
        refine W.seq fun K23 hK23 => ?_
        refine W.region ?_
        refine wl_move rfl rfl ?_
        refine wl_assign rfl rfl ?_
        refine WL.nil ?_
        refine fun a ha => hK23 _ _ ?_ a ha
        refine W.ret ?_
        have hr := Option.some.inj hF
        subst hr
        exact rets (vs := [(.int .i64 y7)]) hQ rfl ⟨rv_tmp rfl, trivial⟩ ⟨rfl, hB5⟩
theorem C_laws_szMarch (w0 : World) (x0 : (((List (List (Int × Int))) × (List Int) × Int × Int) × Int × (List Int) × (List Int))) (v0_0 : Value) (h0_0 : rdS ty_104 (· < w0.heap.size) w0 v0_0 x0.1.1) (v0_1 : Value) (h0_1 : rdS ty_3 (· < w0.heap.size) w0 v0_1 x0.1.2.1) (v0_2 : Value) (h0_2 : rdS ty_3 (· < w0.heap.size) w0 v0_2 x0.2.2.1) (v0_3 : Value) (h0_3 : rdS ty_3 (· < w0.heap.size) w0 v0_3 x0.2.2.2) (x1 : Int) (r : Int) (hF : F_laws_szMarch x0 x1 = some r) :
    Calls Try.prog 15 [(.agg #[v0_0, v0_1, (.int .i64 x0.1.2.2.1), (.int .i64 x0.1.2.2.2), (.int .i64 x0.2.1), v0_2, v0_3]), (.int .i64 x1)].toArray w0 fun e w' => e = .returned (.int .i64 r) ∧ Below w0.heap.size w0 w' := by
  refine calls_mk' Try.func15 rfl Try.ntmps15 rfl rfl fun Q hQ hP => ?_
  have hB : Below w0.heap.size w0 w0 := Below.refl _ _
  have hS : Sep w0.heap.size w0 [] := Sep.nil _ _
  unfold F_laws_szMarch at hF
  refine W.seq fun K1 hK1 => ?_
  refine W.region ?_
  refine wl_box (cs := [v0_0, v0_1, (.int .i64 x0.1.2.2.1), (.int .i64 x0.1.2.2.2), (.int .i64 x0.2.1), v0_2, v0_3]) rfl rfl rfl hB hS ?_
  intro b2 w3 hb4 hB5 hS6
  refine wl_assign rfl rfl ?_
  refine WL.nil ?_
  refine fun a ha => hK1 _ _ ?_ a ha
  refine W.seq fun K7 hK7 => ?_
  refine W.region ?_
  refine wl_field (o := 0) (off' := 0) ff_38_0 rfl rfl rfl ?_
  refine wl_load_blk (i := 0) (vs := [v0_0, v0_1, (.int .i64 x0.1.2.2.1), (.int .i64 x0.1.2.2.2)]) (v := (.agg #[v0_0, v0_1, (.int .i64 x0.1.2.2.1), (.int .i64 x0.1.2.2.2)])) tf_36 rfl rfl hS6 rfl rfl rfl ?_
  refine wl_move rfl rfl ?_
  obtain ⟨u8, hu8, hF⟩ := bindE hF
  refine wl_call rfl Try.call28 (C_laws_szShow w3 x0.1 v0_0 (h0_0.ro hB5) v0_1 (h0_1.ro hB5) x1 _ hu8) rfl ?_
  rintro _ w9 ⟨rfl, hb10⟩
  refine ⟨_, rfl, ?_⟩
  have hB11 := hB5.trans (hb10.mono hB5.size)
  have hS12 := hS6.below hb10
  refine wl_assign rfl rfl ?_
  refine WL.nil ?_
  refine fun a ha => hK7 _ _ ?_ a ha
  refine W.seq fun K14 hK14 => ?_
  refine W.seq fun K15 hK15 => ?_
  refine W.region ?_
  refine wl_move rfl rfl ?_
  refine wl_lss rfl rfl rfl ?_
  refine WL.nil ?_
  refine fun a ha => hK15 _ _ ?_ a ha
  refine W.cond rfl (fun h16 => ?_) (fun h16 => ?_)
  · replace hF := ifP h16 hF
    refine W.seq fun K17 hK17 => ?_
    refine W.region ?_
    refine wl_assign rfl rfl ?_
    refine WL.nil ?_
    refine fun a ha => hK17 _ _ ?_ a ha
    refine W.ret ?_
    have hr := Option.some.inj hF
    subst hr
    exact rets (vs := [(.int .i64 (-1))]) hQ rfl ⟨rv_tmp rfl, trivial⟩ ⟨rfl, hB11⟩
  · replace hF := ifN h16 hF
    refine W.skip ?_
    refine fun a ha => hK14 _ _ ?_ a ha
    refine W.seq fun K18 hK18 => ?_
    refine W.region ?_
    refine wl_field (o := 5) (off' := 5) ff_38_2 rfl rfl rfl ?_
    refine wl_load_blk (i := 0) (vs := [v0_2]) (v := v0_2) tf_24 rfl rfl hS12 rfl rfl rfl ?_
    refine wl_move rfl rfl ?_
    obtain ⟨u19, hu19, hF⟩ := bindE hF
    refine wl_call rfl Try.call39 (C_laws_szIntS w9 x0.2.2.1 v0_2 (h0_2.ro hB11) u8 _ hu19) rfl ?_
    rintro _ w20 ⟨rfl, hb21⟩
    refine ⟨_, rfl, ?_⟩
    have hB22 := hB11.trans (hb21.mono hB11.size)
    have hS23 := hS12.below hb21
    refine wl_assign rfl rfl ?_
    refine WL.nil ?_
    refine fun a ha => hK18 _ _ ?_ a ha
    refine W.seq fun K25 hK25 => ?_
    refine W.seq fun K26 hK26 => ?_
    refine W.region ?_
    refine wl_move rfl rfl ?_
    refine wl_lss rfl rfl rfl ?_
    refine WL.nil ?_
    refine fun a ha => hK26 _ _ ?_ a ha
    refine W.cond rfl (fun h27 => ?_) (fun h27 => ?_)
    · replace hF := ifP h27 hF
      refine W.seq fun K28 hK28 => ?_
      refine W.region ?_
      refine wl_assign rfl rfl ?_
      refine WL.nil ?_
      refine fun a ha => hK28 _ _ ?_ a ha
      refine W.ret ?_
      have hr := Option.some.inj hF
      subst hr
      exact rets (vs := [(.int .i64 (-1))]) hQ rfl ⟨rv_tmp rfl, trivial⟩ ⟨rfl, hB22⟩
    · replace hF := ifN h27 hF
      refine W.skip ?_
      refine fun a ha => hK25 _ _ ?_ a ha
      refine W.seq fun K29 hK29 => ?_
      refine W.region ?_
      refine wl_field (o := 6) (off' := 6) ff_38_3 rfl rfl rfl ?_
      refine wl_load_blk (i := 0) (vs := [v0_3]) (v := v0_3) tf_24 rfl rfl hS23 rfl rfl rfl ?_
      refine wl_move rfl rfl ?_
      obtain ⟨u30, hu30, hF⟩ := bindE hF
      refine wl_call rfl Try.call39 (C_laws_szIntS w20 x0.2.2.2 v0_3 (h0_3.ro hB22) u19 _ hu30) rfl ?_
      rintro _ w31 ⟨rfl, hb32⟩
      refine ⟨_, rfl, ?_⟩
      have hB33 := hB22.trans (hb32.mono hB22.size)
      have hS34 := hS23.below hb32
      refine wl_assign rfl rfl ?_
      refine WL.nil ?_
      refine fun a ha => hK29 _ _ ?_ a ha
      refine W.seq fun K36 hK36 => ?_
      refine W.seq fun K37 hK37 => ?_
      refine W.region ?_
      refine wl_move rfl rfl ?_
      refine wl_lss rfl rfl rfl ?_
      refine WL.nil ?_
      refine fun a ha => hK37 _ _ ?_ a ha
      refine W.cond rfl (fun h38 => ?_) (fun h38 => ?_)
      · replace hF := ifP h38 hF
        refine W.seq fun K39 hK39 => ?_
        refine W.region ?_
        refine wl_assign rfl rfl ?_
        refine WL.nil ?_
        refine fun a ha => hK39 _ _ ?_ a ha
        refine W.ret ?_
        have hr := Option.some.inj hF
        subst hr
        exact rets (vs := [(.int .i64 (-1))]) hQ rfl ⟨rv_tmp rfl, trivial⟩ ⟨rfl, hB33⟩
      · replace hF := ifN h38 hF
        refine W.skip ?_
        refine fun a ha => hK36 _ _ ?_ a ha
        refine W.seq fun K40 hK40 => ?_
        refine W.region ?_
        refine wl_move rfl rfl ?_
        refine wl_assign rfl rfl ?_
        refine WL.nil ?_
        refine fun a ha => hK40 _ _ ?_ a ha
        refine W.ret ?_
        have hr := Option.some.inj hF
        subst hr
        exact rets (vs := [(.int .i64 u30)]) hQ rfl ⟨rv_tmp rfl, trivial⟩ ⟨rfl, hB33⟩
theorem C_laws_toMarch (w0 : World) (x0 : (((List (List (Int × Int))) × (List Int) × Int × Int) × Int × (List Int) × (List Int))) (v0_0 : Value) (h0_0 : rdS ty_104 (· < w0.heap.size) w0 v0_0 x0.1.1) (v0_1 : Value) (h0_1 : rdS ty_3 (· < w0.heap.size) w0 v0_1 x0.1.2.1) (v0_2 : Value) (h0_2 : rdS ty_3 (· < w0.heap.size) w0 v0_2 x0.2.2.1) (v0_3 : Value) (h0_3 : rdS ty_3 (· < w0.heap.size) w0 v0_3 x0.2.2.2) (r : (((List (List (Int × Int))) × (List Int) × Int × Int) × Int × (List Int) × (List Int))) (hF : F_laws_toMarch x0 = some r) :
    Calls Try.prog 17 [(.agg #[v0_0, v0_1, (.int .i64 x0.1.2.2.1), (.int .i64 x0.1.2.2.2), (.int .i64 x0.2.1), v0_2, v0_3])].toArray w0 fun e w' => ∃ (q0 : Value) (G0 : List Nat) (q1 : Value) (G1 : List Nat) (q2 : Value) (G2 : List Nat) (q3 : Value) (G3 : List Nat), e = .returned (.agg #[q0, q1, (.int .i64 r.1.2.2.1), (.int .i64 r.1.2.2.2), (.int .i64 r.2.1), q2, q3]) ∧ Below w0.heap.size w0 w' ∧ Sep w0.heap.size w' [R.own ty_82 G0 q0 r.1.1, R.own ty_3 G1 q1 r.1.2.1, R.own ty_3 G2 q2 r.2.2.1, R.own ty_3 G3 q3 r.2.2.2] := by
  refine calls_mk' Try.func17 rfl Try.ntmps17 rfl rfl fun Q hQ hP => ?_
  have hB : Below w0.heap.size w0 w0 := Below.refl _ _
  have hS : Sep w0.heap.size w0 [] := Sep.nil _ _
  unfold F_laws_toMarch at hF
  refine W.seq fun K1 hK1 => ?_
  refine W.region ?_
  refine wl_box (cs := [v0_0, v0_1, (.int .i64 x0.1.2.2.1), (.int .i64 x0.1.2.2.2), (.int .i64 x0.2.1), v0_2, v0_3]) rfl rfl rfl hB hS ?_
  intro b2 w3 hb4 hB5 hS6
  refine wl_alloc (cs := [(.slice none 0 0), (.slice none 0 0), (.int .i64 0), (.int .i64 0), (.int .i64 0), (.slice none 0 0), (.slice none 0 0)]) tf_44 rfl rfl hB5 hS6 ?_
  intro b7 w8 hb9 hB10 hS11
  refine WL.nil ?_
  refine fun a ha => hK1 _ _ ?_ a ha
  refine W.seq fun K12 hK12 => ?_
  refine W.region ?_
  refine wl_alloc (cs := [(.slice none 0 0), (.slice none 0 0), (.int .i64 0), (.int .i64 0), (.int .i64 0), (.slice none 0 0), (.slice none 0 0)]) tf_44 rfl rfl hB10 hS11 ?_
  intro b13 w14 hb15 hB16 hS17
  refine WL.nil ?_
  refine fun a ha => hK12 _ _ ?_ a ha
  refine W.seq fun K18 hK18 => ?_
  refine W.region ?_
  refine wl_field (o := 0) (off' := 0) ff_38_0 rfl rfl rfl ?_
  refine wl_load_blk (i := 2) (vs := [v0_0, v0_1, (.int .i64 x0.1.2.2.1), (.int .i64 x0.1.2.2.2)]) (v := (.agg #[v0_0, v0_1, (.int .i64 x0.1.2.2.1), (.int .i64 x0.1.2.2.2)])) tf_36 rfl rfl hS17 rfl rfl rfl ?_
  obtain ⟨u19, hu19, hF⟩ := bindE hF
  refine wl_call rfl Try.call32 (C_laws_toShow w14 x0.1 v0_0 (h0_0.ro hB16) v0_1 (h0_1.ro hB16) _ hu19) rfl ?_
  rintro _ w24 ⟨v20, F21, v22, F23, rfl, hb25, hM28⟩
  refine ⟨_, rfl, ?_⟩
  have hB26 := hB16.trans (hb25.mono hB16.size)
  have hS27 := hS17.join hb25 hM28 hB16.size
  refine wl_field (o := 0) (off' := 0) ff_44_0 rfl rfl rfl ?_
  refine wl_store_blk (i := 2) (vs := [v20, v22, (.int .i64 u19.2.2.1), (.int .i64 u19.2.2.2)]) (cs' := [v20, v22, (.int .i64 u19.2.2.1), (.int .i64 u19.2.2.2), (.int .i64 0), (.slice none 0 0), (.slice none 0 0)]) tf_42 rfl rfl rfl rfl hB26 hS27 rfl rfl ⟨(hS27.own_ro (i := 0) rfl).one, (hS27.own_ro (i := 1) rfl).one, rfl, rfl, trivial⟩ rfl ?_
  intro w29 hk32 hB30 hS31
  refine WL.nil ?_
  refine fun a ha => hK18 _ _ ?_ a ha
  refine W.seq fun K33 hK33 => ?_
  refine W.region ?_
  refine wl_field (o := 4) (off' := 4) ff_38_1 rfl rfl rfl ?_
  refine wl_load_blk (i := 4) (vs := [(.int .i64 x0.2.1)]) (v := (.int .i64 x0.2.1)) tf_3 rfl rfl hS31 rfl rfl rfl ?_
  refine wl_field (o := 4) (off' := 4) ff_44_1 rfl rfl rfl ?_
  refine wl_store_blk (i := 2) (vs := [(.int .i64 x0.2.1)]) (cs' := [v20, v22, (.int .i64 u19.2.2.1), (.int .i64 u19.2.2.2), (.int .i64 x0.2.1), (.slice none 0 0), (.slice none 0 0)]) tf_3 rfl rfl rfl rfl hB30 hS31 rfl rfl ⟨rfl, trivial⟩ rfl ?_
  intro w34 hk37 hB35 hS36
  refine WL.nil ?_
  refine fun a ha => hK33 _ _ ?_ a ha
  refine W.seq fun K38 hK38 => ?_
  refine W.region ?_
  refine wl_field (o := 5) (off' := 5) ff_38_2 rfl rfl rfl ?_
  refine wl_load_blk (i := 4) (vs := [v0_2]) (v := v0_2) tf_24 rfl rfl hS36 rfl rfl rfl ?_
  obtain ⟨u39, hu39, hF⟩ := bindE hF
  refine wl_call rfl Try.call41 (C_laws_toIntS w34 x0.2.2.1 v0_2 (h0_2.ro hB35) _ hu39) rfl ?_
  rintro _ w42 ⟨v40, F41, rfl, hb43, hM46⟩
  refine ⟨_, rfl, ?_⟩
  have hB44 := hB35.trans (hb43.mono hB35.size)
  have hS45 := hS36.join hb43 hM46 hB35.size
  refine wl_field (o := 5) (off' := 5) ff_44_2 rfl rfl rfl ?_
  refine wl_store_blk (i := 3) (vs := [v40]) (cs' := [v20, v22, (.int .i64 u19.2.2.1), (.int .i64 u19.2.2.2), (.int .i64 x0.2.1), v40, (.slice none 0 0)]) tf_24 rfl rfl (cells_one (hS45.own_ro (i := 0) rfl).one) rfl hB44 hS45 rfl rfl ⟨(hS45.own_ro (i := 0) rfl).one, trivial⟩ rfl ?_
  intro w47 hk50 hB48 hS49
  refine WL.nil ?_
  refine fun a ha => hK38 _ _ ?_ a ha
  refine W.seq fun K51 hK51 => ?_
  refine W.region ?_
  refine wl_field (o := 6) (off' := 6) ff_38_3 rfl rfl rfl ?_
  refine wl_load_blk (i := 5) (vs := [v0_3]) (v := v0_3) tf_24 rfl rfl hS49 rfl rfl rfl ?_
  obtain ⟨u52, hu52, hF⟩ := bindE hF
  refine wl_call rfl Try.call41 (C_laws_toIntS w47 x0.2.2.2 v0_3 (h0_3.ro hB48) _ hu52) rfl ?_
  rintro _ w55 ⟨v53, F54, rfl, hb56, hM59⟩
  refine ⟨_, rfl, ?_⟩
  have hB57 := hB48.trans (hb56.mono hB48.size)
  have hS58 := hS49.join hb56 hM59 hB48.size
  refine wl_field (o := 6) (off' := 6) ff_44_3 rfl rfl rfl ?_
  refine wl_store_blk (i := 4) (vs := [v53]) (cs' := [v20, v22, (.int .i64 u19.2.2.1), (.int .i64 u19.2.2.2), (.int .i64 x0.2.1), v40, v53]) tf_24 rfl rfl (cells_one (hS58.own_ro (i := 0) rfl).one) rfl hB57 hS58 rfl rfl ⟨(hS58.own_ro (i := 0) rfl).one, trivial⟩ rfl ?_
  intro w60 hk63 hB61 hS62
  refine WL.nil ?_
  refine fun a ha => hK51 _ _ ?_ a ha
  refine W.seq fun K64 hK64 => ?_
  refine W.region ?_
  refine wl_load_blk (i := 4) (vs := [v20, v22, (.int .i64 u19.2.2.1), (.int .i64 u19.2.2.2), (.int .i64 x0.2.1), v40, v53]) (v := (.agg #[v20, v22, (.int .i64 u19.2.2.1), (.int .i64 u19.2.2.2), (.int .i64 x0.2.1), v40, v53])) tf_44 rfl rfl hS62 rfl rfl rfl ?_
  refine wl_store_blk (i := 5) (vs := [v20, v22, (.int .i64 u19.2.2.1), (.int .i64 u19.2.2.2), (.int .i64 x0.2.1), v40, v53]) (cs' := [v20, v22, (.int .i64 u19.2.2.1), (.int .i64 u19.2.2.2), (.int .i64 x0.2.1), v40, v53]) tf_44 rfl rfl rfl rfl hB61 hS62 rfl rfl ⟨(hS62.own_ro (i := 2) rfl).one, (hS62.own_ro (i := 3) rfl).one, rfl, rfl, rfl, (hS62.own_ro (i := 1) rfl).one, (hS62.own_ro (i := 0) rfl).one, trivial⟩ rfl ?_
  intro w65 hk68 hB66 hS67
  refine WL.nil ?_
  refine fun a ha => hK64 _ _ ?_ a ha
  refine W.ret ?_
  have hr := Option.some.inj hF
  subst hr
  exact rets (vs := [(.agg #[v20, v22, (.int .i64 u19.2.2.1), (.int .i64 u19.2.2.2), (.int .i64 x0.2.1), v40, v53])]) hQ rfl ⟨rv_cell (i := 5) tf_44 rfl hS67 rfl rfl rfl, trivial⟩ ⟨v20, F21, v22, F23, v40, F41, v53, F54, rfl, hB66, hS67.sel [2, 3, 1, 0] rfl⟩
theorem C_spec_l1Rising (w0 : World) (x0 : (List Int)) (v0_0 : Value) (h0_0 : rdS ty_3 (· < w0.heap.size) w0 v0_0 x0) (x1 : Int) (x2 : Int) (r : Bool) (hF : F_spec_l1Rising x0 x1 x2 = some r) :
    Calls Try.prog 83 [v0_0, (.int .i64 x1), (.int .i64 x2)].toArray w0 fun e w' => e = .returned (.bool r) ∧ Below w0.heap.size w0 w' := by
  refine calls_mk' Try.func83 rfl Try.ntmps83 rfl rfl fun Q hQ hP => ?_
  have hB : Below w0.heap.size w0 w0 := Below.refl _ _
  have hS : Sep w0.heap.size w0 [] := Sep.nil _ _
  unfold F_spec_l1Rising at hF
  refine W.seq fun K1 hK1 => ?_
  refine W.region ?_
  refine wl_assign rfl rfl ?_
  refine WL.nil ?_
  refine fun a ha => hK1 _ _ ?_ a ha
  refine W.seq fun K2 hK2 => ?_
  refine W.seq fun K3 hK3 => ?_
  refine W.region ?_
  refine wl_move rfl rfl ?_
  refine wl_lenr (e := ty_3) (l := x0) Try.underlying24 rfl rfl h0_0 ?_
  refine wl_move rfl rfl ?_
  refine WL.nil ?_
  refine fun a ha => hK3 _ _ ?_ a ha
  refine W.block ?_
  refine W.loopk (fun m a w4 => ∃ (y7 : Int), St 35 [(0, v0_0), (1, (.int .i64 x1)), (2, (.int .i64 x2)), (9, v0_0), (10, (.int .i64 (List.length x0 : Int))), (11, (.int .i64 y7))] a ∧ Below w0.heap.size w0 w4 ∧ Sep w0.heap.size w4 [] ∧ F_spec_l1Rising_L1 x0 x1 x2 m y7 = some r) FU ?_ ?_
  ·
    exact fun a ha => ⟨0, ha.sub ⟨rfl, rfl, rfl, rfl, rfl, rfl, trivial⟩, hB, (hS.sel [] rfl), hF⟩
  ·
    rintro m10 a w4 ⟨y7, ha, hB5, hS6, hF⟩ KL9 hKL9
    refine W.at ?_ ha
    cases m10 with
    | zero => exact noneE hF
    | succ m10 =>
      obtain ⟨nx8, hnx8⟩ : ∃ k, k = F_spec_l1Rising_L1 x0 x1 x2 m10 := ⟨_, rfl⟩
      rw [F_spec_l1Rising_L1, ← hnx8] at hF
      refine W.seq fun K11 hK11 => ?_
      refine W.region ?_
      refine wl_lss rfl rfl rfl ?_
      refine WL.nil ?_
      refine fun a ha => hK11 _ _ ?_ a ha
      refine W.seq fun K12 hK12 => ?_
      refine W.cond rfl (fun h13 => ?_) (fun h13 => ?_)
      · replace hF := ifP h13 hF
        refine W.skip ?_
        refine fun a ha => hK12 _ _ ?_ a ha
        refine W.seq fun K14 hK14 => ?_
        refine W.block ?_
        refine W.seq fun K15 hK15 => ?_
        refine W.region ?_
        refine wl_move rfl rfl ?_
        obtain ⟨u16, hu16, hF⟩ := bindE hF
        refine wl_index (e := ty_3) Try.underlying24 rfl rfl rfl h0_0 hu16 ?_
        rintro p17 _ rfl hp18
        refine wl_load_p (vs := [(.int .i64 u16)]) (v := (.int .i64 u16)) tf_3 rfl rfl (hp18.ro hB5) rfl rfl ?_
        refine wl_assign rfl rfl ?_
        refine wl_assign rfl rfl ?_
        refine WL.nil ?_
        refine fun a ha => hK15 _ _ ?_ a ha
        refine W.seq fun K19 hK19 => ?_
        obtain ⟨k24, hk24, hF⟩ := jE1 hF
        have hJ25 : ∀ (y23 : Bool) (w20 : World) (_ : k24 y23 = some r) (_ : Below w0.heap.size w0 w20) (_ : Sep w0.heap.size w20 []), ∀ a, St 35 [(0, v0_0), (1, (.int .i64 x1)), (2, (.int .i64 x2)), (9, v0_0), (10, (.int .i64 (List.length x0 : Int))), (11, (.int .i64 y7)), (33, (.bool y23))] a → K19 a w20 := by
          intro y23 w20 hF hB21 hS22
          subst hk24
          refine fun a ha => hK19 _ _ ?_ a ha
          refine W.cond rfl (fun h26 => ?_) (fun h26 => ?_)
          · replace hF := ifP h26 hF
            refine W.seq fun K27 hK27 => ?_
            refine W.region ?_
            refine wl_assign rfl rfl ?_
            refine WL.nil ?_
            refine fun a ha => hK27 _ _ ?_ a ha
            refine W.ret ?_
            have hr := Option.some.inj hF
            subst hr
            exact rets (vs := [(.bool false)]) hQ rfl ⟨rv_tmp rfl, trivial⟩ ⟨rfl, hB21⟩
          · replace hF := ifN h26 hF
            refine W.skip ?_
            refine fun a ha => hK14 _ _ ?_ a ha
            refine W.region ?_
            refine wl_add rfl rfl rfl ?_
            refine wl_move rfl rfl ?_
            refine WL.nil ?_
            rw [hnx8] at hF
            exact fun a ha => hKL9 a _ m10 (Nat.lt_succ_self m10) ⟨(w64 (y7 + 1)), ha.sub ⟨rfl, rfl, rfl, rfl, rfl, rfl, trivial⟩, hB21, (hS22.sel [] rfl), hF⟩
        refine W.region ?_
        refine wl_move rfl rfl ?_
        refine wl_move rfl rfl ?_
        refine wl_move rfl rfl ?_
        obtain ⟨u28, hu28, hF⟩ := bindE hF
        refine wl_call rfl Try.call57 (C_spec_l1In w4 u16 x1 x2 _ hu28) rfl ?_
        rintro _ w29 ⟨rfl, hb30⟩
        refine ⟨_, rfl, ?_⟩
        have hB31 := hB5.trans (hb30.mono hB5.size)
        have hS32 := hS6.below hb30
        refine wl_not rfl rfl ?_
        refine wl_move rfl rfl ?_
        rcases bE (!u28) with h34 | h34
        · replace hF := ifP h34 hF
          refine wl_off rfl rfl rfl h34 ?_
          refine wl_off rfl rfl rfl h34 ?_
          refine wl_off rfl rfl rfl h34 ?_
          refine wl_offu rfl rfl rfl ?_
          refine wl_offu rfl rfl rfl ?_
          refine wl_offu rfl rfl rfl ?_
          refine wl_offu rfl rfl rfl ?_
          refine wl_offu rfl rfl rfl ?_
          refine wl_offu rfl rfl rfl ?_
          refine wl_offu rfl rfl rfl ?_
          refine wl_off rfl rfl rfl h34 ?_
          refine wl_pick_t rfl rfl h34 rfl ?_
          refine WL.nil ?_
          exact fun a ha => hJ25 (true) _ hF hB31 (hS32.sel [] rfl) a (ha.sub ⟨rfl, rfl, rfl, rfl, rfl, rfl, rfl, trivial⟩)
        · replace hF := ifN h34 hF
          refine wl_on rfl rfl h34 ?_
          refine wl_move rfl rfl ?_
          refine wl_on rfl rfl h34 ?_
          refine wl_gtr rfl rfl rfl ?_
          refine wl_on rfl rfl h34 ?_
          refine wl_move rfl rfl ?_
          rcases bE (decide (0 < y7)) with h35 | h35
          · replace hF := ifP h35 hF
            refine wl_on rfl rfl h35 ?_
            refine wl_move rfl rfl ?_
            refine wl_on rfl rfl h35 ?_
            refine wl_move rfl rfl ?_
            refine wl_on rfl rfl h35 ?_
            refine wl_sub rfl rfl rfl ?_
            refine wl_on rfl rfl h35 ?_
            obtain ⟨u36, hu36, hF⟩ := bindE hF
            refine wl_index (e := ty_3) Try.underlying24 rfl rfl rfl h0_0 hu36 ?_
            rintro p37 _ rfl hp38
            refine wl_on rfl rfl h35 ?_
            refine wl_load_p (vs := [(.int .i64 u36)]) (v := (.int .i64 u36)) tf_3 rfl rfl (hp38.ro hB31) rfl rfl ?_
            refine wl_on rfl rfl h35 ?_
            refine wl_move rfl rfl ?_
            refine wl_on rfl rfl h35 ?_
            refine wl_geq rfl rfl rfl ?_
            refine wl_on rfl rfl h34 ?_
            refine wl_pick_t rfl rfl h35 rfl ?_
            refine wl_pick_f rfl rfl h34 rfl ?_
            refine WL.nil ?_
            exact fun a ha => hJ25 ((decide (u16 ≤ u36))) _ hF hB31 (hS32.sel [] rfl) a (ha.sub ⟨rfl, rfl, rfl, rfl, rfl, rfl, rfl, trivial⟩)
          · replace hF := ifN h35 hF
            refine wl_off rfl rfl rfl h35 ?_
            refine wl_off rfl rfl rfl h35 ?_
            refine wl_off rfl rfl rfl h35 ?_
            refine wl_off rfl rfl rfl h35 ?_
            refine wl_off rfl rfl rfl h35 ?_
            refine wl_off rfl rfl rfl h35 ?_
            refine wl_off rfl rfl rfl h35 ?_
            refine wl_on rfl rfl h34 ?_
            refine wl_pick_f rfl rfl h35 rfl ?_
            refine wl_pick_f rfl rfl h34 rfl ?_
            refine WL.nil ?_
            exact fun a ha => hJ25 (false) _ hF hB31 (hS32.sel [] rfl) a (ha.sub ⟨rfl, rfl, rfl, rfl, rfl, rfl, rfl, trivial⟩)
      · replace hF := ifN h13 hF
        refine W.exit ?_
        refine fun a ha => hK2 _ _ ?_ a ha
        refine W.seq fun K39 hK39 => ?_
        refine W.region ?_
        refine wl_assign rfl rfl ?_
        refine WL.nil ?_
        refine fun a ha => hK39 _ _ ?_ a ha
        refine W.ret ?_
        have hr := Option.some.inj hF
        subst hr
        exact rets (vs := [(.bool true)]) hQ rfl ⟨rv_tmp rfl, trivial⟩ ⟨rfl, hB5⟩
theorem C_spec_mnGood (w0 : World) (x0 : (((List (List (Int × Int))) × (List Int) × Int × Int) × Int × (List Int) × (List Int))) (v0_0 : Value) (h0_0 : rdS ty_82 (· < w0.heap.size) w0 v0_0 x0.1.1) (v0_1 : Value) (h0_1 : rdS ty_3 (· < w0.heap.size) w0 v0_1 x0.1.2.1) (v0_2 : Value) (h0_2 : rdS ty_3 (· < w0.heap.size) w0 v0_2 x0.2.2.1) (v0_3 : Value) (h0_3 : rdS ty_3 (· < w0.heap.size) w0 v0_3 x0.2.2.2) (r : Bool) (hF : F_spec_mnGood x0 = some r) :
    Calls Try.prog 48 [(.agg #[v0_0, v0_1, (.int .i64 x0.1.2.2.1), (.int .i64 x0.1.2.2.2), (.int .i64 x0.2.1), v0_2, v0_3])].toArray w0 fun e w' => e = .returned (.bool r) ∧ Below w0.heap.size w0 w' := by
  refine calls_mk' Try.func48 rfl Try.ntmps48 rfl rfl fun Q hQ hP => ?_
  have hB : Below w0.heap.size w0 w0 := Below.refl _ _
  have hS : Sep w0.heap.size w0 [] := Sep.nil _ _
  unfold F_spec_mnGood at hF
  refine W.seq fun K1 hK1 => ?_
  refine W.region ?_
  refine wl_box (cs := [v0_0, v0_1, (.int .i64 x0.1.2.2.1), (.int .i64 x0.1.2.2.2), (.int .i64 x0.2.1), v0_2, v0_3]) rfl rfl rfl hB hS ?_
  intro b2 w3 hb4 hB5 hS6
  refine wl_assign rfl rfl ?_
  refine WL.nil ?_
  refine fun a ha => hK1 _ _ ?_ a ha
  refine W.seq fun K7 hK7 => ?_
  refine W.seq fun K8 hK8 => ?_
  obtain ⟨k13, hk13, hF⟩ := jE1 hF
  have hJ14 : ∀ (y12 : Bool) (w9 : World) (_ : k13 y12 = some r) (_ : Below w0.heap.size w0 w9) (_ : Sep w0.heap.size w9 [R.blk b2 44 [v0_0, v0_1, (.int .i64 x0.1.2.2.1), (.int .i64 x0.1.2.2.2), (.int .i64 x0.2.1), v0_2, v0_3]]), ∀ a, St 39 [(1, (.pointer (some ⟨b2, 0, none⟩))), (13, (.bool y12))] a → K8 a w9 := by
    intro y12 w9 hF hB10 hS11
    subst hk13
    refine fun a ha => hK8 _ _ ?_ a ha
    refine W.cond rfl (fun h15 => ?_) (fun h15 => ?_)
    · replace hF := ifP h15 hF
      refine W.seq fun K16 hK16 => ?_
      refine W.region ?_
      refine wl_assign rfl rfl ?_
      refine WL.nil ?_
      refine fun a ha => hK16 _ _ ?_ a ha
      refine W.ret ?_
      have hr := Option.some.inj hF
      subst hr
      exact rets (vs := [(.bool false)]) hQ rfl ⟨rv_tmp rfl, trivial⟩ ⟨rfl, hB10⟩
    · replace hF := ifN h15 hF
      refine W.skip ?_
      refine fun a ha => hK7 _ _ ?_ a ha
      refine W.seq fun K17 hK17 => ?_
      refine W.region ?_
      refine wl_field (o := 0) (off' := 0) ff_44_0 rfl rfl rfl ?_
      refine wl_field (o := 0) (off' := 0) ff_42_0 rfl rfl rfl ?_
      refine wl_load_blk (i := 0) (vs := [v0_0]) (v := v0_0) tf_40 rfl rfl hS11 rfl rfl rfl ?_
      obtain ⟨u18, hu18, hF⟩ := bindE hF
      refine wl_index (e := ty_82) Try.underlying40 rfl rfl rfl h0_0 hu18 ?_
      rintro p19 _ ⟨v21, rfl, hv22⟩ hp20
      refine wl_load_p (vs := [v21]) (v := v21) tf_82 rfl rfl (hp20.ro hB10) rfl rfl ?_
      refine wl_lenr (e := ty_106) (l := u18) Try.underlying82 rfl rfl hv22 ?_
      refine wl_assign rfl rfl ?_
      refine WL.nil ?_
      refine fun a ha => hK17 _ _ ?_ a ha
      refine W.seq fun K23 hK23 => ?_
      obtain ⟨k28, hk28, hF⟩ := jE1 hF
      have hJ29 : ∀ (y27 : Bool) (w24 : World) (_ : k28 y27 = some r) (_ : Below w0.heap.size w0 w24) (_ : Sep w0.heap.size w24 []), ∀ a, St 39 [(2, (.bool y27))] a → K23 a w24 := by
        intro y27 w24 hF hB25 hS26
        subst hk28
        refine fun a ha => hK23 _ _ ?_ a ha
        refine W.ret ?_
        have hr := Option.some.inj hF
        subst hr
        exact rets (vs := [(.bool y27)]) hQ rfl ⟨rv_tmp rfl, trivial⟩ ⟨rfl, hB25⟩
      refine W.region ?_
      refine wl_field (o := 5) (off' := 5) ff_44_2 rfl rfl rfl ?_
      refine wl_load_blk (i := 0) (vs := [v0_2]) (v := v0_2) tf_24 rfl rfl hS11 rfl rfl rfl ?_
      refine wl_move rfl rfl ?_
      refine wl_sub rfl rfl rfl ?_
      obtain ⟨u30, hu30, hF⟩ := bindE hF
      refine wl_call rfl Try.call83 (C_spec_l1Rising w9 x0.2.2.1 v0_2 (h0_2.ro hB10) 0 (w64 ((List.length u18 : Int) - 1)) _ hu30) rfl ?_
      rintro _ w31 ⟨rfl, hb32⟩
      refine ⟨_, rfl, ?_⟩
      have hB33 := hB10.trans (hb32.mono hB10.size)
      have hS34 := hS11.below hb32
      refine wl_move rfl rfl ?_
      rcases bE u30 with h36 | h36
      · replace hF := ifP h36 hF
        refine wl_on rfl rfl h36 ?_
        refine wl_field (o := 6) (off' := 6) ff_44_3 rfl rfl rfl ?_
        refine wl_on rfl rfl h36 ?_
        refine wl_load_blk (i := 0) (vs := [v0_3]) (v := v0_3) tf_24 rfl rfl hS34 rfl rfl rfl ?_
        refine wl_on rfl rfl h36 ?_
        refine wl_lenr (e := ty_3) (l := x0.2.2.2) Try.underlying24 rfl rfl h0_3 ?_
        refine wl_on rfl rfl h36 ?_
        refine wl_move rfl rfl ?_
        refine wl_on rfl rfl h36 ?_
        refine wl_eql rfl rfl rfl ?_
        refine wl_pick_t rfl rfl h36 rfl ?_
        refine wl_move rfl rfl ?_
        rcases bE ((List.length x0.2.2.2 : Int) == (List.length u18 : Int)) with h37 | h37
        · replace hF := ifP h37 hF
          refine wl_on rfl rfl h37 ?_
          refine wl_field (o := 6) (off' := 6) ff_44_3 rfl rfl rfl ?_
          refine wl_on rfl rfl h37 ?_
          refine wl_load_blk (i := 0) (vs := [v0_3]) (v := v0_3) tf_24 rfl rfl hS34 rfl rfl rfl ?_
          refine wl_on rfl rfl h37 ?_
          refine wl_field (o := 4) (off' := 4) ff_44_1 rfl rfl rfl ?_
          refine wl_on rfl rfl h37 ?_
          refine wl_load_blk (i := 0) (vs := [(.int .i64 x0.2.1)]) (v := (.int .i64 x0.2.1)) tf_3 rfl rfl hS34 rfl rfl rfl ?_
          refine wl_on rfl rfl h37 ?_
          obtain ⟨u38, hu38, hF⟩ := bindE hF
          refine wl_call rfl Try.call58 (C_spec_l1All w31 x0.2.2.2 v0_3 (h0_3.ro hB33) 0 x0.2.1 _ hu38) rfl ?_
          rintro _ w39 ⟨rfl, hb40⟩
          refine ⟨_, rfl, ?_⟩
          have hB41 := hB33.trans (hb40.mono hB33.size)
          have hS42 := hS34.below hb40
          refine wl_pick_t rfl rfl h37 rfl ?_
          refine wl_assign rfl rfl ?_
          refine WL.nil ?_
          exact fun a ha => hJ29 (u38) _ hF hB41 (hS42.sel [] rfl) a (ha.sub ⟨rfl, trivial⟩)
        · replace hF := ifN h37 hF
          refine wl_off rfl rfl rfl h37 ?_
          refine wl_off rfl rfl rfl h37 ?_
          refine wl_off rfl rfl rfl h37 ?_
          refine wl_off rfl rfl rfl h37 ?_
          refine wl_off rfl rfl rfl h37 ?_
          refine wl_pick_f rfl rfl h37 rfl ?_
          refine wl_assign rfl rfl ?_
          refine WL.nil ?_
          exact fun a ha => hJ29 (false) _ hF hB33 (hS34.sel [] rfl) a (ha.sub ⟨rfl, trivial⟩)
      · replace hF := ifN h36 hF
        refine wl_off rfl rfl rfl h36 ?_
        refine wl_off rfl rfl rfl h36 ?_
        refine wl_off rfl rfl rfl h36 ?_
        refine wl_off rfl rfl rfl h36 ?_
        refine wl_off rfl rfl rfl h36 ?_
        refine wl_pick_f rfl rfl h36 rfl ?_
        refine wl_move rfl rfl ?_
        refine wl_off rfl rfl rfl rfl ?_
        refine wl_off rfl rfl rfl rfl ?_
        refine wl_off rfl rfl rfl rfl ?_
        refine wl_off rfl rfl rfl rfl ?_
        refine wl_off rfl rfl rfl rfl ?_
        refine wl_pick_f rfl rfl rfl rfl ?_
        refine wl_assign rfl rfl ?_
        refine WL.nil ?_
        exact fun a ha => hJ29 (false) _ hF hB33 (hS34.sel [] rfl) a (ha.sub ⟨rfl, trivial⟩)
  refine W.region ?_
  refine wl_field (o := 0) (off' := 0) ff_44_0 rfl rfl rfl ?_
  refine wl_load_blk (i := 0) (vs := [v0_0, v0_1, (.int .i64 x0.1.2.2.1), (.int .i64 x0.1.2.2.2)]) (v := (.agg #[v0_0, v0_1, (.int .i64 x0.1.2.2.1), (.int .i64 x0.1.2.2.2)])) tf_42 rfl rfl hS6 rfl rfl rfl ?_
  obtain ⟨u44, hu44, hF⟩ := bindE hF
  refine wl_call rfl Try.call29 (C_spec_swGood w3 x0.1 v0_0 (h0_0.ro hB5) v0_1 (h0_1.ro hB5) _ hu44) rfl ?_
  rintro _ w45 ⟨rfl, hb46⟩
  refine ⟨_, rfl, ?_⟩
  have hB47 := hB5.trans (hb46.mono hB5.size)
  have hS48 := hS6.below hb46
  refine wl_not rfl rfl ?_
  refine wl_move rfl rfl ?_
  rcases bE (!u44) with h50 | h50
  · replace hF := ifP h50 hF
    refine wl_off rfl rfl rfl h50 ?_
    refine wl_off rfl rfl rfl h50 ?_
    refine wl_off rfl rfl rfl h50 ?_
    refine wl_off rfl rfl rfl h50 ?_
    refine wl_pick_t rfl rfl h50 rfl ?_
    refine WL.nil ?_
    exact fun a ha => hJ14 (true) _ hF hB47 (hS48.sel [0] rfl) a (ha.sub ⟨rfl, rfl, trivial⟩)
  · replace hF := ifN h50 hF
    refine wl_on rfl rfl h50 ?_
    refine wl_field (o := 4) (off' := 4) ff_44_1 rfl rfl rfl ?_
    refine wl_on rfl rfl h50 ?_
    refine wl_load_blk (i := 0) (vs := [(.int .i64 x0.2.1)]) (v := (.int .i64 x0.2.1)) tf_3 rfl rfl hS48 rfl rfl rfl ?_
    refine wl_on rfl rfl h50 ?_
    obtain ⟨u51, hu51, hF⟩ := bindE hF
    refine wl_call rfl Try.call57 (C_spec_l1In w45 x0.2.1 0 1000 _ hu51) rfl ?_
    rintro _ w52 ⟨rfl, hb53⟩
    refine ⟨_, rfl, ?_⟩
    have hB54 := hB47.trans (hb53.mono hB47.size)
    have hS55 := hS48.below hb53
    refine wl_on rfl rfl h50 ?_
    refine wl_not rfl rfl ?_
    refine wl_pick_f rfl rfl h50 rfl ?_
    refine WL.nil ?_
    exact fun a ha => hJ14 ((!u51)) _ hF hB54 (hS55.sel [0] rfl) a (ha.sub ⟨rfl, rfl, trivial⟩)
theorem C_spec_chOwn (w0 : World) (x0 : (List (Int × Int))) (v0_0 : Value) (h0_0 : rdS ty_106 (· < w0.heap.size) w0 v0_0 x0) (r : (List (Int × Int))) (hF : F_spec_chOwn x0 = some r) :
    Calls Try.prog 115 [v0_0].toArray w0 fun e w' => ∃ (q0 : Value) (G0 : List Nat), e = .returned q0 ∧ Below w0.heap.size w0 w' ∧ Sep w0.heap.size w' [R.own ty_106 G0 q0 r] := by
  refine calls_mk' Try.func115 rfl Try.ntmps115 rfl rfl fun Q hQ hP => ?_
  have hB : Below w0.heap.size w0 w0 := Below.refl _ _
  have hS : Sep w0.heap.size w0 [] := Sep.nil _ _
  unfold F_spec_chOwn at hF
  refine W.seq fun K1 hK1 => ?_
  refine W.region ?_
  refine wl_assign rfl rfl ?_
  refine WL.nil ?_
  refine fun a ha => hK1 _ _ ?_ a ha
  refine W.seq fun K2 hK2 => ?_
  refine W.region ?_
  refine wl_lit (vs := []) (l := []) fl_106 Try.underlying82 rfl rfl rfl rfl rfl rfl hB hS ?_
  intro v3 F4 w5 hb6 hB7 hS8
  refine wl_move rfl rfl ?_
  obtain ⟨u9, hu9, hF⟩ := bindE hF
  refine wl_append (i := 0) (S := (· < w5.heap.size)) fl_106 Try.underlying82 rfl rfl rfl hB7 hS8 rfl (h0_0.ro hB7) hu9 ?_
  intro v10 F11 w12 hk13 hB14 hS15
  refine wl_assign rfl rfl ?_
  refine WL.nil ?_
  refine fun a ha => hK2 _ _ ?_ a ha
  refine W.ret ?_
  have hr := Option.some.inj hF
  subst hr
  exact rets (vs := [v10]) hQ rfl ⟨rv_tmp rfl, trivial⟩ ⟨v10, F11, rfl, hB14, hS15.sel [0] rfl⟩
end Go.Proofs.Ytcndhhjolnebdaa
