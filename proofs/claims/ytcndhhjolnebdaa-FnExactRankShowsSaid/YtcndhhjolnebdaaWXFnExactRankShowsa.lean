/-
  THE WALKS of functions of this seat, by program (gen.py, prune.py).
-/
import Derived.Test.YtcndhhjolnebdaaH
set_option linter.unusedSimpArgs false
set_option linter.unusedVariables false
set_option maxRecDepth 100000
namespace Go.Proofs.Ytcndhhjolnebdaa
open Go Go.RowKit
theorem C_laws_szSpotS (w0 : World) (x0 : (List (Int × Int))) (v0_0 : Value) (h0_0 : rdS ty_136 (· < w0.heap.size) w0 v0_0 x0) (x1 : Int) (r : Int) (hF : F_laws_szSpotS x0 x1 = some r) :
    Calls Try.prog 90 [v0_0, (.int .i64 x1)].toArray w0 fun e w' => e = .returned (.int .i64 r) ∧ Below w0.heap.size w0 w' := by
  refine calls_mk' Try.func90 rfl Try.ntmps90 rfl rfl fun Q hQ hP => ?_
  have hB : Below w0.heap.size w0 w0 := Below.refl _ _
  have hS : Sep w0.heap.size w0 [] := Sep.nil _ _
  unfold F_laws_szSpotS at hF
  refine W.seq fun K1 hK1 => ?_
  refine W.region ?_
  refine wl_assign rfl rfl ?_
  refine WL.nil ?_
  refine fun a ha => hK1 _ _ ?_ a ha
  refine W.seq fun K2 hK2 => ?_
  refine W.region ?_
  refine wl_move rfl rfl ?_
  refine wl_move rfl rfl ?_
  refine wl_lenr (e := ty_136) (l := x0) Try.underlying104 rfl rfl h0_0 ?_
  refine wl_sub rfl rfl rfl ?_
  refine wl_assign rfl rfl ?_
  refine WL.nil ?_
  refine fun a ha => hK2 _ _ ?_ a ha
  refine W.seq fun K3 hK3 => ?_
  refine W.seq fun K4 hK4 => ?_
  refine W.region ?_
  refine wl_move rfl rfl ?_
  refine wl_lss rfl rfl rfl ?_
  refine WL.nil ?_
  refine fun a ha => hK4 _ _ ?_ a ha
  refine W.cond rfl (fun h5 => ?_) (fun h5 => ?_)
  · replace hF := ifP h5 hF
    refine W.seq fun K6 hK6 => ?_
    refine W.region ?_
    refine wl_assign rfl rfl ?_
    refine WL.nil ?_
    refine fun a ha => hK6 _ _ ?_ a ha
    refine W.ret ?_
    have hr := Option.some.inj hF
    subst hr
    exact rets (vs := [(.int .i64 (-1))]) hQ rfl ⟨rv_tmp rfl, trivial⟩ ⟨rfl, hB⟩
  · replace hF := ifN h5 hF
    refine W.skip ?_
    refine fun a ha => hK3 _ _ ?_ a ha
    refine W.seq fun K7 hK7 => ?_
    refine W.region ?_
    refine wl_move rfl rfl ?_
    refine wl_assign rfl rfl ?_
    refine WL.nil ?_
    refine fun a ha => hK7 _ _ ?_ a ha
    refine W.ret ?_
    have hr := Option.some.inj hF
    subst hr
    exact rets (vs := [(.int .i64 (w64 (x1 - (List.length x0 : Int))))]) hQ rfl ⟨rv_tmp rfl, trivial⟩ ⟨rfl, hB⟩
theorem C_laws_szSpotSS (w0 : World) (x0 : (List (List (Int × Int)))) (v0_0 : Value) (h0_0 : rdS ty_104 (· < w0.heap.size) w0 v0_0 x0) (x1 : Int) (r : Int) (hF : F_laws_szSpotSS x0 x1 = some r) :
    Calls Try.prog 55 [v0_0, (.int .i64 x1)].toArray w0 fun e w' => e = .returned (.int .i64 r) ∧ Below w0.heap.size w0 w' := by
  refine calls_mk' Try.func55 rfl Try.ntmps55 rfl rfl fun Q hQ hP => ?_
  have hB : Below w0.heap.size w0 w0 := Below.refl _ _
  have hS : Sep w0.heap.size w0 [] := Sep.nil _ _
  unfold F_laws_szSpotSS at hF
  refine W.seq fun K1 hK1 => ?_
  refine W.region ?_
  refine wl_assign rfl rfl ?_
  refine WL.nil ?_
  refine fun a ha => hK1 _ _ ?_ a ha
  refine W.seq fun K2 hK2 => ?_
  refine W.region ?_
  refine wl_move rfl rfl ?_
  refine wl_move rfl rfl ?_
  refine wl_lenr (e := ty_104) (l := x0) Try.underlying34 rfl rfl h0_0 ?_
  refine wl_sub rfl rfl rfl ?_
  refine wl_assign rfl rfl ?_
  refine WL.nil ?_
  refine fun a ha => hK2 _ _ ?_ a ha
  refine W.seq fun K3 hK3 => ?_
  refine W.seq fun K4 hK4 => ?_
  refine W.region ?_
  refine wl_move rfl rfl ?_
  refine wl_lss rfl rfl rfl ?_
  refine WL.nil ?_
  refine fun a ha => hK4 _ _ ?_ a ha
  refine W.cond rfl (fun h5 => ?_) (fun h5 => ?_)
  · replace hF := ifP h5 hF
    refine W.seq fun K6 hK6 => ?_
    refine W.region ?_
    refine wl_assign rfl rfl ?_
    refine WL.nil ?_
    refine fun a ha => hK6 _ _ ?_ a ha
    refine W.ret ?_
    have hr := Option.some.inj hF
    subst hr
    exact rets (vs := [(.int .i64 (-1))]) hQ rfl ⟨rv_tmp rfl, trivial⟩ ⟨rfl, hB⟩
  · replace hF := ifN h5 hF
    refine W.skip ?_
    refine fun a ha => hK3 _ _ ?_ a ha
    refine W.seq fun K7 hK7 => ?_
    refine W.seq fun K8 hK8 => ?_
    refine W.region ?_
    refine wl_assign rfl rfl ?_
    refine WL.nil ?_
    refine fun a ha => hK8 _ _ ?_ a ha
    refine W.block ?_
    refine W.loopk (fun m a w9 => ∃ (y12 : Int) (y13 : Int), St 27 [(0, v0_0), (1, (.int .i64 y12)), (5, (.int .i64 y13))] a ∧ Below w0.heap.size w0 w9 ∧ Sep w0.heap.size w9 [] ∧ F_laws_szSpotSS_L1 x0 m y12 y13 = some r) FU ?_ ?_
    ·
      exact fun a ha => ⟨(w64 (x1 - (List.length x0 : Int))), 0, ha.sub ⟨rfl, rfl, rfl, trivial⟩, hB, (hS.sel [] rfl), hF⟩
    ·
      rintro m16 a w9 ⟨y12, y13, ha, hB10, hS11, hF⟩ KL15 hKL15
      refine W.at ?_ ha
      cases m16 with
      | zero => exact noneE hF
      | succ m16 =>
        obtain ⟨nx14, hnx14⟩ : ∃ k, k = F_laws_szSpotSS_L1 x0 m16 := ⟨_, rfl⟩
        rw [F_laws_szSpotSS_L1, ← hnx14] at hF
        refine W.seq fun K17 hK17 => ?_
        refine W.seq fun K18 hK18 => ?_
        refine W.region ?_
        refine wl_move rfl rfl ?_
        refine wl_move rfl rfl ?_
        refine wl_lenr (e := ty_104) (l := x0) Try.underlying34 rfl rfl h0_0 ?_
        refine wl_lss rfl rfl rfl ?_
        refine WL.nil ?_
        refine fun a ha => hK18 _ _ ?_ a ha
        refine W.cond rfl (fun h19 => ?_) (fun h19 => ?_)
        · replace hF := ifP h19 hF
          refine W.skip ?_
          refine fun a ha => hK17 _ _ ?_ a ha
          refine W.seq fun K20 hK20 => ?_
          refine W.block ?_
          refine W.seq fun K21 hK21 => ?_
          refine W.region ?_
          refine wl_move rfl rfl ?_
          refine wl_move rfl rfl ?_
          obtain ⟨u22, hu22, hF⟩ := bindE hF
          refine wl_index (e := ty_104) Try.underlying34 rfl rfl rfl h0_0 hu22 ?_
          rintro p23 _ ⟨v25, rfl, hv26⟩ hp24
          refine wl_load_p (vs := [v25]) (v := v25) tf_104 rfl rfl (hp24.ro hB10) rfl rfl ?_
          refine wl_move rfl rfl ?_
          obtain ⟨u27, hu27, hF⟩ := bindE hF
          refine wl_call rfl Try.call90 (C_laws_szSpotS w9 u22 v25 (hv26.ro hB10) y12 _ hu27) rfl ?_
          rintro _ w28 ⟨rfl, hb29⟩
          refine ⟨_, rfl, ?_⟩
          have hB30 := hB10.trans (hb29.mono hB10.size)
          have hS31 := hS11.below hb29
          refine wl_assign rfl rfl ?_
          refine WL.nil ?_
          refine fun a ha => hK21 _ _ ?_ a ha
          refine W.seq fun K33 hK33 => ?_
          refine W.region ?_
          refine wl_move rfl rfl ?_
          refine wl_lss rfl rfl rfl ?_
          refine WL.nil ?_
          refine fun a ha => hK33 _ _ ?_ a ha
          refine W.cond rfl (fun h34 => ?_) (fun h34 => ?_)
          · replace hF := ifP h34 hF
            refine W.seq fun K35 hK35 => ?_
            refine W.region ?_
            refine wl_assign rfl rfl ?_
            refine WL.nil ?_
            refine fun a ha => hK35 _ _ ?_ a ha
            refine W.ret ?_
            have hr := Option.some.inj hF
            subst hr
            exact rets (vs := [(.int .i64 (-1))]) hQ rfl ⟨rv_tmp rfl, trivial⟩ ⟨rfl, hB30⟩
          · replace hF := ifN h34 hF
            refine W.skip ?_
            refine fun a ha => hK20 _ _ ?_ a ha
            refine W.region ?_
            refine wl_move rfl rfl ?_
            refine wl_add rfl rfl rfl ?_
            refine wl_assign rfl rfl ?_
            refine WL.nil ?_
            rw [hnx14] at hF
            exact fun a ha => hKL15 a _ m16 (Nat.lt_succ_self m16) ⟨u27, (w64 (y13 + 1)), ha.sub ⟨rfl, rfl, rfl, trivial⟩, hB30, (hS31.sel [] rfl), hF⟩
        · replace hF := ifN h19 hF
          refine W.exit ?_
          refine fun a ha => hK7 _ _ ?_ a ha
          refine W.seq fun K36 hK36 => ?_
          refine W.region ?_
          refine wl_move rfl rfl ?_
          refine wl_assign rfl rfl ?_
          refine WL.nil ?_
          refine fun a ha => hK36 _ _ ?_ a ha
          refine W.ret ?_
          have hr := Option.some.inj hF
          subst hr
          exact rets (vs := [(.int .i64 y12)]) hQ rfl ⟨rv_tmp rfl, trivial⟩ ⟨rfl, hB10⟩
theorem C_laws_szIntS (w0 : World) (x0 : (List Int)) (v0_0 : Value) (h0_0 : rdS ty_3 (· < w0.heap.size) w0 v0_0 x0) (x1 : Int) (r : Int) (hF : F_laws_szIntS x0 x1 = some r) :
    Calls Try.prog 39 [v0_0, (.int .i64 x1)].toArray w0 fun e w' => e = .returned (.int .i64 r) ∧ Below w0.heap.size w0 w' := by
  refine calls_mk' Try.func39 rfl Try.ntmps39 rfl rfl fun Q hQ hP => ?_
  have hB : Below w0.heap.size w0 w0 := Below.refl _ _
  have hS : Sep w0.heap.size w0 [] := Sep.nil _ _
  unfold F_laws_szIntS at hF
  refine W.seq fun K1 hK1 => ?_
  refine W.region ?_
  refine wl_assign rfl rfl ?_
  refine WL.nil ?_
  refine fun a ha => hK1 _ _ ?_ a ha
  refine W.seq fun K2 hK2 => ?_
  refine W.region ?_
  refine wl_move rfl rfl ?_
  refine wl_move rfl rfl ?_
  refine wl_lenr (e := ty_3) (l := x0) Try.underlying24 rfl rfl h0_0 ?_
  refine wl_sub rfl rfl rfl ?_
  refine wl_assign rfl rfl ?_
  refine WL.nil ?_
  refine fun a ha => hK2 _ _ ?_ a ha
  refine W.seq fun K3 hK3 => ?_
  refine W.seq fun K4 hK4 => ?_
  refine W.region ?_
  refine wl_move rfl rfl ?_
  refine wl_lss rfl rfl rfl ?_
  refine WL.nil ?_
  refine fun a ha => hK4 _ _ ?_ a ha
  refine W.cond rfl (fun h5 => ?_) (fun h5 => ?_)
  · replace hF := ifP h5 hF
    refine W.seq fun K6 hK6 => ?_
    refine W.region ?_
    refine wl_assign rfl rfl ?_
    refine WL.nil ?_
    refine fun a ha => hK6 _ _ ?_ a ha
    refine W.ret ?_
    have hr := Option.some.inj hF
    subst hr
    exact rets (vs := [(.int .i64 (-1))]) hQ rfl ⟨rv_tmp rfl, trivial⟩ ⟨rfl, hB⟩
  · replace hF := ifN h5 hF
    refine W.skip ?_
    refine fun a ha => hK3 _ _ ?_ a ha
    refine W.seq fun K7 hK7 => ?_
    refine W.region ?_
    refine wl_move rfl rfl ?_
    refine wl_assign rfl rfl ?_
    refine WL.nil ?_
    refine fun a ha => hK7 _ _ ?_ a ha
    refine W.ret ?_
    have hr := Option.some.inj hF
    subst hr
    exact rets (vs := [(.int .i64 (w64 (x1 - (List.length x0 : Int))))]) hQ rfl ⟨rv_tmp rfl, trivial⟩ ⟨rfl, hB⟩
theorem C_laws_szShow (w0 : World) (x0 : ((List (List (Int × Int))) × (List Int) × Int × Int)) (v0_0 : Value) (h0_0 : rdS ty_104 (· < w0.heap.size) w0 v0_0 x0.1) (v0_1 : Value) (h0_1 : rdS ty_3 (· < w0.heap.size) w0 v0_1 x0.2.1) (x1 : Int) (r : Int) (hF : F_laws_szShow x0 x1 = some r) :
    Calls Try.prog 28 [(.agg #[v0_0, v0_1, (.int .i64 x0.2.2.1), (.int .i64 x0.2.2.2)]), (.int .i64 x1)].toArray w0 fun e w' => e = .returned (.int .i64 r) ∧ Below w0.heap.size w0 w' := by
  refine calls_mk' Try.func28 rfl Try.ntmps28 rfl rfl fun Q hQ hP => ?_
  have hB : Below w0.heap.size w0 w0 := Below.refl _ _
  have hS : Sep w0.heap.size w0 [] := Sep.nil _ _
  unfold F_laws_szShow at hF
  refine W.seq fun K1 hK1 => ?_
  refine W.region ?_
  refine wl_box (cs := [v0_0, v0_1, (.int .i64 x0.2.2.1), (.int .i64 x0.2.2.2)]) rfl rfl rfl hB hS ?_
  intro b2 w3 hb4 hB5 hS6
  refine wl_assign rfl rfl ?_
  refine WL.nil ?_
  refine fun a ha => hK1 _ _ ?_ a ha
  refine W.seq fun K7 hK7 => ?_
  refine W.region ?_
  refine wl_field (o := 0) (off' := 0) ff_36_0 rfl rfl rfl ?_
  refine wl_load_blk (i := 0) (vs := [v0_0]) (v := v0_0) tf_34 rfl rfl hS6 rfl rfl rfl ?_
  refine wl_move rfl rfl ?_
  obtain ⟨u8, hu8, hF⟩ := bindE hF
  refine wl_call rfl Try.call55 (C_laws_szSpotSS w3 x0.1 v0_0 (h0_0.ro hB5) x1 _ hu8) rfl ?_
  rintro _ w9 ⟨rfl, hb10⟩
  refine ⟨_, rfl, ?_⟩
  have hB11 := hB5.trans (hb10.mono hB5.size)
  have hS12 := hS6.below hb10
  refine wl_assign rfl rfl ?_
  refine WL.nil ?_
  refine fun a ha => hK7 _ _ ?_ a ha
  refine W.seq fun K14 hK14 => ?_
  refine W.seq fun K15 hK15 => ?_
  refine W.region ?_
  refine wl_move rfl rfl ?_
  refine wl_lss rfl rfl rfl ?_
  refine WL.nil ?_
  refine fun a ha => hK15 _ _ ?_ a ha
  refine W.cond rfl (fun h16 => ?_) (fun h16 => ?_)
  · replace hF := ifP h16 hF
    refine W.seq fun K17 hK17 => ?_
    refine W.region ?_
    refine wl_assign rfl rfl ?_
    refine WL.nil ?_
    refine fun a ha => hK17 _ _ ?_ a ha
    refine W.ret ?_
    have hr := Option.some.inj hF
    subst hr
    exact rets (vs := [(.int .i64 (-1))]) hQ rfl ⟨rv_tmp rfl, trivial⟩ ⟨rfl, hB11⟩
  · replace hF := ifN h16 hF
    refine W.skip ?_
    refine fun a ha => hK14 _ _ ?_ a ha
    refine W.seq fun K18 hK18 => ?_
    refine W.region ?_
    refine wl_field (o := 1) (off' := 1) ff_36_1 rfl rfl rfl ?_
    refine wl_load_blk (i := 0) (vs := [v0_1]) (v := v0_1) tf_24 rfl rfl hS12 rfl rfl rfl ?_
    refine wl_move rfl rfl ?_
    obtain ⟨u19, hu19, hF⟩ := bindE hF
    refine wl_call rfl Try.call39 (C_laws_szIntS w9 x0.2.1 v0_1 (h0_1.ro hB11) u8 _ hu19) rfl ?_
    rintro _ w20 ⟨rfl, hb21⟩
    refine ⟨_, rfl, ?_⟩
    have hB22 := hB11.trans (hb21.mono hB11.size)
    have hS23 := hS12.below hb21
    refine wl_assign rfl rfl ?_
    refine WL.nil ?_
    refine fun a ha => hK18 _ _ ?_ a ha
    refine W.seq fun K25 hK25 => ?_
    refine W.seq fun K26 hK26 => ?_
    refine W.region ?_
    refine wl_move rfl rfl ?_
    refine wl_lss rfl rfl rfl ?_
    refine WL.nil ?_
    refine fun a ha => hK26 _ _ ?_ a ha
    refine W.cond rfl (fun h27 => ?_) (fun h27 => ?_)
    · replace hF := ifP h27 hF
      refine W.seq fun K28 hK28 => ?_
      refine W.region ?_
      refine wl_assign rfl rfl ?_
      refine WL.nil ?_
      refine fun a ha => hK28 _ _ ?_ a ha
      refine W.ret ?_
      have hr := Option.some.inj hF
      subst hr
      exact rets (vs := [(.int .i64 (-1))]) hQ rfl ⟨rv_tmp rfl, trivial⟩ ⟨rfl, hB22⟩
    · replace hF := ifN h27 hF
      refine W.skip ?_
      refine fun a ha => hK25 _ _ ?_ a ha
      refine W.seq fun K29 hK29 => ?_
      refine W.region ?_
      refine wl_move rfl rfl ?_
      refine wl_assign rfl rfl ?_
      refine WL.nil ?_
      refine fun a ha => hK29 _ _ ?_ a ha
      refine W.ret ?_
      have hr := Option.some.inj hF
      subst hr
      exact rets (vs := [(.int .i64 u19)]) hQ rfl ⟨rv_tmp rfl, trivial⟩ ⟨rfl, hB22⟩
theorem C_laws_szShowS (w0 : World) (x0 : (List ((List (List (Int × Int))) × (List Int) × Int × Int))) (v0_0 : Value) (h0_0 : rdS ty_36 (· < w0.heap.size) w0 v0_0 x0) (x1 : Int) (r : Int) (hF : F_laws_szShowS x0 x1 = some r) :
    Calls Try.prog 6 [v0_0, (.int .i64 x1)].toArray w0 fun e w' => e = .returned (.int .i64 r) ∧ Below w0.heap.size w0 w' := by
  refine calls_mk' Try.func6 rfl Try.ntmps6 rfl rfl fun Q hQ hP => ?_
  have hB : Below w0.heap.size w0 w0 := Below.refl _ _
  have hS : Sep w0.heap.size w0 [] := Sep.nil _ _
  unfold F_laws_szShowS at hF
  refine W.seq fun K1 hK1 => ?_
  refine W.region ?_
  refine wl_assign rfl rfl ?_
  refine WL.nil ?_
  refine fun a ha => hK1 _ _ ?_ a ha
  refine W.seq fun K2 hK2 => ?_
  refine W.region ?_
  refine wl_move rfl rfl ?_
  refine wl_move rfl rfl ?_
  refine wl_lenr (e := ty_36) (l := x0) Try.underlying22 rfl rfl h0_0 ?_
  refine wl_sub rfl rfl rfl ?_
  refine wl_assign rfl rfl ?_
  refine WL.nil ?_
  refine fun a ha => hK2 _ _ ?_ a ha
  refine W.seq fun K3 hK3 => ?_
  refine W.seq fun K4 hK4 => ?_
  refine W.region ?_
  refine wl_move rfl rfl ?_
  refine wl_lss rfl rfl rfl ?_
  refine WL.nil ?_
  refine fun a ha => hK4 _ _ ?_ a ha
  refine W.cond rfl (fun h5 => ?_) (fun h5 => ?_)
  · replace hF := ifP h5 hF
    refine W.seq fun K6 hK6 => ?_
    refine W.region ?_
    refine wl_assign rfl rfl ?_
    refine WL.nil ?_
    refine fun a ha => hK6 _ _ ?_ a ha
    refine W.ret ?_
    have hr := Option.some.inj hF
    subst hr
    exact rets (vs := [(.int .i64 (-1))]) hQ rfl ⟨rv_tmp rfl, trivial⟩ ⟨rfl, hB⟩
  · replace hF := ifN h5 hF
    refine W.skip ?_
    refine fun a ha => hK3 _ _ ?_ a ha
    refine W.seq fun K7 hK7 => ?_
    refine W.seq fun K8 hK8 => ?_
    refine W.region ?_
    refine wl_assign rfl rfl ?_
    refine WL.nil ?_
    refine fun a ha => hK8 _ _ ?_ a ha
    refine W.block ?_
    refine W.loopk (fun m a w9 => ∃ (y12 : Int) (y13 : Int), St 27 [(0, v0_0), (1, (.int .i64 y12)), (5, (.int .i64 y13))] a ∧ Below w0.heap.size w0 w9 ∧ Sep w0.heap.size w9 [] ∧ F_laws_szShowS_L1 x0 m y12 y13 = some r) FU ?_ ?_
    ·
      exact fun a ha => ⟨(w64 (x1 - (List.length x0 : Int))), 0, ha.sub ⟨rfl, rfl, rfl, trivial⟩, hB, (hS.sel [] rfl), hF⟩
    ·
      rintro m16 a w9 ⟨y12, y13, ha, hB10, hS11, hF⟩ KL15 hKL15
      refine W.at ?_ ha
      cases m16 with
      | zero => exact noneE hF
      | succ m16 =>
        obtain ⟨nx14, hnx14⟩ : ∃ k, k = F_laws_szShowS_L1 x0 m16 := ⟨_, rfl⟩
        rw [F_laws_szShowS_L1, ← hnx14] at hF
        refine W.seq fun K17 hK17 => ?_
        refine W.seq fun K18 hK18 => ?_
        refine W.region ?_
        refine wl_move rfl rfl ?_
        refine wl_move rfl rfl ?_
        refine wl_lenr (e := ty_36) (l := x0) Try.underlying22 rfl rfl h0_0 ?_
        refine wl_lss rfl rfl rfl ?_
        refine WL.nil ?_
        refine fun a ha => hK18 _ _ ?_ a ha
        refine W.cond rfl (fun h19 => ?_) (fun h19 => ?_)
        · replace hF := ifP h19 hF
          refine W.skip ?_
          refine fun a ha => hK17 _ _ ?_ a ha
          refine W.seq fun K20 hK20 => ?_
          refine W.block ?_
          refine W.seq fun K21 hK21 => ?_
          refine W.region ?_
          refine wl_move rfl rfl ?_
          refine wl_move rfl rfl ?_
          obtain ⟨u22, hu22, hF⟩ := bindE hF
          refine wl_index (e := ty_36) Try.underlying22 rfl rfl rfl h0_0 hu22 ?_
          rintro p23 _ ⟨_, _, rfl, ⟨v25, rfl, hv26⟩, ⟨_, _, rfl, ⟨v27, rfl, hv28⟩, ⟨_, _, rfl, rfl, rfl⟩⟩⟩ hp24
          refine wl_load_p (vs := [v25, v27, (.int .i64 u22.2.2.1), (.int .i64 u22.2.2.2)]) (v := (.agg #[v25, v27, (.int .i64 u22.2.2.1), (.int .i64 u22.2.2.2)])) tf_36 rfl rfl (hp24.ro hB10) rfl rfl ?_
          refine wl_move rfl rfl ?_
          obtain ⟨u29, hu29, hF⟩ := bindE hF
          refine wl_call rfl Try.call28 (C_laws_szShow w9 u22 v25 (hv26.ro hB10) v27 (hv28.ro hB10) y12 _ hu29) rfl ?_
          rintro _ w30 ⟨rfl, hb31⟩
          refine ⟨_, rfl, ?_⟩
          have hB32 := hB10.trans (hb31.mono hB10.size)
          have hS33 := hS11.below hb31
          refine wl_assign rfl rfl ?_
          refine WL.nil ?_
          refine fun a ha => hK21 _ _ ?_ a ha
          refine W.seq fun K35 hK35 => ?_
          refine W.region ?_
          refine wl_move rfl rfl ?_
          refine wl_lss rfl rfl rfl ?_
          refine WL.nil ?_
          refine fun a ha => hK35 _ _ ?_ a ha
          refine W.cond rfl (fun h36 => ?_) (fun h36 => ?_)
          · replace hF := ifP h36 hF
            refine W.seq fun K37 hK37 => ?_
            refine W.region ?_
            refine wl_assign rfl rfl ?_
            refine WL.nil ?_
            refine fun a ha => hK37 _ _ ?_ a ha
            refine W.ret ?_
            have hr := Option.some.inj hF
            subst hr
            exact rets (vs := [(.int .i64 (-1))]) hQ rfl ⟨rv_tmp rfl, trivial⟩ ⟨rfl, hB32⟩
          · replace hF := ifN h36 hF
            refine W.skip ?_
            refine fun a ha => hK20 _ _ ?_ a ha
            refine W.region ?_
            refine wl_move rfl rfl ?_
            refine wl_add rfl rfl rfl ?_
            refine wl_assign rfl rfl ?_
            refine WL.nil ?_
            rw [hnx14] at hF
            exact fun a ha => hKL15 a _ m16 (Nat.lt_succ_self m16) ⟨u29, (w64 (y13 + 1)), ha.sub ⟨rfl, rfl, rfl, trivial⟩, hB32, (hS33.sel [] rfl), hF⟩
        · replace hF := ifN h19 hF
          refine W.exit ?_
          refine fun a ha => hK7 _ _ ?_ a ha
          refine W.seq fun K38 hK38 => ?_
          refine W.region ?_
          refine wl_move rfl rfl ?_
          refine wl_assign rfl rfl ?_
          refine WL.nil ?_
          refine fun a ha => hK38 _ _ ?_ a ha
          refine W.ret ?_
          have hr := Option.some.inj hF
          subst hr
          exact rets (vs := [(.int .i64 y12)]) hQ rfl ⟨rv_tmp rfl, trivial⟩ ⟨rfl, hB10⟩
theorem C_laws_toSpot (w0 : World) (x0 : (Int × Int)) (r : (Int × Int)) (hF : F_laws_toSpot x0 = some r) :
    Calls Try.prog 121 [(.agg #[(.int .i64 x0.1), (.int .i64 x0.2)])].toArray w0 fun e w' => e = .returned (.agg #[(.int .i64 r.1), (.int .i64 r.2)]) ∧ Below w0.heap.size w0 w' := by
  refine calls_mk' Try.func121 rfl Try.ntmps121 rfl rfl fun Q hQ hP => ?_
  have hB : Below w0.heap.size w0 w0 := Below.refl _ _
  have hS : Sep w0.heap.size w0 [] := Sep.nil _ _
  unfold F_laws_toSpot at hF
  refine W.seq fun K1 hK1 => ?_
  refine W.region ?_
  refine wl_box (cs := [(.int .i64 x0.1), (.int .i64 x0.2)]) rfl rfl rfl hB hS ?_
  intro b2 w3 hb4 hB5 hS6
  refine wl_alloc (cs := [(.int .i64 0), (.int .i64 0)]) tf_106 rfl rfl hB5 hS6 ?_
  intro b7 w8 hb9 hB10 hS11
  refine WL.nil ?_
  refine fun a ha => hK1 _ _ ?_ a ha
  refine W.seq fun K12 hK12 => ?_
  refine W.region ?_
  refine wl_alloc (cs := [(.int .i64 0), (.int .i64 0)]) tf_106 rfl rfl hB10 hS11 ?_
  intro b13 w14 hb15 hB16 hS17
  refine WL.nil ?_
  refine fun a ha => hK12 _ _ ?_ a ha
  refine W.seq fun K18 hK18 => ?_
  refine W.region ?_
  refine wl_field (o := 0) (off' := 0) ff_136_0 rfl rfl rfl ?_
  refine wl_load_blk (i := 2) (vs := [(.int .i64 x0.1)]) (v := (.int .i64 x0.1)) tf_3 rfl rfl hS17 rfl rfl rfl ?_
  refine wl_field (o := 0) (off' := 0) ff_106_0 rfl rfl rfl ?_
  refine wl_store_blk (i := 0) (vs := [(.int .i64 x0.1)]) (cs' := [(.int .i64 x0.1), (.int .i64 0)]) tf_3 rfl rfl rfl rfl hB16 hS17 rfl rfl ⟨rfl, trivial⟩ rfl ?_
  intro w19 hk22 hB20 hS21
  refine WL.nil ?_
  refine fun a ha => hK18 _ _ ?_ a ha
  refine W.seq fun K23 hK23 => ?_
  refine W.region ?_
  refine wl_field (o := 1) (off' := 1) ff_136_1 rfl rfl rfl ?_
  refine wl_load_blk (i := 2) (vs := [(.int .i64 x0.2)]) (v := (.int .i64 x0.2)) tf_3 rfl rfl hS21 rfl rfl rfl ?_
  refine wl_field (o := 1) (off' := 1) ff_106_1 rfl rfl rfl ?_
  refine wl_store_blk (i := 0) (vs := [(.int .i64 x0.2)]) (cs' := [(.int .i64 x0.1), (.int .i64 x0.2)]) tf_3 rfl rfl rfl rfl hB20 hS21 rfl rfl ⟨rfl, trivial⟩ rfl ?_
  intro w24 hk27 hB25 hS26
  refine WL.nil ?_
  refine fun a ha => hK23 _ _ ?_ a ha
  refine W.seq fun K28 hK28 => ?_
  refine W.region ?_
  refine wl_load_blk (i := 0) (vs := [(.int .i64 x0.1), (.int .i64 x0.2)]) (v := (.agg #[(.int .i64 x0.1), (.int .i64 x0.2)])) tf_106 rfl rfl hS26 rfl rfl rfl ?_
  refine wl_store_blk (i := 1) (vs := [(.int .i64 x0.1), (.int .i64 x0.2)]) (cs' := [(.int .i64 x0.1), (.int .i64 x0.2)]) tf_106 rfl rfl rfl rfl hB25 hS26 rfl rfl ⟨rfl, rfl, trivial⟩ rfl ?_
  intro w29 hk32 hB30 hS31
  refine WL.nil ?_
  refine fun a ha => hK28 _ _ ?_ a ha
  refine W.ret ?_
  have hr := Option.some.inj hF
  subst hr
  exact rets (vs := [(.agg #[(.int .i64 x0.1), (.int .i64 x0.2)])]) hQ rfl ⟨rv_cell (i := 1) tf_106 rfl hS31 rfl rfl rfl, trivial⟩ ⟨rfl, hB30⟩
theorem C_laws_toSpotS (w0 : World) (x0 : (List (Int × Int))) (v0_0 : Value) (h0_0 : rdS ty_136 (· < w0.heap.size) w0 v0_0 x0) (r : (List (Int × Int))) (hF : F_laws_toSpotS x0 = some r) :
    Calls Try.prog 94 [v0_0].toArray w0 fun e w' => ∃ (q0 : Value) (G0 : List Nat), e = .returned q0 ∧ Below w0.heap.size w0 w' ∧ Sep w0.heap.size w' [R.own ty_106 G0 q0 r] := by
  refine calls_mk' Try.func94 rfl Try.ntmps94 rfl rfl fun Q hQ hP => ?_
  have hB : Below w0.heap.size w0 w0 := Below.refl _ _
  have hS : Sep w0.heap.size w0 [] := Sep.nil _ _
  unfold F_laws_toSpotS at hF
  refine W.seq fun K1 hK1 => ?_
  refine W.region ?_
  refine wl_assign rfl rfl ?_
  refine WL.nil ?_
  refine fun a ha => hK1 _ _ ?_ a ha
  refine W.seq fun K2 hK2 => ?_
  refine W.region ?_
  refine wl_move rfl rfl ?_
  refine wl_lenr (e := ty_136) (l := x0) Try.underlying104 rfl rfl h0_0 ?_
  obtain ⟨u3, hu3, hF⟩ := bindE hF
  refine wl_make (e := ty_106) Try.underlying82 rfl rfl hu3 hB hS ?_
  intro v4 F5 w6 hb7 hB8 hS9
  refine wl_assign rfl rfl ?_
  refine WL.nil ?_
  refine fun a ha => hK2 _ _ ?_ a ha
  refine W.seq fun K10 hK10 => ?_
  refine W.seq fun K11 hK11 => ?_
  refine W.region ?_
  refine wl_assign rfl rfl ?_
  refine WL.nil ?_
  refine fun a ha => hK11 _ _ ?_ a ha
  refine W.block ?_
  refine W.loopk (fun m a w12 => ∃ (l15 : (List (Int × Int))) (y18 : Int) (v16 : Value) (F17 : List Nat), St 23 [(0, v0_0), (3, v16), (4, (.int .i64 y18))] a ∧ Below w0.heap.size w0 w12 ∧ Sep w0.heap.size w12 [R.own ty_106 F17 v16 l15] ∧ F_laws_toSpotS_L1 x0 m l15 y18 = some r) FU ?_ ?_
  ·
    exact fun a ha => ⟨u3, 0, v4, F5, ha.sub ⟨rfl, rfl, rfl, trivial⟩, hB8, (hS9.sel [0] rfl), hF⟩
  ·
    rintro m21 a w12 ⟨l15, y18, v16, F17, ha, hB13, hS14, hF⟩ KL20 hKL20
    refine W.at ?_ ha
    cases m21 with
    | zero => exact noneE hF
    | succ m21 =>
      obtain ⟨nx19, hnx19⟩ : ∃ k, k = F_laws_toSpotS_L1 x0 m21 := ⟨_, rfl⟩
      rw [F_laws_toSpotS_L1, ← hnx19] at hF
      refine W.seq fun K22 hK22 => ?_
      refine W.seq fun K23 hK23 => ?_
      refine W.region ?_
      refine wl_move rfl rfl ?_
      refine wl_move rfl rfl ?_
      refine wl_lenr (e := ty_136) (l := x0) Try.underlying104 rfl rfl h0_0 ?_
      refine wl_lss rfl rfl rfl ?_
      refine WL.nil ?_
      refine fun a ha => hK23 _ _ ?_ a ha
      refine W.cond rfl (fun h24 => ?_) (fun h24 => ?_)
      · replace hF := ifP h24 hF
        refine W.skip ?_
        refine fun a ha => hK22 _ _ ?_ a ha
        refine W.seq fun K25 hK25 => ?_
        refine W.block ?_
        refine W.region ?_
        refine wl_move rfl rfl ?_
        refine wl_move rfl rfl ?_
        refine wl_move rfl rfl ?_
        refine wl_move rfl rfl ?_
        obtain ⟨u26, hu26, hF⟩ := bindE hF
        refine wl_index (e := ty_136) Try.underlying104 rfl rfl rfl h0_0 hu26 ?_
        rintro p27 _ rfl hp28
        refine wl_load_p (vs := [(.int .i64 u26.1), (.int .i64 u26.2)]) (v := (.agg #[(.int .i64 u26.1), (.int .i64 u26.2)])) tf_136 rfl rfl (hp28.ro hB13) rfl rfl ?_
        obtain ⟨u29, hu29, hF⟩ := bindE hF
        refine wl_call rfl Try.call121 (C_laws_toSpot w12 u26 _ hu29) rfl ?_
        rintro _ w30 ⟨rfl, hb31⟩
        refine ⟨_, rfl, ?_⟩
        have hB32 := hB13.trans (hb31.mono hB13.size)
        have hS33 := hS14.below hb31
        obtain ⟨u35, hu35, hF⟩ := bindE hF
        refine wl_indexo (e := ty_106) (i := 0) Try.underlying82 rfl rfl rfl hS33 rfl hu35 ?_
        rintro p36 _ rfl hp37 ho38
        refine wl_storeo (i := 0) (o := 0) (vs := [(.int .i64 u29.1), (.int .i64 u29.2)]) (u' := u29) fl_106 tf_106 rfl rfl rfl rfl ho38 hu35 hB32 hS33 rfl rfl ⟨rfl, rfl, trivial⟩ rfl ?_
        intro w39 hk42 hB40 hS41
        refine WL.nil ?_
        refine fun a ha => hK25 _ _ ?_ a ha
        refine W.region ?_
        refine wl_move rfl rfl ?_
        refine wl_add rfl rfl rfl ?_
        refine wl_assign rfl rfl ?_
        refine WL.nil ?_
        rw [hnx19] at hF
        exact fun a ha => hKL20 a _ m21 (Nat.lt_succ_self m21) ⟨(seti l15 y18 u29), (w64 (y18 + 1)), v16, F17, ha.sub ⟨rfl, rfl, rfl, trivial⟩, hB40, (hS41.sel [0] rfl), hF⟩
      · replace hF := ifN h24 hF
        refine W.exit ?_
        refine fun a ha => hK10 _ _ ?_ a ha
        refine W.seq fun K43 hK43 => ?_
        refine W.region ?_
        refine wl_move rfl rfl ?_
        refine wl_assign rfl rfl ?_
        refine WL.nil ?_
        refine fun a ha => hK43 _ _ ?_ a ha
        refine W.ret ?_
        have hr := Option.some.inj hF
        subst hr
        exact rets (vs := [v16]) hQ rfl ⟨rv_tmp rfl, trivial⟩ ⟨v16, F17, rfl, hB13, hS14.sel [0] rfl⟩
theorem C_laws_toSpotSS (w0 : World) (x0 : (List (List (Int × Int)))) (v0_0 : Value) (h0_0 : rdS ty_104 (· < w0.heap.size) w0 v0_0 x0) (r : (List (List (Int × Int)))) (hF : F_laws_toSpotSS x0 = some r) :
    Calls Try.prog 66 [v0_0].toArray w0 fun e w' => ∃ (q0 : Value) (G0 : List Nat), e = .returned q0 ∧ Below w0.heap.size w0 w' ∧ Sep w0.heap.size w' [R.own ty_82 G0 q0 r] := by
  refine calls_mk' Try.func66 rfl Try.ntmps66 rfl rfl fun Q hQ hP => ?_
  have hB : Below w0.heap.size w0 w0 := Below.refl _ _
  have hS : Sep w0.heap.size w0 [] := Sep.nil _ _
  unfold F_laws_toSpotSS at hF
  refine W.seq fun K1 hK1 => ?_
  refine W.region ?_
  refine wl_assign rfl rfl ?_
  refine WL.nil ?_
  refine fun a ha => hK1 _ _ ?_ a ha
  refine W.seq fun K2 hK2 => ?_
  refine W.region ?_
  refine wl_move rfl rfl ?_
  refine wl_lenr (e := ty_104) (l := x0) Try.underlying34 rfl rfl h0_0 ?_
  obtain ⟨u3, hu3, hF⟩ := bindE hF
  refine wl_make (e := ty_82) Try.underlying40 rfl rfl hu3 hB hS ?_
  intro v4 F5 w6 hb7 hB8 hS9
  refine wl_assign rfl rfl ?_
  refine WL.nil ?_
  refine fun a ha => hK2 _ _ ?_ a ha
  refine W.seq fun K10 hK10 => ?_
  refine W.seq fun K11 hK11 => ?_
  refine W.region ?_
  refine wl_assign rfl rfl ?_
  refine WL.nil ?_
  refine fun a ha => hK11 _ _ ?_ a ha
  refine W.block ?_
  refine W.loopk (fun m a w12 => ∃ (l15 : (List (List (Int × Int)))) (y18 : Int) (v16 : Value) (F17 : List Nat), St 23 [(0, v0_0), (3, v16), (4, (.int .i64 y18))] a ∧ Below w0.heap.size w0 w12 ∧ Sep w0.heap.size w12 [R.own ty_82 F17 v16 l15] ∧ F_laws_toSpotSS_L1 x0 m l15 y18 = some r) FU ?_ ?_
  ·
    exact fun a ha => ⟨u3, 0, v4, F5, ha.sub ⟨rfl, rfl, rfl, trivial⟩, hB8, (hS9.sel [0] rfl), hF⟩
  ·
    rintro m21 a w12 ⟨l15, y18, v16, F17, ha, hB13, hS14, hF⟩ KL20 hKL20
    refine W.at ?_ ha
    cases m21 with
    | zero => exact noneE hF
    | succ m21 =>
      obtain ⟨nx19, hnx19⟩ : ∃ k, k = F_laws_toSpotSS_L1 x0 m21 := ⟨_, rfl⟩
      rw [F_laws_toSpotSS_L1, ← hnx19] at hF
      refine W.seq fun K22 hK22 => ?_
      refine W.seq fun K23 hK23 => ?_
      refine W.region ?_
      refine wl_move rfl rfl ?_
      refine wl_move rfl rfl ?_
      refine wl_lenr (e := ty_104) (l := x0) Try.underlying34 rfl rfl h0_0 ?_
      refine wl_lss rfl rfl rfl ?_
      refine WL.nil ?_
      refine fun a ha => hK23 _ _ ?_ a ha
      refine W.cond rfl (fun h24 => ?_) (fun h24 => ?_)
      · replace hF := ifP h24 hF
        refine W.skip ?_
        refine fun a ha => hK22 _ _ ?_ a ha
        refine W.seq fun K25 hK25 => ?_
        refine W.block ?_
        refine W.region ?_
        refine wl_move rfl rfl ?_
        refine wl_move rfl rfl ?_
        refine wl_move rfl rfl ?_
        refine wl_move rfl rfl ?_
        obtain ⟨u26, hu26, hF⟩ := bindE hF
        refine wl_index (e := ty_104) Try.underlying34 rfl rfl rfl h0_0 hu26 ?_
        rintro p27 _ ⟨v29, rfl, hv30⟩ hp28
        refine wl_load_p (vs := [v29]) (v := v29) tf_104 rfl rfl (hp28.ro hB13) rfl rfl ?_
        obtain ⟨u31, hu31, hF⟩ := bindE hF
        refine wl_call rfl Try.call94 (C_laws_toSpotS w12 u26 v29 (hv30.ro hB13) _ hu31) rfl ?_
        rintro _ w34 ⟨v32, F33, rfl, hb35, hM38⟩
        refine ⟨_, rfl, ?_⟩
        have hB36 := hB13.trans (hb35.mono hB13.size)
        have hS37 := hS14.join hb35 hM38 hB13.size
        obtain ⟨u39, hu39, hF⟩ := bindE hF
        refine wl_indexo (e := ty_82) (i := 1) Try.underlying40 rfl rfl rfl hS37 rfl hu39 ?_
        rintro p40 _ ⟨v42, rfl, hv43⟩ hp41 ho44
        refine wl_storen (vs := [v32]) (u' := u31) tf_82 rfl rfl (cells_one (hS37.own_ro (i := 0) rfl).one) rfl ho44 hu39 hB36 (((hS37.sel [0, 1] rfl).cel1 (e := ty_82) (fun _ _ _ _ h => ⟨_, rfl, h⟩)).sel [1, 0] rfl) rfl ⟨(hS37.own_ro (i := 0) rfl).one, trivial⟩ ?_
        intro w45 F48 hB46 hS47
        refine WL.nil ?_
        refine fun a ha => hK25 _ _ ?_ a ha
        refine W.region ?_
        refine wl_move rfl rfl ?_
        refine wl_add rfl rfl rfl ?_
        refine wl_assign rfl rfl ?_
        refine WL.nil ?_
        rw [hnx19] at hF
        exact fun a ha => hKL20 a _ m21 (Nat.lt_succ_self m21) ⟨(seti l15 y18 u31), (w64 (y18 + 1)), v16, F48, ha.sub ⟨rfl, rfl, rfl, trivial⟩, hB46, (hS47.sel [0] rfl), hF⟩
      · replace hF := ifN h24 hF
        refine W.exit ?_
        refine fun a ha => hK10 _ _ ?_ a ha
        refine W.seq fun K49 hK49 => ?_
        refine W.region ?_
        refine wl_move rfl rfl ?_
        refine wl_assign rfl rfl ?_
        refine WL.nil ?_
        refine fun a ha => hK49 _ _ ?_ a ha
        refine W.ret ?_
        have hr := Option.some.inj hF
        subst hr
        exact rets (vs := [v16]) hQ rfl ⟨rv_tmp rfl, trivial⟩ ⟨v16, F17, rfl, hB13, hS14.sel [0] rfl⟩
theorem C_laws_toIntS (w0 : World) (x0 : (List Int)) (v0_0 : Value) (h0_0 : rdS ty_3 (· < w0.heap.size) w0 v0_0 x0) (r : (List Int)) (hF : F_laws_toIntS x0 = some r) :
    Calls Try.prog 41 [v0_0].toArray w0 fun e w' => ∃ (q0 : Value) (G0 : List Nat), e = .returned q0 ∧ Below w0.heap.size w0 w' ∧ Sep w0.heap.size w' [R.own ty_3 G0 q0 r] := by
  refine calls_mk' Try.func41 rfl Try.ntmps41 rfl rfl fun Q hQ hP => ?_
  have hB : Below w0.heap.size w0 w0 := Below.refl _ _
  have hS : Sep w0.heap.size w0 [] := Sep.nil _ _
  unfold F_laws_toIntS at hF
  refine W.seq fun K1 hK1 => ?_
  refine W.region ?_
  refine wl_assign rfl rfl ?_
  refine WL.nil ?_
  refine fun a ha => hK1 _ _ ?_ a ha
  refine W.seq fun K2 hK2 => ?_
  refine W.region ?_
  refine wl_move rfl rfl ?_
  refine wl_lenr (e := ty_3) (l := x0) Try.underlying24 rfl rfl h0_0 ?_
  obtain ⟨u3, hu3, hF⟩ := bindE hF
  refine wl_make (e := ty_3) Try.underlying24 rfl rfl hu3 hB hS ?_
  intro v4 F5 w6 hb7 hB8 hS9
  refine wl_assign rfl rfl ?_
  refine WL.nil ?_
  refine fun a ha => hK2 _ _ ?_ a ha
  refine W.seq fun K10 hK10 => ?_
  refine W.seq fun K11 hK11 => ?_
  refine W.region ?_
  refine wl_assign rfl rfl ?_
  refine WL.nil ?_
  refine fun a ha => hK11 _ _ ?_ a ha
  refine W.block ?_
  refine W.loopk (fun m a w12 => ∃ (l15 : (List Int)) (y18 : Int) (v16 : Value) (F17 : List Nat), St 22 [(0, v0_0), (3, v16), (4, (.int .i64 y18))] a ∧ Below w0.heap.size w0 w12 ∧ Sep w0.heap.size w12 [R.own ty_3 F17 v16 l15] ∧ F_laws_toIntS_L1 x0 m l15 y18 = some r) FU ?_ ?_
  ·
    exact fun a ha => ⟨u3, 0, v4, F5, ha.sub ⟨rfl, rfl, rfl, trivial⟩, hB8, (hS9.sel [0] rfl), hF⟩
  ·
    rintro m21 a w12 ⟨l15, y18, v16, F17, ha, hB13, hS14, hF⟩ KL20 hKL20
    refine W.at ?_ ha
    cases m21 with
    | zero => exact noneE hF
    | succ m21 =>
      obtain ⟨nx19, hnx19⟩ : ∃ k, k = F_laws_toIntS_L1 x0 m21 := ⟨_, rfl⟩
      rw [F_laws_toIntS_L1, ← hnx19] at hF
      refine W.seq fun K22 hK22 => ?_
      refine W.seq fun K23 hK23 => ?_
      refine W.region ?_
      refine wl_move rfl rfl ?_
      refine wl_move rfl rfl ?_
      refine wl_lenr (e := ty_3) (l := x0) Try.underlying24 rfl rfl h0_0 ?_
      refine wl_lss rfl rfl rfl ?_
      refine WL.nil ?_
      refine fun a ha => hK23 _ _ ?_ a ha
      refine W.cond rfl (fun h24 => ?_) (fun h24 => ?_)
      · replace hF := ifP h24 hF
        refine W.skip ?_
        refine fun a ha => hK22 _ _ ?_ a ha
        refine W.seq fun K25 hK25 => ?_
        refine W.block ?_
        refine W.region ?_
        refine wl_move rfl rfl ?_
        refine wl_move rfl rfl ?_
        refine wl_move rfl rfl ?_
        refine wl_move rfl rfl ?_
        obtain ⟨u26, hu26, hF⟩ := bindE hF
        refine wl_index (e := ty_3) Try.underlying24 rfl rfl rfl h0_0 hu26 ?_
        rintro p27 _ rfl hp28
        refine wl_load_p (vs := [(.int .i64 u26)]) (v := (.int .i64 u26)) tf_3 rfl rfl (hp28.ro hB13) rfl rfl ?_
        obtain ⟨u29, hu29, hF⟩ := bindE hF
        refine wl_indexo (e := ty_3) (i := 0) Try.underlying24 rfl rfl rfl hS14 rfl hu29 ?_
        rintro p30 _ rfl hp31 ho32
        refine wl_storeo (i := 0) (o := 0) (vs := [(.int .i64 u26)]) (u' := u26) fl_3 tf_3 rfl rfl rfl rfl ho32 hu29 hB13 hS14 rfl rfl ⟨rfl, trivial⟩ rfl ?_
        intro w33 hk36 hB34 hS35
        refine WL.nil ?_
        refine fun a ha => hK25 _ _ ?_ a ha
        refine W.region ?_
        refine wl_move rfl rfl ?_
        refine wl_add rfl rfl rfl ?_
        refine wl_assign rfl rfl ?_
        refine WL.nil ?_
        rw [hnx19] at hF
        exact fun a ha => hKL20 a _ m21 (Nat.lt_succ_self m21) ⟨(seti l15 y18 u26), (w64 (y18 + 1)), v16, F17, ha.sub ⟨rfl, rfl, rfl, trivial⟩, hB34, (hS35.sel [0] rfl), hF⟩
      · replace hF := ifN h24 hF
        refine W.exit ?_
        refine fun a ha => hK10 _ _ ?_ a ha
        refine W.seq fun K37 hK37 => ?_
        refine W.region ?_
        refine wl_move rfl rfl ?_
        refine wl_assign rfl rfl ?_
        refine WL.nil ?_
        refine fun a ha => hK37 _ _ ?_ a ha
        refine W.ret ?_
        have hr := Option.some.inj hF
        subst hr
        exact rets (vs := [v16]) hQ rfl ⟨rv_tmp rfl, trivial⟩ ⟨v16, F17, rfl, hB13, hS14.sel [0] rfl⟩
theorem C_laws_toShow (w0 : World) (x0 : ((List (List (Int × Int))) × (List Int) × Int × Int)) (v0_0 : Value) (h0_0 : rdS ty_104 (· < w0.heap.size) w0 v0_0 x0.1) (v0_1 : Value) (h0_1 : rdS ty_3 (· < w0.heap.size) w0 v0_1 x0.2.1) (r : ((List (List (Int × Int))) × (List Int) × Int × Int)) (hF : F_laws_toShow x0 = some r) :
    Calls Try.prog 32 [(.agg #[v0_0, v0_1, (.int .i64 x0.2.2.1), (.int .i64 x0.2.2.2)])].toArray w0 fun e w' => ∃ (q0 : Value) (G0 : List Nat) (q1 : Value) (G1 : List Nat), e = .returned (.agg #[q0, q1, (.int .i64 r.2.2.1), (.int .i64 r.2.2.2)]) ∧ Below w0.heap.size w0 w' ∧ Sep w0.heap.size w' [R.own ty_82 G0 q0 r.1, R.own ty_3 G1 q1 r.2.1] := by
  refine calls_mk' Try.func32 rfl Try.ntmps32 rfl rfl fun Q hQ hP => ?_
  have hB : Below w0.heap.size w0 w0 := Below.refl _ _
  have hS : Sep w0.heap.size w0 [] := Sep.nil _ _
  unfold F_laws_toShow at hF
  refine W.seq fun K1 hK1 => ?_
  refine W.region ?_
  refine wl_box (cs := [v0_0, v0_1, (.int .i64 x0.2.2.1), (.int .i64 x0.2.2.2)]) rfl rfl rfl hB hS ?_
  intro b2 w3 hb4 hB5 hS6
  refine wl_alloc (cs := [(.slice none 0 0), (.slice none 0 0), (.int .i64 0), (.int .i64 0)]) tf_42 rfl rfl hB5 hS6 ?_
  intro b7 w8 hb9 hB10 hS11
  refine WL.nil ?_
  refine fun a ha => hK1 _ _ ?_ a ha
  refine W.seq fun K12 hK12 => ?_
  refine W.region ?_
  refine wl_alloc (cs := [(.slice none 0 0), (.slice none 0 0), (.int .i64 0), (.int .i64 0)]) tf_42 rfl rfl hB10 hS11 ?_
  intro b13 w14 hb15 hB16 hS17
  refine WL.nil ?_
  refine fun a ha => hK12 _ _ ?_ a ha
  refine W.seq fun K18 hK18 => ?_
  refine W.region ?_
  refine wl_field (o := 0) (off' := 0) ff_36_0 rfl rfl rfl ?_
  refine wl_load_blk (i := 2) (vs := [v0_0]) (v := v0_0) tf_34 rfl rfl hS17 rfl rfl rfl ?_
  obtain ⟨u19, hu19, hF⟩ := bindE hF
  refine wl_call rfl Try.call66 (C_laws_toSpotSS w14 x0.1 v0_0 (h0_0.ro hB16) _ hu19) rfl ?_
  rintro _ w22 ⟨v20, F21, rfl, hb23, hM26⟩
  refine ⟨_, rfl, ?_⟩
  have hB24 := hB16.trans (hb23.mono hB16.size)
  have hS25 := hS17.join hb23 hM26 hB16.size
  refine wl_field (o := 0) (off' := 0) ff_42_0 rfl rfl rfl ?_
  refine wl_store_blk (i := 1) (vs := [v20]) (cs' := [v20, (.slice none 0 0), (.int .i64 0), (.int .i64 0)]) tf_40 rfl rfl (cells_one (hS25.own_ro (i := 0) rfl).one) rfl hB24 hS25 rfl rfl ⟨(hS25.own_ro (i := 0) rfl).one, trivial⟩ rfl ?_
  intro w27 hk30 hB28 hS29
  refine WL.nil ?_
  refine fun a ha => hK18 _ _ ?_ a ha
  refine W.seq fun K31 hK31 => ?_
  refine W.region ?_
  refine wl_field (o := 1) (off' := 1) ff_36_1 rfl rfl rfl ?_
  refine wl_load_blk (i := 3) (vs := [v0_1]) (v := v0_1) tf_24 rfl rfl hS29 rfl rfl rfl ?_
  obtain ⟨u32, hu32, hF⟩ := bindE hF
  refine wl_call rfl Try.call41 (C_laws_toIntS w27 x0.2.1 v0_1 (h0_1.ro hB28) _ hu32) rfl ?_
  rintro _ w35 ⟨v33, F34, rfl, hb36, hM39⟩
  refine ⟨_, rfl, ?_⟩
  have hB37 := hB28.trans (hb36.mono hB28.size)
  have hS38 := hS29.join hb36 hM39 hB28.size
  refine wl_field (o := 1) (off' := 1) ff_42_1 rfl rfl rfl ?_
  refine wl_store_blk (i := 2) (vs := [v33]) (cs' := [v20, v33, (.int .i64 0), (.int .i64 0)]) tf_24 rfl rfl (cells_one (hS38.own_ro (i := 0) rfl).one) rfl hB37 hS38 rfl rfl ⟨(hS38.own_ro (i := 0) rfl).one, trivial⟩ rfl ?_
  intro w40 hk43 hB41 hS42
  refine WL.nil ?_
  refine fun a ha => hK31 _ _ ?_ a ha
  refine W.seq fun K44 hK44 => ?_
  refine W.region ?_
  refine wl_field (o := 2) (off' := 2) ff_36_2 rfl rfl rfl ?_
  refine wl_load_blk (i := 4) (vs := [(.int .i64 x0.2.2.1)]) (v := (.int .i64 x0.2.2.1)) tf_3 rfl rfl hS42 rfl rfl rfl ?_
  refine wl_field (o := 2) (off' := 2) ff_42_2 rfl rfl rfl ?_
  refine wl_store_blk (i := 2) (vs := [(.int .i64 x0.2.2.1)]) (cs' := [v20, v33, (.int .i64 x0.2.2.1), (.int .i64 0)]) tf_3 rfl rfl rfl rfl hB41 hS42 rfl rfl ⟨rfl, trivial⟩ rfl ?_
  intro w45 hk48 hB46 hS47
  refine WL.nil ?_
  refine fun a ha => hK44 _ _ ?_ a ha
  refine W.seq fun K49 hK49 => ?_
  refine W.region ?_
  refine wl_field (o := 3) (off' := 3) ff_36_3 rfl rfl rfl ?_
  refine wl_load_blk (i := 4) (vs := [(.int .i64 x0.2.2.2)]) (v := (.int .i64 x0.2.2.2)) tf_3 rfl rfl hS47 rfl rfl rfl ?_
  refine wl_field (o := 3) (off' := 3) ff_42_3 rfl rfl rfl ?_
  refine wl_store_blk (i := 2) (vs := [(.int .i64 x0.2.2.2)]) (cs' := [v20, v33, (.int .i64 x0.2.2.1), (.int .i64 x0.2.2.2)]) tf_3 rfl rfl rfl rfl hB46 hS47 rfl rfl ⟨rfl, trivial⟩ rfl ?_
  intro w50 hk53 hB51 hS52
  refine WL.nil ?_
  refine fun a ha => hK49 _ _ ?_ a ha
  refine W.seq fun K54 hK54 => ?_
  refine W.region ?_
  refine wl_load_blk (i := 2) (vs := [v20, v33, (.int .i64 x0.2.2.1), (.int .i64 x0.2.2.2)]) (v := (.agg #[v20, v33, (.int .i64 x0.2.2.1), (.int .i64 x0.2.2.2)])) tf_42 rfl rfl hS52 rfl rfl rfl ?_
  refine wl_store_blk (i := 3) (vs := [v20, v33, (.int .i64 x0.2.2.1), (.int .i64 x0.2.2.2)]) (cs' := [v20, v33, (.int .i64 x0.2.2.1), (.int .i64 x0.2.2.2)]) tf_42 rfl rfl rfl rfl hB51 hS52 rfl rfl ⟨(hS52.own_ro (i := 1) rfl).one, (hS52.own_ro (i := 0) rfl).one, rfl, rfl, trivial⟩ rfl ?_
  intro w55 hk58 hB56 hS57
  refine WL.nil ?_
  refine fun a ha => hK54 _ _ ?_ a ha
  refine W.ret ?_
  have hr := Option.some.inj hF
  subst hr
  exact rets (vs := [(.agg #[v20, v33, (.int .i64 x0.2.2.1), (.int .i64 x0.2.2.2)])]) hQ rfl ⟨rv_cell (i := 3) tf_42 rfl hS57 rfl rfl rfl, trivial⟩ ⟨v20, F21, v33, F34, rfl, hB56, hS57.sel [1, 0] rfl⟩
theorem C_laws_toShowS (w0 : World) (x0 : (List ((List (List (Int × Int))) × (List Int) × Int × Int))) (v0_0 : Value) (h0_0 : rdS ty_36 (· < w0.heap.size) w0 v0_0 x0) (r : (List ((List (List (Int × Int))) × (List Int) × Int × Int))) (hF : F_laws_toShowS x0 = some r) :
    Calls Try.prog 8 [v0_0].toArray w0 fun e w' => ∃ (q0 : Value) (G0 : List Nat), e = .returned q0 ∧ Below w0.heap.size w0 w' ∧ Sep w0.heap.size w' [R.own ty_42 G0 q0 r] := by
  refine calls_mk' Try.func8 rfl Try.ntmps8 rfl rfl fun Q hQ hP => ?_
  have hB : Below w0.heap.size w0 w0 := Below.refl _ _
  have hS : Sep w0.heap.size w0 [] := Sep.nil _ _
  unfold F_laws_toShowS at hF
  refine W.seq fun K1 hK1 => ?_
  refine W.region ?_
  refine wl_assign rfl rfl ?_
  refine WL.nil ?_
  refine fun a ha => hK1 _ _ ?_ a ha
  refine W.seq fun K2 hK2 => ?_
  refine W.region ?_
  refine wl_move rfl rfl ?_
  refine wl_lenr (e := ty_36) (l := x0) Try.underlying22 rfl rfl h0_0 ?_
  obtain ⟨u3, hu3, hF⟩ := bindE hF
  refine wl_make (e := ty_42) Try.underlying27 rfl rfl hu3 hB hS ?_
  intro v4 F5 w6 hb7 hB8 hS9
  refine wl_assign rfl rfl ?_
  refine WL.nil ?_
  refine fun a ha => hK2 _ _ ?_ a ha
  refine W.seq fun K10 hK10 => ?_
  refine W.seq fun K11 hK11 => ?_
  refine W.region ?_
  refine wl_assign rfl rfl ?_
  refine WL.nil ?_
  refine fun a ha => hK11 _ _ ?_ a ha
  refine W.block ?_
  refine W.loopk (fun m a w12 => ∃ (l15 : (List ((List (List (Int × Int))) × (List Int) × Int × Int))) (y18 : Int) (v16 : Value) (F17 : List Nat), St 23 [(0, v0_0), (3, v16), (4, (.int .i64 y18))] a ∧ Below w0.heap.size w0 w12 ∧ Sep w0.heap.size w12 [R.own ty_42 F17 v16 l15] ∧ F_laws_toShowS_L1 x0 m l15 y18 = some r) FU ?_ ?_
  ·
    exact fun a ha => ⟨u3, 0, v4, F5, ha.sub ⟨rfl, rfl, rfl, trivial⟩, hB8, (hS9.sel [0] rfl), hF⟩
  ·
    rintro m21 a w12 ⟨l15, y18, v16, F17, ha, hB13, hS14, hF⟩ KL20 hKL20
    refine W.at ?_ ha
    cases m21 with
    | zero => exact noneE hF
    | succ m21 =>
      obtain ⟨nx19, hnx19⟩ : ∃ k, k = F_laws_toShowS_L1 x0 m21 := ⟨_, rfl⟩
      rw [F_laws_toShowS_L1, ← hnx19] at hF
      refine W.seq fun K22 hK22 => ?_
      refine W.seq fun K23 hK23 => ?_
      refine W.region ?_
      refine wl_move rfl rfl ?_
      refine wl_move rfl rfl ?_
      refine wl_lenr (e := ty_36) (l := x0) Try.underlying22 rfl rfl h0_0 ?_
      refine wl_lss rfl rfl rfl ?_
      refine WL.nil ?_
      refine fun a ha => hK23 _ _ ?_ a ha
      refine W.cond rfl (fun h24 => ?_) (fun h24 => ?_)
      · replace hF := ifP h24 hF
        refine W.skip ?_
        refine fun a ha => hK22 _ _ ?_ a ha
        refine W.seq fun K25 hK25 => ?_
        refine W.block ?_
        refine W.region ?_
        refine wl_move rfl rfl ?_
        refine wl_move rfl rfl ?_
        refine wl_move rfl rfl ?_
        refine wl_move rfl rfl ?_
        obtain ⟨u26, hu26, hF⟩ := bindE hF
        refine wl_index (e := ty_36) Try.underlying22 rfl rfl rfl h0_0 hu26 ?_
        rintro p27 _ ⟨_, _, rfl, ⟨v29, rfl, hv30⟩, ⟨_, _, rfl, ⟨v31, rfl, hv32⟩, ⟨_, _, rfl, rfl, rfl⟩⟩⟩ hp28
        refine wl_load_p (vs := [v29, v31, (.int .i64 u26.2.2.1), (.int .i64 u26.2.2.2)]) (v := (.agg #[v29, v31, (.int .i64 u26.2.2.1), (.int .i64 u26.2.2.2)])) tf_36 rfl rfl (hp28.ro hB13) rfl rfl ?_
        obtain ⟨u33, hu33, hF⟩ := bindE hF
        refine wl_call rfl Try.call32 (C_laws_toShow w12 u26 v29 (hv30.ro hB13) v31 (hv32.ro hB13) _ hu33) rfl ?_
        rintro _ w38 ⟨v34, F35, v36, F37, rfl, hb39, hM42⟩
        refine ⟨_, rfl, ?_⟩
        have hB40 := hB13.trans (hb39.mono hB13.size)
        have hS41 := hS14.join hb39 hM42 hB13.size
        obtain ⟨u43, hu43, hF⟩ := bindE hF
        refine wl_indexo (e := ty_42) (i := 2) Try.underlying27 rfl rfl rfl hS41 rfl hu43 ?_
        rintro p44 _ ⟨_, _, rfl, ⟨v46, rfl, hv47⟩, ⟨_, _, rfl, ⟨v48, rfl, hv49⟩, ⟨_, _, rfl, rfl, rfl⟩⟩⟩ hp45 ho50
        have hq54 := hS41.sel [0, 1, 2] rfl
        have hq55 := hq54.merge (r := ⟨(F35 ++ F37), fun w => (ownS ty_82 F35 w v34 u33.1 ∧ ownS ty_3 F37 w v36 u33.2.1)⟩) rfl fun _ a b => ⟨a, b⟩
        have hq56 := hq55.head (r' := R.cel ty_42 (F35 ++ F37) [v34, v36, (.int .i64 u33.2.2.1), (.int .i64 u33.2.2.2)] u33) (by simp [R.cel, List.append_assoc]) fun _ hh => by obtain ⟨h0, h1⟩ := hh; exact ⟨[v34], [v36, (.int .i64 u33.2.2.1), (.int .i64 u33.2.2.2)], F35, F37, rfl, rfl, ⟨_, rfl, h0⟩, ⟨[v36], [(.int .i64 u33.2.2.1), (.int .i64 u33.2.2.2)], F37, [], rfl, (List.append_nil _).symm, ⟨_, rfl, h1⟩, ⟨[(.int .i64 u33.2.2.1)], [(.int .i64 u33.2.2.2)], [], [], rfl, rfl, ⟨rfl, rfl⟩, ⟨rfl, rfl⟩⟩⟩⟩
        refine wl_storen (vs := [v34, v36, (.int .i64 u33.2.2.1), (.int .i64 u33.2.2.2)]) (u' := u33) tf_42 rfl rfl rfl rfl ho50 hu43 hB40 (hq56.sel [1, 0] rfl) rfl ⟨(hS41.own_ro (i := 0) rfl).one, (hS41.own_ro (i := 1) rfl).one, rfl, rfl, trivial⟩ ?_
        intro w51 F57 hB52 hS53
        refine WL.nil ?_
        refine fun a ha => hK25 _ _ ?_ a ha
        refine W.region ?_
        refine wl_move rfl rfl ?_
        refine wl_add rfl rfl rfl ?_
        refine wl_assign rfl rfl ?_
        refine WL.nil ?_
        rw [hnx19] at hF
        exact fun a ha => hKL20 a _ m21 (Nat.lt_succ_self m21) ⟨(seti l15 y18 u33), (w64 (y18 + 1)), v16, F57, ha.sub ⟨rfl, rfl, rfl, trivial⟩, hB52, (hS53.sel [0] rfl), hF⟩
      · replace hF := ifN h24 hF
        refine W.exit ?_
        refine fun a ha => hK10 _ _ ?_ a ha
        refine W.seq fun K58 hK58 => ?_
        refine W.region ?_
        refine wl_move rfl rfl ?_
        refine wl_assign rfl rfl ?_
        refine WL.nil ?_
        refine fun a ha => hK58 _ _ ?_ a ha
        refine W.ret ?_
        have hr := Option.some.inj hF
        subst hr
        exact rets (vs := [v16]) hQ rfl ⟨rv_tmp rfl, trivial⟩ ⟨v16, F17, rfl, hB13, hS14.sel [0] rfl⟩
theorem C_spec_l1In (w0 : World) (x0 : Int) (x1 : Int) (x2 : Int) (r : Bool) (hF : F_spec_l1In x0 x1 x2 = some r) :
    Calls Try.prog 57 [(.int .i64 x0), (.int .i64 x1), (.int .i64 x2)].toArray w0 fun e w' => e = .returned (.bool r) ∧ Below w0.heap.size w0 w' := by
  refine calls_mk' Try.func57 rfl Try.ntmps57 rfl rfl fun Q hQ hP => ?_
  have hB : Below w0.heap.size w0 w0 := Below.refl _ _
  have hS : Sep w0.heap.size w0 [] := Sep.nil _ _
  unfold F_spec_l1In at hF
  refine W.seq fun K1 hK1 => ?_
  refine W.region ?_
  refine wl_assign rfl rfl ?_
  refine WL.nil ?_
  refine fun a ha => hK1 _ _ ?_ a ha
  refine W.seq fun K2 hK2 => ?_
  obtain ⟨k7, hk7, hF⟩ := jE1 hF
  have hJ8 : ∀ (y6 : Bool) (w3 : World) (_ : k7 y6 = some r) (_ : Below w0.heap.size w0 w3) (_ : Sep w0.heap.size w3 []), ∀ a, St 15 [(6, (.bool y6))] a → K2 a w3 := by
    intro y6 w3 hF hB4 hS5
    subst hk7
    refine fun a ha => hK2 _ _ ?_ a ha
    refine W.ret ?_
    have hr := Option.some.inj hF
    subst hr
    exact rets (vs := [(.bool y6)]) hQ rfl ⟨rv_tmp rfl, trivial⟩ ⟨rfl, hB4⟩
  refine W.region ?_
  refine wl_move rfl rfl ?_
  refine wl_move rfl rfl ?_
  refine wl_geq rfl rfl rfl ?_
  refine wl_move rfl rfl ?_
  rcases bE (decide (x1 ≤ x0)) with h9 | h9
  · replace hF := ifP h9 hF
    refine wl_on rfl rfl h9 ?_
    refine wl_move rfl rfl ?_
    refine wl_on rfl rfl h9 ?_
    refine wl_move rfl rfl ?_
    refine wl_on rfl rfl h9 ?_
    refine wl_leq rfl rfl rfl ?_
    refine wl_pick_t rfl rfl h9 rfl ?_
    refine wl_assign rfl rfl ?_
    refine WL.nil ?_
    exact fun a ha => hJ8 ((decide (x0 ≤ x2))) _ hF hB (hS.sel [] rfl) a (ha.sub ⟨rfl, trivial⟩)
  · replace hF := ifN h9 hF
    refine wl_off rfl rfl rfl h9 ?_
    refine wl_off rfl rfl rfl h9 ?_
    refine wl_off rfl rfl rfl h9 ?_
    refine wl_pick_f rfl rfl h9 rfl ?_
    refine wl_assign rfl rfl ?_
    refine WL.nil ?_
    exact fun a ha => hJ8 (false) _ hF hB (hS.sel [] rfl) a (ha.sub ⟨rfl, trivial⟩)
theorem C_spec_stGood (w0 : World) (x0 : (Int × Int)) (r : Bool) (hF : F_spec_stGood x0 = some r) :
    Calls Try.prog 91 [(.agg #[(.int .i64 x0.1), (.int .i64 x0.2)])].toArray w0 fun e w' => e = .returned (.bool r) ∧ Below w0.heap.size w0 w' := by
  refine calls_mk' Try.func91 rfl Try.ntmps91 rfl rfl fun Q hQ hP => ?_
  have hB : Below w0.heap.size w0 w0 := Below.refl _ _
  have hS : Sep w0.heap.size w0 [] := Sep.nil _ _
  unfold F_spec_stGood at hF
  refine W.seq fun K1 hK1 => ?_
  refine W.region ?_
  refine wl_box (cs := [(.int .i64 x0.1), (.int .i64 x0.2)]) rfl rfl rfl hB hS ?_
  intro b2 w3 hb4 hB5 hS6
  refine wl_assign rfl rfl ?_
  refine WL.nil ?_
  refine fun a ha => hK1 _ _ ?_ a ha
  refine W.seq fun K7 hK7 => ?_
  obtain ⟨k12, hk12, hF⟩ := jE1 hF
  have hJ13 : ∀ (y11 : Bool) (w8 : World) (_ : k12 y11 = some r) (_ : Below w0.heap.size w0 w8) (_ : Sep w0.heap.size w8 []), ∀ a, St 11 [(2, (.bool y11))] a → K7 a w8 := by
    intro y11 w8 hF hB9 hS10
    subst hk12
    refine fun a ha => hK7 _ _ ?_ a ha
    refine W.ret ?_
    have hr := Option.some.inj hF
    subst hr
    exact rets (vs := [(.bool y11)]) hQ rfl ⟨rv_tmp rfl, trivial⟩ ⟨rfl, hB9⟩
  refine W.region ?_
  refine wl_field (o := 0) (off' := 0) ff_106_0 rfl rfl rfl ?_
  refine wl_load_blk (i := 0) (vs := [(.int .i64 x0.1)]) (v := (.int .i64 x0.1)) tf_3 rfl rfl hS6 rfl rfl rfl ?_
  obtain ⟨u14, hu14, hF⟩ := bindE hF
  refine wl_call rfl Try.call57 (C_spec_l1In w3 x0.1 0 1280 _ hu14) rfl ?_
  rintro _ w15 ⟨rfl, hb16⟩
  refine ⟨_, rfl, ?_⟩
  have hB17 := hB5.trans (hb16.mono hB5.size)
  have hS18 := hS6.below hb16
  refine wl_move rfl rfl ?_
  rcases bE u14 with h20 | h20
  · replace hF := ifP h20 hF
    refine wl_on rfl rfl h20 ?_
    refine wl_field (o := 1) (off' := 1) ff_106_1 rfl rfl rfl ?_
    refine wl_on rfl rfl h20 ?_
    refine wl_load_blk (i := 0) (vs := [(.int .i64 x0.2)]) (v := (.int .i64 x0.2)) tf_3 rfl rfl hS18 rfl rfl rfl ?_
    refine wl_on rfl rfl h20 ?_
    obtain ⟨u21, hu21, hF⟩ := bindE hF
    refine wl_call rfl Try.call57 (C_spec_l1In w15 x0.2 0 672 _ hu21) rfl ?_
    rintro _ w22 ⟨rfl, hb23⟩
    refine ⟨_, rfl, ?_⟩
    have hB24 := hB17.trans (hb23.mono hB17.size)
    have hS25 := hS18.below hb23
    refine wl_pick_t rfl rfl h20 rfl ?_
    refine wl_assign rfl rfl ?_
    refine WL.nil ?_
    exact fun a ha => hJ13 (u21) _ hF hB24 (hS25.sel [] rfl) a (ha.sub ⟨rfl, trivial⟩)
  · replace hF := ifN h20 hF
    refine wl_off rfl rfl rfl h20 ?_
    refine wl_off rfl rfl rfl h20 ?_
    refine wl_off rfl rfl rfl h20 ?_
    refine wl_pick_f rfl rfl h20 rfl ?_
    refine wl_assign rfl rfl ?_
    refine WL.nil ?_
    exact fun a ha => hJ13 (false) _ hF hB17 (hS18.sel [] rfl) a (ha.sub ⟨rfl, trivial⟩)
theorem C_spec_chGood (w0 : World) (x0 : (List (Int × Int))) (v0_0 : Value) (h0_0 : rdS ty_106 (· < w0.heap.size) w0 v0_0 x0) (r : Bool) (hF : F_spec_chGood x0 = some r) :
    Calls Try.prog 56 [v0_0].toArray w0 fun e w' => e = .returned (.bool r) ∧ Below w0.heap.size w0 w' := by
  refine calls_mk' Try.func56 rfl Try.ntmps56 rfl rfl fun Q hQ hP => ?_
  have hB : Below w0.heap.size w0 w0 := Below.refl _ _
  have hS : Sep w0.heap.size w0 [] := Sep.nil _ _
  unfold F_spec_chGood at hF
  refine W.seq fun K1 hK1 => ?_
  refine W.region ?_
  refine wl_assign rfl rfl ?_
  refine WL.nil ?_
  refine fun a ha => hK1 _ _ ?_ a ha
  refine W.seq fun K2 hK2 => ?_
  refine W.seq fun K3 hK3 => ?_
  refine W.region ?_
  refine wl_move rfl rfl ?_
  refine wl_lenr (e := ty_106) (l := x0) Try.underlying82 rfl rfl h0_0 ?_
  refine wl_move rfl rfl ?_
  refine WL.nil ?_
  refine fun a ha => hK3 _ _ ?_ a ha
  refine W.block ?_
  refine W.loopk (fun m a w4 => ∃ (y7 : Int), St 33 [(0, v0_0), (7, v0_0), (8, (.int .i64 (List.length x0 : Int))), (9, (.int .i64 y7))] a ∧ Below w0.heap.size w0 w4 ∧ Sep w0.heap.size w4 [] ∧ F_spec_chGood_L1 x0 m y7 = some r) FU ?_ ?_
  ·
    exact fun a ha => ⟨0, ha.sub ⟨rfl, rfl, rfl, rfl, trivial⟩, hB, (hS.sel [] rfl), hF⟩
  ·
    rintro m10 a w4 ⟨y7, ha, hB5, hS6, hF⟩ KL9 hKL9
    refine W.at ?_ ha
    cases m10 with
    | zero => exact noneE hF
    | succ m10 =>
      obtain ⟨nx8, hnx8⟩ : ∃ k, k = F_spec_chGood_L1 x0 m10 := ⟨_, rfl⟩
      rw [F_spec_chGood_L1, ← hnx8] at hF
      refine W.seq fun K11 hK11 => ?_
      refine W.region ?_
      refine wl_lss rfl rfl rfl ?_
      refine WL.nil ?_
      refine fun a ha => hK11 _ _ ?_ a ha
      refine W.seq fun K12 hK12 => ?_
      refine W.cond rfl (fun h13 => ?_) (fun h13 => ?_)
      · replace hF := ifP h13 hF
        refine W.skip ?_
        refine fun a ha => hK12 _ _ ?_ a ha
        refine W.seq fun K14 hK14 => ?_
        refine W.block ?_
        refine W.seq fun K15 hK15 => ?_
        refine W.region ?_
        refine wl_move rfl rfl ?_
        obtain ⟨u16, hu16, hF⟩ := bindE hF
        refine wl_index (e := ty_106) Try.underlying82 rfl rfl rfl h0_0 hu16 ?_
        rintro p17 _ rfl hp18
        refine wl_load_p (vs := [(.int .i64 u16.1), (.int .i64 u16.2)]) (v := (.agg #[(.int .i64 u16.1), (.int .i64 u16.2)])) tf_106 rfl rfl (hp18.ro hB5) rfl rfl ?_
        refine wl_alloc (cs := [(.int .i64 0), (.int .i64 0)]) tf_106 rfl rfl hB5 hS6 ?_
        intro b19 w20 hb21 hB22 hS23
        refine wl_assign rfl rfl ?_
        refine wl_store_blk (i := 0) (vs := [(.int .i64 u16.1), (.int .i64 u16.2)]) (cs' := [(.int .i64 u16.1), (.int .i64 u16.2)]) tf_106 rfl rfl rfl rfl hB22 hS23 rfl rfl ⟨rfl, rfl, trivial⟩ rfl ?_
        intro w24 hk27 hB25 hS26
        refine WL.nil ?_
        refine fun a ha => hK15 _ _ ?_ a ha
        refine W.seq fun K28 hK28 => ?_
        refine W.seq fun K29 hK29 => ?_
        refine W.region ?_
        refine wl_load_blk (i := 0) (vs := [(.int .i64 u16.1), (.int .i64 u16.2)]) (v := (.agg #[(.int .i64 u16.1), (.int .i64 u16.2)])) tf_106 rfl rfl hS26 rfl rfl rfl ?_
        obtain ⟨u30, hu30, hF⟩ := bindE hF
        refine wl_call rfl Try.call91 (C_spec_stGood w24 u16 _ hu30) rfl ?_
        rintro _ w31 ⟨rfl, hb32⟩
        refine ⟨_, rfl, ?_⟩
        have hB33 := hB25.trans (hb32.mono hB25.size)
        have hS34 := hS26.below hb32
        refine wl_not rfl rfl ?_
        refine WL.nil ?_
        refine fun a ha => hK29 _ _ ?_ a ha
        refine W.cond rfl (fun h36 => ?_) (fun h36 => ?_)
        · replace hF := ifP h36 hF
          refine W.seq fun K37 hK37 => ?_
          refine W.region ?_
          refine wl_assign rfl rfl ?_
          refine WL.nil ?_
          refine fun a ha => hK37 _ _ ?_ a ha
          refine W.ret ?_
          have hr := Option.some.inj hF
          subst hr
          exact rets (vs := [(.bool false)]) hQ rfl ⟨rv_tmp rfl, trivial⟩ ⟨rfl, hB33⟩
        · replace hF := ifN h36 hF
          refine W.skip ?_
          refine fun a ha => hK28 _ _ ?_ a ha
          refine W.seq fun K38 hK38 => ?_
          refine W.region ?_
          refine wl_move rfl rfl ?_
          refine wl_move rfl rfl ?_
          obtain ⟨u39, hu39, hF⟩ := bindE hF
          refine wl_slice (e := ty_106) Try.underlying82 rfl rfl h0_0 hu39 (.inl ⟨rfl, rfl⟩) (.inr ⟨_, _, rfl, rfl⟩) ?_
          intro v40 hv41
          refine wl_lenr (e := ty_106) (l := u39) Try.underlying82 rfl rfl hv41 ?_
          refine wl_move rfl rfl ?_
          refine WL.nil ?_
          refine fun a ha => hK38 _ _ ?_ a ha
          refine W.block ?_
          refine W.loopk (fun m a w42 => ∃ (y45 : Int), St 33 [(0, v0_0), (4, (.pointer (some ⟨b19, 0, none⟩))), (7, v0_0), (8, (.int .i64 (List.length x0 : Int))), (9, (.int .i64 y7)), (19, v40), (20, (.int .i64 (List.length u39 : Int))), (21, (.int .i64 y45))] a ∧ Below w0.heap.size w0 w42 ∧ Sep w0.heap.size w42 [R.blk b19 106 [(.int .i64 u16.1), (.int .i64 u16.2)]] ∧ F_spec_chGood_L2 u39 u16 nx8 y7 m y45 = some r) FU ?_ ?_
          ·
            exact fun a ha => ⟨0, ha.sub ⟨rfl, rfl, rfl, rfl, rfl, rfl, rfl, rfl, trivial⟩, hB33, (hS34.sel [0] rfl), hF⟩
          ·
            rintro m48 a w42 ⟨y45, ha, hB43, hS44, hF⟩ KL47 hKL47
            refine W.at ?_ ha
            cases m48 with
            | zero => exact noneE hF
            | succ m48 =>
              obtain ⟨nx46, hnx46⟩ : ∃ k, k = F_spec_chGood_L2 u39 u16 nx8 y7 m48 := ⟨_, rfl⟩
              rw [F_spec_chGood_L2, ← hnx46] at hF
              refine W.seq fun K49 hK49 => ?_
              refine W.region ?_
              refine wl_lss rfl rfl rfl ?_
              refine WL.nil ?_
              refine fun a ha => hK49 _ _ ?_ a ha
              refine W.seq fun K50 hK50 => ?_
              refine W.cond rfl (fun h51 => ?_) (fun h51 => ?_)
              · replace hF := ifP h51 hF
                refine W.skip ?_
                refine fun a ha => hK50 _ _ ?_ a ha
                refine W.seq fun K52 hK52 => ?_
                refine W.block ?_
                refine W.seq fun K53 hK53 => ?_
                refine W.region ?_
                obtain ⟨u54, hu54, hF⟩ := bindE hF
                refine wl_index (e := ty_106) Try.underlying82 rfl rfl rfl hv41 hu54 ?_
                rintro p55 _ rfl hp56
                refine wl_load_p (vs := [(.int .i64 u54.1), (.int .i64 u54.2)]) (v := (.agg #[(.int .i64 u54.1), (.int .i64 u54.2)])) tf_106 rfl rfl (hp56.ro hB43) rfl rfl ?_
                refine wl_alloc (cs := [(.int .i64 0), (.int .i64 0)]) tf_106 rfl rfl hB43 hS44 ?_
                intro b57 w58 hb59 hB60 hS61
                refine wl_store_blk (i := 0) (vs := [(.int .i64 u54.1), (.int .i64 u54.2)]) (cs' := [(.int .i64 u54.1), (.int .i64 u54.2)]) tf_106 rfl rfl rfl rfl hB60 hS61 rfl rfl ⟨rfl, rfl, trivial⟩ rfl ?_
                intro w62 hk65 hB63 hS64
                refine WL.nil ?_
                refine fun a ha => hK53 _ _ ?_ a ha
                refine W.seq fun K66 hK66 => ?_
                refine W.region ?_
                refine wl_load_blk (i := 1) (vs := [(.int .i64 u16.1), (.int .i64 u16.2)]) (v := (.agg #[(.int .i64 u16.1), (.int .i64 u16.2)])) tf_106 rfl rfl hS64 rfl rfl rfl ?_
                refine wl_load_blk (i := 0) (vs := [(.int .i64 u54.1), (.int .i64 u54.2)]) (v := (.agg #[(.int .i64 u54.1), (.int .i64 u54.2)])) tf_106 rfl rfl hS64 rfl rfl rfl ?_
                refine wl_eqs Try.eqGuardType106 (eq_106 u16 u54) rfl rfl rfl ?_
                refine WL.nil ?_
                refine fun a ha => hK66 _ _ ?_ a ha
                refine W.cond rfl (fun h67 => ?_) (fun h67 => ?_)
                · replace hF := ifP h67 hF
                  refine W.seq fun K68 hK68 => ?_
                  refine W.region ?_
                  refine wl_assign rfl rfl ?_
                  refine WL.nil ?_
                  refine fun a ha => hK68 _ _ ?_ a ha
                  refine W.ret ?_
                  have hr := Option.some.inj hF
                  subst hr
                  exact rets (vs := [(.bool false)]) hQ rfl ⟨rv_tmp rfl, trivial⟩ ⟨rfl, hB63⟩
                · replace hF := ifN h67 hF
                  refine W.skip ?_
                  refine fun a ha => hK52 _ _ ?_ a ha
                  refine W.region ?_
                  refine wl_add rfl rfl rfl ?_
                  refine wl_move rfl rfl ?_
                  refine WL.nil ?_
                  rw [hnx46] at hF
                  exact fun a ha => hKL47 a _ m48 (Nat.lt_succ_self m48) ⟨(w64 (y45 + 1)), ha.sub ⟨rfl, rfl, rfl, rfl, rfl, rfl, rfl, rfl, trivial⟩, hB63, (hS64.sel [1] rfl), hF⟩
              · replace hF := ifN h51 hF
                refine W.exit ?_
                refine fun a ha => hK14 _ _ ?_ a ha
                refine W.region ?_
                refine wl_add rfl rfl rfl ?_
                refine wl_move rfl rfl ?_
                refine WL.nil ?_
                rw [hnx8] at hF
                exact fun a ha => hKL9 a _ m10 (Nat.lt_succ_self m10) ⟨(w64 (y7 + 1)), ha.sub ⟨rfl, rfl, rfl, rfl, trivial⟩, hB43, (hS44.sel [] rfl), hF⟩
      · replace hF := ifN h13 hF
        refine W.exit ?_
        refine fun a ha => hK2 _ _ ?_ a ha
        refine W.seq fun K69 hK69 => ?_
        refine W.region ?_
        refine wl_move rfl rfl ?_
        refine wl_lenr (e := ty_106) (l := x0) Try.underlying82 rfl rfl h0_0 ?_
        obtain ⟨u70, hu70, hF⟩ := bindE hF
        refine wl_call rfl Try.call57 (C_spec_l1In w4 (List.length x0 : Int) 1 12 _ hu70) rfl ?_
        rintro _ w71 ⟨rfl, hb72⟩
        refine ⟨_, rfl, ?_⟩
        have hB73 := hB5.trans (hb72.mono hB5.size)
        have hS74 := hS6.below hb72
        refine wl_assign rfl rfl ?_
        refine WL.nil ?_
        refine fun a ha => hK69 _ _ ?_ a ha
        refine W.ret ?_
        have hr := Option.some.inj hF
        subst hr
        exact rets (vs := [(.bool u70)]) hQ rfl ⟨rv_tmp rfl, trivial⟩ ⟨rfl, hB73⟩
theorem C_spec_l1All (w0 : World) (x0 : (List Int)) (v0_0 : Value) (h0_0 : rdS ty_3 (· < w0.heap.size) w0 v0_0 x0) (x1 : Int) (x2 : Int) (r : Bool) (hF : F_spec_l1All x0 x1 x2 = some r) :
    Calls Try.prog 58 [v0_0, (.int .i64 x1), (.int .i64 x2)].toArray w0 fun e w' => e = .returned (.bool r) ∧ Below w0.heap.size w0 w' := by
  refine calls_mk' Try.func58 rfl Try.ntmps58 rfl rfl fun Q hQ hP => ?_
  have hB : Below w0.heap.size w0 w0 := Below.refl _ _
  have hS : Sep w0.heap.size w0 [] := Sep.nil _ _
  unfold F_spec_l1All at hF
  refine W.seq fun K1 hK1 => ?_
  refine W.region ?_
  refine wl_assign rfl rfl ?_
  refine WL.nil ?_
  refine fun a ha => hK1 _ _ ?_ a ha
  refine W.seq fun K2 hK2 => ?_
  refine W.seq fun K3 hK3 => ?_
  refine W.region ?_
  refine wl_move rfl rfl ?_
  refine wl_lenr (e := ty_3) (l := x0) Try.underlying24 rfl rfl h0_0 ?_
  refine wl_move rfl rfl ?_
  refine WL.nil ?_
  refine fun a ha => hK3 _ _ ?_ a ha
  refine W.block ?_
  refine W.loopk (fun m a w4 => ∃ (y7 : Int), St 21 [(1, (.int .i64 x1)), (2, (.int .i64 x2)), (9, v0_0), (10, (.int .i64 (List.length x0 : Int))), (11, (.int .i64 y7))] a ∧ Below w0.heap.size w0 w4 ∧ Sep w0.heap.size w4 [] ∧ F_spec_l1All_L1 x0 x1 x2 m y7 = some r) FU ?_ ?_
  ·
    exact fun a ha => ⟨0, ha.sub ⟨rfl, rfl, rfl, rfl, rfl, trivial⟩, hB, (hS.sel [] rfl), hF⟩
  ·
    rintro m10 a w4 ⟨y7, ha, hB5, hS6, hF⟩ KL9 hKL9
    refine W.at ?_ ha
    cases m10 with
    | zero => exact noneE hF
    | succ m10 =>
      obtain ⟨nx8, hnx8⟩ : ∃ k, k = F_spec_l1All_L1 x0 x1 x2 m10 := ⟨_, rfl⟩
      rw [F_spec_l1All_L1, ← hnx8] at hF
      refine W.seq fun K11 hK11 => ?_
      refine W.region ?_
      refine wl_lss rfl rfl rfl ?_
      refine WL.nil ?_
      refine fun a ha => hK11 _ _ ?_ a ha
      refine W.seq fun K12 hK12 => ?_
      refine W.cond rfl (fun h13 => ?_) (fun h13 => ?_)
      · replace hF := ifP h13 hF
        refine W.skip ?_
        refine fun a ha => hK12 _ _ ?_ a ha
        refine W.seq fun K14 hK14 => ?_
        refine W.block ?_
        refine W.seq fun K15 hK15 => ?_
        refine W.region ?_
        obtain ⟨u16, hu16, hF⟩ := bindE hF
        refine wl_index (e := ty_3) Try.underlying24 rfl rfl rfl h0_0 hu16 ?_
        rintro p17 _ rfl hp18
        refine wl_load_p (vs := [(.int .i64 u16)]) (v := (.int .i64 u16)) tf_3 rfl rfl (hp18.ro hB5) rfl rfl ?_
        refine wl_assign rfl rfl ?_
        refine WL.nil ?_
        refine fun a ha => hK15 _ _ ?_ a ha
        refine W.seq fun K19 hK19 => ?_
        refine W.region ?_
        refine wl_move rfl rfl ?_
        refine wl_move rfl rfl ?_
        refine wl_move rfl rfl ?_
        obtain ⟨u20, hu20, hF⟩ := bindE hF
        refine wl_call rfl Try.call57 (C_spec_l1In w4 u16 x1 x2 _ hu20) rfl ?_
        rintro _ w21 ⟨rfl, hb22⟩
        refine ⟨_, rfl, ?_⟩
        have hB23 := hB5.trans (hb22.mono hB5.size)
        have hS24 := hS6.below hb22
        refine wl_not rfl rfl ?_
        refine WL.nil ?_
        refine fun a ha => hK19 _ _ ?_ a ha
        refine W.cond rfl (fun h26 => ?_) (fun h26 => ?_)
        · replace hF := ifP h26 hF
          refine W.seq fun K27 hK27 => ?_
          refine W.region ?_
          refine wl_assign rfl rfl ?_
          refine WL.nil ?_
          refine fun a ha => hK27 _ _ ?_ a ha
          refine W.ret ?_
          have hr := Option.some.inj hF
          subst hr
          exact rets (vs := [(.bool false)]) hQ rfl ⟨rv_tmp rfl, trivial⟩ ⟨rfl, hB23⟩
        · replace hF := ifN h26 hF
          refine W.skip ?_
          refine fun a ha => hK14 _ _ ?_ a ha
          refine W.region ?_
          refine wl_add rfl rfl rfl ?_
          refine wl_move rfl rfl ?_
          refine WL.nil ?_
          rw [hnx8] at hF
          exact fun a ha => hKL9 a _ m10 (Nat.lt_succ_self m10) ⟨(w64 (y7 + 1)), ha.sub ⟨rfl, rfl, rfl, rfl, rfl, trivial⟩, hB23, (hS24.sel [] rfl), hF⟩
      · replace hF := ifN h13 hF
        refine W.exit ?_
        refine fun a ha => hK2 _ _ ?_ a ha
        refine W.seq fun K28 hK28 => ?_
        refine W.region ?_
        refine wl_assign rfl rfl ?_
        refine WL.nil ?_
        refine fun a ha => hK28 _ _ ?_ a ha
        refine W.ret ?_
        have hr := Option.some.inj hF
        subst hr
        exact rets (vs := [(.bool true)]) hQ rfl ⟨rv_tmp rfl, trivial⟩ ⟨rfl, hB5⟩
theorem C_spec_apDistance (w0 : World) (x0 : Int) (r : Bool) (hF : F_spec_apDistance x0 = some r) :
    Calls Try.prog 59 [(.int .i64 x0)].toArray w0 fun e w' => e = .returned (.bool r) ∧ Below w0.heap.size w0 w' := by
  refine calls_mk' Try.func59 rfl Try.ntmps59 rfl rfl fun Q hQ hP => ?_
  have hB : Below w0.heap.size w0 w0 := Below.refl _ _
  have hS : Sep w0.heap.size w0 [] := Sep.nil _ _
  unfold F_spec_apDistance at hF
  refine W.seq fun K1 hK1 => ?_
  refine W.region ?_
  refine wl_assign rfl rfl ?_
  refine WL.nil ?_
  refine fun a ha => hK1 _ _ ?_ a ha
  refine W.seq fun K2 hK2 => ?_
  refine W.region ?_
  refine wl_move rfl rfl ?_
  obtain ⟨u3, hu3, hF⟩ := bindE hF
  refine wl_call rfl Try.call57 (C_spec_l1In w0 x0 0 80 _ hu3) rfl ?_
  rintro _ w4 ⟨rfl, hb5⟩
  refine ⟨_, rfl, ?_⟩
  have hB6 := hB.trans (hb5.mono hB.size)
  have hS7 := hS.below hb5
  refine wl_assign rfl rfl ?_
  refine WL.nil ?_
  refine fun a ha => hK2 _ _ ?_ a ha
  refine W.ret ?_
  have hr := Option.some.inj hF
  subst hr
  exact rets (vs := [(.bool u3)]) hQ rfl ⟨rv_tmp rfl, trivial⟩ ⟨rfl, hB6⟩
theorem C_spec_mvStep (w0 : World) (x0 : Int) (r : Bool) (hF : F_spec_mvStep x0 = some r) :
    Calls Try.prog 60 [(.int .i64 x0)].toArray w0 fun e w' => e = .returned (.bool r) ∧ Below w0.heap.size w0 w' := by
  refine calls_mk' Try.func60 rfl Try.ntmps60 rfl rfl fun Q hQ hP => ?_
  have hB : Below w0.heap.size w0 w0 := Below.refl _ _
  have hS : Sep w0.heap.size w0 [] := Sep.nil _ _
  unfold F_spec_mvStep at hF
  refine W.seq fun K1 hK1 => ?_
  refine W.region ?_
  refine wl_assign rfl rfl ?_
  refine WL.nil ?_
  refine fun a ha => hK1 _ _ ?_ a ha
  refine W.seq fun K2 hK2 => ?_
  refine W.region ?_
  refine wl_move rfl rfl ?_
  obtain ⟨u3, hu3, hF⟩ := bindE hF
  refine wl_call rfl Try.call57 (C_spec_l1In w0 x0 1 24 _ hu3) rfl ?_
  rintro _ w4 ⟨rfl, hb5⟩
  refine ⟨_, rfl, ?_⟩
  have hB6 := hB.trans (hb5.mono hB.size)
  have hS7 := hS.below hb5
  refine wl_assign rfl rfl ?_
  refine WL.nil ?_
  refine fun a ha => hK2 _ _ ?_ a ha
  refine W.ret ?_
  have hr := Option.some.inj hF
  subst hr
  exact rets (vs := [(.bool u3)]) hQ rfl ⟨rv_tmp rfl, trivial⟩ ⟨rfl, hB6⟩
theorem C_spec_swGood (w0 : World) (x0 : ((List (List (Int × Int))) × (List Int) × Int × Int)) (v0_0 : Value) (h0_0 : rdS ty_82 (· < w0.heap.size) w0 v0_0 x0.1) (v0_1 : Value) (h0_1 : rdS ty_3 (· < w0.heap.size) w0 v0_1 x0.2.1) (r : Bool) (hF : F_spec_swGood x0 = some r) :
    Calls Try.prog 29 [(.agg #[v0_0, v0_1, (.int .i64 x0.2.2.1), (.int .i64 x0.2.2.2)])].toArray w0 fun e w' => e = .returned (.bool r) ∧ Below w0.heap.size w0 w' := by
  refine calls_mk' Try.func29 rfl Try.ntmps29 rfl rfl fun Q hQ hP => ?_
  have hB : Below w0.heap.size w0 w0 := Below.refl _ _
  have hS : Sep w0.heap.size w0 [] := Sep.nil _ _
  unfold F_spec_swGood at hF
  refine W.seq fun K1 hK1 => ?_
  refine W.region ?_
  refine wl_box (cs := [v0_0, v0_1, (.int .i64 x0.2.2.1), (.int .i64 x0.2.2.2)]) rfl rfl rfl hB hS ?_
  intro b2 w3 hb4 hB5 hS6
  refine wl_assign rfl rfl ?_
  refine WL.nil ?_
  refine fun a ha => hK1 _ _ ?_ a ha
  refine W.seq fun K7 hK7 => ?_
  refine W.seq fun K8 hK8 => ?_
  refine W.region ?_
  refine wl_field (o := 0) (off' := 0) ff_42_0 rfl rfl rfl ?_
  refine wl_load_blk (i := 0) (vs := [v0_0]) (v := v0_0) tf_40 rfl rfl hS6 rfl rfl rfl ?_
  refine wl_lenr (e := ty_82) (l := x0.1) Try.underlying40 rfl rfl h0_0 ?_
  refine wl_move rfl rfl ?_
  refine WL.nil ?_
  refine fun a ha => hK8 _ _ ?_ a ha
  refine W.block ?_
  refine W.loopk (fun m a w9 => ∃ (y12 : Int), St 55 [(1, (.pointer (some ⟨b2, 0, none⟩))), (6, v0_0), (7, (.int .i64 (List.length x0.1 : Int))), (8, (.int .i64 y12))] a ∧ Below w0.heap.size w0 w9 ∧ Sep w0.heap.size w9 [R.blk b2 42 [v0_0, v0_1, (.int .i64 x0.2.2.1), (.int .i64 x0.2.2.2)]] ∧ F_spec_swGood_L1 x0 m y12 = some r) FU ?_ ?_
  ·
    exact fun a ha => ⟨0, ha.sub ⟨rfl, rfl, rfl, rfl, trivial⟩, hB5, (hS6.sel [0] rfl), hF⟩
  ·
    rintro m15 a w9 ⟨y12, ha, hB10, hS11, hF⟩ KL14 hKL14
    refine W.at ?_ ha
    cases m15 with
    | zero => exact noneE hF
    | succ m15 =>
      obtain ⟨nx13, hnx13⟩ : ∃ k, k = F_spec_swGood_L1 x0 m15 := ⟨_, rfl⟩
      rw [F_spec_swGood_L1, ← hnx13] at hF
      refine W.seq fun K16 hK16 => ?_
      refine W.region ?_
      refine wl_lss rfl rfl rfl ?_
      refine WL.nil ?_
      refine fun a ha => hK16 _ _ ?_ a ha
      refine W.seq fun K17 hK17 => ?_
      refine W.cond rfl (fun h18 => ?_) (fun h18 => ?_)
      · replace hF := ifP h18 hF
        refine W.skip ?_
        refine fun a ha => hK17 _ _ ?_ a ha
        refine W.seq fun K19 hK19 => ?_
        refine W.block ?_
        refine W.seq fun K20 hK20 => ?_
        refine W.region ?_
        obtain ⟨u21, hu21, hF⟩ := bindE hF
        refine wl_index (e := ty_82) Try.underlying40 rfl rfl rfl h0_0 hu21 ?_
        rintro p22 _ ⟨v24, rfl, hv25⟩ hp23
        refine wl_load_p (vs := [v24]) (v := v24) tf_82 rfl rfl (hp23.ro hB10) rfl rfl ?_
        refine wl_assign rfl rfl ?_
        refine WL.nil ?_
        refine fun a ha => hK20 _ _ ?_ a ha
        refine W.seq fun K26 hK26 => ?_
        obtain ⟨k31, hk31, hF⟩ := jE1 hF
        have hJ32 : ∀ (y30 : Bool) (w27 : World) (_ : k31 y30 = some r) (_ : Below w0.heap.size w0 w27) (_ : Sep w0.heap.size w27 [R.blk b2 42 [v0_0, v0_1, (.int .i64 x0.2.2.1), (.int .i64 x0.2.2.2)]]), ∀ a, St 55 [(1, (.pointer (some ⟨b2, 0, none⟩))), (6, v0_0), (7, (.int .i64 (List.length x0.1 : Int))), (8, (.int .i64 y12)), (24, (.bool y30))] a → K26 a w27 := by
          intro y30 w27 hF hB28 hS29
          subst hk31
          refine fun a ha => hK26 _ _ ?_ a ha
          refine W.cond rfl (fun h33 => ?_) (fun h33 => ?_)
          · replace hF := ifP h33 hF
            refine W.seq fun K34 hK34 => ?_
            refine W.region ?_
            refine wl_assign rfl rfl ?_
            refine WL.nil ?_
            refine fun a ha => hK34 _ _ ?_ a ha
            refine W.ret ?_
            have hr := Option.some.inj hF
            subst hr
            exact rets (vs := [(.bool false)]) hQ rfl ⟨rv_tmp rfl, trivial⟩ ⟨rfl, hB28⟩
          · replace hF := ifN h33 hF
            refine W.skip ?_
            refine fun a ha => hK19 _ _ ?_ a ha
            refine W.region ?_
            refine wl_add rfl rfl rfl ?_
            refine wl_move rfl rfl ?_
            refine WL.nil ?_
            rw [hnx13] at hF
            exact fun a ha => hKL14 a _ m15 (Nat.lt_succ_self m15) ⟨(w64 (y12 + 1)), ha.sub ⟨rfl, rfl, rfl, rfl, trivial⟩, hB28, (hS29.sel [0] rfl), hF⟩
        refine W.region ?_
        refine wl_move rfl rfl ?_
        obtain ⟨u35, hu35, hF⟩ := bindE hF
        refine wl_call rfl Try.call56 (C_spec_chGood w9 u21 v24 (hv25.ro hB10) _ hu35) rfl ?_
        rintro _ w36 ⟨rfl, hb37⟩
        refine ⟨_, rfl, ?_⟩
        have hB38 := hB10.trans (hb37.mono hB10.size)
        have hS39 := hS11.below hb37
        refine wl_not rfl rfl ?_
        refine wl_move rfl rfl ?_
        rcases bE (!u35) with h41 | h41
        · replace hF := ifP h41 hF
          refine wl_off rfl rfl rfl h41 ?_
          refine wl_off rfl rfl rfl h41 ?_
          refine wl_off rfl rfl rfl h41 ?_
          refine wl_off rfl rfl rfl h41 ?_
          refine wl_off rfl rfl rfl h41 ?_
          refine wl_off rfl rfl rfl h41 ?_
          refine wl_off rfl rfl rfl h41 ?_
          refine wl_off rfl rfl rfl h41 ?_
          refine wl_pick_t rfl rfl h41 rfl ?_
          refine WL.nil ?_
          exact fun a ha => hJ32 (true) _ hF hB38 (hS39.sel [0] rfl) a (ha.sub ⟨rfl, rfl, rfl, rfl, rfl, trivial⟩)
        · replace hF := ifN h41 hF
          refine wl_on rfl rfl h41 ?_
          refine wl_move rfl rfl ?_
          refine wl_on rfl rfl h41 ?_
          refine wl_lenr (e := ty_106) (l := u21) Try.underlying82 rfl rfl hv25 ?_
          refine wl_on rfl rfl h41 ?_
          refine wl_field (o := 0) (off' := 0) ff_42_0 rfl rfl rfl ?_
          refine wl_on rfl rfl h41 ?_
          refine wl_load_blk (i := 0) (vs := [v0_0]) (v := v0_0) tf_40 rfl rfl hS39 rfl rfl rfl ?_
          refine wl_on rfl rfl h41 ?_
          obtain ⟨u42, hu42, hF⟩ := bindE hF
          refine wl_index (e := ty_82) Try.underlying40 rfl rfl rfl h0_0 hu42 ?_
          rintro p43 _ ⟨v45, rfl, hv46⟩ hp44
          refine wl_on rfl rfl h41 ?_
          refine wl_load_p (vs := [v45]) (v := v45) tf_82 rfl rfl (hp44.ro hB38) rfl rfl ?_
          refine wl_on rfl rfl h41 ?_
          refine wl_lenr (e := ty_106) (l := u42) Try.underlying82 rfl rfl hv46 ?_
          refine wl_on rfl rfl h41 ?_
          refine wl_neq rfl rfl rfl ?_
          refine wl_pick_f rfl rfl h41 rfl ?_
          refine WL.nil ?_
          exact fun a ha => hJ32 (((List.length u21 : Int) != (List.length u42 : Int))) _ hF hB38 (hS39.sel [0] rfl) a (ha.sub ⟨rfl, rfl, rfl, rfl, rfl, trivial⟩)
      · replace hF := ifN h18 hF
        refine W.exit ?_
        refine fun a ha => hK7 _ _ ?_ a ha
        refine W.seq fun K47 hK47 => ?_
        obtain ⟨k52, hk52, hF⟩ := jE1 hF
        have hJ53 : ∀ (y51 : Bool) (w48 : World) (_ : k52 y51 = some r) (_ : Below w0.heap.size w0 w48) (_ : Sep w0.heap.size w48 []), ∀ a, St 55 [(2, (.bool y51))] a → K47 a w48 := by
          intro y51 w48 hF hB49 hS50
          subst hk52
          refine fun a ha => hK47 _ _ ?_ a ha
          refine W.ret ?_
          have hr := Option.some.inj hF
          subst hr
          exact rets (vs := [(.bool y51)]) hQ rfl ⟨rv_tmp rfl, trivial⟩ ⟨rfl, hB49⟩
        refine W.region ?_
        refine wl_field (o := 0) (off' := 0) ff_42_0 rfl rfl rfl ?_
        refine wl_load_blk (i := 0) (vs := [v0_0]) (v := v0_0) tf_40 rfl rfl hS11 rfl rfl rfl ?_
        refine wl_lenr (e := ty_82) (l := x0.1) Try.underlying40 rfl rfl h0_0 ?_
        obtain ⟨u54, hu54, hF⟩ := bindE hF
        refine wl_call rfl Try.call57 (C_spec_l1In w9 (List.length x0.1 : Int) 2 8 _ hu54) rfl ?_
        rintro _ w55 ⟨rfl, hb56⟩
        refine ⟨_, rfl, ?_⟩
        have hB57 := hB10.trans (hb56.mono hB10.size)
        have hS58 := hS11.below hb56
        refine wl_move rfl rfl ?_
        rcases bE u54 with h60 | h60
        · replace hF := ifP h60 hF
          refine wl_on rfl rfl h60 ?_
          refine wl_field (o := 1) (off' := 1) ff_42_1 rfl rfl rfl ?_
          refine wl_on rfl rfl h60 ?_
          refine wl_load_blk (i := 0) (vs := [v0_1]) (v := v0_1) tf_24 rfl rfl hS58 rfl rfl rfl ?_
          refine wl_on rfl rfl h60 ?_
          refine wl_lenr (e := ty_3) (l := x0.2.1) Try.underlying24 rfl rfl h0_1 ?_
          refine wl_on rfl rfl h60 ?_
          refine wl_field (o := 0) (off' := 0) ff_42_0 rfl rfl rfl ?_
          refine wl_on rfl rfl h60 ?_
          refine wl_load_blk (i := 0) (vs := [v0_0]) (v := v0_0) tf_40 rfl rfl hS58 rfl rfl rfl ?_
          refine wl_on rfl rfl h60 ?_
          refine wl_lenr (e := ty_82) (l := x0.1) Try.underlying40 rfl rfl h0_0 ?_
          refine wl_on rfl rfl h60 ?_
          refine wl_sub rfl rfl rfl ?_
          refine wl_on rfl rfl h60 ?_
          refine wl_eql rfl rfl rfl ?_
          refine wl_pick_t rfl rfl h60 rfl ?_
          refine wl_move rfl rfl ?_
          rcases bE ((List.length x0.2.1 : Int) == (w64 ((List.length x0.1 : Int) - 1))) with h61 | h61
          · replace hF := ifP h61 hF
            refine wl_on rfl rfl h61 ?_
            refine wl_field (o := 1) (off' := 1) ff_42_1 rfl rfl rfl ?_
            refine wl_on rfl rfl h61 ?_
            refine wl_load_blk (i := 0) (vs := [v0_1]) (v := v0_1) tf_24 rfl rfl hS58 rfl rfl rfl ?_
            refine wl_on rfl rfl h61 ?_
            obtain ⟨u62, hu62, hF⟩ := bindE hF
            refine wl_call rfl Try.call58 (C_spec_l1All w55 x0.2.1 v0_1 (h0_1.ro hB57) 1 64 _ hu62) rfl ?_
            rintro _ w63 ⟨rfl, hb64⟩
            refine ⟨_, rfl, ?_⟩
            have hB65 := hB57.trans (hb64.mono hB57.size)
            have hS66 := hS58.below hb64
            refine wl_pick_t rfl rfl h61 rfl ?_
            refine wl_move rfl rfl ?_
            rcases bE u62 with h68 | h68
            · replace hF := ifP h68 hF
              refine wl_on rfl rfl h68 ?_
              refine wl_field (o := 2) (off' := 2) ff_42_2 rfl rfl rfl ?_
              refine wl_on rfl rfl h68 ?_
              refine wl_load_blk (i := 0) (vs := [(.int .i64 x0.2.2.1)]) (v := (.int .i64 x0.2.2.1)) tf_3 rfl rfl hS66 rfl rfl rfl ?_
              refine wl_on rfl rfl h68 ?_
              obtain ⟨u69, hu69, hF⟩ := bindE hF
              refine wl_call rfl Try.call59 (C_spec_apDistance w63 x0.2.2.1 _ hu69) rfl ?_
              rintro _ w70 ⟨rfl, hb71⟩
              refine ⟨_, rfl, ?_⟩
              have hB72 := hB65.trans (hb71.mono hB65.size)
              have hS73 := hS66.below hb71
              refine wl_pick_t rfl rfl h68 rfl ?_
              refine wl_move rfl rfl ?_
              rcases bE u69 with h75 | h75
              · replace hF := ifP h75 hF
                refine wl_on rfl rfl h75 ?_
                refine wl_field (o := 3) (off' := 3) ff_42_3 rfl rfl rfl ?_
                refine wl_on rfl rfl h75 ?_
                refine wl_load_blk (i := 0) (vs := [(.int .i64 x0.2.2.2)]) (v := (.int .i64 x0.2.2.2)) tf_3 rfl rfl hS73 rfl rfl rfl ?_
                refine wl_on rfl rfl h75 ?_
                obtain ⟨u76, hu76, hF⟩ := bindE hF
                refine wl_call rfl Try.call60 (C_spec_mvStep w70 x0.2.2.2 _ hu76) rfl ?_
                rintro _ w77 ⟨rfl, hb78⟩
                refine ⟨_, rfl, ?_⟩
                have hB79 := hB72.trans (hb78.mono hB72.size)
                have hS80 := hS73.below hb78
                refine wl_pick_t rfl rfl h75 rfl ?_
                refine wl_assign rfl rfl ?_
                refine WL.nil ?_
                exact fun a ha => hJ53 (u76) _ hF hB79 (hS80.sel [] rfl) a (ha.sub ⟨rfl, trivial⟩)
              · replace hF := ifN h75 hF
                refine wl_off rfl rfl rfl h75 ?_
                refine wl_off rfl rfl rfl h75 ?_
                refine wl_off rfl rfl rfl h75 ?_
                refine wl_pick_f rfl rfl h75 rfl ?_
                refine wl_assign rfl rfl ?_
                refine WL.nil ?_
                exact fun a ha => hJ53 (false) _ hF hB72 (hS73.sel [] rfl) a (ha.sub ⟨rfl, trivial⟩)
            · replace hF := ifN h68 hF
              refine wl_off rfl rfl rfl h68 ?_
              refine wl_off rfl rfl rfl h68 ?_
              refine wl_off rfl rfl rfl h68 ?_
              refine wl_pick_f rfl rfl h68 rfl ?_
              refine wl_move rfl rfl ?_
              refine wl_off rfl rfl rfl rfl ?_
              refine wl_off rfl rfl rfl rfl ?_
              refine wl_off rfl rfl rfl rfl ?_
              refine wl_pick_f rfl rfl rfl rfl ?_
              refine wl_assign rfl rfl ?_
              refine WL.nil ?_
              exact fun a ha => hJ53 (false) _ hF hB65 (hS66.sel [] rfl) a (ha.sub ⟨rfl, trivial⟩)
          · replace hF := ifN h61 hF
            refine wl_off rfl rfl rfl h61 ?_
            refine wl_off rfl rfl rfl h61 ?_
            refine wl_off rfl rfl rfl h61 ?_
            refine wl_pick_f rfl rfl h61 rfl ?_
            refine wl_move rfl rfl ?_
            refine wl_off rfl rfl rfl rfl ?_
            refine wl_off rfl rfl rfl rfl ?_
            refine wl_off rfl rfl rfl rfl ?_
            refine wl_pick_f rfl rfl rfl rfl ?_
            refine wl_move rfl rfl ?_
            refine wl_off rfl rfl rfl rfl ?_
            refine wl_off rfl rfl rfl rfl ?_
            refine wl_off rfl rfl rfl rfl ?_
            refine wl_pick_f rfl rfl rfl rfl ?_
            refine wl_assign rfl rfl ?_
            refine WL.nil ?_
            exact fun a ha => hJ53 (false) _ hF hB57 (hS58.sel [] rfl) a (ha.sub ⟨rfl, trivial⟩)
        · replace hF := ifN h60 hF
          refine wl_off rfl rfl rfl h60 ?_
          refine wl_off rfl rfl rfl h60 ?_
          refine wl_off rfl rfl rfl h60 ?_
          refine wl_off rfl rfl rfl h60 ?_
          refine wl_off rfl rfl rfl h60 ?_
          refine wl_off rfl rfl rfl h60 ?_
          refine wl_off rfl rfl rfl h60 ?_
          refine wl_off rfl rfl rfl h60 ?_
          refine wl_pick_f rfl rfl h60 rfl ?_
          refine wl_move rfl rfl ?_
          refine wl_off rfl rfl rfl rfl ?_
          refine wl_off rfl rfl rfl rfl ?_
          refine wl_off rfl rfl rfl rfl ?_
          refine wl_pick_f rfl rfl rfl rfl ?_
          refine wl_move rfl rfl ?_
          refine wl_off rfl rfl rfl rfl ?_
          refine wl_off rfl rfl rfl rfl ?_
          refine wl_off rfl rfl rfl rfl ?_
          refine wl_pick_f rfl rfl rfl rfl ?_
          refine wl_move rfl rfl ?_
          refine wl_off rfl rfl rfl rfl ?_
          refine wl_off rfl rfl rfl rfl ?_
          refine wl_off rfl rfl rfl rfl ?_
          refine wl_pick_f rfl rfl rfl rfl ?_
          refine wl_assign rfl rfl ?_
          refine WL.nil ?_
          exact fun a ha => hJ53 (false) _ hF hB57 (hS58.sel [] rfl) a (ha.sub ⟨rfl, trivial⟩)
theorem C_spec_swMoves (w0 : World) (x0 : ((List (List (Int × Int))) × (List Int) × Int × Int)) (v0_0 : Value) (h0_0 : rdS ty_82 (· < w0.heap.size) w0 v0_0 x0.1) (v0_1 : Value) (h0_1 : rdS ty_3 (· < w0.heap.size) w0 v0_1 x0.2.1) (x1 : Int) (r : (List ((Int × Int) × (Int × Int) × Int))) (hF : F_spec_swMoves x0 x1 = some r) :
    Calls Try.prog 119 [(.agg #[v0_0, v0_1, (.int .i64 x0.2.2.1), (.int .i64 x0.2.2.2)]), (.int .i64 x1)].toArray w0 fun e w' => ∃ (q0 : Value) (G0 : List Nat), e = .returned q0 ∧ Below w0.heap.size w0 w' ∧ Sep w0.heap.size w' [R.own ty_117 G0 q0 r] := by
  refine calls_mk' Try.func119 rfl Try.ntmps119 rfl rfl fun Q hQ hP => ?_
  have hB : Below w0.heap.size w0 w0 := Below.refl _ _
  have hS : Sep w0.heap.size w0 [] := Sep.nil _ _
  unfold F_spec_swMoves at hF
  refine W.seq fun K1 hK1 => ?_
  refine W.region ?_
  refine wl_box (cs := [v0_0, v0_1, (.int .i64 x0.2.2.1), (.int .i64 x0.2.2.2)]) rfl rfl rfl hB hS ?_
  intro b2 w3 hb4 hB5 hS6
  refine wl_assign rfl rfl ?_
  refine WL.nil ?_
  refine fun a ha => hK1 _ _ ?_ a ha
  refine W.seq fun K7 hK7 => ?_
  refine W.region ?_
  refine wl_assign rfl rfl ?_
  refine WL.nil ?_
  refine fun a ha => hK7 _ _ ?_ a ha
  refine W.seq fun K8 hK8 => ?_
  refine W.seq fun K9 hK9 => ?_
  refine W.region ?_
  refine wl_field (o := 0) (off' := 0) ff_42_0 rfl rfl rfl ?_
  refine wl_load_blk (i := 0) (vs := [v0_0]) (v := v0_0) tf_40 rfl rfl hS6 rfl rfl rfl ?_
  refine wl_move rfl rfl ?_
  obtain ⟨u10, hu10, hF⟩ := bindE hF
  refine wl_index (e := ty_82) Try.underlying40 rfl rfl rfl h0_0 hu10 ?_
  rintro p11 _ ⟨v13, rfl, hv14⟩ hp12
  refine wl_load_p (vs := [v13]) (v := v13) tf_82 rfl rfl (hp12.ro hB5) rfl rfl ?_
  refine wl_lenr (e := ty_106) (l := u10) Try.underlying82 rfl rfl hv14 ?_
  refine wl_move rfl rfl ?_
  refine WL.nil ?_
  refine fun a ha => hK9 _ _ ?_ a ha
  refine W.block ?_
  refine W.loopk (fun m a w15 => ∃ (l18 : (List ((Int × Int) × (Int × Int) × Int))) (y21 : Int) (v19 : Value) (F20 : List Nat), St 40 [(1, (.int .i64 x1)), (2, (.pointer (some ⟨b2, 0, none⟩))), (5, v19), (12, v13), (13, (.int .i64 (List.length u10 : Int))), (14, (.int .i64 y21))] a ∧ Below w0.heap.size w0 w15 ∧ Sep w0.heap.size w15 [R.blk b2 42 [v0_0, v0_1, (.int .i64 x0.2.2.1), (.int .i64 x0.2.2.2)], R.own ty_117 F20 v19 l18] ∧ F_spec_swMoves_L1 u10 x0 x1 m l18 y21 = some r) FU ?_ ?_
  ·
    have hS23 := hS6.push0 (r := R.own ty_117 [] (.slice none 0 0) []) rfl fun _ => .inl ⟨rfl, rfl, rfl⟩
    exact fun a ha => ⟨[], 0, (.slice none 0 0), [], ha.sub ⟨rfl, rfl, rfl, rfl, rfl, rfl, trivial⟩, hB5, (hS23.sel [1, 0] rfl), hF⟩
  ·
    rintro m25 a w15 ⟨l18, y21, v19, F20, ha, hB16, hS17, hF⟩ KL24 hKL24
    refine W.at ?_ ha
    cases m25 with
    | zero => exact noneE hF
    | succ m25 =>
      obtain ⟨nx22, hnx22⟩ : ∃ k, k = F_spec_swMoves_L1 u10 x0 x1 m25 := ⟨_, rfl⟩
      rw [F_spec_swMoves_L1, ← hnx22] at hF
      refine W.seq fun K26 hK26 => ?_
      refine W.region ?_
      refine wl_lss rfl rfl rfl ?_
      refine WL.nil ?_
      refine fun a ha => hK26 _ _ ?_ a ha
      refine W.seq fun K27 hK27 => ?_
      refine W.cond rfl (fun h28 => ?_) (fun h28 => ?_)
      · replace hF := ifP h28 hF
        refine W.skip ?_
        refine fun a ha => hK27 _ _ ?_ a ha
        refine W.seq fun K29 hK29 => ?_
        refine W.block ?_
        refine W.seq fun K30 hK30 => ?_
        refine W.region ?_
        refine wl_move rfl rfl ?_
        obtain ⟨u31, hu31, hF⟩ := bindE hF
        refine wl_index (e := ty_106) Try.underlying82 rfl rfl rfl hv14 hu31 ?_
        rintro p32 _ rfl hp33
        refine wl_load_p (vs := [(.int .i64 u31.1), (.int .i64 u31.2)]) (v := (.agg #[(.int .i64 u31.1), (.int .i64 u31.2)])) tf_106 rfl rfl (hp33.ro hB16) rfl rfl ?_
        refine wl_alloc (cs := [(.int .i64 0), (.int .i64 0)]) tf_106 rfl rfl hB16 hS17 ?_
        intro b34 w35 hb36 hB37 hS38
        refine wl_assign rfl rfl ?_
        refine wl_store_blk (i := 0) (vs := [(.int .i64 u31.1), (.int .i64 u31.2)]) (cs' := [(.int .i64 u31.1), (.int .i64 u31.2)]) tf_106 rfl rfl rfl rfl hB37 hS38 rfl rfl ⟨rfl, rfl, trivial⟩ rfl ?_
        intro w39 hk42 hB40 hS41
        refine WL.nil ?_
        refine fun a ha => hK30 _ _ ?_ a ha
        refine W.regionH mixed_ F20 hB40 hS41 ?_
        intro w43 hb44 hB45 hS46
        have hSW47 := KeepX.refl w43 F20
        refine WH.takex (i := 0) rfl (by kernel_rfl) (by kernel_rfl) (by kernel_rfl) hP hSW47 ?_
        refine pr_move rfl rfl ?_
        refine WH.takex (i := 1) rfl (by kernel_rfl) (by kernel_rfl) (by kernel_rfl) hP hSW47 ?_
        refine pr_load_blk (i := 0) (vs := [(.int .i64 u31.1), (.int .i64 u31.2)]) (v := (.agg #[(.int .i64 u31.1), (.int .i64 u31.2)])) tf_106 rfl rfl hS46 rfl rfl rfl (hS46.disj (i := 0) (j := 2) rfl rfl rfl b34 (by simp [R.blk])) ?_
        refine WH.takex (i := 2) rfl (by kernel_rfl) (by kernel_rfl) (by kernel_rfl) hP hSW47 ?_
        refine pr_field (o := 0) (off' := 0) ff_42_0 rfl rfl rfl ?_
        refine WH.takex (i := 3) rfl (by kernel_rfl) (by kernel_rfl) (by kernel_rfl) hP hSW47 ?_
        refine pr_load_blk (i := 1) (vs := [v0_0]) (v := v0_0) tf_40 rfl rfl hS46 rfl rfl rfl (hS46.disj (i := 1) (j := 2) rfl rfl rfl b2 (by simp [R.blk])) ?_
        refine WH.takex (i := 4) rfl (by kernel_rfl) (by kernel_rfl) (by kernel_rfl) hP hSW47 ?_
        refine pr_move rfl rfl ?_
        refine WH.takex (i := 5) rfl (by kernel_rfl) (by kernel_rfl) (by kernel_rfl) hP hSW47 ?_
        refine pr_add rfl rfl rfl ?_
        obtain ⟨u48, hu48, hF⟩ := bindE hF
        refine WH.takex (i := 6) rfl (by kernel_rfl) (by kernel_rfl) (by kernel_rfl) hP hSW47 ?_
        refine pr_index (e := ty_82) Try.underlying40 rfl rfl rfl h0_0 hu48 ?_
        rintro p49 _ ⟨v51, rfl, hv52⟩ hp50
        refine WH.takex (i := 7) rfl (by kernel_rfl) (by kernel_rfl) (by kernel_rfl) hP hSW47 ?_
        refine pr_load_p (vs := [v51]) (v := v51) tf_82 rfl rfl (hp50.kx hB45 (fun b hb => (((hS46.get (i := 2) rfl).2.1 b hb).1))) rfl rfl ?_
        refine WH.takex (i := 8) rfl (by kernel_rfl) (by kernel_rfl) (by kernel_rfl) hP hSW47 ?_
        refine pr_move rfl rfl ?_
        obtain ⟨u53, hu53, hF⟩ := bindE hF
        refine WH.takex (i := 9) rfl (by kernel_rfl) (by kernel_rfl) (by kernel_rfl) hP hSW47 ?_
        refine pr_index (e := ty_106) Try.underlying82 rfl rfl rfl hv52 hu53 ?_
        rintro p54 _ rfl hp55
        refine WH.takex (i := 10) rfl (by kernel_rfl) (by kernel_rfl) (by kernel_rfl) hP hSW47 ?_
        refine pr_load_p (vs := [(.int .i64 u53.1), (.int .i64 u53.2)]) (v := (.agg #[(.int .i64 u53.1), (.int .i64 u53.2)])) tf_106 rfl rfl (hp55.kx hB45 (fun b hb => (((hS46.get (i := 2) rfl).2.1 b hb).1))) rfl rfl ?_
        refine WH.takex (i := 11) rfl (by kernel_rfl) (by kernel_rfl) (by kernel_rfl) hP hSW47 ?_
        refine pr_field (o := 1) (off' := 1) ff_42_1 rfl rfl rfl ?_
        refine WH.takex (i := 12) rfl (by kernel_rfl) (by kernel_rfl) (by kernel_rfl) hP hSW47 ?_
        refine pr_load_blk (i := 1) (vs := [v0_1]) (v := v0_1) tf_24 rfl rfl hS46 rfl rfl rfl (hS46.disj (i := 1) (j := 2) rfl rfl rfl b2 (by simp [R.blk])) ?_
        refine WH.takex (i := 13) rfl (by kernel_rfl) (by kernel_rfl) (by kernel_rfl) hP hSW47 ?_
        refine pr_move rfl rfl ?_
        obtain ⟨u56, hu56, hF⟩ := bindE hF
        refine WH.takex (i := 14) rfl (by kernel_rfl) (by kernel_rfl) (by kernel_rfl) hP hSW47 ?_
        refine pr_index (e := ty_3) Try.underlying24 rfl rfl rfl h0_1 hu56 ?_
        rintro p57 _ rfl hp58
        refine WH.takex (i := 15) rfl (by kernel_rfl) (by kernel_rfl) (by kernel_rfl) hP hSW47 ?_
        refine pr_load_p (vs := [(.int .i64 u56)]) (v := (.int .i64 u56)) tf_3 rfl rfl (hp58.kx hB45 (fun b hb => (((hS46.get (i := 2) rfl).2.1 b hb).1))) rfl rfl ?_
        refine WH.takex (i := 16) rfl (by kernel_rfl) (by kernel_rfl) (by kernel_rfl) hP hSW47 ?_
        refine pr_build (zs := [(.int .i64 0), (.int .i64 0), (.int .i64 0), (.int .i64 0), (.int .i64 0)]) (out := [(.int .i64 u31.1), (.int .i64 u31.2), (.int .i64 u53.1), (.int .i64 u53.2), (.int .i64 u56)]) (vs := [(.agg #[(.int .i64 u31.1), (.int .i64 u31.2)]), (.agg #[(.int .i64 u53.1), (.int .i64 u53.2)]), (.int .i64 u56)]) (css := [[(.int .i64 u31.1), (.int .i64 u31.2)], [(.int .i64 u53.1), (.int .i64 u53.2)], [(.int .i64 u56)]]) tf_117 pl_117 rfl rfl rfl rfl rfl ?_
        refine WH.one (i := 17) (by kernel_rfl) rfl ?_
        refine wl_lit (vs := [(.agg #[(.int .i64 u31.1), (.int .i64 u31.2), (.int .i64 u53.1), (.int .i64 u53.2), (.int .i64 u56)])]) (l := [(u31, u53, u56)]) fl_117 Try.underlying114 rfl rfl rfl rfl rfl rfl (Below.self w43) (Sep.nil _ _) ?_
        intro v59 F60 w61 hb62 hB65 hM66
        have hB63 := hB45.trans (hb62.mono hB45.size)
        have hS64 := hS46.join hb62 hM66 hB45.size
        have hn67 : ∀ b ∈ F60, w43.heap.size ≤ b := fun b hb => Nat.le_trans hSW47.size ((hM66.1 _ (List.mem_cons_self ..)).2.1 b hb).1
        have hSW68 := hSW47.ext hb62
        have hbS69 : Below w43.heap.size w43 w61 := hb62
        refine WL.nil (WH.ret hSW68 ?_)
        refine WH.one (i := 18) (by kernel_rfl) rfl ?_
        obtain ⟨u70, hu70, hF⟩ := bindE hF
        refine wl_append (i := 3) (S := (· < w61.heap.size)) fl_117 Try.underlying114 rfl rfl rfl hB63 hS64 rfl (hS64.own_ro (i := 0) rfl) hu70 ?_
        intro v71 F72 w73 hk74 hB75 hS76
        have hSW77 := hSW68.wr' hk74.1 hk74.2.1 (fun _ _ h => h)
        refine WL.nil (WH.ret hSW77 ?_)
        refine WH.takex (i := 19) rfl (by kernel_rfl) (by kernel_rfl) (by kernel_rfl) hP hSW77 ?_
        refine pr_assign rfl rfl ?_
        refine WH.done (by kernel_rfl) ?_
        refine fun a ha => hK29 _ _ ?_ a ha
        refine W.region ?_
        refine wl_add rfl rfl rfl ?_
        refine wl_move rfl rfl ?_
        refine WL.nil ?_
        rw [hnx22] at hF
        exact fun a ha => hKL24 a _ m25 (Nat.lt_succ_self m25) ⟨u70, (w64 (y21 + 1)), v71, F72, ha.sub ⟨rfl, rfl, rfl, rfl, rfl, rfl, trivial⟩, hB75, (hS76.sel [2, 3] rfl), hF⟩
      · replace hF := ifN h28 hF
        refine W.exit ?_
        refine fun a ha => hK8 _ _ ?_ a ha
        refine W.seq fun K78 hK78 => ?_
        refine W.region ?_
        refine wl_move rfl rfl ?_
        refine wl_assign rfl rfl ?_
        refine WL.nil ?_
        refine fun a ha => hK78 _ _ ?_ a ha
        refine W.ret ?_
        have hr := Option.some.inj hF
        subst hr
        exact rets (vs := [v19]) hQ rfl ⟨rv_tmp rfl, trivial⟩ ⟨v19, F20, rfl, hB16, hS17.sel [1] rfl⟩
theorem C_spec_apEnds (w0 : World) (x0 : ((Int × Int) × (Int × Int) × Int)) (x1 : ((Int × Int) × (Int × Int) × Int)) (r : (Int × Int × Int × Int)) (hF : F_spec_apEnds x0 x1 = some r) :
    Calls Try.prog 143 [(.agg #[(.int .i64 x0.1.1), (.int .i64 x0.1.2), (.int .i64 x0.2.1.1), (.int .i64 x0.2.1.2), (.int .i64 x0.2.2)]), (.agg #[(.int .i64 x1.1.1), (.int .i64 x1.1.2), (.int .i64 x1.2.1.1), (.int .i64 x1.2.1.2), (.int .i64 x1.2.2)])].toArray w0 fun e w' => e = .returned (.tuple #[(.int .i64 r.1), (.int .i64 r.2.1), (.int .i64 r.2.2.1), (.int .i64 r.2.2.2)]) ∧ Below w0.heap.size w0 w' := by
  refine calls_mk' Try.func143 rfl Try.ntmps143 rfl rfl fun Q hQ hP => ?_
  have hB : Below w0.heap.size w0 w0 := Below.refl _ _
  have hS : Sep w0.heap.size w0 [] := Sep.nil _ _
  unfold F_spec_apEnds at hF
  refine W.seq fun K1 hK1 => ?_
  refine W.region ?_
  refine wl_box (cs := [(.int .i64 x0.1.1), (.int .i64 x0.1.2), (.int .i64 x0.2.1.1), (.int .i64 x0.2.1.2), (.int .i64 x0.2.2)]) rfl rfl rfl hB hS ?_
  intro b2 w3 hb4 hB5 hS6
  refine wl_box (cs := [(.int .i64 x1.1.1), (.int .i64 x1.1.2), (.int .i64 x1.2.1.1), (.int .i64 x1.2.1.2), (.int .i64 x1.2.2)]) rfl rfl rfl hB5 hS6 ?_
  intro b7 w8 hb9 hB10 hS11
  refine wl_assign rfl rfl ?_
  refine wl_assign rfl rfl ?_
  refine wl_assign rfl rfl ?_
  refine wl_assign rfl rfl ?_
  refine WL.nil ?_
  refine fun a ha => hK1 _ _ ?_ a ha
  refine W.seq fun K12 hK12 => ?_
  refine W.regionH mixed_ [] hB10 hS11 ?_
  intro w13 hb14 hB15 hS16
  have hSW17 := KeepX.refl w13 []
  refine WH.takex (i := 0) rfl (by kernel_rfl) (by kernel_rfl) (by kernel_rfl) hP hSW17 ?_
  refine pr_field (o := 0) (off' := 0) ff_117_0 rfl rfl rfl ?_
  refine WH.takex (i := 1) rfl (by kernel_rfl) (by kernel_rfl) (by kernel_rfl) hP hSW17 ?_
  refine pr_field (o := 0) (off' := 0) ff_106_0 rfl rfl rfl ?_
  refine WH.takex (i := 2) rfl (by kernel_rfl) (by kernel_rfl) (by kernel_rfl) hP hSW17 ?_
  refine pr_load_blk (i := 1) (vs := [(.int .i64 x0.1.1)]) (v := (.int .i64 x0.1.1)) tf_3 rfl rfl hS16 rfl rfl rfl (by simp) ?_
  refine WH.takex (i := 3) rfl (by kernel_rfl) (by kernel_rfl) (by kernel_rfl) hP hSW17 ?_
  refine pr_field (o := 0) (off' := 0) ff_117_0 rfl rfl rfl ?_
  refine WH.takex (i := 4) rfl (by kernel_rfl) (by kernel_rfl) (by kernel_rfl) hP hSW17 ?_
  refine pr_field (o := 0) (off' := 0) ff_106_0 rfl rfl rfl ?_
  refine WH.takex (i := 5) rfl (by kernel_rfl) (by kernel_rfl) (by kernel_rfl) hP hSW17 ?_
  refine pr_load_blk (i := 0) (vs := [(.int .i64 x1.1.1)]) (v := (.int .i64 x1.1.1)) tf_3 rfl rfl hS16 rfl rfl rfl (by simp) ?_
  refine WH.takex (i := 6) rfl (by kernel_rfl) (by kernel_rfl) (by kernel_rfl) hP hSW17 ?_
  refine pr_sub rfl rfl rfl ?_
  refine WH.takex (i := 7) rfl (by kernel_rfl) (by kernel_rfl) (by kernel_rfl) hP hSW17 ?_
  refine pr_field (o := 0) (off' := 0) ff_117_0 rfl rfl rfl ?_
  refine WH.takex (i := 8) rfl (by kernel_rfl) (by kernel_rfl) (by kernel_rfl) hP hSW17 ?_
  refine pr_field (o := 1) (off' := 1) ff_106_1 rfl rfl rfl ?_
  refine WH.takex (i := 9) rfl (by kernel_rfl) (by kernel_rfl) (by kernel_rfl) hP hSW17 ?_
  refine pr_load_blk (i := 1) (vs := [(.int .i64 x0.1.2)]) (v := (.int .i64 x0.1.2)) tf_3 rfl rfl hS16 rfl rfl rfl (by simp) ?_
  refine WH.takex (i := 10) rfl (by kernel_rfl) (by kernel_rfl) (by kernel_rfl) hP hSW17 ?_
  refine pr_field (o := 0) (off' := 0) ff_117_0 rfl rfl rfl ?_
  refine WH.takex (i := 11) rfl (by kernel_rfl) (by kernel_rfl) (by kernel_rfl) hP hSW17 ?_
  refine pr_field (o := 1) (off' := 1) ff_106_1 rfl rfl rfl ?_
  refine WH.takex (i := 12) rfl (by kernel_rfl) (by kernel_rfl) (by kernel_rfl) hP hSW17 ?_
  refine pr_load_blk (i := 0) (vs := [(.int .i64 x1.1.2)]) (v := (.int .i64 x1.1.2)) tf_3 rfl rfl hS16 rfl rfl rfl (by simp) ?_
  refine WH.takex (i := 13) rfl (by kernel_rfl) (by kernel_rfl) (by kernel_rfl) hP hSW17 ?_
  refine pr_sub rfl rfl rfl ?_
  refine WH.takex (i := 14) rfl (by kernel_rfl) (by kernel_rfl) (by kernel_rfl) hP hSW17 ?_
  refine pr_field (o := 2) (off' := 2) ff_117_1 rfl rfl rfl ?_
  refine WH.takex (i := 15) rfl (by kernel_rfl) (by kernel_rfl) (by kernel_rfl) hP hSW17 ?_
  refine pr_field (o := 0) (off' := 2) ff_106_0 rfl rfl rfl ?_
  refine WH.takex (i := 16) rfl (by kernel_rfl) (by kernel_rfl) (by kernel_rfl) hP hSW17 ?_
  refine pr_load_blk (i := 1) (vs := [(.int .i64 x0.2.1.1)]) (v := (.int .i64 x0.2.1.1)) tf_3 rfl rfl hS16 rfl rfl rfl (by simp) ?_
  refine WH.takex (i := 17) rfl (by kernel_rfl) (by kernel_rfl) (by kernel_rfl) hP hSW17 ?_
  refine pr_field (o := 2) (off' := 2) ff_117_1 rfl rfl rfl ?_
  refine WH.takex (i := 18) rfl (by kernel_rfl) (by kernel_rfl) (by kernel_rfl) hP hSW17 ?_
  refine pr_field (o := 0) (off' := 2) ff_106_0 rfl rfl rfl ?_
  refine WH.takex (i := 19) rfl (by kernel_rfl) (by kernel_rfl) (by kernel_rfl) hP hSW17 ?_
  refine pr_load_blk (i := 0) (vs := [(.int .i64 x1.2.1.1)]) (v := (.int .i64 x1.2.1.1)) tf_3 rfl rfl hS16 rfl rfl rfl (by simp) ?_
  refine WH.takex (i := 20) rfl (by kernel_rfl) (by kernel_rfl) (by kernel_rfl) hP hSW17 ?_
  refine pr_sub rfl rfl rfl ?_
  refine WH.takex (i := 21) rfl (by kernel_rfl) (by kernel_rfl) (by kernel_rfl) hP hSW17 ?_
  refine pr_field (o := 2) (off' := 2) ff_117_1 rfl rfl rfl ?_
  refine WH.takex (i := 22) rfl (by kernel_rfl) (by kernel_rfl) (by kernel_rfl) hP hSW17 ?_
  refine pr_field (o := 1) (off' := 3) ff_106_1 rfl rfl rfl ?_
  refine WH.takex (i := 23) rfl (by kernel_rfl) (by kernel_rfl) (by kernel_rfl) hP hSW17 ?_
  refine pr_load_blk (i := 1) (vs := [(.int .i64 x0.2.1.2)]) (v := (.int .i64 x0.2.1.2)) tf_3 rfl rfl hS16 rfl rfl rfl (by simp) ?_
  refine WH.takex (i := 24) rfl (by kernel_rfl) (by kernel_rfl) (by kernel_rfl) hP hSW17 ?_
  refine pr_field (o := 2) (off' := 2) ff_117_1 rfl rfl rfl ?_
  refine WH.takex (i := 25) rfl (by kernel_rfl) (by kernel_rfl) (by kernel_rfl) hP hSW17 ?_
  refine pr_field (o := 1) (off' := 3) ff_106_1 rfl rfl rfl ?_
  refine WH.takex (i := 26) rfl (by kernel_rfl) (by kernel_rfl) (by kernel_rfl) hP hSW17 ?_
  refine pr_load_blk (i := 0) (vs := [(.int .i64 x1.2.1.2)]) (v := (.int .i64 x1.2.1.2)) tf_3 rfl rfl hS16 rfl rfl rfl (by simp) ?_
  refine WH.takex (i := 27) rfl (by kernel_rfl) (by kernel_rfl) (by kernel_rfl) hP hSW17 ?_
  refine pr_sub rfl rfl rfl ?_
  refine WH.takex (i := 28) rfl (by kernel_rfl) (by kernel_rfl) (by kernel_rfl) hP hSW17 ?_
  refine pr_assign rfl rfl ?_
  refine WH.takex (i := 29) rfl (by kernel_rfl) (by kernel_rfl) (by kernel_rfl) hP hSW17 ?_
  refine pr_assign rfl rfl ?_
  refine WH.takex (i := 30) rfl (by kernel_rfl) (by kernel_rfl) (by kernel_rfl) hP hSW17 ?_
  refine pr_assign rfl rfl ?_
  refine WH.takex (i := 31) rfl (by kernel_rfl) (by kernel_rfl) (by kernel_rfl) hP hSW17 ?_
  refine pr_assign rfl rfl ?_
  refine WH.done (by kernel_rfl) ?_
  refine fun a ha => hK12 _ _ ?_ a ha
  refine W.ret ?_
  have hr := Option.some.inj hF
  subst hr
  exact rets (vs := [(.int .i64 (w64 (x0.1.1 - x1.1.1))), (.int .i64 (w64 (x0.1.2 - x1.1.2))), (.int .i64 (w64 (x0.2.1.1 - x1.2.1.1))), (.int .i64 (w64 (x0.2.1.2 - x1.2.1.2)))]) hQ rfl ⟨rv_tmp rfl, rv_tmp rfl, rv_tmp rfl, rv_tmp rfl, trivial⟩ ⟨rfl, hB15⟩
theorem C_spec_apInner (w0 : World) (x0 : ((Int × Int) × (Int × Int) × Int)) (x1 : ((Int × Int) × (Int × Int) × Int)) (r : (Int × Int)) (hF : F_spec_apInner x0 x1 = some r) :
    Calls Try.prog 144 [(.agg #[(.int .i64 x0.1.1), (.int .i64 x0.1.2), (.int .i64 x0.2.1.1), (.int .i64 x0.2.1.2), (.int .i64 x0.2.2)]), (.agg #[(.int .i64 x1.1.1), (.int .i64 x1.1.2), (.int .i64 x1.2.1.1), (.int .i64 x1.2.1.2), (.int .i64 x1.2.2)])].toArray w0 fun e w' => e = .returned (.tuple #[(.int .i64 r.1), (.int .i64 r.2)]) ∧ Below w0.heap.size w0 w' := by
  refine calls_mk' Try.func144 rfl Try.ntmps144 rfl rfl fun Q hQ hP => ?_
  have hB : Below w0.heap.size w0 w0 := Below.refl _ _
  have hS : Sep w0.heap.size w0 [] := Sep.nil _ _
  unfold F_spec_apInner at hF
  refine W.seq fun K1 hK1 => ?_
  refine W.region ?_
  refine wl_box (cs := [(.int .i64 x0.1.1), (.int .i64 x0.1.2), (.int .i64 x0.2.1.1), (.int .i64 x0.2.1.2), (.int .i64 x0.2.2)]) rfl rfl rfl hB hS ?_
  intro b2 w3 hb4 hB5 hS6
  refine wl_box (cs := [(.int .i64 x1.1.1), (.int .i64 x1.1.2), (.int .i64 x1.2.1.1), (.int .i64 x1.2.1.2), (.int .i64 x1.2.2)]) rfl rfl rfl hB5 hS6 ?_
  intro b7 w8 hb9 hB10 hS11
  refine wl_assign rfl rfl ?_
  refine wl_assign rfl rfl ?_
  refine WL.nil ?_
  refine fun a ha => hK1 _ _ ?_ a ha
  refine W.seq fun K12 hK12 => ?_
  refine W.region ?_
  refine wl_load_blk (i := 1) (vs := [(.int .i64 x0.1.1), (.int .i64 x0.1.2), (.int .i64 x0.2.1.1), (.int .i64 x0.2.1.2), (.int .i64 x0.2.2)]) (v := (.agg #[(.int .i64 x0.1.1), (.int .i64 x0.1.2), (.int .i64 x0.2.1.1), (.int .i64 x0.2.1.2), (.int .i64 x0.2.2)])) tf_117 rfl rfl hS11 rfl rfl rfl ?_
  refine wl_load_blk (i := 0) (vs := [(.int .i64 x1.1.1), (.int .i64 x1.1.2), (.int .i64 x1.2.1.1), (.int .i64 x1.2.1.2), (.int .i64 x1.2.2)]) (v := (.agg #[(.int .i64 x1.1.1), (.int .i64 x1.1.2), (.int .i64 x1.2.1.1), (.int .i64 x1.2.1.2), (.int .i64 x1.2.2)])) tf_117 rfl rfl hS11 rfl rfl rfl ?_
  obtain ⟨u13, hu13, hF⟩ := bindE hF
  refine wl_call rfl Try.call143 (C_spec_apEnds w8 x0 x1 _ hu13) rfl ?_
  rintro _ w14 ⟨rfl, hb15⟩
  refine ⟨_, rfl, ?_⟩
  have hB16 := hB10.trans (hb15.mono hB10.size)
  have hS17 := hS11.below hb15
  refine wl_move rfl rfl ?_
  refine wl_extract rfl rfl rfl ?_
  refine wl_extract rfl rfl rfl ?_
  refine wl_extract rfl rfl rfl ?_
  refine wl_extract rfl rfl rfl ?_
  refine wl_assign rfl rfl ?_
  refine wl_assign rfl rfl ?_
  refine wl_assign rfl rfl ?_
  refine wl_assign rfl rfl ?_
  refine WL.nil ?_
  refine fun a ha => hK12 _ _ ?_ a ha
  refine W.seq fun K19 hK19 => ?_
  refine W.region ?_
  refine wl_move rfl rfl ?_
  refine wl_move rfl rfl ?_
  refine wl_sub rfl rfl rfl ?_
  refine wl_move rfl rfl ?_
  refine wl_move rfl rfl ?_
  refine wl_sub rfl rfl rfl ?_
  refine wl_assign rfl rfl ?_
  refine wl_assign rfl rfl ?_
  refine WL.nil ?_
  refine fun a ha => hK19 _ _ ?_ a ha
  refine W.seq fun K20 hK20 => ?_
  refine W.region ?_
  refine wl_move rfl rfl ?_
  refine wl_move rfl rfl ?_
  refine wl_mul rfl rfl rfl ?_
  refine wl_move rfl rfl ?_
  refine wl_move rfl rfl ?_
  refine wl_mul rfl rfl rfl ?_
  refine wl_add rfl rfl rfl ?_
  refine wl_neg rfl rfl ?_
  refine wl_move rfl rfl ?_
  refine wl_move rfl rfl ?_
  refine wl_mul rfl rfl rfl ?_
  refine wl_move rfl rfl ?_
  refine wl_move rfl rfl ?_
  refine wl_mul rfl rfl rfl ?_
  refine wl_add rfl rfl rfl ?_
  refine wl_assign rfl rfl ?_
  refine wl_assign rfl rfl ?_
  refine WL.nil ?_
  refine fun a ha => hK20 _ _ ?_ a ha
  refine W.seq fun K21 hK21 => ?_
  refine W.seq fun K22 hK22 => ?_
  obtain ⟨k27, hk27, hF⟩ := jE1 hF
  have hJ28 : ∀ (y26 : Bool) (w23 : World) (_ : k27 y26 = some r) (_ : Below w0.heap.size w0 w23) (_ : Sep w0.heap.size w23 []), ∀ a, St 52 [(12, (.int .i64 (w64 (0 - (w64 ((w64 (u13.1 * (w64 (u13.2.2.1 - u13.1)))) + (w64 (u13.2.1 * (w64 (u13.2.2.2 - u13.2.1)))))))))), (13, (.int .i64 (w64 ((w64 ((w64 (u13.2.2.1 - u13.1)) * (w64 (u13.2.2.1 - u13.1)))) + (w64 ((w64 (u13.2.2.2 - u13.2.1)) * (w64 (u13.2.2.2 - u13.2.1)))))))), (49, (.bool y26))] a → K22 a w23 := by
    intro y26 w23 hF hB24 hS25
    subst hk27
    refine fun a ha => hK22 _ _ ?_ a ha
    refine W.cond rfl (fun h29 => ?_) (fun h29 => ?_)
    · replace hF := ifP h29 hF
      refine W.seq fun K30 hK30 => ?_
      refine W.region ?_
      refine wl_assign rfl rfl ?_
      refine wl_assign rfl rfl ?_
      refine WL.nil ?_
      refine fun a ha => hK30 _ _ ?_ a ha
      refine W.ret ?_
      have hr := Option.some.inj hF
      subst hr
      exact rets (vs := [(.int .i64 0), (.int .i64 0)]) hQ rfl ⟨rv_tmp rfl, rv_tmp rfl, trivial⟩ ⟨rfl, hB24⟩
    · replace hF := ifN h29 hF
      refine W.skip ?_
      refine fun a ha => hK21 _ _ ?_ a ha
      refine W.seq fun K31 hK31 => ?_
      refine W.region ?_
      refine wl_move rfl rfl ?_
      refine wl_move rfl rfl ?_
      refine wl_assign rfl rfl ?_
      refine wl_assign rfl rfl ?_
      refine WL.nil ?_
      refine fun a ha => hK31 _ _ ?_ a ha
      refine W.ret ?_
      have hr := Option.some.inj hF
      subst hr
      exact rets (vs := [(.int .i64 (w64 (0 - (w64 ((w64 (u13.1 * (w64 (u13.2.2.1 - u13.1)))) + (w64 (u13.2.1 * (w64 (u13.2.2.2 - u13.2.1))))))))), (.int .i64 (w64 ((w64 ((w64 (u13.2.2.1 - u13.1)) * (w64 (u13.2.2.1 - u13.1)))) + (w64 ((w64 (u13.2.2.2 - u13.2.1)) * (w64 (u13.2.2.2 - u13.2.1)))))))]) hQ rfl ⟨rv_tmp rfl, rv_tmp rfl, trivial⟩ ⟨rfl, hB24⟩
  refine W.region ?_
  refine wl_move rfl rfl ?_
  refine wl_leq rfl rfl rfl ?_
  refine wl_move rfl rfl ?_
  rcases bE (decide ((w64 (0 - (w64 ((w64 (u13.1 * (w64 (u13.2.2.1 - u13.1)))) + (w64 (u13.2.1 * (w64 (u13.2.2.2 - u13.2.1)))))))) ≤ 0)) with h32 | h32
  · replace hF := ifP h32 hF
    refine wl_off rfl rfl rfl h32 ?_
    refine wl_off rfl rfl rfl h32 ?_
    refine wl_off rfl rfl rfl h32 ?_
    refine wl_pick_t rfl rfl h32 rfl ?_
    refine WL.nil ?_
    exact fun a ha => hJ28 (true) _ hF hB16 (hS17.sel [] rfl) a (ha.sub ⟨rfl, rfl, rfl, trivial⟩)
  · replace hF := ifN h32 hF
    refine wl_on rfl rfl h32 ?_
    refine wl_move rfl rfl ?_
    refine wl_on rfl rfl h32 ?_
    refine wl_move rfl rfl ?_
    refine wl_on rfl rfl h32 ?_
    refine wl_geq rfl rfl rfl ?_
    refine wl_pick_f rfl rfl h32 rfl ?_
    refine WL.nil ?_
    exact fun a ha => hJ28 ((decide ((w64 ((w64 ((w64 (u13.2.2.1 - u13.1)) * (w64 (u13.2.2.1 - u13.1)))) + (w64 ((w64 (u13.2.2.2 - u13.2.1)) * (w64 (u13.2.2.2 - u13.2.1)))))) ≤ (w64 (0 - (w64 ((w64 (u13.1 * (w64 (u13.2.2.1 - u13.1)))) + (w64 (u13.2.1 * (w64 (u13.2.2.2 - u13.2.1))))))))))) _ hF hB16 (hS17.sel [] rfl) a (ha.sub ⟨rfl, rfl, rfl, trivial⟩)
theorem C_spec_l1Most (w0 : World) (x0 : Int) (x1 : Int) (r : Int) (hF : F_spec_l1Most x0 x1 = some r) :
    Calls Try.prog 149 [(.int .i64 x0), (.int .i64 x1)].toArray w0 fun e w' => e = .returned (.int .i64 r) ∧ Below w0.heap.size w0 w' := by
  refine calls_mk' Try.func149 rfl Try.ntmps149 rfl rfl fun Q hQ hP => ?_
  have hB : Below w0.heap.size w0 w0 := Below.refl _ _
  have hS : Sep w0.heap.size w0 [] := Sep.nil _ _
  unfold F_spec_l1Most at hF
  refine W.seq fun K1 hK1 => ?_
  refine W.region ?_
  refine wl_assign rfl rfl ?_
  refine WL.nil ?_
  refine fun a ha => hK1 _ _ ?_ a ha
  refine W.seq fun K2 hK2 => ?_
  refine W.seq fun K3 hK3 => ?_
  refine W.region ?_
  refine wl_move rfl rfl ?_
  refine wl_move rfl rfl ?_
  refine wl_gtr rfl rfl rfl ?_
  refine WL.nil ?_
  refine fun a ha => hK3 _ _ ?_ a ha
  refine W.cond rfl (fun h4 => ?_) (fun h4 => ?_)
  · replace hF := ifP h4 hF
    refine W.seq fun K5 hK5 => ?_
    refine W.region ?_
    refine wl_move rfl rfl ?_
    refine wl_assign rfl rfl ?_
    refine WL.nil ?_
    refine fun a ha => hK5 _ _ ?_ a ha
    refine W.ret ?_
    have hr := Option.some.inj hF
    subst hr
    exact rets (vs := [(.int .i64 x0)]) hQ rfl ⟨rv_tmp rfl, trivial⟩ ⟨rfl, hB⟩
  · replace hF := ifN h4 hF
    refine W.skip ?_
    refine fun a ha => hK2 _ _ ?_ a ha
    refine W.seq fun K6 hK6 => ?_
    refine W.region ?_
    refine wl_move rfl rfl ?_
    refine wl_assign rfl rfl ?_
    refine WL.nil ?_
    refine fun a ha => hK6 _ _ ?_ a ha
    refine W.ret ?_
    have hr := Option.some.inj hF
    subst hr
    exact rets (vs := [(.int .i64 x1)]) hQ rfl ⟨rv_tmp rfl, trivial⟩ ⟨rfl, hB⟩
theorem C_spec_l1Abs (w0 : World) (x0 : Int) (r : Int) (hF : F_spec_l1Abs x0 = some r) :
    Calls Try.prog 148 [(.int .i64 x0)].toArray w0 fun e w' => e = .returned (.int .i64 r) ∧ Below w0.heap.size w0 w' := by
  refine calls_mk' Try.func148 rfl Try.ntmps148 rfl rfl fun Q hQ hP => ?_
  have hB : Below w0.heap.size w0 w0 := Below.refl _ _
  have hS : Sep w0.heap.size w0 [] := Sep.nil _ _
  unfold F_spec_l1Abs at hF
  refine W.seq fun K1 hK1 => ?_
  refine W.region ?_
  refine wl_assign rfl rfl ?_
  refine WL.nil ?_
  refine fun a ha => hK1 _ _ ?_ a ha
  refine W.seq fun K2 hK2 => ?_
  refine W.region ?_
  refine wl_move rfl rfl ?_
  refine wl_move rfl rfl ?_
  refine wl_neg rfl rfl ?_
  obtain ⟨u3, hu3, hF⟩ := bindE hF
  refine wl_call rfl Try.call149 (C_spec_l1Most w0 x0 (w64 (0 - x0)) _ hu3) rfl ?_
  rintro _ w4 ⟨rfl, hb5⟩
  refine ⟨_, rfl, ?_⟩
  have hB6 := hB.trans (hb5.mono hB.size)
  have hS7 := hS.below hb5
  refine wl_assign rfl rfl ?_
  refine WL.nil ?_
  refine fun a ha => hK2 _ _ ?_ a ha
  refine W.ret ?_
  have hr := Option.some.inj hF
  subst hr
  exact rets (vs := [(.int .i64 u3)]) hQ rfl ⟨rv_tmp rfl, trivial⟩ ⟨rfl, hB6⟩
theorem C_spec_mvPart (w0 : World) (x0 : Int) (x1 : Int) (r : (Int × Int)) (hF : F_spec_mvPart x0 x1 = some r) :
    Calls Try.prog 145 [(.int .i64 x0), (.int .i64 x1)].toArray w0 fun e w' => e = .returned (.tuple #[(.int .i64 r.1), (.int .i64 r.2)]) ∧ Below w0.heap.size w0 w' := by
  refine calls_mk' Try.func145 rfl Try.ntmps145 rfl rfl fun Q hQ hP => ?_
  have hB : Below w0.heap.size w0 w0 := Below.refl _ _
  have hS : Sep w0.heap.size w0 [] := Sep.nil _ _
  unfold F_spec_mvPart at hF
  refine W.seq fun K1 hK1 => ?_
  refine W.region ?_
  refine wl_assign rfl rfl ?_
  refine wl_assign rfl rfl ?_
  refine WL.nil ?_
  refine fun a ha => hK1 _ _ ?_ a ha
  refine W.seq fun K2 hK2 => ?_
  refine W.region ?_
  refine wl_move rfl rfl ?_
  obtain ⟨u3, hu3, hF⟩ := bindE hF
  refine wl_call rfl Try.call148 (C_spec_l1Abs w0 x0 _ hu3) rfl ?_
  rintro _ w4 ⟨rfl, hb5⟩
  refine ⟨_, rfl, ?_⟩
  have hB6 := hB.trans (hb5.mono hB.size)
  have hS7 := hS.below hb5
  refine wl_move rfl rfl ?_
  refine wl_assign rfl rfl ?_
  refine wl_assign rfl rfl ?_
  refine WL.nil ?_
  refine fun a ha => hK2 _ _ ?_ a ha
  refine W.seq fun K9 hK9 => ?_
  refine W.block ?_
  refine W.loopk (fun m a w10 => ∃ (y13 : Int) (y14 : Int), St 25 [(0, (.int .i64 x0)), (1, (.int .i64 x1)), (6, (.int .i64 y13)), (7, (.int .i64 y14))] a ∧ Below w0.heap.size w0 w10 ∧ Sep w0.heap.size w10 [] ∧ F_spec_mvPart_L1 x0 x1 m y13 y14 = some r) FU ?_ ?_
  ·
    exact fun a ha => ⟨u3, x1, ha.sub ⟨rfl, rfl, rfl, rfl, trivial⟩, hB6, (hS7.sel [] rfl), hF⟩
  ·
    rintro m17 a w10 ⟨y13, y14, ha, hB11, hS12, hF⟩ KL16 hKL16
    refine W.at ?_ ha
    cases m17 with
    | zero => exact noneE hF
    | succ m17 =>
      obtain ⟨nx15, hnx15⟩ : ∃ k, k = F_spec_mvPart_L1 x0 x1 m17 := ⟨_, rfl⟩
      rw [F_spec_mvPart_L1, ← hnx15] at hF
      refine W.seq fun K18 hK18 => ?_
      refine W.seq fun K19 hK19 => ?_
      refine W.region ?_
      refine wl_move rfl rfl ?_
      refine wl_gtr rfl rfl rfl ?_
      refine WL.nil ?_
      refine fun a ha => hK19 _ _ ?_ a ha
      refine W.cond rfl (fun h20 => ?_) (fun h20 => ?_)
      · replace hF := ifP h20 hF
        refine W.skip ?_
        refine fun a ha => hK18 _ _ ?_ a ha
        refine W.block ?_
        refine W.seq fun K21 hK21 => ?_
        refine W.region ?_
        refine wl_move rfl rfl ?_
        refine wl_move rfl rfl ?_
        have h22 : y14 ≠ 0 := fun h22 => noneE (ifP h22 hF)
        replace hF := ifNP h22 hF
        refine wl_rem rfl rfl rfl h22 ?_
        refine wl_assign rfl rfl ?_
        refine WL.nil ?_
        refine fun a ha => hK21 _ _ ?_ a ha
        refine W.seq fun K23 hK23 => ?_
        refine W.region ?_
        refine wl_move rfl rfl ?_
        refine wl_assign rfl rfl ?_
        refine WL.nil ?_
        refine fun a ha => hK23 _ _ ?_ a ha
        refine W.region ?_
        refine wl_move rfl rfl ?_
        refine wl_assign rfl rfl ?_
        refine WL.nil ?_
        rw [hnx15] at hF
        exact fun a ha => hKL16 a _ m17 (Nat.lt_succ_self m17) ⟨y14, (Int.tmod y13 y14), ha.sub ⟨rfl, rfl, rfl, rfl, trivial⟩, hB11, (hS12.sel [] rfl), hF⟩
      · replace hF := ifN h20 hF
        refine W.exit ?_
        refine fun a ha => hK9 _ _ ?_ a ha
        refine W.seq fun K24 hK24 => ?_
        refine W.regionH mixed_ [] hB11 hS12 ?_
        intro w25 hb26 hB27 hS28
        have hSW29 := KeepX.refl w25 []
        refine WH.takex (i := 0) rfl (by kernel_rfl) (by kernel_rfl) (by kernel_rfl) hP hSW29 ?_
        refine pr_move rfl rfl ?_
        refine WH.takex (i := 1) rfl (by kernel_rfl) (by kernel_rfl) (by kernel_rfl) hP hSW29 ?_
        refine pr_move rfl rfl ?_
        have h30 : y13 ≠ 0 := fun h30 => noneE (ifP h30 hF)
        replace hF := ifNP h30 hF
        refine WH.takex (i := 2) rfl (by kernel_rfl) (by kernel_rfl) (by kernel_rfl) hP hSW29 ?_
        refine pr_quo rfl rfl rfl h30 ?_
        refine WH.takex (i := 3) rfl (by kernel_rfl) (by kernel_rfl) (by kernel_rfl) hP hSW29 ?_
        refine pr_move rfl rfl ?_
        refine WH.takex (i := 4) rfl (by kernel_rfl) (by kernel_rfl) (by kernel_rfl) hP hSW29 ?_
        refine pr_move rfl rfl ?_
        have h31 : y13 ≠ 0 := fun h31 => noneE (ifP h31 hF)
        replace hF := ifNP h31 hF
        refine WH.takex (i := 5) rfl (by kernel_rfl) (by kernel_rfl) (by kernel_rfl) hP hSW29 ?_
        refine pr_quo rfl rfl rfl h31 ?_
        refine WH.takex (i := 6) rfl (by kernel_rfl) (by kernel_rfl) (by kernel_rfl) hP hSW29 ?_
        refine pr_assign rfl rfl ?_
        refine WH.takex (i := 7) rfl (by kernel_rfl) (by kernel_rfl) (by kernel_rfl) hP hSW29 ?_
        refine pr_assign rfl rfl ?_
        refine WH.done (by kernel_rfl) ?_
        refine fun a ha => hK24 _ _ ?_ a ha
        refine W.ret ?_
        have hr := Option.some.inj hF
        subst hr
        exact rets (vs := [(.int .i64 (w64 (Int.tdiv x0 y13))), (.int .i64 (w64 (Int.tdiv x1 y13)))]) hQ rfl ⟨rv_tmp rfl, rv_tmp rfl, trivial⟩ ⟨rfl, hB27⟩
theorem C_spec_l1Least (w0 : World) (x0 : Int) (x1 : Int) (r : Int) (hF : F_spec_l1Least x0 x1 = some r) :
    Calls Try.prog 146 [(.int .i64 x0), (.int .i64 x1)].toArray w0 fun e w' => e = .returned (.int .i64 r) ∧ Below w0.heap.size w0 w' := by
  refine calls_mk' Try.func146 rfl Try.ntmps146 rfl rfl fun Q hQ hP => ?_
  have hB : Below w0.heap.size w0 w0 := Below.refl _ _
  have hS : Sep w0.heap.size w0 [] := Sep.nil _ _
  unfold F_spec_l1Least at hF
  refine W.seq fun K1 hK1 => ?_
  refine W.region ?_
  refine wl_assign rfl rfl ?_
  refine WL.nil ?_
  refine fun a ha => hK1 _ _ ?_ a ha
  refine W.seq fun K2 hK2 => ?_
  refine W.seq fun K3 hK3 => ?_
  refine W.region ?_
  refine wl_move rfl rfl ?_
  refine wl_move rfl rfl ?_
  refine wl_lss rfl rfl rfl ?_
  refine WL.nil ?_
  refine fun a ha => hK3 _ _ ?_ a ha
  refine W.cond rfl (fun h4 => ?_) (fun h4 => ?_)
  · replace hF := ifP h4 hF
    refine W.seq fun K5 hK5 => ?_
    refine W.region ?_
    refine wl_move rfl rfl ?_
    refine wl_assign rfl rfl ?_
    refine WL.nil ?_
    refine fun a ha => hK5 _ _ ?_ a ha
    refine W.ret ?_
    have hr := Option.some.inj hF
    subst hr
    exact rets (vs := [(.int .i64 x0)]) hQ rfl ⟨rv_tmp rfl, trivial⟩ ⟨rfl, hB⟩
  · replace hF := ifN h4 hF
    refine W.skip ?_
    refine fun a ha => hK2 _ _ ?_ a ha
    refine W.seq fun K6 hK6 => ?_
    refine W.region ?_
    refine wl_move rfl rfl ?_
    refine wl_assign rfl rfl ?_
    refine WL.nil ?_
    refine fun a ha => hK6 _ _ ?_ a ha
    refine W.ret ?_
    have hr := Option.some.inj hF
    subst hr
    exact rets (vs := [(.int .i64 x1)]) hQ rfl ⟨rv_tmp rfl, trivial⟩ ⟨rfl, hB⟩
theorem C_spec_apLeast (w0 : World) (x0 : ((Int × Int) × (Int × Int) × Int)) (x1 : ((Int × Int) × (Int × Int) × Int)) (r : (Int × Int)) (hF : F_spec_apLeast x0 x1 = some r) :
    Calls Try.prog 140 [(.agg #[(.int .i64 x0.1.1), (.int .i64 x0.1.2), (.int .i64 x0.2.1.1), (.int .i64 x0.2.1.2), (.int .i64 x0.2.2)]), (.agg #[(.int .i64 x1.1.1), (.int .i64 x1.1.2), (.int .i64 x1.2.1.1), (.int .i64 x1.2.1.2), (.int .i64 x1.2.2)])].toArray w0 fun e w' => e = .returned (.tuple #[(.int .i64 r.1), (.int .i64 r.2)]) ∧ Below w0.heap.size w0 w' := by
  refine calls_mk' Try.func140 rfl Try.ntmps140 rfl rfl fun Q hQ hP => ?_
  have hB : Below w0.heap.size w0 w0 := Below.refl _ _
  have hS : Sep w0.heap.size w0 [] := Sep.nil _ _
  unfold F_spec_apLeast at hF
  refine W.seq fun K1 hK1 => ?_
  refine W.region ?_
  refine wl_box (cs := [(.int .i64 x0.1.1), (.int .i64 x0.1.2), (.int .i64 x0.2.1.1), (.int .i64 x0.2.1.2), (.int .i64 x0.2.2)]) rfl rfl rfl hB hS ?_
  intro b2 w3 hb4 hB5 hS6
  refine wl_box (cs := [(.int .i64 x1.1.1), (.int .i64 x1.1.2), (.int .i64 x1.2.1.1), (.int .i64 x1.2.1.2), (.int .i64 x1.2.2)]) rfl rfl rfl hB5 hS6 ?_
  intro b7 w8 hb9 hB10 hS11
  refine wl_assign rfl rfl ?_
  refine wl_assign rfl rfl ?_
  refine WL.nil ?_
  refine fun a ha => hK1 _ _ ?_ a ha
  refine W.seq fun K12 hK12 => ?_
  refine W.region ?_
  refine wl_load_blk (i := 1) (vs := [(.int .i64 x0.1.1), (.int .i64 x0.1.2), (.int .i64 x0.2.1.1), (.int .i64 x0.2.1.2), (.int .i64 x0.2.2)]) (v := (.agg #[(.int .i64 x0.1.1), (.int .i64 x0.1.2), (.int .i64 x0.2.1.1), (.int .i64 x0.2.1.2), (.int .i64 x0.2.2)])) tf_117 rfl rfl hS11 rfl rfl rfl ?_
  refine wl_load_blk (i := 0) (vs := [(.int .i64 x1.1.1), (.int .i64 x1.1.2), (.int .i64 x1.2.1.1), (.int .i64 x1.2.1.2), (.int .i64 x1.2.2)]) (v := (.agg #[(.int .i64 x1.1.1), (.int .i64 x1.1.2), (.int .i64 x1.2.1.1), (.int .i64 x1.2.1.2), (.int .i64 x1.2.2)])) tf_117 rfl rfl hS11 rfl rfl rfl ?_
  obtain ⟨u13, hu13, hF⟩ := bindE hF
  refine wl_call rfl Try.call143 (C_spec_apEnds w8 x0 x1 _ hu13) rfl ?_
  rintro _ w14 ⟨rfl, hb15⟩
  refine ⟨_, rfl, ?_⟩
  have hB16 := hB10.trans (hb15.mono hB10.size)
  have hS17 := hS11.below hb15
  refine wl_move rfl rfl ?_
  refine wl_extract rfl rfl rfl ?_
  refine wl_extract rfl rfl rfl ?_
  refine wl_extract rfl rfl rfl ?_
  refine wl_extract rfl rfl rfl ?_
  refine wl_assign rfl rfl ?_
  refine wl_assign rfl rfl ?_
  refine wl_assign rfl rfl ?_
  refine wl_assign rfl rfl ?_
  refine WL.nil ?_
  refine fun a ha => hK12 _ _ ?_ a ha
  refine W.seq fun K19 hK19 => ?_
  refine W.seq fun K20 hK20 => ?_
  refine W.region ?_
  refine wl_load_blk (i := 1) (vs := [(.int .i64 x0.1.1), (.int .i64 x0.1.2), (.int .i64 x0.2.1.1), (.int .i64 x0.2.1.2), (.int .i64 x0.2.2)]) (v := (.agg #[(.int .i64 x0.1.1), (.int .i64 x0.1.2), (.int .i64 x0.2.1.1), (.int .i64 x0.2.1.2), (.int .i64 x0.2.2)])) tf_117 rfl rfl hS17 rfl rfl rfl ?_
  refine wl_load_blk (i := 0) (vs := [(.int .i64 x1.1.1), (.int .i64 x1.1.2), (.int .i64 x1.2.1.1), (.int .i64 x1.2.1.2), (.int .i64 x1.2.2)]) (v := (.agg #[(.int .i64 x1.1.1), (.int .i64 x1.1.2), (.int .i64 x1.2.1.1), (.int .i64 x1.2.1.2), (.int .i64 x1.2.2)])) tf_117 rfl rfl hS17 rfl rfl rfl ?_
  obtain ⟨u21, hu21, hF⟩ := bindE hF
  refine wl_call rfl Try.call144 (C_spec_apInner w14 x0 x1 _ hu21) rfl ?_
  rintro _ w22 ⟨rfl, hb23⟩
  refine ⟨_, rfl, ?_⟩
  have hB24 := hB16.trans (hb23.mono hB16.size)
  have hS25 := hS17.below hb23
  refine wl_move rfl rfl ?_
  refine wl_extract rfl rfl rfl ?_
  refine wl_extract rfl rfl rfl ?_
  refine wl_assign rfl rfl ?_
  refine wl_assign rfl rfl ?_
  refine WL.nil ?_
  refine fun a ha => hK20 _ _ ?_ a ha
  refine W.seq fun K27 hK27 => ?_
  refine W.region ?_
  refine wl_move rfl rfl ?_
  refine wl_gtr rfl rfl rfl ?_
  refine WL.nil ?_
  refine fun a ha => hK27 _ _ ?_ a ha
  refine W.cond rfl (fun h28 => ?_) (fun h28 => ?_)
  · replace hF := ifP h28 hF
    refine W.seq fun K29 hK29 => ?_
    refine W.region ?_
    refine wl_move rfl rfl ?_
    refine wl_move rfl rfl ?_
    refine wl_mul rfl rfl rfl ?_
    refine wl_move rfl rfl ?_
    refine wl_move rfl rfl ?_
    refine wl_mul rfl rfl rfl ?_
    refine wl_sub rfl rfl rfl ?_
    refine wl_assign rfl rfl ?_
    refine WL.nil ?_
    refine fun a ha => hK29 _ _ ?_ a ha
    refine W.seq fun K30 hK30 => ?_
    refine W.region ?_
    refine wl_move rfl rfl ?_
    refine wl_move rfl rfl ?_
    refine wl_mul rfl rfl rfl ?_
    refine wl_move rfl rfl ?_
    obtain ⟨u31, hu31, hF⟩ := bindE hF
    refine wl_call rfl Try.call145 (C_spec_mvPart w22 (w64 ((w64 ((w64 (u13.1 * u13.2.2.2)) - (w64 (u13.2.1 * u13.2.2.1)))) * (w64 ((w64 (u13.1 * u13.2.2.2)) - (w64 (u13.2.1 * u13.2.2.1)))))) u21.2 _ hu31) rfl ?_
    rintro _ w32 ⟨rfl, hb33⟩
    refine ⟨_, rfl, ?_⟩
    have hB34 := hB24.trans (hb33.mono hB24.size)
    have hS35 := hS25.below hb33
    refine wl_extract rfl rfl rfl ?_
    refine wl_extract rfl rfl rfl ?_
    refine wl_assign rfl rfl ?_
    refine wl_assign rfl rfl ?_
    refine WL.nil ?_
    refine fun a ha => hK30 _ _ ?_ a ha
    refine W.ret ?_
    have hr := Option.some.inj hF
    subst hr
    exact rets (vs := [(.int .i64 u31.1), (.int .i64 u31.2)]) hQ rfl ⟨rv_tmp rfl, rv_tmp rfl, trivial⟩ ⟨rfl, hB34⟩
  · replace hF := ifN h28 hF
    refine W.skip ?_
    refine fun a ha => hK19 _ _ ?_ a ha
    refine W.seq fun K37 hK37 => ?_
    refine W.region ?_
    refine wl_move rfl rfl ?_
    refine wl_move rfl rfl ?_
    refine wl_mul rfl rfl rfl ?_
    refine wl_move rfl rfl ?_
    refine wl_move rfl rfl ?_
    refine wl_mul rfl rfl rfl ?_
    refine wl_add rfl rfl rfl ?_
    refine wl_move rfl rfl ?_
    refine wl_move rfl rfl ?_
    refine wl_mul rfl rfl rfl ?_
    refine wl_move rfl rfl ?_
    refine wl_move rfl rfl ?_
    refine wl_mul rfl rfl rfl ?_
    refine wl_add rfl rfl rfl ?_
    obtain ⟨u38, hu38, hF⟩ := bindE hF
    refine wl_call rfl Try.call146 (C_spec_l1Least w22 (w64 ((w64 (u13.1 * u13.1)) + (w64 (u13.2.1 * u13.2.1)))) (w64 ((w64 (u13.2.2.1 * u13.2.2.1)) + (w64 (u13.2.2.2 * u13.2.2.2)))) _ hu38) rfl ?_
    rintro _ w39 ⟨rfl, hb40⟩
    refine ⟨_, rfl, ?_⟩
    have hB41 := hB24.trans (hb40.mono hB24.size)
    have hS42 := hS25.below hb40
    refine wl_assign rfl rfl ?_
    refine wl_assign rfl rfl ?_
    refine WL.nil ?_
    refine fun a ha => hK37 _ _ ?_ a ha
    refine W.ret ?_
    have hr := Option.some.inj hF
    subst hr
    exact rets (vs := [(.int .i64 u38), (.int .i64 1)]) hQ rfl ⟨rv_tmp rfl, rv_tmp rfl, trivial⟩ ⟨rfl, hB41⟩
theorem C_spec_apStay (w0 : World) (x0 : ((Int × Int) × (Int × Int) × Int)) (x1 : ((Int × Int) × (Int × Int) × Int)) (x2 : Int) (r : Bool) (hF : F_spec_apStay x0 x1 x2 = some r) :
    Calls Try.prog 134 [(.agg #[(.int .i64 x0.1.1), (.int .i64 x0.1.2), (.int .i64 x0.2.1.1), (.int .i64 x0.2.1.2), (.int .i64 x0.2.2)]), (.agg #[(.int .i64 x1.1.1), (.int .i64 x1.1.2), (.int .i64 x1.2.1.1), (.int .i64 x1.2.1.2), (.int .i64 x1.2.2)]), (.int .i64 x2)].toArray w0 fun e w' => e = .returned (.bool r) ∧ Below w0.heap.size w0 w' := by
  refine calls_mk' Try.func134 rfl Try.ntmps134 rfl rfl fun Q hQ hP => ?_
  have hB : Below w0.heap.size w0 w0 := Below.refl _ _
  have hS : Sep w0.heap.size w0 [] := Sep.nil _ _
  unfold F_spec_apStay at hF
  refine W.seq fun K1 hK1 => ?_
  refine W.region ?_
  refine wl_box (cs := [(.int .i64 x0.1.1), (.int .i64 x0.1.2), (.int .i64 x0.2.1.1), (.int .i64 x0.2.1.2), (.int .i64 x0.2.2)]) rfl rfl rfl hB hS ?_
  intro b2 w3 hb4 hB5 hS6
  refine wl_box (cs := [(.int .i64 x1.1.1), (.int .i64 x1.1.2), (.int .i64 x1.2.1.1), (.int .i64 x1.2.1.2), (.int .i64 x1.2.2)]) rfl rfl rfl hB5 hS6 ?_
  intro b7 w8 hb9 hB10 hS11
  refine wl_assign rfl rfl ?_
  refine WL.nil ?_
  refine fun a ha => hK1 _ _ ?_ a ha
  refine W.seq fun K12 hK12 => ?_
  refine W.region ?_
  refine wl_load_blk (i := 1) (vs := [(.int .i64 x0.1.1), (.int .i64 x0.1.2), (.int .i64 x0.2.1.1), (.int .i64 x0.2.1.2), (.int .i64 x0.2.2)]) (v := (.agg #[(.int .i64 x0.1.1), (.int .i64 x0.1.2), (.int .i64 x0.2.1.1), (.int .i64 x0.2.1.2), (.int .i64 x0.2.2)])) tf_117 rfl rfl hS11 rfl rfl rfl ?_
  refine wl_load_blk (i := 0) (vs := [(.int .i64 x1.1.1), (.int .i64 x1.1.2), (.int .i64 x1.2.1.1), (.int .i64 x1.2.1.2), (.int .i64 x1.2.2)]) (v := (.agg #[(.int .i64 x1.1.1), (.int .i64 x1.1.2), (.int .i64 x1.2.1.1), (.int .i64 x1.2.1.2), (.int .i64 x1.2.2)])) tf_117 rfl rfl hS11 rfl rfl rfl ?_
  obtain ⟨u13, hu13, hF⟩ := bindE hF
  refine wl_call rfl Try.call140 (C_spec_apLeast w8 x0 x1 _ hu13) rfl ?_
  rintro _ w14 ⟨rfl, hb15⟩
  refine ⟨_, rfl, ?_⟩
  have hB16 := hB10.trans (hb15.mono hB10.size)
  have hS17 := hS11.below hb15
  refine wl_move rfl rfl ?_
  refine wl_extract rfl rfl rfl ?_
  refine wl_extract rfl rfl rfl ?_
  refine wl_assign rfl rfl ?_
  refine wl_assign rfl rfl ?_
  refine WL.nil ?_
  refine fun a ha => hK12 _ _ ?_ a ha
  refine W.seq fun K19 hK19 => ?_
  refine W.region ?_
  refine wl_move rfl rfl ?_
  refine wl_move rfl rfl ?_
  refine wl_move rfl rfl ?_
  refine wl_mul rfl rfl rfl ?_
  refine wl_move rfl rfl ?_
  refine wl_mul rfl rfl rfl ?_
  refine wl_geq rfl rfl rfl ?_
  refine wl_assign rfl rfl ?_
  refine WL.nil ?_
  refine fun a ha => hK19 _ _ ?_ a ha
  refine W.ret ?_
  have hr := Option.some.inj hF
  subst hr
  exact rets (vs := [(.bool (decide ((w64 ((w64 (x2 * x2)) * u13.2)) ≤ u13.1)))]) hQ rfl ⟨rv_tmp rfl, trivial⟩ ⟨rfl, hB16⟩
theorem C_spec_swClose (w0 : World) (x0 : ((List (List (Int × Int))) × (List Int) × Int × Int)) (v0_0 : Value) (h0_0 : rdS ty_82 (· < w0.heap.size) w0 v0_0 x0.1) (v0_1 : Value) (h0_1 : rdS ty_3 (· < w0.heap.size) w0 v0_1 x0.2.1) (x1 : Int) (r : (List (List Int))) (hF : F_spec_swClose x0 x1 = some r) :
    Calls Try.prog 117 [(.agg #[v0_0, v0_1, (.int .i64 x0.2.2.1), (.int .i64 x0.2.2.2)]), (.int .i64 x1)].toArray w0 fun e w' => ∃ (q0 : Value) (G0 : List Nat), e = .returned q0 ∧ Below w0.heap.size w0 w' ∧ Sep w0.heap.size w' [R.own ty_24 G0 q0 r] := by
  refine calls_mk' Try.func117 rfl Try.ntmps117 rfl rfl fun Q hQ hP => ?_
  have hB : Below w0.heap.size w0 w0 := Below.refl _ _
  have hS : Sep w0.heap.size w0 [] := Sep.nil _ _
  unfold F_spec_swClose at hF
  refine W.seq fun K1 hK1 => ?_
  refine W.region ?_
  refine wl_box (cs := [v0_0, v0_1, (.int .i64 x0.2.2.1), (.int .i64 x0.2.2.2)]) rfl rfl rfl hB hS ?_
  intro b2 w3 hb4 hB5 hS6
  refine wl_assign rfl rfl ?_
  refine WL.nil ?_
  refine fun a ha => hK1 _ _ ?_ a ha
  refine W.seq fun K7 hK7 => ?_
  refine W.region ?_
  refine wl_load_blk (i := 0) (vs := [v0_0, v0_1, (.int .i64 x0.2.2.1), (.int .i64 x0.2.2.2)]) (v := (.agg #[v0_0, v0_1, (.int .i64 x0.2.2.1), (.int .i64 x0.2.2.2)])) tf_42 rfl rfl hS6 rfl rfl rfl ?_
  refine wl_move rfl rfl ?_
  obtain ⟨u8, hu8, hF⟩ := bindE hF
  refine wl_call rfl Try.call119 (C_spec_swMoves w3 x0 v0_0 (h0_0.ro hB5) v0_1 (h0_1.ro hB5) x1 _ hu8) rfl ?_
  rintro _ w11 ⟨v9, F10, rfl, hb12, hM15⟩
  refine ⟨_, rfl, ?_⟩
  have hB13 := hB5.trans (hb12.mono hB5.size)
  have hS14 := hS6.join hb12 hM15 hB5.size
  refine wl_assign rfl rfl ?_
  refine WL.nil ?_
  refine fun a ha => hK7 _ _ ?_ a ha
  refine W.seq fun K16 hK16 => ?_
  refine W.region ?_
  refine wl_assign rfl rfl ?_
  refine WL.nil ?_
  refine fun a ha => hK16 _ _ ?_ a ha
  refine W.seq fun K17 hK17 => ?_
  refine W.seq fun K18 hK18 => ?_
  refine W.region ?_
  refine wl_move rfl rfl ?_
  refine wl_lenr (e := ty_117) (l := u8) Try.underlying114 rfl rfl (hS14.own_ro (i := 0) rfl) ?_
  refine wl_move rfl rfl ?_
  refine WL.nil ?_
  refine fun a ha => hK18 _ _ ?_ a ha
  refine W.block ?_
  refine W.loopk (fun m a w19 => ∃ (l22 : (List (List Int))) (y25 : Int) (v23 : Value) (F24 : List Nat), St 45 [(2, (.pointer (some ⟨b2, 0, none⟩))), (5, v9), (6, v23), (13, v9), (14, (.int .i64 (List.length u8 : Int))), (15, (.int .i64 y25))] a ∧ Below w0.heap.size w0 w19 ∧ Sep w0.heap.size w19 [R.blk b2 42 [v0_0, v0_1, (.int .i64 x0.2.2.1), (.int .i64 x0.2.2.2)], R.own ty_117 F10 v9 u8, R.own ty_24 F24 v23 l22] ∧ F_spec_swClose_L1 u8 x0 m l22 y25 = some r) FU ?_ ?_
  ·
    have hS27 := hS14.push0 (r := R.own ty_24 [] (.slice none 0 0) []) rfl fun _ => .inl ⟨rfl, rfl, rfl⟩
    exact fun a ha => ⟨[], 0, (.slice none 0 0), [], ha.sub ⟨rfl, rfl, rfl, rfl, rfl, rfl, trivial⟩, hB13, (hS27.sel [2, 1, 0] rfl), hF⟩
  ·
    rintro m29 a w19 ⟨l22, y25, v23, F24, ha, hB20, hS21, hF⟩ KL28 hKL28
    refine W.at ?_ ha
    cases m29 with
    | zero => exact noneE hF
    | succ m29 =>
      obtain ⟨nx26, hnx26⟩ : ∃ k, k = F_spec_swClose_L1 u8 x0 m29 := ⟨_, rfl⟩
      rw [F_spec_swClose_L1, ← hnx26] at hF
      refine W.seq fun K30 hK30 => ?_
      refine W.region ?_
      refine wl_lss rfl rfl rfl ?_
      refine WL.nil ?_
      refine fun a ha => hK30 _ _ ?_ a ha
      refine W.seq fun K31 hK31 => ?_
      refine W.cond rfl (fun h32 => ?_) (fun h32 => ?_)
      · replace hF := ifP h32 hF
        refine W.skip ?_
        refine fun a ha => hK31 _ _ ?_ a ha
        refine W.seq fun K33 hK33 => ?_
        refine W.block ?_
        refine W.seq fun K34 hK34 => ?_
        refine W.region ?_
        refine wl_move rfl rfl ?_
        obtain ⟨u35, hu35, hF⟩ := bindE hF
        refine wl_indexo (e := ty_117) (i := 1) Try.underlying114 rfl rfl rfl hS21 rfl hu35 ?_
        rintro p36 _ rfl hp37 ho38
        refine wl_load_p (vs := [(.int .i64 u35.1.1), (.int .i64 u35.1.2), (.int .i64 u35.2.1.1), (.int .i64 u35.2.1.2), (.int .i64 u35.2.2)]) (v := (.agg #[(.int .i64 u35.1.1), (.int .i64 u35.1.2), (.int .i64 u35.2.1.1), (.int .i64 u35.2.1.2), (.int .i64 u35.2.2)])) tf_117 rfl rfl hp37 rfl rfl ?_
        refine wl_alloc (cs := [(.int .i64 0), (.int .i64 0), (.int .i64 0), (.int .i64 0), (.int .i64 0)]) tf_117 rfl rfl hB20 hS21 ?_
        intro b39 w40 hb41 hB42 hS43
        refine wl_assign rfl rfl ?_
        refine wl_store_blk (i := 0) (vs := [(.int .i64 u35.1.1), (.int .i64 u35.1.2), (.int .i64 u35.2.1.1), (.int .i64 u35.2.1.2), (.int .i64 u35.2.2)]) (cs' := [(.int .i64 u35.1.1), (.int .i64 u35.1.2), (.int .i64 u35.2.1.1), (.int .i64 u35.2.1.2), (.int .i64 u35.2.2)]) tf_117 rfl rfl rfl rfl hB42 hS43 rfl rfl ⟨rfl, rfl, rfl, rfl, rfl, trivial⟩ rfl ?_
        intro w44 hk47 hB45 hS46
        refine WL.nil ?_
        refine fun a ha => hK34 _ _ ?_ a ha
        refine W.seq fun K48 hK48 => ?_
        refine W.region ?_
        refine wl_move rfl rfl ?_
        refine wl_add rfl rfl rfl ?_
        refine wl_assign rfl rfl ?_
        refine WL.nil ?_
        refine fun a ha => hK48 _ _ ?_ a ha
        refine W.block ?_
        refine W.loopk (fun m a w49 => ∃ (l52 : (List (List Int))) (y55 : Int) (v53 : Value) (F54 : List Nat), St 45 [(2, (.pointer (some ⟨b2, 0, none⟩))), (5, v9), (6, v53), (7, (.int .i64 y25)), (8, (.pointer (some ⟨b39, 0, none⟩))), (9, (.int .i64 y55)), (13, v9), (14, (.int .i64 (List.length u8 : Int))), (15, (.int .i64 y25))] a ∧ Below w0.heap.size w0 w49 ∧ Sep w0.heap.size w49 [R.blk b2 42 [v0_0, v0_1, (.int .i64 x0.2.2.1), (.int .i64 x0.2.2.2)], R.own ty_117 F10 v9 u8, R.own ty_24 F54 v53 l52, R.blk b39 117 [(.int .i64 u35.1.1), (.int .i64 u35.1.2), (.int .i64 u35.2.1.1), (.int .i64 u35.2.1.2), (.int .i64 u35.2.2)]] ∧ F_spec_swClose_L2 u8 u35 x0 y25 nx26 m l52 y55 = some r) FU ?_ ?_
        ·
          exact fun a ha => ⟨l22, (w64 (y25 + 1)), v23, F24, ha.sub ⟨rfl, rfl, rfl, rfl, rfl, rfl, rfl, rfl, rfl, trivial⟩, hB45, (hS46.sel [1, 2, 3, 0] rfl), hF⟩
        ·
          rintro m58 a w49 ⟨l52, y55, v53, F54, ha, hB50, hS51, hF⟩ KL57 hKL57
          refine W.at ?_ ha
          cases m58 with
          | zero => exact noneE hF
          | succ m58 =>
            obtain ⟨nx56, hnx56⟩ : ∃ k, k = F_spec_swClose_L2 u8 u35 x0 y25 nx26 m58 := ⟨_, rfl⟩
            rw [F_spec_swClose_L2, ← hnx56] at hF
            refine W.seq fun K59 hK59 => ?_
            refine W.seq fun K60 hK60 => ?_
            refine W.region ?_
            refine wl_move rfl rfl ?_
            refine wl_move rfl rfl ?_
            refine wl_lenr (e := ty_117) (l := u8) Try.underlying114 rfl rfl (hS51.own_ro (i := 1) rfl) ?_
            refine wl_lss rfl rfl rfl ?_
            refine WL.nil ?_
            refine fun a ha => hK60 _ _ ?_ a ha
            refine W.cond rfl (fun h61 => ?_) (fun h61 => ?_)
            · replace hF := ifP h61 hF
              refine W.skip ?_
              refine fun a ha => hK59 _ _ ?_ a ha
              refine W.seq fun K62 hK62 => ?_
              obtain ⟨k69, hk69, hF⟩ := jE1 hF
              have hJ70 : ∀ (l66 : (List (List Int))) (v67 : Value) (F68 : List Nat) (w63 : World) (_ : k69 l66 = some r) (_ : Below w0.heap.size w0 w63) (_ : Sep w0.heap.size w63 [R.blk b2 42 [v0_0, v0_1, (.int .i64 x0.2.2.1), (.int .i64 x0.2.2.2)], R.own ty_117 F10 v9 u8, R.own ty_24 F68 v67 l66, R.blk b39 117 [(.int .i64 u35.1.1), (.int .i64 u35.1.2), (.int .i64 u35.2.1.1), (.int .i64 u35.2.1.2), (.int .i64 u35.2.2)]]), ∀ a, St 45 [(2, (.pointer (some ⟨b2, 0, none⟩))), (5, v9), (6, v67), (7, (.int .i64 y25)), (8, (.pointer (some ⟨b39, 0, none⟩))), (9, (.int .i64 y55)), (13, v9), (14, (.int .i64 (List.length u8 : Int))), (15, (.int .i64 y25))] a → K62 a w63 := by
                intro l66 v67 F68 w63 hF hB64 hS65
                subst hk69
                refine fun a ha => hK62 _ _ ?_ a ha
                refine W.region ?_
                refine wl_move rfl rfl ?_
                refine wl_add rfl rfl rfl ?_
                refine wl_assign rfl rfl ?_
                refine WL.nil ?_
                rw [hnx56] at hF
                exact fun a ha => hKL57 a _ m58 (Nat.lt_succ_self m58) ⟨l66, (w64 (y55 + 1)), v67, F68, ha.sub ⟨rfl, rfl, rfl, rfl, rfl, rfl, rfl, rfl, rfl, trivial⟩, hB64, (hS65.sel [0, 1, 2, 3] rfl), hF⟩
              refine W.block ?_
              refine W.seq fun K71 hK71 => ?_
              refine W.regionH mixed_ [] hB50 hS51 ?_
              intro w72 hb73 hB74 hS75
              have hSW76 := KeepX.refl w72 []
              refine WH.takex (i := 0) rfl (by kernel_rfl) (by kernel_rfl) (by kernel_rfl) hP hSW76 ?_
              refine pr_load_blk (i := 3) (vs := [(.int .i64 u35.1.1), (.int .i64 u35.1.2), (.int .i64 u35.2.1.1), (.int .i64 u35.2.1.2), (.int .i64 u35.2.2)]) (v := (.agg #[(.int .i64 u35.1.1), (.int .i64 u35.1.2), (.int .i64 u35.2.1.1), (.int .i64 u35.2.1.2), (.int .i64 u35.2.2)])) tf_117 rfl rfl hS75 rfl rfl rfl (by simp) ?_
              refine WH.takex (i := 1) rfl (by kernel_rfl) (by kernel_rfl) (by kernel_rfl) hP hSW76 ?_
              refine pr_move rfl rfl ?_
              refine WH.takex (i := 2) rfl (by kernel_rfl) (by kernel_rfl) (by kernel_rfl) hP hSW76 ?_
              refine pr_move rfl rfl ?_
              obtain ⟨u77, hu77, hF⟩ := bindE hF
              refine WH.takex (i := 3) rfl (by kernel_rfl) (by kernel_rfl) (by kernel_rfl) hP hSW76 ?_
              refine pr_indexo (e := ty_117) (i := 1) Try.underlying114 rfl rfl rfl hS75 rfl hu77 ?_
              rintro p78 _ rfl hp79 ho80
              refine WH.takex (i := 4) rfl (by kernel_rfl) (by kernel_rfl) (by kernel_rfl) hP hSW76 ?_
              refine pr_load_p (vs := [(.int .i64 u77.1.1), (.int .i64 u77.1.2), (.int .i64 u77.2.1.1), (.int .i64 u77.2.1.2), (.int .i64 u77.2.2)]) (v := (.agg #[(.int .i64 u77.1.1), (.int .i64 u77.1.2), (.int .i64 u77.2.1.1), (.int .i64 u77.2.1.2), (.int .i64 u77.2.2)])) tf_117 rfl rfl (hp79.kx0) rfl rfl ?_
              refine WH.takex (i := 5) rfl (by kernel_rfl) (by kernel_rfl) (by kernel_rfl) hP hSW76 ?_
              refine pr_field (o := 2) (off' := 2) ff_42_2 rfl rfl rfl ?_
              refine WH.takex (i := 6) rfl (by kernel_rfl) (by kernel_rfl) (by kernel_rfl) hP hSW76 ?_
              refine pr_load_blk (i := 0) (vs := [(.int .i64 x0.2.2.1)]) (v := (.int .i64 x0.2.2.1)) tf_3 rfl rfl hS75 rfl rfl rfl (by simp) ?_
              refine WH.one (i := 7) (by kernel_rfl) rfl ?_
              obtain ⟨u81, hu81, hF⟩ := bindE hF
              refine wl_call rfl Try.call134 (C_spec_apStay w72 u35 u77 x0.2.2.1 _ hu81) rfl ?_
              rintro _ w82 ⟨rfl, hb83⟩
              refine ⟨_, rfl, ?_⟩
              have hB84 := hB74.trans (hb83.mono hB74.size)
              have hS85 := hS75.below hb83
              have hSW87 := hSW76.ext hb83
              refine WL.nil (WH.ret hSW87 ?_)
              refine WH.takex (i := 8) rfl (by kernel_rfl) (by kernel_rfl) (by kernel_rfl) hP hSW87 ?_
              refine pr_not rfl rfl ?_
              refine WH.done (by kernel_rfl) ?_
              refine fun a ha => hK71 _ _ ?_ a ha
              refine W.cond rfl (fun h88 => ?_) (fun h88 => ?_)
              · replace hF := ifP h88 hF
                refine W.region ?_
                refine wl_move rfl rfl ?_
                refine wl_move rfl rfl ?_
                refine wl_move rfl rfl ?_
                refine wl_lit (vs := [(.int .i64 y25), (.int .i64 y55)]) (l := [y25, y55]) fl_3 Try.underlying24 rfl rfl rfl rfl rfl rfl hB84 hS85 ?_
                intro v89 F90 w91 hb92 hB93 hS94
                have hq95 := hS94.sel [0, 1, 2, 3, 4] rfl
                have hq96 := hq95.head (r' := R.cel ty_24 F90 [v89] [y25, y55]) (rfl) fun _ h0 => ⟨_, rfl, h0⟩
                refine wl_lit1 (e := ty_24) (vs := [v89]) Try.underlying112 rfl rfl (cells_one (hS94.own_ro (i := 0) rfl).one) rfl hB93 hq96 ?_
                intro v97 F98 w99 hb100 hf101 hB102 hS103
                obtain ⟨u104, hu104, hF⟩ := bindE hF
                refine wl_appendn (e := ty_24) Try.underlying112 rfl rfl rfl hB102 (hS103.sel [3, 0, 1, 2, 4] rfl) hu104 ?_
                intro v105 F106 w107 hk108 hB109 hS110
                refine wl_assign rfl rfl ?_
                refine WL.nil ?_
                exact fun a ha => hJ70 (u104) (v105) (F106) _ hF hB109 (hS110.sel [1, 2, 0, 3] rfl) a (ha.sub ⟨rfl, rfl, rfl, rfl, rfl, rfl, rfl, rfl, rfl, trivial⟩)
              · replace hF := ifN h88 hF
                refine W.skip ?_
                exact fun a ha => hJ70 (l52) (v53) (F54) _ hF hB84 (hS85.sel [0, 1, 2, 3] rfl) a (ha.sub ⟨rfl, rfl, rfl, rfl, rfl, rfl, rfl, rfl, rfl, trivial⟩)
            · replace hF := ifN h61 hF
              refine W.exit ?_
              refine fun a ha => hK33 _ _ ?_ a ha
              refine W.region ?_
              refine wl_add rfl rfl rfl ?_
              refine wl_move rfl rfl ?_
              refine WL.nil ?_
              rw [hnx26] at hF
              exact fun a ha => hKL28 a _ m29 (Nat.lt_succ_self m29) ⟨l52, (w64 (y25 + 1)), v53, F54, ha.sub ⟨rfl, rfl, rfl, rfl, rfl, rfl, trivial⟩, hB50, (hS51.sel [0, 1, 2] rfl), hF⟩
      · replace hF := ifN h32 hF
        refine W.exit ?_
        refine fun a ha => hK17 _ _ ?_ a ha
        refine W.seq fun K111 hK111 => ?_
        refine W.region ?_
        refine wl_move rfl rfl ?_
        refine wl_assign rfl rfl ?_
        refine WL.nil ?_
        refine fun a ha => hK111 _ _ ?_ a ha
        refine W.ret ?_
        have hr := Option.some.inj hF
        subst hr
        exact rets (vs := [v23]) hQ rfl ⟨rv_tmp rfl, trivial⟩ ⟨v23, F24, rfl, hB20, hS21.sel [2] rfl⟩
theorem C_spec_stSquare (w0 : World) (x0 : (Int × Int)) (x1 : (Int × Int)) (r : Int) (hF : F_spec_stSquare x0 x1 = some r) :
    Calls Try.prog 120 [(.agg #[(.int .i64 x0.1), (.int .i64 x0.2)]), (.agg #[(.int .i64 x1.1), (.int .i64 x1.2)])].toArray w0 fun e w' => e = .returned (.int .i64 r) ∧ Below w0.heap.size w0 w' := by
  refine calls_mk' Try.func120 rfl Try.ntmps120 rfl rfl fun Q hQ hP => ?_
  have hB : Below w0.heap.size w0 w0 := Below.refl _ _
  have hS : Sep w0.heap.size w0 [] := Sep.nil _ _
  unfold F_spec_stSquare at hF
  refine W.seq fun K1 hK1 => ?_
  refine W.region ?_
  refine wl_box (cs := [(.int .i64 x0.1), (.int .i64 x0.2)]) rfl rfl rfl hB hS ?_
  intro b2 w3 hb4 hB5 hS6
  refine wl_box (cs := [(.int .i64 x1.1), (.int .i64 x1.2)]) rfl rfl rfl hB5 hS6 ?_
  intro b7 w8 hb9 hB10 hS11
  refine wl_assign rfl rfl ?_
  refine WL.nil ?_
  refine fun a ha => hK1 _ _ ?_ a ha
  refine W.seq fun K12 hK12 => ?_
  refine W.region ?_
  refine wl_field (o := 0) (off' := 0) ff_106_0 rfl rfl rfl ?_
  refine wl_load_blk (i := 1) (vs := [(.int .i64 x0.1)]) (v := (.int .i64 x0.1)) tf_3 rfl rfl hS11 rfl rfl rfl ?_
  refine wl_field (o := 0) (off' := 0) ff_106_0 rfl rfl rfl ?_
  refine wl_load_blk (i := 0) (vs := [(.int .i64 x1.1)]) (v := (.int .i64 x1.1)) tf_3 rfl rfl hS11 rfl rfl rfl ?_
  refine wl_sub rfl rfl rfl ?_
  refine wl_field (o := 0) (off' := 0) ff_106_0 rfl rfl rfl ?_
  refine wl_load_blk (i := 1) (vs := [(.int .i64 x0.1)]) (v := (.int .i64 x0.1)) tf_3 rfl rfl hS11 rfl rfl rfl ?_
  refine wl_field (o := 0) (off' := 0) ff_106_0 rfl rfl rfl ?_
  refine wl_load_blk (i := 0) (vs := [(.int .i64 x1.1)]) (v := (.int .i64 x1.1)) tf_3 rfl rfl hS11 rfl rfl rfl ?_
  refine wl_sub rfl rfl rfl ?_
  refine wl_mul rfl rfl rfl ?_
  refine wl_field (o := 1) (off' := 1) ff_106_1 rfl rfl rfl ?_
  refine wl_load_blk (i := 1) (vs := [(.int .i64 x0.2)]) (v := (.int .i64 x0.2)) tf_3 rfl rfl hS11 rfl rfl rfl ?_
  refine wl_field (o := 1) (off' := 1) ff_106_1 rfl rfl rfl ?_
  refine wl_load_blk (i := 0) (vs := [(.int .i64 x1.2)]) (v := (.int .i64 x1.2)) tf_3 rfl rfl hS11 rfl rfl rfl ?_
  refine wl_sub rfl rfl rfl ?_
  refine wl_field (o := 1) (off' := 1) ff_106_1 rfl rfl rfl ?_
  refine wl_load_blk (i := 1) (vs := [(.int .i64 x0.2)]) (v := (.int .i64 x0.2)) tf_3 rfl rfl hS11 rfl rfl rfl ?_
  refine wl_field (o := 1) (off' := 1) ff_106_1 rfl rfl rfl ?_
  refine wl_load_blk (i := 0) (vs := [(.int .i64 x1.2)]) (v := (.int .i64 x1.2)) tf_3 rfl rfl hS11 rfl rfl rfl ?_
  refine wl_sub rfl rfl rfl ?_
  refine wl_mul rfl rfl rfl ?_
  refine wl_add rfl rfl rfl ?_
  refine wl_assign rfl rfl ?_
  refine WL.nil ?_
  refine fun a ha => hK12 _ _ ?_ a ha
  refine W.ret ?_
  have hr := Option.some.inj hF
  subst hr
  exact rets (vs := [(.int .i64 (w64 ((w64 ((w64 (x0.1 - x1.1)) * (w64 (x0.1 - x1.1)))) + (w64 ((w64 (x0.2 - x1.2)) * (w64 (x0.2 - x1.2)))))))]) hQ rfl ⟨rv_tmp rfl, trivial⟩ ⟨rfl, hB10⟩
theorem C_spec_mvWithin (w0 : World) (x0 : ((Int × Int) × (Int × Int) × Int)) (x1 : Int) (r : Bool) (hF : F_spec_mvWithin x0 x1 = some r) :
    Calls Try.prog 135 [(.agg #[(.int .i64 x0.1.1), (.int .i64 x0.1.2), (.int .i64 x0.2.1.1), (.int .i64 x0.2.1.2), (.int .i64 x0.2.2)]), (.int .i64 x1)].toArray w0 fun e w' => e = .returned (.bool r) ∧ Below w0.heap.size w0 w' := by
  refine calls_mk' Try.func135 rfl Try.ntmps135 rfl rfl fun Q hQ hP => ?_
  have hB : Below w0.heap.size w0 w0 := Below.refl _ _
  have hS : Sep w0.heap.size w0 [] := Sep.nil _ _
  unfold F_spec_mvWithin at hF
  refine W.seq fun K1 hK1 => ?_
  refine W.region ?_
  refine wl_box (cs := [(.int .i64 x0.1.1), (.int .i64 x0.1.2), (.int .i64 x0.2.1.1), (.int .i64 x0.2.1.2), (.int .i64 x0.2.2)]) rfl rfl rfl hB hS ?_
  intro b2 w3 hb4 hB5 hS6
  refine wl_assign rfl rfl ?_
  refine WL.nil ?_
  refine fun a ha => hK1 _ _ ?_ a ha
  refine W.seq fun K7 hK7 => ?_
  refine W.regionH mixed_ [] hB5 hS6 ?_
  intro w8 hb9 hB10 hS11
  have hSW12 := KeepX.refl w8 []
  refine WH.takex (i := 0) rfl (by kernel_rfl) (by kernel_rfl) (by kernel_rfl) hP hSW12 ?_
  refine pr_field (o := 0) (off' := 0) ff_117_0 rfl rfl rfl ?_
  refine WH.takex (i := 1) rfl (by kernel_rfl) (by kernel_rfl) (by kernel_rfl) hP hSW12 ?_
  refine pr_load_blk (i := 0) (vs := [(.int .i64 x0.1.1), (.int .i64 x0.1.2)]) (v := (.agg #[(.int .i64 x0.1.1), (.int .i64 x0.1.2)])) tf_106 rfl rfl hS11 rfl rfl rfl (by simp) ?_
  refine WH.takex (i := 2) rfl (by kernel_rfl) (by kernel_rfl) (by kernel_rfl) hP hSW12 ?_
  refine pr_field (o := 2) (off' := 2) ff_117_1 rfl rfl rfl ?_
  refine WH.takex (i := 3) rfl (by kernel_rfl) (by kernel_rfl) (by kernel_rfl) hP hSW12 ?_
  refine pr_load_blk (i := 0) (vs := [(.int .i64 x0.2.1.1), (.int .i64 x0.2.1.2)]) (v := (.agg #[(.int .i64 x0.2.1.1), (.int .i64 x0.2.1.2)])) tf_106 rfl rfl hS11 rfl rfl rfl (by simp) ?_
  refine WH.takex (i := 5) rfl (by kernel_rfl) (by kernel_rfl) (by kernel_rfl) hP hSW12 ?_
  refine pr_move rfl rfl ?_
  refine WH.takex (i := 6) rfl (by kernel_rfl) (by kernel_rfl) (by kernel_rfl) hP hSW12 ?_
  refine pr_move rfl rfl ?_
  refine WH.takex (i := 7) rfl (by kernel_rfl) (by kernel_rfl) (by kernel_rfl) hP hSW12 ?_
  refine pr_mul rfl rfl rfl ?_
  refine WH.takex (i := 8) rfl (by kernel_rfl) (by kernel_rfl) (by kernel_rfl) hP hSW12 ?_
  refine pr_field (o := 4) (off' := 4) ff_117_2 rfl rfl rfl ?_
  refine WH.takex (i := 9) rfl (by kernel_rfl) (by kernel_rfl) (by kernel_rfl) hP hSW12 ?_
  refine pr_load_blk (i := 0) (vs := [(.int .i64 x0.2.2)]) (v := (.int .i64 x0.2.2)) tf_3 rfl rfl hS11 rfl rfl rfl (by simp) ?_
  refine WH.takex (i := 10) rfl (by kernel_rfl) (by kernel_rfl) (by kernel_rfl) hP hSW12 ?_
  refine pr_mul rfl rfl rfl ?_
  refine WH.takex (i := 11) rfl (by kernel_rfl) (by kernel_rfl) (by kernel_rfl) hP hSW12 ?_
  refine pr_field (o := 4) (off' := 4) ff_117_2 rfl rfl rfl ?_
  refine WH.takex (i := 12) rfl (by kernel_rfl) (by kernel_rfl) (by kernel_rfl) hP hSW12 ?_
  refine pr_load_blk (i := 0) (vs := [(.int .i64 x0.2.2)]) (v := (.int .i64 x0.2.2)) tf_3 rfl rfl hS11 rfl rfl rfl (by simp) ?_
  refine WH.takex (i := 13) rfl (by kernel_rfl) (by kernel_rfl) (by kernel_rfl) hP hSW12 ?_
  refine pr_mul rfl rfl rfl ?_
  refine WH.one (i := 4) (by kernel_rfl) rfl ?_
  obtain ⟨u13, hu13, hF⟩ := bindE hF
  refine wl_call rfl Try.call120 (C_spec_stSquare w8 x0.1 x0.2.1 _ hu13) rfl ?_
  rintro _ w14 ⟨rfl, hb15⟩
  refine ⟨_, rfl, ?_⟩
  have hB16 := hB10.trans (hb15.mono hB10.size)
  have hS17 := hS11.below hb15
  have hSW19 := hSW12.ext hb15
  refine WL.nil (WH.ret hSW19 ?_)
  refine WH.takex (i := 14) rfl (by kernel_rfl) (by kernel_rfl) (by kernel_rfl) hP hSW19 ?_
  refine pr_leq rfl rfl rfl ?_
  refine WH.takex (i := 15) rfl (by kernel_rfl) (by kernel_rfl) (by kernel_rfl) hP hSW19 ?_
  refine pr_assign rfl rfl ?_
  refine WH.done (by kernel_rfl) ?_
  refine fun a ha => hK7 _ _ ?_ a ha
  refine W.ret ?_
  have hr := Option.some.inj hF
  subst hr
  exact rets (vs := [(.bool (decide (u13 ≤ (w64 ((w64 ((w64 (x1 * x1)) * x0.2.2)) * x0.2.2)))))]) hQ rfl ⟨rv_tmp rfl, trivial⟩ ⟨rfl, hB16⟩
theorem C_spec_swWide (w0 : World) (x0 : ((List (List (Int × Int))) × (List Int) × Int × Int)) (v0_0 : Value) (h0_0 : rdS ty_82 (· < w0.heap.size) w0 v0_0 x0.1) (v0_1 : Value) (h0_1 : rdS ty_3 (· < w0.heap.size) w0 v0_1 x0.2.1) (x1 : Int) (r : (List Int)) (hF : F_spec_swWide x0 x1 = some r) :
    Calls Try.prog 118 [(.agg #[v0_0, v0_1, (.int .i64 x0.2.2.1), (.int .i64 x0.2.2.2)]), (.int .i64 x1)].toArray w0 fun e w' => ∃ (q0 : Value) (G0 : List Nat), e = .returned q0 ∧ Below w0.heap.size w0 w' ∧ Sep w0.heap.size w' [R.own ty_3 G0 q0 r] := by
  refine calls_mk' Try.func118 rfl Try.ntmps118 rfl rfl fun Q hQ hP => ?_
  have hB : Below w0.heap.size w0 w0 := Below.refl _ _
  have hS : Sep w0.heap.size w0 [] := Sep.nil _ _
  unfold F_spec_swWide at hF
  refine W.seq fun K1 hK1 => ?_
  refine W.region ?_
  refine wl_box (cs := [v0_0, v0_1, (.int .i64 x0.2.2.1), (.int .i64 x0.2.2.2)]) rfl rfl rfl hB hS ?_
  intro b2 w3 hb4 hB5 hS6
  refine wl_assign rfl rfl ?_
  refine WL.nil ?_
  refine fun a ha => hK1 _ _ ?_ a ha
  refine W.seq fun K7 hK7 => ?_
  refine W.region ?_
  refine wl_assign rfl rfl ?_
  refine WL.nil ?_
  refine fun a ha => hK7 _ _ ?_ a ha
  refine W.seq fun K8 hK8 => ?_
  refine W.seq fun K9 hK9 => ?_
  refine W.region ?_
  refine wl_load_blk (i := 0) (vs := [v0_0, v0_1, (.int .i64 x0.2.2.1), (.int .i64 x0.2.2.2)]) (v := (.agg #[v0_0, v0_1, (.int .i64 x0.2.2.1), (.int .i64 x0.2.2.2)])) tf_42 rfl rfl hS6 rfl rfl rfl ?_
  refine wl_move rfl rfl ?_
  obtain ⟨u10, hu10, hF⟩ := bindE hF
  refine wl_call rfl Try.call119 (C_spec_swMoves w3 x0 v0_0 (h0_0.ro hB5) v0_1 (h0_1.ro hB5) x1 _ hu10) rfl ?_
  rintro _ w13 ⟨v11, F12, rfl, hb14, hM17⟩
  refine ⟨_, rfl, ?_⟩
  have hB15 := hB5.trans (hb14.mono hB5.size)
  have hS16 := hS6.join hb14 hM17 hB5.size
  refine wl_lenr (e := ty_117) (l := u10) Try.underlying114 rfl rfl (hS16.own_ro (i := 0) rfl) ?_
  refine wl_move rfl rfl ?_
  refine WL.nil ?_
  refine fun a ha => hK9 _ _ ?_ a ha
  refine W.block ?_
  refine W.loopk (fun m a w18 => ∃ (l21 : (List Int)) (y24 : Int) (v22 : Value) (F23 : List Nat), St 28 [(2, (.pointer (some ⟨b2, 0, none⟩))), (5, v22), (10, v11), (11, (.int .i64 (List.length u10 : Int))), (12, (.int .i64 y24))] a ∧ Below w0.heap.size w0 w18 ∧ Sep w0.heap.size w18 [R.blk b2 42 [v0_0, v0_1, (.int .i64 x0.2.2.1), (.int .i64 x0.2.2.2)], R.own ty_3 F23 v22 l21, R.own ty_117 F12 v11 u10] ∧ F_spec_swWide_L1 u10 x0 m l21 y24 = some r) FU ?_ ?_
  ·
    have hS26 := hS16.push0 (r := R.own ty_3 [] (.slice none 0 0) []) rfl fun _ => .inl ⟨rfl, rfl, rfl⟩
    exact fun a ha => ⟨[], 0, (.slice none 0 0), [], ha.sub ⟨rfl, rfl, rfl, rfl, rfl, trivial⟩, hB15, (hS26.sel [2, 0, 1] rfl), hF⟩
  ·
    rintro m28 a w18 ⟨l21, y24, v22, F23, ha, hB19, hS20, hF⟩ KL27 hKL27
    refine W.at ?_ ha
    cases m28 with
    | zero => exact noneE hF
    | succ m28 =>
      obtain ⟨nx25, hnx25⟩ : ∃ k, k = F_spec_swWide_L1 u10 x0 m28 := ⟨_, rfl⟩
      rw [F_spec_swWide_L1, ← hnx25] at hF
      refine W.seq fun K29 hK29 => ?_
      refine W.region ?_
      refine wl_lss rfl rfl rfl ?_
      refine WL.nil ?_
      refine fun a ha => hK29 _ _ ?_ a ha
      refine W.seq fun K30 hK30 => ?_
      refine W.cond rfl (fun h31 => ?_) (fun h31 => ?_)
      · replace hF := ifP h31 hF
        refine W.skip ?_
        refine fun a ha => hK30 _ _ ?_ a ha
        refine W.seq fun K32 hK32 => ?_
        obtain ⟨k39, hk39, hF⟩ := jE1 hF
        have hJ40 : ∀ (l36 : (List Int)) (v37 : Value) (F38 : List Nat) (w33 : World) (_ : k39 l36 = some r) (_ : Below w0.heap.size w0 w33) (_ : Sep w0.heap.size w33 [R.blk b2 42 [v0_0, v0_1, (.int .i64 x0.2.2.1), (.int .i64 x0.2.2.2)], R.own ty_3 F38 v37 l36, R.own ty_117 F12 v11 u10]), ∀ a, St 28 [(2, (.pointer (some ⟨b2, 0, none⟩))), (5, v37), (10, v11), (11, (.int .i64 (List.length u10 : Int))), (12, (.int .i64 y24))] a → K32 a w33 := by
          intro l36 v37 F38 w33 hF hB34 hS35
          subst hk39
          refine fun a ha => hK32 _ _ ?_ a ha
          refine W.region ?_
          refine wl_add rfl rfl rfl ?_
          refine wl_move rfl rfl ?_
          refine WL.nil ?_
          rw [hnx25] at hF
          exact fun a ha => hKL27 a _ m28 (Nat.lt_succ_self m28) ⟨l36, (w64 (y24 + 1)), v37, F38, ha.sub ⟨rfl, rfl, rfl, rfl, rfl, trivial⟩, hB34, (hS35.sel [0, 1, 2] rfl), hF⟩
        refine W.block ?_
        refine W.seq fun K41 hK41 => ?_
        refine W.region ?_
        refine wl_move rfl rfl ?_
        obtain ⟨u42, hu42, hF⟩ := bindE hF
        refine wl_indexo (e := ty_117) (i := 2) Try.underlying114 rfl rfl rfl hS20 rfl hu42 ?_
        rintro p43 _ rfl hp44 ho45
        refine wl_load_p (vs := [(.int .i64 u42.1.1), (.int .i64 u42.1.2), (.int .i64 u42.2.1.1), (.int .i64 u42.2.1.2), (.int .i64 u42.2.2)]) (v := (.agg #[(.int .i64 u42.1.1), (.int .i64 u42.1.2), (.int .i64 u42.2.1.1), (.int .i64 u42.2.1.2), (.int .i64 u42.2.2)])) tf_117 rfl rfl hp44 rfl rfl ?_
        refine wl_alloc (cs := [(.int .i64 0), (.int .i64 0), (.int .i64 0), (.int .i64 0), (.int .i64 0)]) tf_117 rfl rfl hB19 hS20 ?_
        intro b46 w47 hb48 hB49 hS50
        refine wl_assign rfl rfl ?_
        refine wl_store_blk (i := 0) (vs := [(.int .i64 u42.1.1), (.int .i64 u42.1.2), (.int .i64 u42.2.1.1), (.int .i64 u42.2.1.2), (.int .i64 u42.2.2)]) (cs' := [(.int .i64 u42.1.1), (.int .i64 u42.1.2), (.int .i64 u42.2.1.1), (.int .i64 u42.2.1.2), (.int .i64 u42.2.2)]) tf_117 rfl rfl rfl rfl hB49 hS50 rfl rfl ⟨rfl, rfl, rfl, rfl, rfl, trivial⟩ rfl ?_
        intro w51 hk54 hB52 hS53
        refine WL.nil ?_
        refine fun a ha => hK41 _ _ ?_ a ha
        refine W.seq fun K55 hK55 => ?_
        refine W.region ?_
        refine wl_load_blk (i := 0) (vs := [(.int .i64 u42.1.1), (.int .i64 u42.1.2), (.int .i64 u42.2.1.1), (.int .i64 u42.2.1.2), (.int .i64 u42.2.2)]) (v := (.agg #[(.int .i64 u42.1.1), (.int .i64 u42.1.2), (.int .i64 u42.2.1.1), (.int .i64 u42.2.1.2), (.int .i64 u42.2.2)])) tf_117 rfl rfl hS53 rfl rfl rfl ?_
        refine wl_field (o := 3) (off' := 3) ff_42_3 rfl rfl rfl ?_
        refine wl_load_blk (i := 1) (vs := [(.int .i64 x0.2.2.2)]) (v := (.int .i64 x0.2.2.2)) tf_3 rfl rfl hS53 rfl rfl rfl ?_
        obtain ⟨u56, hu56, hF⟩ := bindE hF
        refine wl_call rfl Try.call135 (C_spec_mvWithin w51 u42 x0.2.2.2 _ hu56) rfl ?_
        rintro _ w57 ⟨rfl, hb58⟩
        refine ⟨_, rfl, ?_⟩
        have hB59 := hB52.trans (hb58.mono hB52.size)
        have hS60 := hS53.below hb58
        refine wl_not rfl rfl ?_
        refine WL.nil ?_
        refine fun a ha => hK55 _ _ ?_ a ha
        refine W.cond rfl (fun h62 => ?_) (fun h62 => ?_)
        · replace hF := ifP h62 hF
          refine W.region ?_
          refine wl_move rfl rfl ?_
          refine wl_move rfl rfl ?_
          refine wl_lit (vs := [(.int .i64 y24)]) (l := [y24]) fl_3 Try.underlying24 rfl rfl rfl rfl rfl rfl hB59 hS60 ?_
          intro v63 F64 w65 hb66 hB67 hS68
          obtain ⟨u69, hu69, hF⟩ := bindE hF
          refine wl_append (i := 3) (S := (· < w65.heap.size)) fl_3 Try.underlying24 rfl rfl rfl hB67 hS68 rfl (hS68.own_ro (i := 0) rfl) hu69 ?_
          intro v70 F71 w72 hk73 hB74 hS75
          refine wl_assign rfl rfl ?_
          refine WL.nil ?_
          exact fun a ha => hJ40 (u69) (v70) (F71) _ hF hB74 (hS75.sel [2, 3, 4] rfl) a (ha.sub ⟨rfl, rfl, rfl, rfl, rfl, trivial⟩)
        · replace hF := ifN h62 hF
          refine W.skip ?_
          exact fun a ha => hJ40 (l21) (v22) (F23) _ hF hB59 (hS60.sel [1, 2, 3] rfl) a (ha.sub ⟨rfl, rfl, rfl, rfl, rfl, trivial⟩)
      · replace hF := ifN h31 hF
        refine W.exit ?_
        refine fun a ha => hK8 _ _ ?_ a ha
        refine W.seq fun K76 hK76 => ?_
        refine W.region ?_
        refine wl_move rfl rfl ?_
        refine wl_assign rfl rfl ?_
        refine WL.nil ?_
        refine fun a ha => hK76 _ _ ?_ a ha
        refine W.ret ?_
        have hr := Option.some.inj hF
        subst hr
        exact rets (vs := [v22]) hQ rfl ⟨rv_tmp rfl, trivial⟩ ⟨v22, F23, rfl, hB19, hS20.sel [1] rfl⟩
theorem C_spec_swUnsafe (w0 : World) (x0 : ((List (List (Int × Int))) × (List Int) × Int × Int)) (v0_0 : Value) (h0_0 : rdS ty_82 (· < w0.heap.size) w0 v0_0 x0.1) (v0_1 : Value) (h0_1 : rdS ty_3 (· < w0.heap.size) w0 v0_1 x0.2.1) (r : (List Int)) (hF : F_spec_swUnsafe x0 = some r) :
    Calls Try.prog 92 [(.agg #[v0_0, v0_1, (.int .i64 x0.2.2.1), (.int .i64 x0.2.2.2)])].toArray w0 fun e w' => ∃ (q0 : Value) (G0 : List Nat), e = .returned q0 ∧ Below w0.heap.size w0 w' ∧ Sep w0.heap.size w' [R.own ty_3 G0 q0 r] := by
  refine calls_mk' Try.func92 rfl Try.ntmps92 rfl rfl fun Q hQ hP => ?_
  have hB : Below w0.heap.size w0 w0 := Below.refl _ _
  have hS : Sep w0.heap.size w0 [] := Sep.nil _ _
  unfold F_spec_swUnsafe at hF
  refine W.seq fun K1 hK1 => ?_
  refine W.region ?_
  refine wl_box (cs := [v0_0, v0_1, (.int .i64 x0.2.2.1), (.int .i64 x0.2.2.2)]) rfl rfl rfl hB hS ?_
  intro b2 w3 hb4 hB5 hS6
  refine wl_assign rfl rfl ?_
  refine WL.nil ?_
  refine fun a ha => hK1 _ _ ?_ a ha
  refine W.seq fun K7 hK7 => ?_
  refine W.region ?_
  refine wl_assign rfl rfl ?_
  refine WL.nil ?_
  refine fun a ha => hK7 _ _ ?_ a ha
  refine W.seq fun K8 hK8 => ?_
  refine W.seq fun K9 hK9 => ?_
  refine W.region ?_
  refine wl_field (o := 1) (off' := 1) ff_42_1 rfl rfl rfl ?_
  refine wl_load_blk (i := 0) (vs := [v0_1]) (v := v0_1) tf_24 rfl rfl hS6 rfl rfl rfl ?_
  refine wl_lenr (e := ty_3) (l := x0.2.1) Try.underlying24 rfl rfl h0_1 ?_
  refine wl_move rfl rfl ?_
  refine WL.nil ?_
  refine fun a ha => hK9 _ _ ?_ a ha
  refine W.block ?_
  refine W.loopk (fun m a w10 => ∃ (l13 : (List Int)) (y16 : Int) (v14 : Value) (F15 : List Nat), St 27 [(1, (.pointer (some ⟨b2, 0, none⟩))), (3, v14), (7, (.int .i64 (List.length x0.2.1 : Int))), (8, (.int .i64 y16))] a ∧ Below w0.heap.size w0 w10 ∧ Sep w0.heap.size w10 [R.blk b2 42 [v0_0, v0_1, (.int .i64 x0.2.2.1), (.int .i64 x0.2.2.2)], R.own ty_3 F15 v14 l13] ∧ F_spec_swUnsafe_L1 x0 m l13 y16 = some r) FU ?_ ?_
  ·
    have hS18 := hS6.push0 (r := R.own ty_3 [] (.slice none 0 0) []) rfl fun _ => .inl ⟨rfl, rfl, rfl⟩
    exact fun a ha => ⟨[], 0, (.slice none 0 0), [], ha.sub ⟨rfl, rfl, rfl, rfl, trivial⟩, hB5, (hS18.sel [1, 0] rfl), hF⟩
  ·
    rintro m20 a w10 ⟨l13, y16, v14, F15, ha, hB11, hS12, hF⟩ KL19 hKL19
    refine W.at ?_ ha
    cases m20 with
    | zero => exact noneE hF
    | succ m20 =>
      obtain ⟨nx17, hnx17⟩ : ∃ k, k = F_spec_swUnsafe_L1 x0 m20 := ⟨_, rfl⟩
      rw [F_spec_swUnsafe_L1, ← hnx17] at hF
      refine W.seq fun K21 hK21 => ?_
      refine W.region ?_
      refine wl_lss rfl rfl rfl ?_
      refine WL.nil ?_
      refine fun a ha => hK21 _ _ ?_ a ha
      refine W.seq fun K22 hK22 => ?_
      refine W.cond rfl (fun h23 => ?_) (fun h23 => ?_)
      · replace hF := ifP h23 hF
        refine W.skip ?_
        refine fun a ha => hK22 _ _ ?_ a ha
        refine W.seq fun K24 hK24 => ?_
        obtain ⟨k31, hk31, hF⟩ := jE1 hF
        have hJ32 : ∀ (l28 : (List Int)) (v29 : Value) (F30 : List Nat) (w25 : World) (_ : k31 l28 = some r) (_ : Below w0.heap.size w0 w25) (_ : Sep w0.heap.size w25 [R.blk b2 42 [v0_0, v0_1, (.int .i64 x0.2.2.1), (.int .i64 x0.2.2.2)], R.own ty_3 F30 v29 l28]), ∀ a, St 27 [(1, (.pointer (some ⟨b2, 0, none⟩))), (3, v29), (7, (.int .i64 (List.length x0.2.1 : Int))), (8, (.int .i64 y16))] a → K24 a w25 := by
          intro l28 v29 F30 w25 hF hB26 hS27
          subst hk31
          refine fun a ha => hK24 _ _ ?_ a ha
          refine W.region ?_
          refine wl_add rfl rfl rfl ?_
          refine wl_move rfl rfl ?_
          refine WL.nil ?_
          rw [hnx17] at hF
          exact fun a ha => hKL19 a _ m20 (Nat.lt_succ_self m20) ⟨l28, (w64 (y16 + 1)), v29, F30, ha.sub ⟨rfl, rfl, rfl, rfl, trivial⟩, hB26, (hS27.sel [0, 1] rfl), hF⟩
        refine W.block ?_
        refine W.seq fun K33 hK33 => ?_
        refine W.region ?_
        refine wl_move rfl rfl ?_
        refine wl_assign rfl rfl ?_
        refine WL.nil ?_
        refine fun a ha => hK33 _ _ ?_ a ha
        refine W.seq fun K34 hK34 => ?_
        refine W.regionH mixed_ [] hB11 hS12 ?_
        intro w35 hb36 hB37 hS38
        have hSW39 := KeepX.refl w35 []
        refine WH.takex (i := 0) rfl (by kernel_rfl) (by kernel_rfl) (by kernel_rfl) hP hSW39 ?_
        refine pr_load_blk (i := 0) (vs := [v0_0, v0_1, (.int .i64 x0.2.2.1), (.int .i64 x0.2.2.2)]) (v := (.agg #[v0_0, v0_1, (.int .i64 x0.2.2.1), (.int .i64 x0.2.2.2)])) tf_42 rfl rfl hS38 rfl rfl rfl (by simp) ?_
        refine WH.takex (i := 1) rfl (by kernel_rfl) (by kernel_rfl) (by kernel_rfl) hP hSW39 ?_
        refine pr_move rfl rfl ?_
        refine WH.takex (i := 4) rfl (by kernel_rfl) (by kernel_rfl) (by kernel_rfl) hP hSW39 ?_
        refine pr_load_blk (i := 0) (vs := [v0_0, v0_1, (.int .i64 x0.2.2.1), (.int .i64 x0.2.2.2)]) (v := (.agg #[v0_0, v0_1, (.int .i64 x0.2.2.1), (.int .i64 x0.2.2.2)])) tf_42 rfl rfl hS38 rfl rfl rfl (by simp) ?_
        refine WH.takex (i := 5) rfl (by kernel_rfl) (by kernel_rfl) (by kernel_rfl) hP hSW39 ?_
        refine pr_move rfl rfl ?_
        refine WH.one (i := 2) (by kernel_rfl) rfl ?_
        obtain ⟨u40, hu40, hF⟩ := bindE hF
        refine wl_call rfl Try.call117 (C_spec_swClose w35 x0 v0_0 (h0_0.ro hB37) v0_1 (h0_1.ro hB37) y16 _ hu40) rfl ?_
        rintro _ w43 ⟨v41, F42, rfl, hb44, hM47⟩
        refine ⟨_, rfl, ?_⟩
        have hB45 := hB37.trans (hb44.mono hB37.size)
        have hn48 : ∀ b ∈ F42, w35.heap.size ≤ b := fun b hb => Nat.le_trans hSW39.size ((hM47.get (i := 0) rfl).2.1 b hb).1
        have hS46 := hS38.join hb44 hM47 hB37.size
        have hSW49 := hSW39.ext hb44
        refine WL.nil (WH.ret hSW49 ?_)
        refine WH.takex (i := 3) rfl (by kernel_rfl) (by kernel_rfl) (by kernel_rfl) hP hSW49 ?_
        refine pr_lenr (e := ty_24) (l := u40) Try.underlying112 rfl rfl (hS46.own_ro (i := 0) rfl) ?_
        refine WH.one (i := 6) (by kernel_rfl) rfl ?_
        obtain ⟨u50, hu50, hF⟩ := bindE hF
        refine wl_call rfl Try.call118 (C_spec_swWide w43 x0 v0_0 (h0_0.ro hB45) v0_1 (h0_1.ro hB45) y16 _ hu50) rfl ?_
        rintro _ w53 ⟨v51, F52, rfl, hb54, hM57⟩
        refine ⟨_, rfl, ?_⟩
        have hB55 := hB45.trans (hb54.mono hB45.size)
        have hn58 : ∀ b ∈ F52, w35.heap.size ≤ b := fun b hb => Nat.le_trans hSW49.size ((hM57.get (i := 0) rfl).2.1 b hb).1
        have hS56 := hS46.join hb54 hM57 hB45.size
        have hSW59 := hSW49.ext hb54
        refine WL.nil (WH.ret hSW59 ?_)
        refine WH.takex (i := 7) rfl (by kernel_rfl) (by kernel_rfl) (by kernel_rfl) hP hSW59 ?_
        refine pr_lenr (e := ty_3) (l := u50) Try.underlying24 rfl rfl (hS56.own_ro (i := 0) rfl) ?_
        refine WH.takex (i := 8) rfl (by kernel_rfl) (by kernel_rfl) (by kernel_rfl) hP hSW59 ?_
        refine pr_add rfl rfl rfl ?_
        refine WH.takex (i := 9) rfl (by kernel_rfl) (by kernel_rfl) (by kernel_rfl) hP hSW59 ?_
        refine pr_gtr rfl rfl rfl ?_
        refine WH.done (by kernel_rfl) ?_
        refine fun a ha => hK34 _ _ ?_ a ha
        refine W.cond rfl (fun h60 => ?_) (fun h60 => ?_)
        · replace hF := ifP h60 hF
          refine W.region ?_
          refine wl_move rfl rfl ?_
          refine wl_move rfl rfl ?_
          refine wl_lit (vs := [(.int .i64 y16)]) (l := [y16]) fl_3 Try.underlying24 rfl rfl rfl rfl rfl rfl hB55 hS56 ?_
          intro v61 F62 w63 hb64 hB65 hS66
          obtain ⟨u67, hu67, hF⟩ := bindE hF
          refine wl_append (i := 4) (S := (· < w63.heap.size)) fl_3 Try.underlying24 rfl rfl rfl hB65 hS66 rfl (hS66.own_ro (i := 0) rfl) hu67 ?_
          intro v68 F69 w70 hk71 hB72 hS73
          refine wl_assign rfl rfl ?_
          refine WL.nil ?_
          exact fun a ha => hJ32 (u67) (v68) (F69) _ hF hB72 (hS73.sel [3, 4] rfl) a (ha.sub ⟨rfl, rfl, rfl, rfl, trivial⟩)
        · replace hF := ifN h60 hF
          refine W.skip ?_
          exact fun a ha => hJ32 (l13) (v14) (F15) _ hF hB55 (hS56.sel [2, 3] rfl) a (ha.sub ⟨rfl, rfl, rfl, rfl, trivial⟩)
      · replace hF := ifN h23 hF
        refine W.exit ?_
        refine fun a ha => hK8 _ _ ?_ a ha
        refine W.seq fun K74 hK74 => ?_
        refine W.region ?_
        refine wl_move rfl rfl ?_
        refine wl_assign rfl rfl ?_
        refine WL.nil ?_
        refine fun a ha => hK74 _ _ ?_ a ha
        refine W.ret ?_
        have hr := Option.some.inj hF
        subst hr
        exact rets (vs := [v14]) hQ rfl ⟨rv_tmp rfl, trivial⟩ ⟨v14, F15, rfl, hB11, hS12.sel [1] rfl⟩
theorem C_spec_UnsafeParts (w0 : World) (x0 : ((List (List (Int × Int))) × (List Int) × Int × Int)) (v0_0 : Value) (h0_0 : rdS ty_82 (· < w0.heap.size) w0 v0_0 x0.1) (v0_1 : Value) (h0_1 : rdS ty_3 (· < w0.heap.size) w0 v0_1 x0.2.1) (r : ((List Int) × Bool)) (hF : F_spec_UnsafeParts x0 = some r) :
    Calls Try.prog 61 [(.agg #[v0_0, v0_1, (.int .i64 x0.2.2.1), (.int .i64 x0.2.2.2)])].toArray w0 fun e w' => ∃ (q0 : Value) (G0 : List Nat), e = .returned (.tuple #[q0, (.bool r.2)]) ∧ Below w0.heap.size w0 w' ∧ Sep w0.heap.size w' [R.own ty_3 G0 q0 r.1] := by
  refine calls_mk' Try.func61 rfl Try.ntmps61 rfl rfl fun Q hQ hP => ?_
  have hB : Below w0.heap.size w0 w0 := Below.refl _ _
  have hS : Sep w0.heap.size w0 [] := Sep.nil _ _
  unfold F_spec_UnsafeParts at hF
  refine W.seq fun K1 hK1 => ?_
  refine W.region ?_
  refine wl_box (cs := [v0_0, v0_1, (.int .i64 x0.2.2.1), (.int .i64 x0.2.2.2)]) rfl rfl rfl hB hS ?_
  intro b2 w3 hb4 hB5 hS6
  refine wl_assign rfl rfl ?_
  refine wl_assign rfl rfl ?_
  refine WL.nil ?_
  refine fun a ha => hK1 _ _ ?_ a ha
  refine W.seq fun K7 hK7 => ?_
  refine W.seq fun K8 hK8 => ?_
  refine W.region ?_
  refine wl_load_blk (i := 0) (vs := [v0_0, v0_1, (.int .i64 x0.2.2.1), (.int .i64 x0.2.2.2)]) (v := (.agg #[v0_0, v0_1, (.int .i64 x0.2.2.1), (.int .i64 x0.2.2.2)])) tf_42 rfl rfl hS6 rfl rfl rfl ?_
  obtain ⟨u9, hu9, hF⟩ := bindE hF
  refine wl_call rfl Try.call29 (C_spec_swGood w3 x0 v0_0 (h0_0.ro hB5) v0_1 (h0_1.ro hB5) _ hu9) rfl ?_
  rintro _ w10 ⟨rfl, hb11⟩
  refine ⟨_, rfl, ?_⟩
  have hB12 := hB5.trans (hb11.mono hB5.size)
  have hS13 := hS6.below hb11
  refine wl_not rfl rfl ?_
  refine WL.nil ?_
  refine fun a ha => hK8 _ _ ?_ a ha
  refine W.cond rfl (fun h15 => ?_) (fun h15 => ?_)
  · replace hF := ifP h15 hF
    refine W.seq fun K16 hK16 => ?_
    refine W.region ?_
    refine wl_assign rfl rfl ?_
    refine wl_assign rfl rfl ?_
    refine WL.nil ?_
    refine fun a ha => hK16 _ _ ?_ a ha
    refine W.ret ?_
    have hS17 := hS13.push0 (r := R.own ty_3 [] (.slice none 0 0) []) rfl fun _ => .inl ⟨rfl, rfl, rfl⟩
    have hr := Option.some.inj hF
    subst hr
    exact rets (vs := [(.slice none 0 0), (.bool false)]) hQ rfl ⟨rv_tmp rfl, rv_tmp rfl, trivial⟩ ⟨(.slice none 0 0), [], rfl, hB12, hS17.sel [0] rfl⟩
  · replace hF := ifN h15 hF
    refine W.skip ?_
    refine fun a ha => hK7 _ _ ?_ a ha
    refine W.seq fun K18 hK18 => ?_
    refine W.region ?_
    refine wl_load_blk (i := 0) (vs := [v0_0, v0_1, (.int .i64 x0.2.2.1), (.int .i64 x0.2.2.2)]) (v := (.agg #[v0_0, v0_1, (.int .i64 x0.2.2.1), (.int .i64 x0.2.2.2)])) tf_42 rfl rfl hS13 rfl rfl rfl ?_
    obtain ⟨u19, hu19, hF⟩ := bindE hF
    refine wl_call rfl Try.call92 (C_spec_swUnsafe w10 x0 v0_0 (h0_0.ro hB12) v0_1 (h0_1.ro hB12) _ hu19) rfl ?_
    rintro _ w22 ⟨v20, F21, rfl, hb23, hM26⟩
    refine ⟨_, rfl, ?_⟩
    have hB24 := hB12.trans (hb23.mono hB12.size)
    have hS25 := hS13.join hb23 hM26 hB12.size
    refine wl_assign rfl rfl ?_
    refine wl_assign rfl rfl ?_
    refine WL.nil ?_
    refine fun a ha => hK18 _ _ ?_ a ha
    refine W.ret ?_
    have hr := Option.some.inj hF
    subst hr
    exact rets (vs := [v20, (.bool true)]) hQ rfl ⟨rv_tmp rfl, rv_tmp rfl, trivial⟩ ⟨v20, F21, rfl, hB24, hS25.sel [0] rfl⟩
theorem C_spec_l1Sign (w0 : World) (x0 : Int) (r : Int) (hF : F_spec_l1Sign x0 = some r) :
    Calls Try.prog 62 [(.int .i64 x0)].toArray w0 fun e w' => e = .returned (.int .i64 r) ∧ Below w0.heap.size w0 w' := by
  refine calls_mk' Try.func62 rfl Try.ntmps62 rfl rfl fun Q hQ hP => ?_
  have hB : Below w0.heap.size w0 w0 := Below.refl _ _
  have hS : Sep w0.heap.size w0 [] := Sep.nil _ _
  unfold F_spec_l1Sign at hF
  refine W.seq fun K1 hK1 => ?_
  refine W.region ?_
  refine wl_assign rfl rfl ?_
  refine WL.nil ?_
  refine fun a ha => hK1 _ _ ?_ a ha
  refine W.seq fun K2 hK2 => ?_
  refine W.block ?_
  refine W.seq fun K3 hK3 => ?_
  refine W.region ?_
  refine wl_move rfl rfl ?_
  refine wl_gtr rfl rfl rfl ?_
  refine wl_assign rfl rfl ?_
  refine WL.nil ?_
  refine fun a ha => hK3 _ _ ?_ a ha
  refine W.cond rfl (fun h4 => ?_) (fun h4 => ?_)
  · replace hF := ifP h4 hF
    refine W.seq fun K5 hK5 => ?_
    refine W.region ?_
    refine wl_assign rfl rfl ?_
    refine WL.nil ?_
    refine fun a ha => hK5 _ _ ?_ a ha
    refine W.ret ?_
    have hr := Option.some.inj hF
    subst hr
    exact rets (vs := [(.int .i64 1)]) hQ rfl ⟨rv_tmp rfl, trivial⟩ ⟨rfl, hB⟩
  · replace hF := ifN h4 hF
    refine W.seq fun K6 hK6 => ?_
    refine W.region ?_
    refine wl_move rfl rfl ?_
    refine wl_lss rfl rfl rfl ?_
    refine wl_assign rfl rfl ?_
    refine WL.nil ?_
    refine fun a ha => hK6 _ _ ?_ a ha
    refine W.cond rfl (fun h7 => ?_) (fun h7 => ?_)
    · replace hF := ifP h7 hF
      refine W.seq fun K8 hK8 => ?_
      refine W.region ?_
      refine wl_assign rfl rfl ?_
      refine WL.nil ?_
      refine fun a ha => hK8 _ _ ?_ a ha
      refine W.ret ?_
      have hr := Option.some.inj hF
      subst hr
      exact rets (vs := [(.int .i64 (-1))]) hQ rfl ⟨rv_tmp rfl, trivial⟩ ⟨rfl, hB⟩
    · replace hF := ifN h7 hF
      refine W.skip ?_
      refine fun a ha => hK2 _ _ ?_ a ha
      refine W.seq fun K9 hK9 => ?_
      refine W.region ?_
      refine wl_assign rfl rfl ?_
      refine WL.nil ?_
      refine fun a ha => hK9 _ _ ?_ a ha
      refine W.ret ?_
      have hr := Option.some.inj hF
      subst hr
      exact rets (vs := [(.int .i64 0)]) hQ rfl ⟨rv_tmp rfl, trivial⟩ ⟨rfl, hB⟩
theorem C_spec_swTotal (w0 : World) (x0 : ((List (List (Int × Int))) × (List Int) × Int × Int)) (v0_0 : Value) (h0_0 : rdS ty_82 (· < w0.heap.size) w0 v0_0 x0.1) (v0_1 : Value) (h0_1 : rdS ty_3 (· < w0.heap.size) w0 v0_1 x0.2.1) (r : Int) (hF : F_spec_swTotal x0 = some r) :
    Calls Try.prog 63 [(.agg #[v0_0, v0_1, (.int .i64 x0.2.2.1), (.int .i64 x0.2.2.2)])].toArray w0 fun e w' => e = .returned (.int .i64 r) ∧ Below w0.heap.size w0 w' := by
  refine calls_mk' Try.func63 rfl Try.ntmps63 rfl rfl fun Q hQ hP => ?_
  have hB : Below w0.heap.size w0 w0 := Below.refl _ _
  have hS : Sep w0.heap.size w0 [] := Sep.nil _ _
  unfold F_spec_swTotal at hF
  refine W.seq fun K1 hK1 => ?_
  refine W.region ?_
  refine wl_box (cs := [v0_0, v0_1, (.int .i64 x0.2.2.1), (.int .i64 x0.2.2.2)]) rfl rfl rfl hB hS ?_
  intro b2 w3 hb4 hB5 hS6
  refine wl_assign rfl rfl ?_
  refine WL.nil ?_
  refine fun a ha => hK1 _ _ ?_ a ha
  refine W.seq fun K7 hK7 => ?_
  refine W.region ?_
  refine wl_assign rfl rfl ?_
  refine WL.nil ?_
  refine fun a ha => hK7 _ _ ?_ a ha
  refine W.seq fun K8 hK8 => ?_
  refine W.seq fun K9 hK9 => ?_
  refine W.region ?_
  refine wl_field (o := 1) (off' := 1) ff_42_1 rfl rfl rfl ?_
  refine wl_load_blk (i := 0) (vs := [v0_1]) (v := v0_1) tf_24 rfl rfl hS6 rfl rfl rfl ?_
  refine wl_lenr (e := ty_3) (l := x0.2.1) Try.underlying24 rfl rfl h0_1 ?_
  refine wl_move rfl rfl ?_
  refine WL.nil ?_
  refine fun a ha => hK9 _ _ ?_ a ha
  refine W.block ?_
  refine W.loopk (fun m a w10 => ∃ (y13 : Int) (y14 : Int), St 18 [(3, (.int .i64 y13)), (7, v0_1), (8, (.int .i64 (List.length x0.2.1 : Int))), (9, (.int .i64 y14))] a ∧ Below w0.heap.size w0 w10 ∧ Sep w0.heap.size w10 [] ∧ F_spec_swTotal_L1 x0 m y13 y14 = some r) FU ?_ ?_
  ·
    exact fun a ha => ⟨0, 0, ha.sub ⟨rfl, rfl, rfl, rfl, trivial⟩, hB5, (hS6.sel [] rfl), hF⟩
  ·
    rintro m17 a w10 ⟨y13, y14, ha, hB11, hS12, hF⟩ KL16 hKL16
    refine W.at ?_ ha
    cases m17 with
    | zero => exact noneE hF
    | succ m17 =>
      obtain ⟨nx15, hnx15⟩ : ∃ k, k = F_spec_swTotal_L1 x0 m17 := ⟨_, rfl⟩
      rw [F_spec_swTotal_L1, ← hnx15] at hF
      refine W.seq fun K18 hK18 => ?_
      refine W.region ?_
      refine wl_lss rfl rfl rfl ?_
      refine WL.nil ?_
      refine fun a ha => hK18 _ _ ?_ a ha
      refine W.seq fun K19 hK19 => ?_
      refine W.cond rfl (fun h20 => ?_) (fun h20 => ?_)
      · replace hF := ifP h20 hF
        refine W.skip ?_
        refine fun a ha => hK19 _ _ ?_ a ha
        refine W.seq fun K21 hK21 => ?_
        refine W.block ?_
        refine W.seq fun K22 hK22 => ?_
        refine W.region ?_
        obtain ⟨u23, hu23, hF⟩ := bindE hF
        refine wl_index (e := ty_3) Try.underlying24 rfl rfl rfl h0_1 hu23 ?_
        rintro p24 _ rfl hp25
        refine wl_load_p (vs := [(.int .i64 u23)]) (v := (.int .i64 u23)) tf_3 rfl rfl (hp25.ro hB11) rfl rfl ?_
        refine wl_assign rfl rfl ?_
        refine WL.nil ?_
        refine fun a ha => hK22 _ _ ?_ a ha
        refine W.region ?_
        refine wl_move rfl rfl ?_
        refine wl_move rfl rfl ?_
        refine wl_add rfl rfl rfl ?_
        refine wl_assign rfl rfl ?_
        refine WL.nil ?_
        refine fun a ha => hK21 _ _ ?_ a ha
        refine W.region ?_
        refine wl_add rfl rfl rfl ?_
        refine wl_move rfl rfl ?_
        refine WL.nil ?_
        rw [hnx15] at hF
        exact fun a ha => hKL16 a _ m17 (Nat.lt_succ_self m17) ⟨(w64 (y13 + u23)), (w64 (y14 + 1)), ha.sub ⟨rfl, rfl, rfl, rfl, trivial⟩, hB11, (hS12.sel [] rfl), hF⟩
      · replace hF := ifN h20 hF
        refine W.exit ?_
        refine fun a ha => hK8 _ _ ?_ a ha
        refine W.seq fun K26 hK26 => ?_
        refine W.region ?_
        refine wl_move rfl rfl ?_
        refine wl_assign rfl rfl ?_
        refine WL.nil ?_
        refine fun a ha => hK26 _ _ ?_ a ha
        refine W.ret ?_
        have hr := Option.some.inj hF
        subst hr
        exact rets (vs := [(.int .i64 y13)]) hQ rfl ⟨rv_tmp rfl, trivial⟩ ⟨rfl, hB11⟩
theorem C_spec_cpSquares (w0 : World) (x0 : ((List (List (Int × Int))) × (List Int) × Int × Int)) (v0_0 : Value) (h0_0 : rdS ty_82 (· < w0.heap.size) w0 v0_0 x0.1) (v0_1 : Value) (h0_1 : rdS ty_3 (· < w0.heap.size) w0 v0_1 x0.2.1) (x1 : Int) (r : (List Int)) (hF : F_spec_cpSquares x0 x1 = some r) :
    Calls Try.prog 93 [(.agg #[v0_0, v0_1, (.int .i64 x0.2.2.1), (.int .i64 x0.2.2.2)]), (.int .i64 x1)].toArray w0 fun e w' => ∃ (q0 : Value) (G0 : List Nat), e = .returned q0 ∧ Below w0.heap.size w0 w' ∧ Sep w0.heap.size w' [R.own ty_3 G0 q0 r] := by
  refine calls_mk' Try.func93 rfl Try.ntmps93 rfl rfl fun Q hQ hP => ?_
  have hB : Below w0.heap.size w0 w0 := Below.refl _ _
  have hS : Sep w0.heap.size w0 [] := Sep.nil _ _
  unfold F_spec_cpSquares at hF
  refine W.seq fun K1 hK1 => ?_
  refine W.region ?_
  refine wl_box (cs := [v0_0, v0_1, (.int .i64 x0.2.2.1), (.int .i64 x0.2.2.2)]) rfl rfl rfl hB hS ?_
  intro b2 w3 hb4 hB5 hS6
  refine wl_assign rfl rfl ?_
  refine WL.nil ?_
  refine fun a ha => hK1 _ _ ?_ a ha
  refine W.seq fun K7 hK7 => ?_
  refine W.region ?_
  refine wl_assign rfl rfl ?_
  refine WL.nil ?_
  refine fun a ha => hK7 _ _ ?_ a ha
  refine W.seq fun K8 hK8 => ?_
  refine W.seq fun K9 hK9 => ?_
  refine W.region ?_
  refine wl_load_blk (i := 0) (vs := [v0_0, v0_1, (.int .i64 x0.2.2.1), (.int .i64 x0.2.2.2)]) (v := (.agg #[v0_0, v0_1, (.int .i64 x0.2.2.1), (.int .i64 x0.2.2.2)])) tf_42 rfl rfl hS6 rfl rfl rfl ?_
  refine wl_move rfl rfl ?_
  obtain ⟨u10, hu10, hF⟩ := bindE hF
  refine wl_call rfl Try.call119 (C_spec_swMoves w3 x0 v0_0 (h0_0.ro hB5) v0_1 (h0_1.ro hB5) x1 _ hu10) rfl ?_
  rintro _ w13 ⟨v11, F12, rfl, hb14, hM17⟩
  refine ⟨_, rfl, ?_⟩
  have hB15 := hB5.trans (hb14.mono hB5.size)
  have hS16 := hS6.join hb14 hM17 hB5.size
  refine wl_lenr (e := ty_117) (l := u10) Try.underlying114 rfl rfl (hS16.own_ro (i := 0) rfl) ?_
  refine wl_move rfl rfl ?_
  refine WL.nil ?_
  refine fun a ha => hK9 _ _ ?_ a ha
  refine W.block ?_
  refine W.loopk (fun m a w18 => ∃ (l21 : (List Int)) (y24 : Int) (v22 : Value) (F23 : List Nat), St 26 [(5, v22), (10, v11), (11, (.int .i64 (List.length u10 : Int))), (12, (.int .i64 y24))] a ∧ Below w0.heap.size w0 w18 ∧ Sep w0.heap.size w18 [R.own ty_3 F23 v22 l21, R.own ty_117 F12 v11 u10] ∧ F_spec_cpSquares_L1 u10 m l21 y24 = some r) FU ?_ ?_
  ·
    have hS26 := hS16.push0 (r := R.own ty_3 [] (.slice none 0 0) []) rfl fun _ => .inl ⟨rfl, rfl, rfl⟩
    exact fun a ha => ⟨[], 0, (.slice none 0 0), [], ha.sub ⟨rfl, rfl, rfl, rfl, trivial⟩, hB15, (hS26.sel [0, 1] rfl), hF⟩
  ·
    rintro m28 a w18 ⟨l21, y24, v22, F23, ha, hB19, hS20, hF⟩ KL27 hKL27
    refine W.at ?_ ha
    cases m28 with
    | zero => exact noneE hF
    | succ m28 =>
      obtain ⟨nx25, hnx25⟩ : ∃ k, k = F_spec_cpSquares_L1 u10 m28 := ⟨_, rfl⟩
      rw [F_spec_cpSquares_L1, ← hnx25] at hF
      refine W.seq fun K29 hK29 => ?_
      refine W.region ?_
      refine wl_lss rfl rfl rfl ?_
      refine WL.nil ?_
      refine fun a ha => hK29 _ _ ?_ a ha
      refine W.seq fun K30 hK30 => ?_
      refine W.cond rfl (fun h31 => ?_) (fun h31 => ?_)
      · replace hF := ifP h31 hF
        refine W.skip ?_
        refine fun a ha => hK30 _ _ ?_ a ha
        refine W.seq fun K32 hK32 => ?_
        refine W.block ?_
        refine W.seq fun K33 hK33 => ?_
        refine W.region ?_
        obtain ⟨u34, hu34, hF⟩ := bindE hF
        refine wl_indexo (e := ty_117) (i := 1) Try.underlying114 rfl rfl rfl hS20 rfl hu34 ?_
        rintro p35 _ rfl hp36 ho37
        refine wl_load_p (vs := [(.int .i64 u34.1.1), (.int .i64 u34.1.2), (.int .i64 u34.2.1.1), (.int .i64 u34.2.1.2), (.int .i64 u34.2.2)]) (v := (.agg #[(.int .i64 u34.1.1), (.int .i64 u34.1.2), (.int .i64 u34.2.1.1), (.int .i64 u34.2.1.2), (.int .i64 u34.2.2)])) tf_117 rfl rfl hp36 rfl rfl ?_
        refine wl_alloc (cs := [(.int .i64 0), (.int .i64 0), (.int .i64 0), (.int .i64 0), (.int .i64 0)]) tf_117 rfl rfl hB19 hS20 ?_
        intro b38 w39 hb40 hB41 hS42
        refine wl_store_blk (i := 0) (vs := [(.int .i64 u34.1.1), (.int .i64 u34.1.2), (.int .i64 u34.2.1.1), (.int .i64 u34.2.1.2), (.int .i64 u34.2.2)]) (cs' := [(.int .i64 u34.1.1), (.int .i64 u34.1.2), (.int .i64 u34.2.1.1), (.int .i64 u34.2.1.2), (.int .i64 u34.2.2)]) tf_117 rfl rfl rfl rfl hB41 hS42 rfl rfl ⟨rfl, rfl, rfl, rfl, rfl, trivial⟩ rfl ?_
        intro w43 hk46 hB44 hS45
        refine WL.nil ?_
        refine fun a ha => hK33 _ _ ?_ a ha
        refine W.region ?_
        refine wl_move rfl rfl ?_
        refine wl_field (o := 0) (off' := 0) ff_117_0 rfl rfl rfl ?_
        refine wl_load_blk (i := 0) (vs := [(.int .i64 u34.1.1), (.int .i64 u34.1.2)]) (v := (.agg #[(.int .i64 u34.1.1), (.int .i64 u34.1.2)])) tf_106 rfl rfl hS45 rfl rfl rfl ?_
        refine wl_field (o := 2) (off' := 2) ff_117_1 rfl rfl rfl ?_
        refine wl_load_blk (i := 0) (vs := [(.int .i64 u34.2.1.1), (.int .i64 u34.2.1.2)]) (v := (.agg #[(.int .i64 u34.2.1.1), (.int .i64 u34.2.1.2)])) tf_106 rfl rfl hS45 rfl rfl rfl ?_
        obtain ⟨u47, hu47, hF⟩ := bindE hF
        refine wl_call rfl Try.call120 (C_spec_stSquare w43 u34.1 u34.2.1 _ hu47) rfl ?_
        rintro _ w48 ⟨rfl, hb49⟩
        refine ⟨_, rfl, ?_⟩
        have hB50 := hB44.trans (hb49.mono hB44.size)
        have hS51 := hS45.below hb49
        refine wl_lit (vs := [(.int .i64 u47)]) (l := [u47]) fl_3 Try.underlying24 rfl rfl rfl rfl rfl rfl hB50 hS51 ?_
        intro v53 F54 w55 hb56 hB57 hS58
        obtain ⟨u59, hu59, hF⟩ := bindE hF
        refine wl_append (i := 2) (S := (· < w55.heap.size)) fl_3 Try.underlying24 rfl rfl rfl hB57 hS58 rfl (hS58.own_ro (i := 0) rfl) hu59 ?_
        intro v60 F61 w62 hk63 hB64 hS65
        refine wl_assign rfl rfl ?_
        refine WL.nil ?_
        refine fun a ha => hK32 _ _ ?_ a ha
        refine W.region ?_
        refine wl_add rfl rfl rfl ?_
        refine wl_move rfl rfl ?_
        refine WL.nil ?_
        rw [hnx25] at hF
        exact fun a ha => hKL27 a _ m28 (Nat.lt_succ_self m28) ⟨u59, (w64 (y24 + 1)), v60, F61, ha.sub ⟨rfl, rfl, rfl, rfl, trivial⟩, hB64, (hS65.sel [2, 3] rfl), hF⟩
      · replace hF := ifN h31 hF
        refine W.exit ?_
        refine fun a ha => hK8 _ _ ?_ a ha
        refine W.seq fun K66 hK66 => ?_
        refine W.region ?_
        refine wl_move rfl rfl ?_
        refine wl_assign rfl rfl ?_
        refine WL.nil ?_
        refine fun a ha => hK66 _ _ ?_ a ha
        refine W.ret ?_
        have hr := Option.some.inj hF
        subst hr
        exact rets (vs := [v22]) hQ rfl ⟨rv_tmp rfl, trivial⟩ ⟨v22, F23, rfl, hB19, hS20.sel [0] rfl⟩
theorem C_spec_cpWays (w0 : World) (x0 : ((List (List (Int × Int))) × (List Int) × Int × Int)) (v0_0 : Value) (h0_0 : rdS ty_82 (· < w0.heap.size) w0 v0_0 x0.1) (v0_1 : Value) (h0_1 : rdS ty_3 (· < w0.heap.size) w0 v0_1 x0.2.1) (r : (List Int)) (hF : F_spec_cpWays x0 = some r) :
    Calls Try.prog 65 [(.agg #[v0_0, v0_1, (.int .i64 x0.2.2.1), (.int .i64 x0.2.2.2)])].toArray w0 fun e w' => ∃ (q0 : Value) (G0 : List Nat), e = .returned q0 ∧ Below w0.heap.size w0 w' ∧ Sep w0.heap.size w' [R.own ty_3 G0 q0 r] := by
  refine calls_mk' Try.func65 rfl Try.ntmps65 rfl rfl fun Q hQ hP => ?_
  have hB : Below w0.heap.size w0 w0 := Below.refl _ _
  have hS : Sep w0.heap.size w0 [] := Sep.nil _ _
  unfold F_spec_cpWays at hF
  refine W.seq fun K1 hK1 => ?_
  refine W.region ?_
  refine wl_box (cs := [v0_0, v0_1, (.int .i64 x0.2.2.1), (.int .i64 x0.2.2.2)]) rfl rfl rfl hB hS ?_
  intro b2 w3 hb4 hB5 hS6
  refine wl_assign rfl rfl ?_
  refine WL.nil ?_
  refine fun a ha => hK1 _ _ ?_ a ha
  refine W.seq fun K7 hK7 => ?_
  refine W.region ?_
  refine wl_field (o := 0) (off' := 0) ff_42_0 rfl rfl rfl ?_
  refine wl_load_blk (i := 0) (vs := [v0_0]) (v := v0_0) tf_40 rfl rfl hS6 rfl rfl rfl ?_
  obtain ⟨u8, hu8, hF⟩ := bindE hF
  refine wl_index (e := ty_82) Try.underlying40 rfl rfl rfl h0_0 hu8 ?_
  rintro p9 _ ⟨v11, rfl, hv12⟩ hp10
  refine wl_load_p (vs := [v11]) (v := v11) tf_82 rfl rfl (hp10.ro hB5) rfl rfl ?_
  refine wl_lenr (e := ty_106) (l := u8) Try.underlying82 rfl rfl hv12 ?_
  obtain ⟨u13, hu13, hF⟩ := bindE hF
  refine wl_make (e := ty_3) Try.underlying24 rfl rfl hu13 hB5 hS6 ?_
  intro v14 F15 w16 hb17 hB18 hS19
  refine wl_assign rfl rfl ?_
  refine WL.nil ?_
  refine fun a ha => hK7 _ _ ?_ a ha
  refine W.seq fun K20 hK20 => ?_
  refine W.seq fun K21 hK21 => ?_
  refine W.region ?_
  refine wl_field (o := 1) (off' := 1) ff_42_1 rfl rfl rfl ?_
  refine wl_load_blk (i := 1) (vs := [v0_1]) (v := v0_1) tf_24 rfl rfl hS19 rfl rfl rfl ?_
  refine wl_lenr (e := ty_3) (l := x0.2.1) Try.underlying24 rfl rfl h0_1 ?_
  refine wl_move rfl rfl ?_
  refine WL.nil ?_
  refine fun a ha => hK21 _ _ ?_ a ha
  refine W.block ?_
  refine W.loopk (fun m a w22 => ∃ (l25 : (List Int)) (y28 : Int) (v26 : Value) (F27 : List Nat), St 38 [(1, (.pointer (some ⟨b2, 0, none⟩))), (3, v26), (15, (.int .i64 (List.length x0.2.1 : Int))), (16, (.int .i64 y28))] a ∧ Below w0.heap.size w0 w22 ∧ Sep w0.heap.size w22 [R.blk b2 42 [v0_0, v0_1, (.int .i64 x0.2.2.1), (.int .i64 x0.2.2.2)], R.own ty_3 F27 v26 l25] ∧ F_spec_cpWays_L1 x0 m l25 y28 = some r) FU ?_ ?_
  ·
    exact fun a ha => ⟨u13, 0, v14, F15, ha.sub ⟨rfl, rfl, rfl, rfl, trivial⟩, hB18, (hS19.sel [1, 0] rfl), hF⟩
  ·
    rintro m31 a w22 ⟨l25, y28, v26, F27, ha, hB23, hS24, hF⟩ KL30 hKL30
    refine W.at ?_ ha
    cases m31 with
    | zero => exact noneE hF
    | succ m31 =>
      obtain ⟨nx29, hnx29⟩ : ∃ k, k = F_spec_cpWays_L1 x0 m31 := ⟨_, rfl⟩
      rw [F_spec_cpWays_L1, ← hnx29] at hF
      refine W.seq fun K32 hK32 => ?_
      refine W.region ?_
      refine wl_lss rfl rfl rfl ?_
      refine WL.nil ?_
      refine fun a ha => hK32 _ _ ?_ a ha
      refine W.seq fun K33 hK33 => ?_
      refine W.cond rfl (fun h34 => ?_) (fun h34 => ?_)
      · replace hF := ifP h34 hF
        refine W.skip ?_
        refine fun a ha => hK33 _ _ ?_ a ha
        refine W.seq fun K35 hK35 => ?_
        refine W.block ?_
        refine W.seq fun K36 hK36 => ?_
        refine W.region ?_
        refine wl_move rfl rfl ?_
        refine wl_assign rfl rfl ?_
        refine WL.nil ?_
        refine fun a ha => hK36 _ _ ?_ a ha
        refine W.seq fun K37 hK37 => ?_
        refine W.region ?_
        refine wl_load_blk (i := 0) (vs := [v0_0, v0_1, (.int .i64 x0.2.2.1), (.int .i64 x0.2.2.2)]) (v := (.agg #[v0_0, v0_1, (.int .i64 x0.2.2.1), (.int .i64 x0.2.2.2)])) tf_42 rfl rfl hS24 rfl rfl rfl ?_
        refine wl_move rfl rfl ?_
        obtain ⟨u38, hu38, hF⟩ := bindE hF
        refine wl_call rfl Try.call93 (C_spec_cpSquares w22 x0 v0_0 (h0_0.ro hB23) v0_1 (h0_1.ro hB23) y28 _ hu38) rfl ?_
        rintro _ w41 ⟨v39, F40, rfl, hb42, hM45⟩
        refine ⟨_, rfl, ?_⟩
        have hB43 := hB23.trans (hb42.mono hB23.size)
        have hS44 := hS24.join hb42 hM45 hB23.size
        refine wl_lenr (e := ty_3) (l := u38) Try.underlying24 rfl rfl (hS44.own_ro (i := 0) rfl) ?_
        refine wl_move rfl rfl ?_
        refine WL.nil ?_
        refine fun a ha => hK37 _ _ ?_ a ha
        refine W.block ?_
        refine W.loopk (fun m a w46 => ∃ (l49 : (List Int)) (y52 : Int) (v50 : Value) (F51 : List Nat), St 38 [(1, (.pointer (some ⟨b2, 0, none⟩))), (3, v50), (15, (.int .i64 (List.length x0.2.1 : Int))), (16, (.int .i64 y28)), (21, v39), (22, (.int .i64 (List.length u38 : Int))), (23, (.int .i64 y52))] a ∧ Below w0.heap.size w0 w46 ∧ Sep w0.heap.size w46 [R.blk b2 42 [v0_0, v0_1, (.int .i64 x0.2.2.1), (.int .i64 x0.2.2.2)], R.own ty_3 F51 v50 l49, R.own ty_3 F40 v39 u38] ∧ F_spec_cpWays_L2 u38 nx29 y28 m l49 y52 = some r) FU ?_ ?_
        ·
          exact fun a ha => ⟨l25, 0, v26, F27, ha.sub ⟨rfl, rfl, rfl, rfl, rfl, rfl, rfl, trivial⟩, hB43, (hS44.sel [1, 2, 0] rfl), hF⟩
        ·
          rintro m55 a w46 ⟨l49, y52, v50, F51, ha, hB47, hS48, hF⟩ KL54 hKL54
          refine W.at ?_ ha
          cases m55 with
          | zero => exact noneE hF
          | succ m55 =>
            obtain ⟨nx53, hnx53⟩ : ∃ k, k = F_spec_cpWays_L2 u38 nx29 y28 m55 := ⟨_, rfl⟩
            rw [F_spec_cpWays_L2, ← hnx53] at hF
            refine W.seq fun K56 hK56 => ?_
            refine W.region ?_
            refine wl_lss rfl rfl rfl ?_
            refine WL.nil ?_
            refine fun a ha => hK56 _ _ ?_ a ha
            refine W.seq fun K57 hK57 => ?_
            refine W.cond rfl (fun h58 => ?_) (fun h58 => ?_)
            · replace hF := ifP h58 hF
              refine W.skip ?_
              refine fun a ha => hK57 _ _ ?_ a ha
              refine W.seq fun K59 hK59 => ?_
              refine W.block ?_
              refine W.seq fun K60 hK60 => ?_
              refine W.region ?_
              refine wl_move rfl rfl ?_
              obtain ⟨u61, hu61, hF⟩ := bindE hF
              refine wl_indexo (e := ty_3) (i := 2) Try.underlying24 rfl rfl rfl hS48 rfl hu61 ?_
              rintro p62 _ rfl hp63 ho64
              refine wl_load_p (vs := [(.int .i64 u61)]) (v := (.int .i64 u61)) tf_3 rfl rfl hp63 rfl rfl ?_
              refine wl_assign rfl rfl ?_
              refine wl_assign rfl rfl ?_
              refine WL.nil ?_
              refine fun a ha => hK60 _ _ ?_ a ha
              refine W.region ?_
              refine wl_move rfl rfl ?_
              refine wl_move rfl rfl ?_
              obtain ⟨u65, hu65, hF⟩ := bindE hF
              refine wl_indexo (e := ty_3) (i := 1) Try.underlying24 rfl rfl rfl hS48 rfl hu65 ?_
              rintro p66 _ rfl hp67 ho68
              refine wl_load_p (vs := [(.int .i64 u65)]) (v := (.int .i64 u65)) tf_3 rfl rfl hp67 rfl rfl ?_
              refine wl_move rfl rfl ?_
              refine wl_add rfl rfl rfl ?_
              obtain ⟨u69, hu69, hF⟩ := bindE hF
              refine wl_indexo (e := ty_3) (i := 1) Try.underlying24 rfl rfl rfl hS48 rfl hu69 ?_
              rintro p70 _ rfl hp71 ho72
              refine wl_storeo (i := 1) (o := 0) (vs := [(.int .i64 (w64 (u65 + u61)))]) (u' := (w64 (u65 + u61))) fl_3 tf_3 rfl rfl rfl rfl ho72 hu69 hB47 hS48 rfl rfl ⟨rfl, trivial⟩ rfl ?_
              intro w73 hk76 hB74 hS75
              refine WL.nil ?_
              refine fun a ha => hK59 _ _ ?_ a ha
              refine W.region ?_
              refine wl_add rfl rfl rfl ?_
              refine wl_move rfl rfl ?_
              refine WL.nil ?_
              rw [hnx53] at hF
              exact fun a ha => hKL54 a _ m55 (Nat.lt_succ_self m55) ⟨(seti l49 y52 (w64 (u65 + u61))), (w64 (y52 + 1)), v50, F51, ha.sub ⟨rfl, rfl, rfl, rfl, rfl, rfl, rfl, trivial⟩, hB74, (hS75.sel [0, 1, 2] rfl), hF⟩
            · replace hF := ifN h58 hF
              refine W.exit ?_
              refine fun a ha => hK35 _ _ ?_ a ha
              refine W.region ?_
              refine wl_add rfl rfl rfl ?_
              refine wl_move rfl rfl ?_
              refine WL.nil ?_
              rw [hnx29] at hF
              exact fun a ha => hKL30 a _ m31 (Nat.lt_succ_self m31) ⟨l49, (w64 (y28 + 1)), v50, F51, ha.sub ⟨rfl, rfl, rfl, rfl, trivial⟩, hB47, (hS48.sel [0, 1] rfl), hF⟩
      · replace hF := ifN h34 hF
        refine W.exit ?_
        refine fun a ha => hK20 _ _ ?_ a ha
        refine W.seq fun K77 hK77 => ?_
        refine W.region ?_
        refine wl_move rfl rfl ?_
        refine wl_assign rfl rfl ?_
        refine WL.nil ?_
        refine fun a ha => hK77 _ _ ?_ a ha
        refine W.ret ?_
        have hr := Option.some.inj hF
        subst hr
        exact rets (vs := [v26]) hQ rfl ⟨rv_tmp rfl, trivial⟩ ⟨v26, F27, rfl, hB23, hS24.sel [1] rfl⟩
theorem C_spec_cpSum (w0 : World) (x0 : (List Int)) (v0_0 : Value) (h0_0 : rdS ty_3 (· < w0.heap.size) w0 v0_0 x0) (r : Int) (hF : F_spec_cpSum x0 = some r) :
    Calls Try.prog 64 [v0_0].toArray w0 fun e w' => e = .returned (.int .i64 r) ∧ Below w0.heap.size w0 w' := by
  refine calls_mk' Try.func64 rfl Try.ntmps64 rfl rfl fun Q hQ hP => ?_
  have hB : Below w0.heap.size w0 w0 := Below.refl _ _
  have hS : Sep w0.heap.size w0 [] := Sep.nil _ _
  unfold F_spec_cpSum at hF
  refine W.seq fun K1 hK1 => ?_
  refine W.region ?_
  refine wl_assign rfl rfl ?_
  refine WL.nil ?_
  refine fun a ha => hK1 _ _ ?_ a ha
  refine W.seq fun K2 hK2 => ?_
  refine W.region ?_
  refine wl_assign rfl rfl ?_
  refine WL.nil ?_
  refine fun a ha => hK2 _ _ ?_ a ha
  refine W.seq fun K3 hK3 => ?_
  refine W.seq fun K4 hK4 => ?_
  refine W.region ?_
  refine wl_move rfl rfl ?_
  refine wl_lenr (e := ty_3) (l := x0) Try.underlying24 rfl rfl h0_0 ?_
  refine wl_move rfl rfl ?_
  refine WL.nil ?_
  refine fun a ha => hK4 _ _ ?_ a ha
  refine W.block ?_
  refine W.loopk (fun m a w5 => ∃ (y8 : Int) (y9 : Int), St 17 [(3, (.int .i64 y8)), (6, v0_0), (7, (.int .i64 (List.length x0 : Int))), (8, (.int .i64 y9))] a ∧ Below w0.heap.size w0 w5 ∧ Sep w0.heap.size w5 [] ∧ F_spec_cpSum_L1 x0 m y8 y9 = some r) FU ?_ ?_
  ·
    exact fun a ha => ⟨0, 0, ha.sub ⟨rfl, rfl, rfl, rfl, trivial⟩, hB, (hS.sel [] rfl), hF⟩
  ·
    rintro m12 a w5 ⟨y8, y9, ha, hB6, hS7, hF⟩ KL11 hKL11
    refine W.at ?_ ha
    cases m12 with
    | zero => exact noneE hF
    | succ m12 =>
      obtain ⟨nx10, hnx10⟩ : ∃ k, k = F_spec_cpSum_L1 x0 m12 := ⟨_, rfl⟩
      rw [F_spec_cpSum_L1, ← hnx10] at hF
      refine W.seq fun K13 hK13 => ?_
      refine W.region ?_
      refine wl_lss rfl rfl rfl ?_
      refine WL.nil ?_
      refine fun a ha => hK13 _ _ ?_ a ha
      refine W.seq fun K14 hK14 => ?_
      refine W.cond rfl (fun h15 => ?_) (fun h15 => ?_)
      · replace hF := ifP h15 hF
        refine W.skip ?_
        refine fun a ha => hK14 _ _ ?_ a ha
        refine W.seq fun K16 hK16 => ?_
        refine W.block ?_
        refine W.seq fun K17 hK17 => ?_
        refine W.region ?_
        obtain ⟨u18, hu18, hF⟩ := bindE hF
        refine wl_index (e := ty_3) Try.underlying24 rfl rfl rfl h0_0 hu18 ?_
        rintro p19 _ rfl hp20
        refine wl_load_p (vs := [(.int .i64 u18)]) (v := (.int .i64 u18)) tf_3 rfl rfl (hp20.ro hB6) rfl rfl ?_
        refine wl_assign rfl rfl ?_
        refine WL.nil ?_
        refine fun a ha => hK17 _ _ ?_ a ha
        refine W.region ?_
        refine wl_move rfl rfl ?_
        refine wl_move rfl rfl ?_
        refine wl_add rfl rfl rfl ?_
        refine wl_assign rfl rfl ?_
        refine WL.nil ?_
        refine fun a ha => hK16 _ _ ?_ a ha
        refine W.region ?_
        refine wl_add rfl rfl rfl ?_
        refine wl_move rfl rfl ?_
        refine WL.nil ?_
        rw [hnx10] at hF
        exact fun a ha => hKL11 a _ m12 (Nat.lt_succ_self m12) ⟨(w64 (y8 + u18)), (w64 (y9 + 1)), ha.sub ⟨rfl, rfl, rfl, rfl, trivial⟩, hB6, (hS7.sel [] rfl), hF⟩
      · replace hF := ifN h15 hF
        refine W.exit ?_
        refine fun a ha => hK3 _ _ ?_ a ha
        refine W.seq fun K21 hK21 => ?_
        refine W.region ?_
        refine wl_move rfl rfl ?_
        refine wl_assign rfl rfl ?_
        refine WL.nil ?_
        refine fun a ha => hK21 _ _ ?_ a ha
        refine W.ret ?_
        have hr := Option.some.inj hF
        subst hr
        exact rets (vs := [(.int .i64 y8)]) hQ rfl ⟨rv_tmp rfl, trivial⟩ ⟨rfl, hB6⟩
end Go.Proofs.Ytcndhhjolnebdaa
