/-
  THE WALKS of functions of this seat, by program (gen.py, prune.py).
-/
import Derived.Test.YtadklddedeoniaaWXFnExactDropShowCharta
set_option linter.unusedSimpArgs false
set_option linter.unusedVariables false
set_option maxRecDepth 100000
namespace Go.Proofs.Ytadklddedeoniaa
open Go Go.RowKit
theorem C_laws_heldSpotSS (w0 : World) (x0 : (List (List (Int × Int)))) (v0_0 : Value) (h0_0 : rdS ty_69 (· < w0.heap.size) w0 v0_0 x0) (x1 : Int) (r : Int) (hF : F_laws_heldSpotSS x0 x1 = some r) :
    Calls Try.prog 99 [v0_0, (.int .i64 x1)].toArray w0 fun e w' => e = .returned (.int .i64 r) ∧ Below w0.heap.size w0 w' := by
  refine calls_mk' Try.func99 rfl Try.ntmps99 rfl rfl fun Q hQ hP => ?_
  have hB : Below w0.heap.size w0 w0 := Below.refl _ _
  have hS : Sep w0.heap.size w0 [] := Sep.nil _ _
  unfold F_laws_heldSpotSS at hF
  refine W.seq fun K1 hK1 => ?_
  refine W.region ?_
  refine wl_assign rfl rfl ?_
  refine WL.nil ?_
  refine fun a ha => hK1 _ _ ?_ a ha
  refine W.seq fun K2 hK2 => ?_
  refine W.seq fun K3 hK3 => ?_
  refine W.region ?_
  refine wl_assign rfl rfl ?_
  refine WL.nil ?_
  refine fun a ha => hK3 _ _ ?_ a ha
  refine W.block ?_
  refine W.loopk (fun m a w4 => ∃ (y7 : Int) (y8 : Int), St 21 [(0, v0_0), (1, (.int .i64 y7)), (5, (.int .i64 y8))] a ∧ Below w0.heap.size w0 w4 ∧ Sep w0.heap.size w4 [] ∧ F_laws_heldSpotSS_L1 x0 m y7 y8 = some r) FU ?_ ?_
  ·
    exact fun a ha => ⟨x1, 0, ha.sub ⟨rfl, rfl, rfl, trivial⟩, hB, (hS.sel [] rfl), hF⟩
  ·
    rintro m11 a w4 ⟨y7, y8, ha, hB5, hS6, hF⟩ KL10 hKL10
    refine W.at ?_ ha
    cases m11 with
    | zero => exact noneE hF
    | succ m11 =>
      obtain ⟨nx9, hnx9⟩ : ∃ k, k = F_laws_heldSpotSS_L1 x0 m11 := ⟨_, rfl⟩
      rw [F_laws_heldSpotSS_L1, ← hnx9] at hF
      refine W.seq fun K12 hK12 => ?_
      refine W.seq fun K13 hK13 => ?_
      refine W.region ?_
      refine wl_move rfl rfl ?_
      refine wl_move rfl rfl ?_
      refine wl_lenr (e := ty_69) (l := x0) Try.underlying29 rfl rfl h0_0 ?_
      refine wl_lss rfl rfl rfl ?_
      refine WL.nil ?_
      refine fun a ha => hK13 _ _ ?_ a ha
      refine W.cond rfl (fun h14 => ?_) (fun h14 => ?_)
      · replace hF := ifP h14 hF
        refine W.skip ?_
        refine fun a ha => hK12 _ _ ?_ a ha
        refine W.seq fun K15 hK15 => ?_
        refine W.block ?_
        refine W.seq fun K16 hK16 => ?_
        refine W.region ?_
        refine wl_move rfl rfl ?_
        refine wl_move rfl rfl ?_
        obtain ⟨u17, hu17, hF⟩ := bindE hF
        refine wl_index (e := ty_69) Try.underlying29 rfl rfl rfl h0_0 hu17 ?_
        rintro p18 _ ⟨v20, rfl, hv21⟩ hp19
        refine wl_load_p (vs := [v20]) (v := v20) tf_69 rfl rfl (hp19.ro hB5) rfl rfl ?_
        refine wl_move rfl rfl ?_
        obtain ⟨u22, hu22, hF⟩ := bindE hF
        refine wl_call rfl Try.call138 (C_laws_heldSpotS w4 u17 v20 (hv21.ro hB5) y7 _ hu22) rfl ?_
        rintro _ w23 ⟨rfl, hb24⟩
        refine ⟨_, rfl, ?_⟩
        have hB25 := hB5.trans (hb24.mono hB5.size)
        have hS26 := hS6.below hb24
        refine wl_assign rfl rfl ?_
        refine WL.nil ?_
        refine fun a ha => hK16 _ _ ?_ a ha
        refine W.seq fun K28 hK28 => ?_
        refine W.region ?_
        refine wl_move rfl rfl ?_
        refine wl_lss rfl rfl rfl ?_
        refine WL.nil ?_
        refine fun a ha => hK28 _ _ ?_ a ha
        refine W.cond rfl (fun h29 => ?_) (fun h29 => ?_)
        · replace hF := ifP h29 hF
          refine W.seq fun K30 hK30 => ?_
          refine W.region ?_
          refine wl_assign rfl rfl ?_
          refine WL.nil ?_
          refine fun a ha => hK30 _ _ ?_ a ha
          refine W.ret ?_
          have hr := Option.some.inj hF
          subst hr
          exact rets (vs := [(.int .i64 (-1))]) hQ rfl ⟨rv_tmp rfl, trivial⟩ ⟨rfl, hB25⟩
        · replace hF := ifN h29 hF
          refine W.skip ?_
          refine fun a ha => hK15 _ _ ?_ a ha
          refine W.region ?_
          refine wl_move rfl rfl ?_
          refine wl_add rfl rfl rfl ?_
          refine wl_assign rfl rfl ?_
          refine WL.nil ?_
          rw [hnx9] at hF
          exact fun a ha => hKL10 a _ m11 (Nat.lt_succ_self m11) ⟨u22, (w64 (y8 + 1)), ha.sub ⟨rfl, rfl, rfl, trivial⟩, hB25, (hS26.sel [] rfl), hF⟩
      · replace hF := ifN h14 hF
        refine W.exit ?_
        refine fun a ha => hK2 _ _ ?_ a ha
        refine W.seq fun K31 hK31 => ?_
        refine W.region ?_
        refine wl_move rfl rfl ?_
        refine wl_assign rfl rfl ?_
        refine WL.nil ?_
        refine fun a ha => hK31 _ _ ?_ a ha
        refine W.ret ?_
        have hr := Option.some.inj hF
        subst hr
        exact rets (vs := [(.int .i64 y7)]) hQ rfl ⟨rv_tmp rfl, trivial⟩ ⟨rfl, hB5⟩
theorem C_laws_heldShow (w0 : World) (x0 : ((List (List (Int × Int))) × (List Int) × Int × Int)) (v0_0 : Value) (h0_0 : rdS ty_69 (· < w0.heap.size) w0 v0_0 x0.1) (v0_1 : Value) (h0_1 : rdS ty_3 (· < w0.heap.size) w0 v0_1 x0.2.1) (x1 : Int) (r : Int) (hF : F_laws_heldShow x0 x1 = some r) :
    Calls Try.prog 43 [(.agg #[v0_0, v0_1, (.int .i64 x0.2.2.1), (.int .i64 x0.2.2.2)]), (.int .i64 x1)].toArray w0 fun e w' => e = .returned (.int .i64 r) ∧ Below w0.heap.size w0 w' := by
  refine calls_mk' Try.func43 rfl Try.ntmps43 rfl rfl fun Q hQ hP => ?_
  have hB : Below w0.heap.size w0 w0 := Below.refl _ _
  have hS : Sep w0.heap.size w0 [] := Sep.nil _ _
  unfold F_laws_heldShow at hF
  refine W.seq fun K1 hK1 => ?_
  refine W.region ?_
  refine wl_box (cs := [v0_0, v0_1, (.int .i64 x0.2.2.1), (.int .i64 x0.2.2.2)]) rfl rfl rfl hB hS ?_
  intro b2 w3 hb4 hB5 hS6
  refine wl_assign rfl rfl ?_
  refine WL.nil ?_
  refine fun a ha => hK1 _ _ ?_ a ha
  refine W.seq fun K7 hK7 => ?_
  refine W.region ?_
  refine wl_field (o := 0) (off' := 0) ff_31_0 rfl rfl rfl ?_
  refine wl_load_blk (i := 0) (vs := [v0_0]) (v := v0_0) tf_29 rfl rfl hS6 rfl rfl rfl ?_
  refine wl_move rfl rfl ?_
  obtain ⟨u8, hu8, hF⟩ := bindE hF
  refine wl_call rfl Try.call99 (C_laws_heldSpotSS w3 x0.1 v0_0 (h0_0.ro hB5) x1 _ hu8) rfl ?_
  rintro _ w9 ⟨rfl, hb10⟩
  refine ⟨_, rfl, ?_⟩
  have hB11 := hB5.trans (hb10.mono hB5.size)
  have hS12 := hS6.below hb10
  refine wl_assign rfl rfl ?_
  refine WL.nil ?_
  refine fun a ha => hK7 _ _ ?_ a ha
  refine W.seq fun K14 hK14 => ?_
  refine W.seq fun K15 hK15 => ?_
  refine W.region ?_
  refine wl_move rfl rfl ?_
  refine wl_lss rfl rfl rfl ?_
  refine WL.nil ?_
  refine fun a ha => hK15 _ _ ?_ a ha
  refine W.cond rfl (fun h16 => ?_) (fun h16 => ?_)
  · replace hF := ifP h16 hF
    refine W.seq fun K17 hK17 => ?_
    refine W.region ?_
    refine wl_assign rfl rfl ?_
    refine WL.nil ?_
    refine fun a ha => hK17 _ _ ?_ a ha
    refine W.ret ?_
    have hr := Option.some.inj hF
    subst hr
    exact rets (vs := [(.int .i64 (-1))]) hQ rfl ⟨rv_tmp rfl, trivial⟩ ⟨rfl, hB11⟩
  · replace hF := ifN h16 hF
    refine W.skip ?_
    refine fun a ha => hK14 _ _ ?_ a ha
    refine W.seq fun K18 hK18 => ?_
    refine W.region ?_
    refine wl_field (o := 1) (off' := 1) ff_31_1 rfl rfl rfl ?_
    refine wl_load_blk (i := 0) (vs := [v0_1]) (v := v0_1) tf_23 rfl rfl hS12 rfl rfl rfl ?_
    refine wl_move rfl rfl ?_
    obtain ⟨u19, hu19, hF⟩ := bindE hF
    refine wl_call rfl Try.call23 (C_laws_heldIntS w9 x0.2.1 v0_1 (h0_1.ro hB11) u8 _ hu19) rfl ?_
    rintro _ w20 ⟨rfl, hb21⟩
    refine ⟨_, rfl, ?_⟩
    have hB22 := hB11.trans (hb21.mono hB11.size)
    have hS23 := hS12.below hb21
    refine wl_assign rfl rfl ?_
    refine WL.nil ?_
    refine fun a ha => hK18 _ _ ?_ a ha
    refine W.seq fun K25 hK25 => ?_
    refine W.seq fun K26 hK26 => ?_
    refine W.region ?_
    refine wl_move rfl rfl ?_
    refine wl_lss rfl rfl rfl ?_
    refine WL.nil ?_
    refine fun a ha => hK26 _ _ ?_ a ha
    refine W.cond rfl (fun h27 => ?_) (fun h27 => ?_)
    · replace hF := ifP h27 hF
      refine W.seq fun K28 hK28 => ?_
      refine W.region ?_
      refine wl_assign rfl rfl ?_
      refine WL.nil ?_
      refine fun a ha => hK28 _ _ ?_ a ha
      refine W.ret ?_
      have hr := Option.some.inj hF
      subst hr
      exact rets (vs := [(.int .i64 (-1))]) hQ rfl ⟨rv_tmp rfl, trivial⟩ ⟨rfl, hB22⟩
    · replace hF := ifN h27 hF
      refine W.skip ?_
      refine fun a ha => hK25 _ _ ?_ a ha
      refine W.seq fun K29 hK29 => ?_
      refine W.region ?_
      refine wl_move rfl rfl ?_
      refine wl_assign rfl rfl ?_
      refine WL.nil ?_
      refine fun a ha => hK29 _ _ ?_ a ha
      refine W.ret ?_
      have hr := Option.some.inj hF
      subst hr
      exact rets (vs := [(.int .i64 u19)]) hQ rfl ⟨rv_tmp rfl, trivial⟩ ⟨rfl, hB22⟩
theorem C_laws_markSpotS (w0 : World) (x0 : (List (Int × Int))) (v0_0 : Value) (B0_0 : List Nat) (x1 : Int) (hS0 : Sep 0 w0 [R.own ty_116 B0_0 v0_0 x0]) (r : (Int × (List (Int × Int)))) (hF : F_laws_markSpotS x0 x1 = some r) :
    Calls Try.prog 49 [v0_0, (.int .i64 x1)].toArray w0 fun e w' => e = .returned (.int .i64 r.1) ∧ Below 0 (wE w0) w' ∧ Sep 0 w' [R.rest w0 (fps [R.own ty_116 B0_0 v0_0 x0]), R.own ty_116 B0_0 v0_0 r.2] := by
  refine calls_mk' Try.func49 rfl Try.ntmps49 rfl rfl fun Q hQ hP => ?_
  have hB : Below (wE w0).heap.size (wE w0) w0 := wE_below w0
  have hS : Sep (wE w0).heap.size w0 [R.rest w0 (fps [R.own ty_116 B0_0 v0_0 x0]), R.own ty_116 B0_0 v0_0 x0] := hS0.rest
  unfold F_laws_markSpotS at hF
  refine W.seq fun K1 hK1 => ?_
  refine W.region ?_
  refine wl_assign rfl rfl ?_
  refine WL.nil ?_
  refine fun a ha => hK1 _ _ ?_ a ha
  refine W.seq fun K2 hK2 => ?_
  refine W.seq fun K3 hK3 => ?_
  refine W.region ?_
  refine wl_assign rfl rfl ?_
  refine WL.nil ?_
  refine fun a ha => hK3 _ _ ?_ a ha
  refine W.block ?_
  refine W.loopk (fun m a w4 => ∃ (l7 : (List (Int × Int))) (y8 : Int) (y9 : Int), St 27 [(0, v0_0), (1, (.int .i64 y8)), (5, (.int .i64 y9))] a ∧ Below (wE w0).heap.size (wE w0) w4 ∧ Sep (wE w0).heap.size w4 [R.rest w0 (fps [R.own ty_116 B0_0 v0_0 x0]), R.own ty_116 B0_0 v0_0 l7] ∧ F_laws_markSpotS_L1 m l7 y8 y9 = some r) FU ?_ ?_
  ·
    exact fun a ha => ⟨x0, x1, 0, ha.sub ⟨rfl, rfl, rfl, trivial⟩, hB, (hS.sel [0, 1] rfl), hF⟩
  ·
    rintro m12 a w4 ⟨l7, y8, y9, ha, hB5, hS6, hF⟩ KL11 hKL11
    refine W.at ?_ ha
    cases m12 with
    | zero => exact noneE hF
    | succ m12 =>
      obtain ⟨nx10, hnx10⟩ : ∃ k, k = F_laws_markSpotS_L1 m12 := ⟨_, rfl⟩
      rw [F_laws_markSpotS_L1, ← hnx10] at hF
      refine W.seq fun K13 hK13 => ?_
      refine W.seq fun K14 hK14 => ?_
      refine W.region ?_
      refine wl_move rfl rfl ?_
      refine wl_move rfl rfl ?_
      refine wl_lenr (e := ty_116) (l := l7) Try.underlying69 rfl rfl (hS6.own_ro (i := 1) rfl) ?_
      refine wl_lss rfl rfl rfl ?_
      refine WL.nil ?_
      refine fun a ha => hK14 _ _ ?_ a ha
      refine W.cond rfl (fun h15 => ?_) (fun h15 => ?_)
      · replace hF := ifP h15 hF
        refine W.skip ?_
        refine fun a ha => hK13 _ _ ?_ a ha
        refine W.seq fun K16 hK16 => ?_
        refine W.block ?_
        refine W.seq fun K17 hK17 => ?_
        refine W.region ?_
        refine wl_move rfl rfl ?_
        refine wl_move rfl rfl ?_
        refine wl_move rfl rfl ?_
        obtain ⟨u18, hu18, hF⟩ := bindE hF
        refine wl_indexo (e := ty_116) (i := 1) Try.underlying69 rfl rfl rfl hS6 rfl hu18 ?_
        rintro p19 _ rfl hp20 ho21
        refine wl_fieldp (o := 0) ff_116_0 rfl rfl ?_
        refine wl_storeo (i := 1) (o := 0) (vs := [(.int .i64 y8)]) (u' := (y8, u18.2)) fl_116 tf_3 rfl rfl rfl rfl ho21 hu18 hB5 hS6 rfl rfl ⟨rfl, trivial⟩ rfl ?_
        intro w22 hk25 hB23 hS24
        refine WL.nil ?_
        refine fun a ha => hK17 _ _ ?_ a ha
        refine W.seq fun K26 hK26 => ?_
        refine W.region ?_
        refine wl_move rfl rfl ?_
        refine wl_add rfl rfl rfl ?_
        refine wl_assign rfl rfl ?_
        refine WL.nil ?_
        refine fun a ha => hK26 _ _ ?_ a ha
        refine W.seq fun K27 hK27 => ?_
        refine W.region ?_
        refine wl_move rfl rfl ?_
        refine wl_move rfl rfl ?_
        refine wl_move rfl rfl ?_
        obtain ⟨u28, hu28, hF⟩ := bindE hF
        refine wl_indexo (e := ty_116) (i := 1) Try.underlying69 rfl rfl rfl hS24 rfl hu28 ?_
        rintro p29 _ rfl hp30 ho31
        refine wl_fieldp (o := 1) ff_116_1 rfl rfl ?_
        refine wl_storeo (i := 1) (o := 1) (vs := [(.int .i64 (w64 (y8 + 1)))]) (u' := (u28.1, (w64 (y8 + 1)))) fl_116 tf_3 rfl rfl rfl rfl (ho31.add 1) hu28 hB23 hS24 rfl rfl ⟨rfl, trivial⟩ rfl ?_
        intro w32 hk35 hB33 hS34
        refine WL.nil ?_
        refine fun a ha => hK27 _ _ ?_ a ha
        refine W.region ?_
        refine wl_move rfl rfl ?_
        refine wl_add rfl rfl rfl ?_
        refine wl_assign rfl rfl ?_
        refine WL.nil ?_
        refine fun a ha => hK16 _ _ ?_ a ha
        refine W.region ?_
        refine wl_move rfl rfl ?_
        refine wl_add rfl rfl rfl ?_
        refine wl_assign rfl rfl ?_
        refine WL.nil ?_
        rw [hnx10] at hF
        exact fun a ha => hKL11 a _ m12 (Nat.lt_succ_self m12) ⟨(seti (seti l7 y9 (y8, u18.2)) y9 (u28.1, (w64 (y8 + 1)))), (w64 ((w64 (y8 + 1)) + 1)), (w64 (y9 + 1)), ha.sub ⟨rfl, rfl, rfl, trivial⟩, hB33, (hS34.sel [0, 1] rfl), hF⟩
      · replace hF := ifN h15 hF
        refine W.exit ?_
        refine fun a ha => hK2 _ _ ?_ a ha
        refine W.seq fun K36 hK36 => ?_
        refine W.region ?_
        refine wl_move rfl rfl ?_
        refine wl_assign rfl rfl ?_
        refine WL.nil ?_
        refine fun a ha => hK36 _ _ ?_ a ha
        refine W.ret ?_
        have hr := Option.some.inj hF
        subst hr
        exact rets (vs := [(.int .i64 y8)]) hQ rfl ⟨rv_tmp rfl, trivial⟩ ⟨rfl, hB5, hS6.sel [0, 1] rfl⟩
theorem C_laws_markSpotSS (w0 : World) (x0 : (List (List (Int × Int)))) (v0_0 : Value) (B0_0 : List Nat) (x1 : Int) (hS0 : Sep 0 w0 [R.own ty_69 B0_0 v0_0 x0]) (r : (Int × (List (List (Int × Int))))) (hF : F_laws_markSpotSS x0 x1 = some r) :
    Calls Try.prog 76 [v0_0, (.int .i64 x1)].toArray w0 fun e w' => e = .returned (.int .i64 r.1) ∧ Below 0 (wE w0) w' ∧ Sep 0 w' [R.rest w0 (fps [R.own ty_69 B0_0 v0_0 x0]), R.own ty_69 B0_0 v0_0 r.2] := by
  refine calls_mk' Try.func76 rfl Try.ntmps76 rfl rfl fun Q hQ hP => ?_
  have hB : Below (wE w0).heap.size (wE w0) w0 := wE_below w0
  have hS : Sep (wE w0).heap.size w0 [R.rest w0 (fps [R.own ty_69 B0_0 v0_0 x0]), R.own ty_69 B0_0 v0_0 x0] := hS0.rest
  unfold F_laws_markSpotSS at hF
  refine W.seq fun K1 hK1 => ?_
  refine W.region ?_
  refine wl_assign rfl rfl ?_
  refine WL.nil ?_
  refine fun a ha => hK1 _ _ ?_ a ha
  refine W.seq fun K2 hK2 => ?_
  refine W.seq fun K3 hK3 => ?_
  refine W.region ?_
  refine wl_assign rfl rfl ?_
  refine WL.nil ?_
  refine fun a ha => hK3 _ _ ?_ a ha
  refine W.block ?_
  refine W.loopk (fun m a w4 => ∃ (l7 : (List (List (Int × Int)))) (y8 : Int) (y9 : Int), St 19 [(0, v0_0), (1, (.int .i64 y8)), (5, (.int .i64 y9))] a ∧ Below (wE w0).heap.size (wE w0) w4 ∧ Sep (wE w0).heap.size w4 [R.rest w0 (fps [R.own ty_69 B0_0 v0_0 x0]), R.own ty_69 B0_0 v0_0 l7] ∧ F_laws_markSpotSS_L1 m l7 y8 y9 = some r) FU ?_ ?_
  ·
    exact fun a ha => ⟨x0, x1, 0, ha.sub ⟨rfl, rfl, rfl, trivial⟩, hB, (hS.sel [0, 1] rfl), hF⟩
  ·
    rintro m12 a w4 ⟨l7, y8, y9, ha, hB5, hS6, hF⟩ KL11 hKL11
    refine W.at ?_ ha
    cases m12 with
    | zero => exact noneE hF
    | succ m12 =>
      obtain ⟨nx10, hnx10⟩ : ∃ k, k = F_laws_markSpotSS_L1 m12 := ⟨_, rfl⟩
      rw [F_laws_markSpotSS_L1, ← hnx10] at hF
      refine W.seq fun K13 hK13 => ?_
      refine W.seq fun K14 hK14 => ?_
      refine W.region ?_
      refine wl_move rfl rfl ?_
      refine wl_move rfl rfl ?_
      refine wl_lenr (e := ty_69) (l := l7) Try.underlying29 rfl rfl (hS6.own_ro (i := 1) rfl) ?_
      refine wl_lss rfl rfl rfl ?_
      refine WL.nil ?_
      refine fun a ha => hK14 _ _ ?_ a ha
      refine W.cond rfl (fun h15 => ?_) (fun h15 => ?_)
      · replace hF := ifP h15 hF
        refine W.skip ?_
        refine fun a ha => hK13 _ _ ?_ a ha
        refine W.seq fun K16 hK16 => ?_
        refine W.block ?_
        refine W.region ?_
        refine wl_move rfl rfl ?_
        refine wl_move rfl rfl ?_
        obtain ⟨u17, hu17, hF⟩ := bindE hF
        refine wl_indexo (e := ty_69) (i := 1) Try.underlying29 rfl rfl rfl hS6 rfl hu17 ?_
        rintro p18 _ ⟨v20, rfl, hv21⟩ hp19 ho22
        refine wl_load_p (vs := [v20]) (v := v20) tf_69 rfl rfl hp19 rfl rfl ?_
        refine wl_move rfl rfl ?_
        obtain ⟨F23, hS24, hq25, hq26⟩ := (hS6.sel [1, 0] rfl).borrow (e := ty_69) (F := B0_0) (v := v0_0) (l := l7) hu17 ho22 hp19 rfl
        have hS27 : Sep (wE w0).heap.size w4 [R.own ty_116 F23 v20 u17, R.hole ty_69 B0_0 F23 v0_0 l7 y9.toNat [v20], R.rest w0 (fps [R.own ty_69 B0_0 v0_0 x0])] := hS24.head rfl fun _ h => by obtain ⟨_, h1, h2⟩ := h; cases h1; exact h2
        obtain ⟨u28, hu28, hF⟩ := bindE hF
        refine wl_call rfl Try.call49 (C_laws_markSpotS w4 u17 v20 F23 y8 (hS27.sel [0] rfl).base0 _ hu28) rfl ?_
        rintro _ w29 ⟨rfl, hE30, hM31⟩
        refine ⟨_, rfl, ?_⟩
        have hB32 := hS27.mutB [0] rfl (M := [R.own ty_116 F23 v20 u17]) rfl (M' := [R.own ty_116 F23 v20 u28.2]) rfl hB5 hB5.size hE30 hM31
        have hS33 : Sep (wE w0).heap.size w29 [R.own ty_116 F23 v20 u28.2, R.hole ty_69 B0_0 F23 v0_0 l7 y9.toNat [v20], R.rest w0 (fps [R.own ty_69 B0_0 v0_0 x0])] := hS27.mut [0] [1, 2] rfl (M := [R.own ty_116 F23 v20 u17]) rfl (M' := [R.own ty_116 F23 v20 u28.2]) rfl hM31
        have hS34 := hS33.head (r' := R.cel ty_69 F23 [v20] u28.2) rfl fun _ h => ⟨_, rfl, h⟩
        have hS35 : Sep (wE w0).heap.size w29 [R.own ty_69 B0_0 v0_0 (seti l7 y9 u28.2), R.rest w0 (fps [R.own ty_69 B0_0 v0_0 x0])] := hS34.unborrow hq25 hq26
        refine wl_assign rfl rfl ?_
        refine WL.nil ?_
        refine fun a ha => hK16 _ _ ?_ a ha
        refine W.region ?_
        refine wl_move rfl rfl ?_
        refine wl_add rfl rfl rfl ?_
        refine wl_assign rfl rfl ?_
        refine WL.nil ?_
        rw [hnx10] at hF
        exact fun a ha => hKL11 a _ m12 (Nat.lt_succ_self m12) ⟨(seti l7 y9 u28.2), u28.1, (w64 (y9 + 1)), ha.sub ⟨rfl, rfl, rfl, trivial⟩, hB32, (hS35.sel [1, 0] rfl), hF⟩
      · replace hF := ifN h15 hF
        refine W.exit ?_
        refine fun a ha => hK2 _ _ ?_ a ha
        refine W.seq fun K36 hK36 => ?_
        refine W.region ?_
        refine wl_move rfl rfl ?_
        refine wl_assign rfl rfl ?_
        refine WL.nil ?_
        refine fun a ha => hK36 _ _ ?_ a ha
        refine W.ret ?_
        have hr := Option.some.inj hF
        subst hr
        exact rets (vs := [(.int .i64 y8)]) hQ rfl ⟨rv_tmp rfl, trivial⟩ ⟨rfl, hB5, hS6.sel [0, 1] rfl⟩
theorem C_laws_markShow (w0 : World) (x0 : ((List (List (Int × Int))) × (List Int) × Int × Int)) (v0_0 : Value) (B0_0 : List Nat) (v0_1 : Value) (B0_1 : List Nat) (x1 : Int) (hS0 : Sep 0 w0 [R.own ty_69 B0_0 v0_0 x0.1, R.own ty_3 B0_1 v0_1 x0.2.1]) (r : (Int × ((List (List (Int × Int))) × (List Int) × Int × Int))) (hF : F_laws_markShow x0 x1 = some r) :
    Calls Try.prog 21 [(.agg #[v0_0, v0_1, (.int .i64 x0.2.2.1), (.int .i64 x0.2.2.2)]), (.int .i64 x1)].toArray w0 fun e w' => e = .returned (.int .i64 r.1) ∧ Below 0 (wE w0) w' ∧ Sep 0 w' [R.rest w0 (fps [R.own ty_69 B0_0 v0_0 x0.1, R.own ty_3 B0_1 v0_1 x0.2.1]), R.own ty_69 B0_0 v0_0 r.2.1, R.own ty_3 B0_1 v0_1 r.2.2.1] := by
  refine calls_mk' Try.func21 rfl Try.ntmps21 rfl rfl fun Q hQ hP => ?_
  have hB : Below (wE w0).heap.size (wE w0) w0 := wE_below w0
  have hS : Sep (wE w0).heap.size w0 [R.rest w0 (fps [R.own ty_69 B0_0 v0_0 x0.1, R.own ty_3 B0_1 v0_1 x0.2.1]), R.own ty_69 B0_0 v0_0 x0.1, R.own ty_3 B0_1 v0_1 x0.2.1] := hS0.rest
  unfold F_laws_markShow at hF
  refine W.seq fun K1 hK1 => ?_
  refine W.region ?_
  refine wl_box (cs := [v0_0, v0_1, (.int .i64 x0.2.2.1), (.int .i64 x0.2.2.2)]) rfl rfl rfl hB hS ?_
  intro b2 w3 hb4 hB5 hS6
  refine wl_assign rfl rfl ?_
  refine WL.nil ?_
  refine fun a ha => hK1 _ _ ?_ a ha
  refine W.seq fun K7 hK7 => ?_
  refine W.region ?_
  refine wl_field (o := 0) (off' := 0) ff_31_0 rfl rfl rfl ?_
  refine wl_load_blk (i := 0) (vs := [v0_0]) (v := v0_0) tf_29 rfl rfl hS6 rfl rfl rfl ?_
  refine wl_move rfl rfl ?_
  obtain ⟨u8, hu8, hF⟩ := bindE hF
  refine wl_call rfl Try.call76 (C_laws_markSpotSS w3 x0.1 v0_0 B0_0 x1 (hS6.sel [2] rfl).base0 _ hu8) rfl ?_
  rintro _ w9 ⟨rfl, hE10, hM11⟩
  refine ⟨_, rfl, ?_⟩
  have hB12 := hS6.mutB [2] rfl (M := [R.own ty_69 B0_0 v0_0 x0.1]) rfl (M' := [R.own ty_69 B0_0 v0_0 u8.2]) rfl hB5 hB5.size hE10 hM11
  have hS13 : Sep (wE w0).heap.size w9 [R.own ty_69 B0_0 v0_0 u8.2, R.blk b2 31 [v0_0, v0_1, (.int .i64 x0.2.2.1), (.int .i64 x0.2.2.2)], R.rest w0 (fps [R.own ty_69 B0_0 v0_0 x0.1, R.own ty_3 B0_1 v0_1 x0.2.1]), R.own ty_3 B0_1 v0_1 x0.2.1] := hS6.mut [2] [0, 1, 3] rfl (M := [R.own ty_69 B0_0 v0_0 x0.1]) rfl (M' := [R.own ty_69 B0_0 v0_0 u8.2]) rfl hM11
  refine wl_assign rfl rfl ?_
  refine WL.nil ?_
  refine fun a ha => hK7 _ _ ?_ a ha
  refine W.seq fun K14 hK14 => ?_
  refine W.region ?_
  refine wl_field (o := 1) (off' := 1) ff_31_1 rfl rfl rfl ?_
  refine wl_load_blk (i := 1) (vs := [v0_1]) (v := v0_1) tf_23 rfl rfl hS13 rfl rfl rfl ?_
  refine wl_move rfl rfl ?_
  obtain ⟨u15, hu15, hF⟩ := bindE hF
  refine wl_call rfl Try.call22 (C_laws_markIntS w9 x0.2.1 v0_1 B0_1 u8.1 (hS13.sel [3] rfl).base0 _ hu15) rfl ?_
  rintro _ w16 ⟨rfl, hE17, hM18⟩
  refine ⟨_, rfl, ?_⟩
  have hB19 := hS13.mutB [3] rfl (M := [R.own ty_3 B0_1 v0_1 x0.2.1]) rfl (M' := [R.own ty_3 B0_1 v0_1 u15.2]) rfl hB12 hB12.size hE17 hM18
  have hS20 : Sep (wE w0).heap.size w16 [R.own ty_3 B0_1 v0_1 u15.2, R.own ty_69 B0_0 v0_0 u8.2, R.blk b2 31 [v0_0, v0_1, (.int .i64 x0.2.2.1), (.int .i64 x0.2.2.2)], R.rest w0 (fps [R.own ty_69 B0_0 v0_0 x0.1, R.own ty_3 B0_1 v0_1 x0.2.1])] := hS13.mut [3] [0, 1, 2] rfl (M := [R.own ty_3 B0_1 v0_1 x0.2.1]) rfl (M' := [R.own ty_3 B0_1 v0_1 u15.2]) rfl hM18
  refine wl_assign rfl rfl ?_
  refine WL.nil ?_
  refine fun a ha => hK14 _ _ ?_ a ha
  refine W.seq fun K21 hK21 => ?_
  refine W.region ?_
  refine wl_move rfl rfl ?_
  refine wl_assign rfl rfl ?_
  refine WL.nil ?_
  refine fun a ha => hK21 _ _ ?_ a ha
  refine W.ret ?_
  have hr := Option.some.inj hF
  subst hr
  exact rets (vs := [(.int .i64 u15.1)]) hQ rfl ⟨rv_tmp rfl, trivial⟩ ⟨rfl, hB19, hS20.sel [3, 1, 0] rfl⟩
theorem C_spec_l1Own (w0 : World) (x0 : (List Int)) (v0_0 : Value) (h0_0 : rdS ty_3 (· < w0.heap.size) w0 v0_0 x0) (r : (List Int)) (hF : F_spec_l1Own x0 = some r) :
    Calls Try.prog 139 [v0_0].toArray w0 fun e w' => ∃ (q0 : Value) (G0 : List Nat), e = .returned q0 ∧ Below w0.heap.size w0 w' ∧ Sep w0.heap.size w' [R.own ty_3 G0 q0 r] := by
  refine calls_mk' Try.func139 rfl Try.ntmps139 rfl rfl fun Q hQ hP => ?_
  have hB : Below w0.heap.size w0 w0 := Below.refl _ _
  have hS : Sep w0.heap.size w0 [] := Sep.nil _ _
  unfold F_spec_l1Own at hF
  refine W.seq fun K1 hK1 => ?_
  refine W.region ?_
  refine wl_assign rfl rfl ?_
  refine WL.nil ?_
  refine fun a ha => hK1 _ _ ?_ a ha
  refine W.seq fun K2 hK2 => ?_
  refine W.region ?_
  refine wl_lit (vs := []) (l := []) fl_3 Try.underlying23 rfl rfl rfl rfl rfl rfl hB hS ?_
  intro v3 F4 w5 hb6 hB7 hS8
  refine wl_move rfl rfl ?_
  obtain ⟨u9, hu9, hF⟩ := bindE hF
  refine wl_append (i := 0) (S := (· < w5.heap.size)) fl_3 Try.underlying23 rfl rfl rfl hB7 hS8 rfl (h0_0.ro hB7) hu9 ?_
  intro v10 F11 w12 hk13 hB14 hS15
  refine wl_assign rfl rfl ?_
  refine WL.nil ?_
  refine fun a ha => hK2 _ _ ?_ a ha
  refine W.ret ?_
  have hr := Option.some.inj hF
  subst hr
  exact rets (vs := [v10]) hQ rfl ⟨rv_tmp rfl, trivial⟩ ⟨v10, F11, rfl, hB14, hS15.sel [0] rfl⟩
theorem C_spec_swOwn (w0 : World) (x0 : ((List (List (Int × Int))) × (List Int) × Int × Int)) (v0_0 : Value) (h0_0 : rdS ty_69 (· < w0.heap.size) w0 v0_0 x0.1) (v0_1 : Value) (h0_1 : rdS ty_3 (· < w0.heap.size) w0 v0_1 x0.2.1) (r : ((List (List (Int × Int))) × (List Int) × Int × Int)) (hF : F_spec_swOwn x0 = some r) :
    Calls Try.prog 100 [(.agg #[v0_0, v0_1, (.int .i64 x0.2.2.1), (.int .i64 x0.2.2.2)])].toArray w0 fun e w' => ∃ (q0 : Value) (G0 : List Nat) (q1 : Value) (G1 : List Nat), e = .returned (.agg #[q0, q1, (.int .i64 r.2.2.1), (.int .i64 r.2.2.2)]) ∧ Below w0.heap.size w0 w' ∧ Sep w0.heap.size w' [R.own ty_69 G0 q0 r.1, R.own ty_3 G1 q1 r.2.1] := by
  refine calls_mk' Try.func100 rfl Try.ntmps100 rfl rfl fun Q hQ hP => ?_
  have hB : Below w0.heap.size w0 w0 := Below.refl _ _
  have hS : Sep w0.heap.size w0 [] := Sep.nil _ _
  unfold F_spec_swOwn at hF
  refine W.seq fun K1 hK1 => ?_
  refine W.region ?_
  refine wl_box (cs := [v0_0, v0_1, (.int .i64 x0.2.2.1), (.int .i64 x0.2.2.2)]) rfl rfl rfl hB hS ?_
  intro b2 w3 hb4 hB5 hS6
  refine wl_alloc (cs := [(.slice none 0 0), (.slice none 0 0), (.int .i64 0), (.int .i64 0)]) tf_31 rfl rfl hB5 hS6 ?_
  intro b7 w8 hb9 hB10 hS11
  refine WL.nil ?_
  refine fun a ha => hK1 _ _ ?_ a ha
  refine W.seq fun K12 hK12 => ?_
  obtain ⟨k22, hk22, hF⟩ := jE3 hF
  have hJ23 : ∀ (l17 : (List Int)) (y20 : Int) (y21 : Int) (v18 : Value) (F19 : List Nat) (b16 : Nat) (w13 : World) (_ : k22 l17 y20 y21 = some r) (_ : Below w0.heap.size w0 w13) (_ : Sep w0.heap.size w13 [R.blk b2 31 [v0_0, v0_1, (.int .i64 x0.2.2.1), (.int .i64 x0.2.2.2)], R.blk b7 31 [(.slice none 0 0), (.slice none 0 0), (.int .i64 0), (.int .i64 0)], R.own ty_3 F19 v18 l17, R.blk b16 31 [(.slice none 0 0), v18, (.int .i64 y20), (.int .i64 y21)]]), ∀ a, St 30 [(1, (.pointer (some ⟨b2, 0, none⟩))), (2, (.pointer (some ⟨b7, 0, none⟩))), (3, (.pointer (some ⟨b16, 0, none⟩)))] a → K12 a w13 := by
    intro l17 y20 y21 v18 F19 b16 w13 hF hB14 hS15
    subst hk22
    refine fun a ha => hK12 _ _ ?_ a ha
    refine W.seq fun K24 hK24 => ?_
    refine W.seq fun K25 hK25 => ?_
    refine W.region ?_
    refine wl_field (o := 0) (off' := 0) ff_31_0 rfl rfl rfl ?_
    refine wl_load_blk (i := 0) (vs := [v0_0]) (v := v0_0) tf_29 rfl rfl hS15 rfl rfl rfl ?_
    refine wl_lenr (e := ty_69) (l := x0.1) Try.underlying29 rfl rfl h0_0 ?_
    refine wl_move rfl rfl ?_
    refine WL.nil ?_
    refine fun a ha => hK25 _ _ ?_ a ha
    refine W.block ?_
    refine W.loopk (fun m a w26 => ∃ (l29 : (List (List (Int × Int)))) (y32 : Int) (v30 : Value) (F31 : List Nat), St 30 [(2, (.pointer (some ⟨b7, 0, none⟩))), (3, (.pointer (some ⟨b16, 0, none⟩))), (15, v0_0), (16, (.int .i64 (List.length x0.1 : Int))), (17, (.int .i64 y32))] a ∧ Below w0.heap.size w0 w26 ∧ Sep w0.heap.size w26 [R.blk b7 31 [(.slice none 0 0), (.slice none 0 0), (.int .i64 0), (.int .i64 0)], R.own ty_69 F31 v30 l29, R.own ty_3 F19 v18 l17, R.blk b16 31 [v30, v18, (.int .i64 y20), (.int .i64 y21)]] ∧ F_spec_swOwn_L1 x0 l17 y20 y21 m l29 y32 = some r) FU ?_ ?_
    ·
      have hS34 := hS15.push0 (r := R.own ty_69 [] (.slice none 0 0) []) rfl fun _ => .inl ⟨rfl, rfl, rfl⟩
      exact fun a ha => ⟨[], 0, (.slice none 0 0), [], ha.sub ⟨rfl, rfl, rfl, rfl, rfl, trivial⟩, hB14, (hS34.sel [2, 0, 3, 4] rfl), hF⟩
    ·
      rintro m36 a w26 ⟨l29, y32, v30, F31, ha, hB27, hS28, hF⟩ KL35 hKL35
      refine W.at ?_ ha
      cases m36 with
      | zero => exact noneE hF
      | succ m36 =>
        obtain ⟨nx33, hnx33⟩ : ∃ k, k = F_spec_swOwn_L1 x0 l17 y20 y21 m36 := ⟨_, rfl⟩
        rw [F_spec_swOwn_L1, ← hnx33] at hF
        refine W.seq fun K37 hK37 => ?_
        refine W.region ?_
        refine wl_lss rfl rfl rfl ?_
        refine WL.nil ?_
        refine fun a ha => hK37 _ _ ?_ a ha
        refine W.seq fun K38 hK38 => ?_
        refine W.cond rfl (fun h39 => ?_) (fun h39 => ?_)
        · replace hF := ifP h39 hF
          refine W.skip ?_
          refine fun a ha => hK38 _ _ ?_ a ha
          refine W.seq fun K40 hK40 => ?_
          obtain ⟨k47, hk47, hF⟩ := jE1 hF
          have hJ48 : ∀ (l44 : (List (List (Int × Int)))) (v45 : Value) (F46 : List Nat) (w41 : World) (_ : k47 l44 = some r) (_ : Below w0.heap.size w0 w41) (_ : Sep w0.heap.size w41 [R.blk b7 31 [(.slice none 0 0), (.slice none 0 0), (.int .i64 0), (.int .i64 0)], R.own ty_69 F46 v45 l44, R.own ty_3 F19 v18 l17, R.blk b16 31 [v45, v18, (.int .i64 y20), (.int .i64 y21)]]), ∀ a, St 30 [(2, (.pointer (some ⟨b7, 0, none⟩))), (3, (.pointer (some ⟨b16, 0, none⟩))), (15, v0_0), (16, (.int .i64 (List.length x0.1 : Int))), (17, (.int .i64 y32))] a → K40 a w41 := by
            intro l44 v45 F46 w41 hF hB42 hS43
            subst hk47
            refine fun a ha => hK40 _ _ ?_ a ha
            refine W.region ?_
            refine wl_add rfl rfl rfl ?_
            refine wl_move rfl rfl ?_
            refine WL.nil ?_
            rw [hnx33] at hF
            exact fun a ha => hKL35 a _ m36 (Nat.lt_succ_self m36) ⟨l44, (w64 (y32 + 1)), v45, F46, ha.sub ⟨rfl, rfl, rfl, rfl, rfl, trivial⟩, hB42, (hS43.sel [0, 1, 2, 3] rfl), hF⟩
          refine W.block ?_
          refine W.seq fun K49 hK49 => ?_
          refine W.region ?_
          obtain ⟨u50, hu50, hF⟩ := bindE hF
          refine wl_index (e := ty_69) Try.underlying29 rfl rfl rfl h0_0 hu50 ?_
          rintro p51 _ ⟨v53, rfl, hv54⟩ hp52
          refine wl_load_p (vs := [v53]) (v := v53) tf_69 rfl rfl (hp52.ro hB27) rfl rfl ?_
          refine wl_assign rfl rfl ?_
          refine WL.nil ?_
          refine fun a ha => hK49 _ _ ?_ a ha
          refine W.regionH mixed_ (F31 ++ [b16]) hB27 hS28 ?_
          intro w55 hb56 hB57 hS58
          have hSW59 := KeepX.refl w55 (F31 ++ [b16])
          refine WH.takex (i := 0) rfl (by kernel_rfl) (by kernel_rfl) (by kernel_rfl) hP hSW59 ?_
          refine pr_field (o := 0) (off' := 0) ff_31_0 rfl rfl rfl ?_
          refine WH.takex (i := 2) rfl (by kernel_rfl) (by kernel_rfl) (by kernel_rfl) hP hSW59 ?_
          refine pr_move rfl rfl ?_
          refine WH.many (is := [1, 3]) (by kernel_rfl) rfl ?_
          refine List.forall_mem_cons.2 ⟨⟨_, rfl, ?_⟩, List.forall_mem_cons.2 ⟨⟨_, rfl, ?_⟩, fun _ h => by cases h⟩⟩
          ·
            refine wl_load_blk (i := 3) (vs := [v30]) (v := v30) tf_29 rfl rfl hS58 rfl rfl rfl ?_
            refine WL.nil (WH.ret hSW59 ?_)
            refine WH.one (i := 3) (by kernel_rfl) rfl ?_
            obtain ⟨u60, hu60, hF⟩ := bindE hF
            refine wl_call rfl Try.call95 (C_spec_chOwn w55 u50 v53 (hv54.ro hB57) _ hu60) rfl ?_
            rintro _ w63 ⟨v61, F62, rfl, hb64, hM67⟩
            refine ⟨_, rfl, ?_⟩
            have hB65 := hB57.trans (hb64.mono hB57.size)
            have hS66 := hS58.join hb64 hM67 hB57.size
            have hSW68 := hSW59.ext hb64
            have hbS69 : Below w55.heap.size w55 w63 := hb64
            refine WL.nil (WH.ret hSW68 ?_)
            refine WH.one (i := 4) (by kernel_rfl) rfl ?_
            have hq70 := hS66.sel [0, 1, 2, 3, 4] rfl
            have hq71 := hq70.head (r' := R.cel ty_69 F62 [v61] u60) (rfl) fun _ h0 => ⟨_, rfl, h0⟩
            refine wl_lit1 (e := ty_69) (vs := [v61]) Try.underlying29 rfl rfl (cells_one (hS66.own_ro (i := 0) rfl).one) rfl hB65 hq71 ?_
            intro v72 F73 w74 hb75 hf76 hB77 hS78
            have hSW80 := hSW68.ext hb75
            have hbS81 : Below w55.heap.size w55 w74 := hbS69.trans (hb75.mono hbS69.size)
            refine WL.nil (WH.ret hSW80 ?_)
            refine WH.one (i := 5) (by kernel_rfl) rfl ?_
            obtain ⟨u82, hu82, hF⟩ := bindE hF
            refine wl_appendn (e := ty_69) Try.underlying29 rfl rfl rfl hB77 (hS78.sel [2, 0, 1, 3, 4] rfl) hu82 ?_
            intro v83 F84 w85 hk86 hB87 hS88
            have hSW89 := hSW80.wr' hk86.1 hk86.2.1 (fun _ _ h => List.mem_append_left _ (h))
            refine WL.nil (WH.ret hSW89 ?_)
            refine WH.takex (i := 6) rfl (by kernel_rfl) (by kernel_rfl) (by kernel_rfl) hP hSW89 ?_
            refine pr_field (o := 0) (off' := 0) ff_31_0 rfl rfl rfl ?_
            refine WH.one (i := 7) (by kernel_rfl) rfl ?_
            refine wl_store_blk (i := 3) (vs := [v83]) (cs' := [v83, v18, (.int .i64 y20), (.int .i64 y21)]) tf_29 rfl rfl (cells_one (hS88.own_ro (i := 0) rfl).one) rfl hB87 hS88 rfl rfl ⟨(hS88.own_ro (i := 0) rfl).one, trivial⟩ rfl ?_
            intro w90 hk93 hB91 hS92
            have hSW94 := hSW89.wr' hk93.1 hk93.2.1 (fun _ _ h => List.mem_append_right _ h)
            refine WL.nil (WH.ret hSW94 ?_)
            refine WH.done (by kernel_rfl) ?_
            exact fun a ha => hJ48 (u82) (v83) (F84) _ hF hB91 (hS92.sel [1, 0, 2, 3] rfl) a (ha.sub ⟨rfl, rfl, rfl, rfl, rfl, trivial⟩)
          ·
            obtain ⟨u95, hu95, hF⟩ := bindE hF
            refine wl_call rfl Try.call95 (C_spec_chOwn w55 u50 v53 (hv54.ro hB57) _ hu95) rfl ?_
            rintro _ w98 ⟨v96, F97, rfl, hb99, hM102⟩
            refine ⟨_, rfl, ?_⟩
            have hB100 := hB57.trans (hb99.mono hB57.size)
            have hS101 := hS58.join hb99 hM102 hB57.size
            have hSW103 := hSW59.ext hb99
            have hbS104 : Below w55.heap.size w55 w98 := hb99
            refine WL.nil (WH.ret hSW103 ?_)
            refine WH.many (is := [1, 4]) (by kernel_rfl) rfl ?_
            refine List.forall_mem_cons.2 ⟨⟨_, rfl, ?_⟩, List.forall_mem_cons.2 ⟨⟨_, rfl, ?_⟩, fun _ h => by cases h⟩⟩
            ·
              refine wl_load_blk (i := 4) (vs := [v30]) (v := v30) tf_29 rfl rfl hS101 rfl rfl rfl ?_
              refine WL.nil (WH.ret hSW103 ?_)
              refine WH.one (i := 4) (by kernel_rfl) rfl ?_
              have hq105 := hS101.sel [0, 1, 2, 3, 4] rfl
              have hq106 := hq105.head (r' := R.cel ty_69 F97 [v96] u95) (rfl) fun _ h0 => ⟨_, rfl, h0⟩
              refine wl_lit1 (e := ty_69) (vs := [v96]) Try.underlying29 rfl rfl (cells_one (hS101.own_ro (i := 0) rfl).one) rfl hB100 hq106 ?_
              intro v107 F108 w109 hb110 hf111 hB112 hS113
              have hSW115 := hSW103.ext hb110
              have hbS116 : Below w55.heap.size w55 w109 := hbS104.trans (hb110.mono hbS104.size)
              refine WL.nil (WH.ret hSW115 ?_)
              refine WH.one (i := 5) (by kernel_rfl) rfl ?_
              obtain ⟨u117, hu117, hF⟩ := bindE hF
              refine wl_appendn (e := ty_69) Try.underlying29 rfl rfl rfl hB112 (hS113.sel [2, 0, 1, 3, 4] rfl) hu117 ?_
              intro v118 F119 w120 hk121 hB122 hS123
              have hSW124 := hSW115.wr' hk121.1 hk121.2.1 (fun _ _ h => List.mem_append_left _ (h))
              refine WL.nil (WH.ret hSW124 ?_)
              refine WH.takex (i := 6) rfl (by kernel_rfl) (by kernel_rfl) (by kernel_rfl) hP hSW124 ?_
              refine pr_field (o := 0) (off' := 0) ff_31_0 rfl rfl rfl ?_
              refine WH.one (i := 7) (by kernel_rfl) rfl ?_
              refine wl_store_blk (i := 3) (vs := [v118]) (cs' := [v118, v18, (.int .i64 y20), (.int .i64 y21)]) tf_29 rfl rfl (cells_one (hS123.own_ro (i := 0) rfl).one) rfl hB122 hS123 rfl rfl ⟨(hS123.own_ro (i := 0) rfl).one, trivial⟩ rfl ?_
              intro w125 hk128 hB126 hS127
              have hSW129 := hSW124.wr' hk128.1 hk128.2.1 (fun _ _ h => List.mem_append_right _ h)
              refine WL.nil (WH.ret hSW129 ?_)
              refine WH.done (by kernel_rfl) ?_
              exact fun a ha => hJ48 (u117) (v118) (F119) _ hF hB126 (hS127.sel [1, 0, 2, 3] rfl) a (ha.sub ⟨rfl, rfl, rfl, rfl, rfl, trivial⟩)
            ·
              have hq130 := hS101.sel [0, 1, 2, 3, 4] rfl
              have hq131 := hq130.head (r' := R.cel ty_69 F97 [v96] u95) (rfl) fun _ h0 => ⟨_, rfl, h0⟩
              refine wl_lit1 (e := ty_69) (vs := [v96]) Try.underlying29 rfl rfl (cells_one (hS101.own_ro (i := 0) rfl).one) rfl hB100 hq131 ?_
              intro v132 F133 w134 hb135 hf136 hB137 hS138
              have hSW140 := hSW103.ext hb135
              have hbS141 : Below w55.heap.size w55 w134 := hbS104.trans (hb135.mono hbS104.size)
              refine WL.nil (WH.ret hSW140 ?_)
              refine WH.one (i := 1) (by kernel_rfl) rfl ?_
              refine wl_load_blk (i := 4) (vs := [v30]) (v := v30) tf_29 rfl rfl hS138 rfl rfl rfl ?_
              refine WL.nil (WH.ret hSW140 ?_)
              refine WH.one (i := 5) (by kernel_rfl) rfl ?_
              obtain ⟨u142, hu142, hF⟩ := bindE hF
              refine wl_appendn (e := ty_69) Try.underlying29 rfl rfl rfl hB137 (hS138.sel [2, 0, 1, 3, 4] rfl) hu142 ?_
              intro v143 F144 w145 hk146 hB147 hS148
              have hSW149 := hSW140.wr' hk146.1 hk146.2.1 (fun _ _ h => List.mem_append_left _ (h))
              refine WL.nil (WH.ret hSW149 ?_)
              refine WH.takex (i := 6) rfl (by kernel_rfl) (by kernel_rfl) (by kernel_rfl) hP hSW149 ?_
              refine pr_field (o := 0) (off' := 0) ff_31_0 rfl rfl rfl ?_
              refine WH.one (i := 7) (by kernel_rfl) rfl ?_
              refine wl_store_blk (i := 3) (vs := [v143]) (cs' := [v143, v18, (.int .i64 y20), (.int .i64 y21)]) tf_29 rfl rfl (cells_one (hS148.own_ro (i := 0) rfl).one) rfl hB147 hS148 rfl rfl ⟨(hS148.own_ro (i := 0) rfl).one, trivial⟩ rfl ?_
              intro w150 hk153 hB151 hS152
              have hSW154 := hSW149.wr' hk153.1 hk153.2.1 (fun _ _ h => List.mem_append_right _ h)
              refine WL.nil (WH.ret hSW154 ?_)
              refine WH.done (by kernel_rfl) ?_
              exact fun a ha => hJ48 (u142) (v143) (F144) _ hF hB151 (hS152.sel [1, 0, 2, 3] rfl) a (ha.sub ⟨rfl, rfl, rfl, rfl, rfl, trivial⟩)
        · replace hF := ifN h39 hF
          refine W.exit ?_
          refine fun a ha => hK24 _ _ ?_ a ha
          refine W.seq fun K155 hK155 => ?_
          refine W.region ?_
          refine wl_load_blk (i := 3) (vs := [v30, v18, (.int .i64 y20), (.int .i64 y21)]) (v := (.agg #[v30, v18, (.int .i64 y20), (.int .i64 y21)])) tf_31 rfl rfl hS28 rfl rfl rfl ?_
          refine wl_store_blk (i := 0) (vs := [v30, v18, (.int .i64 y20), (.int .i64 y21)]) (cs' := [v30, v18, (.int .i64 y20), (.int .i64 y21)]) tf_31 rfl rfl rfl rfl hB27 hS28 rfl rfl ⟨(hS28.own_ro (i := 1) rfl).one, (hS28.own_ro (i := 2) rfl).one, rfl, rfl, trivial⟩ rfl ?_
          intro w156 hk159 hB157 hS158
          refine WL.nil ?_
          refine fun a ha => hK155 _ _ ?_ a ha
          refine W.ret ?_
          have hr := Option.some.inj hF
          subst hr
          exact rets (vs := [(.agg #[v30, v18, (.int .i64 y20), (.int .i64 y21)])]) hQ rfl ⟨rv_cell (i := 0) tf_31 rfl hS158 rfl rfl rfl, trivial⟩ ⟨v30, F31, v18, F19, rfl, hB157, hS158.sel [1, 2] rfl⟩
  refine W.regionH mixed_ [] hB10 hS11 ?_
  intro w160 hb161 hB162 hS163
  have hSW164 := KeepX.refl w160 []
  refine WH.takex (i := 0) rfl (by kernel_rfl) (by kernel_rfl) (by kernel_rfl) hP hSW164 ?_
  refine pr_field (o := 1) (off' := 1) ff_31_1 rfl rfl rfl ?_
  refine WH.takex (i := 1) rfl (by kernel_rfl) (by kernel_rfl) (by kernel_rfl) hP hSW164 ?_
  refine pr_load_blk (i := 1) (vs := [v0_1]) (v := v0_1) tf_23 rfl rfl hS163 rfl rfl rfl (by simp) ?_
  refine WH.takex (i := 3) rfl (by kernel_rfl) (by kernel_rfl) (by kernel_rfl) hP hSW164 ?_
  refine pr_field (o := 2) (off' := 2) ff_31_2 rfl rfl rfl ?_
  refine WH.takex (i := 4) rfl (by kernel_rfl) (by kernel_rfl) (by kernel_rfl) hP hSW164 ?_
  refine pr_load_blk (i := 1) (vs := [(.int .i64 x0.2.2.1)]) (v := (.int .i64 x0.2.2.1)) tf_3 rfl rfl hS163 rfl rfl rfl (by simp) ?_
  refine WH.takex (i := 5) rfl (by kernel_rfl) (by kernel_rfl) (by kernel_rfl) hP hSW164 ?_
  refine pr_field (o := 3) (off' := 3) ff_31_3 rfl rfl rfl ?_
  refine WH.takex (i := 6) rfl (by kernel_rfl) (by kernel_rfl) (by kernel_rfl) hP hSW164 ?_
  refine pr_load_blk (i := 1) (vs := [(.int .i64 x0.2.2.2)]) (v := (.int .i64 x0.2.2.2)) tf_3 rfl rfl hS163 rfl rfl rfl (by simp) ?_
  refine WH.many (is := [2, 8]) (by kernel_rfl) rfl ?_
  refine List.forall_mem_cons.2 ⟨⟨_, rfl, ?_⟩, List.forall_mem_cons.2 ⟨⟨_, rfl, ?_⟩, fun _ h => by cases h⟩⟩
  ·
    obtain ⟨u165, hu165, hF⟩ := bindE hF
    refine wl_call rfl Try.call139 (C_spec_l1Own w160 x0.2.1 v0_1 (h0_1.ro hB162) _ hu165) rfl ?_
    rintro _ w168 ⟨v166, F167, rfl, hb169, hM172⟩
    refine ⟨_, rfl, ?_⟩
    have hB170 := hB162.trans (hb169.mono hB162.size)
    have hS171 := hS163.join hb169 hM172 hB162.size
    have hSW173 := hSW164.ext hb169
    refine WL.nil (WH.ret hSW173 ?_)
    refine WH.takex (i := 7) rfl (by kernel_rfl) (by kernel_rfl) (by kernel_rfl) hP hSW173 ?_
    refine pr_build (zs := [(.slice none 0 0), (.slice none 0 0), (.int .i64 0), (.int .i64 0)]) (out := [(.slice none 0 0), v166, (.int .i64 x0.2.2.1), (.int .i64 x0.2.2.2)]) (vs := [v166, (.int .i64 x0.2.2.1), (.int .i64 x0.2.2.2)]) (css := [[v166], [(.int .i64 x0.2.2.1)], [(.int .i64 x0.2.2.2)]]) tf_31 pl_31 rfl rfl (by simp only [List.map_cons, List.map_nil, cells_one ((hS171.own_ro (i := 0) rfl).one)]; rfl) rfl rfl ?_
    refine WH.one (i := 8) (by kernel_rfl) rfl ?_
    refine wl_alloc (cs := [(.slice none 0 0), (.slice none 0 0), (.int .i64 0), (.int .i64 0)]) tf_31 rfl rfl (Below.self w168) (Sep.nil _ _) ?_
    intro b174 w175 hb176 hB179 hM180
    have hB177 := hB170.trans (hb176.mono hB170.size)
    have hS178 := hS171.join hb176 hM180 hB170.size
    have hn181 : ∀ b ∈ [b174], w160.heap.size ≤ b := fun b hb => Nat.le_trans hSW173.size ((hM180.1 _ (List.mem_cons_self ..)).2.1 b hb).1
    have hSW182 := hSW173.ext hb176
    refine WL.nil (WH.ret hSW182 ?_)
    refine WH.one (i := 9) (by kernel_rfl) rfl ?_
    refine wl_store_blk (i := 0) (vs := [(.slice none 0 0), v166, (.int .i64 x0.2.2.1), (.int .i64 x0.2.2.2)]) (cs' := [(.slice none 0 0), v166, (.int .i64 x0.2.2.1), (.int .i64 x0.2.2.2)]) tf_31 rfl rfl rfl rfl hB177 hS178 rfl rfl ⟨rfl, (hS178.own_ro (i := 1) rfl).one, rfl, rfl, trivial⟩ rfl ?_
    intro w183 hk186 hB184 hS185
    have hSW187 := hSW182.wr' hk186.1 hk186.2.1 (fun b hlt hb => absurd hlt (Nat.not_lt.2 (hn181 b hb)))
    have hn188 : ∀ b ∈ [b174], w160.heap.size ≤ b := fun b hb => (hk186.2.2 b hb).elim (hn181 b) fun h => Nat.le_trans hSW182.size h
    refine WL.nil (WH.ret hSW187 ?_)
    refine WH.done (by kernel_rfl) ?_
    exact fun a ha => hJ23 (u165) (x0.2.2.1) (x0.2.2.2) (v166) (F167) (b174) _ hF hB184 (hS185.sel [3, 2, 1, 0] rfl) a (ha.sub ⟨rfl, rfl, rfl, trivial⟩)
  ·
    refine wl_alloc (cs := [(.slice none 0 0), (.slice none 0 0), (.int .i64 0), (.int .i64 0)]) tf_31 rfl rfl (Below.self w160) (Sep.nil _ _) ?_
    intro b189 w190 hb191 hB194 hM195
    have hB192 := hB162.trans (hb191.mono hB162.size)
    have hS193 := hS163.join hb191 hM195 hB162.size
    have hn196 : ∀ b ∈ [b189], w160.heap.size ≤ b := fun b hb => Nat.le_trans hSW164.size ((hM195.1 _ (List.mem_cons_self ..)).2.1 b hb).1
    have hSW197 := hSW164.ext hb191
    refine WL.nil (WH.ret hSW197 ?_)
    refine WH.one (i := 2) (by kernel_rfl) rfl ?_
    obtain ⟨u198, hu198, hF⟩ := bindE hF
    refine wl_call rfl Try.call139 (C_spec_l1Own w190 x0.2.1 v0_1 (h0_1.ro hB192) _ hu198) rfl ?_
    rintro _ w201 ⟨v199, F200, rfl, hb202, hM205⟩
    refine ⟨_, rfl, ?_⟩
    have hB203 := hB192.trans (hb202.mono hB192.size)
    have hS204 := hS193.join hb202 hM205 hB192.size
    have hSW206 := hSW197.ext hb202
    refine WL.nil (WH.ret hSW206 ?_)
    refine WH.takex (i := 7) rfl (by kernel_rfl) (by kernel_rfl) (by kernel_rfl) hP hSW206 ?_
    refine pr_build (zs := [(.slice none 0 0), (.slice none 0 0), (.int .i64 0), (.int .i64 0)]) (out := [(.slice none 0 0), v199, (.int .i64 x0.2.2.1), (.int .i64 x0.2.2.2)]) (vs := [v199, (.int .i64 x0.2.2.1), (.int .i64 x0.2.2.2)]) (css := [[v199], [(.int .i64 x0.2.2.1)], [(.int .i64 x0.2.2.2)]]) tf_31 pl_31 rfl rfl (by simp only [List.map_cons, List.map_nil, cells_one ((hS204.own_ro (i := 0) rfl).one)]; rfl) rfl rfl ?_
    refine WH.one (i := 9) (by kernel_rfl) rfl ?_
    refine wl_store_blk (i := 1) (vs := [(.slice none 0 0), v199, (.int .i64 x0.2.2.1), (.int .i64 x0.2.2.2)]) (cs' := [(.slice none 0 0), v199, (.int .i64 x0.2.2.1), (.int .i64 x0.2.2.2)]) tf_31 rfl rfl rfl rfl hB203 hS204 rfl rfl ⟨rfl, (hS204.own_ro (i := 0) rfl).one, rfl, rfl, trivial⟩ rfl ?_
    intro w207 hk210 hB208 hS209
    have hSW211 := hSW206.wr' hk210.1 hk210.2.1 (fun b hlt hb => absurd hlt (Nat.not_lt.2 (hn196 b hb)))
    have hn212 : ∀ b ∈ [b189], w160.heap.size ≤ b := fun b hb => (hk210.2.2 b hb).elim (hn196 b) fun h => Nat.le_trans hSW206.size h
    refine WL.nil (WH.ret hSW211 ?_)
    refine WH.done (by kernel_rfl) ?_
    exact fun a ha => hJ23 (u198) (x0.2.2.1) (x0.2.2.2) (v199) (F200) (b189) _ hF hB208 (hS209.sel [3, 2, 0, 1] rfl) a (ha.sub ⟨rfl, rfl, rfl, trivial⟩)
theorem C_impl_asShow__take (w0 : World) (x0 : ((List (List (Int × Int))) × (List Int) × Int × Int)) (v0_0 : Value) (B0_0 : List Nat) (v0_1 : Value) (B0_1 : List Nat) (hS0 : Sep 0 w0 [R.own ty_69 B0_0 v0_0 x0.1, R.own ty_3 B0_1 v0_1 x0.2.1]) (r : (((List (List (Int × Int))) × (List Int) × Int × Int) × Bool)) (hF : F_impl_asShow__take x0 = some r) :
    Calls Try.prog 103 [(.agg #[v0_0, v0_1, (.int .i64 x0.2.2.1), (.int .i64 x0.2.2.2)])].toArray w0 fun e w' => ∃ (q0 : Value) (G0 : List Nat) (q1 : Value) (G1 : List Nat), e = .returned (.tuple #[(.agg #[q0, q1, (.int .i64 r.1.2.2.1), (.int .i64 r.1.2.2.2)]), (.bool r.2)]) ∧ Below 0 (wE w0) w' ∧ Sep 0 w' [R.rest w0 (fps [R.own ty_69 B0_0 v0_0 x0.1, R.own ty_3 B0_1 v0_1 x0.2.1]), R.own ty_69 G0 q0 r.1.1, R.own ty_3 G1 q1 r.1.2.1] := by
  refine calls_mk' Try.func103 rfl Try.ntmps103 rfl rfl fun Q hQ hP => ?_
  have hB : Below (wE w0).heap.size (wE w0) w0 := wE_below w0
  have hS : Sep (wE w0).heap.size w0 [R.rest w0 (fps [R.own ty_69 B0_0 v0_0 x0.1, R.own ty_3 B0_1 v0_1 x0.2.1]), R.own ty_69 B0_0 v0_0 x0.1, R.own ty_3 B0_1 v0_1 x0.2.1] := hS0.rest
  unfold F_impl_asShow__take at hF
  refine W.seq fun K1 hK1 => ?_
  refine W.region ?_
  refine wl_box (cs := [v0_0, v0_1, (.int .i64 x0.2.2.1), (.int .i64 x0.2.2.2)]) rfl rfl rfl hB hS ?_
  intro b2 w3 hb4 hB5 hS6
  refine wl_alloc (cs := [(.slice none 0 0), (.slice none 0 0), (.int .i64 0), (.int .i64 0)]) tf_31 rfl rfl hB5 hS6 ?_
  intro b7 w8 hb9 hB10 hS11
  refine wl_assign rfl rfl ?_
  refine WL.nil ?_
  refine fun a ha => hK1 _ _ ?_ a ha
  refine W.seq fun K12 hK12 => ?_
  refine W.seq fun K13 hK13 => ?_
  refine W.region ?_
  refine wl_load_blk (i := 1) (vs := [v0_0, v0_1, (.int .i64 x0.2.2.1), (.int .i64 x0.2.2.2)]) (v := (.agg #[v0_0, v0_1, (.int .i64 x0.2.2.1), (.int .i64 x0.2.2.2)])) tf_31 rfl rfl hS11 rfl rfl rfl ?_
  obtain ⟨u14, hu14, hF⟩ := bindE hF
  refine wl_call rfl Try.call73 (C_impl_IsShow w8 x0 v0_0 (hS11.own_ro (i := 3) rfl) v0_1 (hS11.own_ro (i := 4) rfl) _ hu14) rfl ?_
  rintro _ w15 ⟨rfl, hb16⟩
  refine ⟨_, rfl, ?_⟩
  have hB17 := hB10.trans (hb16.mono hB10.size)
  have hS18 := hS11.below hb16
  refine wl_not rfl rfl ?_
  refine WL.nil ?_
  refine fun a ha => hK13 _ _ ?_ a ha
  refine W.cond rfl (fun h20 => ?_) (fun h20 => ?_)
  · replace hF := ifP h20 hF
    refine W.seq fun K21 hK21 => ?_
    refine W.region ?_
    refine wl_build (zs := [(.slice none 0 0), (.slice none 0 0), (.int .i64 0), (.int .i64 0)]) (out := [(.slice none 0 0), (.slice none 0 0), (.int .i64 0), (.int .i64 0)]) (vs := []) (css := []) tf_31 pl_31 rfl rfl rfl rfl rfl ?_
    refine wl_store_blk (i := 0) (vs := [(.slice none 0 0), (.slice none 0 0), (.int .i64 0), (.int .i64 0)]) (cs' := [(.slice none 0 0), (.slice none 0 0), (.int .i64 0), (.int .i64 0)]) tf_31 rfl rfl rfl rfl hB17 hS18 rfl rfl ⟨rfl, rfl, rfl, rfl, trivial⟩ rfl ?_
    intro w22 hk25 hB23 hS24
    refine wl_assign rfl rfl ?_
    refine WL.nil ?_
    refine fun a ha => hK21 _ _ ?_ a ha
    refine W.ret ?_
    have hS26 := hS24.push0 (r := R.own ty_69 [] (.slice none 0 0) []) rfl fun _ => .inl ⟨rfl, rfl, rfl⟩
    have hS27 := hS26.push0 (r := R.own ty_3 [] (.slice none 0 0) []) rfl fun _ => .inl ⟨rfl, rfl, rfl⟩
    have hr := Option.some.inj hF
    subst hr
    exact rets (vs := [(.agg #[(.slice none 0 0), (.slice none 0 0), (.int .i64 0), (.int .i64 0)]), (.bool false)]) hQ rfl ⟨rv_cell (i := 0) tf_31 rfl hS24 rfl rfl rfl, rv_tmp rfl, trivial⟩ ⟨(.slice none 0 0), [], (.slice none 0 0), [], rfl, hB23, hS27.sel [4, 1, 0] rfl⟩
  · replace hF := ifN h20 hF
    refine W.skip ?_
    refine fun a ha => hK12 _ _ ?_ a ha
    refine W.seq fun K28 hK28 => ?_
    refine W.region ?_
    refine wl_load_blk (i := 1) (vs := [v0_0, v0_1, (.int .i64 x0.2.2.1), (.int .i64 x0.2.2.2)]) (v := (.agg #[v0_0, v0_1, (.int .i64 x0.2.2.1), (.int .i64 x0.2.2.2)])) tf_31 rfl rfl hS18 rfl rfl rfl ?_
    refine wl_store_blk (i := 0) (vs := [v0_0, v0_1, (.int .i64 x0.2.2.1), (.int .i64 x0.2.2.2)]) (cs' := [v0_0, v0_1, (.int .i64 x0.2.2.1), (.int .i64 x0.2.2.2)]) tf_31 rfl rfl rfl rfl hB17 hS18 rfl rfl ⟨(hS18.own_ro (i := 3) rfl).one, (hS18.own_ro (i := 4) rfl).one, rfl, rfl, trivial⟩ rfl ?_
    intro w29 hk32 hB30 hS31
    refine wl_assign rfl rfl ?_
    refine WL.nil ?_
    refine fun a ha => hK28 _ _ ?_ a ha
    refine W.ret ?_
    have hr := Option.some.inj hF
    subst hr
    exact rets (vs := [(.agg #[v0_0, v0_1, (.int .i64 x0.2.2.1), (.int .i64 x0.2.2.2)]), (.bool true)]) hQ rfl ⟨rv_cell (i := 0) tf_31 rfl hS31 rfl rfl rfl, rv_tmp rfl, trivial⟩ ⟨v0_0, B0_0, v0_1, B0_1, rfl, hB30, hS31.sel [2, 3, 4] rfl⟩
theorem C_spec_swIf__take__fr1 (w0 : World) (x0 : ((List (List (Int × Int))) × (List Int) × Int × Int)) (v0_0 : Value) (B0_0 : List Nat) (v0_1 : Value) (B0_1 : List Nat) (hS0 : Sep 0 w0 [R.own ty_69 B0_0 v0_0 x0.1, R.fr ty_3 B0_1 v0_1 x0.2.1]) (r : (((List (List (Int × Int))) × (List Int) × Int × Int) × Bool)) (hF : F_spec_swIf__take__fr1 x0 = some r) :
    Calls Try.prog 101 [(.agg #[v0_0, v0_1, (.int .i64 x0.2.2.1), (.int .i64 x0.2.2.2)])].toArray w0 fun e w' => ∃ (q0 : Value) (G0 : List Nat) (q1 : Value) (G1 : List Nat), e = .returned (.tuple #[(.agg #[q0, q1, (.int .i64 r.1.2.2.1), (.int .i64 r.1.2.2.2)]), (.bool r.2)]) ∧ Below 0 (wE w0) w' ∧ Sep 0 w' [R.rest w0 (fps [R.own ty_69 B0_0 v0_0 x0.1, R.fr ty_3 B0_1 v0_1 x0.2.1]), R.own ty_69 G0 q0 r.1.1, R.fr ty_3 G1 q1 r.1.2.1] := by
  refine calls_mk' Try.func101 rfl Try.ntmps101 rfl rfl fun Q hQ hP => ?_
  have hB : Below (wE w0).heap.size (wE w0) w0 := wE_below w0
  have hS : Sep (wE w0).heap.size w0 [R.rest w0 (fps [R.own ty_69 B0_0 v0_0 x0.1, R.fr ty_3 B0_1 v0_1 x0.2.1]), R.own ty_69 B0_0 v0_0 x0.1, R.fr ty_3 B0_1 v0_1 x0.2.1] := hS0.rest
  unfold F_spec_swIf__take__fr1 at hF
  refine W.seq fun K1 hK1 => ?_
  refine W.region ?_
  refine wl_box (cs := [v0_0, v0_1, (.int .i64 x0.2.2.1), (.int .i64 x0.2.2.2)]) rfl rfl rfl hB hS ?_
  intro b2 w3 hb4 hB5 hS6
  refine wl_alloc (cs := [(.slice none 0 0), (.slice none 0 0), (.int .i64 0), (.int .i64 0)]) tf_31 rfl rfl hB5 hS6 ?_
  intro b7 w8 hb9 hB10 hS11
  refine wl_assign rfl rfl ?_
  refine WL.nil ?_
  refine fun a ha => hK1 _ _ ?_ a ha
  refine W.seq fun K12 hK12 => ?_
  refine W.seq fun K13 hK13 => ?_
  refine W.region ?_
  refine wl_load_blk (i := 1) (vs := [v0_0, v0_1, (.int .i64 x0.2.2.1), (.int .i64 x0.2.2.2)]) (v := (.agg #[v0_0, v0_1, (.int .i64 x0.2.2.1), (.int .i64 x0.2.2.2)])) tf_31 rfl rfl hS11 rfl rfl rfl ?_
  obtain ⟨u14, hu14, hF⟩ := bindE hF
  refine wl_call rfl Try.call69 (C_spec_swGood w8 x0 v0_0 (hS11.own_ro (i := 3) rfl) v0_1 (hS11.fr_ro (i := 4) rfl) _ hu14) rfl ?_
  rintro _ w15 ⟨rfl, hb16⟩
  refine ⟨_, rfl, ?_⟩
  have hB17 := hB10.trans (hb16.mono hB10.size)
  have hS18 := hS11.below hb16
  refine wl_not rfl rfl ?_
  refine WL.nil ?_
  refine fun a ha => hK13 _ _ ?_ a ha
  refine W.cond rfl (fun h20 => ?_) (fun h20 => ?_)
  · replace hF := ifP h20 hF
    refine W.seq fun K21 hK21 => ?_
    refine W.region ?_
    refine wl_build (zs := [(.slice none 0 0), (.slice none 0 0), (.int .i64 0), (.int .i64 0)]) (out := [(.slice none 0 0), (.slice none 0 0), (.int .i64 0), (.int .i64 0)]) (vs := []) (css := []) tf_31 pl_31 rfl rfl rfl rfl rfl ?_
    refine wl_store_blk (i := 0) (vs := [(.slice none 0 0), (.slice none 0 0), (.int .i64 0), (.int .i64 0)]) (cs' := [(.slice none 0 0), (.slice none 0 0), (.int .i64 0), (.int .i64 0)]) tf_31 rfl rfl rfl rfl hB17 hS18 rfl rfl ⟨rfl, rfl, rfl, rfl, trivial⟩ rfl ?_
    intro w22 hk25 hB23 hS24
    refine wl_assign rfl rfl ?_
    refine WL.nil ?_
    refine fun a ha => hK21 _ _ ?_ a ha
    refine W.ret ?_
    have hS26 := hS24.push0 (r := R.own ty_69 [] (.slice none 0 0) []) rfl fun _ => .inl ⟨rfl, rfl, rfl⟩
    have hS27 := hS26.push0 (r := R.fr ty_3 [] (.slice none 0 0) []) rfl fun _ => rdS_nil
    have hr := Option.some.inj hF
    subst hr
    exact rets (vs := [(.agg #[(.slice none 0 0), (.slice none 0 0), (.int .i64 0), (.int .i64 0)]), (.bool false)]) hQ rfl ⟨rv_cell (i := 0) tf_31 rfl hS24 rfl rfl rfl, rv_tmp rfl, trivial⟩ ⟨(.slice none 0 0), [], (.slice none 0 0), [], rfl, hB23, hS27.sel [4, 1, 0] rfl⟩
  · replace hF := ifN h20 hF
    refine W.skip ?_
    refine fun a ha => hK12 _ _ ?_ a ha
    refine W.seq fun K28 hK28 => ?_
    refine W.region ?_
    refine wl_load_blk (i := 1) (vs := [v0_0, v0_1, (.int .i64 x0.2.2.1), (.int .i64 x0.2.2.2)]) (v := (.agg #[v0_0, v0_1, (.int .i64 x0.2.2.1), (.int .i64 x0.2.2.2)])) tf_31 rfl rfl hS18 rfl rfl rfl ?_
    refine wl_store_blk (i := 0) (vs := [v0_0, v0_1, (.int .i64 x0.2.2.1), (.int .i64 x0.2.2.2)]) (cs' := [v0_0, v0_1, (.int .i64 x0.2.2.1), (.int .i64 x0.2.2.2)]) tf_31 rfl rfl rfl rfl hB17 hS18 rfl rfl ⟨(hS18.own_ro (i := 3) rfl).one, (hS18.fr_ro (i := 4) rfl).one, rfl, rfl, trivial⟩ rfl ?_
    intro w29 hk32 hB30 hS31
    refine wl_assign rfl rfl ?_
    refine WL.nil ?_
    refine fun a ha => hK28 _ _ ?_ a ha
    refine W.ret ?_
    have hr := Option.some.inj hF
    subst hr
    exact rets (vs := [(.agg #[v0_0, v0_1, (.int .i64 x0.2.2.1), (.int .i64 x0.2.2.2)]), (.bool true)]) hQ rfl ⟨rv_cell (i := 0) tf_31 rfl hS31 rfl rfl rfl, rv_tmp rfl, trivial⟩ ⟨v0_0, B0_0, v0_1, B0_1, rfl, hB30, hS31.sel [2, 3, 4] rfl⟩
theorem C_spec_DropShowChart (w0 : World) (x0 : ((List (List (Int × Int))) × (List Int) × Int × Int)) (v0_0 : Value) (h0_0 : rdS ty_69 (· < w0.heap.size) w0 v0_0 x0.1) (v0_1 : Value) (h0_1 : rdS ty_3 (· < w0.heap.size) w0 v0_1 x0.2.1) (x1 : Int) (r : (((List (List (Int × Int))) × (List Int) × Int × Int) × Bool)) (hF : F_spec_DropShowChart x0 x1 = some r) :
    Calls Try.prog 63 [(.agg #[v0_0, v0_1, (.int .i64 x0.2.2.1), (.int .i64 x0.2.2.2)]), (.int .i64 x1)].toArray w0 fun e w' => ∃ (q0 : Value) (G0 : List Nat) (q1 : Value) (G1 : List Nat), e = .returned (.tuple #[(.agg #[q0, q1, (.int .i64 r.1.2.2.1), (.int .i64 r.1.2.2.2)]), (.bool r.2)]) ∧ Below w0.heap.size w0 w' ∧ Sep w0.heap.size w' [R.own ty_69 G0 q0 r.1.1, R.fr ty_3 G1 q1 r.1.2.1] := by
  refine calls_mk' Try.func63 rfl Try.ntmps63 rfl rfl fun Q hQ hP => ?_
  have hB : Below w0.heap.size w0 w0 := Below.refl _ _
  have hS : Sep w0.heap.size w0 [] := Sep.nil _ _
  unfold F_spec_DropShowChart at hF
  refine W.seq fun K1 hK1 => ?_
  refine W.region ?_
  refine wl_box (cs := [v0_0, v0_1, (.int .i64 x0.2.2.1), (.int .i64 x0.2.2.2)]) rfl rfl rfl hB hS ?_
  intro b2 w3 hb4 hB5 hS6
  refine wl_alloc (cs := [(.slice none 0 0), (.slice none 0 0), (.int .i64 0), (.int .i64 0)]) tf_31 rfl rfl hB5 hS6 ?_
  intro b7 w8 hb9 hB10 hS11
  refine wl_assign rfl rfl ?_
  refine WL.nil ?_
  refine fun a ha => hK1 _ _ ?_ a ha
  refine W.seq fun K12 hK12 => ?_
  refine W.seq fun K13 hK13 => ?_
  obtain ⟨k18, hk18, hF⟩ := jE1 hF
  have hJ19 : ∀ (y17 : Bool) (w14 : World) (_ : k18 y17 = some r) (_ : Below w0.heap.size w0 w14) (_ : Sep w0.heap.size w14 [R.blk b2 31 [v0_0, v0_1, (.int .i64 x0.2.2.1), (.int .i64 x0.2.2.2)], R.blk b7 31 [(.slice none 0 0), (.slice none 0 0), (.int .i64 0), (.int .i64 0)]]), ∀ a, St 85 [(1, (.int .i64 x1)), (2, (.pointer (some ⟨b2, 0, none⟩))), (4, (.pointer (some ⟨b7, 0, none⟩))), (18, (.bool y17))] a → K13 a w14 := by
    intro y17 w14 hF hB15 hS16
    subst hk18
    refine fun a ha => hK13 _ _ ?_ a ha
    refine W.cond rfl (fun h20 => ?_) (fun h20 => ?_)
    · replace hF := ifP h20 hF
      refine W.seq fun K21 hK21 => ?_
      refine W.region ?_
      refine wl_build (zs := [(.slice none 0 0), (.slice none 0 0), (.int .i64 0), (.int .i64 0)]) (out := [(.slice none 0 0), (.slice none 0 0), (.int .i64 0), (.int .i64 0)]) (vs := []) (css := []) tf_31 pl_31 rfl rfl rfl rfl rfl ?_
      refine wl_store_blk (i := 1) (vs := [(.slice none 0 0), (.slice none 0 0), (.int .i64 0), (.int .i64 0)]) (cs' := [(.slice none 0 0), (.slice none 0 0), (.int .i64 0), (.int .i64 0)]) tf_31 rfl rfl rfl rfl hB15 hS16 rfl rfl ⟨rfl, rfl, rfl, rfl, trivial⟩ rfl ?_
      intro w22 hk25 hB23 hS24
      refine wl_assign rfl rfl ?_
      refine WL.nil ?_
      refine fun a ha => hK21 _ _ ?_ a ha
      refine W.ret ?_
      have hS26 := hS24.push0 (r := R.own ty_69 [] (.slice none 0 0) []) rfl fun _ => .inl ⟨rfl, rfl, rfl⟩
      have hS27 := hS26.push0 (r := R.fr ty_3 [] (.slice none 0 0) []) rfl fun _ => rdS_nil
      have hr := Option.some.inj hF
      subst hr
      exact rets (vs := [(.agg #[(.slice none 0 0), (.slice none 0 0), (.int .i64 0), (.int .i64 0)]), (.bool false)]) hQ rfl ⟨rv_cell (i := 1) tf_31 rfl hS24 rfl rfl rfl, rv_tmp rfl, trivial⟩ ⟨(.slice none 0 0), [], (.slice none 0 0), [], rfl, hB23, hS27.sel [1, 0] rfl⟩
    · replace hF := ifN h20 hF
      refine W.skip ?_
      refine fun a ha => hK12 _ _ ?_ a ha
      refine W.seq fun K28 hK28 => ?_
      refine W.region ?_
      refine wl_load_blk (i := 0) (vs := [v0_0, v0_1, (.int .i64 x0.2.2.1), (.int .i64 x0.2.2.2)]) (v := (.agg #[v0_0, v0_1, (.int .i64 x0.2.2.1), (.int .i64 x0.2.2.2)])) tf_31 rfl rfl hS16 rfl rfl rfl ?_
      obtain ⟨u29, hu29, hF⟩ := bindE hF
      refine wl_call rfl Try.call100 (C_spec_swOwn w14 x0 v0_0 (h0_0.ro hB15) v0_1 (h0_1.ro hB15) _ hu29) rfl ?_
      rintro _ w34 ⟨v30, F31, v32, F33, rfl, hb35, hM38⟩
      refine ⟨_, rfl, ?_⟩
      have hB36 := hB15.trans (hb35.mono hB15.size)
      have hS37 := hS16.join hb35 hM38 hB15.size
      refine wl_alloc (cs := [(.slice none 0 0), (.slice none 0 0), (.int .i64 0), (.int .i64 0)]) tf_31 rfl rfl hB36 hS37 ?_
      intro b39 w40 hb41 hB42 hS43
      refine wl_store_blk (i := 0) (vs := [v30, v32, (.int .i64 u29.2.2.1), (.int .i64 u29.2.2.2)]) (cs' := [v30, v32, (.int .i64 u29.2.2.1), (.int .i64 u29.2.2.2)]) tf_31 rfl rfl rfl rfl hB42 hS43 rfl rfl ⟨(hS43.own_ro (i := 1) rfl).one, (hS43.own_ro (i := 2) rfl).one, rfl, rfl, trivial⟩ rfl ?_
      intro w44 hk47 hB45 hS46
      refine WL.nil ?_
      refine fun a ha => hK28 _ _ ?_ a ha
      refine W.seq fun K48 hK48 => ?_
      obtain ⟨k55, hk55, hF⟩ := jE1 hF
      have hJ56 : ∀ (l52 : (List (List (Int × Int)))) (v53 : Value) (F54 : List Nat) (w49 : World) (_ : k55 l52 = some r) (_ : Below w0.heap.size w0 w49) (_ : Sep w0.heap.size w49 [R.blk b2 31 [v0_0, v0_1, (.int .i64 x0.2.2.1), (.int .i64 x0.2.2.2)], R.blk b7 31 [(.slice none 0 0), (.slice none 0 0), (.int .i64 0), (.int .i64 0)], R.own ty_69 F54 v53 l52, R.own ty_3 F33 v32 u29.2.1, R.blk b39 31 [v53, v32, (.int .i64 u29.2.2.1), (.int .i64 u29.2.2.2)]]), ∀ a, St 85 [(1, (.int .i64 x1)), (2, (.pointer (some ⟨b2, 0, none⟩))), (4, (.pointer (some ⟨b7, 0, none⟩))), (6, (.pointer (some ⟨b39, 0, none⟩)))] a → K48 a w49 := by
        intro l52 v53 F54 w49 hF hB50 hS51
        subst hk55
        refine fun a ha => hK48 _ _ ?_ a ha
        refine W.seq fun K57 hK57 => ?_
        obtain ⟨k64, hk64, hF⟩ := jE1 hF
        have hJ65 : ∀ (l61 : (List Int)) (v62 : Value) (F63 : List Nat) (w58 : World) (_ : k64 l61 = some r) (_ : Below w0.heap.size w0 w58) (_ : Sep w0.heap.size w58 [R.blk b7 31 [(.slice none 0 0), (.slice none 0 0), (.int .i64 0), (.int .i64 0)], R.own ty_69 F54 v53 l52, R.fr ty_3 F63 v62 l61, R.blk b39 31 [v53, v62, (.int .i64 u29.2.2.1), (.int .i64 u29.2.2.2)]]), ∀ a, St 85 [(4, (.pointer (some ⟨b7, 0, none⟩))), (6, (.pointer (some ⟨b39, 0, none⟩)))] a → K57 a w58 := by
          intro l61 v62 F63 w58 hF hB59 hS60
          subst hk64
          refine fun a ha => hK57 _ _ ?_ a ha
          refine W.seq fun K66 hK66 => ?_
          refine W.region ?_
          refine wl_load_blk (i := 3) (vs := [v53, v62, (.int .i64 u29.2.2.1), (.int .i64 u29.2.2.2)]) (v := (.agg #[v53, v62, (.int .i64 u29.2.2.1), (.int .i64 u29.2.2.2)])) tf_31 rfl rfl hS60 rfl rfl rfl ?_
          obtain ⟨u67, hu67, hF⟩ := bindE hF
          refine wl_call rfl Try.call101 (C_spec_swIf__take__fr1 w58 (l52, l61, u29.2.2.1, u29.2.2.2) v53 F54 v62 F63 (hS60.sel [1, 2] rfl).base0 _ hu67) rfl ?_
          rintro _ w68 ⟨v73, F74, v75, F76, rfl, hE69, hM70⟩
          refine ⟨_, rfl, ?_⟩
          have hB71 := hS60.takeB [1, 2] rfl (M := [R.own ty_69 F54 v53 l52, R.fr ty_3 F63 v62 l61]) rfl hB59 hE69 hM70
          have hS72 : Sep w0.heap.size w68 [R.own ty_69 F74 v73 u67.1.1, R.fr ty_3 F76 v75 u67.1.2.1, R.blk b7 31 [(.slice none 0 0), (.slice none 0 0), (.int .i64 0), (.int .i64 0)], R.blk b39 31 [v53, v62, (.int .i64 u29.2.2.1), (.int .i64 u29.2.2.2)]] := hS60.take [1, 2] [0, 3] rfl (M := [R.own ty_69 F54 v53 l52, R.fr ty_3 F63 v62 l61]) rfl hM70 hB59.size
          refine wl_extract rfl rfl rfl ?_
          refine wl_extract rfl rfl rfl ?_
          refine wl_store_blk (i := 2) (vs := [v73, v75, (.int .i64 u67.1.2.2.1), (.int .i64 u67.1.2.2.2)]) (cs' := [v73, v75, (.int .i64 u67.1.2.2.1), (.int .i64 u67.1.2.2.2)]) tf_31 rfl rfl rfl rfl hB71 hS72 rfl rfl ⟨(hS72.own_ro (i := 0) rfl).one, (hS72.fr_ro (i := 1) rfl).one, rfl, rfl, trivial⟩ rfl ?_
          intro w77 hk80 hB78 hS79
          refine wl_assign rfl rfl ?_
          refine WL.nil ?_
          refine fun a ha => hK66 _ _ ?_ a ha
          refine W.ret ?_
          have hr := Option.some.inj hF
          subst hr
          exact rets (vs := [(.agg #[v73, v75, (.int .i64 u67.1.2.2.1), (.int .i64 u67.1.2.2.2)]), (.bool u67.2)]) hQ rfl ⟨rv_cell (i := 2) tf_31 rfl hS79 rfl rfl rfl, rv_tmp rfl, trivial⟩ ⟨v73, F74, v75, F76, rfl, hB78, hS79.sel [0, 1] rfl⟩
        refine W.block ?_
        refine W.seq fun K81 hK81 => ?_
        refine W.region ?_
        refine wl_move rfl rfl ?_
        refine wl_eql rfl rfl rfl ?_
        refine wl_assign rfl rfl ?_
        refine WL.nil ?_
        refine fun a ha => hK81 _ _ ?_ a ha
        refine W.cond rfl (fun h82 => ?_) (fun h82 => ?_)
        · replace hF := ifP h82 hF
          refine W.region ?_
          refine wl_field (o := 1) (off' := 1) ff_31_1 rfl rfl rfl ?_
          refine wl_load_blk (i := 4) (vs := [v32]) (v := v32) tf_23 rfl rfl hS51 rfl rfl rfl ?_
          obtain ⟨u83, hu83, hF⟩ := bindE hF
          refine wl_sliceof (e := ty_3) Try.underlying23 rfl rfl (hS51.ok (i := 3) rfl : ownS ty_3 _ _ _ _).rd hu83 (.inr ⟨_, _, rfl, rfl⟩) (.inl ⟨rfl, rfl⟩) ?_
          intro v84 hv87 hs86
          have hv85 := hv87.mono fun b hb => ((hS51.get (i := 3) rfl).2.1 b hb).2
          refine wl_field (o := 1) (off' := 1) ff_31_1 rfl rfl rfl ?_
          have hS91 := (hS51.sel [3, 0, 1, 2, 4] rfl).shrink (r' := R.fr ty_3 F33 v84 u83) (hS51.get (i := 3) rfl).1 (fun _ h => h) fun _ hk => hv87.keep hk
          refine wl_store_blk (i := 4) (vs := [v84]) (cs' := [v53, v84, (.int .i64 u29.2.2.1), (.int .i64 u29.2.2.2)]) tf_23 rfl rfl (cells_one (hS91.fr_ro (i := 0) rfl).one) rfl hB50 hS91 rfl rfl ⟨(hS91.fr_ro (i := 0) rfl).one, trivial⟩ rfl ?_
          intro w88 hk92 hB89 hS90
          refine WL.nil ?_
          exact fun a ha => hJ65 (u83) (v84) (F33) _ hF hB89 (hS90.sel [2, 3, 0, 4] rfl) a (ha.sub ⟨rfl, rfl, trivial⟩)
        · replace hF := ifN h82 hF
          refine W.seq fun K93 hK93 => ?_
          refine W.region ?_
          refine wl_move rfl rfl ?_
          refine wl_field (o := 0) (off' := 0) ff_31_0 rfl rfl rfl ?_
          refine wl_load_blk (i := 0) (vs := [v0_0]) (v := v0_0) tf_29 rfl rfl hS51 rfl rfl rfl ?_
          refine wl_lenr (e := ty_69) (l := x0.1) Try.underlying29 rfl rfl h0_0 ?_
          refine wl_sub rfl rfl rfl ?_
          refine wl_eql rfl rfl rfl ?_
          refine wl_assign rfl rfl ?_
          refine WL.nil ?_
          refine fun a ha => hK93 _ _ ?_ a ha
          refine W.cond rfl (fun h94 => ?_) (fun h94 => ?_)
          · replace hF := ifP h94 hF
            refine W.region ?_
            refine wl_field (o := 1) (off' := 1) ff_31_1 rfl rfl rfl ?_
            refine wl_load_blk (i := 4) (vs := [v32]) (v := v32) tf_23 rfl rfl hS51 rfl rfl rfl ?_
            refine wl_move rfl rfl ?_
            refine wl_sub rfl rfl rfl ?_
            obtain ⟨u95, hu95, hF⟩ := bindE hF
            refine wl_sliceof (e := ty_3) Try.underlying23 rfl rfl (hS51.ok (i := 3) rfl : ownS ty_3 _ _ _ _).rd hu95 (.inl ⟨rfl, rfl⟩) (.inr ⟨_, _, rfl, rfl⟩) ?_
            intro v96 hv99 hs98
            have hv97 := hv99.mono fun b hb => ((hS51.get (i := 3) rfl).2.1 b hb).2
            refine wl_field (o := 1) (off' := 1) ff_31_1 rfl rfl rfl ?_
            obtain ⟨F104, hq105, hq106, hq107⟩ := own_pre (hS51.ok (i := 3) rfl : ownS ty_3 _ _ _ _) (hS51.get (i := 3) rfl).1 hs98 (sl_le hu95).1
            rw [show List.take (w64 (x1 - 1)).toNat u29.2.1 = u95 from (sl_le hu95).2.symm] at hq105
            have hS103 := (hS51.sel [3, 0, 1, 2, 4] rfl).shrink (r' := R.own ty_3 F104 v96 u95) hq106 hq107 fun _ hk => hq105.keep hk
            refine wl_store_blk (i := 4) (vs := [v96]) (cs' := [v53, v96, (.int .i64 u29.2.2.1), (.int .i64 u29.2.2.2)]) tf_23 rfl rfl (cells_one (hS103.own_ro (i := 0) rfl).one) rfl hB50 hS103 rfl rfl ⟨(hS103.own_ro (i := 0) rfl).one, trivial⟩ rfl ?_
            intro w100 hk109 hB101 hS102
            refine WL.nil ?_
            have hS110 := (hS102.sel [0, 1, 2, 3, 4] rfl).head (r' := R.fr ty_3 F104 v96 u95) rfl fun _ h => ownS.rd h
            exact fun a ha => hJ65 (u95) (v96) (F104) _ hF hB101 (hS110.sel [2, 3, 0, 4] rfl) a (ha.sub ⟨rfl, rfl, trivial⟩)
          · replace hF := ifN h94 hF
            refine W.seq fun K111 hK111 => ?_
            obtain ⟨k118, hk118, hF⟩ := jE1 hF
            have hJ119 : ∀ (l115 : (List Int)) (v116 : Value) (F117 : List Nat) (w112 : World) (_ : k118 l115 = some r) (_ : Below w0.heap.size w0 w112) (_ : Sep w0.heap.size w112 [R.blk b2 31 [v0_0, v0_1, (.int .i64 x0.2.2.1), (.int .i64 x0.2.2.2)], R.blk b7 31 [(.slice none 0 0), (.slice none 0 0), (.int .i64 0), (.int .i64 0)], R.own ty_69 F54 v53 l52, R.own ty_3 F117 v116 l115, R.blk b39 31 [v53, v116, (.int .i64 u29.2.2.1), (.int .i64 u29.2.2.2)]]), ∀ a, St 85 [(1, (.int .i64 x1)), (2, (.pointer (some ⟨b2, 0, none⟩))), (4, (.pointer (some ⟨b7, 0, none⟩))), (6, (.pointer (some ⟨b39, 0, none⟩)))] a → K111 a w112 := by
              intro l115 v116 F117 w112 hF hB113 hS114
              subst hk118
              refine fun a ha => hK111 _ _ ?_ a ha
              refine W.regionH mixed_ (F117 ++ [b39]) hB113 hS114 ?_
              intro w120 hb121 hB122 hS123
              have hSW124 := KeepX.refl w120 (F117 ++ [b39])
              refine WH.takex (i := 0) rfl (by kernel_rfl) (by kernel_rfl) (by kernel_rfl) hP hSW124 ?_
              refine pr_field (o := 1) (off' := 1) ff_31_1 rfl rfl rfl ?_
              refine WH.takex (i := 2) rfl (by kernel_rfl) (by kernel_rfl) (by kernel_rfl) hP hSW124 ?_
              refine pr_move rfl rfl ?_
              refine WH.takex (i := 3) rfl (by kernel_rfl) (by kernel_rfl) (by kernel_rfl) hP hSW124 ?_
              refine pr_sub rfl rfl rfl ?_
              refine WH.takex (i := 4) rfl (by kernel_rfl) (by kernel_rfl) (by kernel_rfl) hP hSW124 ?_
              refine pr_field (o := 1) (off' := 1) ff_31_1 rfl rfl rfl ?_
              refine WH.takex (i := 5) rfl (by kernel_rfl) (by kernel_rfl) (by kernel_rfl) hP hSW124 ?_
              refine pr_load_blk (i := 0) (vs := [v0_1]) (v := v0_1) tf_23 rfl rfl hS123 rfl rfl rfl (fun hb => (List.mem_append.1 hb).elim (hS123.disj (i := 0) (j := 3) rfl rfl rfl b2 (by simp [R.blk])) (hS123.disj (i := 0) (j := 4) rfl rfl rfl b2 (by simp [R.blk]))) ?_
              refine WH.takex (i := 6) rfl (by kernel_rfl) (by kernel_rfl) (by kernel_rfl) hP hSW124 ?_
              refine pr_move rfl rfl ?_
              refine WH.takex (i := 7) rfl (by kernel_rfl) (by kernel_rfl) (by kernel_rfl) hP hSW124 ?_
              refine pr_sub rfl rfl rfl ?_
              obtain ⟨u125, hu125, hF⟩ := bindE hF
              refine WH.takex (i := 8) rfl (by kernel_rfl) (by kernel_rfl) (by kernel_rfl) hP hSW124 ?_
              refine pr_index (e := ty_3) Try.underlying23 rfl rfl rfl h0_1 hu125 ?_
              rintro p126 _ rfl hp127
              refine WH.takex (i := 9) rfl (by kernel_rfl) (by kernel_rfl) (by kernel_rfl) hP hSW124 ?_
              refine pr_load_p (vs := [(.int .i64 u125)]) (v := (.int .i64 u125)) tf_3 rfl rfl (hp127.kx hB122 (fun b hb => ((List.mem_append.1 hb).elim (fun hb => (((hS123.get (i := 3) rfl).2.1 b hb).1)) (fun hb => (((hS123.get (i := 4) rfl).2.1 b hb).1))))) rfl rfl ?_
              refine WH.takex (i := 10) rfl (by kernel_rfl) (by kernel_rfl) (by kernel_rfl) hP hSW124 ?_
              refine pr_field (o := 1) (off' := 1) ff_31_1 rfl rfl rfl ?_
              refine WH.takex (i := 11) rfl (by kernel_rfl) (by kernel_rfl) (by kernel_rfl) hP hSW124 ?_
              refine pr_load_blk (i := 0) (vs := [v0_1]) (v := v0_1) tf_23 rfl rfl hS123 rfl rfl rfl (fun hb => (List.mem_append.1 hb).elim (hS123.disj (i := 0) (j := 3) rfl rfl rfl b2 (by simp [R.blk])) (hS123.disj (i := 0) (j := 4) rfl rfl rfl b2 (by simp [R.blk]))) ?_
              refine WH.takex (i := 12) rfl (by kernel_rfl) (by kernel_rfl) (by kernel_rfl) hP hSW124 ?_
              refine pr_move rfl rfl ?_
              obtain ⟨u128, hu128, hF⟩ := bindE hF
              refine WH.takex (i := 13) rfl (by kernel_rfl) (by kernel_rfl) (by kernel_rfl) hP hSW124 ?_
              refine pr_index (e := ty_3) Try.underlying23 rfl rfl rfl h0_1 hu128 ?_
              rintro p129 _ rfl hp130
              refine WH.takex (i := 14) rfl (by kernel_rfl) (by kernel_rfl) (by kernel_rfl) hP hSW124 ?_
              refine pr_load_p (vs := [(.int .i64 u128)]) (v := (.int .i64 u128)) tf_3 rfl rfl (hp130.kx hB122 (fun b hb => ((List.mem_append.1 hb).elim (fun hb => (((hS123.get (i := 3) rfl).2.1 b hb).1)) (fun hb => (((hS123.get (i := 4) rfl).2.1 b hb).1))))) rfl rfl ?_
              refine WH.takex (i := 15) rfl (by kernel_rfl) (by kernel_rfl) (by kernel_rfl) hP hSW124 ?_
              refine pr_add rfl rfl rfl ?_
              refine WH.one (i := 1) (by kernel_rfl) rfl ?_
              refine wl_load_blk (i := 4) (vs := [v116]) (v := v116) tf_23 rfl rfl hS123 rfl rfl rfl ?_
              refine WL.nil (WH.ret hSW124 ?_)
              obtain ⟨u131, hu131, hF⟩ := bindE hF
              refine WH.takex (i := 16) rfl (by kernel_rfl) (by kernel_rfl) (by kernel_rfl) hP hSW124 ?_
              refine pr_indexo (e := ty_3) (i := 3) Try.underlying23 rfl rfl rfl hS123 rfl hu131 ?_
              rintro p132 _ rfl hp133 ho134
              refine WH.one (i := 17) (by kernel_rfl) rfl ?_
              refine wl_storeo (i := 3) (o := 0) (vs := [(.int .i64 (w64 (u125 + u128)))]) (u' := (w64 (u125 + u128))) fl_3 tf_3 rfl rfl rfl rfl ho134 hu131 hB122 hS123 rfl rfl ⟨rfl, trivial⟩ rfl ?_
              intro w135 hk138 hB136 hS137
              have hSW139 := hSW124.wr' hk138.1 hk138.2.1 (fun _ _ h => List.mem_append_left _ (h))
              refine WL.nil (WH.ret hSW139 ?_)
              refine WH.done (by kernel_rfl) ?_
              have hS140 := (hS137.sel [3, 0, 1, 2, 4] rfl).head (r' := R.fr ty_3 F117 v116 (seti l115 (w64 (x1 - 1)) (w64 (u125 + u128)))) rfl fun _ h => ownS.rd h
              exact fun a ha => hJ65 ((seti l115 (w64 (x1 - 1)) (w64 (u125 + u128)))) (v116) (F117) _ hF hB136 (hS140.sel [2, 3, 0, 4] rfl) a (ha.sub ⟨rfl, rfl, trivial⟩)
            refine W.regionH mixed_ (F33 ++ [b39]) hB50 hS51 ?_
            intro w141 hb142 hB143 hS144
            have hSW145 := KeepX.refl w141 (F33 ++ [b39])
            refine WH.takex (i := 0) rfl (by kernel_rfl) (by kernel_rfl) (by kernel_rfl) hP hSW145 ?_
            refine pr_field (o := 1) (off' := 1) ff_31_1 rfl rfl rfl ?_
            refine WH.takex (i := 2) rfl (by kernel_rfl) (by kernel_rfl) (by kernel_rfl) hP hSW145 ?_
            refine pr_move rfl rfl ?_
            refine WH.takex (i := 4) rfl (by kernel_rfl) (by kernel_rfl) (by kernel_rfl) hP hSW145 ?_
            refine pr_field (o := 1) (off' := 1) ff_31_1 rfl rfl rfl ?_
            refine WH.takex (i := 6) rfl (by kernel_rfl) (by kernel_rfl) (by kernel_rfl) hP hSW145 ?_
            refine pr_move rfl rfl ?_
            refine WH.takex (i := 7) rfl (by kernel_rfl) (by kernel_rfl) (by kernel_rfl) hP hSW145 ?_
            refine pr_add rfl rfl rfl ?_
            refine WH.many (is := [1, 5]) (by kernel_rfl) rfl ?_
            refine List.forall_mem_cons.2 ⟨⟨_, rfl, ?_⟩, List.forall_mem_cons.2 ⟨⟨_, rfl, ?_⟩, fun _ h => by cases h⟩⟩
            ·
              refine wl_load_blk (i := 4) (vs := [v32]) (v := v32) tf_23 rfl rfl hS144 rfl rfl rfl ?_
              refine WL.nil (WH.ret hSW145 ?_)
              obtain ⟨u146, hu146, hF⟩ := bindE hF
              refine WH.takex (i := 3) rfl (by kernel_rfl) (by kernel_rfl) (by kernel_rfl) hP hSW145 ?_
              refine pr_sliceof (e := ty_3) Try.underlying23 rfl rfl (hS144.ok (i := 3) rfl : ownS ty_3 _ _ _ _).rd hu146 (.inl ⟨rfl, rfl⟩) (.inr ⟨_, _, rfl, rfl⟩) ?_
              intro v147 hv150 hs149
              have hv148 := hv150.mono fun b hb => ((hS144.get (i := 3) rfl).2.1 b hb).2
              refine WH.one (i := 5) (by kernel_rfl) rfl ?_
              refine wl_load_blk (i := 4) (vs := [v32]) (v := v32) tf_23 rfl rfl hS144 rfl rfl rfl ?_
              refine WL.nil (WH.ret hSW145 ?_)
              obtain ⟨u151, hu151, hF⟩ := bindE hF
              refine WH.takex (i := 8) rfl (by kernel_rfl) (by kernel_rfl) (by kernel_rfl) hP hSW145 ?_
              refine pr_sliceof (e := ty_3) Try.underlying23 rfl rfl (hS144.ok (i := 3) rfl : ownS ty_3 _ _ _ _).rd hu151 (.inr ⟨_, _, rfl, rfl⟩) (.inl ⟨rfl, rfl⟩) ?_
              intro v152 hv155 hs154
              have hv153 := hv155.mono fun b hb => ((hS144.get (i := 3) rfl).2.1 b hb).2
              refine WH.one (i := 9) (by kernel_rfl) rfl ?_
              obtain ⟨u156, hu156, hF⟩ := bindE hF
              obtain ⟨hc157, hc158, hc159, hc160⟩ := cutL_some hu156
              refine wl_appendcut (e := ty_3) Try.underlying23 rfl rfl rfl hB143 (hS144.sel [3, 0, 1, 2, 4] rfl) hs149 hs154 hc158 hc159 ?_
              intro v161 F162 w163 hk164 hcap165 hB166 hS167
              have hS168 : Sep w0.heap.size w163 [R.own ty_3 F162 v161 u156, R.blk b2 31 [v0_0, v0_1, (.int .i64 x0.2.2.1), (.int .i64 x0.2.2.2)], R.blk b7 31 [(.slice none 0 0), (.slice none 0 0), (.int .i64 0), (.int .i64 0)], R.own ty_69 F54 v53 l52, R.blk b39 31 [v53, v32, (.int .i64 u29.2.2.1), (.int .i64 u29.2.2.2)]] := by rw [hc157]; exact hS167
              have hSW169 := hSW145.wr' hk164.1 hk164.2.1 (fun _ _ h => List.mem_append_left _ (h))
              refine WL.nil (WH.ret hSW169 ?_)
              refine WH.takex (i := 10) rfl (by kernel_rfl) (by kernel_rfl) (by kernel_rfl) hP hSW169 ?_
              refine pr_field (o := 1) (off' := 1) ff_31_1 rfl rfl rfl ?_
              refine WH.one (i := 11) (by kernel_rfl) rfl ?_
              refine wl_store_blk (i := 4) (vs := [v161]) (cs' := [v53, v161, (.int .i64 u29.2.2.1), (.int .i64 u29.2.2.2)]) tf_23 rfl rfl (cells_one (hS168.own_ro (i := 0) rfl).one) rfl hB166 hS168 rfl rfl ⟨(hS168.own_ro (i := 0) rfl).one, trivial⟩ rfl ?_
              intro w170 hk173 hB171 hS172
              have hSW174 := hSW169.wr' hk173.1 hk173.2.1 (fun _ _ h => List.mem_append_right _ h)
              refine WL.nil (WH.ret hSW174 ?_)
              refine WH.done (by kernel_rfl) ?_
              exact fun a ha => hJ119 (u156) (v161) (F162) _ hF hB171 (hS172.sel [1, 2, 3, 0, 4] rfl) a (ha.sub ⟨rfl, rfl, rfl, rfl, trivial⟩)
            ·
              refine wl_load_blk (i := 4) (vs := [v32]) (v := v32) tf_23 rfl rfl hS144 rfl rfl rfl ?_
              refine WL.nil (WH.ret hSW145 ?_)
              obtain ⟨u175, hu175, hF⟩ := bindE hF
              obtain ⟨u176, hu176, hF⟩ := bindE hF
              refine WH.takex (i := 8) rfl (by kernel_rfl) (by kernel_rfl) (by kernel_rfl) hP hSW145 ?_
              refine pr_sliceof (e := ty_3) Try.underlying23 rfl rfl (hS144.ok (i := 3) rfl : ownS ty_3 _ _ _ _).rd hu176 (.inr ⟨_, _, rfl, rfl⟩) (.inl ⟨rfl, rfl⟩) ?_
              intro v177 hv180 hs179
              have hv178 := hv180.mono fun b hb => ((hS144.get (i := 3) rfl).2.1 b hb).2
              refine WH.one (i := 1) (by kernel_rfl) rfl ?_
              refine wl_load_blk (i := 4) (vs := [v32]) (v := v32) tf_23 rfl rfl hS144 rfl rfl rfl ?_
              refine WL.nil (WH.ret hSW145 ?_)
              refine WH.takex (i := 3) rfl (by kernel_rfl) (by kernel_rfl) (by kernel_rfl) hP hSW145 ?_
              refine pr_sliceof (e := ty_3) Try.underlying23 rfl rfl (hS144.ok (i := 3) rfl : ownS ty_3 _ _ _ _).rd hu175 (.inl ⟨rfl, rfl⟩) (.inr ⟨_, _, rfl, rfl⟩) ?_
              intro v181 hv184 hs183
              have hv182 := hv184.mono fun b hb => ((hS144.get (i := 3) rfl).2.1 b hb).2
              refine WH.one (i := 9) (by kernel_rfl) rfl ?_
              obtain ⟨u185, hu185, hF⟩ := bindE hF
              obtain ⟨hc186, hc187, hc188, hc189⟩ := cutL_some hu185
              refine wl_appendcut (e := ty_3) Try.underlying23 rfl rfl rfl hB143 (hS144.sel [3, 0, 1, 2, 4] rfl) hs183 hs179 hc187 hc188 ?_
              intro v190 F191 w192 hk193 hcap194 hB195 hS196
              have hS197 : Sep w0.heap.size w192 [R.own ty_3 F191 v190 u185, R.blk b2 31 [v0_0, v0_1, (.int .i64 x0.2.2.1), (.int .i64 x0.2.2.2)], R.blk b7 31 [(.slice none 0 0), (.slice none 0 0), (.int .i64 0), (.int .i64 0)], R.own ty_69 F54 v53 l52, R.blk b39 31 [v53, v32, (.int .i64 u29.2.2.1), (.int .i64 u29.2.2.2)]] := by rw [hc186]; exact hS196
              have hSW198 := hSW145.wr' hk193.1 hk193.2.1 (fun _ _ h => List.mem_append_left _ (h))
              refine WL.nil (WH.ret hSW198 ?_)
              refine WH.takex (i := 10) rfl (by kernel_rfl) (by kernel_rfl) (by kernel_rfl) hP hSW198 ?_
              refine pr_field (o := 1) (off' := 1) ff_31_1 rfl rfl rfl ?_
              refine WH.one (i := 11) (by kernel_rfl) rfl ?_
              refine wl_store_blk (i := 4) (vs := [v190]) (cs' := [v53, v190, (.int .i64 u29.2.2.1), (.int .i64 u29.2.2.2)]) tf_23 rfl rfl (cells_one (hS197.own_ro (i := 0) rfl).one) rfl hB195 hS197 rfl rfl ⟨(hS197.own_ro (i := 0) rfl).one, trivial⟩ rfl ?_
              intro w199 hk202 hB200 hS201
              have hSW203 := hSW198.wr' hk202.1 hk202.2.1 (fun _ _ h => List.mem_append_right _ h)
              refine WL.nil (WH.ret hSW203 ?_)
              refine WH.done (by kernel_rfl) ?_
              exact fun a ha => hJ119 (u185) (v190) (F191) _ hF hB200 (hS201.sel [1, 2, 3, 0, 4] rfl) a (ha.sub ⟨rfl, rfl, rfl, rfl, trivial⟩)
      refine W.regionH mixed_ ([b39] ++ F31) hB45 hS46 ?_
      intro w204 hb205 hB206 hS207
      have hSW208 := KeepX.refl w204 ([b39] ++ F31)
      refine WH.takex (i := 0) rfl (by kernel_rfl) (by kernel_rfl) (by kernel_rfl) hP hSW208 ?_
      refine pr_field (o := 0) (off' := 0) ff_31_0 rfl rfl rfl ?_
      refine WH.takex (i := 2) rfl (by kernel_rfl) (by kernel_rfl) (by kernel_rfl) hP hSW208 ?_
      refine pr_move rfl rfl ?_
      refine WH.takex (i := 4) rfl (by kernel_rfl) (by kernel_rfl) (by kernel_rfl) hP hSW208 ?_
      refine pr_field (o := 0) (off' := 0) ff_31_0 rfl rfl rfl ?_
      refine WH.takex (i := 6) rfl (by kernel_rfl) (by kernel_rfl) (by kernel_rfl) hP hSW208 ?_
      refine pr_move rfl rfl ?_
      refine WH.takex (i := 7) rfl (by kernel_rfl) (by kernel_rfl) (by kernel_rfl) hP hSW208 ?_
      refine pr_add rfl rfl rfl ?_
      refine WH.many (is := [1, 5]) (by kernel_rfl) rfl ?_
      refine List.forall_mem_cons.2 ⟨⟨_, rfl, ?_⟩, List.forall_mem_cons.2 ⟨⟨_, rfl, ?_⟩, fun _ h => by cases h⟩⟩
      ·
        refine wl_load_blk (i := 0) (vs := [v30]) (v := v30) tf_29 rfl rfl hS207 rfl rfl rfl ?_
        refine WL.nil (WH.ret hSW208 ?_)
        obtain ⟨u209, hu209, hF⟩ := bindE hF
        refine WH.takex (i := 3) rfl (by kernel_rfl) (by kernel_rfl) (by kernel_rfl) hP hSW208 ?_
        refine pr_sliceof (e := ty_69) Try.underlying29 rfl rfl (hS207.ok (i := 1) rfl : ownS ty_69 _ _ _ _).rd hu209 (.inl ⟨rfl, rfl⟩) (.inr ⟨_, _, rfl, rfl⟩) ?_
        intro v210 hv213 hs212
        have hv211 := hv213.mono fun b hb => ((hS207.get (i := 1) rfl).2.1 b hb).2
        refine WH.one (i := 5) (by kernel_rfl) rfl ?_
        refine wl_load_blk (i := 0) (vs := [v30]) (v := v30) tf_29 rfl rfl hS207 rfl rfl rfl ?_
        refine WL.nil (WH.ret hSW208 ?_)
        obtain ⟨u214, hu214, hF⟩ := bindE hF
        refine WH.takex (i := 8) rfl (by kernel_rfl) (by kernel_rfl) (by kernel_rfl) hP hSW208 ?_
        refine pr_sliceof (e := ty_69) Try.underlying29 rfl rfl (hS207.ok (i := 1) rfl : ownS ty_69 _ _ _ _).rd hu214 (.inr ⟨_, _, rfl, rfl⟩) (.inl ⟨rfl, rfl⟩) ?_
        intro v215 hv218 hs217
        have hv216 := hv218.mono fun b hb => ((hS207.get (i := 1) rfl).2.1 b hb).2
        refine WH.one (i := 9) (by kernel_rfl) rfl ?_
        obtain ⟨u219, hu219, hF⟩ := bindE hF
        obtain ⟨hc220, hc221, hc222, hc223⟩ := cutL_some hu219
        refine wl_appendcut (e := ty_69) Try.underlying29 rfl rfl rfl hB206 (hS207.sel [1, 0, 2, 3, 4] rfl) hs212 hs217 hc221 hc222 ?_
        intro v224 F225 w226 hk227 hcap228 hB229 hS230
        have hS231 : Sep w0.heap.size w226 [R.own ty_69 F225 v224 u219, R.blk b39 31 [v30, v32, (.int .i64 u29.2.2.1), (.int .i64 u29.2.2.2)], R.own ty_3 F33 v32 u29.2.1, R.blk b2 31 [v0_0, v0_1, (.int .i64 x0.2.2.1), (.int .i64 x0.2.2.2)], R.blk b7 31 [(.slice none 0 0), (.slice none 0 0), (.int .i64 0), (.int .i64 0)]] := by rw [hc220]; exact hS230
        have hSW232 := hSW208.wr' hk227.1 hk227.2.1 (fun _ _ h => List.mem_append_right _ h)
        refine WL.nil (WH.ret hSW232 ?_)
        refine WH.takex (i := 10) rfl (by kernel_rfl) (by kernel_rfl) (by kernel_rfl) hP hSW232 ?_
        refine pr_field (o := 0) (off' := 0) ff_31_0 rfl rfl rfl ?_
        refine WH.one (i := 11) (by kernel_rfl) rfl ?_
        refine wl_store_blk (i := 1) (vs := [v224]) (cs' := [v224, v32, (.int .i64 u29.2.2.1), (.int .i64 u29.2.2.2)]) tf_29 rfl rfl (cells_one (hS231.own_ro (i := 0) rfl).one) rfl hB229 hS231 rfl rfl ⟨(hS231.own_ro (i := 0) rfl).one, trivial⟩ rfl ?_
        intro w233 hk236 hB234 hS235
        have hSW237 := hSW232.wr' hk236.1 hk236.2.1 (fun _ _ h => List.mem_append_left _ (h))
        refine WL.nil (WH.ret hSW237 ?_)
        refine WH.done (by kernel_rfl) ?_
        exact fun a ha => hJ56 (u219) (v224) (F225) _ hF hB234 (hS235.sel [3, 4, 0, 2, 1] rfl) a (ha.sub ⟨rfl, rfl, rfl, rfl, trivial⟩)
      ·
        refine wl_load_blk (i := 0) (vs := [v30]) (v := v30) tf_29 rfl rfl hS207 rfl rfl rfl ?_
        refine WL.nil (WH.ret hSW208 ?_)
        obtain ⟨u238, hu238, hF⟩ := bindE hF
        obtain ⟨u239, hu239, hF⟩ := bindE hF
        refine WH.takex (i := 8) rfl (by kernel_rfl) (by kernel_rfl) (by kernel_rfl) hP hSW208 ?_
        refine pr_sliceof (e := ty_69) Try.underlying29 rfl rfl (hS207.ok (i := 1) rfl : ownS ty_69 _ _ _ _).rd hu239 (.inr ⟨_, _, rfl, rfl⟩) (.inl ⟨rfl, rfl⟩) ?_
        intro v240 hv243 hs242
        have hv241 := hv243.mono fun b hb => ((hS207.get (i := 1) rfl).2.1 b hb).2
        refine WH.one (i := 1) (by kernel_rfl) rfl ?_
        refine wl_load_blk (i := 0) (vs := [v30]) (v := v30) tf_29 rfl rfl hS207 rfl rfl rfl ?_
        refine WL.nil (WH.ret hSW208 ?_)
        refine WH.takex (i := 3) rfl (by kernel_rfl) (by kernel_rfl) (by kernel_rfl) hP hSW208 ?_
        refine pr_sliceof (e := ty_69) Try.underlying29 rfl rfl (hS207.ok (i := 1) rfl : ownS ty_69 _ _ _ _).rd hu238 (.inl ⟨rfl, rfl⟩) (.inr ⟨_, _, rfl, rfl⟩) ?_
        intro v244 hv247 hs246
        have hv245 := hv247.mono fun b hb => ((hS207.get (i := 1) rfl).2.1 b hb).2
        refine WH.one (i := 9) (by kernel_rfl) rfl ?_
        obtain ⟨u248, hu248, hF⟩ := bindE hF
        obtain ⟨hc249, hc250, hc251, hc252⟩ := cutL_some hu248
        refine wl_appendcut (e := ty_69) Try.underlying29 rfl rfl rfl hB206 (hS207.sel [1, 0, 2, 3, 4] rfl) hs246 hs242 hc250 hc251 ?_
        intro v253 F254 w255 hk256 hcap257 hB258 hS259
        have hS260 : Sep w0.heap.size w255 [R.own ty_69 F254 v253 u248, R.blk b39 31 [v30, v32, (.int .i64 u29.2.2.1), (.int .i64 u29.2.2.2)], R.own ty_3 F33 v32 u29.2.1, R.blk b2 31 [v0_0, v0_1, (.int .i64 x0.2.2.1), (.int .i64 x0.2.2.2)], R.blk b7 31 [(.slice none 0 0), (.slice none 0 0), (.int .i64 0), (.int .i64 0)]] := by rw [hc249]; exact hS259
        have hSW261 := hSW208.wr' hk256.1 hk256.2.1 (fun _ _ h => List.mem_append_right _ h)
        refine WL.nil (WH.ret hSW261 ?_)
        refine WH.takex (i := 10) rfl (by kernel_rfl) (by kernel_rfl) (by kernel_rfl) hP hSW261 ?_
        refine pr_field (o := 0) (off' := 0) ff_31_0 rfl rfl rfl ?_
        refine WH.one (i := 11) (by kernel_rfl) rfl ?_
        refine wl_store_blk (i := 1) (vs := [v253]) (cs' := [v253, v32, (.int .i64 u29.2.2.1), (.int .i64 u29.2.2.2)]) tf_29 rfl rfl (cells_one (hS260.own_ro (i := 0) rfl).one) rfl hB258 hS260 rfl rfl ⟨(hS260.own_ro (i := 0) rfl).one, trivial⟩ rfl ?_
        intro w262 hk265 hB263 hS264
        have hSW266 := hSW261.wr' hk265.1 hk265.2.1 (fun _ _ h => List.mem_append_left _ (h))
        refine WL.nil (WH.ret hSW266 ?_)
        refine WH.done (by kernel_rfl) ?_
        exact fun a ha => hJ56 (u248) (v253) (F254) _ hF hB263 (hS264.sel [3, 4, 0, 2, 1] rfl) a (ha.sub ⟨rfl, rfl, rfl, rfl, trivial⟩)
  refine W.region ?_
  refine wl_load_blk (i := 1) (vs := [v0_0, v0_1, (.int .i64 x0.2.2.1), (.int .i64 x0.2.2.2)]) (v := (.agg #[v0_0, v0_1, (.int .i64 x0.2.2.1), (.int .i64 x0.2.2.2)])) tf_31 rfl rfl hS11 rfl rfl rfl ?_
  obtain ⟨u267, hu267, hF⟩ := bindE hF
  refine wl_call rfl Try.call69 (C_spec_swGood w8 x0 v0_0 (h0_0.ro hB10) v0_1 (h0_1.ro hB10) _ hu267) rfl ?_
  rintro _ w268 ⟨rfl, hb269⟩
  refine ⟨_, rfl, ?_⟩
  have hB270 := hB10.trans (hb269.mono hB10.size)
  have hS271 := hS11.below hb269
  refine wl_not rfl rfl ?_
  refine wl_move rfl rfl ?_
  rcases bE (!u267) with h273 | h273
  · replace hF := ifP h273 hF
    refine wl_off rfl rfl rfl h273 ?_
    refine wl_off rfl rfl rfl h273 ?_
    refine wl_off rfl rfl rfl h273 ?_
    refine wl_off rfl rfl rfl h273 ?_
    refine wl_off rfl rfl rfl h273 ?_
    refine wl_off rfl rfl rfl h273 ?_
    refine wl_off rfl rfl rfl h273 ?_
    refine wl_pick_t rfl rfl h273 rfl ?_
    refine WL.nil ?_
    exact fun a ha => hJ19 (true) _ hF hB270 (hS271.sel [1, 0] rfl) a (ha.sub ⟨rfl, rfl, rfl, rfl, trivial⟩)
  · replace hF := ifN h273 hF
    refine wl_on rfl rfl h273 ?_
    refine wl_move rfl rfl ?_
    refine wl_on rfl rfl h273 ?_
    refine wl_field (o := 0) (off' := 0) ff_31_0 rfl rfl rfl ?_
    refine wl_on rfl rfl h273 ?_
    refine wl_load_blk (i := 1) (vs := [v0_0]) (v := v0_0) tf_29 rfl rfl hS271 rfl rfl rfl ?_
    refine wl_on rfl rfl h273 ?_
    refine wl_lenr (e := ty_69) (l := x0.1) Try.underlying29 rfl rfl h0_0 ?_
    refine wl_on rfl rfl h273 ?_
    refine wl_sub rfl rfl rfl ?_
    refine wl_on rfl rfl h273 ?_
    obtain ⟨u274, hu274, hF⟩ := bindE hF
    refine wl_call rfl Try.call111 (C_spec_l1In w268 x1 0 (w64 ((List.length x0.1 : Int) - 1)) _ hu274) rfl ?_
    rintro _ w275 ⟨rfl, hb276⟩
    refine ⟨_, rfl, ?_⟩
    have hB277 := hB270.trans (hb276.mono hB270.size)
    have hS278 := hS271.below hb276
    refine wl_on rfl rfl h273 ?_
    refine wl_not rfl rfl ?_
    refine wl_pick_f rfl rfl h273 rfl ?_
    refine WL.nil ?_
    exact fun a ha => hJ19 ((!u274)) _ hF hB277 (hS278.sel [1, 0] rfl) a (ha.sub ⟨rfl, rfl, rfl, rfl, trivial⟩)
theorem C_slices_Delete_impl_Spot_impl_Spot__take (w0 : World) (x0 : (List (List (Int × Int)))) (v0_0 : Value) (B0_0 : List Nat) (x1 : Int) (x2 : Int) (hS0 : Sep 0 w0 [R.own ty_69 B0_0 v0_0 x0]) (r : (List (List (Int × Int)))) (hF : F_slices_Delete_impl_Spot_impl_Spot__take x0 x1 x2 = some r) :
    Calls Try.prog 113 [v0_0, (.int .i64 x1), (.int .i64 x2)].toArray w0 fun e w' => ∃ (q0 : Value) (G0 : List Nat), e = .returned q0 ∧ Below 0 (wE w0) w' ∧ Sep 0 w' [R.rest w0 (fps [R.own ty_69 B0_0 v0_0 x0]), R.own ty_69 G0 q0 r] := by
  refine calls_mk' Try.func113 rfl Try.ntmps113 rfl rfl fun Q hQ hP => ?_
  have hB : Below (wE w0).heap.size (wE w0) w0 := wE_below w0
  have hS : Sep (wE w0).heap.size w0 [R.rest w0 (fps [R.own ty_69 B0_0 v0_0 x0]), R.own ty_69 B0_0 v0_0 x0] := hS0.rest
  unfold F_slices_Delete_impl_Spot_impl_Spot__take at hF
  refine W.seq fun K1 hK1 => ?_
  refine W.region ?_
  refine wl_assign rfl rfl ?_
  refine WL.nil ?_
  refine fun a ha => hK1 _ _ ?_ a ha
  refine W.seq fun K2 hK2 => ?_
  refine W.region ?_
  refine wl_move rfl rfl ?_
  refine wl_move rfl rfl ?_
  refine wl_move rfl rfl ?_
  refine wl_move rfl rfl ?_
  refine wl_lenr (e := ty_69) (l := x0) Try.underlying29 rfl rfl (hS.own_ro (i := 1) rfl) ?_
  obtain ⟨u3, hu3, hF⟩ := bindE hF
  refine wl_slice3 (e := ty_69) Try.underlying29 rfl rfl (hS.own_ro (i := 1) rfl) rfl rfl rfl hu3 ?_
  intro v4
  refine WL.nil ?_
  refine fun a ha => hK2 _ _ ?_ a ha
  refine W.seq fun K5 hK5 => ?_
  refine W.seq fun K6 hK6 => ?_
  refine W.region ?_
  refine wl_move rfl rfl ?_
  refine wl_move rfl rfl ?_
  refine wl_eql rfl rfl rfl ?_
  refine WL.nil ?_
  refine fun a ha => hK6 _ _ ?_ a ha
  refine W.cond rfl (fun h7 => ?_) (fun h7 => ?_)
  · replace hF := ifP h7 hF
    refine W.seq fun K8 hK8 => ?_
    refine W.region ?_
    refine wl_move rfl rfl ?_
    refine wl_assign rfl rfl ?_
    refine WL.nil ?_
    refine fun a ha => hK8 _ _ ?_ a ha
    refine W.ret ?_
    have hr := Option.some.inj hF
    subst hr
    exact rets (vs := [v0_0]) hQ rfl ⟨rv_tmp rfl, trivial⟩ ⟨v0_0, B0_0, rfl, hB, hS.sel [0, 1] rfl⟩
  · replace hF := ifN h7 hF
    refine W.skip ?_
    refine fun a ha => hK5 _ _ ?_ a ha
    refine W.seq fun K9 hK9 => ?_
    refine W.region ?_
    refine wl_move rfl rfl ?_
    refine wl_lenr (e := ty_69) (l := x0) Try.underlying29 rfl rfl (hS.own_ro (i := 1) rfl) ?_
    refine wl_assign rfl rfl ?_
    refine WL.nil ?_
    refine fun a ha => hK9 _ _ ?_ a ha
    refine W.seq fun K10 hK10 => ?_
    refine W.regionH mixed_ B0_0 hB hS ?_
    intro w11 hb12 hB13 hS14
    have hSW15 := KeepX.refl w11 B0_0
    refine WH.takex (i := 0) rfl (by kernel_rfl) (by kernel_rfl) (by kernel_rfl) hP hSW15 ?_
    refine pr_move rfl rfl ?_
    refine WH.takex (i := 1) rfl (by kernel_rfl) (by kernel_rfl) (by kernel_rfl) hP hSW15 ?_
    refine pr_move rfl rfl ?_
    obtain ⟨u16, hu16, hF⟩ := bindE hF
    refine WH.takex (i := 2) rfl (by kernel_rfl) (by kernel_rfl) (by kernel_rfl) hP hSW15 ?_
    refine pr_sliceof (e := ty_69) Try.underlying29 rfl rfl (hS14.ok (i := 1) rfl : ownS ty_69 _ _ _ _).rd hu16 (.inl ⟨rfl, rfl⟩) (.inr ⟨_, _, rfl, rfl⟩) ?_
    intro v17 hv20 hs19
    have hv18 := hv20.mono fun b hb => ((hS14.get (i := 1) rfl).2.1 b hb).2
    refine WH.takex (i := 3) rfl (by kernel_rfl) (by kernel_rfl) (by kernel_rfl) hP hSW15 ?_
    refine pr_move rfl rfl ?_
    refine WH.takex (i := 4) rfl (by kernel_rfl) (by kernel_rfl) (by kernel_rfl) hP hSW15 ?_
    refine pr_move rfl rfl ?_
    obtain ⟨u21, hu21, hF⟩ := bindE hF
    refine WH.takex (i := 5) rfl (by kernel_rfl) (by kernel_rfl) (by kernel_rfl) hP hSW15 ?_
    refine pr_sliceof (e := ty_69) Try.underlying29 rfl rfl (hS14.ok (i := 1) rfl : ownS ty_69 _ _ _ _).rd hu21 (.inr ⟨_, _, rfl, rfl⟩) (.inl ⟨rfl, rfl⟩) ?_
    intro v22 hv25 hs24
    have hv23 := hv25.mono fun b hb => ((hS14.get (i := 1) rfl).2.1 b hb).2
    refine WH.one (i := 6) (by kernel_rfl) rfl ?_
    obtain ⟨u26, hu26, hF⟩ := bindE hF
    obtain ⟨hc27, hc28, hc29, hc30⟩ := cutL_some hu26
    refine wl_appendcut (e := ty_69) Try.underlying29 rfl rfl rfl hB13 (hS14.sel [1, 0] rfl) hs19 hs24 hc28 hc29 ?_
    intro v31 F32 w33 hk34 hcap35 hB36 hS37
    have hS38 : Sep (wE w0).heap.size w33 [R.own ty_69 F32 v31 u26, R.rest w0 (fps [R.own ty_69 B0_0 v0_0 x0])] := by rw [hc27]; exact hS37
    have hSW39 := hSW15.wr' hk34.1 hk34.2.1 (fun _ _ h => h)
    refine WL.nil (WH.ret hSW39 ?_)
    refine WH.takex (i := 7) rfl (by kernel_rfl) (by kernel_rfl) (by kernel_rfl) hP hSW39 ?_
    refine pr_assign rfl rfl ?_
    refine WH.done (by kernel_rfl) ?_
    refine fun a ha => hK10 _ _ ?_ a ha
    refine W.seq fun K40 hK40 => ?_
    refine W.region ?_
    refine wl_move rfl rfl ?_
    refine wl_move rfl rfl ?_
    refine wl_lenr (e := ty_69) (l := u26) Try.underlying29 rfl rfl (hS38.own_ro (i := 0) rfl) ?_
    refine wl_move rfl rfl ?_
    refine wl_slicetail (e := ty_69) Try.underlying29 rfl rfl (hS38.own_ro (i := 0) rfl) rfl rfl (Int.natCast_nonneg _) (Int.ofNat_le.2 hc30) hcap35 ?_
    intro v41 hs42
    refine wl_clear (e := ty_69) Try.underlying29 rfl hB36 (hS38.sel [0, 1] rfl) hs42 hc30 hcap35 ?_
    intro w43 hk44 hB45 hS46
    refine WL.nil ?_
    refine fun a ha => hK40 _ _ ?_ a ha
    refine W.seq fun K47 hK47 => ?_
    refine W.region ?_
    refine wl_move rfl rfl ?_
    refine wl_assign rfl rfl ?_
    refine WL.nil ?_
    refine fun a ha => hK47 _ _ ?_ a ha
    refine W.ret ?_
    have hr := Option.some.inj hF
    subst hr
    exact rets (vs := [v31]) hQ rfl ⟨rv_tmp rfl, trivial⟩ ⟨v31, F32, rfl, hB45, hS46.sel [1, 0] rfl⟩
theorem C_slices_Delete_int_int__take (w0 : World) (x0 : (List Int)) (v0_0 : Value) (B0_0 : List Nat) (x1 : Int) (x2 : Int) (hS0 : Sep 0 w0 [R.own ty_3 B0_0 v0_0 x0]) (r : (List Int)) (hF : F_slices_Delete_int_int__take x0 x1 x2 = some r) :
    Calls Try.prog 114 [v0_0, (.int .i64 x1), (.int .i64 x2)].toArray w0 fun e w' => ∃ (q0 : Value) (G0 : List Nat), e = .returned q0 ∧ Below 0 (wE w0) w' ∧ Sep 0 w' [R.rest w0 (fps [R.own ty_3 B0_0 v0_0 x0]), R.own ty_3 G0 q0 r] := by
  refine calls_mk' Try.func114 rfl Try.ntmps114 rfl rfl fun Q hQ hP => ?_
  have hB : Below (wE w0).heap.size (wE w0) w0 := wE_below w0
  have hS : Sep (wE w0).heap.size w0 [R.rest w0 (fps [R.own ty_3 B0_0 v0_0 x0]), R.own ty_3 B0_0 v0_0 x0] := hS0.rest
  unfold F_slices_Delete_int_int__take at hF
  refine W.seq fun K1 hK1 => ?_
  refine W.region ?_
  refine wl_assign rfl rfl ?_
  refine WL.nil ?_
  refine fun a ha => hK1 _ _ ?_ a ha
  refine W.seq fun K2 hK2 => ?_
  refine W.region ?_
  refine wl_move rfl rfl ?_
  refine wl_move rfl rfl ?_
  refine wl_move rfl rfl ?_
  refine wl_move rfl rfl ?_
  refine wl_lenr (e := ty_3) (l := x0) Try.underlying23 rfl rfl (hS.own_ro (i := 1) rfl) ?_
  obtain ⟨u3, hu3, hF⟩ := bindE hF
  refine wl_slice3 (e := ty_3) Try.underlying23 rfl rfl (hS.own_ro (i := 1) rfl) rfl rfl rfl hu3 ?_
  intro v4
  refine WL.nil ?_
  refine fun a ha => hK2 _ _ ?_ a ha
  refine W.seq fun K5 hK5 => ?_
  refine W.seq fun K6 hK6 => ?_
  refine W.region ?_
  refine wl_move rfl rfl ?_
  refine wl_move rfl rfl ?_
  refine wl_eql rfl rfl rfl ?_
  refine WL.nil ?_
  refine fun a ha => hK6 _ _ ?_ a ha
  refine W.cond rfl (fun h7 => ?_) (fun h7 => ?_)
  · replace hF := ifP h7 hF
    refine W.seq fun K8 hK8 => ?_
    refine W.region ?_
    refine wl_move rfl rfl ?_
    refine wl_assign rfl rfl ?_
    refine WL.nil ?_
    refine fun a ha => hK8 _ _ ?_ a ha
    refine W.ret ?_
    have hr := Option.some.inj hF
    subst hr
    exact rets (vs := [v0_0]) hQ rfl ⟨rv_tmp rfl, trivial⟩ ⟨v0_0, B0_0, rfl, hB, hS.sel [0, 1] rfl⟩
  · replace hF := ifN h7 hF
    refine W.skip ?_
    refine fun a ha => hK5 _ _ ?_ a ha
    refine W.seq fun K9 hK9 => ?_
    refine W.region ?_
    refine wl_move rfl rfl ?_
    refine wl_lenr (e := ty_3) (l := x0) Try.underlying23 rfl rfl (hS.own_ro (i := 1) rfl) ?_
    refine wl_assign rfl rfl ?_
    refine WL.nil ?_
    refine fun a ha => hK9 _ _ ?_ a ha
    refine W.seq fun K10 hK10 => ?_
    refine W.regionH mixed_ B0_0 hB hS ?_
    intro w11 hb12 hB13 hS14
    have hSW15 := KeepX.refl w11 B0_0
    refine WH.takex (i := 0) rfl (by kernel_rfl) (by kernel_rfl) (by kernel_rfl) hP hSW15 ?_
    refine pr_move rfl rfl ?_
    refine WH.takex (i := 1) rfl (by kernel_rfl) (by kernel_rfl) (by kernel_rfl) hP hSW15 ?_
    refine pr_move rfl rfl ?_
    obtain ⟨u16, hu16, hF⟩ := bindE hF
    refine WH.takex (i := 2) rfl (by kernel_rfl) (by kernel_rfl) (by kernel_rfl) hP hSW15 ?_
    refine pr_sliceof (e := ty_3) Try.underlying23 rfl rfl (hS14.ok (i := 1) rfl : ownS ty_3 _ _ _ _).rd hu16 (.inl ⟨rfl, rfl⟩) (.inr ⟨_, _, rfl, rfl⟩) ?_
    intro v17 hv20 hs19
    have hv18 := hv20.mono fun b hb => ((hS14.get (i := 1) rfl).2.1 b hb).2
    refine WH.takex (i := 3) rfl (by kernel_rfl) (by kernel_rfl) (by kernel_rfl) hP hSW15 ?_
    refine pr_move rfl rfl ?_
    refine WH.takex (i := 4) rfl (by kernel_rfl) (by kernel_rfl) (by kernel_rfl) hP hSW15 ?_
    refine pr_move rfl rfl ?_
    obtain ⟨u21, hu21, hF⟩ := bindE hF
    refine WH.takex (i := 5) rfl (by kernel_rfl) (by kernel_rfl) (by kernel_rfl) hP hSW15 ?_
    refine pr_sliceof (e := ty_3) Try.underlying23 rfl rfl (hS14.ok (i := 1) rfl : ownS ty_3 _ _ _ _).rd hu21 (.inr ⟨_, _, rfl, rfl⟩) (.inl ⟨rfl, rfl⟩) ?_
    intro v22 hv25 hs24
    have hv23 := hv25.mono fun b hb => ((hS14.get (i := 1) rfl).2.1 b hb).2
    refine WH.one (i := 6) (by kernel_rfl) rfl ?_
    obtain ⟨u26, hu26, hF⟩ := bindE hF
    obtain ⟨hc27, hc28, hc29, hc30⟩ := cutL_some hu26
    refine wl_appendcut (e := ty_3) Try.underlying23 rfl rfl rfl hB13 (hS14.sel [1, 0] rfl) hs19 hs24 hc28 hc29 ?_
    intro v31 F32 w33 hk34 hcap35 hB36 hS37
    have hS38 : Sep (wE w0).heap.size w33 [R.own ty_3 F32 v31 u26, R.rest w0 (fps [R.own ty_3 B0_0 v0_0 x0])] := by rw [hc27]; exact hS37
    have hSW39 := hSW15.wr' hk34.1 hk34.2.1 (fun _ _ h => h)
    refine WL.nil (WH.ret hSW39 ?_)
    refine WH.takex (i := 7) rfl (by kernel_rfl) (by kernel_rfl) (by kernel_rfl) hP hSW39 ?_
    refine pr_assign rfl rfl ?_
    refine WH.done (by kernel_rfl) ?_
    refine fun a ha => hK10 _ _ ?_ a ha
    refine W.seq fun K40 hK40 => ?_
    refine W.region ?_
    refine wl_move rfl rfl ?_
    refine wl_move rfl rfl ?_
    refine wl_lenr (e := ty_3) (l := u26) Try.underlying23 rfl rfl (hS38.own_ro (i := 0) rfl) ?_
    refine wl_move rfl rfl ?_
    refine wl_slicetail (e := ty_3) Try.underlying23 rfl rfl (hS38.own_ro (i := 0) rfl) rfl rfl (Int.natCast_nonneg _) (Int.ofNat_le.2 hc30) hcap35 ?_
    intro v41 hs42
    refine wl_clear (e := ty_3) Try.underlying23 rfl hB36 (hS38.sel [0, 1] rfl) hs42 hc30 hcap35 ?_
    intro w43 hk44 hB45 hS46
    refine WL.nil ?_
    refine fun a ha => hK40 _ _ ?_ a ha
    refine W.seq fun K47 hK47 => ?_
    refine W.region ?_
    refine wl_move rfl rfl ?_
    refine wl_assign rfl rfl ?_
    refine WL.nil ?_
    refine fun a ha => hK47 _ _ ?_ a ha
    refine W.ret ?_
    have hr := Option.some.inj hF
    subst hr
    exact rets (vs := [v31]) hQ rfl ⟨rv_tmp rfl, trivial⟩ ⟨v31, F32, rfl, hB45, hS46.sel [1, 0] rfl⟩
theorem C_impl_DropShowChart (w0 : World) (x0 : ((List (List (Int × Int))) × (List Int) × Int × Int)) (v0_0 : Value) (h0_0 : rdS ty_69 (· < w0.heap.size) w0 v0_0 x0.1) (v0_1 : Value) (h0_1 : rdS ty_3 (· < w0.heap.size) w0 v0_1 x0.2.1) (x1 : Int) (r : (((List (List (Int × Int))) × (List Int) × Int × Int) × Bool)) (hF : F_impl_DropShowChart x0 x1 = some r) :
    Calls Try.prog 64 [(.agg #[v0_0, v0_1, (.int .i64 x0.2.2.1), (.int .i64 x0.2.2.2)]), (.int .i64 x1)].toArray w0 fun e w' => ∃ (q0 : Value) (G0 : List Nat) (q1 : Value) (G1 : List Nat), e = .returned (.tuple #[(.agg #[q0, q1, (.int .i64 r.1.2.2.1), (.int .i64 r.1.2.2.2)]), (.bool r.2)]) ∧ Below w0.heap.size w0 w' ∧ Sep w0.heap.size w' [R.own ty_69 G0 q0 r.1.1, R.own ty_3 G1 q1 r.1.2.1] := by
  refine calls_mk' Try.func64 rfl Try.ntmps64 rfl rfl fun Q hQ hP => ?_
  have hB : Below w0.heap.size w0 w0 := Below.refl _ _
  have hS : Sep w0.heap.size w0 [] := Sep.nil _ _
  unfold F_impl_DropShowChart at hF
  refine W.seq fun K1 hK1 => ?_
  refine W.region ?_
  refine wl_box (cs := [v0_0, v0_1, (.int .i64 x0.2.2.1), (.int .i64 x0.2.2.2)]) rfl rfl rfl hB hS ?_
  intro b2 w3 hb4 hB5 hS6
  refine wl_alloc (cs := [(.slice none 0 0), (.slice none 0 0), (.int .i64 0), (.int .i64 0)]) tf_31 rfl rfl hB5 hS6 ?_
  intro b7 w8 hb9 hB10 hS11
  refine wl_assign rfl rfl ?_
  refine WL.nil ?_
  refine fun a ha => hK1 _ _ ?_ a ha
  refine W.seq fun K12 hK12 => ?_
  refine W.seq fun K13 hK13 => ?_
  obtain ⟨k18, hk18, hF⟩ := jE1 hF
  have hJ19 : ∀ (y17 : Bool) (w14 : World) (_ : k18 y17 = some r) (_ : Below w0.heap.size w0 w14) (_ : Sep w0.heap.size w14 [R.blk b2 31 [v0_0, v0_1, (.int .i64 x0.2.2.1), (.int .i64 x0.2.2.2)], R.blk b7 31 [(.slice none 0 0), (.slice none 0 0), (.int .i64 0), (.int .i64 0)]]), ∀ a, St 76 [(1, (.int .i64 x1)), (2, (.pointer (some ⟨b2, 0, none⟩))), (4, (.pointer (some ⟨b7, 0, none⟩))), (19, (.bool y17))] a → K13 a w14 := by
    intro y17 w14 hF hB15 hS16
    subst hk18
    refine fun a ha => hK13 _ _ ?_ a ha
    refine W.cond rfl (fun h20 => ?_) (fun h20 => ?_)
    · replace hF := ifP h20 hF
      refine W.seq fun K21 hK21 => ?_
      refine W.region ?_
      refine wl_build (zs := [(.slice none 0 0), (.slice none 0 0), (.int .i64 0), (.int .i64 0)]) (out := [(.slice none 0 0), (.slice none 0 0), (.int .i64 0), (.int .i64 0)]) (vs := []) (css := []) tf_31 pl_31 rfl rfl rfl rfl rfl ?_
      refine wl_store_blk (i := 1) (vs := [(.slice none 0 0), (.slice none 0 0), (.int .i64 0), (.int .i64 0)]) (cs' := [(.slice none 0 0), (.slice none 0 0), (.int .i64 0), (.int .i64 0)]) tf_31 rfl rfl rfl rfl hB15 hS16 rfl rfl ⟨rfl, rfl, rfl, rfl, trivial⟩ rfl ?_
      intro w22 hk25 hB23 hS24
      refine wl_assign rfl rfl ?_
      refine WL.nil ?_
      refine fun a ha => hK21 _ _ ?_ a ha
      refine W.ret ?_
      have hS26 := hS24.push0 (r := R.own ty_69 [] (.slice none 0 0) []) rfl fun _ => .inl ⟨rfl, rfl, rfl⟩
      have hS27 := hS26.push0 (r := R.own ty_3 [] (.slice none 0 0) []) rfl fun _ => .inl ⟨rfl, rfl, rfl⟩
      have hr := Option.some.inj hF
      subst hr
      exact rets (vs := [(.agg #[(.slice none 0 0), (.slice none 0 0), (.int .i64 0), (.int .i64 0)]), (.bool false)]) hQ rfl ⟨rv_cell (i := 1) tf_31 rfl hS24 rfl rfl rfl, rv_tmp rfl, trivial⟩ ⟨(.slice none 0 0), [], (.slice none 0 0), [], rfl, hB23, hS27.sel [1, 0] rfl⟩
    · replace hF := ifN h20 hF
      refine W.skip ?_
      refine fun a ha => hK12 _ _ ?_ a ha
      refine W.seq fun K28 hK28 => ?_
      refine W.region ?_
      refine wl_load_blk (i := 0) (vs := [v0_0, v0_1, (.int .i64 x0.2.2.1), (.int .i64 x0.2.2.2)]) (v := (.agg #[v0_0, v0_1, (.int .i64 x0.2.2.1), (.int .i64 x0.2.2.2)])) tf_31 rfl rfl hS16 rfl rfl rfl ?_
      obtain ⟨u29, hu29, hF⟩ := bindE hF
      refine wl_call rfl Try.call96 (C_impl_copyShow w14 x0 v0_0 (h0_0.ro hB15) v0_1 (h0_1.ro hB15) _ hu29) rfl ?_
      rintro _ w34 ⟨v30, F31, v32, F33, rfl, hb35, hM38⟩
      refine ⟨_, rfl, ?_⟩
      have hB36 := hB15.trans (hb35.mono hB15.size)
      have hS37 := hS16.join hb35 hM38 hB15.size
      refine wl_alloc (cs := [(.slice none 0 0), (.slice none 0 0), (.int .i64 0), (.int .i64 0)]) tf_31 rfl rfl hB36 hS37 ?_
      intro b39 w40 hb41 hB42 hS43
      refine wl_store_blk (i := 0) (vs := [v30, v32, (.int .i64 u29.2.2.1), (.int .i64 u29.2.2.2)]) (cs' := [v30, v32, (.int .i64 u29.2.2.1), (.int .i64 u29.2.2.2)]) tf_31 rfl rfl rfl rfl hB42 hS43 rfl rfl ⟨(hS43.own_ro (i := 1) rfl).one, (hS43.own_ro (i := 2) rfl).one, rfl, rfl, trivial⟩ rfl ?_
      intro w44 hk47 hB45 hS46
      refine WL.nil ?_
      refine fun a ha => hK28 _ _ ?_ a ha
      refine W.seq fun K48 hK48 => ?_
      refine W.region ?_
      refine wl_field (o := 1) (off' := 1) ff_31_1 rfl rfl rfl ?_
      refine wl_load_blk (i := 0) (vs := [v32]) (v := v32) tf_23 rfl rfl hS46 rfl rfl rfl ?_
      refine wl_lenr (e := ty_3) (l := u29.2.1) Try.underlying23 rfl rfl (hS46.own_ro (i := 2) rfl) ?_
      refine wl_sub rfl rfl rfl ?_
      refine wl_assign rfl rfl ?_
      refine WL.nil ?_
      refine fun a ha => hK48 _ _ ?_ a ha
      refine W.seq fun K49 hK49 => ?_
      refine W.region ?_
      refine wl_field (o := 0) (off' := 0) ff_31_0 rfl rfl rfl ?_
      refine wl_load_blk (i := 0) (vs := [v30]) (v := v30) tf_29 rfl rfl hS46 rfl rfl rfl ?_
      refine wl_move rfl rfl ?_
      refine wl_move rfl rfl ?_
      refine wl_add rfl rfl rfl ?_
      obtain ⟨u50, hu50, hF⟩ := bindE hF
      refine wl_call rfl Try.call113 (C_slices_Delete_impl_Spot_impl_Spot__take w44 u29.1 v30 F31 x1 (w64 (x1 + 1)) (hS46.sel [1] rfl).base0 _ hu50) rfl ?_
      rintro _ w51 ⟨v56, F57, rfl, hE52, hM53⟩
      refine ⟨_, rfl, ?_⟩
      have hB54 := hS46.takeB [1] rfl (M := [R.own ty_69 F31 v30 u29.1]) rfl hB45 hE52 hM53
      have hS55 : Sep w0.heap.size w51 [R.own ty_69 F57 v56 u50, R.blk b39 31 [v30, v32, (.int .i64 u29.2.2.1), (.int .i64 u29.2.2.2)], R.own ty_3 F33 v32 u29.2.1, R.blk b2 31 [v0_0, v0_1, (.int .i64 x0.2.2.1), (.int .i64 x0.2.2.2)], R.blk b7 31 [(.slice none 0 0), (.slice none 0 0), (.int .i64 0), (.int .i64 0)]] := hS46.take [1] [0, 2, 3, 4] rfl (M := [R.own ty_69 F31 v30 u29.1]) rfl hM53 hB45.size
      refine wl_field (o := 0) (off' := 0) ff_31_0 rfl rfl rfl ?_
      refine wl_store_blk (i := 1) (vs := [v56]) (cs' := [v56, v32, (.int .i64 u29.2.2.1), (.int .i64 u29.2.2.2)]) tf_29 rfl rfl (cells_one (hS55.own_ro (i := 0) rfl).one) rfl hB54 hS55 rfl rfl ⟨(hS55.own_ro (i := 0) rfl).one, trivial⟩ rfl ?_
      intro w58 hk61 hB59 hS60
      refine WL.nil ?_
      refine fun a ha => hK49 _ _ ?_ a ha
      refine W.seq fun K62 hK62 => ?_
      obtain ⟨k69, hk69, hF⟩ := jE1 hF
      have hJ70 : ∀ (l66 : (List Int)) (v67 : Value) (F68 : List Nat) (w63 : World) (_ : k69 l66 = some r) (_ : Below w0.heap.size w0 w63) (_ : Sep w0.heap.size w63 [R.blk b7 31 [(.slice none 0 0), (.slice none 0 0), (.int .i64 0), (.int .i64 0)], R.own ty_69 F57 v56 u50, R.own ty_3 F68 v67 l66, R.blk b39 31 [v56, v67, (.int .i64 u29.2.2.1), (.int .i64 u29.2.2.2)]]), ∀ a, St 76 [(4, (.pointer (some ⟨b7, 0, none⟩))), (6, (.pointer (some ⟨b39, 0, none⟩)))] a → K62 a w63 := by
        intro l66 v67 F68 w63 hF hB64 hS65
        subst hk69
        refine fun a ha => hK62 _ _ ?_ a ha
        refine W.seq fun K71 hK71 => ?_
        refine W.region ?_
        refine wl_load_blk (i := 3) (vs := [v56, v67, (.int .i64 u29.2.2.1), (.int .i64 u29.2.2.2)]) (v := (.agg #[v56, v67, (.int .i64 u29.2.2.1), (.int .i64 u29.2.2.2)])) tf_31 rfl rfl hS65 rfl rfl rfl ?_
        obtain ⟨u72, hu72, hF⟩ := bindE hF
        refine wl_call rfl Try.call103 (C_impl_asShow__take w63 (u50, l66, u29.2.2.1, u29.2.2.2) v56 F57 v67 F68 (hS65.sel [1, 2] rfl).base0 _ hu72) rfl ?_
        rintro _ w73 ⟨v78, F79, v80, F81, rfl, hE74, hM75⟩
        refine ⟨_, rfl, ?_⟩
        have hB76 := hS65.takeB [1, 2] rfl (M := [R.own ty_69 F57 v56 u50, R.own ty_3 F68 v67 l66]) rfl hB64 hE74 hM75
        have hS77 : Sep w0.heap.size w73 [R.own ty_69 F79 v78 u72.1.1, R.own ty_3 F81 v80 u72.1.2.1, R.blk b7 31 [(.slice none 0 0), (.slice none 0 0), (.int .i64 0), (.int .i64 0)], R.blk b39 31 [v56, v67, (.int .i64 u29.2.2.1), (.int .i64 u29.2.2.2)]] := hS65.take [1, 2] [0, 3] rfl (M := [R.own ty_69 F57 v56 u50, R.own ty_3 F68 v67 l66]) rfl hM75 hB64.size
        refine wl_extract rfl rfl rfl ?_
        refine wl_extract rfl rfl rfl ?_
        refine wl_store_blk (i := 2) (vs := [v78, v80, (.int .i64 u72.1.2.2.1), (.int .i64 u72.1.2.2.2)]) (cs' := [v78, v80, (.int .i64 u72.1.2.2.1), (.int .i64 u72.1.2.2.2)]) tf_31 rfl rfl rfl rfl hB76 hS77 rfl rfl ⟨(hS77.own_ro (i := 0) rfl).one, (hS77.own_ro (i := 1) rfl).one, rfl, rfl, trivial⟩ rfl ?_
        intro w82 hk85 hB83 hS84
        refine wl_assign rfl rfl ?_
        refine WL.nil ?_
        refine fun a ha => hK71 _ _ ?_ a ha
        refine W.ret ?_
        have hr := Option.some.inj hF
        subst hr
        exact rets (vs := [(.agg #[v78, v80, (.int .i64 u72.1.2.2.1), (.int .i64 u72.1.2.2.2)]), (.bool u72.2)]) hQ rfl ⟨rv_cell (i := 2) tf_31 rfl hS84 rfl rfl rfl, rv_tmp rfl, trivial⟩ ⟨v78, F79, v80, F81, rfl, hB83, hS84.sel [0, 1] rfl⟩
      refine W.block ?_
      refine W.seq fun K86 hK86 => ?_
      refine W.region ?_
      refine wl_move rfl rfl ?_
      refine wl_eql rfl rfl rfl ?_
      refine wl_assign rfl rfl ?_
      refine WL.nil ?_
      refine fun a ha => hK86 _ _ ?_ a ha
      refine W.cond rfl (fun h87 => ?_) (fun h87 => ?_)
      · replace hF := ifP h87 hF
        refine W.region ?_
        refine wl_field (o := 1) (off' := 1) ff_31_1 rfl rfl rfl ?_
        refine wl_load_blk (i := 1) (vs := [v32]) (v := v32) tf_23 rfl rfl hS60 rfl rfl rfl ?_
        obtain ⟨u88, hu88, hF⟩ := bindE hF
        refine wl_call rfl Try.call114 (C_slices_Delete_int_int__take w58 u29.2.1 v32 F33 0 1 (hS60.sel [2] rfl).base0 _ hu88) rfl ?_
        rintro _ w89 ⟨v94, F95, rfl, hE90, hM91⟩
        refine ⟨_, rfl, ?_⟩
        have hB92 := hS60.takeB [2] rfl (M := [R.own ty_3 F33 v32 u29.2.1]) rfl hB59 hE90 hM91
        have hS93 : Sep w0.heap.size w89 [R.own ty_3 F95 v94 u88, R.own ty_69 F57 v56 u50, R.blk b39 31 [v56, v32, (.int .i64 u29.2.2.1), (.int .i64 u29.2.2.2)], R.blk b2 31 [v0_0, v0_1, (.int .i64 x0.2.2.1), (.int .i64 x0.2.2.2)], R.blk b7 31 [(.slice none 0 0), (.slice none 0 0), (.int .i64 0), (.int .i64 0)]] := hS60.take [2] [0, 1, 3, 4] rfl (M := [R.own ty_3 F33 v32 u29.2.1]) rfl hM91 hB59.size
        refine wl_field (o := 1) (off' := 1) ff_31_1 rfl rfl rfl ?_
        refine wl_store_blk (i := 2) (vs := [v94]) (cs' := [v56, v94, (.int .i64 u29.2.2.1), (.int .i64 u29.2.2.2)]) tf_23 rfl rfl (cells_one (hS93.own_ro (i := 0) rfl).one) rfl hB92 hS93 rfl rfl ⟨(hS93.own_ro (i := 0) rfl).one, trivial⟩ rfl ?_
        intro w96 hk99 hB97 hS98
        refine WL.nil ?_
        exact fun a ha => hJ70 (u88) (v94) (F95) _ hF hB97 (hS98.sel [4, 1, 0, 2] rfl) a (ha.sub ⟨rfl, rfl, trivial⟩)
      · replace hF := ifN h87 hF
        refine W.seq fun K100 hK100 => ?_
        refine W.region ?_
        refine wl_move rfl rfl ?_
        refine wl_move rfl rfl ?_
        refine wl_gtr rfl rfl rfl ?_
        refine wl_assign rfl rfl ?_
        refine WL.nil ?_
        refine fun a ha => hK100 _ _ ?_ a ha
        refine W.cond rfl (fun h101 => ?_) (fun h101 => ?_)
        · replace hF := ifP h101 hF
          refine W.region ?_
          refine wl_field (o := 1) (off' := 1) ff_31_1 rfl rfl rfl ?_
          refine wl_load_blk (i := 1) (vs := [v32]) (v := v32) tf_23 rfl rfl hS60 rfl rfl rfl ?_
          refine wl_move rfl rfl ?_
          refine wl_move rfl rfl ?_
          refine wl_add rfl rfl rfl ?_
          obtain ⟨u102, hu102, hF⟩ := bindE hF
          refine wl_call rfl Try.call114 (C_slices_Delete_int_int__take w58 u29.2.1 v32 F33 (w64 ((List.length u29.2.1 : Int) - 1)) (w64 ((w64 ((List.length u29.2.1 : Int) - 1)) + 1)) (hS60.sel [2] rfl).base0 _ hu102) rfl ?_
          rintro _ w103 ⟨v108, F109, rfl, hE104, hM105⟩
          refine ⟨_, rfl, ?_⟩
          have hB106 := hS60.takeB [2] rfl (M := [R.own ty_3 F33 v32 u29.2.1]) rfl hB59 hE104 hM105
          have hS107 : Sep w0.heap.size w103 [R.own ty_3 F109 v108 u102, R.own ty_69 F57 v56 u50, R.blk b39 31 [v56, v32, (.int .i64 u29.2.2.1), (.int .i64 u29.2.2.2)], R.blk b2 31 [v0_0, v0_1, (.int .i64 x0.2.2.1), (.int .i64 x0.2.2.2)], R.blk b7 31 [(.slice none 0 0), (.slice none 0 0), (.int .i64 0), (.int .i64 0)]] := hS60.take [2] [0, 1, 3, 4] rfl (M := [R.own ty_3 F33 v32 u29.2.1]) rfl hM105 hB59.size
          refine wl_field (o := 1) (off' := 1) ff_31_1 rfl rfl rfl ?_
          refine wl_store_blk (i := 2) (vs := [v108]) (cs' := [v56, v108, (.int .i64 u29.2.2.1), (.int .i64 u29.2.2.2)]) tf_23 rfl rfl (cells_one (hS107.own_ro (i := 0) rfl).one) rfl hB106 hS107 rfl rfl ⟨(hS107.own_ro (i := 0) rfl).one, trivial⟩ rfl ?_
          intro w110 hk113 hB111 hS112
          refine WL.nil ?_
          exact fun a ha => hJ70 (u102) (v108) (F109) _ hF hB111 (hS112.sel [4, 1, 0, 2] rfl) a (ha.sub ⟨rfl, rfl, trivial⟩)
        · replace hF := ifN h101 hF
          refine W.seq fun K114 hK114 => ?_
          obtain ⟨k121, hk121, hF⟩ := jE1 hF
          have hJ122 : ∀ (l118 : (List Int)) (v119 : Value) (F120 : List Nat) (w115 : World) (_ : k121 l118 = some r) (_ : Below w0.heap.size w0 w115) (_ : Sep w0.heap.size w115 [R.blk b7 31 [(.slice none 0 0), (.slice none 0 0), (.int .i64 0), (.int .i64 0)], R.own ty_69 F57 v56 u50, R.own ty_3 F120 v119 l118, R.blk b39 31 [v56, v119, (.int .i64 u29.2.2.1), (.int .i64 u29.2.2.2)]]), ∀ a, St 76 [(1, (.int .i64 x1)), (4, (.pointer (some ⟨b7, 0, none⟩))), (6, (.pointer (some ⟨b39, 0, none⟩)))] a → K114 a w115 := by
            intro l118 v119 F120 w115 hF hB116 hS117
            subst hk121
            refine fun a ha => hK114 _ _ ?_ a ha
            refine W.region ?_
            refine wl_field (o := 1) (off' := 1) ff_31_1 rfl rfl rfl ?_
            refine wl_load_blk (i := 3) (vs := [v119]) (v := v119) tf_23 rfl rfl hS117 rfl rfl rfl ?_
            refine wl_move rfl rfl ?_
            refine wl_move rfl rfl ?_
            refine wl_add rfl rfl rfl ?_
            obtain ⟨u123, hu123, hF⟩ := bindE hF
            refine wl_call rfl Try.call114 (C_slices_Delete_int_int__take w115 l118 v119 F120 x1 (w64 (x1 + 1)) (hS117.sel [2] rfl).base0 _ hu123) rfl ?_
            rintro _ w124 ⟨v129, F130, rfl, hE125, hM126⟩
            refine ⟨_, rfl, ?_⟩
            have hB127 := hS117.takeB [2] rfl (M := [R.own ty_3 F120 v119 l118]) rfl hB116 hE125 hM126
            have hS128 : Sep w0.heap.size w124 [R.own ty_3 F130 v129 u123, R.blk b7 31 [(.slice none 0 0), (.slice none 0 0), (.int .i64 0), (.int .i64 0)], R.own ty_69 F57 v56 u50, R.blk b39 31 [v56, v119, (.int .i64 u29.2.2.1), (.int .i64 u29.2.2.2)]] := hS117.take [2] [0, 1, 3] rfl (M := [R.own ty_3 F120 v119 l118]) rfl hM126 hB116.size
            refine wl_field (o := 1) (off' := 1) ff_31_1 rfl rfl rfl ?_
            refine wl_store_blk (i := 3) (vs := [v129]) (cs' := [v56, v129, (.int .i64 u29.2.2.1), (.int .i64 u29.2.2.2)]) tf_23 rfl rfl (cells_one (hS128.own_ro (i := 0) rfl).one) rfl hB127 hS128 rfl rfl ⟨(hS128.own_ro (i := 0) rfl).one, trivial⟩ rfl ?_
            intro w131 hk134 hB132 hS133
            refine WL.nil ?_
            exact fun a ha => hJ70 (u123) (v129) (F130) _ hF hB132 (hS133.sel [1, 2, 0, 3] rfl) a (ha.sub ⟨rfl, rfl, trivial⟩)
          refine W.regionH mixed_ ([b39] ++ F33) hB59 hS60 ?_
          intro w135 hb136 hB137 hS138
          have hSW139 := KeepX.refl w135 ([b39] ++ F33)
          refine WH.takex (i := 0) rfl (by kernel_rfl) (by kernel_rfl) (by kernel_rfl) hP hSW139 ?_
          refine pr_field (o := 1) (off' := 1) ff_31_1 rfl rfl rfl ?_
          refine WH.takex (i := 2) rfl (by kernel_rfl) (by kernel_rfl) (by kernel_rfl) hP hSW139 ?_
          refine pr_move rfl rfl ?_
          refine WH.takex (i := 3) rfl (by kernel_rfl) (by kernel_rfl) (by kernel_rfl) hP hSW139 ?_
          refine pr_sub rfl rfl rfl ?_
          refine WH.takex (i := 6) rfl (by kernel_rfl) (by kernel_rfl) (by kernel_rfl) hP hSW139 ?_
          refine pr_field (o := 1) (off' := 1) ff_31_1 rfl rfl rfl ?_
          refine WH.takex (i := 8) rfl (by kernel_rfl) (by kernel_rfl) (by kernel_rfl) hP hSW139 ?_
          refine pr_move rfl rfl ?_
          refine WH.many (is := [1, 7]) (by kernel_rfl) rfl ?_
          refine List.forall_mem_cons.2 ⟨⟨_, rfl, ?_⟩, List.forall_mem_cons.2 ⟨⟨_, rfl, ?_⟩, fun _ h => by cases h⟩⟩
          ·
            refine wl_load_blk (i := 1) (vs := [v32]) (v := v32) tf_23 rfl rfl hS138 rfl rfl rfl ?_
            refine WL.nil (WH.ret hSW139 ?_)
            obtain ⟨u140, hu140, hF⟩ := bindE hF
            refine WH.takex (i := 4) rfl (by kernel_rfl) (by kernel_rfl) (by kernel_rfl) hP hSW139 ?_
            refine pr_indexo (e := ty_3) (i := 2) Try.underlying23 rfl rfl rfl hS138 rfl hu140 ?_
            rintro p141 _ rfl hp142 ho143
            refine WH.many (is := [5, 7]) (by kernel_rfl) rfl ?_
            refine List.forall_mem_cons.2 ⟨⟨_, rfl, ?_⟩, List.forall_mem_cons.2 ⟨⟨_, rfl, ?_⟩, fun _ h => by cases h⟩⟩
            ·
              refine wl_load_p (vs := [(.int .i64 u140)]) (v := (.int .i64 u140)) tf_3 rfl rfl hp142 rfl rfl ?_
              refine WL.nil (WH.ret hSW139 ?_)
              refine WH.one (i := 7) (by kernel_rfl) rfl ?_
              refine wl_load_blk (i := 1) (vs := [v32]) (v := v32) tf_23 rfl rfl hS138 rfl rfl rfl ?_
              refine WL.nil (WH.ret hSW139 ?_)
              obtain ⟨u144, hu144, hF⟩ := bindE hF
              refine WH.takex (i := 9) rfl (by kernel_rfl) (by kernel_rfl) (by kernel_rfl) hP hSW139 ?_
              refine pr_indexo (e := ty_3) (i := 2) Try.underlying23 rfl rfl rfl hS138 rfl hu144 ?_
              rintro p145 _ rfl hp146 ho147
              refine WH.one (i := 10) (by kernel_rfl) rfl ?_
              refine wl_load_p (vs := [(.int .i64 u144)]) (v := (.int .i64 u144)) tf_3 rfl rfl hp146 rfl rfl ?_
              refine WL.nil (WH.ret hSW139 ?_)
              refine WH.takex (i := 11) rfl (by kernel_rfl) (by kernel_rfl) (by kernel_rfl) hP hSW139 ?_
              refine pr_add rfl rfl rfl ?_
              obtain ⟨u148, hu148, hF⟩ := bindE hF
              refine WH.takex (i := 12) rfl (by kernel_rfl) (by kernel_rfl) (by kernel_rfl) hP hSW139 ?_
              refine pr_indexo (e := ty_3) (i := 2) Try.underlying23 rfl rfl rfl hS138 rfl hu148 ?_
              rintro p149 _ rfl hp150 ho151
              refine WH.one (i := 13) (by kernel_rfl) rfl ?_
              refine wl_storeo (i := 2) (o := 0) (vs := [(.int .i64 (w64 (u140 + u144)))]) (u' := (w64 (u140 + u144))) fl_3 tf_3 rfl rfl rfl rfl ho151 hu148 hB137 hS138 rfl rfl ⟨rfl, trivial⟩ rfl ?_
              intro w152 hk155 hB153 hS154
              have hSW156 := hSW139.wr' hk155.1 hk155.2.1 (fun _ _ h => List.mem_append_right _ h)
              refine WL.nil (WH.ret hSW156 ?_)
              refine WH.done (by kernel_rfl) ?_
              exact fun a ha => hJ122 ((seti u29.2.1 (w64 (x1 - 1)) (w64 (u140 + u144)))) (v32) (F33) _ hF hB153 (hS154.sel [4, 0, 2, 1] rfl) a (ha.sub ⟨rfl, rfl, rfl, trivial⟩)
            ·
              refine wl_load_blk (i := 1) (vs := [v32]) (v := v32) tf_23 rfl rfl hS138 rfl rfl rfl ?_
              refine WL.nil (WH.ret hSW139 ?_)
              obtain ⟨u157, hu157, hF⟩ := bindE hF
              refine WH.takex (i := 9) rfl (by kernel_rfl) (by kernel_rfl) (by kernel_rfl) hP hSW139 ?_
              refine pr_indexo (e := ty_3) (i := 2) Try.underlying23 rfl rfl rfl hS138 rfl hu157 ?_
              rintro p158 _ rfl hp159 ho160
              refine WH.many (is := [5, 10]) (by kernel_rfl) rfl ?_
              refine List.forall_mem_cons.2 ⟨⟨_, rfl, ?_⟩, List.forall_mem_cons.2 ⟨⟨_, rfl, ?_⟩, fun _ h => by cases h⟩⟩
              ·
                refine wl_load_p (vs := [(.int .i64 u140)]) (v := (.int .i64 u140)) tf_3 rfl rfl hp142 rfl rfl ?_
                refine WL.nil (WH.ret hSW139 ?_)
                refine WH.one (i := 10) (by kernel_rfl) rfl ?_
                refine wl_load_p (vs := [(.int .i64 u157)]) (v := (.int .i64 u157)) tf_3 rfl rfl hp159 rfl rfl ?_
                refine WL.nil (WH.ret hSW139 ?_)
                refine WH.takex (i := 11) rfl (by kernel_rfl) (by kernel_rfl) (by kernel_rfl) hP hSW139 ?_
                refine pr_add rfl rfl rfl ?_
                obtain ⟨u161, hu161, hF⟩ := bindE hF
                refine WH.takex (i := 12) rfl (by kernel_rfl) (by kernel_rfl) (by kernel_rfl) hP hSW139 ?_
                refine pr_indexo (e := ty_3) (i := 2) Try.underlying23 rfl rfl rfl hS138 rfl hu161 ?_
                rintro p162 _ rfl hp163 ho164
                refine WH.one (i := 13) (by kernel_rfl) rfl ?_
                refine wl_storeo (i := 2) (o := 0) (vs := [(.int .i64 (w64 (u140 + u157)))]) (u' := (w64 (u140 + u157))) fl_3 tf_3 rfl rfl rfl rfl ho164 hu161 hB137 hS138 rfl rfl ⟨rfl, trivial⟩ rfl ?_
                intro w165 hk168 hB166 hS167
                have hSW169 := hSW139.wr' hk168.1 hk168.2.1 (fun _ _ h => List.mem_append_right _ h)
                refine WL.nil (WH.ret hSW169 ?_)
                refine WH.done (by kernel_rfl) ?_
                exact fun a ha => hJ122 ((seti u29.2.1 (w64 (x1 - 1)) (w64 (u140 + u157)))) (v32) (F33) _ hF hB166 (hS167.sel [4, 0, 2, 1] rfl) a (ha.sub ⟨rfl, rfl, rfl, trivial⟩)
              ·
                refine wl_load_p (vs := [(.int .i64 u157)]) (v := (.int .i64 u157)) tf_3 rfl rfl hp159 rfl rfl ?_
                refine WL.nil (WH.ret hSW139 ?_)
                refine WH.one (i := 5) (by kernel_rfl) rfl ?_
                refine wl_load_p (vs := [(.int .i64 u140)]) (v := (.int .i64 u140)) tf_3 rfl rfl hp142 rfl rfl ?_
                refine WL.nil (WH.ret hSW139 ?_)
                refine WH.takex (i := 11) rfl (by kernel_rfl) (by kernel_rfl) (by kernel_rfl) hP hSW139 ?_
                refine pr_add rfl rfl rfl ?_
                obtain ⟨u170, hu170, hF⟩ := bindE hF
                refine WH.takex (i := 12) rfl (by kernel_rfl) (by kernel_rfl) (by kernel_rfl) hP hSW139 ?_
                refine pr_indexo (e := ty_3) (i := 2) Try.underlying23 rfl rfl rfl hS138 rfl hu170 ?_
                rintro p171 _ rfl hp172 ho173
                refine WH.one (i := 13) (by kernel_rfl) rfl ?_
                refine wl_storeo (i := 2) (o := 0) (vs := [(.int .i64 (w64 (u140 + u157)))]) (u' := (w64 (u140 + u157))) fl_3 tf_3 rfl rfl rfl rfl ho173 hu170 hB137 hS138 rfl rfl ⟨rfl, trivial⟩ rfl ?_
                intro w174 hk177 hB175 hS176
                have hSW178 := hSW139.wr' hk177.1 hk177.2.1 (fun _ _ h => List.mem_append_right _ h)
                refine WL.nil (WH.ret hSW178 ?_)
                refine WH.done (by kernel_rfl) ?_
                exact fun a ha => hJ122 ((seti u29.2.1 (w64 (x1 - 1)) (w64 (u140 + u157)))) (v32) (F33) _ hF hB175 (hS176.sel [4, 0, 2, 1] rfl) a (ha.sub ⟨rfl, rfl, rfl, trivial⟩)
          ·
            refine wl_load_blk (i := 1) (vs := [v32]) (v := v32) tf_23 rfl rfl hS138 rfl rfl rfl ?_
            refine WL.nil (WH.ret hSW139 ?_)
            obtain ⟨u179, hu179, hF⟩ := bindE hF
            obtain ⟨u180, hu180, hF⟩ := bindE hF
            refine WH.takex (i := 9) rfl (by kernel_rfl) (by kernel_rfl) (by kernel_rfl) hP hSW139 ?_
            refine pr_indexo (e := ty_3) (i := 2) Try.underlying23 rfl rfl rfl hS138 rfl hu180 ?_
            rintro p181 _ rfl hp182 ho183
            refine WH.many (is := [1, 10]) (by kernel_rfl) rfl ?_
            refine List.forall_mem_cons.2 ⟨⟨_, rfl, ?_⟩, List.forall_mem_cons.2 ⟨⟨_, rfl, ?_⟩, fun _ h => by cases h⟩⟩
            ·
              refine wl_load_blk (i := 1) (vs := [v32]) (v := v32) tf_23 rfl rfl hS138 rfl rfl rfl ?_
              refine WL.nil (WH.ret hSW139 ?_)
              refine WH.takex (i := 4) rfl (by kernel_rfl) (by kernel_rfl) (by kernel_rfl) hP hSW139 ?_
              refine pr_indexo (e := ty_3) (i := 2) Try.underlying23 rfl rfl rfl hS138 rfl hu179 ?_
              rintro p184 _ rfl hp185 ho186
              refine WH.many (is := [5, 10]) (by kernel_rfl) rfl ?_
              refine List.forall_mem_cons.2 ⟨⟨_, rfl, ?_⟩, List.forall_mem_cons.2 ⟨⟨_, rfl, ?_⟩, fun _ h => by cases h⟩⟩
              ·
                refine wl_load_p (vs := [(.int .i64 u179)]) (v := (.int .i64 u179)) tf_3 rfl rfl hp185 rfl rfl ?_
                refine WL.nil (WH.ret hSW139 ?_)
                refine WH.one (i := 10) (by kernel_rfl) rfl ?_
                refine wl_load_p (vs := [(.int .i64 u180)]) (v := (.int .i64 u180)) tf_3 rfl rfl hp182 rfl rfl ?_
                refine WL.nil (WH.ret hSW139 ?_)
                refine WH.takex (i := 11) rfl (by kernel_rfl) (by kernel_rfl) (by kernel_rfl) hP hSW139 ?_
                refine pr_add rfl rfl rfl ?_
                refine WH.takex (i := 12) rfl (by kernel_rfl) (by kernel_rfl) (by kernel_rfl) hP hSW139 ?_
                refine pr_indexo (e := ty_3) (i := 2) Try.underlying23 rfl rfl rfl hS138 rfl hu179 ?_
                rintro p187 _ rfl hp188 ho189
                refine WH.one (i := 13) (by kernel_rfl) rfl ?_
                refine wl_storeo (i := 2) (o := 0) (vs := [(.int .i64 (w64 (u179 + u180)))]) (u' := (w64 (u179 + u180))) fl_3 tf_3 rfl rfl rfl rfl ho189 hu179 hB137 hS138 rfl rfl ⟨rfl, trivial⟩ rfl ?_
                intro w190 hk193 hB191 hS192
                have hSW194 := hSW139.wr' hk193.1 hk193.2.1 (fun _ _ h => List.mem_append_right _ h)
                refine WL.nil (WH.ret hSW194 ?_)
                obtain ⟨u195, hu195, hF⟩ := bindE hF
                refine WH.done (by kernel_rfl) ?_
                exact fun a ha => hJ122 ((seti u29.2.1 (w64 (x1 - 1)) (w64 (u179 + u180)))) (v32) (F33) _ hF hB191 (hS192.sel [4, 0, 2, 1] rfl) a (ha.sub ⟨rfl, rfl, rfl, trivial⟩)
              ·
                refine wl_load_p (vs := [(.int .i64 u180)]) (v := (.int .i64 u180)) tf_3 rfl rfl hp182 rfl rfl ?_
                refine WL.nil (WH.ret hSW139 ?_)
                refine WH.one (i := 5) (by kernel_rfl) rfl ?_
                refine wl_load_p (vs := [(.int .i64 u179)]) (v := (.int .i64 u179)) tf_3 rfl rfl hp185 rfl rfl ?_
                refine WL.nil (WH.ret hSW139 ?_)
                refine WH.takex (i := 11) rfl (by kernel_rfl) (by kernel_rfl) (by kernel_rfl) hP hSW139 ?_
                refine pr_add rfl rfl rfl ?_
                refine WH.takex (i := 12) rfl (by kernel_rfl) (by kernel_rfl) (by kernel_rfl) hP hSW139 ?_
                refine pr_indexo (e := ty_3) (i := 2) Try.underlying23 rfl rfl rfl hS138 rfl hu179 ?_
                rintro p196 _ rfl hp197 ho198
                refine WH.one (i := 13) (by kernel_rfl) rfl ?_
                refine wl_storeo (i := 2) (o := 0) (vs := [(.int .i64 (w64 (u179 + u180)))]) (u' := (w64 (u179 + u180))) fl_3 tf_3 rfl rfl rfl rfl ho198 hu179 hB137 hS138 rfl rfl ⟨rfl, trivial⟩ rfl ?_
                intro w199 hk202 hB200 hS201
                have hSW203 := hSW139.wr' hk202.1 hk202.2.1 (fun _ _ h => List.mem_append_right _ h)
                refine WL.nil (WH.ret hSW203 ?_)
                obtain ⟨u204, hu204, hF⟩ := bindE hF
                refine WH.done (by kernel_rfl) ?_
                exact fun a ha => hJ122 ((seti u29.2.1 (w64 (x1 - 1)) (w64 (u179 + u180)))) (v32) (F33) _ hF hB200 (hS201.sel [4, 0, 2, 1] rfl) a (ha.sub ⟨rfl, rfl, rfl, trivial⟩)
            ·
              refine wl_load_p (vs := [(.int .i64 u180)]) (v := (.int .i64 u180)) tf_3 rfl rfl hp182 rfl rfl ?_
              refine WL.nil (WH.ret hSW139 ?_)
              refine WH.one (i := 1) (by kernel_rfl) rfl ?_
              refine wl_load_blk (i := 1) (vs := [v32]) (v := v32) tf_23 rfl rfl hS138 rfl rfl rfl ?_
              refine WL.nil (WH.ret hSW139 ?_)
              refine WH.takex (i := 4) rfl (by kernel_rfl) (by kernel_rfl) (by kernel_rfl) hP hSW139 ?_
              refine pr_indexo (e := ty_3) (i := 2) Try.underlying23 rfl rfl rfl hS138 rfl hu179 ?_
              rintro p205 _ rfl hp206 ho207
              refine WH.one (i := 5) (by kernel_rfl) rfl ?_
              refine wl_load_p (vs := [(.int .i64 u179)]) (v := (.int .i64 u179)) tf_3 rfl rfl hp206 rfl rfl ?_
              refine WL.nil (WH.ret hSW139 ?_)
              refine WH.takex (i := 11) rfl (by kernel_rfl) (by kernel_rfl) (by kernel_rfl) hP hSW139 ?_
              refine pr_add rfl rfl rfl ?_
              refine WH.takex (i := 12) rfl (by kernel_rfl) (by kernel_rfl) (by kernel_rfl) hP hSW139 ?_
              refine pr_indexo (e := ty_3) (i := 2) Try.underlying23 rfl rfl rfl hS138 rfl hu179 ?_
              rintro p208 _ rfl hp209 ho210
              refine WH.one (i := 13) (by kernel_rfl) rfl ?_
              refine wl_storeo (i := 2) (o := 0) (vs := [(.int .i64 (w64 (u179 + u180)))]) (u' := (w64 (u179 + u180))) fl_3 tf_3 rfl rfl rfl rfl ho210 hu179 hB137 hS138 rfl rfl ⟨rfl, trivial⟩ rfl ?_
              intro w211 hk214 hB212 hS213
              have hSW215 := hSW139.wr' hk214.1 hk214.2.1 (fun _ _ h => List.mem_append_right _ h)
              refine WL.nil (WH.ret hSW215 ?_)
              obtain ⟨u216, hu216, hF⟩ := bindE hF
              refine WH.done (by kernel_rfl) ?_
              exact fun a ha => hJ122 ((seti u29.2.1 (w64 (x1 - 1)) (w64 (u179 + u180)))) (v32) (F33) _ hF hB212 (hS213.sel [4, 0, 2, 1] rfl) a (ha.sub ⟨rfl, rfl, rfl, trivial⟩)
  refine W.region ?_
  refine wl_load_blk (i := 1) (vs := [v0_0, v0_1, (.int .i64 x0.2.2.1), (.int .i64 x0.2.2.2)]) (v := (.agg #[v0_0, v0_1, (.int .i64 x0.2.2.1), (.int .i64 x0.2.2.2)])) tf_31 rfl rfl hS11 rfl rfl rfl ?_
  obtain ⟨u217, hu217, hF⟩ := bindE hF
  refine wl_call rfl Try.call73 (C_impl_IsShow w8 x0 v0_0 (h0_0.ro hB10) v0_1 (h0_1.ro hB10) _ hu217) rfl ?_
  rintro _ w218 ⟨rfl, hb219⟩
  refine ⟨_, rfl, ?_⟩
  have hB220 := hB10.trans (hb219.mono hB10.size)
  have hS221 := hS11.below hb219
  refine wl_not rfl rfl ?_
  refine wl_move rfl rfl ?_
  rcases bE (!u217) with h223 | h223
  · replace hF := ifP h223 hF
    refine wl_off rfl rfl rfl h223 ?_
    refine wl_off rfl rfl rfl h223 ?_
    refine wl_off rfl rfl rfl h223 ?_
    refine wl_off rfl rfl rfl h223 ?_
    refine wl_off rfl rfl rfl h223 ?_
    refine wl_off rfl rfl rfl h223 ?_
    refine wl_off rfl rfl rfl h223 ?_
    refine wl_pick_t rfl rfl h223 rfl ?_
    refine WL.nil ?_
    exact fun a ha => hJ19 (true) _ hF hB220 (hS221.sel [1, 0] rfl) a (ha.sub ⟨rfl, rfl, rfl, rfl, trivial⟩)
  · replace hF := ifN h223 hF
    refine wl_on rfl rfl h223 ?_
    refine wl_move rfl rfl ?_
    refine wl_on rfl rfl h223 ?_
    refine wl_field (o := 0) (off' := 0) ff_31_0 rfl rfl rfl ?_
    refine wl_on rfl rfl h223 ?_
    refine wl_load_blk (i := 1) (vs := [v0_0]) (v := v0_0) tf_29 rfl rfl hS221 rfl rfl rfl ?_
    refine wl_on rfl rfl h223 ?_
    refine wl_lenr (e := ty_69) (l := x0.1) Try.underlying29 rfl rfl h0_0 ?_
    refine wl_on rfl rfl h223 ?_
    refine wl_sub rfl rfl rfl ?_
    refine wl_on rfl rfl h223 ?_
    obtain ⟨u224, hu224, hF⟩ := bindE hF
    refine wl_call rfl Try.call112 (C_impl_within w218 x1 0 (w64 ((List.length x0.1 : Int) - 1)) _ hu224) rfl ?_
    rintro _ w225 ⟨rfl, hb226⟩
    refine ⟨_, rfl, ?_⟩
    have hB227 := hB220.trans (hb226.mono hB220.size)
    have hS228 := hS221.below hb226
    refine wl_on rfl rfl h223 ?_
    refine wl_not rfl rfl ?_
    refine wl_pick_f rfl rfl h223 rfl ?_
    refine WL.nil ?_
    exact fun a ha => hJ19 ((!u224)) _ hF hB227 (hS228.sel [1, 0] rfl) a (ha.sub ⟨rfl, rfl, rfl, rfl, trivial⟩)
theorem C_laws_FnExactDropShowChart (w0 : World) (x0 : ((List (List (Int × Int))) × (List Int) × Int × Int)) (v0_0 : Value) (h0_0 : rdS ty_66 (· < w0.heap.size) w0 v0_0 x0.1) (v0_1 : Value) (h0_1 : rdS ty_3 (· < w0.heap.size) w0 v0_1 x0.2.1) (x1 : Int) (r : Bool) (hF : F_laws_FnExactDropShowChart x0 x1 = some r) :
    Calls Try.prog 13 [(.agg #[v0_0, v0_1, (.int .i64 x0.2.2.1), (.int .i64 x0.2.2.2)]), (.int .i64 x1)].toArray w0 fun e w' => e = .returned (.bool r) ∧ Below w0.heap.size w0 w' := by
  refine calls_mk' Try.func13 rfl Try.ntmps13 rfl rfl fun Q hQ hP => ?_
  have hB : Below w0.heap.size w0 w0 := Below.refl _ _
  have hS : Sep w0.heap.size w0 [] := Sep.nil _ _
  unfold F_laws_FnExactDropShowChart at hF
  refine W.seq fun K1 hK1 => ?_
  refine W.region ?_
  refine wl_box (cs := [v0_0, v0_1, (.int .i64 x0.2.2.1), (.int .i64 x0.2.2.2)]) rfl rfl rfl hB hS ?_
  intro b2 w3 hb4 hB5 hS6
  refine wl_assign rfl rfl ?_
  refine WL.nil ?_
  refine fun a ha => hK1 _ _ ?_ a ha
  refine W.seq fun K7 hK7 => ?_
  refine W.region ?_
  refine wl_assign rfl rfl ?_
  refine WL.nil ?_
  refine fun a ha => hK7 _ _ ?_ a ha
  refine W.seq fun K8 hK8 => ?_
  refine W.region ?_
  refine wl_load_blk (i := 0) (vs := [v0_0, v0_1, (.int .i64 x0.2.2.1), (.int .i64 x0.2.2.2)]) (v := (.agg #[v0_0, v0_1, (.int .i64 x0.2.2.1), (.int .i64 x0.2.2.2)])) tf_25 rfl rfl hS6 rfl rfl rfl ?_
  refine wl_move rfl rfl ?_
  obtain ⟨u9, hu9, hF⟩ := bindE hF
  refine wl_call rfl Try.call15 (C_laws_szShow w3 x0 v0_0 (h0_0.ro hB5) v0_1 (h0_1.ro hB5) 1048576 _ hu9) rfl ?_
  rintro _ w10 ⟨rfl, hb11⟩
  refine ⟨_, rfl, ?_⟩
  have hB12 := hB5.trans (hb11.mono hB5.size)
  have hS13 := hS6.below hb11
  refine wl_assign rfl rfl ?_
  refine WL.nil ?_
  refine fun a ha => hK8 _ _ ?_ a ha
  refine W.seq fun K15 hK15 => ?_
  refine W.seq fun K16 hK16 => ?_
  refine W.region ?_
  refine wl_move rfl rfl ?_
  refine wl_lss rfl rfl rfl ?_
  refine WL.nil ?_
  refine fun a ha => hK16 _ _ ?_ a ha
  refine W.cond rfl (fun h17 => ?_) (fun h17 => ?_)
  · replace hF := ifP h17 hF
    refine W.seq fun K18 hK18 => ?_
    refine W.region ?_
    refine wl_assign rfl rfl ?_
    refine WL.nil ?_
    refine fun a ha => hK18 _ _ ?_ a ha
    refine W.ret ?_
    have hr := Option.some.inj hF
    subst hr
    exact rets (vs := [(.bool true)]) hQ rfl ⟨rv_tmp rfl, trivial⟩ ⟨rfl, hB12⟩
  · replace hF := ifN h17 hF
    refine W.skip ?_
    refine fun a ha => hK15 _ _ ?_ a ha
    refine W.seq fun K19 hK19 => ?_
    refine W.region ?_
    refine wl_load_blk (i := 0) (vs := [v0_0, v0_1, (.int .i64 x0.2.2.1), (.int .i64 x0.2.2.2)]) (v := (.agg #[v0_0, v0_1, (.int .i64 x0.2.2.1), (.int .i64 x0.2.2.2)])) tf_25 rfl rfl hS13 rfl rfl rfl ?_
    obtain ⟨u20, hu20, hF⟩ := bindE hF
    refine wl_call rfl Try.call17 (C_laws_toShow w10 x0 v0_0 (h0_0.ro hB12) v0_1 (h0_1.ro hB12) _ hu20) rfl ?_
    rintro _ w25 ⟨v21, F22, v23, F24, rfl, hb26, hM29⟩
    refine ⟨_, rfl, ?_⟩
    have hB27 := hB12.trans (hb26.mono hB12.size)
    have hS28 := hS13.join hb26 hM29 hB12.size
    refine wl_move rfl rfl ?_
    obtain ⟨u30, hu30, hF⟩ := bindE hF
    refine wl_call rfl Try.call63 (C_spec_DropShowChart w25 u20 v21 (hS28.own_ro (i := 0) rfl) v23 (hS28.own_ro (i := 1) rfl) x1 _ hu30) rfl ?_
    rintro _ w35 ⟨v31, F32, v33, F34, rfl, hb36, hM39⟩
    refine ⟨_, rfl, ?_⟩
    have hB37 := hB27.trans (hb36.mono hB27.size)
    have hS38 := hS28.join hb36 hM39 hB27.size
    refine wl_move rfl rfl ?_
    refine wl_extract rfl rfl rfl ?_
    refine wl_extract rfl rfl rfl ?_
    refine wl_alloc (cs := [(.slice none 0 0), (.slice none 0 0), (.int .i64 0), (.int .i64 0)]) tf_31 rfl rfl hB37 hS38 ?_
    intro b40 w41 hb42 hB43 hS44
    refine wl_store_blk (i := 0) (vs := [v31, v33, (.int .i64 u30.1.2.2.1), (.int .i64 u30.1.2.2.2)]) (cs' := [v31, v33, (.int .i64 u30.1.2.2.1), (.int .i64 u30.1.2.2.2)]) tf_31 rfl rfl rfl rfl hB43 hS44 rfl rfl ⟨(hS44.own_ro (i := 1) rfl).one, (hS44.fr_ro (i := 2) rfl).one, rfl, rfl, trivial⟩ rfl ?_
    intro w45 hk48 hB46 hS47
    refine wl_assign rfl rfl ?_
    refine WL.nil ?_
    refine fun a ha => hK19 _ _ ?_ a ha
    refine W.seq fun K49 hK49 => ?_
    refine W.region ?_
    refine wl_load_blk (i := 5) (vs := [v0_0, v0_1, (.int .i64 x0.2.2.1), (.int .i64 x0.2.2.2)]) (v := (.agg #[v0_0, v0_1, (.int .i64 x0.2.2.1), (.int .i64 x0.2.2.2)])) tf_25 rfl rfl hS47 rfl rfl rfl ?_
    obtain ⟨u50, hu50, hF⟩ := bindE hF
    refine wl_call rfl Try.call17 (C_laws_toShow w45 x0 v0_0 (h0_0.ro hB46) v0_1 (h0_1.ro hB46) _ hu50) rfl ?_
    rintro _ w55 ⟨v51, F52, v53, F54, rfl, hb56, hM59⟩
    refine ⟨_, rfl, ?_⟩
    have hB57 := hB46.trans (hb56.mono hB46.size)
    have hS58 := hS47.join hb56 hM59 hB46.size
    refine wl_alloc (cs := [(.slice none 0 0), (.slice none 0 0), (.int .i64 0), (.int .i64 0)]) tf_31 rfl rfl hB57 hS58 ?_
    intro b60 w61 hb62 hB63 hS64
    refine wl_store_blk (i := 0) (vs := [v51, v53, (.int .i64 u50.2.2.1), (.int .i64 u50.2.2.2)]) (cs' := [v51, v53, (.int .i64 u50.2.2.1), (.int .i64 u50.2.2.2)]) tf_31 rfl rfl rfl rfl hB63 hS64 rfl rfl ⟨(hS64.own_ro (i := 1) rfl).one, (hS64.own_ro (i := 2) rfl).one, rfl, rfl, trivial⟩ rfl ?_
    intro w65 hk68 hB66 hS67
    refine WL.nil ?_
    refine fun a ha => hK49 _ _ ?_ a ha
    refine W.seq fun K69 hK69 => ?_
    refine W.region ?_
    refine wl_load_blk (i := 0) (vs := [v51, v53, (.int .i64 u50.2.2.1), (.int .i64 u50.2.2.2)]) (v := (.agg #[v51, v53, (.int .i64 u50.2.2.1), (.int .i64 u50.2.2.2)])) tf_31 rfl rfl hS67 rfl rfl rfl ?_
    refine wl_move rfl rfl ?_
    obtain ⟨u70, hu70, hF⟩ := bindE hF
    refine wl_call rfl Try.call64 (C_impl_DropShowChart w65 u50 v51 (hS67.own_ro (i := 1) rfl) v53 (hS67.own_ro (i := 2) rfl) x1 _ hu70) rfl ?_
    rintro _ w75 ⟨v71, F72, v73, F74, rfl, hb76, hM79⟩
    refine ⟨_, rfl, ?_⟩
    have hB77 := hB66.trans (hb76.mono hB66.size)
    have hS78 := hS67.join hb76 hM79 hB66.size
    refine wl_move rfl rfl ?_
    refine wl_extract rfl rfl rfl ?_
    refine wl_extract rfl rfl rfl ?_
    refine wl_alloc (cs := [(.slice none 0 0), (.slice none 0 0), (.int .i64 0), (.int .i64 0)]) tf_31 rfl rfl hB77 hS78 ?_
    intro b80 w81 hb82 hB83 hS84
    refine wl_store_blk (i := 0) (vs := [v71, v73, (.int .i64 u70.1.2.2.1), (.int .i64 u70.1.2.2.2)]) (cs' := [v71, v73, (.int .i64 u70.1.2.2.1), (.int .i64 u70.1.2.2.2)]) tf_31 rfl rfl rfl rfl hB83 hS84 rfl rfl ⟨(hS84.own_ro (i := 1) rfl).one, (hS84.own_ro (i := 2) rfl).one, rfl, rfl, trivial⟩ rfl ?_
    intro w85 hk88 hB86 hS87
    refine wl_assign rfl rfl ?_
    refine WL.nil ?_
    refine fun a ha => hK69 _ _ ?_ a ha
    refine W.seq fun K89 hK89 => ?_
    refine W.seq fun K90 hK90 => ?_
    obtain ⟨k98, hk98, hF⟩ := jE2 hF
    have hJ99 : ∀ (l94 : (List Int)) (y97 : Bool) (v95 : Value) (F96 : List Nat) (w91 : World) (_ : k98 l94 y97 = some r) (_ : Below w0.heap.size w0 w91) (_ : Sep w0.heap.size w91 [R.blk b2 25 [v0_0, v0_1, (.int .i64 x0.2.2.1), (.int .i64 x0.2.2.2)], R.own ty_69 F32 v31 u30.1.1, R.fr ty_3 F96 v95 l94, R.blk b40 31 [v31, v95, (.int .i64 u30.1.2.2.1), (.int .i64 u30.1.2.2.2)], R.own ty_69 F52 v51 u50.1, R.own ty_3 F54 v53 u50.2.1, R.blk b60 31 [v51, v53, (.int .i64 u50.2.2.1), (.int .i64 u50.2.2.2)], R.own ty_69 F72 v71 u70.1.1, R.own ty_3 F74 v73 u70.1.2.1, R.blk b80 31 [v71, v73, (.int .i64 u70.1.2.2.1), (.int .i64 u70.1.2.2.2)]]), ∀ a, St 101 [(1, (.int .i64 x1)), (2, (.pointer (some ⟨b2, 0, none⟩))), (6, (.pointer (some ⟨b40, 0, none⟩))), (7, (.bool u30.2)), (8, (.pointer (some ⟨b60, 0, none⟩))), (9, (.pointer (some ⟨b80, 0, none⟩))), (10, (.bool u70.2)), (44, (.bool y97))] a → K90 a w91 := by
      intro l94 y97 v95 F96 w91 hF hB92 hS93
      subst hk98
      refine fun a ha => hK90 _ _ ?_ a ha
      refine W.cond rfl (fun h100 => ?_) (fun h100 => ?_)
      · replace hF := ifP h100 hF
        refine W.seq fun K101 hK101 => ?_
        refine W.region ?_
        refine wl_assign rfl rfl ?_
        refine WL.nil ?_
        refine fun a ha => hK101 _ _ ?_ a ha
        refine W.ret ?_
        have hr := Option.some.inj hF
        subst hr
        exact rets (vs := [(.bool false)]) hQ rfl ⟨rv_tmp rfl, trivial⟩ ⟨rfl, hB92⟩
      · replace hF := ifN h100 hF
        refine W.skip ?_
        refine fun a ha => hK89 _ _ ?_ a ha
        refine W.seq fun K102 hK102 => ?_
        refine W.seq fun K103 hK103 => ?_
        refine W.regionH mixed_ [] hB92 hS93 ?_
        intro w104 hb105 hB106 hS107
        have hSW108 := KeepX.refl w104 []
        refine WH.takex (i := 0) rfl (by kernel_rfl) (by kernel_rfl) (by kernel_rfl) hP hSW108 ?_
        refine pr_load_blk (i := 6) (vs := [v51, v53, (.int .i64 u50.2.2.1), (.int .i64 u50.2.2.2)]) (v := (.agg #[v51, v53, (.int .i64 u50.2.2.1), (.int .i64 u50.2.2.2)])) tf_31 rfl rfl hS107 rfl rfl rfl (by simp) ?_
        refine WH.takex (i := 1) rfl (by kernel_rfl) (by kernel_rfl) (by kernel_rfl) hP hSW108 ?_
        refine pr_load_blk (i := 0) (vs := [v0_0, v0_1, (.int .i64 x0.2.2.1), (.int .i64 x0.2.2.2)]) (v := (.agg #[v0_0, v0_1, (.int .i64 x0.2.2.1), (.int .i64 x0.2.2.2)])) tf_25 rfl rfl hS107 rfl rfl rfl (by simp) ?_
        refine WH.one (i := 2) (by kernel_rfl) rfl ?_
        obtain ⟨u109, hu109, hF⟩ := bindE hF
        refine wl_call rfl Try.call17 (C_laws_toShow w104 x0 v0_0 (h0_0.ro hB106) v0_1 (h0_1.ro hB106) _ hu109) rfl ?_
        rintro _ w114 ⟨v110, F111, v112, F113, rfl, hb115, hM118⟩
        refine ⟨_, rfl, ?_⟩
        have hB116 := hB106.trans (hb115.mono hB106.size)
        have hS117 := hS107.join hb115 hM118 hB106.size
        have hSW119 := hSW108.ext hb115
        refine WL.nil (WH.ret hSW119 ?_)
        refine WH.one (i := 3) (by kernel_rfl) rfl ?_
        obtain ⟨u120, hu120, hF⟩ := bindE hF
        refine wl_call rfl Try.call20 (C_laws_eqShow w114 u50 v51 (hS117.own_ro (i := 6) rfl) v53 (hS117.own_ro (i := 7) rfl) u109 v110 (hS117.own_ro (i := 0) rfl) v112 (hS117.own_ro (i := 1) rfl) _ hu120) rfl ?_
        rintro _ w121 ⟨rfl, hb122⟩
        refine ⟨_, rfl, ?_⟩
        have hB123 := hB116.trans (hb122.mono hB116.size)
        have hS124 := hS117.below hb122
        have hSW126 := hSW119.ext hb122
        refine WL.nil (WH.ret hSW126 ?_)
        refine WH.takex (i := 4) rfl (by kernel_rfl) (by kernel_rfl) (by kernel_rfl) hP hSW126 ?_
        refine pr_not rfl rfl ?_
        refine WH.done (by kernel_rfl) ?_
        refine fun a ha => hK103 _ _ ?_ a ha
        refine W.cond rfl (fun h127 => ?_) (fun h127 => ?_)
        · replace hF := ifP h127 hF
          refine W.seq fun K128 hK128 => ?_
          refine W.region ?_
          refine wl_assign rfl rfl ?_
          refine WL.nil ?_
          refine fun a ha => hK128 _ _ ?_ a ha
          refine W.ret ?_
          have hr := Option.some.inj hF
          subst hr
          exact rets (vs := [(.bool false)]) hQ rfl ⟨rv_tmp rfl, trivial⟩ ⟨rfl, hB123⟩
        · replace hF := ifN h127 hF
          refine W.skip ?_
          refine fun a ha => hK102 _ _ ?_ a ha
          refine W.seq fun K129 hK129 => ?_
          refine W.region ?_
          refine wl_assign rfl rfl ?_
          refine WL.nil ?_
          refine fun a ha => hK129 _ _ ?_ a ha
          refine W.seq fun K130 hK130 => ?_
          refine W.region ?_
          refine wl_load_blk (i := 8) (vs := [v51, v53, (.int .i64 u50.2.2.1), (.int .i64 u50.2.2.2)]) (v := (.agg #[v51, v53, (.int .i64 u50.2.2.1), (.int .i64 u50.2.2.2)])) tf_31 rfl rfl hS124 rfl rfl rfl ?_
          refine wl_move rfl rfl ?_
          obtain ⟨u131, hu131, hF⟩ := bindE hF
          refine wl_call rfl Try.call21 (C_laws_markShow w121 u50 v51 F52 v53 F54 1 (hS124.sel [6, 7] rfl).base0 _ hu131) rfl ?_
          rintro _ w132 ⟨rfl, hE133, hM134⟩
          refine ⟨_, rfl, ?_⟩
          have hB135 := hS124.mutB [6, 7] rfl (M := [R.own ty_69 F52 v51 u50.1, R.own ty_3 F54 v53 u50.2.1]) rfl (M' := [R.own ty_69 F52 v51 u131.2.1, R.own ty_3 F54 v53 u131.2.2.1]) rfl hB123 hB123.size hE133 hM134
          have hS136 : Sep w0.heap.size w132 [R.own ty_69 F52 v51 u131.2.1, R.own ty_3 F54 v53 u131.2.2.1, R.own ty_69 F111 v110 u109.1, R.own ty_3 F113 v112 u109.2.1, R.blk b2 25 [v0_0, v0_1, (.int .i64 x0.2.2.1), (.int .i64 x0.2.2.2)], R.own ty_69 F32 v31 u30.1.1, R.fr ty_3 F96 v95 l94, R.blk b40 31 [v31, v95, (.int .i64 u30.1.2.2.1), (.int .i64 u30.1.2.2.2)], R.blk b60 31 [v51, v53, (.int .i64 u50.2.2.1), (.int .i64 u50.2.2.2)], R.own ty_69 F72 v71 u70.1.1, R.own ty_3 F74 v73 u70.1.2.1, R.blk b80 31 [v71, v73, (.int .i64 u70.1.2.2.1), (.int .i64 u70.1.2.2.2)]] := hS124.mut [6, 7] [0, 1, 2, 3, 4, 5, 8, 9, 10, 11] rfl (M := [R.own ty_69 F52 v51 u50.1, R.own ty_3 F54 v53 u50.2.1]) rfl (M' := [R.own ty_69 F52 v51 u131.2.1, R.own ty_3 F54 v53 u131.2.2.1]) rfl hM134
          refine wl_assign rfl rfl ?_
          refine WL.nil ?_
          refine fun a ha => hK130 _ _ ?_ a ha
          refine W.seq fun K137 hK137 => ?_
          refine W.seq fun K138 hK138 => ?_
          obtain ⟨k146, hk146, hF⟩ := jE2 hF
          have hJ147 : ∀ (l142 : (List Int)) (y145 : Bool) (v143 : Value) (F144 : List Nat) (w139 : World) (_ : k146 l142 y145 = some r) (_ : Below w0.heap.size w0 w139) (_ : Sep w0.heap.size w139 [R.blk b2 25 [v0_0, v0_1, (.int .i64 x0.2.2.1), (.int .i64 x0.2.2.2)], R.own ty_69 F32 v31 u30.1.1, R.fr ty_3 F144 v143 l142, R.blk b40 31 [v31, v143, (.int .i64 u30.1.2.2.1), (.int .i64 u30.1.2.2.2)], R.own ty_69 F72 v71 u70.1.1, R.own ty_3 F74 v73 u70.1.2.1, R.blk b80 31 [v71, v73, (.int .i64 u70.1.2.2.1), (.int .i64 u70.1.2.2.2)]]), ∀ a, St 101 [(1, (.int .i64 x1)), (2, (.pointer (some ⟨b2, 0, none⟩))), (6, (.pointer (some ⟨b40, 0, none⟩))), (7, (.bool u30.2)), (9, (.pointer (some ⟨b80, 0, none⟩))), (65, (.bool y145))] a → K138 a w139 := by
            intro l142 y145 v143 F144 w139 hF hB140 hS141
            subst hk146
            refine fun a ha => hK138 _ _ ?_ a ha
            refine W.cond rfl (fun h148 => ?_) (fun h148 => ?_)
            · replace hF := ifP h148 hF
              refine W.seq fun K149 hK149 => ?_
              refine W.region ?_
              refine wl_assign rfl rfl ?_
              refine WL.nil ?_
              refine fun a ha => hK149 _ _ ?_ a ha
              refine W.ret ?_
              have hr := Option.some.inj hF
              subst hr
              exact rets (vs := [(.bool false)]) hQ rfl ⟨rv_tmp rfl, trivial⟩ ⟨rfl, hB140⟩
            · replace hF := ifN h148 hF
              refine W.skip ?_
              refine fun a ha => hK137 _ _ ?_ a ha
              refine W.seq fun K150 hK150 => ?_
              refine W.region ?_
              refine wl_assign rfl rfl ?_
              refine WL.nil ?_
              refine fun a ha => hK150 _ _ ?_ a ha
              refine W.seq fun K151 hK151 => ?_
              refine W.region ?_
              refine wl_load_blk (i := 6) (vs := [v71, v73, (.int .i64 u70.1.2.2.1), (.int .i64 u70.1.2.2.2)]) (v := (.agg #[v71, v73, (.int .i64 u70.1.2.2.1), (.int .i64 u70.1.2.2.2)])) tf_31 rfl rfl hS141 rfl rfl rfl ?_
              refine wl_move rfl rfl ?_
              obtain ⟨u152, hu152, hF⟩ := bindE hF
              refine wl_call rfl Try.call21 (C_laws_markShow w139 u70.1 v71 F72 v73 F74 1 (hS141.sel [4, 5] rfl).base0 _ hu152) rfl ?_
              rintro _ w153 ⟨rfl, hE154, hM155⟩
              refine ⟨_, rfl, ?_⟩
              have hB156 := hS141.mutB [4, 5] rfl (M := [R.own ty_69 F72 v71 u70.1.1, R.own ty_3 F74 v73 u70.1.2.1]) rfl (M' := [R.own ty_69 F72 v71 u152.2.1, R.own ty_3 F74 v73 u152.2.2.1]) rfl hB140 hB140.size hE154 hM155
              have hS157 : Sep w0.heap.size w153 [R.own ty_69 F72 v71 u152.2.1, R.own ty_3 F74 v73 u152.2.2.1, R.blk b2 25 [v0_0, v0_1, (.int .i64 x0.2.2.1), (.int .i64 x0.2.2.2)], R.own ty_69 F32 v31 u30.1.1, R.fr ty_3 F144 v143 l142, R.blk b40 31 [v31, v143, (.int .i64 u30.1.2.2.1), (.int .i64 u30.1.2.2.2)], R.blk b80 31 [v71, v73, (.int .i64 u70.1.2.2.1), (.int .i64 u70.1.2.2.2)]] := hS141.mut [4, 5] [0, 1, 2, 3, 6] rfl (M := [R.own ty_69 F72 v71 u70.1.1, R.own ty_3 F74 v73 u70.1.2.1]) rfl (M' := [R.own ty_69 F72 v71 u152.2.1, R.own ty_3 F74 v73 u152.2.2.1]) rfl hM155
              refine wl_assign rfl rfl ?_
              refine WL.nil ?_
              refine fun a ha => hK151 _ _ ?_ a ha
              refine W.seq fun K158 hK158 => ?_
              refine W.region ?_
              refine wl_assign rfl rfl ?_
              refine WL.nil ?_
              refine fun a ha => hK158 _ _ ?_ a ha
              refine W.seq fun K159 hK159 => ?_
              refine W.region ?_
              refine wl_load_blk (i := 6) (vs := [v71, v73, (.int .i64 u70.1.2.2.1), (.int .i64 u70.1.2.2.2)]) (v := (.agg #[v71, v73, (.int .i64 u70.1.2.2.1), (.int .i64 u70.1.2.2.2)])) tf_31 rfl rfl hS157 rfl rfl rfl ?_
              refine wl_move rfl rfl ?_
              obtain ⟨u160, hu160, hF⟩ := bindE hF
              refine wl_call rfl Try.call43 (C_laws_heldShow w153 (u152.2.1, u152.2.2.1, u70.1.2.2.1, u70.1.2.2.2) v71 (hS157.own_ro (i := 0) rfl) v73 (hS157.own_ro (i := 1) rfl) 1 _ hu160) rfl ?_
              rintro _ w161 ⟨rfl, hb162⟩
              refine ⟨_, rfl, ?_⟩
              have hB163 := hB156.trans (hb162.mono hB156.size)
              have hS164 := hS157.below hb162
              refine wl_assign rfl rfl ?_
              refine WL.nil ?_
              refine fun a ha => hK159 _ _ ?_ a ha
              refine W.seq fun K166 hK166 => ?_
              refine W.seq fun K167 hK167 => ?_
              refine W.region ?_
              refine wl_move rfl rfl ?_
              refine wl_lss rfl rfl rfl ?_
              refine WL.nil ?_
              refine fun a ha => hK167 _ _ ?_ a ha
              refine W.cond rfl (fun h168 => ?_) (fun h168 => ?_)
              · replace hF := ifP h168 hF
                refine W.seq fun K169 hK169 => ?_
                refine W.region ?_
                refine wl_assign rfl rfl ?_
                refine WL.nil ?_
                refine fun a ha => hK169 _ _ ?_ a ha
                refine W.ret ?_
                have hr := Option.some.inj hF
                subst hr
                exact rets (vs := [(.bool false)]) hQ rfl ⟨rv_tmp rfl, trivial⟩ ⟨rfl, hB163⟩
              · replace hF := ifN h168 hF
                refine W.skip ?_
                refine fun a ha => hK166 _ _ ?_ a ha
                refine W.seq fun K170 hK170 => ?_
                refine W.seq fun K171 hK171 => ?_
                refine W.region ?_
                refine wl_move rfl rfl ?_
                refine wl_move rfl rfl ?_
                refine wl_neq rfl rfl rfl ?_
                refine WL.nil ?_
                refine fun a ha => hK171 _ _ ?_ a ha
                refine W.cond rfl (fun h172 => ?_) (fun h172 => ?_)
                · replace hF := ifP h172 hF
                  refine W.seq fun K173 hK173 => ?_
                  refine W.region ?_
                  refine wl_assign rfl rfl ?_
                  refine WL.nil ?_
                  refine fun a ha => hK173 _ _ ?_ a ha
                  refine W.ret ?_
                  have hr := Option.some.inj hF
                  subst hr
                  exact rets (vs := [(.bool false)]) hQ rfl ⟨rv_tmp rfl, trivial⟩ ⟨rfl, hB163⟩
                · replace hF := ifN h172 hF
                  refine W.skip ?_
                  refine fun a ha => hK170 _ _ ?_ a ha
                  refine W.seq fun K174 hK174 => ?_
                  refine W.region ?_
                  refine wl_load_blk (i := 2) (vs := [v0_0, v0_1, (.int .i64 x0.2.2.1), (.int .i64 x0.2.2.2)]) (v := (.agg #[v0_0, v0_1, (.int .i64 x0.2.2.1), (.int .i64 x0.2.2.2)])) tf_25 rfl rfl hS164 rfl rfl rfl ?_
                  obtain ⟨u175, hu175, hF⟩ := bindE hF
                  refine wl_call rfl Try.call17 (C_laws_toShow w161 x0 v0_0 (h0_0.ro hB163) v0_1 (h0_1.ro hB163) _ hu175) rfl ?_
                  rintro _ w180 ⟨v176, F177, v178, F179, rfl, hb181, hM184⟩
                  refine ⟨_, rfl, ?_⟩
                  have hB182 := hB163.trans (hb181.mono hB163.size)
                  have hS183 := hS164.join hb181 hM184 hB163.size
                  refine wl_move rfl rfl ?_
                  obtain ⟨u185, hu185, hF⟩ := bindE hF
                  refine wl_call rfl Try.call64 (C_impl_DropShowChart w180 u175 v176 (hS183.own_ro (i := 0) rfl) v178 (hS183.own_ro (i := 1) rfl) x1 _ hu185) rfl ?_
                  rintro _ w190 ⟨v186, F187, v188, F189, rfl, hb191, hM194⟩
                  refine ⟨_, rfl, ?_⟩
                  have hB192 := hB182.trans (hb191.mono hB182.size)
                  have hS193 := hS183.join hb191 hM194 hB182.size
                  refine wl_move rfl rfl ?_
                  refine wl_extract rfl rfl rfl ?_
                  refine wl_extract rfl rfl rfl ?_
                  refine wl_alloc (cs := [(.slice none 0 0), (.slice none 0 0), (.int .i64 0), (.int .i64 0)]) tf_31 rfl rfl hB192 hS193 ?_
                  intro b195 w196 hb197 hB198 hS199
                  refine wl_store_blk (i := 0) (vs := [v186, v188, (.int .i64 u185.1.2.2.1), (.int .i64 u185.1.2.2.2)]) (cs' := [v186, v188, (.int .i64 u185.1.2.2.1), (.int .i64 u185.1.2.2.2)]) tf_31 rfl rfl rfl rfl hB198 hS199 rfl rfl ⟨(hS199.own_ro (i := 1) rfl).one, (hS199.own_ro (i := 2) rfl).one, rfl, rfl, trivial⟩ rfl ?_
                  intro w200 hk203 hB201 hS202
                  refine wl_assign rfl rfl ?_
                  refine WL.nil ?_
                  refine fun a ha => hK174 _ _ ?_ a ha
                  refine W.seq fun K204 hK204 => ?_
                  refine W.seq fun K205 hK205 => ?_
                  obtain ⟨k210, hk210, hF⟩ := jE1 hF
                  have hJ211 : ∀ (y209 : Bool) (w206 : World) (_ : k210 y209 = some r) (_ : Below w0.heap.size w0 w206) (_ : Sep w0.heap.size w206 [R.own ty_69 F72 v71 u152.2.1, R.own ty_3 F74 v73 u152.2.2.1, R.blk b80 31 [v71, v73, (.int .i64 u70.1.2.2.1), (.int .i64 u70.1.2.2.2)]]), ∀ a, St 101 [(9, (.pointer (some ⟨b80, 0, none⟩))), (12, (.int .i64 u152.1)), (92, (.bool y209))] a → K205 a w206 := by
                    intro y209 w206 hF hB207 hS208
                    subst hk210
                    refine fun a ha => hK205 _ _ ?_ a ha
                    refine W.cond rfl (fun h212 => ?_) (fun h212 => ?_)
                    · replace hF := ifP h212 hF
                      refine W.seq fun K213 hK213 => ?_
                      refine W.region ?_
                      refine wl_assign rfl rfl ?_
                      refine WL.nil ?_
                      refine fun a ha => hK213 _ _ ?_ a ha
                      refine W.ret ?_
                      have hr := Option.some.inj hF
                      subst hr
                      exact rets (vs := [(.bool false)]) hQ rfl ⟨rv_tmp rfl, trivial⟩ ⟨rfl, hB207⟩
                    · replace hF := ifN h212 hF
                      refine W.skip ?_
                      refine fun a ha => hK204 _ _ ?_ a ha
                      refine W.seq fun K214 hK214 => ?_
                      refine W.region ?_
                      refine wl_assign rfl rfl ?_
                      refine WL.nil ?_
                      refine fun a ha => hK214 _ _ ?_ a ha
                      refine W.seq fun K215 hK215 => ?_
                      refine W.region ?_
                      refine wl_load_blk (i := 2) (vs := [v71, v73, (.int .i64 u70.1.2.2.1), (.int .i64 u70.1.2.2.2)]) (v := (.agg #[v71, v73, (.int .i64 u70.1.2.2.1), (.int .i64 u70.1.2.2.2)])) tf_31 rfl rfl hS208 rfl rfl rfl ?_
                      refine wl_move rfl rfl ?_
                      obtain ⟨u216, hu216, hF⟩ := bindE hF
                      refine wl_call rfl Try.call43 (C_laws_heldShow w206 (u152.2.1, u152.2.2.1, u70.1.2.2.1, u70.1.2.2.2) v71 (hS208.own_ro (i := 0) rfl) v73 (hS208.own_ro (i := 1) rfl) 1 _ hu216) rfl ?_
                      rintro _ w217 ⟨rfl, hb218⟩
                      refine ⟨_, rfl, ?_⟩
                      have hB219 := hB207.trans (hb218.mono hB207.size)
                      have hS220 := hS208.below hb218
                      refine wl_assign rfl rfl ?_
                      refine WL.nil ?_
                      refine fun a ha => hK215 _ _ ?_ a ha
                      refine W.seq fun K222 hK222 => ?_
                      refine W.seq fun K223 hK223 => ?_
                      refine W.region ?_
                      refine wl_move rfl rfl ?_
                      refine wl_lss rfl rfl rfl ?_
                      refine WL.nil ?_
                      refine fun a ha => hK223 _ _ ?_ a ha
                      refine W.cond rfl (fun h224 => ?_) (fun h224 => ?_)
                      · replace hF := ifP h224 hF
                        refine W.seq fun K225 hK225 => ?_
                        refine W.region ?_
                        refine wl_assign rfl rfl ?_
                        refine WL.nil ?_
                        refine fun a ha => hK225 _ _ ?_ a ha
                        refine W.ret ?_
                        have hr := Option.some.inj hF
                        subst hr
                        exact rets (vs := [(.bool false)]) hQ rfl ⟨rv_tmp rfl, trivial⟩ ⟨rfl, hB219⟩
                      · replace hF := ifN h224 hF
                        refine W.skip ?_
                        refine fun a ha => hK222 _ _ ?_ a ha
                        refine W.seq fun K226 hK226 => ?_
                        refine W.seq fun K227 hK227 => ?_
                        refine W.region ?_
                        refine wl_move rfl rfl ?_
                        refine wl_move rfl rfl ?_
                        refine wl_neq rfl rfl rfl ?_
                        refine WL.nil ?_
                        refine fun a ha => hK227 _ _ ?_ a ha
                        refine W.cond rfl (fun h228 => ?_) (fun h228 => ?_)
                        · replace hF := ifP h228 hF
                          refine W.seq fun K229 hK229 => ?_
                          refine W.region ?_
                          refine wl_assign rfl rfl ?_
                          refine WL.nil ?_
                          refine fun a ha => hK229 _ _ ?_ a ha
                          refine W.ret ?_
                          have hr := Option.some.inj hF
                          subst hr
                          exact rets (vs := [(.bool false)]) hQ rfl ⟨rv_tmp rfl, trivial⟩ ⟨rfl, hB219⟩
                        · replace hF := ifN h228 hF
                          refine W.skip ?_
                          refine fun a ha => hK226 _ _ ?_ a ha
                          refine W.seq fun K230 hK230 => ?_
                          refine W.region ?_
                          refine wl_assign rfl rfl ?_
                          refine WL.nil ?_
                          refine fun a ha => hK230 _ _ ?_ a ha
                          refine W.ret ?_
                          have hr := Option.some.inj hF
                          subst hr
                          exact rets (vs := [(.bool true)]) hQ rfl ⟨rv_tmp rfl, trivial⟩ ⟨rfl, hB219⟩
                  refine W.region ?_
                  refine wl_load_blk (i := 0) (vs := [v186, v188, (.int .i64 u185.1.2.2.1), (.int .i64 u185.1.2.2.2)]) (v := (.agg #[v186, v188, (.int .i64 u185.1.2.2.1), (.int .i64 u185.1.2.2.2)])) tf_31 rfl rfl hS202 rfl rfl rfl ?_
                  refine wl_load_blk (i := 10) (vs := [v31, v143, (.int .i64 u30.1.2.2.1), (.int .i64 u30.1.2.2.2)]) (v := (.agg #[v31, v143, (.int .i64 u30.1.2.2.1), (.int .i64 u30.1.2.2.2)])) tf_31 rfl rfl hS202 rfl rfl rfl ?_
                  obtain ⟨u231, hu231, hF⟩ := bindE hF
                  refine wl_call rfl Try.call20 (C_laws_eqShow w200 u185.1 v186 (hS202.own_ro (i := 1) rfl) v188 (hS202.own_ro (i := 2) rfl) (u30.1.1, l142, u30.1.2.2.1, u30.1.2.2.2) v31 (hS202.own_ro (i := 8) rfl) v143 (hS202.fr_ro (i := 9) rfl) _ hu231) rfl ?_
                  rintro _ w232 ⟨rfl, hb233⟩
                  refine ⟨_, rfl, ?_⟩
                  have hB234 := hB201.trans (hb233.mono hB201.size)
                  have hS235 := hS202.below hb233
                  refine wl_not rfl rfl ?_
                  refine wl_move rfl rfl ?_
                  rcases bE (!u231) with h237 | h237
                  · replace hF := ifP h237 hF
                    refine wl_off rfl rfl rfl h237 ?_
                    refine wl_off rfl rfl rfl h237 ?_
                    refine wl_off rfl rfl rfl h237 ?_
                    refine wl_pick_t rfl rfl h237 rfl ?_
                    refine WL.nil ?_
                    exact fun a ha => hJ211 (true) _ hF hB234 (hS235.sel [5, 6, 11] rfl) a (ha.sub ⟨rfl, rfl, rfl, trivial⟩)
                  · replace hF := ifN h237 hF
                    refine wl_on rfl rfl h237 ?_
                    refine wl_move rfl rfl ?_
                    refine wl_on rfl rfl h237 ?_
                    refine wl_move rfl rfl ?_
                    refine wl_on rfl rfl h237 ?_
                    refine wl_neqb Try.underlying4 rfl rfl rfl ?_
                    refine wl_pick_f rfl rfl h237 rfl ?_
                    refine WL.nil ?_
                    exact fun a ha => hJ211 ((u185.2 != u30.2)) _ hF hB234 (hS235.sel [5, 6, 11] rfl) a (ha.sub ⟨rfl, rfl, rfl, trivial⟩)
          refine W.region ?_
          refine wl_move rfl rfl ?_
          refine wl_lss rfl rfl rfl ?_
          refine wl_move rfl rfl ?_
          rcases bE (decide (u131.1 < 0)) with h238 | h238
          · replace hF := ifP h238 hF
            refine wl_off rfl rfl rfl h238 ?_
            refine wl_off rfl rfl rfl h238 ?_
            refine wl_off rfl rfl rfl h238 ?_
            refine wl_off rfl rfl rfl h238 ?_
            refine wl_pick_t rfl rfl h238 rfl ?_
            refine wl_move rfl rfl ?_
            refine wl_off rfl rfl rfl rfl ?_
            refine wl_off rfl rfl rfl rfl ?_
            refine wl_off rfl rfl rfl rfl ?_
            refine wl_pick_t rfl rfl rfl rfl ?_
            refine WL.nil ?_
            exact fun a ha => hJ147 (l94) (true) (v95) (F96) _ hF hB135 (hS136.sel [4, 5, 6, 7, 9, 10, 11] rfl) a (ha.sub ⟨rfl, rfl, rfl, rfl, rfl, rfl, trivial⟩)
          · replace hF := ifN h238 hF
            refine wl_on rfl rfl h238 ?_
            refine wl_load_blk (i := 11) (vs := [v71, v73, (.int .i64 u70.1.2.2.1), (.int .i64 u70.1.2.2.2)]) (v := (.agg #[v71, v73, (.int .i64 u70.1.2.2.1), (.int .i64 u70.1.2.2.2)])) tf_31 rfl rfl hS136 rfl rfl rfl ?_
            refine wl_on rfl rfl h238 ?_
            refine wl_load_blk (i := 7) (vs := [v31, v95, (.int .i64 u30.1.2.2.1), (.int .i64 u30.1.2.2.2)]) (v := (.agg #[v31, v95, (.int .i64 u30.1.2.2.1), (.int .i64 u30.1.2.2.2)])) tf_31 rfl rfl hS136 rfl rfl rfl ?_
            refine wl_on rfl rfl h238 ?_
            obtain ⟨u239, hu239, hF⟩ := bindE hF
            refine wl_call rfl Try.call20 (C_laws_eqShow w132 u70.1 v71 (hS136.own_ro (i := 9) rfl) v73 (hS136.own_ro (i := 10) rfl) (u30.1.1, l94, u30.1.2.2.1, u30.1.2.2.2) v31 (hS136.own_ro (i := 5) rfl) v95 (hS136.fr_ro (i := 6) rfl) _ hu239) rfl ?_
            rintro _ w240 ⟨rfl, hb241⟩
            refine ⟨_, rfl, ?_⟩
            have hB242 := hB135.trans (hb241.mono hB135.size)
            have hS243 := hS136.below hb241
            refine wl_on rfl rfl h238 ?_
            refine wl_not rfl rfl ?_
            refine wl_pick_f rfl rfl h238 rfl ?_
            refine wl_move rfl rfl ?_
            rcases bE (!u239) with h245 | h245
            · replace hF := ifP h245 hF
              refine wl_off rfl rfl rfl h245 ?_
              refine wl_off rfl rfl rfl h245 ?_
              refine wl_off rfl rfl rfl h245 ?_
              refine wl_pick_t rfl rfl h245 rfl ?_
              refine WL.nil ?_
              exact fun a ha => hJ147 (l94) (true) (v95) (F96) _ hF hB242 (hS243.sel [4, 5, 6, 7, 9, 10, 11] rfl) a (ha.sub ⟨rfl, rfl, rfl, rfl, rfl, rfl, trivial⟩)
            · replace hF := ifN h245 hF
              refine wl_on rfl rfl h245 ?_
              refine wl_move rfl rfl ?_
              refine wl_on rfl rfl h245 ?_
              refine wl_move rfl rfl ?_
              refine wl_on rfl rfl h245 ?_
              refine wl_neqb Try.underlying4 rfl rfl rfl ?_
              refine wl_pick_f rfl rfl h245 rfl ?_
              refine WL.nil ?_
              exact fun a ha => hJ147 (l94) ((u70.2 != u30.2)) (v95) (F96) _ hF hB242 (hS243.sel [4, 5, 6, 7, 9, 10, 11] rfl) a (ha.sub ⟨rfl, rfl, rfl, rfl, rfl, rfl, trivial⟩)
    refine W.region ?_
    refine wl_load_blk (i := 0) (vs := [v71, v73, (.int .i64 u70.1.2.2.1), (.int .i64 u70.1.2.2.2)]) (v := (.agg #[v71, v73, (.int .i64 u70.1.2.2.1), (.int .i64 u70.1.2.2.2)])) tf_31 rfl rfl hS87 rfl rfl rfl ?_
    refine wl_load_blk (i := 6) (vs := [v31, v33, (.int .i64 u30.1.2.2.1), (.int .i64 u30.1.2.2.2)]) (v := (.agg #[v31, v33, (.int .i64 u30.1.2.2.1), (.int .i64 u30.1.2.2.2)])) tf_31 rfl rfl hS87 rfl rfl rfl ?_
    obtain ⟨u246, hu246, hF⟩ := bindE hF
    refine wl_call rfl Try.call20 (C_laws_eqShow w85 u70.1 v71 (hS87.own_ro (i := 1) rfl) v73 (hS87.own_ro (i := 2) rfl) u30.1 v31 (hS87.own_ro (i := 7) rfl) v33 (hS87.fr_ro (i := 8) rfl) _ hu246) rfl ?_
    rintro _ w247 ⟨rfl, hb248⟩
    refine ⟨_, rfl, ?_⟩
    have hB249 := hB86.trans (hb248.mono hB86.size)
    have hS250 := hS87.below hb248
    refine wl_not rfl rfl ?_
    refine wl_move rfl rfl ?_
    rcases bE (!u246) with h252 | h252
    · replace hF := ifP h252 hF
      refine wl_off rfl rfl rfl h252 ?_
      refine wl_off rfl rfl rfl h252 ?_
      refine wl_off rfl rfl rfl h252 ?_
      refine wl_pick_t rfl rfl h252 rfl ?_
      refine WL.nil ?_
      exact fun a ha => hJ99 (u30.1.2.1) (true) (v33) (F34) _ hF hB249 (hS250.sel [11, 7, 8, 6, 4, 5, 3, 1, 2, 0] rfl) a (ha.sub ⟨rfl, rfl, rfl, rfl, rfl, rfl, rfl, rfl, trivial⟩)
    · replace hF := ifN h252 hF
      refine wl_on rfl rfl h252 ?_
      refine wl_move rfl rfl ?_
      refine wl_on rfl rfl h252 ?_
      refine wl_move rfl rfl ?_
      refine wl_on rfl rfl h252 ?_
      refine wl_neqb Try.underlying4 rfl rfl rfl ?_
      refine wl_pick_f rfl rfl h252 rfl ?_
      refine WL.nil ?_
      exact fun a ha => hJ99 (u30.1.2.1) ((u70.2 != u30.2)) (v33) (F34) _ hF hB249 (hS250.sel [11, 7, 8, 6, 4, 5, 3, 1, 2, 0] rfl) a (ha.sub ⟨rfl, rfl, rfl, rfl, rfl, rfl, rfl, rfl, trivial⟩)
end Go.Proofs.Ytadklddedeoniaa
